import Derived.Test.YtgipbhfblmblcaaMember2
import Derived.Test.YtgipbhfblmblcaaPBlind2
set_option maxHeartbeats 8000000
set_option linter.unusedSimpArgs false
set_option linter.unusedVariables false
set_option maxRecDepth 100000
namespace Go.Proofs.Ytgipbhfblmblcaa
open Go Go.Proofs.Ytgipbhfblmblcaa.AM
theorem whas_ok (h : AHeap) (w : Nat) (room : Int) (s : Wd) (i : Int) (G : AHeap) (hI : WIs lmRow h w room s) (hG : h.sub G) (hok : WOk room s) : PCalls Try.prog 79 [.box w 0, .int .i64 i] G (fun v => v = .bool (decide (0 ≤ i ∧ i < (s.tl.length : Int)))) := by
 refine LCalls.intro 20 fi79 rfl Try.ntmps79 rfl (fun _ h => h.elim) (fun H hH w0 hw0 => ?_)
 obtain ⟨tr, cr, mr, pt, rs, ls, hA, htl⟩ := hI
 have hhH := AHeap.sub_trans hG hH
 have hww := hhH _ _ hA.ww
 have htt := hhH _ _ hA.tt
 have hcc := hhH _ _ hA.cc
 have hmm := hhH _ _ hA.mm
 have htn : s.tl.length = pt.length := by rw [htl, tlOf_len]
 have hcn := hA.len
 have h32 := hok.n32
 have hVt : (AV.own tr 1 0 pt.length).view H = some (pt.map tptr) := AV.view_own_all htt (by simp)
 have hVc : (AV.own cr 1 0 pt.length).view H = some (s.cells.map (.int .i64)) := AV.view_own_all hcc (by rw [List.length_map, hcn])
 refine g_seq (fun K0 hK0 => ?_)
 refine g_region ?_
 refine g_step rfl (s_val (v_assign rfl) rfl rfl ?_)
 refine g_nil ?_
 refine g_next hK0 ?_
 refine g_seq (fun K1 hK1 => ?_)
 refine g_region ?_
 refine g_step rfl (s_val (v_move rfl) rfl rfl ?_)
 refine g_step rfl (s_val (by first | exact v_ptr_neq_nil ty78 rfl rfl rfl | exact v_nil_neq_nil ty78 rfl rfl | exact v_ptrO_neq ty78 rfl rfl) rfl rfl ?_)
 refine g_step rfl (s_val (v_move rfl) rfl rfl ?_)
 refine g_split 7 rfl (fun hg7 => ?_) (fun hg7 => ?_)
 ·
  try simp only [NM] at hg7
  refine g_step_yes (j := 2) (t := 7) rfl rfl rfl rfl (s_val (v_move rfl) rfl rfl ?_)
  refine g_step_yes (j := 2) (t := 7) rfl rfl rfl rfl (s_val (v_geq rfl rfl) rfl rfl ?_)
  refine g_step rfl (s_val (v_pick_t rfl rfl) rfl rfl ?_)
  refine g_step rfl (s_val (v_move rfl) rfl rfl ?_)
  refine g_split 11 rfl (fun hg11 => ?_) (fun hg11 => ?_)
  ·
   try simp only [NM] at hg11
   refine g_step_yes (j := 6) (t := 11) rfl rfl rfl rfl (s_val (v_move rfl) rfl rfl ?_)
   refine g_step_yes (j := 6) (t := 11) rfl rfl rfl rfl (s_val (v_move rfl) rfl rfl ?_)
   refine g_step_yes (j := 6) (t := 11) rfl rfl rfl rfl (s_val (v_nilCheck rfl rfl) rfl rfl ?_)
   refine g_step_yes (j := 6) (t := 11) rfl rfl rfl rfl (s_val (by first | exact v_fieldAddr ty125 fo125_1 ty122 rfl | exact v_fieldAddr_box ty125 fo125_1 ty122 rfl) rfl rfl ?_)
   refine g_step_yes (j := 6) (t := 11) rfl rfl rfl rfl (s_val (by first | exact v_load ty122 rfl rfl (by first | rfl | assumption) (by first | assumption | exact map_get (by assumption) | rfl) rfl | exact v_load_box ty122 rfl rfl hww (by rfl)) rfl rfl ?_)
   refine g_step_yes (j := 6) (t := 11) rfl rfl rfl rfl (s_val (v_len ty122 rfl hVt (show _ = pt.length by simp)) rfl rfl ?_)
   refine g_step_yes (j := 6) (t := 11) rfl rfl rfl rfl (s_val (v_lss rfl rfl) rfl rfl ?_)
   refine g_step rfl (s_val (v_pick_t rfl rfl) rfl rfl ?_)
   refine g_step rfl (s_val (v_assign rfl) rfl rfl ?_)
   refine g_nil ?_
   refine g_next hK1 ?_
   refine g_ret ?_
   refine g_end1 (.inl rfl) Try.results79 (.tmp rfl) [] (ASub.refl _) (AHeap.sub_refl _) (fun p hp => by cases hp) ⟨rfl, ?_⟩
   first | (simp only [AV.bool.injEq, decide_eq_decide, htn]; first | (simp_all; done) | (simp_all; omega) | omega; done) | (simp only [AV.bool.injEq, decide_eq_decide, htn]; first | (simp_all; done) | (simp_all; omega) | omega; rfl)
  ·
   try simp only [NM] at hg11
   refine g_step_no (j := 6) (t := 11) rfl rfl rfl rfl rfl rfl rfl ?_
   refine g_step_no (j := 6) (t := 11) rfl rfl rfl rfl rfl rfl rfl ?_
   refine g_step_no (j := 6) (t := 11) rfl rfl rfl rfl rfl rfl rfl ?_
   refine g_step_no (j := 6) (t := 11) rfl rfl rfl rfl rfl rfl rfl ?_
   refine g_step_no (j := 6) (t := 11) rfl rfl rfl rfl rfl rfl rfl ?_
   refine g_step_no (j := 6) (t := 11) rfl rfl rfl rfl rfl rfl rfl ?_
   refine g_step_no (j := 6) (t := 11) rfl rfl rfl rfl rfl rfl rfl ?_
   refine g_step rfl (s_val (v_pick_f rfl rfl) rfl rfl ?_)
   refine g_step rfl (s_val (v_assign rfl) rfl rfl ?_)
   refine g_nil ?_
   refine g_next hK1 ?_
   refine g_ret ?_
   refine g_end1 (.inl rfl) Try.results79 (.tmp rfl) [] (ASub.refl _) (AHeap.sub_refl _) (fun p hp => by cases hp) ⟨rfl, ?_⟩
   first | (simp only [AV.bool.injEq, decide_eq_decide, htn]; first | (simp_all; done) | (simp_all; omega) | omega; done) | (simp only [AV.bool.injEq, decide_eq_decide, htn]; first | (simp_all; done) | (simp_all; omega) | omega; rfl)
 · exfalso; (try simp only [NM] at hg7); simp at hg7

theorem wcell_ok (h : AHeap) (w : Nat) (room : Int) (s : Wd) (i : Int) (G : AHeap) (hI : WIs lmRow h w room s) (hG : h.sub G) (hok : WOk room s) : PCalls Try.prog 45 [.box w 0, .int .i64 i] G (fun v => v = .int .i64 (if 0 ≤ i ∧ i < (s.tl.length : Int) then (s.cells[i.toNat]?).getD 0 else 0)) := by
 refine LCalls.intro 16 fi45 rfl Try.ntmps45 rfl (fun _ h => h.elim) (fun H hH w0 hw0 => ?_)
 have hI0 := hI
 obtain ⟨tr, cr, mr, pt, rs, ls, hA, htl⟩ := hI
 have hhH := AHeap.sub_trans hG hH
 have hww := hhH _ _ hA.ww
 have htt := hhH _ _ hA.tt
 have hcc := hhH _ _ hA.cc
 have hmm := hhH _ _ hA.mm
 have htn : s.tl.length = pt.length := by rw [htl, tlOf_len]
 have hcn := hA.len
 have h32 := hok.n32
 have hVt : (AV.own tr 1 0 pt.length).view H = some (pt.map tptr) := AV.view_own_all htt (by simp)
 have hVc : (AV.own cr 1 0 pt.length).view H = some (s.cells.map (.int .i64)) := AV.view_own_all hcc (by rw [List.length_map, hcn])
 refine g_seq (fun K0 hK0 => ?_)
 refine g_region ?_
 refine g_step rfl (s_val (v_assign rfl) rfl rfl ?_)
 refine g_nil ?_
 refine g_next hK0 ?_
 refine g_seq (fun K1 hK1 => ?_)
 refine g_seq (fun K2 hK2 => ?_)
 refine g_region ?_
 refine g_step rfl (s_val (v_move rfl) rfl rfl ?_)
 refine g_step rfl (s_val (v_move rfl) rfl rfl ?_)
 refine g_step rfl (s_callp rfl rfl rfl (whas_ok h w room s i _ hI0 hhH hok) ?_)
 rintro _ rfl
 refine g_step rfl (s_val (v_not rfl) rfl rfl ?_)
 refine g_nil ?_
 refine g_next hK2 ?_
 refine g_cond rfl (fun hc8 => ?_) (fun hc8 => ?_)
 ·
  try simp only [NM] at hc8
  have hno : ¬ (0 ≤ i ∧ i < (s.tl.length : Int)) := by simpa using hc8
  refine g_seq (fun K3 hK3 => ?_)
  refine g_region ?_
  refine g_step rfl (s_val (v_assign rfl) rfl rfl ?_)
  refine g_nil ?_
  refine g_next hK3 ?_
  refine g_ret ?_
  refine g_then_ret ?_
  refine g_end1 (.inl rfl) Try.results45 (.tmp rfl) [] (ASub.refl _) (AHeap.sub_refl _) (fun p hp => by cases hp) ⟨rfl, ?_⟩
  first | (rw [if_neg hno]; done) | (rw [if_neg hno]; rfl)
 ·
  try simp only [NM] at hc8
  have hin : 0 ≤ i ∧ i < (s.tl.length : Int) := by simpa using hc8
  obtain ⟨j, rfl⟩ := Int.eq_ofNat_of_zero_le hin.1
  obtain ⟨c, hc⟩ := get_some (l := s.cells) (k := j) (by omega)
  refine g_skip ?_
  refine g_next hK1 ?_
  refine g_seq (fun K4 hK4 => ?_)
  refine g_region ?_
  refine g_step rfl (s_val (v_move rfl) rfl rfl ?_)
  refine g_step rfl (s_val (v_nilCheck rfl rfl) rfl rfl ?_)
  refine g_step rfl (s_val (by first | exact v_fieldAddr ty125 fo125_2 ty71 rfl | exact v_fieldAddr_box ty125 fo125_2 ty71 rfl) rfl rfl ?_)
  refine g_step rfl (s_val (by first | exact v_load ty71 rfl rfl (by first | rfl | assumption) (by first | assumption | exact map_get (by assumption) | rfl) rfl | exact v_load_box ty71 rfl rfl hww (by rfl)) rfl rfl ?_)
  refine g_step rfl (s_val (v_move rfl) rfl rfl ?_)
  refine g_step rfl (s_val (v_indexAddr ty71 ty3 rfl rfl hVc rfl (map_get hc) rfl) rfl rfl ?_)
  refine g_step rfl (s_val (by first | exact v_load ty3 rfl rfl hVc (map_get hc) rfl | exact v_load_box ty3 rfl rfl (by assumption) rfl) rfl rfl ?_)
  refine g_step rfl (s_val (v_assign rfl) rfl rfl ?_)
  refine g_nil ?_
  refine g_next hK4 ?_
  refine g_ret ?_
  refine g_end1 (.inl rfl) Try.results45 (.tmp rfl) [] (ASub.refl _) (AHeap.sub_refl _) (fun p hp => by cases hp) ⟨rfl, ?_⟩
  first | (rw [if_pos hin, Int.toNat_natCast, hc]; rfl; done) | (rw [if_pos hin, Int.toNat_natCast, hc]; rfl; rfl)

theorem bcores_ok (l : List Rc) (G : AHeap) (hl : l.length ≤ 100000) (hs : ∀ x ∈ l, Small x.bag) : PCalls Try.prog 114 [encRs l] G (fun v => v = encRs (coresOf l)) := by
 refine LCalls.intro 19 fi114 rfl Try.ntmps114 rfl (fun _ h => h.elim) (fun H hH w0 hw0 => ?_)
 refine g_seq (fun K0 hK0 => ?_)
 refine g_region ?_
 refine g_step rfl (s_val (v_assign rfl) rfl rfl ?_)
 refine g_nil ?_
 refine g_next hK0 ?_
 refine g_seq (fun K1 hK1 => ?_)
 refine g_region ?_
 refine g_step rfl (s_val (v_assign rfl) rfl rfl ?_)
 refine g_nil ?_
 refine g_next hK1 ?_
 refine g_seq (fun K2 hK2 => ?_)
 refine g_seq (fun K3 hK3 => ?_)
 refine g_region ?_
 refine g_step rfl (s_val (v_move rfl) rfl rfl ?_)
 refine g_step rfl (s_val (v_len ty22 rfl (by first | rfl | assumption) (by first | exact List.length_map .. | rfl)) rfl rfl ?_)
 refine g_step rfl (s_val (v_move rfl) rfl rfl ?_)
 refine g_nil ?_
 refine g_next hK3 ?_
 refine g_block ?_
 first | refine g_keep [3, 6, 7, 8] [] [] (keep_cons rfl (keep_cons rfl (keep_cons rfl (keep_cons rfl keep_nil)))) lkeep_nil keep_nil rfl ?_ | refine g_keep [3, 6, 7, 8] [] [] rfl rfl rfl rfl ?_
 refine g_loop (fun n env L B G => ∃ (k : Nat) (av3 : AV), k ≤ l.length ∧ n = l.length - k ∧ env = [(3, av3), (6, encRs l), (7, .int .i64 (l.length : Int)), (8, .int .i64 (k : Int))] ∧ L = [] ∧ B = [] ∧ Own w0.heap.size 7 H av3 ((coresOf (l.take k)).map encR) G) (l.length) ⟨0, .nil0, Nat.zero_le _, rfl, rfl, rfl, rfl, Own.nil ..⟩ (fun n env L B G hI => ?_)
 obtain ⟨k, av3, hk, rfl, rfl, rfl, rfl, hown⟩ := hI
 have hcl : (coresOf (l.take k)).length ≤ k := by unfold coresOf; rw [List.length_map]; exact List.length_take_le _ _
 refine g_seq (fun K4 hK4 => ?_)
 refine g_region ?_
 refine g_step rfl (s_val (v_lss rfl rfl) rfl rfl ?_)
 refine g_nil ?_
 refine g_next hK4 ?_
 refine g_seq (fun K5 hK5 => ?_)
 refine g_cond rfl (fun hc9 => ?_) (fun hc9 => ?_)
 ·
  try simp only [NM] at hc9
  obtain ⟨x, hx⟩ := get_some (l := l) (k := k) (by omega)
  refine g_skip ?_
  refine g_next hK5 ?_
  refine g_seq (fun K6 hK6 => ?_)
  refine g_block ?_
  refine g_seq (fun K7 hK7 => ?_)
  refine g_region ?_
  refine g_step rfl (s_val (v_indexAddr ty22 ty46 rfl rfl (by first | rfl | assumption) (by first | rfl | exact (rfl : (0 : Int) = ((0 : Nat) : Int)) | exact (Int.toNat_of_nonneg (by omega)).symm) (by first | assumption | exact map_get (by assumption) | rfl) rfl) rfl rfl ?_)
  refine g_step rfl (s_val (by first | exact v_load_elt ty46 rfl rfl (by first | rfl | assumption) (by first | assumption | exact map_get (by assumption) | rfl) rfl rfl | exact v_load_box_all ty46 rfl rfl (by assumption) rfl rfl | exact v_load_part (cs := [_, _, _, _, _, _, _]) ty46 rfl rfl (by first | rfl | assumption) (by first | assumption | exact map_get (by assumption) | rfl) rfl rfl rfl | exact v_load_box_part (cs := [_, _, _, _, _, _, _]) ty46 rfl rfl (by assumption) rfl rfl rfl) rfl rfl ?_)
  refine g_step rfl (s_alloc (av := (.agg [(.int .i64 0), (.int .i64 0), (.int .i64 0), (.int .i64 0), (.int .i64 0), (.bool false), .nil0])) ty46 rfl rfl rfl rfl ?_)
  refine g_step rfl (s_store_all ty46 rfl rfl rfl rfl rfl rfl ?_)
  refine g_nil ?_
  refine g_next hK7 ?_
  refine g_region ?_
  refine g_step rfl (s_val (v_move rfl) rfl rfl ?_)
  refine g_step rfl (s_val (by first | exact v_loadl_all ty46 rfl rfl rfl rfl rfl | exact v_loadl_part (cs := [_, _, _, _, _, _, _]) ty46 rfl rfl rfl rfl rfl rfl) rfl rfl ?_)
  refine g_step rfl (s_callp rfl rfl rfl (core_ok _ _) ?_)
  rintro _ rfl
  refine g_step rfl (s_lit ty22 ty46 rfl rfl rfl rfl rfl rfl rfl ?_)
  refine g_step rfl (s_append (l := ((coresOf (l.take k)).map encR)) (m := ([core x].map encR)) ty22 ty46 rfl rfl hown rfl rfl (by refine Even.map _ ?_ _; intro _; rfl) (by intro x hx; obtain ⟨_, _, rfl⟩ := List.mem_map.1 hx; rfl) rfl (by simp; omega) (by simp; omega) ?_)
  intro av16 G16 h16
  refine g_step rfl (s_val (v_assign rfl) rfl rfl ?_)
  refine g_nil ?_
  refine g_block_normal ?_
  refine g_next hK6 ?_
  refine g_region ?_
  refine g_step rfl (s_val (v_add rfl rfl (by omega)) rfl rfl ?_)
  refine g_step rfl (s_val (v_move rfl) rfl rfl ?_)
  refine g_nil ?_
  first | refine g_keep [3, 6, 7, 8] [] [] (keep_cons rfl (keep_cons rfl (keep_cons rfl (keep_cons rfl keep_nil)))) lkeep_nil keep_nil rfl ?_ | refine g_keep [3, 6, 7, 8] [] [] rfl rfl rfl rfl ?_
  exact g_round _ (by omega) ⟨k + 1, av16, by omega, rfl, rfl, rfl, rfl, by rw [List.take_add_one, hx]; unfold coresOf at h16 ⊢; rw [List.map_append, List.map_append]; exact h16⟩
 ·
  try simp only [NM] at hc9
  obtain rfl : k = l.length := by omega
  rw [List.take_length] at hown
  refine g_exit ?_
  refine g_then_exit ?_
  refine g_then_exit ?_
  refine g_block_same ?_
  refine g_next hK2 ?_
  refine g_seq (fun K8 hK8 => ?_)
  refine g_region ?_
  refine g_freeze 3 rfl hown ?_
  refine g_step rfl (s_val (v_move rfl) rfl rfl ?_)
  refine g_step rfl (s_val (v_assign rfl) rfl rfl ?_)
  refine g_nil ?_
  refine g_next hK8 ?_
  refine g_ret ?_
  refine g_end1 (.inl rfl) Try.results114 (.tmp rfl) [] (ASub.refl _) (AHeap.sub_refl _) (fun p hp => by cases hp) ⟨rfl, ?_⟩
  rfl

theorem mallNil_ok (G : AHeap) : PCalls Try.prog 32 [.nilp] G (fun v => v = .nil0) := by
 refine LCalls.intro 10 fi32 rfl Try.ntmps32 rfl (fun _ h => h.elim) (fun H hH w0 hw0 => ?_)
 refine g_seq (fun K0 hK0 => ?_)
 refine g_region ?_
 refine g_step rfl (s_val (v_assign rfl) rfl rfl ?_)
 refine g_nil ?_
 refine g_next hK0 ?_
 refine g_seq (fun K1 hK1 => ?_)
 refine g_seq (fun K2 hK2 => ?_)
 refine g_region ?_
 refine g_step rfl (s_val (v_move rfl) rfl rfl ?_)
 refine g_step rfl (s_val (by first | exact v_ptr_eql_nil ty48 rfl rfl rfl | exact v_nil_eql_nil ty48 rfl rfl | exact v_ptrO_eql ty48 rfl rfl) rfl rfl ?_)
 refine g_nil ?_
 refine g_next hK2 ?_
 refine g_cond rfl (fun hc4 => ?_) (fun hc4 => ?_)
 ·
  try simp only [NM] at hc4
  refine g_seq (fun K3 hK3 => ?_)
  refine g_region ?_
  refine g_step rfl (s_val (v_assign rfl) rfl rfl ?_)
  refine g_nil ?_
  refine g_next hK3 ?_
  refine g_ret ?_
  refine g_then_ret ?_
  refine g_end1 (.inl rfl) Try.results32 (.tmp rfl) [] (ASub.refl _) (AHeap.sub_refl _) (fun p hp => by cases hp) ⟨rfl, ?_⟩
  rfl
 · exfalso; (try simp only [NM] at hc4); first | exact hc4 rfl | cases hc4

theorem wup_ok (h : AHeap) (w : Nat) (room : Int) (s : Wd) (i : Int) (G : AHeap) (hI : WIs lmRow h w room s) (hG : h.sub G) (hok : WOk room s) : PCalls Try.prog 44 [.box w 0, .int .i64 i] G (fun v => v = .bool (decide (0 ≤ i ∧ i < (s.tl.length : Int)) && (lOf s i.toNat).isSome)) := by
 refine LCalls.intro 18 fi44 rfl Try.ntmps44 rfl (fun _ h => h.elim) (fun H hH w0 hw0 => ?_)
 have hI0 := hI
 obtain ⟨tr, cr, mr, pt, rs, ls, hA, htl⟩ := hI
 have hhH := AHeap.sub_trans hG hH
 have hww := hhH _ _ hA.ww
 have htt := hhH _ _ hA.tt
 have hcc := hhH _ _ hA.cc
 have hmm := hhH _ _ hA.mm
 have htn : s.tl.length = pt.length := by rw [htl, tlOf_len]
 have hcn := hA.len
 have h32 := hok.n32
 have hVt : (AV.own tr 1 0 pt.length).view H = some (pt.map tptr) := AV.view_own_all htt (by simp)
 have hVc : (AV.own cr 1 0 pt.length).view H = some (s.cells.map (.int .i64)) := AV.view_own_all hcc (by rw [List.length_map, hcn])
 refine g_seq (fun K0 hK0 => ?_)
 refine g_region ?_
 refine g_step rfl (s_val (v_assign rfl) rfl rfl ?_)
 refine g_nil ?_
 refine g_next hK0 ?_
 refine g_seq (fun K1 hK1 => ?_)
 refine g_region ?_
 rcases tl_cases pt ls htl i with hno | ⟨j, rfl, ho, hlo, hj⟩ | ⟨j, p, rfl, ho, hlo, hj⟩
 ·
  refine g_step rfl (s_val (v_move rfl) rfl rfl ?_)
  refine g_step rfl (s_val (v_move rfl) rfl rfl ?_)
  refine g_step rfl (s_callp rfl rfl rfl (whas_ok h w room s i _ hI0 hhH hok) ?_)
  rintro _ rfl
  refine g_step rfl (s_val (v_move rfl) rfl rfl ?_)
  refine g_split 8 rfl (fun hg8 => ?_) (fun hg8 => ?_)
  · exfalso; (try simp only [NM] at hg8); first | exact hno (of_decide_eq_true hg8) | exact hno hg8 | (simp at hg8; omega)
  ·
   try simp only [NM] at hg8
   refine g_step_no (j := 3) (t := 8) rfl rfl rfl rfl rfl rfl rfl ?_
   refine g_step_no (j := 3) (t := 8) rfl rfl rfl rfl rfl rfl rfl ?_
   refine g_step_no (j := 3) (t := 8) rfl rfl rfl rfl rfl rfl rfl ?_
   refine g_step_no (j := 3) (t := 8) rfl rfl rfl rfl rfl rfl rfl ?_
   refine g_step_no (j := 3) (t := 8) rfl rfl rfl rfl rfl rfl rfl ?_
   refine g_step_no (j := 3) (t := 8) rfl rfl rfl rfl rfl rfl rfl ?_
   refine g_step_no (j := 3) (t := 8) rfl rfl rfl rfl rfl rfl rfl ?_
   refine g_step_no (j := 3) (t := 8) rfl rfl rfl rfl rfl rfl rfl ?_
   refine g_step rfl (s_val (v_pick_f rfl rfl) rfl rfl ?_)
   refine g_step rfl (s_val (v_assign rfl) rfl rfl ?_)
   refine g_nil ?_
   refine g_next hK1 ?_
   refine g_ret ?_
   refine g_end1 (.inl rfl) Try.results44 (.tmp rfl) [] (ASub.refl _) (AHeap.sub_refl _) (fun p hp => by cases hp) ⟨rfl, ?_⟩
   first | (rw [decide_eq_false hno]; rfl; done) | (rw [decide_eq_false hno]; rfl; rfl)
 ·
  refine g_step rfl (s_val (v_move rfl) rfl rfl ?_)
  refine g_step rfl (s_val (v_move rfl) rfl rfl ?_)
  refine g_step rfl (s_callp rfl rfl rfl (whas_ok h w room s (j : Int) _ hI0 hhH hok) ?_)
  rintro _ rfl
  have hin : 0 ≤ (j : Int) ∧ (j : Int) < (s.tl.length : Int) := ⟨by omega, by omega⟩
  refine g_step rfl (s_val (v_move rfl) rfl rfl ?_)
  refine g_split 8 rfl (fun hg8 => ?_) (fun hg8 => ?_)
  ·
   try simp only [NM] at hg8
   refine g_step_yes (j := 3) (t := 8) rfl rfl rfl rfl (s_val (v_move rfl) rfl rfl ?_)
   refine g_step_yes (j := 3) (t := 8) rfl rfl rfl rfl (s_val (v_nilCheck rfl rfl) rfl rfl ?_)
   refine g_step_yes (j := 3) (t := 8) rfl rfl rfl rfl (s_val (by first | exact v_fieldAddr ty125 fo125_1 ty122 rfl | exact v_fieldAddr_box ty125 fo125_1 ty122 rfl) rfl rfl ?_)
   refine g_step_yes (j := 3) (t := 8) rfl rfl rfl rfl (s_val (by first | exact v_load ty122 rfl rfl (by first | rfl | assumption) (by first | assumption | exact map_get (by assumption) | rfl) rfl | exact v_load_box ty122 rfl rfl hww (by rfl)) rfl rfl ?_)
   refine g_step_yes (j := 3) (t := 8) rfl rfl rfl rfl (s_val (v_move rfl) rfl rfl ?_)
   refine g_step_yes (j := 3) (t := 8) rfl rfl rfl rfl (s_val (v_indexAddr ty122 ty48 rfl rfl hVt rfl (map_get ho) rfl) rfl rfl ?_)
   refine g_step_yes (j := 3) (t := 8) rfl rfl rfl rfl (s_val (by first | exact v_load ty48 rfl rfl hVt (map_get ho) rfl | exact v_load_box ty48 rfl rfl (by assumption) rfl) rfl rfl ?_)
   refine g_step_yes (j := 3) (t := 8) rfl rfl rfl rfl (s_val (by first | exact v_ptr_neq_nil ty48 rfl rfl rfl | exact v_nil_neq_nil ty48 rfl rfl | exact v_ptrO_neq ty48 rfl rfl) rfl rfl ?_)
   refine g_step rfl (s_val (v_pick_t rfl rfl) rfl rfl ?_)
   refine g_step rfl (s_val (v_assign rfl) rfl rfl ?_)
   refine g_nil ?_
   refine g_next hK1 ?_
   refine g_ret ?_
   refine g_end1 (.inl rfl) Try.results44 (.tmp rfl) [] (ASub.refl _) (AHeap.sub_refl _) (fun p hp => by cases hp) ⟨rfl, ?_⟩
   first | (rw [decide_eq_true hin, Int.toNat_natCast, hlo]; rfl; done) | (rw [decide_eq_true hin, Int.toNat_natCast, hlo]; rfl; rfl)
  · exfalso; (try simp only [NM] at hg8); first | exact hg8 (decide_eq_true hin) | exact hg8 hin | (simp at hg8; omega)
 ·
  refine g_step rfl (s_val (v_move rfl) rfl rfl ?_)
  refine g_step rfl (s_val (v_move rfl) rfl rfl ?_)
  refine g_step rfl (s_callp rfl rfl rfl (whas_ok h w room s (j : Int) _ hI0 hhH hok) ?_)
  rintro _ rfl
  have hin : 0 ≤ (j : Int) ∧ (j : Int) < (s.tl.length : Int) := ⟨by omega, by omega⟩
  refine g_step rfl (s_val (v_move rfl) rfl rfl ?_)
  refine g_split 8 rfl (fun hg8 => ?_) (fun hg8 => ?_)
  ·
   try simp only [NM] at hg8
   refine g_step_yes (j := 3) (t := 8) rfl rfl rfl rfl (s_val (v_move rfl) rfl rfl ?_)
   refine g_step_yes (j := 3) (t := 8) rfl rfl rfl rfl (s_val (v_nilCheck rfl rfl) rfl rfl ?_)
   refine g_step_yes (j := 3) (t := 8) rfl rfl rfl rfl (s_val (by first | exact v_fieldAddr ty125 fo125_1 ty122 rfl | exact v_fieldAddr_box ty125 fo125_1 ty122 rfl) rfl rfl ?_)
   refine g_step_yes (j := 3) (t := 8) rfl rfl rfl rfl (s_val (by first | exact v_load ty122 rfl rfl (by first | rfl | assumption) (by first | assumption | exact map_get (by assumption) | rfl) rfl | exact v_load_box ty122 rfl rfl hww (by rfl)) rfl rfl ?_)
   refine g_step_yes (j := 3) (t := 8) rfl rfl rfl rfl (s_val (v_move rfl) rfl rfl ?_)
   refine g_step_yes (j := 3) (t := 8) rfl rfl rfl rfl (s_val (v_indexAddr ty122 ty48 rfl rfl hVt rfl (map_get ho) rfl) rfl rfl ?_)
   refine g_step_yes (j := 3) (t := 8) rfl rfl rfl rfl (s_val (by first | exact v_load ty48 rfl rfl hVt (map_get ho) rfl | exact v_load_box ty48 rfl rfl (by assumption) rfl) rfl rfl ?_)
   refine g_step_yes (j := 3) (t := 8) rfl rfl rfl rfl (s_val (by first | exact v_ptr_neq_nil ty48 rfl rfl rfl | exact v_nil_neq_nil ty48 rfl rfl | exact v_ptrO_neq ty48 rfl rfl) rfl rfl ?_)
   refine g_step rfl (s_val (v_pick_t rfl rfl) rfl rfl ?_)
   refine g_step rfl (s_val (v_assign rfl) rfl rfl ?_)
   refine g_nil ?_
   refine g_next hK1 ?_
   refine g_ret ?_
   refine g_end1 (.inl rfl) Try.results44 (.tmp rfl) [] (ASub.refl _) (AHeap.sub_refl _) (fun p hp => by cases hp) ⟨rfl, ?_⟩
   first | (rw [decide_eq_true hin, Int.toNat_natCast, hlo]; rfl; done) | (rw [decide_eq_true hin, Int.toNat_natCast, hlo]; rfl; rfl)
  · exfalso; (try simp only [NM] at hg8); first | exact hg8 (decide_eq_true hin) | exact hg8 hin | (simp at hg8; omega)

theorem wview_ok (h : AHeap) (w : Nat) (room : Int) (s : Wd) (i : Int) (G : AHeap) (hI : WIs lmRow h w room s) (hG : h.sub G) (hok : WOk room s) : PCalls Try.prog 46 [.box w 0, .int .i64 i] G (fun v => v = encRs (if 0 ≤ i ∧ i < (s.tl.length : Int) then (lOf s i.toNat).getD [] else [])) := by
 refine LCalls.intro 17 fi46 rfl Try.ntmps46 rfl (fun _ h => h.elim) (fun H hH w0 hw0 => ?_)
 have hI0 := hI
 obtain ⟨tr, cr, mr, pt, rs, ls, hA, htl⟩ := hI
 have hhH := AHeap.sub_trans hG hH
 have hww := hhH _ _ hA.ww
 have htt := hhH _ _ hA.tt
 have hcc := hhH _ _ hA.cc
 have hmm := hhH _ _ hA.mm
 have htn : s.tl.length = pt.length := by rw [htl, tlOf_len]
 have hcn := hA.len
 have h32 := hok.n32
 have hVt : (AV.own tr 1 0 pt.length).view H = some (pt.map tptr) := AV.view_own_all htt (by simp)
 have hVc : (AV.own cr 1 0 pt.length).view H = some (s.cells.map (.int .i64)) := AV.view_own_all hcc (by rw [List.length_map, hcn])
 refine g_seq (fun K0 hK0 => ?_)
 refine g_region ?_
 refine g_step rfl (s_val (v_assign rfl) rfl rfl ?_)
 refine g_nil ?_
 refine g_next hK0 ?_
 refine g_seq (fun K1 hK1 => ?_)
 refine g_seq (fun K2 hK2 => ?_)
 refine g_region ?_
 rcases tl_cases pt ls htl i with hno | ⟨j, rfl, ho, hlo, hj⟩ | ⟨j, p, rfl, ho, hlo, hj⟩
 ·
  refine g_step rfl (s_val (v_move rfl) rfl rfl ?_)
  refine g_step rfl (s_val (v_move rfl) rfl rfl ?_)
  refine g_step rfl (s_callp rfl rfl rfl (whas_ok h w room s i _ hI0 hhH hok) ?_)
  rintro _ rfl
  refine g_step rfl (s_val (v_not rfl) rfl rfl ?_)
  refine g_nil ?_
  refine g_next hK2 ?_
  refine g_cond rfl (fun hc8 => ?_) (fun hc8 => ?_)
  ·
   try simp only [NM] at hc8
   refine g_seq (fun K3 hK3 => ?_)
   refine g_region ?_
   refine g_step rfl (s_val (v_assign rfl) rfl rfl ?_)
   refine g_nil ?_
   refine g_sub 4 rfl ASub.nil0 ?_
   refine g_next hK3 ?_
   refine g_ret ?_
   refine g_then_ret ?_
   refine g_end1 (.inl rfl) Try.results46 (.tmp rfl) [] (ASub.refl _) (AHeap.sub_refl _) (fun p hp => by cases hp) ⟨rfl, ?_⟩
   first | (rw [if_neg hno]; rfl; done) | (rw [if_neg hno]; rfl; rfl)
  · exfalso; (try simp only [NM] at hc8); first | exact hno (of_decide_eq_true hc8) | exact hno hc8 | (simp at hc8; omega)
 ·
  refine g_step rfl (s_val (v_move rfl) rfl rfl ?_)
  refine g_step rfl (s_val (v_move rfl) rfl rfl ?_)
  refine g_step rfl (s_callp rfl rfl rfl (whas_ok h w room s (j : Int) _ hI0 hhH hok) ?_)
  rintro _ rfl
  have hin : 0 ≤ (j : Int) ∧ (j : Int) < (s.tl.length : Int) := ⟨by omega, by omega⟩
  refine g_step rfl (s_val (v_not rfl) rfl rfl ?_)
  refine g_nil ?_
  refine g_next hK2 ?_
  refine g_cond rfl (fun hc8 => ?_) (fun hc8 => ?_)
  · exfalso; (try simp only [NM] at hc8); first | exact hc8 (decide_eq_true hin) | exact hc8 hin | (simp at hc8; omega)
  ·
   try simp only [NM] at hc8
   refine g_skip ?_
   refine g_next hK1 ?_
   refine g_seq (fun K4 hK4 => ?_)
   refine g_region ?_
   refine g_step rfl (s_val (v_move rfl) rfl rfl ?_)
   refine g_step rfl (s_val (v_nilCheck rfl rfl) rfl rfl ?_)
   refine g_step rfl (s_val (by first | exact v_fieldAddr ty125 fo125_1 ty122 rfl | exact v_fieldAddr_box ty125 fo125_1 ty122 rfl) rfl rfl ?_)
   refine g_step rfl (s_val (by first | exact v_load ty122 rfl rfl (by first | rfl | assumption) (by first | assumption | exact map_get (by assumption) | rfl) rfl | exact v_load_box ty122 rfl rfl hww (by rfl)) rfl rfl ?_)
   refine g_step rfl (s_val (v_move rfl) rfl rfl ?_)
   refine g_step rfl (s_val (v_indexAddr ty122 ty48 rfl rfl hVt rfl (map_get ho) rfl) rfl rfl ?_)
   refine g_step rfl (s_val (by first | exact v_load ty48 rfl rfl hVt (map_get ho) rfl | exact v_load_box ty48 rfl rfl (by assumption) rfl) rfl rfl ?_)
   refine g_step rfl (s_callp rfl rfl rfl (mallNil_ok _) ?_)
   rintro _ rfl
   refine g_step rfl (s_val (v_assign rfl) rfl rfl ?_)
   refine g_nil ?_
   refine g_sub 4 rfl ASub.nil0 ?_
   refine g_next hK4 ?_
   refine g_ret ?_
   refine g_end1 (.inl rfl) Try.results46 (.tmp rfl) [] (ASub.refl _) (AHeap.sub_refl _) (fun p hp => by cases hp) ⟨rfl, ?_⟩
   first | (rw [if_pos hin, Int.toNat_natCast, hlo]; rfl; done) | (rw [if_pos hin, Int.toNat_natCast, hlo]; rfl; rfl)
 ·
  refine g_step rfl (s_val (v_move rfl) rfl rfl ?_)
  refine g_step rfl (s_val (v_move rfl) rfl rfl ?_)
  refine g_step rfl (s_callp rfl rfl rfl (whas_ok h w room s (j : Int) _ hI0 hhH hok) ?_)
  rintro _ rfl
  have hin : 0 ≤ (j : Int) ∧ (j : Int) < (s.tl.length : Int) := ⟨by omega, by omega⟩
  refine g_step rfl (s_val (v_not rfl) rfl rfl ?_)
  refine g_nil ?_
  refine g_next hK2 ?_
  refine g_cond rfl (fun hc8 => ?_) (fun hc8 => ?_)
  · exfalso; (try simp only [NM] at hc8); first | exact hc8 (decide_eq_true hin) | exact hc8 hin | (simp at hc8; omega)
  ·
   try simp only [NM] at hc8
   refine g_skip ?_
   refine g_next hK1 ?_
   refine g_seq (fun K5 hK5 => ?_)
   refine g_region ?_
   refine g_step rfl (s_val (v_move rfl) rfl rfl ?_)
   refine g_step rfl (s_val (v_nilCheck rfl rfl) rfl rfl ?_)
   refine g_step rfl (s_val (by first | exact v_fieldAddr ty125 fo125_1 ty122 rfl | exact v_fieldAddr_box ty125 fo125_1 ty122 rfl) rfl rfl ?_)
   refine g_step rfl (s_val (by first | exact v_load ty122 rfl rfl (by first | rfl | assumption) (by first | assumption | exact map_get (by assumption) | rfl) rfl | exact v_load_box ty122 rfl rfl hww (by rfl)) rfl rfl ?_)
   refine g_step rfl (s_val (v_move rfl) rfl rfl ?_)
   refine g_step rfl (s_val (v_indexAddr ty122 ty48 rfl rfl hVt rfl (map_get ho) rfl) rfl rfl ?_)
   refine g_step rfl (s_val (by first | exact v_load ty48 rfl rfl hVt (map_get ho) rfl | exact v_load_box ty48 rfl rfl (by assumption) rfl) rfl rfl ?_)
   have hT := (hA.tb j p ho).mono hhH
   have hM := hok.inv j (ls j) (by rw [htl, tlOf_at, ho]; rfl)
   have hMn := hM.n
   have hMr := hM.r
   refine g_step rfl (s_callp rfl rfl rfl (mall_ok p (rs j) (j : Int) room (ls j) _ hT (by omega) hM.b) ?_)
   rintro _ rfl
   refine g_step rfl (s_val (v_assign rfl) rfl rfl ?_)
   refine g_nil ?_
   refine g_next hK5 ?_
   refine g_ret ?_
   refine g_end1 (.inl rfl) Try.results46 (.tmp rfl) [] (ASub.refl _) (AHeap.sub_refl _) (fun p hp => by cases hp) ⟨rfl, ?_⟩
   first | (rw [if_pos hin, Int.toNat_natCast, hlo]; rfl; done) | (rw [if_pos hin, Int.toNat_natCast, hlo]; rfl; rfl)

theorem wletter_ok (h : AHeap) (w : Nat) (room : Int) (s : Wd) (no : Int) (G : AHeap) (hI : WIs lmRow h w room s) (hG : h.sub G) (hok : WOk room s) : PCalls Try.prog 47 [.box w 0, .int .i64 no] G (fun v => v = .tup [encRs ((pget s.post no).getD []), .bool (pget s.post no).isSome]) := by
 refine LCalls.intro 22 fi47 rfl Try.ntmps47 rfl (fun _ h => h.elim) (fun H hH w0 hw0 => ?_)
 obtain ⟨tr, cr, mr, pt, rs, ls, hA, htl⟩ := hI
 have hhH := AHeap.sub_trans hG hH
 have hww := hhH _ _ hA.ww
 have htt := hhH _ _ hA.tt
 have hcc := hhH _ _ hA.cc
 have hmm := hhH _ _ hA.mm
 have htn : s.tl.length = pt.length := by rw [htl, tlOf_len]
 have hcn := hA.len
 have h32 := hok.n32
 have hVt : (AV.own tr 1 0 pt.length).view H = some (pt.map tptr) := AV.view_own_all htt (by simp)
 have hVc : (AV.own cr 1 0 pt.length).view H = some (s.cells.map (.int .i64)) := AV.view_own_all hcc (by rw [List.length_map, hcn])
 refine g_seq (fun K0 hK0 => ?_)
 refine g_region ?_
 refine g_step rfl (s_val (v_assign rfl) rfl rfl ?_)
 refine g_step rfl (s_val (v_assign rfl) rfl rfl ?_)
 refine g_nil ?_
 refine g_next hK0 ?_
 refine g_seq (fun K1 hK1 => ?_)
 refine g_seq (fun K2 hK2 => ?_)
 refine g_region ?_
 refine g_step rfl (s_val (v_move rfl) rfl rfl ?_)
 refine g_step rfl (s_val (by first | exact v_ptr_eql_nil ty78 rfl rfl rfl | exact v_nil_eql_nil ty78 rfl rfl | exact v_ptrO_eql ty78 rfl rfl) rfl rfl ?_)
 refine g_nil ?_
 refine g_next hK2 ?_
 refine g_cond rfl (fun hc9 => ?_) (fun hc9 => ?_)
 · exfalso; (try simp only [NM] at hc9); simp at hc9
 ·
  try simp only [NM] at hc9
  refine g_skip ?_
  refine g_next hK1 ?_
  refine g_seq (fun K3 hK3 => ?_)
  refine g_region ?_
  refine g_step rfl (s_val (v_move rfl) rfl rfl ?_)
  refine g_step rfl (s_val (v_nilCheck rfl rfl) rfl rfl ?_)
  refine g_step rfl (s_val (by first | exact v_fieldAddr ty125 fo125_3 ty123 rfl | exact v_fieldAddr_box ty125 fo125_3 ty123 rfl) rfl rfl ?_)
  refine g_step rfl (s_val (by first | exact v_load ty123 rfl rfl (by first | rfl | assumption) (by first | assumption | exact map_get (by assumption) | rfl) rfl | exact v_load_box ty123 rfl rfl hww (by rfl)) rfl rfl ?_)
  refine g_step rfl (s_val (v_move rfl) rfl rfl ?_)
  refine g_step rfl (s_val (v_lookup (o := (lval (pget s.post no))) (f := (pget s.post no).isSome) ty123 ty3 ty22 rfl rfl rfl hmm (llook _ _) (llook_is _ _)) rfl rfl ?_)
  refine g_step rfl (s_val (v_move rfl) rfl rfl ?_)
  refine g_step rfl (s_val (v_extract rfl rfl) rfl rfl ?_)
  refine g_step rfl (s_val (v_extract rfl rfl) rfl rfl ?_)
  refine g_step rfl (s_val (v_assign rfl) rfl rfl ?_)
  refine g_step rfl (s_val (v_assign rfl) rfl rfl ?_)
  refine g_nil ?_
  refine g_next hK3 ?_
  refine g_seq (fun K4 hK4 => ?_)
  refine g_region ?_
  refine g_step rfl (s_val (v_move rfl) rfl rfl ?_)
  refine g_step rfl (s_callp rfl rfl rfl (recCopy_ok ((pget s.post no).getD []) _ (lval (pget s.post no)) (lval_view _ _) (Nat.le_trans (hok.letter no).1 (by decide)) (hok.letter no).2) ?_)
  rintro _ rfl
  refine g_step rfl (s_val (v_move rfl) rfl rfl ?_)
  refine g_step rfl (s_val (v_assign rfl) rfl rfl ?_)
  refine g_step rfl (s_val (v_assign rfl) rfl rfl ?_)
  refine g_nil ?_
  refine g_next hK4 ?_
  refine g_ret ?_
  refine g_end2 (.inl rfl) Try.results47 (.tmp rfl) (.tmp rfl) [] (ASub.refl _) (AHeap.sub_refl _) (fun p hp => by cases hp) ⟨rfl, ?_⟩
  rfl

theorem wagain_ok (h : AHeap) (w : Nat) (room : Int) (s : Wd) (x : Mv) (G : AHeap) (hI : WIs lmRow h w room s) (hG : h.sub G) (hok : WOk room s) : LCalls Try.prog 98 [.box w 0, encMv x] G (fun b => h b ≠ none) (fun n v effs => v = .bool (againW s x).2 ∧ ∃ h', EffTo h h' n effs ∧ WIs lmRow h' w room (againW s x).1) := by
 refine LCalls.intro 41 fi98 rfl Try.ntmps98 rfl (fun b hb => sub_some hG hb) (fun H hH w0 hw0 => ?_)
 obtain ⟨tr, cr, mr, pt, rs, ls, hA, htl⟩ := hI
 have hhH := AHeap.sub_trans hG hH
 have hww := hhH _ _ hA.ww
 have htt := hhH _ _ hA.tt
 have hcc := hhH _ _ hA.cc
 have hmm := hhH _ _ hA.mm
 have htn : s.tl.length = pt.length := by rw [htl, tlOf_len]
 have hcn := hA.len
 have h32 := hok.n32
 have hVt : (AV.own tr 1 0 pt.length).view H = some (pt.map tptr) := AV.view_own_all htt (by simp)
 have hVc : (AV.own cr 1 0 pt.length).view H = some (s.cells.map (.int .i64)) := AV.view_own_all hcc (by rw [List.length_map, hcn])
 refine g_seq (fun K0 hK0 => ?_)
 refine g_region ?_
 refine g_step rfl (s_box rfl rfl rfl rfl ?_)
 refine g_step rfl (s_val (v_assign rfl) rfl rfl ?_)
 refine g_nil ?_
 refine g_next hK0 ?_
 refine g_seq (fun K1 hK1 => ?_)
 refine g_draw (n := 12) (fun j => !([] : List Nat).contains j) rfl rfl ?_
 refine m_tk 0 false rfl rfl (by kernel_rfl) (v_move rfl) rfl rfl ?_
 refine m_tk 1 false rfl rfl (by kernel_rfl) (v_nilCheck rfl rfl) rfl rfl ?_
 refine m_tk 2 false rfl rfl (by kernel_rfl) (by first | exact v_fieldAddr ty125 fo125_3 ty123 rfl | exact v_fieldAddr_box ty125 fo125_3 ty123 rfl) rfl rfl ?_
 refine m_tk 3 true rfl rfl (by kernel_rfl) (by first | exact v_load ty123 rfl rfl (by first | rfl | assumption) (by first | assumption | exact map_get (by assumption) | rfl) rfl | exact v_load_box ty123 rfl rfl hww (by rfl)) rfl rfl ?_
 refine m_takel 4 rfl rfl (by kernel_rfl) (by kernel_rfl) (by kernel_rfl) (fun _ _ _ _ h => h) (vl_fieldAddr ty87 fo87_4 ty3 rfl) rfl rfl ?_
 refine m_tk 5 true rfl rfl (by kernel_rfl) (v_loadl ty3 rfl rfl rfl rfl) rfl rfl ?_
 refine m_tk 6 true rfl rfl (by kernel_rfl) (v_lookup (o := (lval (pget s.post x.letter))) (f := (pget s.post x.letter).isSome) ty123 ty3 ty22 rfl rfl rfl hmm (llook _ _) (llook_is _ _)) rfl rfl ?_
 refine m_tk 7 false rfl rfl (by kernel_rfl) (v_move rfl) rfl rfl ?_
 refine m_tk 8 false rfl rfl (by kernel_rfl) (v_extract rfl rfl) rfl rfl ?_
 refine m_tk 9 false rfl rfl (by kernel_rfl) (v_extract rfl rfl) rfl rfl ?_
 refine m_tk 10 false rfl rfl (by kernel_rfl) (v_assign rfl) rfl rfl ?_
 refine m_tk 11 false rfl rfl (by kernel_rfl) (v_assign rfl) rfl rfl ?_
 refine m_done (by kernel_rfl) ?_
 refine g_next hK1 ?_
 refine g_seq (fun K2 hK2 => ?_)
 refine g_seq (fun K3 hK3 => ?_)
 refine g_draw (n := 12) (fun j => !([] : List Nat).contains j) rfl rfl ?_
 refine m_tk 0 false rfl rfl (by kernel_rfl) (v_move rfl) rfl rfl ?_
 refine m_tk 1 false rfl rfl (by kernel_rfl) (v_nilCheck rfl rfl) rfl rfl ?_
 refine m_tk 2 false rfl rfl (by kernel_rfl) (by first | exact v_fieldAddr ty125 fo125_3 ty123 rfl | exact v_fieldAddr_box ty125 fo125_3 ty123 rfl) rfl rfl ?_
 refine m_tk 3 true rfl rfl (by kernel_rfl) (by first | exact v_load ty123 rfl rfl (by first | rfl | assumption) (by first | assumption | exact map_get (by assumption) | rfl) rfl | exact v_load_box ty123 rfl rfl hww (by rfl)) rfl rfl ?_
 refine m_takel 4 rfl rfl (by kernel_rfl) (by kernel_rfl) (by kernel_rfl) (fun _ _ _ _ h => h) (vl_fieldAddr ty87 fo87_2 ty3 rfl) rfl rfl ?_
 refine m_tk 5 true rfl rfl (by kernel_rfl) (v_loadl ty3 rfl rfl rfl rfl) rfl rfl ?_
 refine m_tk 6 true rfl rfl (by kernel_rfl) (v_lookup (o := (lval (pget s.post x.other))) (f := (pget s.post x.other).isSome) ty123 ty3 ty22 rfl rfl rfl hmm (llook _ _) (llook_is _ _)) rfl rfl ?_
 refine m_tk 7 false rfl rfl (by kernel_rfl) (v_move rfl) rfl rfl ?_
 refine m_tk 8 false rfl rfl (by kernel_rfl) (v_extract rfl rfl) rfl rfl ?_
 refine m_tk 9 false rfl rfl (by kernel_rfl) (v_extract rfl rfl) rfl rfl ?_
 refine m_tk 10 false rfl rfl (by kernel_rfl) (v_assign rfl) rfl rfl ?_
 refine m_tk 11 false rfl rfl (by kernel_rfl) (v_assign rfl) rfl rfl ?_
 refine m_done (by kernel_rfl) ?_
 refine g_next hK3 ?_
 first | refine g_keep [0, 5, 6, 8] [3] [3] (keep_cons rfl (keep_cons rfl (keep_cons rfl (keep_cons rfl keep_nil)))) (lkeep_cons rfl lkeep_nil) (keep_cons rfl keep_nil) rfl ?_ | refine g_keep [0, 5, 6, 8] [3] [3] rfl rfl rfl rfl ?_
 refine g_seq (fun K4 hK4 => ?_)
 refine g_region ?_
 rcases again_cases s x with ⟨hA0, hA1⟩ | ⟨l, hl, ho, hA0⟩
 ·
  refine g_step rfl (s_val (v_move rfl) rfl rfl ?_)
  refine g_step rfl (s_val (v_not rfl) rfl rfl ?_)
  refine g_step rfl (s_val (v_move rfl) rfl rfl ?_)
  refine g_split 31 rfl (fun hg31 => ?_) (fun hg31 => ?_)
  ·
   try simp only [NM] at hg31
   refine g_step_no (j := 2) (t := 31) rfl rfl rfl rfl rfl rfl rfl ?_
   refine g_step rfl (s_val (v_pick_t rfl rfl) rfl rfl ?_)
   refine g_nil ?_
   refine g_next hK4 ?_
   refine g_cond rfl (fun _ => ?_) (fun h => by cases h)
   refine g_seq (fun K5 hK5 => ?_)
   refine g_region ?_
   refine g_step rfl (s_val (v_assign rfl) rfl rfl ?_)
   refine g_nil ?_
   refine g_next hK5 ?_
   refine g_ret ?_
   refine g_then_ret ?_
   refine g_end1 (.inl rfl) Try.results98 (.tmp rfl) [] (ASub.refl _) (AHeap.sub_refl _) (fun p hp => by cases hp) ⟨by rw [hA0]; rfl, h, EffTo.refl _ _, by rw [hA0]; exact ⟨tr, cr, mr, pt, rs, ls, hA, htl⟩⟩
  ·
   try simp only [NM] at hg31
   refine g_step_yes (j := 2) (t := 31) rfl rfl rfl rfl (s_val (v_move rfl) rfl rfl ?_)
   refine g_step rfl (s_val (v_pick_f rfl rfl) rfl rfl ?_)
   refine g_nil ?_
   refine g_next hK4 ?_
   refine g_cond rfl (fun hc33 => ?_) (fun hc33 => ?_)
   ·
    try simp only [NM] at hc33
    refine g_seq (fun K6 hK6 => ?_)
    refine g_region ?_
    refine g_step rfl (s_val (v_assign rfl) rfl rfl ?_)
    refine g_nil ?_
    refine g_next hK6 ?_
    refine g_ret ?_
    refine g_then_ret ?_
    refine g_end1 (.inl rfl) Try.results98 (.tmp rfl) [] (ASub.refl _) (AHeap.sub_refl _) (fun p hp => by cases hp) ⟨by rw [hA0]; rfl, h, EffTo.refl _ _, by rw [hA0]; exact ⟨tr, cr, mr, pt, rs, ls, hA, htl⟩⟩
   · exfalso; (try simp only [NM] at hc33); rcases hA1 with h9 | h9 <;> simp_all
 ·
  refine g_step rfl (s_val (v_move rfl) rfl rfl ?_)
  refine g_step rfl (s_val (v_not rfl) rfl rfl ?_)
  refine g_step rfl (s_val (v_move rfl) rfl rfl ?_)
  refine g_split 31 rfl (fun hg31 => ?_) (fun hg31 => ?_)
  · exfalso; (try simp only [NM] at hg31); rw [hl] at hg31; simp at hg31
  ·
   try simp only [NM] at hg31
   refine g_step_yes (j := 2) (t := 31) rfl rfl rfl rfl (s_val (v_move rfl) rfl rfl ?_)
   refine g_step rfl (s_val (v_pick_f rfl rfl) rfl rfl ?_)
   refine g_nil ?_
   refine g_next hK4 ?_
   refine g_cond rfl (fun hc33 => ?_) (fun hc33 => ?_)
   · exfalso; (try simp only [NM] at hc33); rw [ho] at hc33; simp at hc33
   ·
    try simp only [NM] at hc33
    refine g_skip ?_
    refine g_next hK2 ?_
    refine g_seq (fun K7 hK7 => ?_)
    refine g_draw (n := 8) (fun j => !([7] : List Nat).contains j) rfl rfl ?_
    rw [hl, show lval (some l) = encRs l from rfl]
    refine m_tk 0 false rfl rfl (by kernel_rfl) (v_move rfl) rfl rfl ?_
    refine m_tk 1 false rfl rfl (by kernel_rfl) (v_nilCheck rfl rfl) rfl rfl ?_
    refine m_tk 2 false rfl rfl (by kernel_rfl) (by first | exact v_fieldAddr ty125 fo125_3 ty123 rfl | exact v_fieldAddr_box ty125 fo125_3 ty123 rfl) rfl rfl ?_
    refine m_tk 3 true rfl rfl (by kernel_rfl) (by first | exact v_load ty123 rfl rfl (by first | rfl | assumption) (by first | assumption | exact map_get (by assumption) | rfl) rfl | exact v_load_box ty123 rfl rfl hww (by rfl)) rfl rfl ?_
    refine m_takel 4 rfl rfl (by kernel_rfl) (by kernel_rfl) (by kernel_rfl) (fun _ _ _ _ h => h) (vl_fieldAddr ty87 fo87_2 ty3 rfl) rfl rfl ?_
    refine m_tk 5 true rfl rfl (by kernel_rfl) (v_loadl ty3 rfl rfl rfl rfl) rfl rfl ?_
    refine m_tk 6 false rfl rfl (by kernel_rfl) (v_move rfl) rfl rfl ?_
    refine m_one 7 (by kernel_rfl) rfl rfl ?_
    refine sm_any rfl (s_mapUpdate ty123 ty3 rfl rfl rfl hmm (.inl (by show h mr ≠ none; rw [hA.mm]; simp)) ?_)
    rw [mput_mmap encRs]
    refine m_done (by kernel_rfl) ?_
    refine g_next hK7 ?_
    refine g_seq (fun K8 hK8 => ?_)
    refine g_region ?_
    refine g_step rfl (s_val (v_assign rfl) rfl rfl ?_)
    refine g_nil ?_
    refine g_next hK8 ?_
    refine g_ret ?_
    refine g_end1 (.inl rfl) Try.results98 (.tmp rfl) [(mr, lmRow (pput s.post x.other l))] (ASub.refl _) (AHeap.sub_refl _) (((EffTo.refl h w0.heap.size).write (b := mr) (lmRow (pput s.post x.other l)) (.inl (by rw [hA.mm]; simp))).ok hG) ⟨by rw [hA0]; rfl, _, (EffTo.refl h w0.heap.size).write (b := mr) (lmRow (pput s.post x.other l)) (.inl (by rw [hA.mm]; simp)), by rw [hA0]; exact ⟨tr, cr, mr, pt, rs, ls, hA.post _, htl⟩⟩

end Go.Proofs.Ytgipbhfblmblcaa

import Derived.Test.YtgipbhfblmblcaaRec2
import Derived.Test.YtgipbhfblmblcaaLattice
import Derived.Test.YtgipbhfblmblcaaIns
import Derived.Test.YtgipbhfblmblcaaPMember
set_option maxHeartbeats 8000000
set_option linter.unusedSimpArgs false
set_option linter.unusedVariables false
set_option maxRecDepth 100000
namespace Go.Proofs.Ytgipbhfblmblcaa
open Go Go.Proofs.Ytgipbhfblmblcaa.AM
theorem putO_ok (l : List Rc) (r : Rc) (G : AHeap) (va : AV) (hva : va.view G = some (l.map encR)) (hl : l.length ≤ 1000000) (hll : ∀ x ∈ l, Small x.bag) (hr : Small r.bag) : LCalls Try.prog 60 [va, encR r] G noD (fun n v effs => OwnR n 7 v ((rput l r).map encR) effs) := by
 refine LCalls.intro 44 fi60 rfl Try.ntmps60 rfl (fun _ h => h.elim) (fun H hH w0 hw0 => ?_)
 have hva := view_sub hH hva
 refine g_seq (fun K0 hK0 => ?_)
 refine g_region ?_
 refine g_step rfl (s_box rfl rfl rfl rfl ?_)
 refine g_step rfl (s_val (v_assign rfl) rfl rfl ?_)
 refine g_nil ?_
 refine g_next hK0 ?_
 refine g_seq (fun K1 hK1 => ?_)
 refine g_region ?_
 refine g_expose 3 rfl rfl (fun r3 hr3 hw3 => ?_)
 refine g_step rfl (s_val (v_move rfl) rfl rfl ?_)
 refine g_step rfl (s_call rfl rfl rfl (recCopyO_ok l _ va (view_sub (AHeap.sub_set (AHeap.sub_refl _) hr3) hva) hl hll) (fun _ h => h.elim) ?_)
 rintro n1 av effs1 hn1 hdom1 hR1 hok1
 have hown := hR1.own (n0 := w0.heap.size) hn1 hdom1
 generalize setAll (AHeap.set H r3 (.box (encR r))) effs1 = G1 at hown ⊢
 have hb := hown.sub _ _ (AHeap.get_set H r3 (.box (encR r)))
 have hva2 : va.view G1 = some (l.map encR) := view_sub hown.sub (view_sub (AHeap.sub_set (AHeap.sub_refl _) hr3) hva)
 have hov := hown.view
 refine g_step rfl (s_val (v_assign rfl) rfl rfl ?_)
 refine g_nil ?_
 refine g_next hK1 ?_
 refine g_seq (fun K2 hK2 => ?_)
 refine g_seq (fun K3 hK3 => ?_)
 refine g_region ?_
 refine g_step rfl (s_val (v_move rfl) rfl rfl ?_)
 refine g_step rfl (s_val (v_makeFunc rfl) rfl rfl ?_)
 refine g_step rfl (s_callp rfl rfl rfl (where_ok l 87 [.box r3 0] (fun x => decide (x.id = r.id)) _ va hva2 hl (fun x hx H' h' => put1_ok r3 r x H' (h' _ _ hb))) ?_)
 rintro _ rfl
 refine g_step rfl (s_val (v_assign rfl) rfl rfl ?_)
 refine g_nil ?_
 refine g_next hK3 ?_
 refine g_seq (fun K4 hK4 => ?_)
 refine g_region ?_
 refine g_step rfl (s_val (v_move rfl) rfl rfl ?_)
 refine g_step rfl (s_val (v_move rfl) rfl rfl ?_)
 refine g_step rfl (s_val (v_len ty22 rfl hva2 (by first | exact List.length_map .. | rfl)) rfl rfl ?_)
 refine g_step rfl (s_val (v_lss rfl rfl) rfl rfl ?_)
 refine g_nil ?_
 refine g_next hK4 ?_
 refine g_cond rfl (fun hc16 => ?_) (fun hc16 => ?_)
 ·
  try simp only [NM] at hc16
  obtain ⟨x, hx⟩ := get_some (l := l) (k := idx (fun x => decide (x.id = r.id)) l) (by omega)
  refine g_seq (fun K5 hK5 => ?_)
  refine g_region ?_
  refine g_step rfl (s_val (v_move rfl) rfl rfl ?_)
  refine g_step rfl (s_val (v_move rfl) rfl rfl ?_)
  refine g_step rfl (s_val (by first | exact v_load_elt ty46 rfl rfl (by first | rfl | assumption) (by first | assumption | exact map_get (by assumption) | rfl) rfl rfl | exact v_load_box_all ty46 rfl rfl (by assumption) rfl rfl | exact v_load_part (cs := [_, _, _, _, _, _, _]) ty46 rfl rfl (by first | rfl | assumption) (by first | assumption | exact map_get (by assumption) | rfl) rfl rfl rfl | exact v_load_box_part (cs := [_, _, _, _, _, _, _]) ty46 rfl rfl (by assumption) rfl rfl rfl) rfl rfl ?_)
  refine g_step rfl (s_callp rfl rfl rfl (clone_ok r _ hr) ?_)
  rintro _ rfl
  refine g_step rfl (s_val (v_indexAddr ty22 ty46 rfl rfl hov (by first | rfl | exact (rfl : (0 : Int) = ((0 : Nat) : Int)) | exact (Int.toNat_of_nonneg (by omega)).symm) (by first | assumption | exact map_get (by assumption) | rfl) rfl) rfl rfl ?_)
  refine g_step rfl (s_store_own (k := idx (fun x => decide (x.id = r.id)) l) (off := 0) (old := encR x) (new := encR r) ty46 rfl rfl hown (map_get hx) rfl rfl rfl rfl ?_)
  intro G21 hown21
  rw [← List.map_set] at hown21
  refine g_nil ?_
  refine g_next hK5 ?_
  refine g_seq (fun K6 hK6 => ?_)
  refine g_region ?_
  refine g_step rfl (s_val (v_move rfl) rfl rfl ?_)
  obtain ⟨e, he1, he2, he3⟩ := hown21.effs
  refine g_step rfl (s_val (v_assign rfl) rfl rfl ?_)
  refine g_nil ?_
  refine g_next hK6 ?_
  refine g_ret ?_
  refine g_then_ret ?_
  refine g_end1 (.inl rfl) Try.results60 (.tmp rfl) e (ASub.refl _) (by rw [← he3]; exact setAll_mono (AHeap.sub_set (AHeap.sub_refl _) hr3) e) (fun q hq => .inr (he2 q hq)) (by rw [rput_hit (by omega)]; exact he1)
 ·
  try simp only [NM] at hc16
  refine g_skip ?_
  refine g_next hK2 ?_
  refine g_seq (fun K7 hK7 => ?_)
  refine g_region ?_
  refine g_step rfl (s_val (v_move rfl) rfl rfl ?_)
  refine g_step rfl (s_val (v_makeFunc rfl) rfl rfl ?_)
  refine g_step rfl (s_callp rfl rfl rfl (where_ok l 88 [.box r3 0] (fun x => decide (r.id < x.id)) _ va hva2 hl (fun x hx H' h' => put2_ok r3 r x H' (h' _ _ hb))) ?_)
  rintro _ rfl
  refine g_step rfl (s_val (v_assign rfl) rfl rfl ?_)
  refine g_nil ?_
  refine g_next hK7 ?_
  refine g_seq (fun K8 hK8 => ?_)
  refine g_region ?_
  have hil := idx_le (fun x => decide (r.id < x.id)) l
  refine g_step rfl (s_val (v_move rfl) rfl rfl ?_)
  refine g_step rfl (s_val (v_sub (b := (encR rzero)) (v_build (vs := []) (zs := [(.int .i64 0), (.int .i64 0), (.int .i64 0), (.int .i64 0), (.int .i64 0), (.bool false), .nil0]) (cells := [_, _, _, _, _, _, _]) ty46 pl46 rfl rfl rfl) (ASub.of_wk rfl)) rfl rfl ?_)
  refine g_step rfl (s_lit ty22 ty46 rfl rfl rfl rfl rfl rfl rfl ?_)
  refine g_step rfl (s_append (l := (l.map encR)) (m := ([rzero].map encR)) ty22 ty46 rfl rfl hown rfl rfl (by refine Even.map _ ?_ _; intro _; rfl) (by intro x hx; obtain ⟨_, _, rfl⟩ := List.mem_map.1 hx; rfl) rfl (by simp; omega) (by simp; omega) ?_)
  intro av29 G29 hown29
  rw [← List.map_append] at hown29
  obtain ⟨p, hp1, hp2, rfl, rfl⟩ := hown29.resolve_left (by rintro ⟨_, h0, _⟩; simp at h0)
  rcases Nat.lt_or_ge (idx (fun x => decide (r.id < x.id)) l) l.length with hi | hi
  ·
   refine g_step rfl (s_val (v_assign rfl) rfl rfl ?_)
   refine g_nil ?_
   refine g_next hK8 ?_
   refine g_seq (fun K9 hK9 => ?_)
   refine g_draw (n := 8) (fun j => !([7] : List Nat).contains j) rfl rfl ?_
   refine m_tk 0 false rfl rfl (by kernel_rfl) (v_move rfl) rfl rfl ?_
   refine m_tk 1 false rfl rfl (by kernel_rfl) (v_move rfl) rfl rfl ?_
   refine m_tk 2 false rfl rfl (by kernel_rfl) (v_add rfl rfl (by omega)) rfl rfl ?_
   refine m_tk 3 false rfl rfl (by kernel_rfl) (v_slice_own (lo := ((idx (fun x => decide (r.id < x.id)) l) + 1)) (hi := (l.length + 1)) ty22 ty46 rfl rfl rfl (by simp) (by simp) (by omega) (by simp) (.inr (by simp; omega))) rfl rfl ?_
   refine m_tk 4 false rfl rfl (by kernel_rfl) (v_move rfl) rfl rfl ?_
   refine m_tk 5 false rfl rfl (by kernel_rfl) (v_move rfl) rfl rfl ?_
   refine m_tk 6 false rfl rfl (by kernel_rfl) (v_slice_own (lo := (idx (fun x => decide (r.id < x.id)) l)) (hi := (l.length + 1)) ty22 ty46 rfl rfl rfl rfl (by simp) (by omega) (by simp) (.inr (by simp; omega))) rfl rfl ?_
   refine m_one 7 (by kernel_rfl) rfl rfl ?_
   refine sm_any rfl (s_copy (l := ((l ++ [rzero]).map encR)) (m := (((l ++ [rzero]).drop (idx (fun x => decide (r.id < x.id)) l)).map encR)) (l' := (((l ++ [rzero]).take ((idx (fun x => decide (r.id < x.id)) l) + 1) ++ ((l ++ [rzero]).drop (idx (fun x => decide (r.id < x.id)) l)).take (l.length - (idx (fun x => decide (r.id < x.id)) l)) ++ (l ++ [rzero]).drop (l.length + 1)).map encR)) (k := (l.length - (idx (fun x => decide (r.id < x.id)) l))) ty22 ty46 rfl rfl (AHeap.get_set _ _ _) (by simp; omega) rfl (by rw [AV.view_own (AHeap.get_set _ _ _) (by simp; omega)]; congr 1; rw [Nat.zero_add, List.map_drop, List.take_of_length_le (by simp)]) (by refine Even.map _ ?_ _; intro _; rfl) (by intro x hx; obtain ⟨_, _, rfl⟩ := List.mem_map.1 hx; rfl) (.inr hp2) (by simp; omega) (by rw [Nat.zero_add, show (idx (fun x => decide (r.id < x.id)) l) + 1 + (l.length - (idx (fun x => decide (r.id < x.id)) l)) = l.length + 1 by omega]; simp only [List.map_append, List.map_take, List.map_drop]) ?_)
   rw [AHeap.set_set]
   obtain ⟨w, hw⟩ := get_some (l := ((l ++ [rzero]).take ((idx (fun x => decide (r.id < x.id)) l) + 1) ++ ((l ++ [rzero]).drop (idx (fun x => decide (r.id < x.id)) l)).take (l.length - (idx (fun x => decide (r.id < x.id)) l)) ++ (l ++ [rzero]).drop (l.length + 1))) (k := (idx (fun x => decide (r.id < x.id)) l)) (by simp; omega)
   have hown8 : Own w0.heap.size 7 (H.set r3 (.box (encR r))) (.own p 7 0 (List.map encR (l ++ [rzero])).length) (((l ++ [rzero]).take ((idx (fun x => decide (r.id < x.id)) l) + 1) ++ ((l ++ [rzero]).drop (idx (fun x => decide (r.id < x.id)) l)).take (l.length - (idx (fun x => decide (r.id < x.id)) l)) ++ (l ++ [rzero]).drop (l.length + 1)).map encR) _ := .inr ⟨p, hp1, hp2, by congr 1; simp; omega, rfl⟩
   have hb8 := hown8.sub _ _ (AHeap.get_set H r3 (.box (encR r)))
   refine m_done (by kernel_rfl) ?_
   refine g_next hK9 ?_
   first | refine g_keep [3, 5, 7] [] [] (keep_cons rfl (keep_cons rfl (keep_cons rfl keep_nil))) lkeep_nil keep_nil rfl ?_ | refine g_keep [3, 5, 7] [] [] rfl rfl rfl rfl ?_
   refine g_seq (fun K10 hK10 => ?_)
   refine g_region ?_
   refine g_step rfl (s_val (v_move rfl) rfl rfl ?_)
   refine g_step rfl (s_val (v_move rfl) rfl rfl ?_)
   skip
   refine g_step rfl (s_val (by first | exact v_load_elt ty46 rfl rfl (by first | rfl | assumption) (by first | assumption | exact map_get (by assumption) | rfl) rfl rfl | exact v_load_box_all ty46 rfl rfl (by assumption) rfl rfl | exact v_load_part (cs := [_, _, _, _, _, _, _]) ty46 rfl rfl (by first | rfl | assumption) (by first | assumption | exact map_get (by assumption) | rfl) rfl rfl rfl | exact v_load_box_part (cs := [_, _, _, _, _, _, _]) ty46 rfl rfl (by assumption) rfl rfl rfl) rfl rfl ?_)
   refine g_step rfl (s_callp rfl rfl rfl (clone_ok r _ hr) ?_)
   rintro _ rfl
   refine g_step rfl (s_val (v_indexAddr ty22 ty46 rfl rfl hown8.view (by first | rfl | exact (rfl : (0 : Int) = ((0 : Nat) : Int)) | exact (Int.toNat_of_nonneg (by omega)).symm) (map_get hw) rfl) rfl rfl ?_)
   refine g_step rfl (s_store_own (k := (idx (fun x => decide (r.id < x.id)) l)) (off := 0) (old := encR w) (new := encR r) ty46 rfl rfl hown8 (map_get hw) rfl rfl rfl rfl ?_)
   intro G42 hown42
   rw [← List.map_set, ins_eq l rzero r _ hil] at hown42
   refine g_nil ?_
   refine g_next hK10 ?_
   refine g_seq (fun K11 hK11 => ?_)
   refine g_region ?_
   refine g_step rfl (s_val (v_move rfl) rfl rfl ?_)
   obtain ⟨e, he1, he2, he3⟩ := hown42.effs
   refine g_step rfl (s_val (v_assign rfl) rfl rfl ?_)
   refine g_nil ?_
   refine g_next hK11 ?_
   refine g_ret ?_
   refine g_end1 (.inl rfl) Try.results60 (.tmp rfl) e (ASub.refl _) (by rw [← he3]; exact setAll_mono (AHeap.sub_set (AHeap.sub_refl _) hr3) e) (fun q hq => .inr (he2 q hq)) (by rw [rput_miss (by omega)]; exact he1)
  ·
   refine g_step rfl (s_val (v_assign rfl) rfl rfl ?_)
   refine g_nil ?_
   refine g_next hK8 ?_
   refine g_seq (fun K12 hK12 => ?_)
   refine g_draw (n := 8) (fun j => !([7] : List Nat).contains j) rfl rfl ?_
   refine m_tk 0 false rfl rfl (by kernel_rfl) (v_move rfl) rfl rfl ?_
   refine m_tk 1 false rfl rfl (by kernel_rfl) (v_move rfl) rfl rfl ?_
   refine m_tk 2 false rfl rfl (by kernel_rfl) (v_add rfl rfl (by omega)) rfl rfl ?_
   refine m_tk 3 false rfl rfl (by kernel_rfl) (v_slice_empty (lo := l.length + 1) ty22 ty46 rfl rfl rfl (by simp; omega) (by simp) (by simp)) rfl rfl ?_
   refine m_tk 4 false rfl rfl (by kernel_rfl) (v_move rfl) rfl rfl ?_
   refine m_tk 5 false rfl rfl (by kernel_rfl) (v_move rfl) rfl rfl ?_
   refine m_tk 6 false rfl rfl (by kernel_rfl) (v_slice_own (lo := (idx (fun x => decide (r.id < x.id)) l)) (hi := (l.length + 1)) ty22 ty46 rfl rfl rfl rfl (by simp) (by omega) (by simp) (.inr (by simp; omega))) rfl rfl ?_
   refine m_one 7 (by kernel_rfl) rfl rfl ?_
   refine sm_any rfl (s_copy_nil (m := (((l ++ [rzero]).drop (idx (fun x => decide (r.id < x.id)) l)).map encR)) ty22 ty46 rfl rfl rfl (by rw [AV.view_own (AHeap.get_set _ _ _) (by simp; omega)]; congr 1; rw [Nat.zero_add, List.map_drop, List.take_of_length_le (by simp)]) (by refine Even.map _ ?_ _; intro _; rfl) ?_)
   refine m_done (by kernel_rfl) ?_
   refine g_next hK12 ?_
   first | refine g_keep [3, 5, 7] [] [] (keep_cons rfl (keep_cons rfl (keep_cons rfl keep_nil))) lkeep_nil keep_nil rfl ?_ | refine g_keep [3, 5, 7] [] [] rfl rfl rfl rfl ?_
   refine g_seq (fun K13 hK13 => ?_)
   refine g_region ?_
   have hie : (idx (fun x => decide (r.id < x.id)) l) = l.length := by omega
   have hown8 : Own w0.heap.size 7 (H.set r3 (.box (encR r))) (.own p 7 0 (List.map encR (l ++ [rzero])).length) ((l ++ [rzero]).map encR) _ := .inr ⟨p, hp1, hp2, rfl, rfl⟩
   have hb8 := hown8.sub _ _ (AHeap.get_set H r3 (.box (encR r)))
   obtain ⟨w, hw⟩ := get_some (l := (l ++ [rzero])) (k := (idx (fun x => decide (r.id < x.id)) l)) (by simp; omega)
   refine g_step rfl (s_val (v_move rfl) rfl rfl ?_)
   refine g_step rfl (s_val (v_move rfl) rfl rfl ?_)
   refine g_step rfl (s_val (by first | exact v_load_elt ty46 rfl rfl (by first | rfl | assumption) (by first | assumption | exact map_get (by assumption) | rfl) rfl rfl | exact v_load_box_all ty46 rfl rfl (by assumption) rfl rfl | exact v_load_part (cs := [_, _, _, _, _, _, _]) ty46 rfl rfl (by first | rfl | assumption) (by first | assumption | exact map_get (by assumption) | rfl) rfl rfl rfl | exact v_load_box_part (cs := [_, _, _, _, _, _, _]) ty46 rfl rfl (by assumption) rfl rfl rfl) rfl rfl ?_)
   refine g_step rfl (s_callp rfl rfl rfl (clone_ok r _ hr) ?_)
   rintro _ rfl
   refine g_step rfl (s_val (v_indexAddr ty22 ty46 rfl rfl hown8.view (by first | rfl | exact (rfl : (0 : Int) = ((0 : Nat) : Int)) | exact (Int.toNat_of_nonneg (by omega)).symm) (map_get hw) rfl) rfl rfl ?_)
   refine g_step rfl (s_store_own (k := (idx (fun x => decide (r.id < x.id)) l)) (off := 0) (old := encR w) (new := encR r) ty46 rfl rfl hown8 (map_get hw) rfl rfl rfl rfl ?_)
   intro G42 hown42
   rw [← List.map_set, hie, ins_end, ← hie] at hown42
   refine g_nil ?_
   refine g_next hK13 ?_
   refine g_seq (fun K14 hK14 => ?_)
   refine g_region ?_
   refine g_step rfl (s_val (v_move rfl) rfl rfl ?_)
   obtain ⟨e, he1, he2, he3⟩ := hown42.effs
   refine g_step rfl (s_val (v_assign rfl) rfl rfl ?_)
   refine g_nil ?_
   refine g_next hK14 ?_
   refine g_ret ?_
   refine g_end1 (.inl rfl) Try.results60 (.tmp rfl) e (ASub.refl _) (by rw [← he3]; exact setAll_mono (AHeap.sub_set (AHeap.sub_refl _) hr3) e) (fun q hq => .inr (he2 q hq)) (by rw [rput_miss (by omega)]; exact he1)

theorem ixRc_ok (l : List Rc) (f : Nat) (caps : List AV) (p : Rc → Bool) (G : AHeap) (va : AV) (hva : va.view G = some (l.map encR)) (hl : l.length ≤ 1000000) (hcall : ∀ x ∈ l, ∀ H', G.sub H' → PCalls Try.prog f ([encR x] ++ caps) H' (fun v => v = .bool (p x))) : PCalls Try.prog 85 [va, .fn (.func f) caps] G (fun v => v = .int .i64 (fidxZ p l)) := by
 refine LCalls.intro 19 fi85 rfl Try.ntmps85 rfl (fun _ h => h.elim) (fun H hH w0 hw0 => ?_)
 have hva := view_sub hH hva
 refine g_seq (fun K0 hK0 => ?_)
 refine g_region ?_
 refine g_step rfl (s_val (v_assign rfl) rfl rfl ?_)
 refine g_nil ?_
 refine g_next hK0 ?_
 refine g_seq (fun K1 hK1 => ?_)
 refine g_seq (fun K2 hK2 => ?_)
 refine g_region ?_
 refine g_step rfl (s_val (v_move rfl) rfl rfl ?_)
 refine g_step rfl (s_val (v_len ty22 rfl (by first | rfl | assumption) (by first | exact List.length_map .. | rfl)) rfl rfl ?_)
 refine g_step rfl (s_val (v_move rfl) rfl rfl ?_)
 refine g_nil ?_
 refine g_next hK2 ?_
 refine g_block ?_
 first | refine g_keep [0, 1, 7, 8] [] [] (keep_cons rfl (keep_cons rfl (keep_cons rfl (keep_cons rfl keep_nil)))) lkeep_nil keep_nil rfl ?_ | refine g_keep [0, 1, 7, 8] [] [] rfl rfl rfl rfl ?_
 refine g_loop (fun n env L B G => ∃ (k : Nat) , k ≤ l.length ∧ n = l.length - k ∧ env = [(0, va), (1, .fn (.func f) caps), (7, .int .i64 (l.length : Int)), (8, .int .i64 (k : Int))] ∧ L = [] ∧ B = [] ∧ H = G ∧ fidx p (l.drop k) + k = fidx p l) (l.length) ⟨0, Nat.zero_le _, rfl, rfl, rfl, rfl, rfl, rfl⟩ (fun n env L B G hI => ?_)
 obtain ⟨k, hk, rfl, rfl, rfl, rfl, rfl, hc⟩ := hI
 refine g_seq (fun K3 hK3 => ?_)
 refine g_region ?_
 refine g_step rfl (s_val (v_lss rfl rfl) rfl rfl ?_)
 refine g_nil ?_
 refine g_next hK3 ?_
 refine g_seq (fun K4 hK4 => ?_)
 refine g_cond rfl (fun hc9 => ?_) (fun hc9 => ?_)
 ·
  try simp only [NM] at hc9
  obtain ⟨x, hx⟩ := get_some (l := l) (k := k) (by omega)
  refine g_skip ?_
  refine g_next hK4 ?_
  refine g_seq (fun K5 hK5 => ?_)
  refine g_block ?_
  refine g_seq (fun K6 hK6 => ?_)
  refine g_region ?_
  refine g_step rfl (s_val (v_move rfl) rfl rfl ?_)
  refine g_step rfl (s_val (v_assign rfl) rfl rfl ?_)
  refine g_nil ?_
  refine g_next hK6 ?_
  refine g_seq (fun K7 hK7 => ?_)
  refine g_region ?_
  refine g_step rfl (s_val (v_move rfl) rfl rfl ?_)
  refine g_step rfl (s_val (v_move rfl) rfl rfl ?_)
  refine g_step rfl (s_val (v_move rfl) rfl rfl ?_)
  refine g_step rfl (s_val (v_indexAddr ty22 ty46 rfl rfl (by first | rfl | assumption) (by first | rfl | exact (rfl : (0 : Int) = ((0 : Nat) : Int)) | exact (Int.toNat_of_nonneg (by omega)).symm) (by first | assumption | exact map_get (by assumption) | rfl) rfl) rfl rfl ?_)
  refine g_step rfl (s_val (by first | exact v_load_elt ty46 rfl rfl (by first | rfl | assumption) (by first | assumption | exact map_get (by assumption) | rfl) rfl rfl | exact v_load_box_all ty46 rfl rfl (by assumption) rfl rfl | exact v_load_part (cs := [_, _, _, _, _, _, _]) ty46 rfl rfl (by first | rfl | assumption) (by first | assumption | exact map_get (by assumption) | rfl) rfl rfl rfl | exact v_load_box_part (cs := [_, _, _, _, _, _, _]) ty46 rfl rfl (by assumption) rfl rfl rfl) rfl rfl ?_)
  refine g_step rfl (s_callp rfl rfl rfl (hcall x (mem_get hx) _ hH) ?_)
  rintro _ rfl
  refine g_nil ?_
  refine g_next hK7 ?_
  refine g_cond rfl (fun hc16 => ?_) (fun hc16 => ?_)
  ·
   try simp only [NM] at hc16
   refine g_seq (fun K8 hK8 => ?_)
   refine g_region ?_
   refine g_step rfl (s_val (v_move rfl) rfl rfl ?_)
   refine g_step rfl (s_val (v_assign rfl) rfl rfl ?_)
   refine g_nil ?_
   refine g_next hK8 ?_
   refine g_ret ?_
   refine g_block_ret ?_
   refine g_then_ret ?_
   refine g_then_ret ?_
   refine g_block_ret ?_
   refine g_then_ret ?_
   refine g_end1 (.inl rfl) Try.results85 (.tmp rfl) [] (ASub.refl _) (AHeap.sub_refl _) (fun p hp => by cases hp) ⟨rfl, ?_⟩
   first | (rw [fidxZ, fidx_hit hc hx hc16, if_pos (by omega)]; done) | (rw [fidxZ, fidx_hit hc hx hc16, if_pos (by omega)]; rfl)
  ·
   try simp only [NM] at hc16
   refine g_skip ?_
   refine g_block_normal ?_
   refine g_next hK5 ?_
   refine g_region ?_
   refine g_step rfl (s_val (v_add rfl rfl (by omega)) rfl rfl ?_)
   refine g_step rfl (s_val (v_move rfl) rfl rfl ?_)
   refine g_nil ?_
   first | refine g_keep [0, 1, 7, 8] [] [] (keep_cons rfl (keep_cons rfl (keep_cons rfl (keep_cons rfl keep_nil)))) lkeep_nil keep_nil rfl ?_ | refine g_keep [0, 1, 7, 8] [] [] rfl rfl rfl rfl ?_
   exact g_round _ (by omega) ⟨k + 1, by omega, rfl, rfl, rfl, rfl, rfl, fidx_miss hc hx hc16⟩
 ·
  try simp only [NM] at hc9
  obtain rfl : k = l.length := by omega
  refine g_exit ?_
  refine g_then_exit ?_
  refine g_then_exit ?_
  refine g_block_same ?_
  refine g_next hK1 ?_
  refine g_seq (fun K9 hK9 => ?_)
  refine g_region ?_
  refine g_step rfl (s_val (v_assign rfl) rfl rfl ?_)
  refine g_nil ?_
  refine g_next hK9 ?_
  refine g_ret ?_
  refine g_end1 (.inl rfl) Try.results85 (.tmp rfl) [] (ASub.refl _) (AHeap.sub_refl _) (fun p hp => by cases hp) ⟨rfl, ?_⟩
  first | (rw [fidxZ, fidx_end hc, if_neg (by omega)]; done) | (rw [fidxZ, fidx_end hc, if_neg (by omega)]; rfl)

theorem at1_ok (b : Nat) (id : Int) (x : Rc) (G : AHeap) (hG : G b = some (.box (.int .i64 id))) : PCalls Try.prog 86 [encR x, .box b 0] G (fun v => v = .bool (hasId id x)) := by
 refine LCalls.intro 8 fi86 rfl Try.ntmps86 rfl (fun _ h => h.elim) (fun H hH w0 hw0 => ?_)
 have hG := hH _ _ hG
 refine g_seq (fun K0 hK0 => ?_)
 refine g_region ?_
 refine g_step rfl (s_box rfl rfl rfl rfl ?_)
 refine g_step rfl (s_val (v_assign rfl) rfl rfl ?_)
 refine g_nil ?_
 refine g_next hK0 ?_
 refine g_seq (fun K1 hK1 => ?_)
 refine g_region ?_
 refine g_step rfl (s_fieldAddr ty46 fo46_0 ty3 rfl rfl ?_)
 refine g_step rfl (s_val (v_loadl ty3 rfl rfl rfl rfl) rfl rfl ?_)
 refine g_step rfl (s_val (by first | exact v_load ty3 rfl rfl (by first | rfl | assumption) (by first | assumption | exact map_get (by assumption) | rfl) rfl | exact v_load_box ty3 rfl rfl (by assumption) rfl) rfl rfl ?_)
 refine g_step rfl (s_val (v_eql rfl rfl) rfl rfl ?_)
 refine g_step rfl (s_val (v_assign rfl) rfl rfl ?_)
 refine g_nil ?_
 refine g_next hK1 ?_
 refine g_ret ?_
 refine g_end1 (.inl rfl) Try.results86 (.tmp rfl) [] (ASub.refl _) (AHeap.sub_refl _) (fun p hp => by cases hp) ⟨rfl, ?_⟩
 rfl

theorem at_ok (p r : Nat) (me room : Int) (l : List Rc) (id : Int) (G : AHeap) (hT : Tb G p r me room l) (hl : l.length ≤ 1000) (hs : ∀ x ∈ l, Small x.bag) : PCalls Try.prog 59 [.box p 0, .int .i64 id] G (fun v => v = .int .i64 (fidxZ (hasId id) l)) := by
 refine LCalls.intro 13 fi59 rfl Try.ntmps59 rfl (fun _ h => h.elim) (fun H hH w0 hw0 => ?_)
 have hT1 := hT.mono hH
 refine g_seq (fun K0 hK0 => ?_)
 refine g_region ?_
 refine g_step rfl (s_box rfl rfl rfl rfl ?_)
 refine g_step rfl (s_val (v_assign rfl) rfl rfl ?_)
 refine g_nil ?_
 refine g_next hK0 ?_
 refine g_seq (fun K1 hK1 => ?_)
 refine g_seq (fun K2 hK2 => ?_)
 refine g_region ?_
 refine g_step rfl (s_val (v_move rfl) rfl rfl ?_)
 refine g_step rfl (s_val (by first | exact v_ptr_eql_nil ty48 rfl rfl rfl | exact v_nil_eql_nil ty48 rfl rfl | exact v_ptrO_eql ty48 rfl rfl) rfl rfl ?_)
 refine g_nil ?_
 refine g_next hK2 ?_
 refine g_cond rfl (fun hc6 => ?_) (fun hc6 => ?_)
 · exfalso; (try simp only [NM] at hc6); simp at hc6
 ·
  try simp only [NM] at hc6
  refine g_skip ?_
  refine g_next hK1 ?_
  refine g_seq (fun K3 hK3 => ?_)
  refine g_region ?_
  refine g_step rfl (s_val (v_move rfl) rfl rfl ?_)
  refine g_step rfl (s_val (v_nilCheck rfl rfl) rfl rfl ?_)
  refine g_step rfl (s_val (by first | exact v_fieldAddr ty110 fo110_2 ty22 rfl | exact v_fieldAddr_box ty110 fo110_2 ty22 rfl) rfl rfl ?_)
  refine g_step rfl (s_val (by first | exact v_load ty22 rfl rfl (by first | rfl | assumption) (by first | assumption | exact map_get (by assumption) | rfl) rfl | exact v_load_box ty22 rfl rfl hT1.tp (by rfl)) rfl rfl ?_)
  refine g_expose 3 rfl rfl (fun r3 hr3 hw3 => ?_)
  refine g_step rfl (s_val (v_makeFunc rfl) rfl rfl ?_)
  refine g_step rfl (s_callp rfl rfl rfl (ixRc_ok l 86 [.box r3 0] (hasId id) _ (.own r 7 0 l.length) (view_sub (AHeap.sub_set (AHeap.sub_refl _) hr3) hT1.view) (by omega) (fun x hx H' h' => at1_ok r3 id x H' (h' _ _ (AHeap.get_set _ _ _)))) ?_)
  rintro _ rfl
  refine g_step rfl (s_val (v_assign rfl) rfl rfl ?_)
  refine g_nil ?_
  refine g_next hK3 ?_
  refine g_ret ?_
  refine g_end1 (.inl rfl) Try.results59 (.tmp rfl) [] (ASub.refl _) (AHeap.sub_set (AHeap.sub_refl _) hr3) (fun p hp => by cases hp) ⟨rfl, ?_⟩
  rfl

theorem mid_ok (p r : Nat) (me room : Int) (l : List Rc) (G : AHeap) (hT : Tb G p r me room l) (hl : l.length ≤ 1000) (hs : ∀ x ∈ l, Small x.bag) : PCalls Try.prog 62 [.box p 0] G (fun v => v = .int .i64 me) := by
 refine LCalls.intro 9 fi62 rfl Try.ntmps62 rfl (fun _ h => h.elim) (fun H hH w0 hw0 => ?_)
 have hT1 := hT.mono hH
 refine g_seq (fun K0 hK0 => ?_)
 refine g_region ?_
 refine g_step rfl (s_val (v_assign rfl) rfl rfl ?_)
 refine g_nil ?_
 refine g_next hK0 ?_
 refine g_seq (fun K1 hK1 => ?_)
 refine g_seq (fun K2 hK2 => ?_)
 refine g_region ?_
 refine g_step rfl (s_val (v_move rfl) rfl rfl ?_)
 refine g_step rfl (s_val (by first | exact v_ptr_eql_nil ty48 rfl rfl rfl | exact v_nil_eql_nil ty48 rfl rfl | exact v_ptrO_eql ty48 rfl rfl) rfl rfl ?_)
 refine g_nil ?_
 refine g_next hK2 ?_
 refine g_cond rfl (fun hc4 => ?_) (fun hc4 => ?_)
 · exfalso; (try simp only [NM] at hc4); simp at hc4
 ·
  try simp only [NM] at hc4
  refine g_skip ?_
  refine g_next hK1 ?_
  refine g_seq (fun K3 hK3 => ?_)
  refine g_region ?_
  refine g_step rfl (s_val (v_move rfl) rfl rfl ?_)
  refine g_step rfl (s_val (v_nilCheck rfl rfl) rfl rfl ?_)
  refine g_step rfl (s_val (by first | exact v_fieldAddr ty110 fo110_0 ty3 rfl | exact v_fieldAddr_box ty110 fo110_0 ty3 rfl) rfl rfl ?_)
  refine g_step rfl (s_val (by first | exact v_load ty3 rfl rfl (by first | rfl | assumption) (by first | assumption | exact map_get (by assumption) | rfl) rfl | exact v_load_box ty3 rfl rfl hT1.tp (by rfl)) rfl rfl ?_)
  refine g_step rfl (s_val (v_assign rfl) rfl rfl ?_)
  refine g_nil ?_
  refine g_next hK3 ?_
  refine g_ret ?_
  refine g_end1 (.inl rfl) Try.results62 (.tmp rfl) [] (ASub.refl _) (AHeap.sub_refl _) (fun p hp => by cases hp) ⟨rfl, ?_⟩
  rfl

theorem own_ok (p r : Nat) (me room : Int) (l : List Rc) (G : AHeap) (hT : Tb G p r me room l) (hl : l.length ≤ 1000) (hs : ∀ x ∈ l, Small x.bag) (i : Nat) (o : Rc) (hi : l[i]? = some o) (hf : fidx (hasId me) l = i) (hz : fidxZ (hasId me) l = (i : Int)) (hfo : fnd l me = some o) : PCalls Try.prog 84 [.box p 0] G (fun v => v = .elp (.own r 7 0 l.length) i 0) := by
 refine LCalls.intro 16 fi84 rfl Try.ntmps84 rfl (fun _ h => h.elim) (fun H hH w0 hw0 => ?_)
 have hT1 := hT.mono hH
 refine g_seq (fun K0 hK0 => ?_)
 refine g_region ?_
 refine g_step rfl (s_val (v_assign rfl) rfl rfl ?_)
 refine g_nil ?_
 refine g_next hK0 ?_
 refine g_seq (fun K1 hK1 => ?_)
 refine g_seq (fun K2 hK2 => ?_)
 refine g_region ?_
 refine g_step rfl (s_val (v_move rfl) rfl rfl ?_)
 refine g_step rfl (s_val (v_move rfl) rfl rfl ?_)
 refine g_step rfl (s_callp rfl rfl rfl (mid_ok p r me room l _ hT1 hl hs) ?_)
 rintro _ rfl
 refine g_step rfl (s_callp rfl rfl rfl (at_ok p r me room l me _ hT1 hl hs) ?_)
 rintro _ rfl
 rw [hz]
 refine g_step rfl (s_val (v_assign rfl) rfl rfl ?_)
 refine g_nil ?_
 refine g_next hK2 ?_
 refine g_seq (fun K3 hK3 => ?_)
 refine g_region ?_
 refine g_step rfl (s_val (v_move rfl) rfl rfl ?_)
 refine g_step rfl (s_val (v_geq rfl rfl) rfl rfl ?_)
 refine g_nil ?_
 refine g_next hK3 ?_
 refine g_cond rfl (fun hc9 => ?_) (fun hc9 => ?_)
 ·
  try simp only [NM] at hc9
  refine g_seq (fun K4 hK4 => ?_)
  refine g_region ?_
  refine g_step rfl (s_val (v_move rfl) rfl rfl ?_)
  refine g_step rfl (s_val (v_nilCheck rfl rfl) rfl rfl ?_)
  refine g_step rfl (s_val (by first | exact v_fieldAddr ty110 fo110_2 ty22 rfl | exact v_fieldAddr_box ty110 fo110_2 ty22 rfl) rfl rfl ?_)
  refine g_step rfl (s_val (by first | exact v_load ty22 rfl rfl (by first | rfl | assumption) (by first | assumption | exact map_get (by assumption) | rfl) rfl | exact v_load_box ty22 rfl rfl hT1.tp (by rfl)) rfl rfl ?_)
  refine g_step rfl (s_val (v_move rfl) rfl rfl ?_)
  refine g_step rfl (s_val (v_indexAddr ty22 ty46 rfl rfl hT1.view rfl (map_get hi) rfl) rfl rfl ?_)
  refine g_step rfl (s_val (v_assign rfl) rfl rfl ?_)
  refine g_nil ?_
  refine g_next hK4 ?_
  refine g_ret ?_
  refine g_then_ret ?_
  refine g_end1 (.inl rfl) Try.results84 (.tmp rfl) [] (ASub.refl _) (AHeap.sub_refl _) (fun p hp => by cases hp) ⟨rfl, ?_⟩
  rfl
 · exfalso; (try simp only [NM] at hc9); omega

theorem refute_ok (p r : Nat) (me room : Int) (l : List Rc) (x : Rc) (hv : recValid x = true) (G : AHeap) (hT : Tb G p r me room l) (hl : l.length ≤ 1000) (hs : ∀ x ∈ l, Small x.bag) (i : Nat) (o : Rc) (hi : l[i]? = some o) (hf : fidx (hasId me) l = i) (hz : fidxZ (hasId me) l = (i : Int)) (hfo : fnd l me = some o) : LCalls Try.prog 58 [.box p 0, encR x] G (fun b => b = p ∨ b = r) (fun n rv effs => rv = .int .i64 (refT me l x).2 ∧ TE n p r me room l (refT me l x).1 effs) := by
 refine LCalls.intro 50 fi58 rfl Try.ntmps58 rfl (by rintro b (rfl | rfl); rw [hT.tp]; simp; rw [hT.tr]; simp) (fun H hH w0 hw0 => ?_)
 have hT1 := hT.mono hH
 have hx0 : 0 ≤ x.inc := by simp [recValid] at hv; omega
 refine g_seq (fun K0 hK0 => ?_)
 refine g_region ?_
 refine g_step rfl (s_box rfl rfl rfl rfl ?_)
 refine g_step rfl (s_val (v_assign rfl) rfl rfl ?_)
 refine g_nil ?_
 refine g_next hK0 ?_
 refine g_seq (fun K1 hK1 => ?_)
 refine g_region ?_
 refine g_step rfl (s_val (v_move rfl) rfl rfl ?_)
 refine g_step rfl (s_callp rfl rfl rfl (own_ok p r me room l _ hT1 hl hs i o hi hf hz hfo) ?_)
 rintro _ rfl
 refine g_step rfl (s_val (v_assign rfl) rfl rfl ?_)
 refine g_nil ?_
 refine g_next hK1 ?_
 refine g_cut (fun env L B G => ∃ (u : Bool), env = [(5, .elp (.own r 7 0 l.length) i 0), (6, .bool u)] ∧ L = [(3, 3, 0)] ∧ B = [(3, (encR x))] ∧ H = G ∧ (u = true ↔ (o.inc < x.inc ∨ (x.inc = o.inc ∧ x.st ≠ 0)))) ?_ (fun env L B G hI => ?_)
 ·
  refine g_draw (n := 22) (fun j => !([] : List Nat).contains j) rfl rfl ?_
  refine m_takel 0 rfl rfl (by kernel_rfl) (by kernel_rfl) (by kernel_rfl) (fun _ _ _ _ h => h) (vl_fieldAddr ty46 fo46_1 ty3 rfl) rfl rfl ?_
  refine m_tk 1 true rfl rfl (by kernel_rfl) (v_loadl ty3 rfl rfl rfl rfl) rfl rfl ?_
  refine m_tk 2 false rfl rfl (by kernel_rfl) (v_move rfl) rfl rfl ?_
  refine m_tk 3 false rfl rfl (by kernel_rfl) (v_nilCheck rfl rfl) rfl rfl ?_
  refine m_tk 4 false rfl rfl (by kernel_rfl) (by first | exact v_fieldAddr ty46 fo46_1 ty3 rfl | exact v_fieldAddr_box ty46 fo46_1 ty3 rfl) rfl rfl ?_
  refine m_tk 5 true rfl rfl (by kernel_rfl) (by first | exact v_load ty3 rfl rfl hT1.view (map_get hi) rfl | exact v_load_box ty3 rfl rfl (by assumption) rfl) rfl rfl ?_
  refine m_tk 6 false rfl rfl (by kernel_rfl) (v_gtr rfl rfl) rfl rfl ?_
  refine m_tk 7 false rfl rfl (by kernel_rfl) (v_move rfl) rfl rfl ?_
  refine m_split 16 rfl (fun hg16 => ?_) (fun hg16 => ?_)
  ·
   try simp only [NM] at hg16
   refine m_take_no (j := 7) (t := 16) 8 rfl rfl rfl rfl rfl rfl (by kernel_rfl) (by kernel_rfl) (by kernel_rfl) (fun _ _ _ _ h => h) rfl rfl ?_
   refine m_take_no (j := 7) (t := 16) 9 rfl rfl rfl rfl rfl rfl (by kernel_rfl) (by kernel_rfl) (by kernel_rfl) (fun _ _ _ _ h => h) rfl rfl ?_
   refine m_take_no (j := 7) (t := 16) 10 rfl rfl rfl rfl rfl rfl (by kernel_rfl) (by kernel_rfl) (by kernel_rfl) (fun _ _ _ _ h => h) rfl rfl ?_
   refine m_take_no (j := 7) (t := 16) 11 rfl rfl rfl rfl rfl rfl (by kernel_rfl) (by kernel_rfl) (by kernel_rfl) (fun _ _ _ _ h => h) rfl rfl ?_
   refine m_take_no (j := 7) (t := 16) 12 rfl rfl rfl rfl rfl rfl (by kernel_rfl) (by kernel_rfl) (by kernel_rfl) (fun _ _ _ _ h => h) rfl rfl ?_
   refine m_take_no (j := 7) (t := 16) 13 rfl rfl rfl rfl rfl rfl (by kernel_rfl) (by kernel_rfl) (by kernel_rfl) (fun _ _ _ _ h => h) rfl rfl ?_
   refine m_take_no (j := 7) (t := 16) 14 rfl rfl rfl rfl rfl rfl (by kernel_rfl) (by kernel_rfl) (by kernel_rfl) (fun _ _ _ _ h => h) rfl rfl ?_
   refine m_take_no (j := 7) (t := 16) 15 rfl rfl rfl rfl rfl rfl (by kernel_rfl) (by kernel_rfl) (by kernel_rfl) (fun _ _ _ _ h => h) rfl rfl ?_
   refine m_take_und (j := 15) (t := 24) 16 rfl rfl rfl rfl rfl (by kernel_rfl) (by kernel_rfl) (by kernel_rfl) (fun _ _ _ _ h => h) rfl rfl ?_
   refine m_take_und (j := 15) (t := 24) 17 rfl rfl rfl rfl rfl (by kernel_rfl) (by kernel_rfl) (by kernel_rfl) (fun _ _ _ _ h => h) rfl rfl ?_
   refine m_take_und (j := 15) (t := 24) 18 rfl rfl rfl rfl rfl (by kernel_rfl) (by kernel_rfl) (by kernel_rfl) (fun _ _ _ _ h => h) rfl rfl ?_
   refine m_take_no (j := 7) (t := 16) 19 rfl rfl rfl rfl rfl rfl (by kernel_rfl) (by kernel_rfl) (by kernel_rfl) (fun _ _ _ _ h => h) rfl rfl ?_
   refine m_tk 20 false rfl rfl (by kernel_rfl) (v_pick_t rfl rfl) rfl rfl ?_
   refine m_tk 21 false rfl rfl (by kernel_rfl) (v_assign rfl) rfl rfl ?_
   refine m_done (by kernel_rfl) ?_
   first | refine g_keep [5, 6] [3] [3] (keep_cons rfl (keep_cons rfl keep_nil)) (lkeep_cons rfl lkeep_nil) (keep_cons rfl keep_nil) rfl ?_ | refine g_keep [5, 6] [3] [3] rfl rfl rfl rfl ?_
   first | exact g_has ⟨_, rfl, rfl, rfl, rfl, (by first | (simp; omega) | (simp_all; done) | (simp_all; omega) | (simp; simp_all; omega))⟩
  ·
   try simp only [NM] at hg16
   refine m_takel_yes (j := 7) (t := 16) 8 rfl rfl rfl rfl rfl (by kernel_rfl) (by kernel_rfl) (by kernel_rfl) (fun _ _ _ _ h => h) (vl_fieldAddr ty46 fo46_1 ty3 rfl) rfl rfl ?_
   refine m_take_yes (j := 7) (t := 16) 9 true rfl rfl rfl rfl rfl (by kernel_rfl) (by kernel_rfl) (by kernel_rfl) (fun _ _ _ _ h => h) (v_loadl ty3 rfl rfl rfl rfl) rfl rfl ?_
   refine m_take_yes (j := 7) (t := 16) 10 false rfl rfl rfl rfl rfl (by kernel_rfl) (by kernel_rfl) (by kernel_rfl) (fun _ _ _ _ h => h) (v_move rfl) rfl rfl ?_
   refine m_take_yes (j := 7) (t := 16) 11 false rfl rfl rfl rfl rfl (by kernel_rfl) (by kernel_rfl) (by kernel_rfl) (fun _ _ _ _ h => h) (v_nilCheck rfl rfl) rfl rfl ?_
   refine m_take_yes (j := 7) (t := 16) 12 false rfl rfl rfl rfl rfl (by kernel_rfl) (by kernel_rfl) (by kernel_rfl) (fun _ _ _ _ h => h) (by first | exact v_fieldAddr ty46 fo46_1 ty3 rfl | exact v_fieldAddr_box ty46 fo46_1 ty3 rfl) rfl rfl ?_
   refine m_take_yes (j := 7) (t := 16) 13 true rfl rfl rfl rfl rfl (by kernel_rfl) (by kernel_rfl) (by kernel_rfl) (fun _ _ _ _ h => h) (by first | exact v_load ty3 rfl rfl hT1.view (map_get hi) rfl | exact v_load_box ty3 rfl rfl (by assumption) rfl) rfl rfl ?_
   refine m_take_yes (j := 7) (t := 16) 14 false rfl rfl rfl rfl rfl (by kernel_rfl) (by kernel_rfl) (by kernel_rfl) (fun _ _ _ _ h => h) (v_eql rfl rfl) rfl rfl ?_
   refine m_take_yes (j := 7) (t := 16) 15 false rfl rfl rfl rfl rfl (by kernel_rfl) (by kernel_rfl) (by kernel_rfl) (fun _ _ _ _ h => h) (v_move rfl) rfl rfl ?_
   refine m_split 24 rfl (fun hg24 => ?_) (fun hg24 => ?_)
   ·
    try simp only [NM] at hg24
    refine m_takel_yes (j := 15) (t := 24) 16 rfl rfl rfl rfl rfl (by kernel_rfl) (by kernel_rfl) (by kernel_rfl) (fun _ _ _ _ h => h) (vl_fieldAddr ty46 fo46_2 ty3 rfl) rfl rfl ?_
    refine m_take_yes (j := 15) (t := 24) 17 true rfl rfl rfl rfl rfl (by kernel_rfl) (by kernel_rfl) (by kernel_rfl) (fun _ _ _ _ h => h) (v_loadl ty3 rfl rfl rfl rfl) rfl rfl ?_
    refine m_take_yes (j := 15) (t := 24) 18 false rfl rfl rfl rfl rfl (by kernel_rfl) (by kernel_rfl) (by kernel_rfl) (fun _ _ _ _ h => h) (v_neq rfl rfl) rfl rfl ?_
    refine m_take_yes (j := 7) (t := 16) 19 false rfl rfl rfl rfl rfl (by kernel_rfl) (by kernel_rfl) (by kernel_rfl) (fun _ _ _ _ h => h) (v_pick_t rfl rfl) rfl rfl ?_
    refine m_tk 20 false rfl rfl (by kernel_rfl) (v_pick_f rfl rfl) rfl rfl ?_
    refine m_tk 21 false rfl rfl (by kernel_rfl) (v_assign rfl) rfl rfl ?_
    refine m_done (by kernel_rfl) ?_
    first | refine g_keep [5, 6] [3] [3] (keep_cons rfl (keep_cons rfl keep_nil)) (lkeep_cons rfl lkeep_nil) (keep_cons rfl keep_nil) rfl ?_ | refine g_keep [5, 6] [3] [3] rfl rfl rfl rfl ?_
    first | exact g_has ⟨_, rfl, rfl, rfl, rfl, (by first | (simp; omega) | (simp_all; done) | (simp_all; omega) | (simp; simp_all; omega))⟩
   ·
    try simp only [NM] at hg24
    refine m_take_no (j := 15) (t := 24) 16 rfl rfl rfl rfl rfl rfl (by kernel_rfl) (by kernel_rfl) (by kernel_rfl) (fun _ _ _ _ h => h) rfl rfl ?_
    refine m_take_no (j := 15) (t := 24) 17 rfl rfl rfl rfl rfl rfl (by kernel_rfl) (by kernel_rfl) (by kernel_rfl) (fun _ _ _ _ h => h) rfl rfl ?_
    refine m_take_no (j := 15) (t := 24) 18 rfl rfl rfl rfl rfl rfl (by kernel_rfl) (by kernel_rfl) (by kernel_rfl) (fun _ _ _ _ h => h) rfl rfl ?_
    refine m_take_yes (j := 7) (t := 16) 19 false rfl rfl rfl rfl rfl (by kernel_rfl) (by kernel_rfl) (by kernel_rfl) (fun _ _ _ _ h => h) (v_pick_f rfl rfl) rfl rfl ?_
    refine m_tk 20 false rfl rfl (by kernel_rfl) (v_pick_f rfl rfl) rfl rfl ?_
    refine m_tk 21 false rfl rfl (by kernel_rfl) (v_assign rfl) rfl rfl ?_
    refine m_done (by kernel_rfl) ?_
    first | refine g_keep [5, 6] [3] [3] (keep_cons rfl (keep_cons rfl keep_nil)) (lkeep_cons rfl lkeep_nil) (keep_cons rfl keep_nil) rfl ?_ | refine g_keep [5, 6] [3] [3] rfl rfl rfl rfl ?_
    first | exact g_has ⟨_, rfl, rfl, rfl, rfl, (by first | (simp; omega) | (simp_all; done) | (simp_all; omega) | (simp; simp_all; omega))⟩
 ·
  obtain ⟨u, rfl, rfl, rfl, rfl, hu⟩ := hI
  refine g_seq (fun K2 hK2 => ?_)
  refine g_seq (fun K3 hK3 => ?_)
  refine g_region ?_
  refine g_step rfl (s_val (v_move rfl) rfl rfl ?_)
  refine g_step rfl (s_val (v_not rfl) rfl rfl ?_)
  refine g_step rfl (s_val (v_move rfl) rfl rfl ?_)
  refine g_split 32 rfl (fun hg32 => ?_) (fun hg32 => ?_)
  ·
   try simp only [NM] at hg32
   have hna : ¬ (o.inc < x.inc ∨ (x.inc = o.inc ∧ x.st ≠ 0)) := fun h => by rw [hu.2 h] at hg32; simp at hg32
   refine g_step_no (j := 2) (t := 32) rfl rfl rfl rfl rfl rfl rfl ?_
   refine g_step_no (j := 2) (t := 32) rfl rfl rfl rfl rfl rfl rfl ?_
   refine g_step_no (j := 2) (t := 32) rfl rfl rfl rfl rfl rfl rfl ?_
   refine g_step_no (j := 2) (t := 32) rfl rfl rfl rfl rfl rfl rfl ?_
   refine g_step_no (j := 2) (t := 32) rfl rfl rfl rfl rfl rfl rfl ?_
   refine g_step rfl (s_val (v_pick_t rfl rfl) rfl rfl ?_)
   refine g_step rfl (s_val (v_move rfl) rfl rfl ?_)
   refine g_step_no (j := 9) (t := 39) rfl rfl rfl rfl rfl rfl rfl ?_
   refine g_step_no (j := 9) (t := 39) rfl rfl rfl rfl rfl rfl rfl ?_
   refine g_step_no (j := 9) (t := 39) rfl rfl rfl rfl rfl rfl rfl ?_
   refine g_step rfl (s_val (v_pick_t rfl rfl) rfl rfl ?_)
   refine g_nil ?_
   refine g_next hK3 ?_
   refine g_cond rfl (fun _ => ?_) (fun h => by cases h)
   refine g_seq (fun K4 hK4 => ?_)
   refine g_region ?_
   have hR : refT me l x = (l, 0) := by rw [refT, hfo]; exact if_pos (by omega)
   refine g_step rfl (s_val (v_assign rfl) rfl rfl ?_)
   refine g_nil ?_
   refine g_next hK4 ?_
   refine g_ret ?_
   refine g_then_ret ?_
   refine g_end1 (.inl rfl) Try.results58 (.tmp rfl) [] (ASub.refl _) (AHeap.sub_refl _) (fun p hp => by cases hp) (by rw [hR]; exact ⟨rfl, .inl ⟨rfl, rfl⟩⟩)
  ·
   try simp only [NM] at hg32
   have hag : o.inc < x.inc ∨ (x.inc = o.inc ∧ x.st ≠ 0) := hu.1 (by simpa using hg32)
   refine g_step_yes (j := 2) (t := 32) rfl rfl rfl rfl (s_val (v_move rfl) rfl rfl ?_)
   refine g_step_yes (j := 2) (t := 32) rfl rfl rfl rfl (s_val (v_nilCheck rfl rfl) rfl rfl ?_)
   refine g_step_yes (j := 2) (t := 32) rfl rfl rfl rfl (s_val (by first | exact v_fieldAddr ty46 fo46_2 ty3 rfl | exact v_fieldAddr_box ty46 fo46_2 ty3 rfl) rfl rfl ?_)
   refine g_step_yes (j := 2) (t := 32) rfl rfl rfl rfl (s_val (by first | exact v_load ty3 rfl rfl hT1.view (map_get hi) rfl | exact v_load_box ty3 rfl rfl (by assumption) rfl) rfl rfl ?_)
   refine g_step_yes (j := 2) (t := 32) rfl rfl rfl rfl (s_val (v_eql rfl rfl) rfl rfl ?_)
   refine g_step rfl (s_val (v_pick_f rfl rfl) rfl rfl ?_)
   refine g_step rfl (s_val (v_move rfl) rfl rfl ?_)
   refine g_split 39 rfl (fun hg39 => ?_) (fun hg39 => ?_)
   ·
    try simp only [NM] at hg39
    refine g_step_no (j := 9) (t := 39) rfl rfl rfl rfl rfl rfl rfl ?_
    refine g_step_no (j := 9) (t := 39) rfl rfl rfl rfl rfl rfl rfl ?_
    refine g_step_no (j := 9) (t := 39) rfl rfl rfl rfl rfl rfl rfl ?_
    refine g_step rfl (s_val (v_pick_t rfl rfl) rfl rfl ?_)
    refine g_nil ?_
    refine g_next hK3 ?_
    refine g_cond rfl (fun _ => ?_) (fun h => by cases h)
    refine g_seq (fun K5 hK5 => ?_)
    refine g_region ?_
    have hR : refT me l x = (l, 0) := by rw [refT, hfo]; exact if_pos (by omega)
    refine g_step rfl (s_val (v_assign rfl) rfl rfl ?_)
    refine g_nil ?_
    refine g_next hK5 ?_
    refine g_ret ?_
    refine g_then_ret ?_
    refine g_end1 (.inl rfl) Try.results58 (.tmp rfl) [] (ASub.refl _) (AHeap.sub_refl _) (fun p hp => by cases hp) (by rw [hR]; exact ⟨rfl, .inl ⟨rfl, rfl⟩⟩)
   ·
    try simp only [NM] at hg39
    refine g_step_yes (j := 9) (t := 39) rfl rfl rfl rfl (s_fieldAddr ty46 fo46_1 ty3 rfl rfl ?_)
    refine g_step_yes (j := 9) (t := 39) rfl rfl rfl rfl (s_val (v_loadl ty3 rfl rfl rfl rfl) rfl rfl ?_)
    refine g_step_yes (j := 9) (t := 39) rfl rfl rfl rfl (s_val (v_geq rfl rfl) rfl rfl ?_)
    refine g_step rfl (s_val (v_pick_f rfl rfl) rfl rfl ?_)
    refine g_nil ?_
    refine g_next hK3 ?_
    refine g_cond rfl (fun hc43 => ?_) (fun hc43 => ?_)
    ·
     try simp only [NM] at hc43
     refine g_seq (fun K6 hK6 => ?_)
     refine g_region ?_
     have hR : refT me l x = (l, 0) := by rw [refT, hfo]; exact if_pos (by omega)
     refine g_step rfl (s_val (v_assign rfl) rfl rfl ?_)
     refine g_nil ?_
     refine g_next hK6 ?_
     refine g_ret ?_
     refine g_then_ret ?_
     refine g_end1 (.inl rfl) Try.results58 (.tmp rfl) [] (ASub.refl _) (AHeap.sub_refl _) (fun p hp => by cases hp) (by rw [hR]; exact ⟨rfl, .inl ⟨rfl, rfl⟩⟩)
    ·
     try simp only [NM] at hc43
     refine g_skip ?_
     refine g_next hK2 ?_
     refine g_seq (fun K7 hK7 => ?_)
     refine g_region ?_
     have hid : (wthInc o (x.inc + 1)).id = me := by show o.id = me; exact fnd_id hfo
     have hR : refT me l x = (rput l (wthInc o (x.inc + 1)), 4) := by rw [refT, hfo]; exact if_neg (by omega)
     refine g_step rfl (s_val (v_move rfl) rfl rfl ?_)
     refine g_step rfl (s_fieldAddr ty46 fo46_1 ty3 rfl rfl ?_)
     refine g_step rfl (s_val (v_loadl ty3 rfl rfl rfl rfl) rfl rfl ?_)
     refine g_step rfl (s_val (v_add rfl rfl (by omega)) rfl rfl ?_)
     refine g_step rfl (s_val (v_nilCheck rfl rfl) rfl rfl ?_)
     refine g_step rfl (s_val (by first | exact v_fieldAddr ty46 fo46_1 ty3 rfl | exact v_fieldAddr_box ty46 fo46_1 ty3 rfl) rfl rfl ?_)
     refine g_step rfl (s_store_row (k := i) (off := 1) (old := encR o) (new := encR (wthInc o (x.inc + 1))) ty3 rfl rfl hT1.tr (by rw [Nat.zero_add]; exact map_get hi) rfl rfl rfl rfl (.inl (.inr rfl)) ?_)
     rw [Nat.zero_add i, ← List.map_set, set_rput hi hf hid]
     refine g_nil ?_
     refine g_next hK7 ?_
     refine g_seq (fun K8 hK8 => ?_)
     refine g_region ?_
     refine g_step rfl (s_val (v_assign rfl) rfl rfl ?_)
     refine g_nil ?_
     refine g_next hK8 ?_
     refine g_ret ?_
     refine g_end1 (.inl rfl) Try.results58 (.tmp rfl) [(p, .box (tabA me room r (rput l (wthInc o (x.inc + 1))).length)), (r, .row 7 ((rput l (wthInc o (x.inc + 1))).map encR))] (ASub.refl _) (by rw [hT1.keepbox (rput_len_hit hi hf hid)]; exact AHeap.sub_refl _) (fun z hz' => .inl (by simp at hz'; rcases hz' with rfl | rfl; rw [hT.tp]; simp; rw [hT.tr]; simp)) (by rw [hR]; exact ⟨rfl, .inr ⟨r, .inl rfl, rfl⟩⟩)

theorem mjoin_ok (p r : Nat) (me room : Int) (l : List Rc) (x : Rc) (hx : Small x.bag) (G : AHeap) (hT : Tb G p r me room l) (hl : l.length ≤ 1000) (hs : ∀ x ∈ l, Small x.bag) (i : Nat) (o : Rc) (hi : l[i]? = some o) (hf : fidx (hasId me) l = i) (hz : fidxZ (hasId me) l = (i : Int)) (hfo : fnd l me = some o) : LCalls Try.prog 25 [.box p 0, encR x] G (fun b => b = p ∨ b = r) (fun n rv effs => rv = .int .i64 (joinT me room l x).2 ∧ TE n p r me room l (joinT me room l x).1 effs) := by
 refine LCalls.intro 78 fi25 rfl Try.ntmps25 rfl (by rintro b (rfl | rfl); rw [hT.tp]; simp; rw [hT.tr]; simp) (fun H hH w0 hw0 => ?_)
 have hT1 := hT.mono hH
 refine g_seq (fun K0 hK0 => ?_)
 refine g_region ?_
 refine g_step rfl (s_box rfl rfl rfl rfl ?_)
 refine g_step rfl (s_val (v_assign rfl) rfl rfl ?_)
 refine g_nil ?_
 refine g_next hK0 ?_
 refine g_seq (fun K1 hK1 => ?_)
 refine g_seq (fun K2 hK2 => ?_)
 refine g_region ?_
 refine g_step rfl (s_val (v_move rfl) rfl rfl ?_)
 refine g_step rfl (s_val (by first | exact v_ptr_eql_nil ty48 rfl rfl rfl | exact v_nil_eql_nil ty48 rfl rfl | exact v_ptrO_eql ty48 rfl rfl) rfl rfl ?_)
 refine g_step rfl (s_val (v_move rfl) rfl rfl ?_)
 refine g_split 10 rfl (fun hg10 => ?_) (fun hg10 => ?_)
 ·
  try simp only [NM] at hg10
  refine g_step_no (j := 2) (t := 10) rfl rfl rfl rfl rfl rfl rfl ?_
  refine g_step_no (j := 2) (t := 10) rfl rfl rfl rfl rfl rfl rfl ?_
  refine g_step_no (j := 2) (t := 10) rfl rfl rfl rfl rfl rfl rfl ?_
  refine g_step rfl (s_val (v_pick_t rfl rfl) rfl rfl ?_)
  refine g_nil ?_
  refine g_next hK2 ?_
  refine g_cond rfl (fun _ => ?_) (fun h => by cases h)
  refine g_seq (fun K3 hK3 => ?_)
  refine g_region ?_
  have hR : joinT me room l x = (l, 0) := if_pos (by simp_all)
  refine g_step rfl (s_val (v_assign rfl) rfl rfl ?_)
  refine g_nil ?_
  refine g_next hK3 ?_
  refine g_ret ?_
  refine g_then_ret ?_
  refine g_end1 (.inl rfl) Try.results25 (.tmp rfl) [] (ASub.refl _) (AHeap.sub_refl _) (fun p hp => by cases hp) (by rw [hR]; exact ⟨rfl, .inl ⟨rfl, rfl⟩⟩)
 ·
  try simp only [NM] at hg10
  refine g_step_yes (j := 2) (t := 10) rfl rfl rfl rfl (s_val (by first | exact v_loadl_all ty46 rfl rfl rfl rfl rfl | exact v_loadl_part (cs := [_, _, _, _, _, _, _]) ty46 rfl rfl rfl rfl rfl rfl) rfl rfl ?_)
  refine g_step_yes (j := 2) (t := 10) rfl rfl rfl rfl (s_callp rfl rfl rfl (recValid_ok x _ hx) ?_)
  rintro _ rfl
  refine g_step_yes (j := 2) (t := 10) rfl rfl rfl rfl (s_val (v_not rfl) rfl rfl ?_)
  refine g_step rfl (s_val (v_pick_f rfl rfl) rfl rfl ?_)
  refine g_nil ?_
  refine g_next hK2 ?_
  refine g_cond rfl (fun hc14 => ?_) (fun hc14 => ?_)
  ·
   try simp only [NM] at hc14
   refine g_seq (fun K4 hK4 => ?_)
   refine g_region ?_
   have hR : joinT me room l x = (l, 0) := if_pos (by simp_all)
   refine g_step rfl (s_val (v_assign rfl) rfl rfl ?_)
   refine g_nil ?_
   refine g_next hK4 ?_
   refine g_ret ?_
   refine g_then_ret ?_
   refine g_end1 (.inl rfl) Try.results25 (.tmp rfl) [] (ASub.refl _) (AHeap.sub_refl _) (fun p hp => by cases hp) (by rw [hR]; exact ⟨rfl, .inl ⟨rfl, rfl⟩⟩)
  ·
   try simp only [NM] at hc14
   have hv : ¬ (recValid x = false) := by simp_all
   refine g_skip ?_
   refine g_next hK1 ?_
   refine g_seq (fun K5 hK5 => ?_)
   refine g_seq (fun K6 hK6 => ?_)
   refine g_draw (n := 7) (fun j => !([] : List Nat).contains j) rfl rfl ?_
   refine m_takel 0 rfl rfl (by kernel_rfl) (by kernel_rfl) (by kernel_rfl) (fun _ _ _ _ h => h) (vl_fieldAddr ty46 fo46_0 ty3 rfl) rfl rfl ?_
   refine m_tk 1 true rfl rfl (by kernel_rfl) (v_loadl ty3 rfl rfl rfl rfl) rfl rfl ?_
   refine m_tk 2 false rfl rfl (by kernel_rfl) (v_move rfl) rfl rfl ?_
   refine m_tk 3 false rfl rfl (by kernel_rfl) (v_nilCheck rfl rfl) rfl rfl ?_
   refine m_tk 4 false rfl rfl (by kernel_rfl) (by first | exact v_fieldAddr ty110 fo110_0 ty3 rfl | exact v_fieldAddr_box ty110 fo110_0 ty3 rfl) rfl rfl ?_
   refine m_tk 5 true rfl rfl (by kernel_rfl) (by first | exact v_load ty3 rfl rfl (by first | rfl | assumption) (by first | assumption | exact map_get (by assumption) | rfl) rfl | exact v_load_box ty3 rfl rfl hT1.tp (by rfl)) rfl rfl ?_
   refine m_tk 6 false rfl rfl (by kernel_rfl) (v_eql rfl rfl) rfl rfl ?_
   refine m_done (by kernel_rfl) ?_
   refine g_next hK6 ?_
   refine g_cond rfl (fun hc21 => ?_) (fun hc21 => ?_)
   ·
    try simp only [NM] at hc21
    have hR : joinT me room l x = refT me l x := by rw [joinT, if_neg hv, if_pos (by omega)]
    refine g_seq (fun K7 hK7 => ?_)
    refine g_region ?_
    refine g_step rfl (s_val (v_move rfl) rfl rfl ?_)
    refine g_step rfl (s_val (by first | exact v_loadl_all ty46 rfl rfl rfl rfl rfl | exact v_loadl_part (cs := [_, _, _, _, _, _, _]) ty46 rfl rfl rfl rfl rfl rfl) rfl rfl ?_)
    refine g_step rfl (s_call rfl rfl rfl (refute_ok p r me room l x (by simpa using hv) _ hT1 hl hs i o hi hf hz hfo) (fun b hb => .inl hb) ?_)
    rintro n1 rv1 effs1 hn1 hdom1 ⟨rfl, hTE⟩ hok1
    refine g_step rfl (s_val (v_assign rfl) rfl rfl ?_)
    refine g_nil ?_
    refine g_next hK7 ?_
    refine g_ret ?_
    refine g_then_ret ?_
    refine g_end1 (.inl rfl) Try.results25 (.tmp rfl) effs1 (ASub.refl _) (AHeap.sub_refl _) (fun z hz' => by rcases hTE.dom z hz' with h9 | h9 | h9; (left; rw [h9, hT.tp]; simp); (left; rw [h9, hT.tr]; simp); (right; exact Nat.le_trans hn1 h9)) (by rw [hR]; exact ⟨rfl, hTE.mono hn1⟩)
   ·
    try simp only [NM] at hc21
    have hne : ¬ (x.id = me) := by omega
    refine g_skip ?_
    refine g_next hK5 ?_
    refine g_seq (fun K8 hK8 => ?_)
    refine g_region ?_
    refine g_step rfl (s_val (v_move rfl) rfl rfl ?_)
    refine g_step rfl (s_fieldAddr ty46 fo46_0 ty3 rfl rfl ?_)
    refine g_step rfl (s_val (v_loadl ty3 rfl rfl rfl rfl) rfl rfl ?_)
    refine g_step rfl (s_callp rfl rfl rfl (at_ok p r me room l x.id _ hT1 hl hs) ?_)
    rintro _ rfl
    refine g_step rfl (s_val (v_assign rfl) rfl rfl ?_)
    refine g_nil ?_
    refine g_next hK8 ?_
    refine g_seq (fun K9 hK9 => ?_)
    refine g_seq (fun K10 hK10 => ?_)
    refine g_region ?_
    refine g_step rfl (s_val (v_move rfl) rfl rfl ?_)
    refine g_step rfl (s_val (v_lss rfl rfl) rfl rfl ?_)
    refine g_nil ?_
    refine g_next hK10 ?_
    refine g_cond rfl (fun hc30 => ?_) (fun hc30 => ?_)
    ·
     try simp only [NM] at hc30
     have hno := at_none (by assumption)
     refine g_seq (fun K11 hK11 => ?_)
     refine g_seq (fun K12 hK12 => ?_)
     refine g_draw (n := 10) (fun j => !([] : List Nat).contains j) rfl rfl ?_
     refine m_tk 0 false rfl rfl (by kernel_rfl) (v_move rfl) rfl rfl ?_
     refine m_tk 1 false rfl rfl (by kernel_rfl) (v_nilCheck rfl rfl) rfl rfl ?_
     refine m_tk 2 false rfl rfl (by kernel_rfl) (by first | exact v_fieldAddr ty110 fo110_2 ty22 rfl | exact v_fieldAddr_box ty110 fo110_2 ty22 rfl) rfl rfl ?_
     refine m_tk 3 true rfl rfl (by kernel_rfl) (by first | exact v_load ty22 rfl rfl (by first | rfl | assumption) (by first | assumption | exact map_get (by assumption) | rfl) rfl | exact v_load_box ty22 rfl rfl hT1.tp (by rfl)) rfl rfl ?_
     refine m_tk 4 false rfl rfl (by kernel_rfl) (v_len ty22 rfl hT1.view (by rw [List.length_map])) rfl rfl ?_
     refine m_tk 5 false rfl rfl (by kernel_rfl) (v_move rfl) rfl rfl ?_
     refine m_tk 6 false rfl rfl (by kernel_rfl) (v_nilCheck rfl rfl) rfl rfl ?_
     refine m_tk 7 false rfl rfl (by kernel_rfl) (by first | exact v_fieldAddr ty110 fo110_1 ty3 rfl | exact v_fieldAddr_box ty110 fo110_1 ty3 rfl) rfl rfl ?_
     refine m_tk 8 true rfl rfl (by kernel_rfl) (by first | exact v_load ty3 rfl rfl (by first | rfl | assumption) (by first | assumption | exact map_get (by assumption) | rfl) rfl | exact v_load_box ty3 rfl rfl hT1.tp (by rfl)) rfl rfl ?_
     refine m_tk 9 false rfl rfl (by kernel_rfl) (v_geq rfl rfl) rfl rfl ?_
     refine m_done (by kernel_rfl) ?_
     refine g_next hK12 ?_
     first | refine g_keep [0, 40] [3] [3] (keep_cons rfl (keep_cons rfl keep_nil)) (lkeep_cons rfl lkeep_nil) (keep_cons rfl keep_nil) rfl ?_ | refine g_keep [0, 40] [3] [3] rfl rfl rfl rfl ?_
     refine g_cond rfl (fun hc40 => ?_) (fun hc40 => ?_)
     ·
      try simp only [NM] at hc40
      refine g_seq (fun K13 hK13 => ?_)
      refine g_region ?_
      have hR : joinT me room l x = (l, 3) := by rw [joinT, if_neg hv, if_neg hne, hno]; exact if_pos (by omega)
      refine g_step rfl (s_val (v_assign rfl) rfl rfl ?_)
      refine g_nil ?_
      refine g_next hK13 ?_
      refine g_ret ?_
      refine g_then_ret ?_
      refine g_then_ret ?_
      refine g_end1 (.inl rfl) Try.results25 (.tmp rfl) [] (ASub.refl _) (AHeap.sub_refl _) (fun p hp => by cases hp) (by rw [hR]; exact ⟨rfl, .inl ⟨rfl, rfl⟩⟩)
     ·
      try simp only [NM] at hc40
      refine g_skip ?_
      refine g_next hK11 ?_
      refine g_seq (fun K14 hK14 => ?_)
      refine g_draw (n := 10) (fun j => !([6, 9] : List Nat).contains j) rfl rfl ?_
      have hR : joinT me room l x = (rput l x, 1) := by rw [joinT, if_neg hv, if_neg hne, hno]; exact if_neg (by omega)
      refine m_tk 0 false rfl rfl (by kernel_rfl) (v_move rfl) rfl rfl ?_
      refine m_tk 1 false rfl rfl (by kernel_rfl) (v_move rfl) rfl rfl ?_
      refine m_tk 2 false rfl rfl (by kernel_rfl) (v_nilCheck rfl rfl) rfl rfl ?_
      refine m_tk 3 false rfl rfl (by kernel_rfl) (by first | exact v_fieldAddr ty110 fo110_2 ty22 rfl | exact v_fieldAddr_box ty110 fo110_2 ty22 rfl) rfl rfl ?_
      refine m_tk 4 true rfl rfl (by kernel_rfl) (by first | exact v_load ty22 rfl rfl (by first | rfl | assumption) (by first | assumption | exact map_get (by assumption) | rfl) rfl | exact v_load_box ty22 rfl rfl hT1.tp (by rfl)) rfl rfl ?_
      refine m_tk 5 true rfl rfl (by kernel_rfl) (by first | exact v_loadl_all ty46 rfl rfl rfl rfl rfl | exact v_loadl_part (cs := [_, _, _, _, _, _, _]) ty46 rfl rfl rfl rfl rfl rfl) rfl rfl ?_
      refine m_one 6 (by kernel_rfl) rfl rfl ?_
      refine sm_any rfl (s_call rfl rfl rfl (putO_ok l x _ (.own r 7 0 l.length) hT1.view (by omega) hs hx) (fun _ h => h.elim) ?_)
      rintro n1 rv1 effs1 hn1 hdom1 hR1 hok1
      obtain ⟨q, hq1, rfl, rfl⟩ := hR1.resolve_left (by rintro ⟨_, h0, _⟩; have := rput_pos l x; rw [List.map_eq_nil_iff] at h0; rw [h0] at this; simp at this)
      have hpq : p ≠ q := fun e => by have h9 := hT1.tp; rw [e, hdom1 _ hq1] at h9; cases h9
      rw [List.length_map]
      refine m_tk 7 false rfl rfl (by kernel_rfl) (v_nilCheck rfl rfl) rfl rfl ?_
      refine m_tk 8 false rfl rfl (by kernel_rfl) (by first | exact v_fieldAddr ty110 fo110_2 ty22 rfl | exact v_fieldAddr_box ty110 fo110_2 ty22 rfl) rfl rfl ?_
      refine m_one 9 (by kernel_rfl) rfl rfl ?_
      refine sm_any rfl (s_store_box (new := tabA me room q (rput l x).length) ty22 rfl rfl ((AHeap.get_set_ne _ _ hpq).trans hT1.tp) rfl rfl rfl rfl (.inl (.inl rfl)) ?_)
      refine m_done (by kernel_rfl) ?_
      refine g_next hK14 ?_
      refine g_seq (fun K15 hK15 => ?_)
      refine g_region ?_
      refine g_step rfl (s_val (v_assign rfl) rfl rfl ?_)
      refine g_nil ?_
      refine g_next hK15 ?_
      refine g_ret ?_
      refine g_then_ret ?_
      refine g_end1 (.inl rfl) Try.results25 (.tmp rfl) [(p, .box (tabA me room q (rput l x).length)), (q, .row 7 ((rput l x).map encR))] (ASub.refl _) (AHeap.sub_refl _) (fun z hz' => by simp at hz'; rcases hz' with rfl | rfl; (left; rw [hT.tp]; simp); (right; exact Nat.le_trans hn1 hq1)) (by rw [hR]; exact ⟨rfl, .inr ⟨q, .inr (Nat.le_trans hn1 hq1), rfl⟩⟩)
    ·
     try simp only [NM] at hc30
     obtain ⟨j, y, hzy, hiy, hfy, hidy, hfny⟩ := at_some (l := l) (id := x.id) (by omega)
     have hsy := hs y (mem_get hiy)
     have hjn : jnAll y x = jn y x := jnAll_same hidy
     have hsj : Small (jn y x).bag := jn_small hsy hx
     have hid : (jn y x).id = x.id := by rw [jn_id hidy, hidy]
     refine g_skip ?_
     refine g_next hK9 ?_
     refine g_seq (fun K16 hK16 => ?_)
     refine g_draw (n := 15) (fun j => !([13] : List Nat).contains j) rfl rfl ?_
     refine m_tk 0 false rfl rfl (by kernel_rfl) (v_move rfl) rfl rfl ?_
     refine m_tk 1 false rfl rfl (by kernel_rfl) (v_nilCheck rfl rfl) rfl rfl ?_
     refine m_tk 2 false rfl rfl (by kernel_rfl) (by first | exact v_fieldAddr ty110 fo110_2 ty22 rfl | exact v_fieldAddr_box ty110 fo110_2 ty22 rfl) rfl rfl ?_
     refine m_tk 3 true rfl rfl (by kernel_rfl) (by first | exact v_load ty22 rfl rfl (by first | rfl | assumption) (by first | assumption | exact map_get (by assumption) | rfl) rfl | exact v_load_box ty22 rfl rfl hT1.tp (by rfl)) rfl rfl ?_
     refine m_tk 4 false rfl rfl (by kernel_rfl) (v_move rfl) rfl rfl ?_
     refine m_tk 5 false rfl rfl (by kernel_rfl) (v_indexAddr ty22 ty46 rfl rfl hT1.view hzy (map_get hiy) rfl) rfl rfl ?_
     refine m_tk 6 true rfl rfl (by kernel_rfl) (by first | exact v_load_elt ty46 rfl rfl hT1.view (map_get hiy) rfl rfl | exact v_load_box_all ty46 rfl rfl (by assumption) rfl rfl | exact v_load_part (cs := [_, _, _, _, _, _, _]) ty46 rfl rfl hT1.view (map_get hiy) rfl rfl rfl | exact v_load_box_part (cs := [_, _, _, _, _, _, _]) ty46 rfl rfl (by assumption) rfl rfl rfl) rfl rfl ?_
     refine m_tk 7 true rfl rfl (by kernel_rfl) (by first | exact v_loadl_all ty46 rfl rfl rfl rfl rfl | exact v_loadl_part (cs := [_, _, _, _, _, _, _]) ty46 rfl rfl rfl rfl rfl rfl) rfl rfl ?_
     refine m_all (is := [8, 12]) (by kernel_rfl) rfl (fun _ _ _ => trivial) (fun i hi => ?_)
     rcases (by simpa using hi : i = 8 ∨ i = 12) with rfl | rfl
     ·
      refine ⟨_, rfl, .inl ⟨rfl, ?_⟩⟩
      refine sm_callp rfl rfl rfl (join_ok y x _ hsy hx) ?_
      rintro _ rfl
      rw [hjn]
      refine m_tk 9 false rfl rfl (by kernel_rfl) (v_move rfl) rfl rfl ?_
      refine m_tk 10 false rfl rfl (by kernel_rfl) (v_extract rfl rfl) rfl rfl ?_
      refine m_tk 11 false rfl rfl (by kernel_rfl) (v_extract rfl rfl) rfl rfl ?_
      refine m_one 12 (by kernel_rfl) rfl rfl ?_
      refine sm_alloc (av := (.agg [(.int .i64 0), (.int .i64 0), (.int .i64 0), (.int .i64 0), (.int .i64 0), (.bool false), .nil0])) ty46 rfl rfl rfl rfl ?_
      refine m_one 13 (by kernel_rfl) rfl rfl ?_
      refine sm_any rfl (s_store_all ty46 rfl rfl rfl rfl rfl rfl ?_)
      refine m_tk 14 false rfl rfl (by kernel_rfl) (v_assign rfl) rfl rfl ?_
      refine m_done (by kernel_rfl) ?_
      refine g_next hK16 ?_
      first | refine g_keep [0, 5] [6] [6] (keep_cons rfl (keep_cons rfl keep_nil)) (lkeep_cons rfl lkeep_nil) (keep_cons rfl keep_nil) rfl ?_ | refine g_keep [0, 5] [6] [6] rfl rfl rfl rfl ?_
      refine g_seq (fun K17 hK17 => ?_)
      refine g_seq (fun K18 hK18 => ?_)
      refine g_draw (n := 9) (fun j => !([] : List Nat).contains j) rfl rfl ?_
      refine m_tk 0 true rfl rfl (by kernel_rfl) (by first | exact v_loadl_all ty46 rfl rfl rfl rfl rfl | exact v_loadl_part (cs := [_, _, _, _, _, _, _]) ty46 rfl rfl rfl rfl rfl rfl) rfl rfl ?_
      refine m_tk 1 false rfl rfl (by kernel_rfl) (v_move rfl) rfl rfl ?_
      refine m_tk 2 false rfl rfl (by kernel_rfl) (v_nilCheck rfl rfl) rfl rfl ?_
      refine m_tk 3 false rfl rfl (by kernel_rfl) (by first | exact v_fieldAddr ty110 fo110_2 ty22 rfl | exact v_fieldAddr_box ty110 fo110_2 ty22 rfl) rfl rfl ?_
      refine m_tk 4 true rfl rfl (by kernel_rfl) (by first | exact v_load ty22 rfl rfl (by first | rfl | assumption) (by first | assumption | exact map_get (by assumption) | rfl) rfl | exact v_load_box ty22 rfl rfl hT1.tp (by rfl)) rfl rfl ?_
      refine m_tk 5 false rfl rfl (by kernel_rfl) (v_move rfl) rfl rfl ?_
      refine m_tk 6 false rfl rfl (by kernel_rfl) (v_indexAddr ty22 ty46 rfl rfl hT1.view hzy (map_get hiy) rfl) rfl rfl ?_
      refine m_tk 7 true rfl rfl (by kernel_rfl) (by first | exact v_load_elt ty46 rfl rfl hT1.view (map_get hiy) rfl rfl | exact v_load_box_all ty46 rfl rfl (by assumption) rfl rfl | exact v_load_part (cs := [_, _, _, _, _, _, _]) ty46 rfl rfl hT1.view (map_get hiy) rfl rfl rfl | exact v_load_box_part (cs := [_, _, _, _, _, _, _]) ty46 rfl rfl (by assumption) rfl rfl rfl) rfl rfl ?_
      refine m_one 8 (by kernel_rfl) rfl rfl ?_
      refine sm_callp rfl rfl rfl (rsame_ok (jn y x) y _ hsj) ?_
      rintro _ rfl
      refine m_done (by kernel_rfl) ?_
      refine g_next hK18 ?_
      refine g_cond rfl (fun hc70 => ?_) (fun hc70 => ?_)
      ·
       try simp only [NM] at hc70
       refine g_seq (fun K19 hK19 => ?_)
       refine g_region ?_
       have hR : joinT me room l x = (l, 0) := by rw [joinT, if_neg hv, if_neg hne, hfny]; exact if_pos (by simpa using hc70)
       refine g_step rfl (s_val (v_assign rfl) rfl rfl ?_)
       refine g_nil ?_
       refine g_next hK19 ?_
       refine g_ret ?_
       refine g_then_ret ?_
       refine g_end1 (.inl rfl) Try.results25 (.tmp rfl) [] (ASub.refl _) (AHeap.sub_refl _) (fun p hp => by cases hp) (by rw [hR]; exact ⟨rfl, .inl ⟨rfl, rfl⟩⟩)
      ·
       try simp only [NM] at hc70
       refine g_skip ?_
       refine g_next hK17 ?_
       refine g_seq (fun K20 hK20 => ?_)
       refine g_draw (n := 8) (fun j => !([7] : List Nat).contains j) rfl rfl ?_
       have hR : joinT me room l x = (rput l (jn y x), 2) := by rw [joinT, if_neg hv, if_neg hne, hfny]; exact if_neg (by simpa using hc70)
       refine m_tk 0 false rfl rfl (by kernel_rfl) (v_move rfl) rfl rfl ?_
       refine m_tk 1 false rfl rfl (by kernel_rfl) (v_nilCheck rfl rfl) rfl rfl ?_
       refine m_tk 2 false rfl rfl (by kernel_rfl) (by first | exact v_fieldAddr ty110 fo110_2 ty22 rfl | exact v_fieldAddr_box ty110 fo110_2 ty22 rfl) rfl rfl ?_
       refine m_tk 3 true rfl rfl (by kernel_rfl) (by first | exact v_load ty22 rfl rfl (by first | rfl | assumption) (by first | assumption | exact map_get (by assumption) | rfl) rfl | exact v_load_box ty22 rfl rfl hT1.tp (by rfl)) rfl rfl ?_
       refine m_tk 4 false rfl rfl (by kernel_rfl) (v_move rfl) rfl rfl ?_
       refine m_tk 5 true rfl rfl (by kernel_rfl) (by first | exact v_loadl_all ty46 rfl rfl rfl rfl rfl | exact v_loadl_part (cs := [_, _, _, _, _, _, _]) ty46 rfl rfl rfl rfl rfl rfl) rfl rfl ?_
       refine m_tk 6 false rfl rfl (by kernel_rfl) (v_indexAddr ty22 ty46 rfl rfl hT1.view hzy (map_get hiy) rfl) rfl rfl ?_
       refine m_one 7 (by kernel_rfl) rfl rfl ?_
       refine sm_any rfl (s_store_row (k := j) (off := 0) (old := encR y) (new := encR (jn y x)) ty46 rfl rfl hT1.tr (by rw [Nat.zero_add]; exact map_get hiy) rfl rfl rfl rfl (.inl (.inr rfl)) ?_)
       rw [Nat.zero_add j, ← List.map_set, set_rput hiy hfy hid]
       refine m_done (by kernel_rfl) ?_
       refine g_next hK20 ?_
       refine g_seq (fun K21 hK21 => ?_)
       refine g_region ?_
       refine g_step rfl (s_val (v_assign rfl) rfl rfl ?_)
       refine g_nil ?_
       refine g_next hK21 ?_
       refine g_ret ?_
       refine g_end1 (.inl rfl) Try.results25 (.tmp rfl) [(p, .box (tabA me room r (rput l (jn y x)).length)), (r, .row 7 ((rput l (jn y x)).map encR))] (ASub.refl _) (by rw [hT1.keepbox (rput_len_hit hiy hfy hid)]; exact AHeap.sub_refl _) (fun z hz' => .inl (by simp at hz'; rcases hz' with rfl | rfl; rw [hT.tp]; simp; rw [hT.tr]; simp)) (by rw [hR]; exact ⟨rfl, .inr ⟨r, .inl rfl, rfl⟩⟩)
     ·
      refine ⟨_, rfl, .inl ⟨rfl, ?_⟩⟩
      refine sm_alloc (av := (.agg [(.int .i64 0), (.int .i64 0), (.int .i64 0), (.int .i64 0), (.int .i64 0), (.bool false), .nil0])) ty46 rfl rfl rfl rfl ?_
      refine m_one 8 (by kernel_rfl) rfl rfl ?_
      refine sm_callp rfl rfl rfl (join_ok y x _ hsy hx) ?_
      rintro _ rfl
      rw [hjn]
      refine m_tk 9 false rfl rfl (by kernel_rfl) (v_move rfl) rfl rfl ?_
      refine m_tk 10 false rfl rfl (by kernel_rfl) (v_extract rfl rfl) rfl rfl ?_
      refine m_tk 11 false rfl rfl (by kernel_rfl) (v_extract rfl rfl) rfl rfl ?_
      refine m_one 13 (by kernel_rfl) rfl rfl ?_
      refine sm_any rfl (s_store_all ty46 rfl rfl rfl rfl rfl rfl ?_)
      refine m_tk 14 false rfl rfl (by kernel_rfl) (v_assign rfl) rfl rfl ?_
      refine m_done (by kernel_rfl) ?_
      refine g_next hK16 ?_
      first | refine g_keep [0, 5] [6] [6] (keep_cons rfl (keep_cons rfl keep_nil)) (lkeep_cons rfl lkeep_nil) (keep_cons rfl keep_nil) rfl ?_ | refine g_keep [0, 5] [6] [6] rfl rfl rfl rfl ?_
      refine g_seq (fun K22 hK22 => ?_)
      refine g_seq (fun K23 hK23 => ?_)
      refine g_draw (n := 9) (fun j => !([] : List Nat).contains j) rfl rfl ?_
      refine m_tk 0 true rfl rfl (by kernel_rfl) (by first | exact v_loadl_all ty46 rfl rfl rfl rfl rfl | exact v_loadl_part (cs := [_, _, _, _, _, _, _]) ty46 rfl rfl rfl rfl rfl rfl) rfl rfl ?_
      refine m_tk 1 false rfl rfl (by kernel_rfl) (v_move rfl) rfl rfl ?_
      refine m_tk 2 false rfl rfl (by kernel_rfl) (v_nilCheck rfl rfl) rfl rfl ?_
      refine m_tk 3 false rfl rfl (by kernel_rfl) (by first | exact v_fieldAddr ty110 fo110_2 ty22 rfl | exact v_fieldAddr_box ty110 fo110_2 ty22 rfl) rfl rfl ?_
      refine m_tk 4 true rfl rfl (by kernel_rfl) (by first | exact v_load ty22 rfl rfl (by first | rfl | assumption) (by first | assumption | exact map_get (by assumption) | rfl) rfl | exact v_load_box ty22 rfl rfl hT1.tp (by rfl)) rfl rfl ?_
      refine m_tk 5 false rfl rfl (by kernel_rfl) (v_move rfl) rfl rfl ?_
      refine m_tk 6 false rfl rfl (by kernel_rfl) (v_indexAddr ty22 ty46 rfl rfl hT1.view hzy (map_get hiy) rfl) rfl rfl ?_
      refine m_tk 7 true rfl rfl (by kernel_rfl) (by first | exact v_load_elt ty46 rfl rfl hT1.view (map_get hiy) rfl rfl | exact v_load_box_all ty46 rfl rfl (by assumption) rfl rfl | exact v_load_part (cs := [_, _, _, _, _, _, _]) ty46 rfl rfl hT1.view (map_get hiy) rfl rfl rfl | exact v_load_box_part (cs := [_, _, _, _, _, _, _]) ty46 rfl rfl (by assumption) rfl rfl rfl) rfl rfl ?_
      refine m_one 8 (by kernel_rfl) rfl rfl ?_
      refine sm_callp rfl rfl rfl (rsame_ok (jn y x) y _ hsj) ?_
      rintro _ rfl
      refine m_done (by kernel_rfl) ?_
      refine g_next hK23 ?_
      refine g_cond rfl (fun hc70 => ?_) (fun hc70 => ?_)
      ·
       try simp only [NM] at hc70
       refine g_seq (fun K24 hK24 => ?_)
       refine g_region ?_
       have hR : joinT me room l x = (l, 0) := by rw [joinT, if_neg hv, if_neg hne, hfny]; exact if_pos (by simpa using hc70)
       refine g_step rfl (s_val (v_assign rfl) rfl rfl ?_)
       refine g_nil ?_
       refine g_next hK24 ?_
       refine g_ret ?_
       refine g_then_ret ?_
       refine g_end1 (.inl rfl) Try.results25 (.tmp rfl) [] (ASub.refl _) (AHeap.sub_refl _) (fun p hp => by cases hp) (by rw [hR]; exact ⟨rfl, .inl ⟨rfl, rfl⟩⟩)
      ·
       try simp only [NM] at hc70
       refine g_skip ?_
       refine g_next hK22 ?_
       refine g_seq (fun K25 hK25 => ?_)
       refine g_draw (n := 8) (fun j => !([7] : List Nat).contains j) rfl rfl ?_
       have hR : joinT me room l x = (rput l (jn y x), 2) := by rw [joinT, if_neg hv, if_neg hne, hfny]; exact if_neg (by simpa using hc70)
       refine m_tk 0 false rfl rfl (by kernel_rfl) (v_move rfl) rfl rfl ?_
       refine m_tk 1 false rfl rfl (by kernel_rfl) (v_nilCheck rfl rfl) rfl rfl ?_
       refine m_tk 2 false rfl rfl (by kernel_rfl) (by first | exact v_fieldAddr ty110 fo110_2 ty22 rfl | exact v_fieldAddr_box ty110 fo110_2 ty22 rfl) rfl rfl ?_
       refine m_tk 3 true rfl rfl (by kernel_rfl) (by first | exact v_load ty22 rfl rfl (by first | rfl | assumption) (by first | assumption | exact map_get (by assumption) | rfl) rfl | exact v_load_box ty22 rfl rfl hT1.tp (by rfl)) rfl rfl ?_
       refine m_tk 4 false rfl rfl (by kernel_rfl) (v_move rfl) rfl rfl ?_
       refine m_tk 5 true rfl rfl (by kernel_rfl) (by first | exact v_loadl_all ty46 rfl rfl rfl rfl rfl | exact v_loadl_part (cs := [_, _, _, _, _, _, _]) ty46 rfl rfl rfl rfl rfl rfl) rfl rfl ?_
       refine m_tk 6 false rfl rfl (by kernel_rfl) (v_indexAddr ty22 ty46 rfl rfl hT1.view hzy (map_get hiy) rfl) rfl rfl ?_
       refine m_one 7 (by kernel_rfl) rfl rfl ?_
       refine sm_any rfl (s_store_row (k := j) (off := 0) (old := encR y) (new := encR (jn y x)) ty46 rfl rfl hT1.tr (by rw [Nat.zero_add]; exact map_get hiy) rfl rfl rfl rfl (.inl (.inr rfl)) ?_)
       rw [Nat.zero_add j, ← List.map_set, set_rput hiy hfy hid]
       refine m_done (by kernel_rfl) ?_
       refine g_next hK25 ?_
       refine g_seq (fun K26 hK26 => ?_)
       refine g_region ?_
       refine g_step rfl (s_val (v_assign rfl) rfl rfl ?_)
       refine g_nil ?_
       refine g_next hK26 ?_
       refine g_ret ?_
       refine g_end1 (.inl rfl) Try.results25 (.tmp rfl) [(p, .box (tabA me room r (rput l (jn y x)).length)), (r, .row 7 ((rput l (jn y x)).map encR))] (ASub.refl _) (by rw [hT1.keepbox (rput_len_hit hiy hfy hid)]; exact AHeap.sub_refl _) (fun z hz' => .inl (by simp at hz'; rcases hz' with rfl | rfl; rw [hT.tp]; simp; rw [hT.tr]; simp)) (by rw [hR]; exact ⟨rfl, .inr ⟨r, .inl rfl, rfl⟩⟩)

end Go.Proofs.Ytgipbhfblmblcaa

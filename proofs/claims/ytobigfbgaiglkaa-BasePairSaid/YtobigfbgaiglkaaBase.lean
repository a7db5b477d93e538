import Derived.Test.YtobigfbgaiglkaaRec2
import Derived.Test.YtobigfbgaiglkaaDelta
import Derived.Test.YtobigfbgaiglkaaBaseS
set_option maxHeartbeats 8000000
set_option linter.unusedSimpArgs false
set_option linter.unusedVariables false
set_option maxRecDepth 100000
namespace Go.Proofs.Ytobigfbgaiglkaa
open Go Go.Proofs.Ytobigfbgaiglkaa.AM
theorem bat1_ok (b : Nat) (e : Int) (x : BRow) (G : AHeap) (hG : G b = some (.box (.int .i64 e))) : PCalls Try.prog 105 [encB x, .box b 0] G (fun v => v = .bool (hasEp e x)) := by
 refine LCalls.intro 8 fi105 rfl Try.ntmps105 rfl (fun _ h => h.elim) (fun H hH w0 hw0 => ?_)
 have hG := hH _ _ hG
 refine g_seq (fun K0 hK0 => ?_)
 refine g_region ?_
 refine g_step rfl (s_box rfl rfl rfl rfl ?_)
 refine g_step rfl (s_val (v_assign rfl) rfl rfl ?_)
 refine g_nil ?_
 refine g_next hK0 ?_
 refine g_seq (fun K1 hK1 => ?_)
 refine g_region ?_
 refine g_step rfl (s_fieldAddr ty144 fo144_1 ty3 rfl rfl ?_)
 refine g_step rfl (s_val (v_loadl ty3 rfl rfl rfl rfl) rfl rfl ?_)
 refine g_step rfl (s_val (by first | exact v_load ty3 rfl rfl (by first | rfl | assumption) (by first | assumption | exact map_get (by assumption) | rfl) rfl | exact v_load_box ty3 rfl rfl (by assumption) rfl) rfl rfl ?_)
 refine g_step rfl (s_val (v_eql rfl rfl) rfl rfl ?_)
 refine g_step rfl (s_val (v_assign rfl) rfl rfl ?_)
 refine g_nil ?_
 refine g_next hK1 ?_
 refine g_ret ?_
 refine g_end1 (.inl rfl) Try.results105 (.tmp rfl) [] (ASub.refl _) (AHeap.sub_refl _) (fun p hp => by cases hp) ⟨rfl, ?_⟩
 rfl

theorem bat_ok (l : List BRow) (e : Int) (G : AHeap) (va : AV) (hva : va.view G = some (l.map encB)) (hl : l.length ≤ 1000) : PCalls Try.prog 78 [va, .int .i64 e] G (fun v => v = .int .i64 (fidxZ (hasEp e) l)) := by
 refine LCalls.intro 8 fi78 rfl Try.ntmps78 rfl (fun _ h => h.elim) (fun H hH w0 hw0 => ?_)
 have hva := view_sub hH hva
 refine g_seq (fun K0 hK0 => ?_)
 refine g_region ?_
 refine g_step rfl (s_box rfl rfl rfl rfl ?_)
 refine g_step rfl (s_val (v_assign rfl) rfl rfl ?_)
 refine g_nil ?_
 refine g_next hK0 ?_
 refine g_seq (fun K1 hK1 => ?_)
 refine g_region ?_
 refine g_step rfl (s_val (v_move rfl) rfl rfl ?_)
 refine g_expose 3 rfl rfl (fun r3 hr3 hw3 => ?_)
 refine g_step rfl (s_val (v_makeFunc rfl) rfl rfl ?_)
 refine g_step rfl (s_callp rfl rfl rfl (ixB_ok l 105 [.box r3 0] (hasEp e) _ va (view_sub (AHeap.sub_set (AHeap.sub_refl _) hr3) hva) (by omega) (fun x hx H' h' => bat1_ok r3 e x H' (h' _ _ (AHeap.get_set _ _ _)))) ?_)
 rintro _ rfl
 refine g_step rfl (s_val (v_assign rfl) rfl rfl ?_)
 refine g_nil ?_
 refine g_next hK1 ?_
 refine g_ret ?_
 refine g_end1 (.inl rfl) Try.results78 (.tmp rfl) [] (ASub.refl _) (AHeap.sub_set (AHeap.sub_refl _) hr3) (fun p hp => by cases hp) ⟨rfl, ?_⟩
 rfl

theorem pushing_ok (life : Int) (G : AHeap) : LCalls Try.prog 36 [.int .i64 life] G noD (fun n v effs => ∃ p r, n ≤ p ∧ n ≤ r ∧ p ≠ r ∧ v = .box p 0 ∧ effs = [(p, .box (.agg [.int .i64 life, .map r])), (r, bmRow [])]) := by
 refine LCalls.intro 7 fi36 rfl Try.ntmps36 rfl (fun _ h => h.elim) (fun H hH w0 hw0 => ?_)
 refine g_seq (fun K0 hK0 => ?_)
 refine g_region ?_
 refine g_step rfl (s_val (v_assign rfl) rfl rfl ?_)
 refine g_nil ?_
 refine g_next hK0 ?_
 refine g_seq (fun K1 hK1 => ?_)
 refine g_region ?_
 refine g_step rfl (s_val (v_move rfl) rfl rfl ?_)
 refine g_step rfl (s_makeMap .i64 rfl (fun r4 hr4 hw4 => ?_))
 refine g_step rfl (s_val (v_build (vs := [(0, _), (1, _)]) (zs := [(.int .i64 0), .nilm]) (cells := [_, _]) ty138 pl138 rfl rfl rfl) rfl rfl ?_)
 refine g_step rfl (s_box rfl rfl rfl rfl ?_)
 refine g_expose 6 rfl rfl (fun r6 hr6 hw6 => ?_)
 refine g_step rfl (s_val (v_assign rfl) rfl rfl ?_)
 refine g_nil ?_
 refine g_next hK1 ?_
 refine g_ret ?_
 refine g_end1 (.inl rfl) Try.results36 (.tmp rfl) [(r6, .box (.agg [.int .i64 life, .map r4])), (r4, bmRow [])] (ASub.refl _) (AHeap.sub_refl _) (fun q hq => .inr (by simp at hq; rcases hq with rfl | rfl; exact hw6; exact hw4)) ⟨r6, r4, hw6, hw4, (fun e => by subst e; rw [AHeap.get_set] at hr6; cases hr6), rfl, rfl⟩

theorem life_ok (p r : Nat) (life : Int) (G : AHeap) (hG : G p = some (.box (.agg [.int .i64 life, .map r]))) : PCalls Try.prog 37 [.box p 0] G (fun v => v = .int .i64 life) := by
 refine LCalls.intro 9 fi37 rfl Try.ntmps37 rfl (fun _ h => h.elim) (fun H hH w0 hw0 => ?_)
 have hG := hH _ _ hG
 refine g_seq (fun K0 hK0 => ?_)
 refine g_region ?_
 refine g_step rfl (s_val (v_assign rfl) rfl rfl ?_)
 refine g_nil ?_
 refine g_next hK0 ?_
 refine g_seq (fun K1 hK1 => ?_)
 refine g_seq (fun K2 hK2 => ?_)
 refine g_region ?_
 refine g_step rfl (s_val (v_move rfl) rfl rfl ?_)
 refine g_step rfl (s_val (by first | exact v_ptr_eql_nil ty61 rfl rfl rfl | exact v_nil_eql_nil ty61 rfl rfl | exact v_ptrO_eql ty61 rfl rfl) rfl rfl ?_)
 refine g_nil ?_
 refine g_next hK2 ?_
 refine g_cond rfl (fun hc4 => ?_) (fun hc4 => ?_)
 · exfalso; (try simp only [decide_eq_true_eq, decide_eq_false_iff_not, Bool.not_eq_true', Bool.not_eq_false', Bool.not_eq_eq_eq_not, Bool.not_true, Bool.not_false, Bool.and_eq_true, Bool.or_eq_true, Bool.or_eq_false_iff, beq_iff_eq, beq_eq_false_iff_ne, ne_eq, Int.not_lt, Int.not_le, Decidable.not_not] at hc4); simp at hc4
 ·
  try simp only [decide_eq_true_eq, decide_eq_false_iff_not, Bool.not_eq_true', Bool.not_eq_false', Bool.not_eq_eq_eq_not, Bool.not_true, Bool.not_false, Bool.and_eq_true, Bool.or_eq_true, Bool.or_eq_false_iff, beq_iff_eq, beq_eq_false_iff_ne, ne_eq, Int.not_lt, Int.not_le, Decidable.not_not] at hc4
  refine g_skip ?_
  refine g_next hK1 ?_
  refine g_seq (fun K3 hK3 => ?_)
  refine g_region ?_
  refine g_step rfl (s_val (v_move rfl) rfl rfl ?_)
  refine g_step rfl (s_val (v_nilCheck rfl rfl) rfl rfl ?_)
  refine g_step rfl (s_val (by first | exact v_fieldAddr ty138 fo138_0 ty3 rfl | exact v_fieldAddr_box ty138 fo138_0 ty3 rfl) rfl rfl ?_)
  refine g_step rfl (s_val (by first | exact v_load ty3 rfl rfl (by first | rfl | assumption) (by first | assumption | exact map_get (by assumption) | rfl) rfl | exact v_load_box ty3 rfl rfl (by assumption) rfl) rfl rfl ?_)
  refine g_step rfl (s_val (v_assign rfl) rfl rfl ?_)
  refine g_nil ?_
  refine g_next hK3 ?_
  refine g_ret ?_
  refine g_end1 (.inl rfl) Try.results37 (.tmp rfl) [] (ASub.refl _) (AHeap.sub_refl _) (fun p hp => by cases hp) ⟨rfl, ?_⟩
  rfl

theorem of_ok (p r : Nat) (life peer life' : Int) (ml : BMap) (G : AHeap) (hp : G p = some (.box (.agg [.int .i64 life, .map r]))) (hr : G r = some (bmRow ml)) : PCalls Try.prog 77 [.box p 0, .int .i64 peer, .int .i64 life'] G (fun v => v = ptrOf (if life' = life then pget ml peer else none)) := by
 refine LCalls.intro 23 fi77 rfl Try.ntmps77 rfl (fun _ h => h.elim) (fun H hH w0 hw0 => ?_)
 have hp := hH _ _ hp
 have hr := hH _ _ hr
 refine g_seq (fun K0 hK0 => ?_)
 refine g_region ?_
 refine g_step rfl (s_val (v_assign rfl) rfl rfl ?_)
 refine g_nil ?_
 refine g_next hK0 ?_
 refine g_seq (fun K1 hK1 => ?_)
 refine g_seq (fun K2 hK2 => ?_)
 refine g_region ?_
 refine g_step rfl (s_val (v_move rfl) rfl rfl ?_)
 refine g_step rfl (s_val (by first | exact v_ptr_eql_nil ty61 rfl rfl rfl | exact v_nil_eql_nil ty61 rfl rfl | exact v_ptrO_eql ty61 rfl rfl) rfl rfl ?_)
 refine g_step rfl (s_val (v_move rfl) rfl rfl ?_)
 refine g_split 9 rfl (fun hg9 => ?_) (fun hg9 => ?_)
 · exfalso; (try simp only [decide_eq_true_eq, decide_eq_false_iff_not, Bool.not_eq_true', Bool.not_eq_false', Bool.not_eq_eq_eq_not, Bool.not_true, Bool.not_false, Bool.and_eq_true, Bool.or_eq_true, Bool.or_eq_false_iff, beq_iff_eq, beq_eq_false_iff_ne, ne_eq, Int.not_lt, Int.not_le, Decidable.not_not] at hg9); simp at hg9
 ·
  try simp only [decide_eq_true_eq, decide_eq_false_iff_not, Bool.not_eq_true', Bool.not_eq_false', Bool.not_eq_eq_eq_not, Bool.not_true, Bool.not_false, Bool.and_eq_true, Bool.or_eq_true, Bool.or_eq_false_iff, beq_iff_eq, beq_eq_false_iff_ne, ne_eq, Int.not_lt, Int.not_le, Decidable.not_not] at hg9
  refine g_step_yes (j := 2) (t := 9) rfl rfl rfl rfl (s_val (v_move rfl) rfl rfl ?_)
  refine g_step_yes (j := 2) (t := 9) rfl rfl rfl rfl (s_val (v_nilCheck rfl rfl) rfl rfl ?_)
  refine g_step_yes (j := 2) (t := 9) rfl rfl rfl rfl (s_val (by first | exact v_fieldAddr ty138 fo138_0 ty3 rfl | exact v_fieldAddr_box ty138 fo138_0 ty3 rfl) rfl rfl ?_)
  refine g_step_yes (j := 2) (t := 9) rfl rfl rfl rfl (s_val (by first | exact v_load ty3 rfl rfl (by first | rfl | assumption) (by first | assumption | exact map_get (by assumption) | rfl) rfl | exact v_load_box ty3 rfl rfl (by assumption) rfl) rfl rfl ?_)
  refine g_step_yes (j := 2) (t := 9) rfl rfl rfl rfl (s_val (v_move rfl) rfl rfl ?_)
  refine g_step_yes (j := 2) (t := 9) rfl rfl rfl rfl (s_val (v_neq rfl rfl) rfl rfl ?_)
  refine g_step rfl (s_val (v_pick_f rfl rfl) rfl rfl ?_)
  refine g_nil ?_
  refine g_next hK2 ?_
  refine g_cond rfl (fun hc16 => ?_) (fun hc16 => ?_)
  ·
   try simp only [decide_eq_true_eq, decide_eq_false_iff_not, Bool.not_eq_true', Bool.not_eq_false', Bool.not_eq_eq_eq_not, Bool.not_true, Bool.not_false, Bool.and_eq_true, Bool.or_eq_true, Bool.or_eq_false_iff, beq_iff_eq, beq_eq_false_iff_ne, ne_eq, Int.not_lt, Int.not_le, Decidable.not_not] at hc16
   refine g_seq (fun K3 hK3 => ?_)
   refine g_region ?_
   refine g_step rfl (s_val (v_assign rfl) rfl rfl ?_)
   refine g_nil ?_
   refine g_next hK3 ?_
   refine g_ret ?_
   refine g_then_ret ?_
   refine g_end1 (.inl rfl) Try.results77 (.tmp rfl) [] (ASub.refl _) (AHeap.sub_refl _) (fun p hp => by cases hp) ⟨rfl, ?_⟩
   first | (rw [if_neg (Ne.symm hc16)]; rfl; done) | (rw [if_neg (Ne.symm hc16)]; rfl; rfl)
  ·
   try simp only [decide_eq_true_eq, decide_eq_false_iff_not, Bool.not_eq_true', Bool.not_eq_false', Bool.not_eq_eq_eq_not, Bool.not_true, Bool.not_false, Bool.and_eq_true, Bool.or_eq_true, Bool.or_eq_false_iff, beq_iff_eq, beq_eq_false_iff_ne, ne_eq, Int.not_lt, Int.not_le, Decidable.not_not] at hc16
   refine g_skip ?_
   refine g_next hK1 ?_
   refine g_seq (fun K4 hK4 => ?_)
   refine g_region ?_
   refine g_step rfl (s_val (v_move rfl) rfl rfl ?_)
   refine g_step rfl (s_val (v_nilCheck rfl rfl) rfl rfl ?_)
   refine g_step rfl (s_val (by first | exact v_fieldAddr ty138 fo138_1 ty136 rfl | exact v_fieldAddr_box ty138 fo138_1 ty136 rfl) rfl rfl ?_)
   refine g_step rfl (s_val (by first | exact v_load ty136 rfl rfl (by first | rfl | assumption) (by first | assumption | exact map_get (by assumption) | rfl) rfl | exact v_load_box ty136 rfl rfl (by assumption) rfl) rfl rfl ?_)
   refine g_step rfl (s_val (v_move rfl) rfl rfl ?_)
   refine g_step rfl (s_val (v_lookup (o := (ptrOf (pget ml peer))) (f := (pget ml peer).isSome) ty136 ty3 ty140 rfl rfl rfl (show _ = some (mrow .i64 (mmap (fun b => AV.box b 0) ml)) from hr) (blook ml peer) (blook_is ml peer)) rfl rfl ?_)
   refine g_step rfl (s_val (v_assign rfl) rfl rfl ?_)
   refine g_nil ?_
   refine g_next hK4 ?_
   refine g_ret ?_
   refine g_end1 (.inl rfl) Try.results77 (.tmp rfl) [] (ASub.refl _) (AHeap.sub_refl _) (fun p hp => by cases hp) ⟨rfl, ?_⟩
   first | (rw [if_pos hc16.symm]; done) | (rw [if_pos hc16.symm]; rfl)

theorem oNext_ok (h : AHeap) (p r : Nat) (life : Int) (f : Int → Snt) (peer : Int) (now : List Rc) (hnl : now.length ≤ 1000) (hns : ∀ x ∈ now, Small x.bag) (G : AHeap) (hO : OutIs h p r life f) (hG : h.sub G) (hS : SOk (f peer)) : LCalls Try.prog 39 [.box p 0, .int .i64 peer, encRs now] G (fun b => h b ≠ none) (fun n v effs => v = (if srt now = true then .tup [.int .i64 ((f peer).last + 1), .int .i64 (nextBase (f peer) now).epoch, encRs (nextBase (f peer) now).recs] else .tup [.int .i64 0, .int .i64 0, .imm []]) ∧ ∃ h', EffTo h h' n effs ∧ OutIs h' p r life (upd f peer (if srt now = true then nextF (f peer) now else (f peer)))) := by
 refine LCalls.intro 115 fi39 rfl Try.ntmps39 rfl (fun b hb => sub_some hG hb) (fun H hH w0 hw0 => ?_)
 obtain ⟨ml, aw, hP⟩ := hO
 have hhH := AHeap.sub_trans hG hH
 have hp := hhH _ _ hP.pp
 have hr := hhH _ _ hP.rr
 refine g_seq (fun K0 hK0 => ?_)
 refine g_region ?_
 refine g_step rfl (s_val (v_assign rfl) rfl rfl ?_)
 refine g_step rfl (s_val (v_assign rfl) rfl rfl ?_)
 refine g_step rfl (s_val (v_assign rfl) rfl rfl ?_)
 refine g_nil ?_
 refine g_next hK0 ?_
 refine g_seq (fun K1 hK1 => ?_)
 refine g_seq (fun K2 hK2 => ?_)
 refine g_region ?_
 refine g_step rfl (s_val (v_move rfl) rfl rfl ?_)
 refine g_step rfl (s_val (by first | exact v_ptr_eql_nil ty61 rfl rfl rfl | exact v_nil_eql_nil ty61 rfl rfl | exact v_ptrO_eql ty61 rfl rfl) rfl rfl ?_)
 refine g_step rfl (s_val (v_move rfl) rfl rfl ?_)
 refine g_split 15 rfl (fun hg15 => ?_) (fun hg15 => ?_)
 · exfalso; (try simp only [decide_eq_true_eq, decide_eq_false_iff_not, Bool.not_eq_true', Bool.not_eq_false', Bool.not_eq_eq_eq_not, Bool.not_true, Bool.not_false, Bool.and_eq_true, Bool.or_eq_true, Bool.or_eq_false_iff, beq_iff_eq, beq_eq_false_iff_ne, ne_eq, Int.not_lt, Int.not_le, Decidable.not_not] at hg15); simp at hg15
 ·
  try simp only [decide_eq_true_eq, decide_eq_false_iff_not, Bool.not_eq_true', Bool.not_eq_false', Bool.not_eq_eq_eq_not, Bool.not_true, Bool.not_false, Bool.and_eq_true, Bool.or_eq_true, Bool.or_eq_false_iff, beq_iff_eq, beq_eq_false_iff_ne, ne_eq, Int.not_lt, Int.not_le, Decidable.not_not] at hg15
  refine g_step_yes (j := 2) (t := 15) rfl rfl rfl rfl (s_val (v_move rfl) rfl rfl ?_)
  refine g_step_yes (j := 2) (t := 15) rfl rfl rfl rfl (s_callp rfl rfl rfl (sorted_ok now _ (by omega) hns) ?_)
  rintro _ rfl
  refine g_step_yes (j := 2) (t := 15) rfl rfl rfl rfl (s_val (v_not rfl) rfl rfl ?_)
  refine g_step rfl (s_val (v_pick_f rfl rfl) rfl rfl ?_)
  refine g_nil ?_
  refine g_next hK2 ?_
  refine g_cond rfl (fun hc19 => ?_) (fun hc19 => ?_)
  ·
   try simp only [decide_eq_true_eq, decide_eq_false_iff_not, Bool.not_eq_true', Bool.not_eq_false', Bool.not_eq_eq_eq_not, Bool.not_true, Bool.not_false, Bool.and_eq_true, Bool.or_eq_true, Bool.or_eq_false_iff, beq_iff_eq, beq_eq_false_iff_ne, ne_eq, Int.not_lt, Int.not_le, Decidable.not_not] at hc19
   refine g_seq (fun K3 hK3 => ?_)
   refine g_region ?_
   have hns' : srt now = false := by simpa using hc19
   refine g_step rfl (s_val (v_assign rfl) rfl rfl ?_)
   refine g_step rfl (s_val (v_assign rfl) rfl rfl ?_)
   refine g_step rfl (s_val (v_assign rfl) rfl rfl ?_)
   refine g_nil ?_
   refine g_next hK3 ?_
   refine g_ret ?_
   refine g_then_ret ?_
   refine g_end3 (.inl rfl) Try.results39 (.tmp rfl) (.tmp rfl) (.tmp rfl) [] (ASub.tup (m := [.int .i64 0, .int .i64 0, .imm []]) ⟨ASub.refl _, ASub.refl _, ASub.nil0, trivial⟩) (AHeap.sub_refl _) (fun p hp => by cases hp) ⟨by rw [if_neg (by simp [hns'])], h, EffTo.refl _ _, ml, aw, by rw [if_neg (by simp [hns']), upd_id]; exact hP⟩
  ·
   try simp only [decide_eq_true_eq, decide_eq_false_iff_not, Bool.not_eq_true', Bool.not_eq_false', Bool.not_eq_eq_eq_not, Bool.not_true, Bool.not_false, Bool.and_eq_true, Bool.or_eq_true, Bool.or_eq_false_iff, beq_iff_eq, beq_eq_false_iff_ne, ne_eq, Int.not_lt, Int.not_le, Decidable.not_not] at hc19
   have hyn : srt now = true := by simpa using hc19
   refine g_skip ?_
   refine g_next hK1 ?_
   refine g_seq (fun K4 hK4 => ?_)
   refine g_region ?_
   refine g_step rfl (s_val (v_move rfl) rfl rfl ?_)
   refine g_step rfl (s_val (v_nilCheck rfl rfl) rfl rfl ?_)
   refine g_step rfl (s_val (by first | exact v_fieldAddr ty138 fo138_1 ty136 rfl | exact v_fieldAddr_box ty138 fo138_1 ty136 rfl) rfl rfl ?_)
   refine g_step rfl (s_val (by first | exact v_load ty136 rfl rfl (by first | rfl | assumption) (by first | assumption | exact map_get (by assumption) | rfl) rfl | exact v_load_box ty136 rfl rfl (by assumption) rfl) rfl rfl ?_)
   refine g_step rfl (s_val (v_move rfl) rfl rfl ?_)
   refine g_step rfl (s_val (v_lookup (o := (ptrOf (pget ml peer))) (f := (pget ml peer).isSome) ty136 ty3 ty140 rfl rfl rfl (show _ = some (mrow .i64 (mmap (fun b => AV.box b 0) ml)) from hr) (blook ml peer) (blook_is ml peer)) rfl rfl ?_)
   refine g_step rfl (s_val (v_assign rfl) rfl rfl ?_)
   refine g_nil ?_
   refine g_next hK4 ?_
   refine g_cut (fun env L B G => ∃ (b : Nat) (ml1 : BMap) (aw1 : Int → AV) (h1 : AHeap) (e1 : List (Nat × ARow)), env = [(2, encRs now), (9, .box b 0)] ∧ L = [] ∧ B = [] ∧ G = setAll H e1 ∧ pget ml1 peer = some b ∧ EffTo h h1 w0.heap.size e1 ∧ OA h1 p (.agg [.int .i64 life, .map r]) r ml1 f aw1) ?_ (fun env L B G hI => ?_)
   ·
    refine g_seq (fun K5 hK5 => ?_)
    refine g_region ?_
    rcases hk : pget ml peer with _ | b
    ·
     simp only [ptrOf]
     refine g_step rfl (s_val (v_move rfl) rfl rfl ?_)
     refine g_step rfl (s_val (by first | exact v_ptr_eql_nil ty140 rfl rfl rfl | exact v_nil_eql_nil ty140 rfl rfl | exact v_ptrO_eql ty140 rfl rfl) rfl rfl ?_)
     refine g_nil ?_
     refine g_next hK5 ?_
     refine g_cond rfl (fun hc27 => ?_) (fun hc27 => ?_)
     ·
      try simp only [decide_eq_true_eq, decide_eq_false_iff_not, Bool.not_eq_true', Bool.not_eq_false', Bool.not_eq_eq_eq_not, Bool.not_true, Bool.not_false, Bool.and_eq_true, Bool.or_eq_true, Bool.or_eq_false_iff, beq_iff_eq, beq_eq_false_iff_ne, ne_eq, Int.not_lt, Int.not_le, Decidable.not_not] at hc27
      refine g_seq (fun K6 hK6 => ?_)
      refine g_region ?_
      refine g_step rfl (s_val (v_sub (b := (encS s0 .nil0)) (v_build (vs := []) (zs := [(.int .i64 0), .nil0, (.int .i64 0), .nil0]) (cells := [_, _, _, _]) ty148 pl148 rfl rfl rfl) (ASub.agg (m := [.int .i64 0, .imm [], .int .i64 0, .nil0]) ⟨ASub.refl _, ASub.nil0, ASub.refl _, ASub.refl _, trivial⟩)) rfl rfl ?_)
      refine g_step rfl (s_box rfl rfl rfl rfl ?_)
      refine g_expose 29 rfl rfl (fun r29 hr29 hw29 => ?_)
      refine g_step rfl (s_val (v_assign rfl) rfl rfl ?_)
      refine g_nil ?_
      refine g_next hK6 ?_
      refine g_region ?_
      have hrr : r ≠ r29 := fun e => by rw [← e, hr] at hr29; cases hr29
      have hpr : p ≠ r29 := fun e => by rw [← e, hp] at hr29; cases hr29
      have hp6 : (H.set r29 (.box (encS s0 .nil0))) p = some (.box (.agg [.int .i64 life, .map r])) := (AHeap.get_set_ne _ _ hpr).trans hp
      have hr6 : (H.set r29 (.box (encS s0 .nil0))) r = some (mrow .i64 (mmap (fun b => AV.box b 0) ml)) := (AHeap.get_set_ne _ _ hrr).trans hr
      have hnew := hP.new peer (sub_none hhH hr29) s0 rfl
      rw [show upd f peer s0 = f by rw [← hP.df peer hk]; exact upd_id f peer] at hnew
      have hen := ((EffTo.refl h w0.heap.size).write (.box (encS s0 .nil0)) (.inr hw29)).write (b := r) (bmRow (pput ml peer r29)) (.inl (by rw [AHeap.get_set_ne _ _ hrr, hP.rr]; simp))
      refine g_step rfl (s_val (v_move rfl) rfl rfl ?_)
      refine g_step rfl (s_val (v_nilCheck rfl rfl) rfl rfl ?_)
      refine g_step rfl (s_val (by first | exact v_fieldAddr ty138 fo138_1 ty136 rfl | exact v_fieldAddr_box ty138 fo138_1 ty136 rfl) rfl rfl ?_)
      refine g_step rfl (s_val (by first | exact v_load ty136 rfl rfl (by first | rfl | assumption) (by first | assumption | exact map_get (by assumption) | rfl) rfl | exact v_load_box ty136 rfl rfl (by assumption) rfl) rfl rfl ?_)
      refine g_step rfl (s_val (v_move rfl) rfl rfl ?_)
      refine g_step rfl (s_val (v_move rfl) rfl rfl ?_)
      refine g_step rfl (s_mapUpdate ty136 ty3 rfl rfl rfl hr6 (.inl (by show h r ≠ none; rw [hP.rr]; simp)) ?_)
      rw [bput_row]
      refine g_nil ?_
      first | refine g_keep [2, 9] [] [] (keep_cons rfl (keep_cons rfl keep_nil)) lkeep_nil keep_nil rfl ?_ | refine g_keep [2, 9] [] [] rfl rfl rfl rfl ?_
      first | exact g_has ⟨b, ml, aw, h, [], rfl, rfl, rfl, rfl, ⟨hk, (EffTo.refl h w0.heap.size), hP⟩⟩ | exact g_has ⟨r29, pput ml peer r29, upd aw peer .nil0, _, [(r, bmRow (pput ml peer r29)), (r29, .box (encS s0 .nil0))], rfl, rfl, rfl, rfl, ⟨by rw [pget_pput, if_pos rfl], hen, hnew⟩⟩
     · exfalso; (try simp only [decide_eq_true_eq, decide_eq_false_iff_not, Bool.not_eq_true', Bool.not_eq_false', Bool.not_eq_eq_eq_not, Bool.not_true, Bool.not_false, Bool.and_eq_true, Bool.or_eq_true, Bool.or_eq_false_iff, beq_iff_eq, beq_eq_false_iff_ne, ne_eq, Int.not_lt, Int.not_le, Decidable.not_not] at hc27); simp at hc27
    ·
     simp only [ptrOf]
     refine g_step rfl (s_val (v_move rfl) rfl rfl ?_)
     refine g_step rfl (s_val (by first | exact v_ptr_eql_nil ty140 rfl rfl rfl | exact v_nil_eql_nil ty140 rfl rfl | exact v_ptrO_eql ty140 rfl rfl) rfl rfl ?_)
     refine g_nil ?_
     refine g_next hK5 ?_
     refine g_cond rfl (fun hc27 => ?_) (fun hc27 => ?_)
     · exfalso; (try simp only [decide_eq_true_eq, decide_eq_false_iff_not, Bool.not_eq_true', Bool.not_eq_false', Bool.not_eq_eq_eq_not, Bool.not_true, Bool.not_false, Bool.and_eq_true, Bool.or_eq_true, Bool.or_eq_false_iff, beq_iff_eq, beq_eq_false_iff_ne, ne_eq, Int.not_lt, Int.not_le, Decidable.not_not] at hc27); simp at hc27
     ·
      try simp only [decide_eq_true_eq, decide_eq_false_iff_not, Bool.not_eq_true', Bool.not_eq_false', Bool.not_eq_eq_eq_not, Bool.not_true, Bool.not_false, Bool.and_eq_true, Bool.or_eq_true, Bool.or_eq_false_iff, beq_iff_eq, beq_eq_false_iff_ne, ne_eq, Int.not_lt, Int.not_le, Decidable.not_not] at hc27
      refine g_skip ?_
      first | refine g_keep [2, 9] [] [] (keep_cons rfl (keep_cons rfl keep_nil)) lkeep_nil keep_nil rfl ?_ | refine g_keep [2, 9] [] [] rfl rfl rfl rfl ?_
      first | exact g_has ⟨b, ml, aw, h, [], rfl, rfl, rfl, rfl, ⟨hk, (EffTo.refl h w0.heap.size), hP⟩⟩ | exact g_has ⟨r29, pput ml peer r29, upd aw peer .nil0, _, [(r, bmRow (pput ml peer r29)), (r29, .box (encS s0 .nil0))], rfl, rfl, rfl, rfl, ⟨by rw [pget_pput, if_pos rfl], hen, hnew⟩⟩
   ·
    obtain ⟨b, ml1, aw1, h1, e1, rfl, rfl, rfl, rfl, hk1, hE1, hP1⟩ := hI
    have hb1 := hE1.within hhH _ _ (hP1.bb peer b hk1)
    have hw1 := hP1.ww peer b hk1
    have hDb : h b ≠ none ∨ w0.heap.size ≤ b := hE1.some (by rw [hP1.bb peer b hk1]; simp)
    have hlast := hS.last
    have hbase := hS.base
    have hwl := hS.waits.1
    refine g_seq (fun K7 hK7 => ?_)
    refine g_seq (fun K8 hK8 => ?_)
    refine g_region ?_
    refine g_step rfl (s_val (v_move rfl) rfl rfl ?_)
    refine g_step rfl (s_val (v_nilCheck rfl rfl) rfl rfl ?_)
    refine g_step rfl (s_val (by first | exact v_fieldAddr ty148 fo148_0 ty3 rfl | exact v_fieldAddr_box ty148 fo148_0 ty3 rfl) rfl rfl ?_)
    refine g_step rfl (s_val (by first | exact v_load ty3 rfl rfl (by first | rfl | assumption) (by first | assumption | exact map_get (by assumption) | rfl) rfl | exact v_load_box ty3 rfl rfl hb1 (by rfl)) rfl rfl ?_)
    refine g_step rfl (s_val (v_geq rfl rfl) rfl rfl ?_)
    refine g_nil ?_
    refine g_next hK8 ?_
    refine g_cond rfl (fun hc40 => ?_) (fun hc40 => ?_)
    · exfalso; (try simp only [decide_eq_true_eq, decide_eq_false_iff_not, Bool.not_eq_true', Bool.not_eq_false', Bool.not_eq_eq_eq_not, Bool.not_true, Bool.not_false, Bool.and_eq_true, Bool.or_eq_true, Bool.or_eq_false_iff, beq_iff_eq, beq_eq_false_iff_ne, ne_eq, Int.not_lt, Int.not_le, Decidable.not_not] at hc40); omega
    ·
     try simp only [decide_eq_true_eq, decide_eq_false_iff_not, Bool.not_eq_true', Bool.not_eq_false', Bool.not_eq_eq_eq_not, Bool.not_true, Bool.not_false, Bool.and_eq_true, Bool.or_eq_true, Bool.or_eq_false_iff, beq_iff_eq, beq_eq_false_iff_ne, ne_eq, Int.not_lt, Int.not_le, Decidable.not_not] at hc40
     refine g_skip ?_
     refine g_next hK7 ?_
     refine g_cut (fun env L B G => ∃ (h2 : AHeap) (e2 : List (Nat × ARow)), env = [(2, encRs now), (9, .box b 0)] ∧ L = [] ∧ B = [] ∧ G = setAll H e2 ∧ EffTo h h2 w0.heap.size e2 ∧ h2 b = some (.box (encS ⟨(f peer).last, (nextBase (f peer) now), []⟩ (aw1 peer))) ∧ SV h2 2 (aw1 peer) ((f peer).waits.map encB) ∧ ∀ c y, h1 c = some y → c ≠ b → h2 c = some y) ?_ (fun env L B G hI => ?_)
     ·
      refine g_seq (fun K9 hK9 => ?_)
      refine g_region ?_
      refine g_step rfl (s_val (v_move rfl) rfl rfl ?_)
      refine g_step rfl (s_val (v_nilCheck rfl rfl) rfl rfl ?_)
      refine g_step rfl (s_val (by first | exact v_fieldAddr ty148 fo148_1 ty144 rfl | exact v_fieldAddr_box ty148 fo148_1 ty144 rfl) rfl rfl ?_)
      refine g_step rfl (s_val (by first | exact v_fieldAddr ty144 fo144_0 ty142 rfl | exact v_fieldAddr_box ty144 fo144_0 ty142 rfl) rfl rfl ?_)
      refine g_step rfl (s_val (by first | exact v_fieldAddr ty142 fo142_0 ty64 rfl | exact v_fieldAddr_box ty142 fo142_0 ty64 rfl) rfl rfl ?_)
      refine g_step rfl (s_val (by first | exact v_load ty64 rfl rfl (by first | rfl | assumption) (by first | assumption | exact map_get (by assumption) | rfl) rfl | exact v_load_box ty64 rfl rfl hb1 (by rfl)) rfl rfl ?_)
      refine g_step rfl (s_val (v_move rfl) rfl rfl ?_)
      refine g_step rfl (s_callp rfl rfl rfl (dgone_ok (f peer).base.recs now _ (Nat.le_trans hbase.1 (by decide)) (by omega) hbase.2 hns) ?_)
      rintro _ rfl
      refine g_step rfl (s_val (v_move rfl) rfl rfl ?_)
      refine g_step rfl (s_val (v_extract rfl rfl) rfl rfl ?_)
      refine g_step rfl (s_val (v_extract rfl rfl) rfl rfl ?_)
      refine g_step rfl (s_val (v_assign rfl) rfl rfl ?_)
      refine g_step rfl (s_val (v_assign rfl) rfl rfl ?_)
      refine g_nil ?_
      refine g_next hK9 ?_
      refine g_seq (fun K10 hK10 => ?_)
      refine g_region ?_
      refine g_step rfl (s_val (v_move rfl) rfl rfl ?_)
      refine g_step rfl (s_val (v_len ty41 rfl (by first | rfl | assumption) (by first | exact List.length_map .. | rfl)) rfl rfl ?_)
      refine g_step rfl (s_val (v_gtr rfl rfl) rfl rfl ?_)
      refine g_nil ?_
      refine g_next hK10 ?_
      refine g_cond rfl (fun hc54 => ?_) (fun hc54 => ?_)
      ·
       try simp only [decide_eq_true_eq, decide_eq_false_iff_not, Bool.not_eq_true', Bool.not_eq_false', Bool.not_eq_eq_eq_not, Bool.not_true, Bool.not_false, Bool.and_eq_true, Bool.or_eq_true, Bool.or_eq_false_iff, beq_iff_eq, beq_eq_false_iff_ne, ne_eq, Int.not_lt, Int.not_le, Decidable.not_not] at hc54
       have hnb : (nextBase (f peer) now) = b0 := if_pos (by simp only [Bool.and_eq_true]; omega)
       refine g_region ?_
       refine g_step rfl (s_val (v_move rfl) rfl rfl ?_)
       refine g_step rfl (s_val (v_sub (b := (encB b0)) (v_build (vs := []) (zs := [.nil0, (.int .i64 0)]) (cells := [_, _]) ty144 pl144 rfl rfl rfl) (ASub.agg (m := [.imm [], .int .i64 0]) ⟨ASub.nil0, ASub.refl _, trivial⟩)) rfl rfl ?_)
       refine g_step rfl (s_val (v_nilCheck rfl rfl) rfl rfl ?_)
       refine g_step rfl (s_val (by first | exact v_fieldAddr ty148 fo148_1 ty144 rfl | exact v_fieldAddr_box ty148 fo148_1 ty144 rfl) rfl rfl ?_)
       refine g_step rfl (s_store_box (new := encS ⟨(f peer).last, b0, []⟩ (aw1 peer)) ty144 rfl rfl hb1 rfl rfl rfl rfl hDb ?_)
       refine g_nil ?_
       first | refine g_keep [2, 9] [] [] (keep_cons rfl (keep_cons rfl keep_nil)) lkeep_nil keep_nil rfl ?_ | refine g_keep [2, 9] [] [] rfl rfl rfl rfl ?_
       first | exact g_has ⟨h1, e1, rfl, rfl, rfl, rfl, ⟨hE1, by rw [hnb]; exact hP1.bb peer b hk1, hw1, fun _ _ hc _ => hc⟩⟩ | exact g_has ⟨h1.set b (.box (encS ⟨(f peer).last, b0, []⟩ (aw1 peer))), (b, .box (encS ⟨(f peer).last, b0, []⟩ (aw1 peer))) :: e1, rfl, rfl, rfl, rfl, ⟨hE1.write _ (.inl (by rw [hP1.bb peer b hk1]; simp)), by rw [hnb]; exact AHeap.get_set _ _ _, sv_set hw1 (hP1.bb peer b hk1), fun c y hc hcb => (AHeap.get_set_ne _ _ hcb).trans hc⟩⟩
      ·
       try simp only [decide_eq_true_eq, decide_eq_false_iff_not, Bool.not_eq_true', Bool.not_eq_false', Bool.not_eq_eq_eq_not, Bool.not_true, Bool.not_false, Bool.and_eq_true, Bool.or_eq_true, Bool.or_eq_false_iff, beq_iff_eq, beq_eq_false_iff_ne, ne_eq, Int.not_lt, Int.not_le, Decidable.not_not] at hc54
       have hnb : (nextBase (f peer) now) = (f peer).base := if_neg (by simp only [Bool.and_eq_true]; omega)
       refine g_skip ?_
       first | refine g_keep [2, 9] [] [] (keep_cons rfl (keep_cons rfl keep_nil)) lkeep_nil keep_nil rfl ?_ | refine g_keep [2, 9] [] [] rfl rfl rfl rfl ?_
       first | exact g_has ⟨h1, e1, rfl, rfl, rfl, rfl, ⟨hE1, by rw [hnb]; exact hP1.bb peer b hk1, hw1, fun _ _ hc _ => hc⟩⟩ | exact g_has ⟨h1.set b (.box (encS ⟨(f peer).last, b0, []⟩ (aw1 peer))), (b, .box (encS ⟨(f peer).last, b0, []⟩ (aw1 peer))) :: e1, rfl, rfl, rfl, rfl, ⟨hE1.write _ (.inl (by rw [hP1.bb peer b hk1]; simp)), by rw [hnb]; exact AHeap.get_set _ _ _, sv_set hw1 (hP1.bb peer b hk1), fun c y hc hcb => (AHeap.get_set_ne _ _ hcb).trans hc⟩⟩
     ·
      obtain ⟨h2, e2, rfl, rfl, rfl, rfl, hE2, hb2', hw2, hf2⟩ := hI
      have hb2 := hE2.within hhH _ _ hb2'
      have hnbs := nextBase_ok hS (now := now)
      refine g_seq (fun K11 hK11 => ?_)
      refine g_region ?_
      refine g_step rfl (s_val (v_move rfl) rfl rfl ?_)
      refine g_step rfl (s_val (v_nilCheck rfl rfl) rfl rfl ?_)
      refine g_step rfl (s_val (by first | exact v_fieldAddr ty148 fo148_0 ty3 rfl | exact v_fieldAddr_box ty148 fo148_0 ty3 rfl) rfl rfl ?_)
      refine g_step rfl (s_val (by first | exact v_load ty3 rfl rfl (by first | rfl | assumption) (by first | assumption | exact map_get (by assumption) | rfl) rfl | exact v_load_box ty3 rfl rfl hb2 (by rfl)) rfl rfl ?_)
      refine g_step rfl (s_val (v_add rfl rfl (by dsimp only; omega)) rfl rfl ?_)
      refine g_step rfl (s_val (v_nilCheck rfl rfl) rfl rfl ?_)
      refine g_step rfl (s_val (by first | exact v_fieldAddr ty148 fo148_0 ty3 rfl | exact v_fieldAddr_box ty148 fo148_0 ty3 rfl) rfl rfl ?_)
      refine g_step rfl (s_store_box (new := encS ⟨(f peer).last + 1, (nextBase (f peer) now), []⟩ (aw1 peer)) ty3 rfl rfl hb2 rfl rfl rfl rfl hDb ?_)
      refine g_nil ?_
      refine g_next hK11 ?_
      refine g_seq (fun K12 hK12 => ?_)
      refine g_region ?_
      refine g_step rfl (s_val (v_move rfl) rfl rfl ?_)
      refine g_step rfl (s_val (v_nilCheck rfl rfl) rfl rfl ?_)
      refine g_step rfl (s_val (by first | exact v_fieldAddr ty148 fo148_0 ty3 rfl | exact v_fieldAddr_box ty148 fo148_0 ty3 rfl) rfl rfl ?_)
      refine g_step rfl (s_val (by first | exact v_load ty3 rfl rfl (by first | rfl | assumption) (by first | assumption | exact map_get (by assumption) | rfl) rfl | exact v_load_box ty3 rfl rfl (AHeap.get_set _ _ _) (by rfl)) rfl rfl ?_)
      refine g_step rfl (s_val (v_build (vs := [(1, _)]) (zs := [.nil0, (.int .i64 0)]) (cells := [_, _]) ty144 pl144 rfl rfl rfl) rfl rfl ?_)
      refine g_step rfl (s_alloc (av := (.agg [.nil0, (.int .i64 0)])) ty144 rfl rfl rfl rfl ?_)
      refine g_step rfl (s_store_all ty144 rfl rfl rfl rfl rfl rfl ?_)
      refine g_nil ?_
      refine g_next hK12 ?_
      refine g_seq (fun K13 hK13 => ?_)
      refine g_region ?_
      refine g_step rfl (s_val (v_move rfl) rfl rfl ?_)
      refine g_step rfl (s_callp rfl rfl rfl (recCopy_ok now _ _ rfl (by omega) hns) ?_)
      rintro _ rfl
      refine g_step rfl (s_fieldAddr ty144 fo144_0 ty142 rfl rfl ?_)
      refine g_step rfl (s_fieldAddr ty142 fo142_0 ty64 rfl rfl ?_)
      refine g_step rfl (s_store (new := (encB (⟨now, (f peer).last + 1⟩ : BRow))) ty64 rfl rfl rfl rfl rfl rfl rfl ?_)
      refine g_nil ?_
      have hsv := sv_own (X := encS ⟨(f peer).last + 1, (nextBase (f peer) now), []⟩ (aw1 peer)) hE2 hhH hb2' hw2
      rw [List.length_map] at hsv
      refine g_next hK13 ?_
      refine g_cut (fun env L B G => ∃ (r' : Nat) (h4 : AHeap) (e4 : List (Nat × ARow)), env = [(9, .box b 0)] ∧ L = [] ∧ B = [] ∧ G = setAll H e4 ∧ EffTo h h4 w0.heap.size e4 ∧ h4 b = some (.box (encS ⟨(f peer).last + 1, (nextBase (f peer) now), []⟩ (.own r' 2 0 ((f peer).waits ++ [(⟨now, (f peer).last + 1⟩ : BRow)]).length))) ∧ h4 r' = some (.row 2 (((f peer).waits ++ [(⟨now, (f peer).last + 1⟩ : BRow)]).map encB)) ∧ (∀ c y, h1 c = some y → c ≠ b → (∀ n, aw1 peer ≠ .own c 2 0 n) → h4 c = some y) ∧ (h1 r' = none ∨ ∃ n, aw1 peer = .own r' 2 0 n) ∧ b ≠ r') ?_ (fun env L B G hI => ?_)
      ·
       refine g_draw (n := 11) (fun j => !([7, 10] : List Nat).contains j) rfl rfl ?_
       refine m_take 0 false rfl rfl (by kernel_rfl) (by kernel_rfl) (by kernel_rfl) (fun _ _ _ _ h => h) (v_move rfl) rfl rfl ?_
       refine m_take 1 false rfl rfl (by kernel_rfl) (by kernel_rfl) (by kernel_rfl) (fun _ _ _ _ h => h) (v_move rfl) rfl rfl ?_
       refine m_take 2 false rfl rfl (by kernel_rfl) (by kernel_rfl) (by kernel_rfl) (fun _ _ _ _ h => h) (v_nilCheck rfl rfl) rfl rfl ?_
       refine m_take 3 false rfl rfl (by kernel_rfl) (by kernel_rfl) (by kernel_rfl) (fun _ _ _ _ h => h) (by first | exact v_fieldAddr ty148 fo148_2 ty146 rfl | exact v_fieldAddr_box ty148 fo148_2 ty146 rfl) rfl rfl ?_
       refine m_take 4 true rfl rfl (by kernel_rfl) (by kernel_rfl) (by kernel_rfl) (fun _ _ _ _ h => h) (by first | exact v_load ty146 rfl rfl (by first | rfl | assumption) (by first | assumption | exact map_get (by assumption) | rfl) rfl | exact v_load_box ty146 rfl rfl (AHeap.get_set _ _ _) (by rfl)) rfl rfl ?_
       refine m_take 5 true rfl rfl (by kernel_rfl) (by kernel_rfl) (by kernel_rfl) (fun _ _ _ _ h => h) (by first | exact v_loadl_all ty144 rfl rfl rfl rfl rfl | exact v_loadl_part (cs := [_, _]) ty144 rfl rfl rfl rfl rfl rfl) rfl rfl ?_
       refine m_one 6 (by kernel_rfl) rfl rfl ?_
       refine sm_lit ty146 ty144 rfl rfl rfl rfl rfl rfl rfl ?_
       refine m_one 7 (by kernel_rfl) rfl rfl ?_
       refine sm_any rfl (s_appendV (l := ((f peer).waits.map encB)) (m := ([(⟨now, (f peer).last + 1⟩ : BRow)].map encB)) ty146 ty144 rfl rfl (by rw [List.length_map]; exact hsv) rfl rfl (by refine Even.map _ ?_ _; intro _; rfl) (by intro x hx; obtain ⟨_, _, rfl⟩ := List.mem_map.1 hx; rfl) rfl (by simp) (by simp; omega) (by simp; omega) ?_)
       intro r' hr'
       rw [← List.map_append, List.length_map]
       have hbr' := new_ne hb2' hw2 hr'
       refine m_take 8 false rfl rfl (by kernel_rfl) (by kernel_rfl) (by kernel_rfl) (fun _ _ _ _ h => h) (v_nilCheck rfl rfl) rfl rfl ?_
       refine m_take 9 false rfl rfl (by kernel_rfl) (by kernel_rfl) (by kernel_rfl) (fun _ _ _ _ h => h) (by first | exact v_fieldAddr ty148 fo148_2 ty146 rfl | exact v_fieldAddr_box ty148 fo148_2 ty146 rfl) rfl rfl ?_
       refine m_one 10 (by kernel_rfl) rfl rfl ?_
       refine sm_any rfl (s_store_box (new := encS ⟨(f peer).last + 1, (nextBase (f peer) now), []⟩ (.own r' 2 0 ((f peer).waits ++ [(⟨now, (f peer).last + 1⟩ : BRow)]).length)) ty146 rfl rfl ((AHeap.get_set_ne _ _ hbr').trans (AHeap.get_set _ _ _)) rfl rfl rfl rfl hDb ?_)
       refine m_done (by kernel_rfl) ?_
       first | refine g_keep [9] [] [] (keep_cons rfl keep_nil) lkeep_nil keep_nil rfl ?_ | refine g_keep [9] [] [] rfl rfl rfl rfl ?_
       first | exact g_has ⟨r', ((h2.set b (.box (encS ⟨(f peer).last + 1, (nextBase (f peer) now), []⟩ (aw1 peer)))).set r' (.row 2 (((f peer).waits ++ [(⟨now, (f peer).last + 1⟩ : BRow)]).map encB))).set b (.box (encS ⟨(f peer).last + 1, (nextBase (f peer) now), []⟩ (.own r' 2 0 ((f peer).waits ++ [(⟨now, (f peer).last + 1⟩ : BRow)]).length))), (b, .box (encS ⟨(f peer).last + 1, (nextBase (f peer) now), []⟩ (.own r' 2 0 ((f peer).waits ++ [(⟨now, (f peer).last + 1⟩ : BRow)]).length))) :: (r', .row 2 (((f peer).waits ++ [(⟨now, (f peer).last + 1⟩ : BRow)]).map encB)) :: (b, .box (encS ⟨(f peer).last + 1, (nextBase (f peer) now), []⟩ (aw1 peer))) :: e2, rfl, rfl, rfl, rfl, next_in hE2 hhH hb2' hw2 hf2 hr' hbr'⟩
      ·
       obtain ⟨r', h4, e4, rfl, rfl, rfl, rfl, hE4, hb4', hr4', hf4, hn4, hbr'⟩ := hI
       have hb4 := hE4.within hhH _ _ hb4'
       have hr4 := hE4.within hhH _ _ hr4'
       have hDr : h r' ≠ none ∨ w0.heap.size ≤ r' := hE4.some (by rw [hr4']; simp)
       have hwl1 : ((f peer).waits ++ [(⟨now, (f peer).last + 1⟩ : BRow)]).length = (f peer).waits.length + 1 := by simp
       refine g_cut (fun env L B G => ∃ (a' : AV) (h5 : AHeap) (e5 : List (Nat × ARow)), env = [(9, .box b 0)] ∧ L = [] ∧ B = [] ∧ G = setAll H e5 ∧ EffTo h h5 w0.heap.size e5 ∧ h5 b = some (.box (encS (nextF (f peer) now) a')) ∧ SV h5 2 a' ((nextF (f peer) now).waits.map encB) ∧ (∀ c y, h1 c = some y → c ≠ b → (∀ n, aw1 peer ≠ .own c 2 0 n) → h5 c = some y) ∧ (∀ x n, a' = .own x 2 0 n → h1 x = none ∨ ∃ n', aw1 peer = .own x 2 0 n')) ?_ (fun env L B G hI => ?_)
       ·
        refine g_seq (fun K14 hK14 => ?_)
        refine g_region ?_
        refine g_step rfl (s_val (v_move rfl) rfl rfl ?_)
        refine g_step rfl (s_val (v_nilCheck rfl rfl) rfl rfl ?_)
        refine g_step rfl (s_val (by first | exact v_fieldAddr ty148 fo148_2 ty146 rfl | exact v_fieldAddr_box ty148 fo148_2 ty146 rfl) rfl rfl ?_)
        refine g_step rfl (s_val (by first | exact v_load ty146 rfl rfl (by first | rfl | assumption) (by first | assumption | exact map_get (by assumption) | rfl) rfl | exact v_load_box ty146 rfl rfl hb4 (by rfl)) rfl rfl ?_)
        refine g_step rfl (s_val (v_len ty146 rfl (AV.view_own_all hr4 (by simp)) (show _ = ((f peer).waits ++ [(⟨now, (f peer).last + 1⟩ : BRow)]).length by simp)) rfl rfl ?_)
        refine g_step rfl (s_val (v_gtr rfl rfl) rfl rfl ?_)
        refine g_nil ?_
        refine g_next hK14 ?_
        refine g_cond rfl (fun hc90 => ?_) (fun hc90 => ?_)
        ·
         try simp only [decide_eq_true_eq, decide_eq_false_iff_not, Bool.not_eq_true', Bool.not_eq_false', Bool.not_eq_eq_eq_not, Bool.not_true, Bool.not_false, Bool.and_eq_true, Bool.or_eq_true, Bool.or_eq_false_iff, beq_iff_eq, beq_eq_false_iff_ne, ne_eq, Int.not_lt, Int.not_le, Decidable.not_not] at hc90
         refine g_region ?_
         refine g_step rfl (s_val (v_move rfl) rfl rfl ?_)
         refine g_step rfl (s_val (v_move rfl) rfl rfl ?_)
         refine g_step rfl (s_val (v_nilCheck rfl rfl) rfl rfl ?_)
         refine g_step rfl (s_val (by first | exact v_fieldAddr ty148 fo148_2 ty146 rfl | exact v_fieldAddr_box ty148 fo148_2 ty146 rfl) rfl rfl ?_)
         refine g_step rfl (s_val (by first | exact v_load ty146 rfl rfl (by first | rfl | assumption) (by first | assumption | exact map_get (by assumption) | rfl) rfl | exact v_load_box ty146 rfl rfl hb4 (by rfl)) rfl rfl ?_)
         refine g_step rfl (s_call rfl rfl rfl (delB_ok r' 0 1 ((f peer).waits ++ [(⟨now, (f peer).last + 1⟩ : BRow)]) 0 1 _ rfl rfl hr4 (by omega) (by omega) (by omega)) (fun c hc => by subst hc; exact hDr) ?_)
         rintro n9 r9 effs9 hn9 hdom9 ⟨rfl, rfl⟩ hok9
         refine g_cutrow (G := AHeap.set _ r' _) (m := (((f peer).waits ++ [(⟨now, (f peer).last + 1⟩ : BRow)]).drop 1).map encB) (((f peer).waits ++ [(⟨now, (f peer).last + 1⟩ : BRow)]).length - 1) (AHeap.get_set _ _ _) (by simp) ?_
         refine g_step rfl (s_val (v_nilCheck rfl rfl) rfl rfl ?_)
         refine g_step rfl (s_val (by first | exact v_fieldAddr ty148 fo148_2 ty146 rfl | exact v_fieldAddr_box ty148 fo148_2 ty146 rfl) rfl rfl ?_)
         refine g_step rfl (s_store_box (new := encS ⟨(f peer).last + 1, (nextBase (f peer) now), []⟩ (.own r' 2 0 (((f peer).waits ++ [(⟨now, (f peer).last + 1⟩ : BRow)]).length - 1))) ty146 rfl rfl ((AHeap.get_set_ne _ _ hbr').trans ((AHeap.get_set_ne _ _ hbr').trans hb4)) rfl rfl rfl rfl hDb ?_)
         refine g_nil ?_
         first | refine g_keep [9] [] [] (keep_cons rfl keep_nil) lkeep_nil keep_nil rfl ?_ | refine g_keep [9] [] [] rfl rfl rfl rfl ?_
         first | exact g_has ⟨.own r' 2 0 ((f peer).waits ++ [(⟨now, (f peer).last + 1⟩ : BRow)]).length, h4, e4, rfl, rfl, rfl, rfl, ⟨hE4, hb4', .inr ⟨r', by rw [nextF, lastFour, if_neg (by omega), List.length_map], by rw [nextF, lastFour, if_neg (by omega)]; exact hr4'⟩, hf4, fun x n hx => by cases hx; exact hn4⟩⟩ | exact g_has ⟨.own r' 2 0 (((f peer).waits ++ [(⟨now, (f peer).last + 1⟩ : BRow)]).length - 1), ((h4.set r' _).set r' (.row 2 ((((f peer).waits ++ [(⟨now, (f peer).last + 1⟩ : BRow)]).drop 1).map encB))).set b (.box (encS ⟨(f peer).last + 1, (nextBase (f peer) now), []⟩ (.own r' 2 0 (((f peer).waits ++ [(⟨now, (f peer).last + 1⟩ : BRow)]).length - 1)))), (b, .box (encS ⟨(f peer).last + 1, (nextBase (f peer) now), []⟩ (.own r' 2 0 (((f peer).waits ++ [(⟨now, (f peer).last + 1⟩ : BRow)]).length - 1)))) :: (r', .row 2 ((((f peer).waits ++ [(⟨now, (f peer).last + 1⟩ : BRow)]).drop 1).map encB)) :: (r', _) :: e4, rfl, rfl, rfl, rfl, ⟨((hE4.write _ (.inl (by rw [hr4']; simp))).write _ (.inl (by rw [AHeap.get_set]; simp))).write _ (.inl (by rw [AHeap.get_set_ne _ _ hbr', AHeap.get_set_ne _ _ hbr', hb4']; simp)), AHeap.get_set _ _ _, .inr ⟨r', by rw [nextF, lastFour, if_pos (by omega)]; simp, by rw [nextF, lastFour, if_pos (by omega), AHeap.get_set_ne _ _ (Ne.symm hbr')]; exact AHeap.get_set _ _ _⟩, fun c y hc hcb hcw => by rw [AHeap.get_set_ne _ _ hcb]; exact set_two (hf4 c y hc hcb hcw) (cut_ne hn4 hc hcw), fun x n hx => by cases hx; exact hn4⟩⟩
        ·
         try simp only [decide_eq_true_eq, decide_eq_false_iff_not, Bool.not_eq_true', Bool.not_eq_false', Bool.not_eq_eq_eq_not, Bool.not_true, Bool.not_false, Bool.and_eq_true, Bool.or_eq_true, Bool.or_eq_false_iff, beq_iff_eq, beq_eq_false_iff_ne, ne_eq, Int.not_lt, Int.not_le, Decidable.not_not] at hc90
         refine g_skip ?_
         first | refine g_keep [9] [] [] (keep_cons rfl keep_nil) lkeep_nil keep_nil rfl ?_ | refine g_keep [9] [] [] rfl rfl rfl rfl ?_
         first | exact g_has ⟨.own r' 2 0 ((f peer).waits ++ [(⟨now, (f peer).last + 1⟩ : BRow)]).length, h4, e4, rfl, rfl, rfl, rfl, ⟨hE4, hb4', .inr ⟨r', by rw [nextF, lastFour, if_neg (by omega), List.length_map], by rw [nextF, lastFour, if_neg (by omega)]; exact hr4'⟩, hf4, fun x n hx => by cases hx; exact hn4⟩⟩ | exact g_has ⟨.own r' 2 0 (((f peer).waits ++ [(⟨now, (f peer).last + 1⟩ : BRow)]).length - 1), ((h4.set r' _).set r' (.row 2 ((((f peer).waits ++ [(⟨now, (f peer).last + 1⟩ : BRow)]).drop 1).map encB))).set b (.box (encS ⟨(f peer).last + 1, (nextBase (f peer) now), []⟩ (.own r' 2 0 (((f peer).waits ++ [(⟨now, (f peer).last + 1⟩ : BRow)]).length - 1)))), (b, .box (encS ⟨(f peer).last + 1, (nextBase (f peer) now), []⟩ (.own r' 2 0 (((f peer).waits ++ [(⟨now, (f peer).last + 1⟩ : BRow)]).length - 1)))) :: (r', .row 2 ((((f peer).waits ++ [(⟨now, (f peer).last + 1⟩ : BRow)]).drop 1).map encB)) :: (r', _) :: e4, rfl, rfl, rfl, rfl, ⟨((hE4.write _ (.inl (by rw [hr4']; simp))).write _ (.inl (by rw [AHeap.get_set]; simp))).write _ (.inl (by rw [AHeap.get_set_ne _ _ hbr', AHeap.get_set_ne _ _ hbr', hb4']; simp)), AHeap.get_set _ _ _, .inr ⟨r', by rw [nextF, lastFour, if_pos (by omega)]; simp, by rw [nextF, lastFour, if_pos (by omega), AHeap.get_set_ne _ _ (Ne.symm hbr')]; exact AHeap.get_set _ _ _⟩, fun c y hc hcb hcw => by rw [AHeap.get_set_ne _ _ hcb]; exact set_two (hf4 c y hc hcb hcw) (cut_ne hn4 hc hcw), fun x n hx => by cases hx; exact hn4⟩⟩
       ·
        obtain ⟨a', h5, e5, rfl, rfl, rfl, rfl, hE5, hb5', hw5, hf5, hn5⟩ := hI
        have hb5 := hE5.within hhH _ _ hb5'
        refine g_seq (fun K15 hK15 => ?_)
        refine g_draw (n := 19) (fun j => !([] : List Nat).contains j) rfl rfl ?_
        refine m_take 0 false rfl rfl (by kernel_rfl) (by kernel_rfl) (by kernel_rfl) (fun _ _ _ _ h => h) (v_move rfl) rfl rfl ?_
        refine m_take 1 false rfl rfl (by kernel_rfl) (by kernel_rfl) (by kernel_rfl) (fun _ _ _ _ h => h) (v_nilCheck rfl rfl) rfl rfl ?_
        refine m_take 2 false rfl rfl (by kernel_rfl) (by kernel_rfl) (by kernel_rfl) (fun _ _ _ _ h => h) (by first | exact v_fieldAddr ty148 fo148_0 ty3 rfl | exact v_fieldAddr_box ty148 fo148_0 ty3 rfl) rfl rfl ?_
        refine m_take 3 true rfl rfl (by kernel_rfl) (by kernel_rfl) (by kernel_rfl) (fun _ _ _ _ h => h) (by first | exact v_load ty3 rfl rfl (by first | rfl | assumption) (by first | assumption | exact map_get (by assumption) | rfl) rfl | exact v_load_box ty3 rfl rfl hb5 (by rfl)) rfl rfl ?_
        refine m_take 4 false rfl rfl (by kernel_rfl) (by kernel_rfl) (by kernel_rfl) (fun _ _ _ _ h => h) (v_move rfl) rfl rfl ?_
        refine m_take 5 false rfl rfl (by kernel_rfl) (by kernel_rfl) (by kernel_rfl) (fun _ _ _ _ h => h) (v_nilCheck rfl rfl) rfl rfl ?_
        refine m_take 6 false rfl rfl (by kernel_rfl) (by kernel_rfl) (by kernel_rfl) (fun _ _ _ _ h => h) (by first | exact v_fieldAddr ty148 fo148_1 ty144 rfl | exact v_fieldAddr_box ty148 fo148_1 ty144 rfl) rfl rfl ?_
        refine m_take 7 false rfl rfl (by kernel_rfl) (by kernel_rfl) (by kernel_rfl) (fun _ _ _ _ h => h) (by first | exact v_fieldAddr ty144 fo144_1 ty3 rfl | exact v_fieldAddr_box ty144 fo144_1 ty3 rfl) rfl rfl ?_
        refine m_take 8 true rfl rfl (by kernel_rfl) (by kernel_rfl) (by kernel_rfl) (fun _ _ _ _ h => h) (by first | exact v_load ty3 rfl rfl (by first | rfl | assumption) (by first | assumption | exact map_get (by assumption) | rfl) rfl | exact v_load_box ty3 rfl rfl hb5 (by rfl)) rfl rfl ?_
        refine m_take 9 false rfl rfl (by kernel_rfl) (by kernel_rfl) (by kernel_rfl) (fun _ _ _ _ h => h) (v_move rfl) rfl rfl ?_
        refine m_take 10 false rfl rfl (by kernel_rfl) (by kernel_rfl) (by kernel_rfl) (fun _ _ _ _ h => h) (v_nilCheck rfl rfl) rfl rfl ?_
        refine m_take 11 false rfl rfl (by kernel_rfl) (by kernel_rfl) (by kernel_rfl) (fun _ _ _ _ h => h) (by first | exact v_fieldAddr ty148 fo148_1 ty144 rfl | exact v_fieldAddr_box ty148 fo148_1 ty144 rfl) rfl rfl ?_
        refine m_take 12 false rfl rfl (by kernel_rfl) (by kernel_rfl) (by kernel_rfl) (fun _ _ _ _ h => h) (by first | exact v_fieldAddr ty144 fo144_0 ty142 rfl | exact v_fieldAddr_box ty144 fo144_0 ty142 rfl) rfl rfl ?_
        refine m_take 13 false rfl rfl (by kernel_rfl) (by kernel_rfl) (by kernel_rfl) (fun _ _ _ _ h => h) (by first | exact v_fieldAddr ty142 fo142_0 ty64 rfl | exact v_fieldAddr_box ty142 fo142_0 ty64 rfl) rfl rfl ?_
        refine m_take 14 true rfl rfl (by kernel_rfl) (by kernel_rfl) (by kernel_rfl) (fun _ _ _ _ h => h) (by first | exact v_load ty64 rfl rfl (by first | rfl | assumption) (by first | assumption | exact map_get (by assumption) | rfl) rfl | exact v_load_box ty64 rfl rfl hb5 (by rfl)) rfl rfl ?_
        refine m_one 15 (by kernel_rfl) rfl rfl ?_
        refine sm_callp rfl rfl rfl (recCopy_ok (nextBase (f peer) now).recs _ _ rfl (Nat.le_trans hnbs.1 (by decide)) hnbs.2) ?_
        rintro _ rfl
        refine m_take 16 false rfl rfl (by kernel_rfl) (by kernel_rfl) (by kernel_rfl) (fun _ _ _ _ h => h) (v_assign rfl) rfl rfl ?_
        refine m_take 17 false rfl rfl (by kernel_rfl) (by kernel_rfl) (by kernel_rfl) (fun _ _ _ _ h => h) (v_assign rfl) rfl rfl ?_
        refine m_take 18 false rfl rfl (by kernel_rfl) (by kernel_rfl) (by kernel_rfl) (fun _ _ _ _ h => h) (v_assign rfl) rfl rfl ?_
        refine m_done (by kernel_rfl) ?_
        refine g_next hK15 ?_
        refine g_ret ?_
        refine g_end3 (.inl rfl) Try.results39 (.tmp rfl) (.tmp rfl) (.tmp rfl) e5 (ASub.refl _) (AHeap.sub_refl _) (hE5.ok hG) ⟨by rw [if_pos hyn]; rfl, h5, hE5, ml1, upd aw1 peer a', by rw [if_pos hyn]; exact hP1.turn hk1 hb5' hw5 hf5 hn5⟩

end Go.Proofs.Ytobigfbgaiglkaa

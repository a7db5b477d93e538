import Derived.Test.YtobigfbgaiglkaaBase
import Derived.Test.YtobigfbgaiglkaaPBase2
set_option maxHeartbeats 8000000
set_option linter.unusedSimpArgs false
set_option linter.unusedVariables false
set_option maxRecDepth 100000
namespace Go.Proofs.Ytobigfbgaiglkaa
open Go Go.Proofs.Ytobigfbgaiglkaa.AM
theorem oAcked_ok (h : AHeap) (p r : Nat) (life : Int) (f : Int → Snt) (peer : Int) (life' e : Int) (G : AHeap) (hO : OutIs h p r life f) (hG : h.sub G) (hS : SOk (f peer)) : LCalls Try.prog 43 [.box p 0, .int .i64 peer, .int .i64 life', .int .i64 e] G (fun b => h b ≠ none) (fun n v effs => v = .bool (decide (life' = life) && ackB (f peer) e) ∧ ∃ h', EffTo h h' n effs ∧ OutIs h' p r life (upd f peer (if life' = life then ackF (f peer) e else (f peer)))) := by
 refine LCalls.intro 45 fi43 rfl Try.ntmps43 rfl (fun b hb => sub_some hG hb) (fun H hH w0 hw0 => ?_)
 obtain ⟨ml, aw, hP⟩ := hO
 have hhH := AHeap.sub_trans hG hH
 have hp := hhH _ _ hP.pp
 have hr := hhH _ _ hP.rr
 refine g_seq (fun K0 hK0 => ?_)
 refine g_region ?_
 refine g_step rfl (s_val (v_assign rfl) rfl rfl ?_)
 refine g_nil ?_
 refine g_next hK0 ?_
 refine g_seq (fun K1 hK1 => ?_)
 refine g_region ?_
 refine g_step rfl (s_val (v_move rfl) rfl rfl ?_)
 refine g_step rfl (s_val (v_move rfl) rfl rfl ?_)
 refine g_step rfl (s_val (v_move rfl) rfl rfl ?_)
 refine g_step rfl (s_callp rfl rfl rfl (of_ok p r life peer life' ml _ hp hr) ?_)
 rintro _ rfl
 refine g_step rfl (s_val (v_assign rfl) rfl rfl ?_)
 refine g_nil ?_
 refine g_next hK1 ?_
 refine g_seq (fun K2 hK2 => ?_)
 refine g_seq (fun K3 hK3 => ?_)
 refine g_region ?_
 rcases hk : (if life' = life then pget ml peer else none) with _ | b
 ·
  simp only [ptrOf]
  refine g_step rfl (s_val (v_move rfl) rfl rfl ?_)
  refine g_step rfl (s_val (by first | exact v_ptr_eql_nil ty140 rfl rfl rfl | exact v_nil_eql_nil ty140 rfl rfl | exact v_ptrO_eql ty140 rfl rfl) rfl rfl ?_)
  refine g_nil ?_
  refine g_next hK3 ?_
  refine g_cond rfl (fun hc16 => ?_) (fun hc16 => ?_)
  ·
   try simp only [decide_eq_true_eq, decide_eq_false_iff_not, Bool.not_eq_true', Bool.not_eq_false', Bool.not_eq_eq_eq_not, Bool.not_true, Bool.not_false, Bool.and_eq_true, Bool.or_eq_true, Bool.or_eq_false_iff, beq_iff_eq, beq_eq_false_iff_ne, ne_eq, Int.not_lt, Int.not_le, Decidable.not_not] at hc16
   refine g_seq (fun K4 hK4 => ?_)
   refine g_region ?_
   refine g_step rfl (s_val (v_assign rfl) rfl rfl ?_)
   refine g_nil ?_
   refine g_next hK4 ?_
   refine g_ret ?_
   refine g_then_ret ?_
   refine g_end1 (.inl rfl) Try.results43 (.tmp rfl) [] (ASub.refl _) (AHeap.sub_refl _) (fun p hp => by cases hp) ⟨by rw [(ack_none hP hk e).1]; rfl, h, EffTo.refl _ _, ml, aw, by rw [(ack_none hP hk e).2, upd_id]; exact hP⟩
  · exfalso; (try simp only [decide_eq_true_eq, decide_eq_false_iff_not, Bool.not_eq_true', Bool.not_eq_false', Bool.not_eq_eq_eq_not, Bool.not_true, Bool.not_false, Bool.and_eq_true, Bool.or_eq_true, Bool.or_eq_false_iff, beq_iff_eq, beq_eq_false_iff_ne, ne_eq, Int.not_lt, Int.not_le, Decidable.not_not] at hc16); simp at hc16
 ·
  simp only [ptrOf]
  refine g_step rfl (s_val (v_move rfl) rfl rfl ?_)
  refine g_step rfl (s_val (by first | exact v_ptr_eql_nil ty140 rfl rfl rfl | exact v_nil_eql_nil ty140 rfl rfl | exact v_ptrO_eql ty140 rfl rfl) rfl rfl ?_)
  refine g_nil ?_
  refine g_next hK3 ?_
  refine g_cond rfl (fun hc16 => ?_) (fun hc16 => ?_)
  · exfalso; (try simp only [decide_eq_true_eq, decide_eq_false_iff_not, Bool.not_eq_true', Bool.not_eq_false', Bool.not_eq_eq_eq_not, Bool.not_true, Bool.not_false, Bool.and_eq_true, Bool.or_eq_true, Bool.or_eq_false_iff, beq_iff_eq, beq_eq_false_iff_ne, ne_eq, Int.not_lt, Int.not_le, Decidable.not_not] at hc16); simp at hc16
  ·
   try simp only [decide_eq_true_eq, decide_eq_false_iff_not, Bool.not_eq_true', Bool.not_eq_false', Bool.not_eq_eq_eq_not, Bool.not_true, Bool.not_false, Bool.and_eq_true, Bool.or_eq_true, Bool.or_eq_false_iff, beq_iff_eq, beq_eq_false_iff_ne, ne_eq, Int.not_lt, Int.not_le, Decidable.not_not] at hc16
   refine g_skip ?_
   refine g_next hK2 ?_
   refine g_seq (fun K5 hK5 => ?_)
   refine g_region ?_
   obtain ⟨hl, hkb⟩ := of_some hk
   have hb0 := hP.bb peer b hkb
   have hb := hhH _ _ hb0
   have hw := hP.ww peer b hkb
   have hDb : h b ≠ none ∨ w0.heap.size ≤ b := .inl (by rw [hb0]; simp)
   have hwl := hS.waits.1
   have hlast := hS.last
   refine g_step rfl (s_val (v_move rfl) rfl rfl ?_)
   refine g_step rfl (s_val (v_nilCheck rfl rfl) rfl rfl ?_)
   refine g_step rfl (s_val (by first | exact v_fieldAddr ty148 fo148_2 ty146 rfl | exact v_fieldAddr_box ty148 fo148_2 ty146 rfl) rfl rfl ?_)
   refine g_step rfl (s_val (by first | exact v_load ty146 rfl rfl (by first | rfl | assumption) (by first | assumption | exact map_get (by assumption) | rfl) rfl | exact v_load_box ty146 rfl rfl hb (by rfl)) rfl rfl ?_)
   refine g_step rfl (s_val (v_move rfl) rfl rfl ?_)
   refine g_step rfl (s_callp rfl rfl rfl (bat_ok (f peer).waits e _ (aw peer) (hw.mono hhH).view (by omega)) ?_)
   rintro _ rfl
   refine g_step rfl (s_val (v_assign rfl) rfl rfl ?_)
   refine g_nil ?_
   refine g_next hK5 ?_
   refine g_seq (fun K6 hK6 => ?_)
   refine g_seq (fun K7 hK7 => ?_)
   refine g_region ?_
   refine g_step rfl (s_val (v_move rfl) rfl rfl ?_)
   refine g_step rfl (s_val (v_lss rfl rfl) rfl rfl ?_)
   refine g_nil ?_
   refine g_next hK7 ?_
   refine g_cond rfl (fun hc24 => ?_) (fun hc24 => ?_)
   ·
    try simp only [decide_eq_true_eq, decide_eq_false_iff_not, Bool.not_eq_true', Bool.not_eq_false', Bool.not_eq_eq_eq_not, Bool.not_true, Bool.not_false, Bool.and_eq_true, Bool.or_eq_true, Bool.or_eq_false_iff, beq_iff_eq, beq_eq_false_iff_ne, ne_eq, Int.not_lt, Int.not_le, Decidable.not_not] at hc24
    refine g_seq (fun K8 hK8 => ?_)
    refine g_region ?_
    refine g_step rfl (s_val (v_assign rfl) rfl rfl ?_)
    refine g_nil ?_
    refine g_next hK8 ?_
    refine g_ret ?_
    refine g_then_ret ?_
    refine g_end1 (.inl rfl) Try.results43 (.tmp rfl) [] (ASub.refl _) (AHeap.sub_refl _) (fun p hp => by cases hp) ⟨by rw [(ack_neg hc24).1, Bool.and_false]; rfl, h, EffTo.refl _ _, ml, aw, by rw [(ack_neg hc24).2, ite_self, upd_id]; exact hP⟩
   ·
    try simp only [decide_eq_true_eq, decide_eq_false_iff_not, Bool.not_eq_true', Bool.not_eq_false', Bool.not_eq_eq_eq_not, Bool.not_true, Bool.not_false, Bool.and_eq_true, Bool.or_eq_true, Bool.or_eq_false_iff, beq_iff_eq, beq_eq_false_iff_ne, ne_eq, Int.not_lt, Int.not_le, Decidable.not_not] at hc24
    obtain ⟨i, w, hzi, hwi, hab, haf⟩ := ack_pos (s := (f peer)) (e := e) (by omega)
    obtain ⟨x, hax, hx0⟩ := hw.resolve_left (by rintro ⟨_, h0⟩; have h0 := List.map_eq_nil_iff.1 h0; rw [h0] at hwi; cases hwi)
    rw [List.length_map] at hax
    have hx := hhH _ _ hx0
    have hxb : x ≠ b := fun e1 => by rw [e1, hb0] at hx0; cases hx0
    have hDx : h x ≠ none ∨ w0.heap.size ≤ x := .inl (by rw [hx0]; simp)
    have hil := (List.getElem?_eq_some_iff.1 hwi).1
    rw [hax] at hb
    rw [hzi]
    have hDb' : h b ≠ none ∨ w0.heap.size ≤ b := hDb
    refine g_skip ?_
    refine g_next hK6 ?_
    refine g_seq (fun K9 hK9 => ?_)
    refine g_region ?_
    refine g_step rfl (s_val (v_move rfl) rfl rfl ?_)
    refine g_step rfl (s_val (v_move rfl) rfl rfl ?_)
    refine g_step rfl (s_val (v_nilCheck rfl rfl) rfl rfl ?_)
    refine g_step rfl (s_val (by first | exact v_fieldAddr ty148 fo148_2 ty146 rfl | exact v_fieldAddr_box ty148 fo148_2 ty146 rfl) rfl rfl ?_)
    refine g_step rfl (s_val (by first | exact v_load ty146 rfl rfl (by first | rfl | assumption) (by first | assumption | exact map_get (by assumption) | rfl) rfl | exact v_load_box ty146 rfl rfl hb (by rfl)) rfl rfl ?_)
    refine g_step rfl (s_val (v_move rfl) rfl rfl ?_)
    refine g_step rfl (s_val (v_indexAddr ty146 ty144 rfl rfl (AV.view_own_all hx (by simp)) (by first | rfl | exact (rfl : (0 : Int) = ((0 : Nat) : Int)) | exact (Int.toNat_of_nonneg (by omega)).symm) (map_get hwi) rfl) rfl rfl ?_)
    refine g_step rfl (s_val (by first | exact v_load_elt ty144 rfl rfl (AV.view_own_all hx (by simp)) (map_get hwi) rfl rfl | exact v_load_box_all ty144 rfl rfl (by assumption) rfl rfl | exact v_load_part (cs := [_, _]) ty144 rfl rfl (AV.view_own_all hx (by simp)) (map_get hwi) rfl rfl rfl | exact v_load_box_part (cs := [_, _]) ty144 rfl rfl (by assumption) rfl rfl rfl) rfl rfl ?_)
    refine g_step rfl (s_val (v_nilCheck rfl rfl) rfl rfl ?_)
    refine g_step rfl (s_val (by first | exact v_fieldAddr ty148 fo148_1 ty144 rfl | exact v_fieldAddr_box ty148 fo148_1 ty144 rfl) rfl rfl ?_)
    refine g_step rfl (s_store_box (new := encS ⟨(f peer).last, w, []⟩ (.own x 2 0 (f peer).waits.length)) ty144 rfl rfl hb rfl rfl rfl rfl hDb ?_)
    refine g_nil ?_
    refine g_next hK9 ?_
    first | refine g_keep [9, 10] [] [] (keep_cons rfl (keep_cons rfl keep_nil)) lkeep_nil keep_nil rfl ?_ | refine g_keep [9, 10] [] [] rfl rfl rfl rfl ?_
    refine g_seq (fun K10 hK10 => ?_)
    refine g_region ?_
    refine g_step rfl (s_val (v_move rfl) rfl rfl ?_)
    refine g_step rfl (s_val (v_move rfl) rfl rfl ?_)
    refine g_step rfl (s_val (v_nilCheck rfl rfl) rfl rfl ?_)
    refine g_step rfl (s_val (by first | exact v_fieldAddr ty148 fo148_2 ty146 rfl | exact v_fieldAddr_box ty148 fo148_2 ty146 rfl) rfl rfl ?_)
    refine g_step rfl (s_val (by first | exact v_load ty146 rfl rfl (by first | rfl | assumption) (by first | assumption | exact map_get (by assumption) | rfl) rfl | exact v_load_box ty146 rfl rfl (AHeap.get_set _ _ _) (by rfl)) rfl rfl ?_)
    refine g_step rfl (s_val (v_move rfl) rfl rfl ?_)
    refine g_step rfl (s_val (v_add rfl rfl (by omega)) rfl rfl ?_)
    refine g_step rfl (s_call rfl rfl rfl (delB_ok x 0 (i + 1) (f peer).waits 0 _ _ rfl (by omega) ((AHeap.get_set_ne _ _ hxb).trans hx) (by omega) (by omega) (by omega)) (fun c hc => by subst hc; exact hDx) ?_)
    rintro n9 r9 effs9 hn9 hdom9 ⟨rfl, rfl⟩ hok9
    refine g_cutrow (G := AHeap.set _ x _) (m := ((f peer).waits.drop (i + 1)).map encB) ((f peer).waits.length - (i + 1)) (AHeap.get_set _ _ _) (by simp) ?_
    refine g_step rfl (s_val (v_nilCheck rfl rfl) rfl rfl ?_)
    refine g_step rfl (s_val (by first | exact v_fieldAddr ty148 fo148_2 ty146 rfl | exact v_fieldAddr_box ty148 fo148_2 ty146 rfl) rfl rfl ?_)
    refine g_step rfl (s_store_box (new := encS ⟨(f peer).last, w, []⟩ (.own x 2 0 ((f peer).waits.length - (i + 1 - 0)))) ty146 rfl rfl ((AHeap.get_set_ne _ _ (Ne.symm hxb)).trans ((AHeap.get_set_ne _ _ (Ne.symm hxb)).trans (AHeap.get_set _ _ _))) rfl rfl rfl rfl hDb ?_)
    refine g_nil ?_
    refine g_next hK10 ?_
    refine g_seq (fun K11 hK11 => ?_)
    refine g_region ?_
    have hE := (((EffTo.refl h w0.heap.size).write (b := b) (.box (encS ⟨(f peer).last, w, []⟩ (.own x 2 0 (f peer).waits.length))) hDb').write (b := x) (.row 2 (((f peer).waits.drop (i + 1)).map encB)) (.inl (by rw [AHeap.get_set_ne _ _ hxb, hx0]; simp))).write (b := b) (.box (encS ⟨(f peer).last, w, []⟩ (.own x 2 0 ((f peer).waits.length - (i + 1 - 0))))) (.inl (by rw [AHeap.get_set_ne _ _ (Ne.symm hxb), AHeap.get_set]; simp))
    refine g_step rfl (s_val (v_assign rfl) rfl rfl ?_)
    refine g_nil ?_
    refine g_next hK11 ?_
    refine g_ret ?_
    refine g_end1 (.inl rfl) Try.results43 (.tmp rfl) [(b, .box (encS ⟨(f peer).last, w, []⟩ (.own x 2 0 ((f peer).waits.length - (i + 1 - 0))))), (x, .row 2 (((f peer).waits.drop (i + 1)).map encB)), (b, .box (encS ⟨(f peer).last, w, []⟩ (.own x 2 0 (f peer).waits.length)))] (ASub.refl _) (by simp only [setAll, AHeap.set_set]; exact AHeap.sub_refl _) (hE.ok hG) ⟨by rw [hab, Bool.and_true, decide_eq_true hl]; rfl, _, hE, ml, _, by rw [if_pos hl, haf]; exact hP.turn hkb (s := ⟨(f peer).last, w, ((f peer).waits.drop (i + 1))⟩) (a := .own x 2 0 ((f peer).waits.length - (i + 1 - 0))) (AHeap.get_set _ _ _) (.inr ⟨x, by simp, by rw [AHeap.get_set_ne _ _ hxb]; exact AHeap.get_set _ _ _⟩) (fun c y hc hcb hcw => by rw [AHeap.get_set_ne _ _ hcb, AHeap.get_set_ne _ _ (fun e1 => hcw _ (e1 ▸ hax)), AHeap.get_set_ne _ _ hcb]; exact hc) (fun z n hz => by cases hz; exact .inr ⟨_, hax⟩)⟩

theorem oLacked_ok (h : AHeap) (p r : Nat) (life : Int) (f : Int → Snt) (peer : Int) (life' e : Int) (G : AHeap) (hO : OutIs h p r life f) (hG : h.sub G) (hS : SOk (f peer)) : LCalls Try.prog 44 [.box p 0, .int .i64 peer, .int .i64 life', .int .i64 e] G (fun b => h b ≠ none) (fun n v effs => v = .bool (decide (life' = life) && lackB (f peer) e) ∧ ∃ h', EffTo h h' n effs ∧ OutIs h' p r life (upd f peer (if life' = life then lackF (f peer) e else (f peer)))) := by
 refine LCalls.intro 40 fi44 rfl Try.ntmps44 rfl (fun b hb => sub_some hG hb) (fun H hH w0 hw0 => ?_)
 obtain ⟨ml, aw, hP⟩ := hO
 have hhH := AHeap.sub_trans hG hH
 have hp := hhH _ _ hP.pp
 have hr := hhH _ _ hP.rr
 refine g_seq (fun K0 hK0 => ?_)
 refine g_region ?_
 refine g_step rfl (s_val (v_assign rfl) rfl rfl ?_)
 refine g_nil ?_
 refine g_next hK0 ?_
 refine g_seq (fun K1 hK1 => ?_)
 refine g_region ?_
 refine g_step rfl (s_val (v_move rfl) rfl rfl ?_)
 refine g_step rfl (s_val (v_move rfl) rfl rfl ?_)
 refine g_step rfl (s_val (v_move rfl) rfl rfl ?_)
 refine g_step rfl (s_callp rfl rfl rfl (of_ok p r life peer life' ml _ hp hr) ?_)
 rintro _ rfl
 refine g_step rfl (s_val (v_assign rfl) rfl rfl ?_)
 refine g_nil ?_
 refine g_next hK1 ?_
 refine g_seq (fun K2 hK2 => ?_)
 refine g_seq (fun K3 hK3 => ?_)
 refine g_region ?_
 rcases hk : (if life' = life then pget ml peer else none) with _ | b
 ·
  simp only [ptrOf]
  refine g_step rfl (s_val (v_move rfl) rfl rfl ?_)
  refine g_step rfl (s_val (by first | exact v_ptr_eql_nil ty140 rfl rfl rfl | exact v_nil_eql_nil ty140 rfl rfl | exact v_ptrO_eql ty140 rfl rfl) rfl rfl ?_)
  refine g_step rfl (s_val (v_move rfl) rfl rfl ?_)
  refine g_split 16 rfl (fun hg16 => ?_) (fun hg16 => ?_)
  ·
   try simp only [decide_eq_true_eq, decide_eq_false_iff_not, Bool.not_eq_true', Bool.not_eq_false', Bool.not_eq_eq_eq_not, Bool.not_true, Bool.not_false, Bool.and_eq_true, Bool.or_eq_true, Bool.or_eq_false_iff, beq_iff_eq, beq_eq_false_iff_ne, ne_eq, Int.not_lt, Int.not_le, Decidable.not_not] at hg16
   refine g_step_no (j := 2) (t := 16) rfl rfl rfl rfl rfl rfl rfl ?_
   refine g_step_no (j := 2) (t := 16) rfl rfl rfl rfl rfl rfl rfl ?_
   refine g_step rfl (s_val (v_pick_t rfl rfl) rfl rfl ?_)
   refine g_step rfl (s_val (v_move rfl) rfl rfl ?_)
   refine g_step_no (j := 6) (t := 20) rfl rfl rfl rfl rfl rfl rfl ?_
   refine g_step_no (j := 6) (t := 20) rfl rfl rfl rfl rfl rfl rfl ?_
   refine g_step_no (j := 6) (t := 20) rfl rfl rfl rfl rfl rfl rfl ?_
   refine g_step_no (j := 6) (t := 20) rfl rfl rfl rfl rfl rfl rfl ?_
   refine g_step_no (j := 6) (t := 20) rfl rfl rfl rfl rfl rfl rfl ?_
   refine g_step_no (j := 6) (t := 20) rfl rfl rfl rfl rfl rfl rfl ?_
   refine g_step rfl (s_val (v_pick_t rfl rfl) rfl rfl ?_)
   refine g_step rfl (s_val (v_move rfl) rfl rfl ?_)
   refine g_step_no (j := 14) (t := 28) rfl rfl rfl rfl rfl rfl rfl ?_
   refine g_step_no (j := 14) (t := 28) rfl rfl rfl rfl rfl rfl rfl ?_
   refine g_step_no (j := 14) (t := 28) rfl rfl rfl rfl rfl rfl rfl ?_
   refine g_step_no (j := 14) (t := 28) rfl rfl rfl rfl rfl rfl rfl ?_
   refine g_step_no (j := 14) (t := 28) rfl rfl rfl rfl rfl rfl rfl ?_
   refine g_step_no (j := 14) (t := 28) rfl rfl rfl rfl rfl rfl rfl ?_
   refine g_step rfl (s_val (v_pick_t rfl rfl) rfl rfl ?_)
   refine g_nil ?_
   refine g_next hK3 ?_
   first | refine g_keep [9, 35] [] [] (keep_cons rfl (keep_cons rfl keep_nil)) lkeep_nil keep_nil rfl ?_ | refine g_keep [9, 35] [] [] rfl rfl rfl rfl ?_
   refine g_cond rfl (fun _ => ?_) (fun h => by cases h)
   refine g_seq (fun K4 hK4 => ?_)
   refine g_region ?_
   have hno := lack_none hP hk e
   refine g_step rfl (s_val (v_assign rfl) rfl rfl ?_)
   refine g_nil ?_
   refine g_next hK4 ?_
   refine g_ret ?_
   refine g_then_ret ?_
   refine g_end1 (.inl rfl) Try.results44 (.tmp rfl) [] (ASub.refl _) (AHeap.sub_refl _) (fun p hp => by cases hp) ⟨by rw [hno.1]; rfl, h, EffTo.refl _ _, ml, aw, by rw [hno.2, upd_id]; exact hP⟩
  · exfalso; (try simp only [decide_eq_true_eq, decide_eq_false_iff_not, Bool.not_eq_true', Bool.not_eq_false', Bool.not_eq_eq_eq_not, Bool.not_true, Bool.not_false, Bool.and_eq_true, Bool.or_eq_true, Bool.or_eq_false_iff, beq_iff_eq, beq_eq_false_iff_ne, ne_eq, Int.not_lt, Int.not_le, Decidable.not_not] at hg16); simp at hg16
 ·
  simp only [ptrOf]
  obtain ⟨hl, hkb⟩ := of_some hk
  have hb0 := hP.bb peer b hkb
  have hb := hhH _ _ hb0
  have hw := hP.ww peer b hkb
  have hDb : h b ≠ none ∨ w0.heap.size ≤ b := .inl (by rw [hb0]; simp)
  have hwl := hS.waits.1
  have hlast := hS.last
  refine g_step rfl (s_val (v_move rfl) rfl rfl ?_)
  refine g_step rfl (s_val (by first | exact v_ptr_eql_nil ty140 rfl rfl rfl | exact v_nil_eql_nil ty140 rfl rfl | exact v_ptrO_eql ty140 rfl rfl) rfl rfl ?_)
  refine g_step rfl (s_val (v_move rfl) rfl rfl ?_)
  refine g_split 16 rfl (fun hg16 => ?_) (fun hg16 => ?_)
  · exfalso; (try simp only [decide_eq_true_eq, decide_eq_false_iff_not, Bool.not_eq_true', Bool.not_eq_false', Bool.not_eq_eq_eq_not, Bool.not_true, Bool.not_false, Bool.and_eq_true, Bool.or_eq_true, Bool.or_eq_false_iff, beq_iff_eq, beq_eq_false_iff_ne, ne_eq, Int.not_lt, Int.not_le, Decidable.not_not] at hg16); simp at hg16
  ·
   try simp only [decide_eq_true_eq, decide_eq_false_iff_not, Bool.not_eq_true', Bool.not_eq_false', Bool.not_eq_eq_eq_not, Bool.not_true, Bool.not_false, Bool.and_eq_true, Bool.or_eq_true, Bool.or_eq_false_iff, beq_iff_eq, beq_eq_false_iff_ne, ne_eq, Int.not_lt, Int.not_le, Decidable.not_not] at hg16
   refine g_step_yes (j := 2) (t := 16) rfl rfl rfl rfl (s_val (v_move rfl) rfl rfl ?_)
   refine g_step_yes (j := 2) (t := 16) rfl rfl rfl rfl (s_val (v_lss rfl rfl) rfl rfl ?_)
   refine g_step rfl (s_val (v_pick_f rfl rfl) rfl rfl ?_)
   refine g_step rfl (s_val (v_move rfl) rfl rfl ?_)
   refine g_split 20 rfl (fun hg20 => ?_) (fun hg20 => ?_)
   ·
    try simp only [decide_eq_true_eq, decide_eq_false_iff_not, Bool.not_eq_true', Bool.not_eq_false', Bool.not_eq_eq_eq_not, Bool.not_true, Bool.not_false, Bool.and_eq_true, Bool.or_eq_true, Bool.or_eq_false_iff, beq_iff_eq, beq_eq_false_iff_ne, ne_eq, Int.not_lt, Int.not_le, Decidable.not_not] at hg20
    refine g_step_no (j := 6) (t := 20) rfl rfl rfl rfl rfl rfl rfl ?_
    refine g_step_no (j := 6) (t := 20) rfl rfl rfl rfl rfl rfl rfl ?_
    refine g_step_no (j := 6) (t := 20) rfl rfl rfl rfl rfl rfl rfl ?_
    refine g_step_no (j := 6) (t := 20) rfl rfl rfl rfl rfl rfl rfl ?_
    refine g_step_no (j := 6) (t := 20) rfl rfl rfl rfl rfl rfl rfl ?_
    refine g_step_no (j := 6) (t := 20) rfl rfl rfl rfl rfl rfl rfl ?_
    refine g_step rfl (s_val (v_pick_t rfl rfl) rfl rfl ?_)
    refine g_step rfl (s_val (v_move rfl) rfl rfl ?_)
    refine g_step_no (j := 14) (t := 28) rfl rfl rfl rfl rfl rfl rfl ?_
    refine g_step_no (j := 14) (t := 28) rfl rfl rfl rfl rfl rfl rfl ?_
    refine g_step_no (j := 14) (t := 28) rfl rfl rfl rfl rfl rfl rfl ?_
    refine g_step_no (j := 14) (t := 28) rfl rfl rfl rfl rfl rfl rfl ?_
    refine g_step_no (j := 14) (t := 28) rfl rfl rfl rfl rfl rfl rfl ?_
    refine g_step_no (j := 14) (t := 28) rfl rfl rfl rfl rfl rfl rfl ?_
    refine g_step rfl (s_val (v_pick_t rfl rfl) rfl rfl ?_)
    refine g_nil ?_
    refine g_next hK3 ?_
    first | refine g_keep [9, 35] [] [] (keep_cons rfl (keep_cons rfl keep_nil)) lkeep_nil keep_nil rfl ?_ | refine g_keep [9, 35] [] [] rfl rfl rfl rfl ?_
    refine g_cond rfl (fun _ => ?_) (fun h => by cases h)
    refine g_seq (fun K5 hK5 => ?_)
    refine g_region ?_
    have hno : (decide (life' = life) && lackB (f peer) e) = false ∧ (if life' = life then lackF (f peer) e else (f peer)) = (f peer) := by have h1 := lack_no (s := (f peer)) (e := e) (by first | exact .inl (by omega) | exact .inr (.inl (by omega)) | exact .inr (.inr (by assumption))); rw [h1.1, h1.2]; simp
    refine g_step rfl (s_val (v_assign rfl) rfl rfl ?_)
    refine g_nil ?_
    refine g_next hK5 ?_
    refine g_ret ?_
    refine g_then_ret ?_
    refine g_end1 (.inl rfl) Try.results44 (.tmp rfl) [] (ASub.refl _) (AHeap.sub_refl _) (fun p hp => by cases hp) ⟨by rw [hno.1]; rfl, h, EffTo.refl _ _, ml, aw, by rw [hno.2, upd_id]; exact hP⟩
   ·
    try simp only [decide_eq_true_eq, decide_eq_false_iff_not, Bool.not_eq_true', Bool.not_eq_false', Bool.not_eq_eq_eq_not, Bool.not_true, Bool.not_false, Bool.and_eq_true, Bool.or_eq_true, Bool.or_eq_false_iff, beq_iff_eq, beq_eq_false_iff_ne, ne_eq, Int.not_lt, Int.not_le, Decidable.not_not] at hg20
    refine g_step_yes (j := 6) (t := 20) rfl rfl rfl rfl (s_val (v_move rfl) rfl rfl ?_)
    refine g_step_yes (j := 6) (t := 20) rfl rfl rfl rfl (s_val (v_move rfl) rfl rfl ?_)
    refine g_step_yes (j := 6) (t := 20) rfl rfl rfl rfl (s_val (v_nilCheck rfl rfl) rfl rfl ?_)
    refine g_step_yes (j := 6) (t := 20) rfl rfl rfl rfl (s_val (by first | exact v_fieldAddr ty148 fo148_0 ty3 rfl | exact v_fieldAddr_box ty148 fo148_0 ty3 rfl) rfl rfl ?_)
    refine g_step_yes (j := 6) (t := 20) rfl rfl rfl rfl (s_val (by first | exact v_load ty3 rfl rfl (by first | rfl | assumption) (by first | assumption | exact map_get (by assumption) | rfl) rfl | exact v_load_box ty3 rfl rfl hb (by rfl)) rfl rfl ?_)
    refine g_step_yes (j := 6) (t := 20) rfl rfl rfl rfl (s_val (v_gtr rfl rfl) rfl rfl ?_)
    refine g_step rfl (s_val (v_pick_f rfl rfl) rfl rfl ?_)
    refine g_step rfl (s_val (v_move rfl) rfl rfl ?_)
    refine g_split 28 rfl (fun hg28 => ?_) (fun hg28 => ?_)
    ·
     try simp only [decide_eq_true_eq, decide_eq_false_iff_not, Bool.not_eq_true', Bool.not_eq_false', Bool.not_eq_eq_eq_not, Bool.not_true, Bool.not_false, Bool.and_eq_true, Bool.or_eq_true, Bool.or_eq_false_iff, beq_iff_eq, beq_eq_false_iff_ne, ne_eq, Int.not_lt, Int.not_le, Decidable.not_not] at hg28
     refine g_step_no (j := 14) (t := 28) rfl rfl rfl rfl rfl rfl rfl ?_
     refine g_step_no (j := 14) (t := 28) rfl rfl rfl rfl rfl rfl rfl ?_
     refine g_step_no (j := 14) (t := 28) rfl rfl rfl rfl rfl rfl rfl ?_
     refine g_step_no (j := 14) (t := 28) rfl rfl rfl rfl rfl rfl rfl ?_
     refine g_step_no (j := 14) (t := 28) rfl rfl rfl rfl rfl rfl rfl ?_
     refine g_step_no (j := 14) (t := 28) rfl rfl rfl rfl rfl rfl rfl ?_
     refine g_step rfl (s_val (v_pick_t rfl rfl) rfl rfl ?_)
     refine g_nil ?_
     refine g_next hK3 ?_
     first | refine g_keep [9, 35] [] [] (keep_cons rfl (keep_cons rfl keep_nil)) lkeep_nil keep_nil rfl ?_ | refine g_keep [9, 35] [] [] rfl rfl rfl rfl ?_
     refine g_cond rfl (fun _ => ?_) (fun h => by cases h)
     refine g_seq (fun K6 hK6 => ?_)
     refine g_region ?_
     have hno : (decide (life' = life) && lackB (f peer) e) = false ∧ (if life' = life then lackF (f peer) e else (f peer)) = (f peer) := by have h1 := lack_no (s := (f peer)) (e := e) (by first | exact .inl (by omega) | exact .inr (.inl (by omega)) | exact .inr (.inr (by assumption))); rw [h1.1, h1.2]; simp
     refine g_step rfl (s_val (v_assign rfl) rfl rfl ?_)
     refine g_nil ?_
     refine g_next hK6 ?_
     refine g_ret ?_
     refine g_then_ret ?_
     refine g_end1 (.inl rfl) Try.results44 (.tmp rfl) [] (ASub.refl _) (AHeap.sub_refl _) (fun p hp => by cases hp) ⟨by rw [hno.1]; rfl, h, EffTo.refl _ _, ml, aw, by rw [hno.2, upd_id]; exact hP⟩
    ·
     try simp only [decide_eq_true_eq, decide_eq_false_iff_not, Bool.not_eq_true', Bool.not_eq_false', Bool.not_eq_eq_eq_not, Bool.not_true, Bool.not_false, Bool.and_eq_true, Bool.or_eq_true, Bool.or_eq_false_iff, beq_iff_eq, beq_eq_false_iff_ne, ne_eq, Int.not_lt, Int.not_le, Decidable.not_not] at hg28
     refine g_step_yes (j := 14) (t := 28) rfl rfl rfl rfl (s_val (v_move rfl) rfl rfl ?_)
     refine g_step_yes (j := 14) (t := 28) rfl rfl rfl rfl (s_val (v_nilCheck rfl rfl) rfl rfl ?_)
     refine g_step_yes (j := 14) (t := 28) rfl rfl rfl rfl (s_val (by first | exact v_fieldAddr ty148 fo148_1 ty144 rfl | exact v_fieldAddr_box ty148 fo148_1 ty144 rfl) rfl rfl ?_)
     refine g_step_yes (j := 14) (t := 28) rfl rfl rfl rfl (s_val (by first | exact v_fieldAddr ty144 fo144_1 ty3 rfl | exact v_fieldAddr_box ty144 fo144_1 ty3 rfl) rfl rfl ?_)
     refine g_step_yes (j := 14) (t := 28) rfl rfl rfl rfl (s_val (by first | exact v_load ty3 rfl rfl (by first | rfl | assumption) (by first | assumption | exact map_get (by assumption) | rfl) rfl | exact v_load_box ty3 rfl rfl hb (by rfl)) rfl rfl ?_)
     refine g_step_yes (j := 14) (t := 28) rfl rfl rfl rfl (s_val (v_eql rfl rfl) rfl rfl ?_)
     refine g_step rfl (s_val (v_pick_f rfl rfl) rfl rfl ?_)
     refine g_nil ?_
     refine g_next hK3 ?_
     first | refine g_keep [9, 35] [] [] (keep_cons rfl (keep_cons rfl keep_nil)) lkeep_nil keep_nil rfl ?_ | refine g_keep [9, 35] [] [] rfl rfl rfl rfl ?_
     refine g_cond rfl (fun hc35 => ?_) (fun hc35 => ?_)
     ·
      try simp only [decide_eq_true_eq, decide_eq_false_iff_not, Bool.not_eq_true', Bool.not_eq_false', Bool.not_eq_eq_eq_not, Bool.not_true, Bool.not_false, Bool.and_eq_true, Bool.or_eq_true, Bool.or_eq_false_iff, beq_iff_eq, beq_eq_false_iff_ne, ne_eq, Int.not_lt, Int.not_le, Decidable.not_not] at hc35
      refine g_seq (fun K7 hK7 => ?_)
      refine g_region ?_
      have hno : (decide (life' = life) && lackB (f peer) e) = false ∧ (if life' = life then lackF (f peer) e else (f peer)) = (f peer) := by have h1 := lack_no (s := (f peer)) (e := e) (by first | exact .inl (by omega) | exact .inr (.inl (by omega)) | exact .inr (.inr (by assumption))); rw [h1.1, h1.2]; simp
      refine g_step rfl (s_val (v_assign rfl) rfl rfl ?_)
      refine g_nil ?_
      refine g_next hK7 ?_
      refine g_ret ?_
      refine g_then_ret ?_
      refine g_end1 (.inl rfl) Try.results44 (.tmp rfl) [] (ASub.refl _) (AHeap.sub_refl _) (fun p hp => by cases hp) ⟨by rw [hno.1]; rfl, h, EffTo.refl _ _, ml, aw, by rw [hno.2, upd_id]; exact hP⟩
     ·
      try simp only [decide_eq_true_eq, decide_eq_false_iff_not, Bool.not_eq_true', Bool.not_eq_false', Bool.not_eq_eq_eq_not, Bool.not_true, Bool.not_false, Bool.and_eq_true, Bool.or_eq_true, Bool.or_eq_false_iff, beq_iff_eq, beq_eq_false_iff_ne, ne_eq, Int.not_lt, Int.not_le, Decidable.not_not] at hc35
      refine g_skip ?_
      refine g_next hK2 ?_
      refine g_seq (fun K8 hK8 => ?_)
      refine g_region ?_
      refine g_step rfl (s_val (v_move rfl) rfl rfl ?_)
      refine g_step rfl (s_val (v_sub (b := (encB b0)) (v_build (vs := []) (zs := [.nil0, (.int .i64 0)]) (cells := [_, _]) ty144 pl144 rfl rfl rfl) (ASub.agg (m := [.imm [], .int .i64 0]) ⟨ASub.nil0, ASub.refl _, trivial⟩)) rfl rfl ?_)
      refine g_step rfl (s_val (v_nilCheck rfl rfl) rfl rfl ?_)
      refine g_step rfl (s_val (by first | exact v_fieldAddr ty148 fo148_1 ty144 rfl | exact v_fieldAddr_box ty148 fo148_1 ty144 rfl) rfl rfl ?_)
      refine g_step rfl (s_store_box (new := encS ⟨(f peer).last, b0, []⟩ (aw peer)) ty144 rfl rfl hb rfl rfl rfl rfl hDb ?_)
      refine g_nil ?_
      refine g_next hK8 ?_
      refine g_seq (fun K9 hK9 => ?_)
      refine g_region ?_
      have hE := (EffTo.refl h w0.heap.size).write (b := b) (.box (encS ⟨(f peer).last, b0, []⟩ (aw peer))) hDb
      have hy := lack_yes (s := (f peer)) (e := e) (by omega) (by omega) (by assumption)
      refine g_step rfl (s_val (v_assign rfl) rfl rfl ?_)
      refine g_nil ?_
      refine g_next hK9 ?_
      refine g_ret ?_
      refine g_end1 (.inl rfl) Try.results44 (.tmp rfl) [(b, .box (encS ⟨(f peer).last, b0, []⟩ (aw peer)))] (ASub.refl _) (AHeap.sub_refl _) (hE.ok hG) ⟨by rw [hy.1, Bool.and_true, decide_eq_true hl]; rfl, _, hE, ml, _, by rw [if_pos hl, hy.2]; exact hP.turn hkb (s := ⟨(f peer).last, b0, (f peer).waits⟩) (a := aw peer) (AHeap.get_set _ _ _) (sv_set hw hb0) (fun c y hc hcb hcw => (AHeap.get_set_ne _ _ hcb).trans hc) (fun z n hz => .inr ⟨n, hz⟩)⟩

theorem pushed_ok (G : AHeap) : LCalls Try.prog 45 [] G noD (fun n v effs => ∃ p r, n ≤ p ∧ n ≤ r ∧ p ≠ r ∧ v = .box p 0 ∧ effs = [(p, .box (.agg [.map r])), (r, bmRow [])]) := by
 refine LCalls.intro 4 fi45 rfl Try.ntmps45 rfl (fun _ h => h.elim) (fun H hH w0 hw0 => ?_)
 refine g_seq (fun K0 hK0 => ?_)
 refine g_region ?_
 refine g_step rfl (s_val (v_assign rfl) rfl rfl ?_)
 refine g_nil ?_
 refine g_next hK0 ?_
 refine g_seq (fun K1 hK1 => ?_)
 refine g_region ?_
 refine g_step rfl (s_makeMap .i64 rfl (fun r1 hr1 hw1 => ?_))
 refine g_step rfl (s_val (v_build (vs := [(0, _)]) (zs := [.nilm]) (cells := [_]) ty161 pl161 rfl rfl rfl) rfl rfl ?_)
 refine g_step rfl (s_box rfl rfl rfl rfl ?_)
 refine g_expose 3 rfl rfl (fun r3 hr3 hw3 => ?_)
 refine g_step rfl (s_val (v_assign rfl) rfl rfl ?_)
 refine g_nil ?_
 refine g_next hK1 ?_
 refine g_ret ?_
 refine g_end1 (.inl rfl) Try.results45 (.tmp rfl) [(r3, .box (.agg [.map r1])), (r1, bmRow [])] (ASub.refl _) (AHeap.sub_refl _) (fun q hq => .inr (by simp at hq; rcases hq with rfl | rfl; exact hw3; exact hw1)) ⟨r3, r1, hw3, hw1, (fun e => by subst e; rw [AHeap.get_set] at hr3; cases hr3), rfl, rfl⟩

end Go.Proofs.Ytobigfbgaiglkaa

import Derived.Test.YtobigfbgaiglkaaBase2
import Derived.Test.YtobigfbgaiglkaaPBase4
set_option maxHeartbeats 8000000
set_option linter.unusedSimpArgs false
set_option linter.unusedVariables false
set_option maxRecDepth 100000
namespace Go.Proofs.Ytobigfbgaiglkaa
open Go Go.Proofs.Ytobigfbgaiglkaa.AM
theorem iFind_ok (h : AHeap) (p r : Nat) (f : Int → Option Gt) (peer : Int) (life' e : Int) (G : AHeap) (hI : InIs h p r f) (hG : h.sub G) (hgo : ∀ g, f peer = some g → GOk g) : PCalls Try.prog 48 [.box p 0, .int .i64 peer, .int .i64 life', .int .i64 e] G (fun v => v = .tup [encRs ((gFind (f peer) life' e).getD []), .bool (gFind (f peer) life' e).isSome]) := by
 refine LCalls.intro 48 fi48 rfl Try.ntmps48 rfl (fun _ h => h.elim) (fun H hH w0 hw0 => ?_)
 obtain ⟨ml, aw, hP, hsm⟩ := hI
 have hhH := AHeap.sub_trans hG hH
 have hp := hhH _ _ hP.pp
 have hr := hhH _ _ hP.rr
 refine g_seq (fun K0 hK0 => ?_)
 refine g_region ?_
 refine g_step rfl (s_val (v_assign rfl) rfl rfl ?_)
 refine g_step rfl (s_val (v_assign rfl) rfl rfl ?_)
 refine g_nil ?_
 refine g_next hK0 ?_
 refine g_seq (fun K1 hK1 => ?_)
 refine g_seq (fun K2 hK2 => ?_)
 refine g_region ?_
 refine g_step rfl (s_val (v_move rfl) rfl rfl ?_)
 refine g_step rfl (s_val (by first | exact v_ptr_eql_nil ty79 rfl rfl rfl | exact v_nil_eql_nil ty79 rfl rfl | exact v_ptrO_eql ty79 rfl rfl) rfl rfl ?_)
 refine g_nil ?_
 refine g_next hK2 ?_
 refine g_cond rfl (fun hc13 => ?_) (fun hc13 => ?_)
 · exfalso; (try simp only [decide_eq_true_eq, decide_eq_false_iff_not, Bool.not_eq_true', Bool.not_eq_false', Bool.not_eq_eq_eq_not, Bool.not_true, Bool.not_false, Bool.and_eq_true, Bool.or_eq_true, Bool.or_eq_false_iff, beq_iff_eq, beq_eq_false_iff_ne, ne_eq, Int.not_lt, Int.not_le, Decidable.not_not] at hc13); simp at hc13
 ·
  try simp only [decide_eq_true_eq, decide_eq_false_iff_not, Bool.not_eq_true', Bool.not_eq_false', Bool.not_eq_eq_eq_not, Bool.not_true, Bool.not_false, Bool.and_eq_true, Bool.or_eq_true, Bool.or_eq_false_iff, beq_iff_eq, beq_eq_false_iff_ne, ne_eq, Int.not_lt, Int.not_le, Decidable.not_not] at hc13
  refine g_skip ?_
  refine g_next hK1 ?_
  refine g_seq (fun K3 hK3 => ?_)
  refine g_region ?_
  refine g_step rfl (s_val (v_move rfl) rfl rfl ?_)
  refine g_step rfl (s_val (v_nilCheck rfl rfl) rfl rfl ?_)
  refine g_step rfl (s_val (by first | exact v_fieldAddr ty161 fo161_0 ty159 rfl | exact v_fieldAddr_box ty161 fo161_0 ty159 rfl) rfl rfl ?_)
  refine g_step rfl (s_val (by first | exact v_load ty159 rfl rfl (by first | rfl | assumption) (by first | assumption | exact map_get (by assumption) | rfl) rfl | exact v_load_box ty159 rfl rfl (by assumption) rfl) rfl rfl ?_)
  refine g_step rfl (s_val (v_move rfl) rfl rfl ?_)
  refine g_step rfl (s_val (v_lookup (o := (ptrOf (pget ml peer))) (f := (pget ml peer).isSome) ty159 ty3 ty162 rfl rfl rfl (show _ = some (mrow .i64 (mmap (fun b => AV.box b 0) ml)) from hr) (blook ml peer) (blook_is ml peer)) rfl rfl ?_)
  refine g_step rfl (s_val (v_assign rfl) rfl rfl ?_)
  refine g_nil ?_
  refine g_next hK3 ?_
  refine g_seq (fun K4 hK4 => ?_)
  refine g_seq (fun K5 hK5 => ?_)
  refine g_region ?_
  rcases hk : pget ml peer with _ | b
  ·
   simp only [ptrOf]
   have hgf : (gFind (f peer) life' e) = none := gfind_none (hP.df peer hk)
   refine g_step rfl (s_val (v_move rfl) rfl rfl ?_)
   refine g_step rfl (s_val (by first | exact v_ptr_eql_nil ty162 rfl rfl rfl | exact v_nil_eql_nil ty162 rfl rfl | exact v_ptrO_eql ty162 rfl rfl) rfl rfl ?_)
   refine g_step rfl (s_val (v_move rfl) rfl rfl ?_)
   refine g_split 22 rfl (fun hg22 => ?_) (fun hg22 => ?_)
   ·
    try simp only [decide_eq_true_eq, decide_eq_false_iff_not, Bool.not_eq_true', Bool.not_eq_false', Bool.not_eq_eq_eq_not, Bool.not_true, Bool.not_false, Bool.and_eq_true, Bool.or_eq_true, Bool.or_eq_false_iff, beq_iff_eq, beq_eq_false_iff_ne, ne_eq, Int.not_lt, Int.not_le, Decidable.not_not] at hg22
    refine g_step_no (j := 2) (t := 22) rfl rfl rfl rfl rfl rfl rfl ?_
    refine g_step_no (j := 2) (t := 22) rfl rfl rfl rfl rfl rfl rfl ?_
    refine g_step_no (j := 2) (t := 22) rfl rfl rfl rfl rfl rfl rfl ?_
    refine g_step_no (j := 2) (t := 22) rfl rfl rfl rfl rfl rfl rfl ?_
    refine g_step_no (j := 2) (t := 22) rfl rfl rfl rfl rfl rfl rfl ?_
    refine g_step_no (j := 2) (t := 22) rfl rfl rfl rfl rfl rfl rfl ?_
    refine g_step rfl (s_val (v_pick_t rfl rfl) rfl rfl ?_)
    refine g_nil ?_
    refine g_next hK5 ?_
    first | refine g_keep [3, 10, 29] [] [] (keep_cons rfl (keep_cons rfl (keep_cons rfl keep_nil))) lkeep_nil keep_nil rfl ?_ | refine g_keep [3, 10, 29] [] [] rfl rfl rfl rfl ?_
    refine g_cond rfl (fun _ => ?_) (fun h => by cases h)
    refine g_seq (fun K6 hK6 => ?_)
    refine g_region ?_
    refine g_step rfl (s_val (v_assign rfl) rfl rfl ?_)
    refine g_step rfl (s_val (v_assign rfl) rfl rfl ?_)
    refine g_nil ?_
    refine g_next hK6 ?_
    refine g_ret ?_
    refine g_then_ret ?_
    refine g_end2 (.inl rfl) Try.results48 (.tmp rfl) (.tmp rfl) [] (ASub.tup (m := [.imm [], .bool false]) ⟨ASub.nil0, ASub.refl _, trivial⟩) (AHeap.sub_refl _) (fun p hp => by cases hp) ⟨rfl, ?_⟩
    first | (rw [hgf]; rfl; done) | (rw [hgf]; rfl; rfl)
   · exfalso; (try simp only [decide_eq_true_eq, decide_eq_false_iff_not, Bool.not_eq_true', Bool.not_eq_false', Bool.not_eq_eq_eq_not, Bool.not_true, Bool.not_false, Bool.and_eq_true, Bool.or_eq_true, Bool.or_eq_false_iff, beq_iff_eq, beq_eq_false_iff_ne, ne_eq, Int.not_lt, Int.not_le, Decidable.not_not] at hg22); simp at hg22
  ·
   simp only [ptrOf]
   obtain ⟨g, hfg⟩ := Option.isSome_iff_exists.1 (hsm peer b hk)
   have hb0 : h b = some (.box (encG g (aw peer))) := by have := hP.bb peer b hk; rw [hfg] at this; exact this
   have hb := hhH _ _ hb0
   have hw : SV h 2 (aw peer) (g.rows.map encB) := by have := hP.ww peer b hk; rw [hfg] at this; exact this
   have hwm := hw.mono hhH
   have hgk := hgo g hfg
   have hgl := hgk.len
   refine g_step rfl (s_val (v_move rfl) rfl rfl ?_)
   refine g_step rfl (s_val (by first | exact v_ptr_eql_nil ty162 rfl rfl rfl | exact v_nil_eql_nil ty162 rfl rfl | exact v_ptrO_eql ty162 rfl rfl) rfl rfl ?_)
   refine g_step rfl (s_val (v_move rfl) rfl rfl ?_)
   refine g_split 22 rfl (fun hg22 => ?_) (fun hg22 => ?_)
   · exfalso; (try simp only [decide_eq_true_eq, decide_eq_false_iff_not, Bool.not_eq_true', Bool.not_eq_false', Bool.not_eq_eq_eq_not, Bool.not_true, Bool.not_false, Bool.and_eq_true, Bool.or_eq_true, Bool.or_eq_false_iff, beq_iff_eq, beq_eq_false_iff_ne, ne_eq, Int.not_lt, Int.not_le, Decidable.not_not] at hg22); simp at hg22
   ·
    try simp only [decide_eq_true_eq, decide_eq_false_iff_not, Bool.not_eq_true', Bool.not_eq_false', Bool.not_eq_eq_eq_not, Bool.not_true, Bool.not_false, Bool.and_eq_true, Bool.or_eq_true, Bool.or_eq_false_iff, beq_iff_eq, beq_eq_false_iff_ne, ne_eq, Int.not_lt, Int.not_le, Decidable.not_not] at hg22
    refine g_step_yes (j := 2) (t := 22) rfl rfl rfl rfl (s_val (v_move rfl) rfl rfl ?_)
    refine g_step_yes (j := 2) (t := 22) rfl rfl rfl rfl (s_val (v_nilCheck rfl rfl) rfl rfl ?_)
    refine g_step_yes (j := 2) (t := 22) rfl rfl rfl rfl (s_val (by first | exact v_fieldAddr ty164 fo164_0 ty3 rfl | exact v_fieldAddr_box ty164 fo164_0 ty3 rfl) rfl rfl ?_)
    refine g_step_yes (j := 2) (t := 22) rfl rfl rfl rfl (s_val (by first | exact v_load ty3 rfl rfl (by first | rfl | assumption) (by first | assumption | exact map_get (by assumption) | rfl) rfl | exact v_load_box ty3 rfl rfl hb (by rfl)) rfl rfl ?_)
    refine g_step_yes (j := 2) (t := 22) rfl rfl rfl rfl (s_val (v_move rfl) rfl rfl ?_)
    refine g_step_yes (j := 2) (t := 22) rfl rfl rfl rfl (s_val (v_neq rfl rfl) rfl rfl ?_)
    refine g_step rfl (s_val (v_pick_f rfl rfl) rfl rfl ?_)
    refine g_nil ?_
    refine g_next hK5 ?_
    first | refine g_keep [3, 10, 29] [] [] (keep_cons rfl (keep_cons rfl (keep_cons rfl keep_nil))) lkeep_nil keep_nil rfl ?_ | refine g_keep [3, 10, 29] [] [] rfl rfl rfl rfl ?_
    refine g_cond rfl (fun hc29 => ?_) (fun hc29 => ?_)
    ·
     try simp only [decide_eq_true_eq, decide_eq_false_iff_not, Bool.not_eq_true', Bool.not_eq_false', Bool.not_eq_eq_eq_not, Bool.not_true, Bool.not_false, Bool.and_eq_true, Bool.or_eq_true, Bool.or_eq_false_iff, beq_iff_eq, beq_eq_false_iff_ne, ne_eq, Int.not_lt, Int.not_le, Decidable.not_not] at hc29
     refine g_seq (fun K7 hK7 => ?_)
     refine g_region ?_
     refine g_step rfl (s_val (v_assign rfl) rfl rfl ?_)
     refine g_step rfl (s_val (v_assign rfl) rfl rfl ?_)
     refine g_nil ?_
     refine g_next hK7 ?_
     refine g_ret ?_
     refine g_then_ret ?_
     refine g_end2 (.inl rfl) Try.results48 (.tmp rfl) (.tmp rfl) [] (ASub.tup (m := [.imm [], .bool false]) ⟨ASub.nil0, ASub.refl _, trivial⟩) (AHeap.sub_refl _) (fun p hp => by cases hp) ⟨rfl, ?_⟩
     first | (rw [show (gFind (f peer) life' e) = none from gfind_life hfg hc29]; rfl; done) | (rw [show (gFind (f peer) life' e) = none from gfind_life hfg hc29]; rfl; rfl)
    ·
     try simp only [decide_eq_true_eq, decide_eq_false_iff_not, Bool.not_eq_true', Bool.not_eq_false', Bool.not_eq_eq_eq_not, Bool.not_true, Bool.not_false, Bool.and_eq_true, Bool.or_eq_true, Bool.or_eq_false_iff, beq_iff_eq, beq_eq_false_iff_ne, ne_eq, Int.not_lt, Int.not_le, Decidable.not_not] at hc29
     refine g_skip ?_
     refine g_next hK4 ?_
     refine g_seq (fun K8 hK8 => ?_)
     refine g_region ?_
     refine g_step rfl (s_val (v_move rfl) rfl rfl ?_)
     refine g_step rfl (s_val (v_nilCheck rfl rfl) rfl rfl ?_)
     refine g_step rfl (s_val (by first | exact v_fieldAddr ty164 fo164_1 ty146 rfl | exact v_fieldAddr_box ty164 fo164_1 ty146 rfl) rfl rfl ?_)
     refine g_step rfl (s_val (by first | exact v_load ty146 rfl rfl (by first | rfl | assumption) (by first | assumption | exact map_get (by assumption) | rfl) rfl | exact v_load_box ty146 rfl rfl hb (by rfl)) rfl rfl ?_)
     refine g_step rfl (s_val (v_move rfl) rfl rfl ?_)
     refine g_step rfl (s_callp rfl rfl rfl (bat_ok g.rows e _ (aw peer) hwm.view (by omega)) ?_)
     rintro _ rfl
     refine g_step rfl (s_val (v_assign rfl) rfl rfl ?_)
     refine g_nil ?_
     refine g_next hK8 ?_
     refine g_seq (fun K9 hK9 => ?_)
     refine g_seq (fun K10 hK10 => ?_)
     refine g_region ?_
     refine g_step rfl (s_val (v_move rfl) rfl rfl ?_)
     refine g_step rfl (s_val (v_lss rfl rfl) rfl rfl ?_)
     refine g_nil ?_
     refine g_next hK10 ?_
     refine g_cond rfl (fun hc37 => ?_) (fun hc37 => ?_)
     ·
      try simp only [decide_eq_true_eq, decide_eq_false_iff_not, Bool.not_eq_true', Bool.not_eq_false', Bool.not_eq_eq_eq_not, Bool.not_true, Bool.not_false, Bool.and_eq_true, Bool.or_eq_true, Bool.or_eq_false_iff, beq_iff_eq, beq_eq_false_iff_ne, ne_eq, Int.not_lt, Int.not_le, Decidable.not_not] at hc37
      refine g_seq (fun K11 hK11 => ?_)
      refine g_region ?_
      refine g_step rfl (s_val (v_assign rfl) rfl rfl ?_)
      refine g_step rfl (s_val (v_assign rfl) rfl rfl ?_)
      refine g_nil ?_
      refine g_next hK11 ?_
      refine g_ret ?_
      refine g_then_ret ?_
      refine g_end2 (.inl rfl) Try.results48 (.tmp rfl) (.tmp rfl) [] (ASub.tup (m := [.imm [], .bool false]) ⟨ASub.nil0, ASub.refl _, trivial⟩) (AHeap.sub_refl _) (fun p hp => by cases hp) ⟨rfl, ?_⟩
      first | (rw [show (gFind (f peer) life' e) = none from gfind_neg hfg hc37]; rfl; done) | (rw [show (gFind (f peer) life' e) = none from gfind_neg hfg hc37]; rfl; rfl)
     ·
      try simp only [decide_eq_true_eq, decide_eq_false_iff_not, Bool.not_eq_true', Bool.not_eq_false', Bool.not_eq_eq_eq_not, Bool.not_true, Bool.not_false, Bool.and_eq_true, Bool.or_eq_true, Bool.or_eq_false_iff, beq_iff_eq, beq_eq_false_iff_ne, ne_eq, Int.not_lt, Int.not_le, Decidable.not_not] at hc37
      obtain ⟨i, w, hzi, hwi, hfi⟩ := row_pos (l := g.rows) (q := hasEp e) (by omega)
      have hRw := hgk.rows w (mem_get hwi)
      rw [hzi]
      refine g_skip ?_
      refine g_next hK9 ?_
      refine g_seq (fun K12 hK12 => ?_)
      refine g_region ?_
      refine g_step rfl (s_val (v_move rfl) rfl rfl ?_)
      refine g_step rfl (s_val (v_nilCheck rfl rfl) rfl rfl ?_)
      refine g_step rfl (s_val (by first | exact v_fieldAddr ty164 fo164_1 ty146 rfl | exact v_fieldAddr_box ty164 fo164_1 ty146 rfl) rfl rfl ?_)
      refine g_step rfl (s_val (by first | exact v_load ty146 rfl rfl (by first | rfl | assumption) (by first | assumption | exact map_get (by assumption) | rfl) rfl | exact v_load_box ty146 rfl rfl hb (by rfl)) rfl rfl ?_)
      refine g_step rfl (s_val (v_move rfl) rfl rfl ?_)
      refine g_step rfl (s_val (v_indexAddr ty146 ty144 rfl rfl hwm.view (by first | rfl | exact (rfl : (0 : Int) = ((0 : Nat) : Int)) | exact (Int.toNat_of_nonneg (by omega)).symm) (map_get hwi) rfl) rfl rfl ?_)
      refine g_step rfl (s_val (by first | exact v_fieldAddr ty144 fo144_0 ty142 rfl | exact v_fieldAddr_box ty144 fo144_0 ty142 rfl) rfl rfl ?_)
      refine g_step rfl (s_val (by first | exact v_fieldAddr ty142 fo142_0 ty64 rfl | exact v_fieldAddr_box ty142 fo142_0 ty64 rfl) rfl rfl ?_)
      refine g_step rfl (s_val (by first | exact v_load ty64 rfl rfl hwm.view (map_get hwi) rfl | exact v_load_box ty64 rfl rfl (by assumption) rfl) rfl rfl ?_)
      refine g_step rfl (s_callp rfl rfl rfl (recCopy_ok w.recs _ _ rfl (Nat.le_trans hRw.1 (by decide)) hRw.2) ?_)
      rintro _ rfl
      refine g_step rfl (s_val (v_assign rfl) rfl rfl ?_)
      refine g_step rfl (s_val (v_assign rfl) rfl rfl ?_)
      refine g_nil ?_
      refine g_next hK12 ?_
      refine g_ret ?_
      refine g_end2 (.inl rfl) Try.results48 (.tmp rfl) (.tmp rfl) [] (ASub.refl _) (AHeap.sub_refl _) (fun p hp => by cases hp) ⟨rfl, ?_⟩
      first | (rw [show (gFind (f peer) life' e) = some w.recs from gfind_hit hfg (by omega) hfi hwi]; rfl; done) | (rw [show (gFind (f peer) life' e) = some w.recs from gfind_hit hfg (by omega) hfi hwi]; rfl; rfl)

theorem kp1_ok (b : Nat) (e : Int) (x : BRow) (G : AHeap) (hG : G b = some (.box (.int .i64 e))) : PCalls Try.prog 80 [encB x, .box b 0] G (fun v => v = .bool (isUnder e x)) := by
 refine LCalls.intro 8 fi80 rfl Try.ntmps80 rfl (fun _ h => h.elim) (fun H hH w0 hw0 => ?_)
 have hG := hH _ _ hG
 refine g_seq (fun K0 hK0 => ?_)
 refine g_region ?_
 refine g_step rfl (s_box rfl rfl rfl rfl ?_)
 refine g_step rfl (s_val (v_assign rfl) rfl rfl ?_)
 refine g_nil ?_
 refine g_next hK0 ?_
 refine g_seq (fun K1 hK1 => ?_)
 refine g_region ?_
 refine g_step rfl (s_fieldAddr ty144 fo144_1 ty3 rfl rfl ?_)
 refine g_step rfl (s_val (v_loadl ty3 rfl rfl rfl rfl) rfl rfl ?_)
 refine g_step rfl (s_val (by first | exact v_load ty3 rfl rfl (by first | rfl | assumption) (by first | assumption | exact map_get (by assumption) | rfl) rfl | exact v_load_box ty3 rfl rfl (by assumption) rfl) rfl rfl ?_)
 refine g_step rfl (s_val (v_lss rfl rfl) rfl rfl ?_)
 refine g_step rfl (s_val (v_assign rfl) rfl rfl ?_)
 refine g_nil ?_
 refine g_next hK1 ?_
 refine g_ret ?_
 refine g_end1 (.inl rfl) Try.results80 (.tmp rfl) [] (ASub.refl _) (AHeap.sub_refl _) (fun p hp => by cases hp) ⟨rfl, ?_⟩
 first | (first | rfl | simp [notEp]; done) | (first | rfl | simp [notEp]; rfl)

theorem kp2_ok (b : Nat) (e : Int) (x : BRow) (G : AHeap) (hG : G b = some (.box (.int .i64 e))) : PCalls Try.prog 83 [encB x, .box b 0] G (fun v => v = .bool (notEp e x)) := by
 refine LCalls.intro 8 fi83 rfl Try.ntmps83 rfl (fun _ h => h.elim) (fun H hH w0 hw0 => ?_)
 have hG := hH _ _ hG
 refine g_seq (fun K0 hK0 => ?_)
 refine g_region ?_
 refine g_step rfl (s_box rfl rfl rfl rfl ?_)
 refine g_step rfl (s_val (v_assign rfl) rfl rfl ?_)
 refine g_nil ?_
 refine g_next hK0 ?_
 refine g_seq (fun K1 hK1 => ?_)
 refine g_region ?_
 refine g_step rfl (s_fieldAddr ty144 fo144_1 ty3 rfl rfl ?_)
 refine g_step rfl (s_val (v_loadl ty3 rfl rfl rfl rfl) rfl rfl ?_)
 refine g_step rfl (s_val (by first | exact v_load ty3 rfl rfl (by first | rfl | assumption) (by first | assumption | exact map_get (by assumption) | rfl) rfl | exact v_load_box ty3 rfl rfl (by assumption) rfl) rfl rfl ?_)
 refine g_step rfl (s_val (v_neq rfl rfl) rfl rfl ?_)
 refine g_step rfl (s_val (v_assign rfl) rfl rfl ?_)
 refine g_nil ?_
 refine g_next hK1 ?_
 refine g_ret ?_
 refine g_end1 (.inl rfl) Try.results83 (.tmp rfl) [] (ASub.refl _) (AHeap.sub_refl _) (fun p hp => by cases hp) ⟨rfl, ?_⟩
 first | (first | rfl | simp [notEp]; done) | (first | rfl | simp [notEp]; rfl)

theorem iKeep_ok (h : AHeap) (p r : Nat) (f : Int → Option Gt) (peer : Int) (life' e base : Int) (l : List Rc) (hll : l.length ≤ 1000) (hls : ∀ x ∈ l, Small x.bag) (G : AHeap) (hI : InIs h p r f) (hG : h.sub G) (hgo : ∀ g, f peer = some g → GOk g) : LCalls Try.prog 47 [.box p 0, .int .i64 peer, .int .i64 life', .int .i64 e, .int .i64 base, encRs l] G (fun b => h b ≠ none) (fun n v effs => v = .bool (keepB (f peer) life' e l) ∧ ∃ h', EffTo h h' n effs ∧ InIs h' p r (upd f peer (keepF (f peer) life' e base l))) := by
 refine LCalls.intro 147 fi47 rfl Try.ntmps47 rfl (fun b hb => sub_some hG hb) (fun H hH w0 hw0 => ?_)
 obtain ⟨ml, aw, hP, hsm⟩ := hI
 have hhH := AHeap.sub_trans hG hH
 refine g_seq (fun K0 hK0 => ?_)
 refine g_region ?_
 refine g_step rfl (s_box rfl rfl rfl rfl ?_)
 refine g_step rfl (s_val (v_assign rfl) rfl rfl ?_)
 refine g_nil ?_
 refine g_next hK0 ?_
 refine g_seq (fun K1 hK1 => ?_)
 refine g_seq (fun K2 hK2 => ?_)
 refine g_region ?_
 refine g_expose 10 rfl rfl (fun r10 hr10 hw10 => ?_)
 refine g_step rfl (s_val (v_move rfl) rfl rfl ?_)
 have hr10x := hr10
 generalize hH1 : AHeap.set H r10 (.box (.int .i64 base)) = H1
 have hhH1 : h.sub H1 := by rw [← hH1]; exact AHeap.sub_set hhH hr10
 have hHH1 : H.sub H1 := by rw [← hH1]; exact AHeap.sub_set (AHeap.sub_refl _) hr10
 have hp := hhH1 _ _ hP.pp
 have hr := hhH1 _ _ hP.rr
 have h10 : H1 r10 = some (.box (.int .i64 base)) := by rw [← hH1]; exact AHeap.get_set _ _ _
 refine g_step rfl (s_val (by first | exact v_ptr_eql_nil ty79 rfl rfl rfl | exact v_nil_eql_nil ty79 rfl rfl | exact v_ptrO_eql ty79 rfl rfl) rfl rfl ?_)
 refine g_step rfl (s_val (v_move rfl) rfl rfl ?_)
 refine g_split 19 rfl (fun hg19 => ?_) (fun hg19 => ?_)
 · exfalso; (try simp only [decide_eq_true_eq, decide_eq_false_iff_not, Bool.not_eq_true', Bool.not_eq_false', Bool.not_eq_eq_eq_not, Bool.not_true, Bool.not_false, Bool.and_eq_true, Bool.or_eq_true, Bool.or_eq_false_iff, beq_iff_eq, beq_eq_false_iff_ne, ne_eq, Int.not_lt, Int.not_le, Decidable.not_not] at hg19); simp at hg19
 ·
  try simp only [decide_eq_true_eq, decide_eq_false_iff_not, Bool.not_eq_true', Bool.not_eq_false', Bool.not_eq_eq_eq_not, Bool.not_true, Bool.not_false, Bool.and_eq_true, Bool.or_eq_true, Bool.or_eq_false_iff, beq_iff_eq, beq_eq_false_iff_ne, ne_eq, Int.not_lt, Int.not_le, Decidable.not_not] at hg19
  refine g_step_yes (j := 2) (t := 19) rfl rfl rfl rfl (s_val (v_move rfl) rfl rfl ?_)
  refine g_step_yes (j := 2) (t := 19) rfl rfl rfl rfl (s_val (v_nilCheck rfl rfl) rfl rfl ?_)
  refine g_step_yes (j := 2) (t := 19) rfl rfl rfl rfl (s_val (by first | exact v_fieldAddr ty161 fo161_0 ty159 rfl | exact v_fieldAddr_box ty161 fo161_0 ty159 rfl) rfl rfl ?_)
  refine g_step_yes (j := 2) (t := 19) rfl rfl rfl rfl (s_val (by first | exact v_load ty159 rfl rfl (by first | rfl | assumption) (by first | assumption | exact map_get (by assumption) | rfl) rfl | exact v_load_box ty159 rfl rfl (by assumption) rfl) rfl rfl ?_)
  refine g_step_yes (j := 2) (t := 19) rfl rfl rfl rfl (s_val (v_map_eql_nil ty159 rfl rfl) rfl rfl ?_)
  refine g_step rfl (s_val (v_pick_f rfl rfl) rfl rfl ?_)
  refine g_step rfl (s_val (v_move rfl) rfl rfl ?_)
  refine g_split 26 rfl (fun hg26 => ?_) (fun hg26 => ?_)
  · exfalso; (try simp only [decide_eq_true_eq, decide_eq_false_iff_not, Bool.not_eq_true', Bool.not_eq_false', Bool.not_eq_eq_eq_not, Bool.not_true, Bool.not_false, Bool.and_eq_true, Bool.or_eq_true, Bool.or_eq_false_iff, beq_iff_eq, beq_eq_false_iff_ne, ne_eq, Int.not_lt, Int.not_le, Decidable.not_not] at hg26); simp at hg26
  ·
   try simp only [decide_eq_true_eq, decide_eq_false_iff_not, Bool.not_eq_true', Bool.not_eq_false', Bool.not_eq_eq_eq_not, Bool.not_true, Bool.not_false, Bool.and_eq_true, Bool.or_eq_true, Bool.or_eq_false_iff, beq_iff_eq, beq_eq_false_iff_ne, ne_eq, Int.not_lt, Int.not_le, Decidable.not_not] at hg26
   refine g_step_yes (j := 9) (t := 26) rfl rfl rfl rfl (s_val (v_move rfl) rfl rfl ?_)
   refine g_step_yes (j := 9) (t := 26) rfl rfl rfl rfl (s_val (v_lss rfl rfl) rfl rfl ?_)
   refine g_step rfl (s_val (v_pick_f rfl rfl) rfl rfl ?_)
   refine g_step rfl (s_val (v_move rfl) rfl rfl ?_)
   refine g_split 30 rfl (fun hg30 => ?_) (fun hg30 => ?_)
   ·
    try simp only [decide_eq_true_eq, decide_eq_false_iff_not, Bool.not_eq_true', Bool.not_eq_false', Bool.not_eq_eq_eq_not, Bool.not_true, Bool.not_false, Bool.and_eq_true, Bool.or_eq_true, Bool.or_eq_false_iff, beq_iff_eq, beq_eq_false_iff_ne, ne_eq, Int.not_lt, Int.not_le, Decidable.not_not] at hg30
    refine g_step_no (j := 13) (t := 30) rfl rfl rfl rfl rfl rfl rfl ?_
    refine g_step_no (j := 13) (t := 30) rfl rfl rfl rfl rfl rfl rfl ?_
    refine g_step_no (j := 13) (t := 30) rfl rfl rfl rfl rfl rfl rfl ?_
    refine g_step rfl (s_val (v_pick_t rfl rfl) rfl rfl ?_)
    refine g_nil ?_
    refine g_next hK2 ?_
    first | refine g_keep [0, 1, 2, 3, 5, 10, 34] [] [] (keep_cons rfl (keep_cons rfl (keep_cons rfl (keep_cons rfl (keep_cons rfl (keep_cons rfl (keep_cons rfl keep_nil))))))) lkeep_nil keep_nil rfl ?_ | refine g_keep [0, 1, 2, 3, 5, 10, 34] [] [] rfl rfl rfl rfl ?_
    refine g_cond rfl (fun _ => ?_) (fun h => by cases h)
    refine g_seq (fun K3 hK3 => ?_)
    refine g_region ?_
    have hkb : keepB (f peer) life' e l = false := by unfold keepB; first | (rw [decide_eq_false (show ¬ 1 ≤ e by omega)]; rfl) | (rw [show srt l = false by simpa using hc34]; simp)
    refine g_step rfl (s_val (v_assign rfl) rfl rfl ?_)
    refine g_nil ?_
    refine g_next hK3 ?_
    refine g_ret ?_
    refine g_then_ret ?_
    refine g_end1 (.inl rfl) Try.results47 (.tmp rfl) [] (ASub.refl _) hHH1 (fun p hp => by cases hp) ⟨by rw [hkb]; rfl, h, EffTo.refl _ _, by rw [show upd f peer (keepF (f peer) life' e base l) = f by rw [keepF, if_neg (by rw [hkb]; simp), upd_id]]; exact ⟨ml, aw, hP, hsm⟩⟩
   ·
    try simp only [decide_eq_true_eq, decide_eq_false_iff_not, Bool.not_eq_true', Bool.not_eq_false', Bool.not_eq_eq_eq_not, Bool.not_true, Bool.not_false, Bool.and_eq_true, Bool.or_eq_true, Bool.or_eq_false_iff, beq_iff_eq, beq_eq_false_iff_ne, ne_eq, Int.not_lt, Int.not_le, Decidable.not_not] at hg30
    refine g_step_yes (j := 13) (t := 30) rfl rfl rfl rfl (s_val (v_move rfl) rfl rfl ?_)
    refine g_step_yes (j := 13) (t := 30) rfl rfl rfl rfl (s_callp rfl rfl rfl (sorted_ok l _ (by omega) hls) ?_)
    rintro _ rfl
    refine g_step_yes (j := 13) (t := 30) rfl rfl rfl rfl (s_val (v_not rfl) rfl rfl ?_)
    refine g_step rfl (s_val (v_pick_f rfl rfl) rfl rfl ?_)
    refine g_nil ?_
    refine g_next hK2 ?_
    first | refine g_keep [0, 1, 2, 3, 5, 10, 34] [] [] (keep_cons rfl (keep_cons rfl (keep_cons rfl (keep_cons rfl (keep_cons rfl (keep_cons rfl (keep_cons rfl keep_nil))))))) lkeep_nil keep_nil rfl ?_ | refine g_keep [0, 1, 2, 3, 5, 10, 34] [] [] rfl rfl rfl rfl ?_
    refine g_cond rfl (fun hc34 => ?_) (fun hc34 => ?_)
    ·
     try simp only [decide_eq_true_eq, decide_eq_false_iff_not, Bool.not_eq_true', Bool.not_eq_false', Bool.not_eq_eq_eq_not, Bool.not_true, Bool.not_false, Bool.and_eq_true, Bool.or_eq_true, Bool.or_eq_false_iff, beq_iff_eq, beq_eq_false_iff_ne, ne_eq, Int.not_lt, Int.not_le, Decidable.not_not] at hc34
     refine g_seq (fun K4 hK4 => ?_)
     refine g_region ?_
     have hkb : keepB (f peer) life' e l = false := by unfold keepB; first | (rw [decide_eq_false (show ¬ 1 ≤ e by omega)]; rfl) | (rw [show srt l = false by simpa using hc34]; simp)
     refine g_step rfl (s_val (v_assign rfl) rfl rfl ?_)
     refine g_nil ?_
     refine g_next hK4 ?_
     refine g_ret ?_
     refine g_then_ret ?_
     refine g_end1 (.inl rfl) Try.results47 (.tmp rfl) [] (ASub.refl _) hHH1 (fun p hp => by cases hp) ⟨by rw [hkb]; rfl, h, EffTo.refl _ _, by rw [show upd f peer (keepF (f peer) life' e base l) = f by rw [keepF, if_neg (by rw [hkb]; simp), upd_id]]; exact ⟨ml, aw, hP, hsm⟩⟩
    ·
     try simp only [decide_eq_true_eq, decide_eq_false_iff_not, Bool.not_eq_true', Bool.not_eq_false', Bool.not_eq_eq_eq_not, Bool.not_true, Bool.not_false, Bool.and_eq_true, Bool.or_eq_true, Bool.or_eq_false_iff, beq_iff_eq, beq_eq_false_iff_ne, ne_eq, Int.not_lt, Int.not_le, Decidable.not_not] at hc34
     have hyl : srt l = true := by simpa using hc34
     have he1 : 1 ≤ e := by omega
     refine g_skip ?_
     refine g_next hK1 ?_
     refine g_seq (fun K5 hK5 => ?_)
     refine g_region ?_
     refine g_step rfl (s_val (v_move rfl) rfl rfl ?_)
     refine g_step rfl (s_val (v_nilCheck rfl rfl) rfl rfl ?_)
     refine g_step rfl (s_val (by first | exact v_fieldAddr ty161 fo161_0 ty159 rfl | exact v_fieldAddr_box ty161 fo161_0 ty159 rfl) rfl rfl ?_)
     refine g_step rfl (s_val (by first | exact v_load ty159 rfl rfl (by first | rfl | assumption) (by first | assumption | exact map_get (by assumption) | rfl) rfl | exact v_load_box ty159 rfl rfl (by assumption) rfl) rfl rfl ?_)
     refine g_step rfl (s_val (v_move rfl) rfl rfl ?_)
     refine g_step rfl (s_val (v_lookup (o := (ptrOf (pget ml peer))) (f := (pget ml peer).isSome) ty159 ty3 ty162 rfl rfl rfl (show _ = some (mrow .i64 (mmap (fun b => AV.box b 0) ml)) from hr) (blook ml peer) (blook_is ml peer)) rfl rfl ?_)
     refine g_step rfl (s_val (v_assign rfl) rfl rfl ?_)
     refine g_nil ?_
     refine g_next hK5 ?_
     refine g_cut (fun env L B G => ∃ (r10 : Nat) (H1 : AHeap) (b1 : Nat) (ml1 : BMap) (aw1 : Int → AV) (h1 : AHeap) (e1 : List (Nat × ARow)), env = [(3, .int .i64 e), (5, encRs l), (10, .box r10 0), (13, .box b1 0)] ∧ L = [] ∧ B = [] ∧ G = setAll H1 e1 ∧ pget ml1 peer = some b1 ∧ EffTo h h1 w0.heap.size e1 ∧ GA h1 p (.agg [.map r]) r ml1 (upd f peer (some ⟨life', (rows0 (f peer) life' base)⟩)) aw1 ∧ (∀ k b, pget ml1 k = some b → ((upd f peer (some ⟨life', (rows0 (f peer) life' base)⟩)) k).isSome = true) ∧ H.sub H1 ∧ keepB (f peer) life' e l = true ∧ (setAll H1 e1) r10 = some (.box (.int .i64 base))) ?_ (fun env L B G hI => ?_)
     ·
      refine g_block ?_
      refine g_seq (fun K6 hK6 => ?_)
      refine g_region ?_
      rcases hk : pget ml peer with _ | b
      ·
       simp only [ptrOf]
       have hfn : f peer = none := hP.df peer hk
       have hkb : keepB (f peer) life' e l = true := keep_yes he1 hyl (.inl hfn)
       have hR0 : (rows0 (f peer) life' base) = [] := rows0_none hfn
       refine g_step rfl (s_val (v_move rfl) rfl rfl ?_)
       refine g_step rfl (s_val (by first | exact v_ptr_eql_nil ty162 rfl rfl rfl | exact v_nil_eql_nil ty162 rfl rfl | exact v_ptrO_eql ty162 rfl rfl) rfl rfl ?_)
       refine g_step rfl (s_val (v_move rfl) rfl rfl ?_)
       refine g_split 53 rfl (fun hg53 => ?_) (fun hg53 => ?_)
       ·
        try simp only [decide_eq_true_eq, decide_eq_false_iff_not, Bool.not_eq_true', Bool.not_eq_false', Bool.not_eq_eq_eq_not, Bool.not_true, Bool.not_false, Bool.and_eq_true, Bool.or_eq_true, Bool.or_eq_false_iff, beq_iff_eq, beq_eq_false_iff_ne, ne_eq, Int.not_lt, Int.not_le, Decidable.not_not] at hg53
        refine g_step_no (j := 2) (t := 53) rfl rfl rfl rfl rfl rfl rfl ?_
        refine g_step_no (j := 2) (t := 53) rfl rfl rfl rfl rfl rfl rfl ?_
        refine g_step_no (j := 2) (t := 53) rfl rfl rfl rfl rfl rfl rfl ?_
        refine g_step_no (j := 2) (t := 53) rfl rfl rfl rfl rfl rfl rfl ?_
        refine g_step_no (j := 2) (t := 53) rfl rfl rfl rfl rfl rfl rfl ?_
        refine g_step_no (j := 2) (t := 53) rfl rfl rfl rfl rfl rfl rfl ?_
        refine g_step rfl (s_val (v_pick_t rfl rfl) rfl rfl ?_)
        refine g_step rfl (s_val (v_assign rfl) rfl rfl ?_)
        refine g_nil ?_
        refine g_next hK6 ?_
        first | refine g_keep [0, 1, 2, 3, 5, 10, 13, 50] [] [] (keep_cons rfl (keep_cons rfl (keep_cons rfl (keep_cons rfl (keep_cons rfl (keep_cons rfl (keep_cons rfl (keep_cons rfl keep_nil)))))))) lkeep_nil keep_nil rfl ?_ | refine g_keep [0, 1, 2, 3, 5, 10, 13, 50] [] [] rfl rfl rfl rfl ?_
        refine g_cond rfl (fun _ => ?_) (fun h => by cases h)
        refine g_seq (fun K7 hK7 => ?_)
        refine g_region ?_
        refine g_step rfl (s_val (v_move rfl) rfl rfl ?_)
        refine g_step rfl (s_val (v_build (vs := [(0, _)]) (zs := [(.int .i64 0), .nil0]) (cells := [_, _]) ty164 pl164 rfl rfl rfl) rfl rfl ?_)
        refine g_step rfl (s_box rfl rfl rfl rfl ?_)
        refine g_expose 63 rfl rfl (fun r63 hr63 hw63 => ?_)
        refine g_step rfl (s_val (v_assign rfl) rfl rfl ?_)
        refine g_nil ?_
        refine g_next hK7 ?_
        refine g_region ?_
        have hr63r : r ≠ r63 := fun e1 => by rw [← e1, hr] at hr63; cases hr63
        have hp63 : p ≠ r63 := fun e1 => by rw [← e1, hp] at hr63; cases hr63
        have h1063 : r10 ≠ r63 := fun e1 => by rw [← e1, h10] at hr63; cases hr63
        have h10r : r10 ≠ r := fun e1 => by rw [e1, hr] at h10; cases h10
        have hp6 : (H1.set r63 (.box (encG ⟨life', []⟩ .nil0))) p = some (.box (.agg [.map r])) := (AHeap.get_set_ne _ _ hp63).trans hp
        have hr6 : (H1.set r63 (.box (encG ⟨life', []⟩ .nil0))) r = some (mrow .i64 (mmap (fun b => AV.box b 0) ml)) := (AHeap.get_set_ne _ _ hr63r).trans hr
        have hnew := hP.new peer (sub_none hhH1 hr63) (some ⟨life', []⟩) rfl
        have hen := ((EffTo.refl h w0.heap.size).write (b := r63) (.box (encG ⟨life', []⟩ .nil0)) (.inr hw63)).write (b := r) (bmRow (pput ml peer r63)) (.inl (by rw [AHeap.get_set_ne _ _ hr63r, hP.rr]; simp))
        have hsm2 : ∀ k b, pget (pput ml peer r63) k = some b → (upd f peer (some ⟨life', []⟩) k).isSome = true := fun k b hkk => by by_cases hkp : k = peer; (subst hkp; rw [upd_at]; rfl); (rw [upd_ne _ _ hkp]; rw [pget_pput, if_neg hkp] at hkk; exact hsm k b hkk)
        refine g_step rfl (s_val (v_move rfl) rfl rfl ?_)
        refine g_step rfl (s_val (v_nilCheck rfl rfl) rfl rfl ?_)
        refine g_step rfl (s_val (by first | exact v_fieldAddr ty161 fo161_0 ty159 rfl | exact v_fieldAddr_box ty161 fo161_0 ty159 rfl) rfl rfl ?_)
        refine g_step rfl (s_val (by first | exact v_load ty159 rfl rfl (by first | rfl | assumption) (by first | assumption | exact map_get (by assumption) | rfl) rfl | exact v_load_box ty159 rfl rfl (by assumption) rfl) rfl rfl ?_)
        refine g_step rfl (s_val (v_move rfl) rfl rfl ?_)
        refine g_step rfl (s_val (v_move rfl) rfl rfl ?_)
        refine g_step rfl (s_mapUpdate ty159 ty3 rfl rfl rfl hr6 (.inl (by show h r ≠ none; rw [hP.rr]; simp)) ?_)
        rw [bput_row]
        refine g_nil ?_
        refine g_block_normal ?_
        first | refine g_keep [3, 5, 10, 13] [] [] (keep_cons rfl (keep_cons rfl (keep_cons rfl (keep_cons rfl keep_nil)))) lkeep_nil keep_nil rfl ?_ | refine g_keep [3, 5, 10, 13] [] [] rfl rfl rfl rfl ?_
        first | exact g_has ⟨r10, H1, r63, pput ml peer r63, upd aw peer .nil0, _, [(r, bmRow (pput ml peer r63)), (r63, .box (encG ⟨life', []⟩ .nil0))], rfl, rfl, rfl, rfl, ⟨by rw [pget_pput, if_pos rfl], hen, by rw [hR0]; exact hnew, by rw [hR0]; exact hsm2, hHH1, hkb, (AHeap.get_set_ne _ _ h10r).trans ((AHeap.get_set_ne _ _ h1063).trans h10)⟩⟩ | exact g_has ⟨r10, H1, b, ml, upd aw peer .nil0, _, [(b, .box (encG ⟨g.life, []⟩ .nil0))], rfl, rfl, rfl, rfl, ⟨hk, hE4, hP4, hsm2, hHH1, hkb, (AHeap.get_set_ne _ _ hb10).trans h10⟩⟩ | exact g_has ⟨r10, H1, b, ml, upd aw peer (.own rr 2 0 (rows0 (f peer) life' base).length), _, [(b, .box (encG ⟨g.life, []⟩ (.own rr 2 0 (rows0 (f peer) life' base).length))), (rr, .row 2 ((rows0 (f peer) life' base).map encB)), (rr, .row 2 ((rows0 (f peer) life' base).map encB ++ List.replicate (g.rows.length - (rows0 (f peer) life' base).length) (.agg [.nil0, .int .i64 0])))], rfl, rfl, rfl, rfl, ⟨hk, hE4, hP4, hsm2, hHH1, hkb, (AHeap.get_set_ne _ _ hb10).trans ((AHeap.get_set_ne _ _ (Ne.symm hx10)).trans ((AHeap.get_set_ne _ _ (Ne.symm hx10)).trans h10))⟩⟩
       · exfalso; (try simp only [decide_eq_true_eq, decide_eq_false_iff_not, Bool.not_eq_true', Bool.not_eq_false', Bool.not_eq_eq_eq_not, Bool.not_true, Bool.not_false, Bool.and_eq_true, Bool.or_eq_true, Bool.or_eq_false_iff, beq_iff_eq, beq_eq_false_iff_ne, ne_eq, Int.not_lt, Int.not_le, Decidable.not_not] at hg53); simp at hg53
      ·
       simp only [ptrOf]
       obtain ⟨g, hfg⟩ := Option.isSome_iff_exists.1 (hsm peer b hk)
       have hb0 : h b = some (.box (encG g (aw peer))) := by have := hP.bb peer b hk; rw [hfg] at this; exact this
       have hb := hhH1 _ _ hb0
       have hw : SV h 2 (aw peer) (g.rows.map encB) := by have := hP.ww peer b hk; rw [hfg] at this; exact this
       have hwm := hw.mono hhH1
       have hgk := hgo g hfg
       have hgl := hgk.len
       have hDb : h b ≠ none ∨ w0.heap.size ≤ b := .inl (by rw [hb0]; simp)
       refine g_step rfl (s_val (v_move rfl) rfl rfl ?_)
       refine g_step rfl (s_val (by first | exact v_ptr_eql_nil ty162 rfl rfl rfl | exact v_nil_eql_nil ty162 rfl rfl | exact v_ptrO_eql ty162 rfl rfl) rfl rfl ?_)
       refine g_step rfl (s_val (v_move rfl) rfl rfl ?_)
       refine g_split 53 rfl (fun hg53 => ?_) (fun hg53 => ?_)
       · exfalso; (try simp only [decide_eq_true_eq, decide_eq_false_iff_not, Bool.not_eq_true', Bool.not_eq_false', Bool.not_eq_eq_eq_not, Bool.not_true, Bool.not_false, Bool.and_eq_true, Bool.or_eq_true, Bool.or_eq_false_iff, beq_iff_eq, beq_eq_false_iff_ne, ne_eq, Int.not_lt, Int.not_le, Decidable.not_not] at hg53); simp at hg53
       ·
        try simp only [decide_eq_true_eq, decide_eq_false_iff_not, Bool.not_eq_true', Bool.not_eq_false', Bool.not_eq_eq_eq_not, Bool.not_true, Bool.not_false, Bool.and_eq_true, Bool.or_eq_true, Bool.or_eq_false_iff, beq_iff_eq, beq_eq_false_iff_ne, ne_eq, Int.not_lt, Int.not_le, Decidable.not_not] at hg53
        refine g_step_yes (j := 2) (t := 53) rfl rfl rfl rfl (s_val (v_move rfl) rfl rfl ?_)
        refine g_step_yes (j := 2) (t := 53) rfl rfl rfl rfl (s_val (v_move rfl) rfl rfl ?_)
        refine g_step_yes (j := 2) (t := 53) rfl rfl rfl rfl (s_val (v_nilCheck rfl rfl) rfl rfl ?_)
        refine g_step_yes (j := 2) (t := 53) rfl rfl rfl rfl (s_val (by first | exact v_fieldAddr ty164 fo164_0 ty3 rfl | exact v_fieldAddr_box ty164 fo164_0 ty3 rfl) rfl rfl ?_)
        refine g_step_yes (j := 2) (t := 53) rfl rfl rfl rfl (s_val (by first | exact v_load ty3 rfl rfl (by first | rfl | assumption) (by first | assumption | exact map_get (by assumption) | rfl) rfl | exact v_load_box ty3 rfl rfl hb (by rfl)) rfl rfl ?_)
        refine g_step_yes (j := 2) (t := 53) rfl rfl rfl rfl (s_val (v_gtr rfl rfl) rfl rfl ?_)
        refine g_step rfl (s_val (v_pick_f rfl rfl) rfl rfl ?_)
        refine g_step rfl (s_val (v_assign rfl) rfl rfl ?_)
        refine g_nil ?_
        refine g_next hK6 ?_
        first | refine g_keep [0, 1, 2, 3, 5, 10, 13, 50] [] [] (keep_cons rfl (keep_cons rfl (keep_cons rfl (keep_cons rfl (keep_cons rfl (keep_cons rfl (keep_cons rfl (keep_cons rfl keep_nil)))))))) lkeep_nil keep_nil rfl ?_ | refine g_keep [0, 1, 2, 3, 5, 10, 13, 50] [] [] rfl rfl rfl rfl ?_
        refine g_cond rfl (fun hc50 => ?_) (fun hc50 => ?_)
        ·
         try simp only [decide_eq_true_eq, decide_eq_false_iff_not, Bool.not_eq_true', Bool.not_eq_false', Bool.not_eq_eq_eq_not, Bool.not_true, Bool.not_false, Bool.and_eq_true, Bool.or_eq_true, Bool.or_eq_false_iff, beq_iff_eq, beq_eq_false_iff_ne, ne_eq, Int.not_lt, Int.not_le, Decidable.not_not] at hc50
         have hkb : keepB (f peer) life' e l = true := keep_yes he1 hyl (.inr ⟨g, hfg, .inl (by omega)⟩)
         have hR0 : (rows0 (f peer) life' base) = [] := rows0_lt hfg (by omega)
         refine g_seq (fun K8 hK8 => ?_)
         refine g_region ?_
         refine g_step rfl (s_val (v_move rfl) rfl rfl ?_)
         refine g_step rfl (s_val (v_build (vs := [(0, _)]) (zs := [(.int .i64 0), .nil0]) (cells := [_, _]) ty164 pl164 rfl rfl rfl) rfl rfl ?_)
         refine g_step rfl (s_box rfl rfl rfl rfl ?_)
         refine g_expose 63 rfl rfl (fun r63 hr63 hw63 => ?_)
         refine g_step rfl (s_val (v_assign rfl) rfl rfl ?_)
         refine g_nil ?_
         refine g_next hK8 ?_
         refine g_region ?_
         have hr63r : r ≠ r63 := fun e1 => by rw [← e1, hr] at hr63; cases hr63
         have hp63 : p ≠ r63 := fun e1 => by rw [← e1, hp] at hr63; cases hr63
         have h1063 : r10 ≠ r63 := fun e1 => by rw [← e1, h10] at hr63; cases hr63
         have h10r : r10 ≠ r := fun e1 => by rw [e1, hr] at h10; cases h10
         have hp6 : (H1.set r63 (.box (encG ⟨life', []⟩ .nil0))) p = some (.box (.agg [.map r])) := (AHeap.get_set_ne _ _ hp63).trans hp
         have hr6 : (H1.set r63 (.box (encG ⟨life', []⟩ .nil0))) r = some (mrow .i64 (mmap (fun b => AV.box b 0) ml)) := (AHeap.get_set_ne _ _ hr63r).trans hr
         have hnew := hP.new peer (sub_none hhH1 hr63) (some ⟨life', []⟩) rfl
         have hen := ((EffTo.refl h w0.heap.size).write (b := r63) (.box (encG ⟨life', []⟩ .nil0)) (.inr hw63)).write (b := r) (bmRow (pput ml peer r63)) (.inl (by rw [AHeap.get_set_ne _ _ hr63r, hP.rr]; simp))
         have hsm2 : ∀ k b, pget (pput ml peer r63) k = some b → (upd f peer (some ⟨life', []⟩) k).isSome = true := fun k b hkk => by by_cases hkp : k = peer; (subst hkp; rw [upd_at]; rfl); (rw [upd_ne _ _ hkp]; rw [pget_pput, if_neg hkp] at hkk; exact hsm k b hkk)
         refine g_step rfl (s_val (v_move rfl) rfl rfl ?_)
         refine g_step rfl (s_val (v_nilCheck rfl rfl) rfl rfl ?_)
         refine g_step rfl (s_val (by first | exact v_fieldAddr ty161 fo161_0 ty159 rfl | exact v_fieldAddr_box ty161 fo161_0 ty159 rfl) rfl rfl ?_)
         refine g_step rfl (s_val (by first | exact v_load ty159 rfl rfl (by first | rfl | assumption) (by first | assumption | exact map_get (by assumption) | rfl) rfl | exact v_load_box ty159 rfl rfl (by assumption) rfl) rfl rfl ?_)
         refine g_step rfl (s_val (v_move rfl) rfl rfl ?_)
         refine g_step rfl (s_val (v_move rfl) rfl rfl ?_)
         refine g_step rfl (s_mapUpdate ty159 ty3 rfl rfl rfl hr6 (.inl (by show h r ≠ none; rw [hP.rr]; simp)) ?_)
         rw [bput_row]
         refine g_nil ?_
         refine g_block_normal ?_
         first | refine g_keep [3, 5, 10, 13] [] [] (keep_cons rfl (keep_cons rfl (keep_cons rfl (keep_cons rfl keep_nil)))) lkeep_nil keep_nil rfl ?_ | refine g_keep [3, 5, 10, 13] [] [] rfl rfl rfl rfl ?_
         first | exact g_has ⟨r10, H1, r63, pput ml peer r63, upd aw peer .nil0, _, [(r, bmRow (pput ml peer r63)), (r63, .box (encG ⟨life', []⟩ .nil0))], rfl, rfl, rfl, rfl, ⟨by rw [pget_pput, if_pos rfl], hen, by rw [hR0]; exact hnew, by rw [hR0]; exact hsm2, hHH1, hkb, (AHeap.get_set_ne _ _ h10r).trans ((AHeap.get_set_ne _ _ h1063).trans h10)⟩⟩ | exact g_has ⟨r10, H1, b, ml, upd aw peer .nil0, _, [(b, .box (encG ⟨g.life, []⟩ .nil0))], rfl, rfl, rfl, rfl, ⟨hk, hE4, hP4, hsm2, hHH1, hkb, (AHeap.get_set_ne _ _ hb10).trans h10⟩⟩ | exact g_has ⟨r10, H1, b, ml, upd aw peer (.own rr 2 0 (rows0 (f peer) life' base).length), _, [(b, .box (encG ⟨g.life, []⟩ (.own rr 2 0 (rows0 (f peer) life' base).length))), (rr, .row 2 ((rows0 (f peer) life' base).map encB)), (rr, .row 2 ((rows0 (f peer) life' base).map encB ++ List.replicate (g.rows.length - (rows0 (f peer) life' base).length) (.agg [.nil0, .int .i64 0])))], rfl, rfl, rfl, rfl, ⟨hk, hE4, hP4, hsm2, hHH1, hkb, (AHeap.get_set_ne _ _ hb10).trans ((AHeap.get_set_ne _ _ (Ne.symm hx10)).trans ((AHeap.get_set_ne _ _ (Ne.symm hx10)).trans h10))⟩⟩
        ·
         try simp only [decide_eq_true_eq, decide_eq_false_iff_not, Bool.not_eq_true', Bool.not_eq_false', Bool.not_eq_eq_eq_not, Bool.not_true, Bool.not_false, Bool.and_eq_true, Bool.or_eq_true, Bool.or_eq_false_iff, beq_iff_eq, beq_eq_false_iff_ne, ne_eq, Int.not_lt, Int.not_le, Decidable.not_not] at hc50
         refine g_seq (fun K9 hK9 => ?_)
         refine g_region ?_
         refine g_step rfl (s_val (v_move rfl) rfl rfl ?_)
         refine g_step rfl (s_val (v_move rfl) rfl rfl ?_)
         refine g_step rfl (s_val (v_nilCheck rfl rfl) rfl rfl ?_)
         refine g_step rfl (s_val (by first | exact v_fieldAddr ty164 fo164_0 ty3 rfl | exact v_fieldAddr_box ty164 fo164_0 ty3 rfl) rfl rfl ?_)
         refine g_step rfl (s_val (by first | exact v_load ty3 rfl rfl (by first | rfl | assumption) (by first | assumption | exact map_get (by assumption) | rfl) rfl | exact v_load_box ty3 rfl rfl hb (by rfl)) rfl rfl ?_)
         refine g_step rfl (s_val (v_lss rfl rfl) rfl rfl ?_)
         refine g_step rfl (s_val (v_move rfl) rfl rfl ?_)
         refine g_split 77 rfl (fun hg77 => ?_) (fun hg77 => ?_)
         ·
          try simp only [decide_eq_true_eq, decide_eq_false_iff_not, Bool.not_eq_true', Bool.not_eq_false', Bool.not_eq_eq_eq_not, Bool.not_true, Bool.not_false, Bool.and_eq_true, Bool.or_eq_true, Bool.or_eq_false_iff, beq_iff_eq, beq_eq_false_iff_ne, ne_eq, Int.not_lt, Int.not_le, Decidable.not_not] at hg77
          refine g_step_no (j := 6) (t := 77) rfl rfl rfl rfl rfl rfl rfl ?_
          refine g_step_no (j := 6) (t := 77) rfl rfl rfl rfl rfl rfl rfl ?_
          refine g_step_no (j := 6) (t := 77) rfl rfl rfl rfl rfl rfl rfl ?_
          refine g_step_no (j := 6) (t := 77) rfl rfl rfl rfl rfl rfl rfl ?_
          refine g_step_no (j := 6) (t := 77) rfl rfl rfl rfl rfl rfl rfl ?_
          refine g_step_no (j := 6) (t := 77) rfl rfl rfl rfl rfl rfl rfl ?_
          refine g_step_no (j := 6) (t := 77) rfl rfl rfl rfl rfl rfl rfl ?_
          refine g_step rfl (s_val (v_pick_t rfl rfl) rfl rfl ?_)
          refine g_step rfl (s_val (v_assign rfl) rfl rfl ?_)
          refine g_nil ?_
          refine g_next hK9 ?_
          refine g_cond rfl (fun _ => ?_) (fun h => by cases h)
          refine g_seq (fun K10 hK10 => ?_)
          refine g_region ?_
          have hkb : keepB (f peer) life' e l = false := by first | exact keep_no1 hfg (by omega) | exact keep_no2 hfg (by omega) (by omega)
          refine g_step rfl (s_val (v_assign rfl) rfl rfl ?_)
          refine g_nil ?_
          refine g_next hK10 ?_
          first | refine g_keep [12] [] [] (keep_cons rfl keep_nil) lkeep_nil keep_nil rfl ?_ | refine g_keep [12] [] [] rfl rfl rfl rfl ?_
          refine g_ret ?_
          refine g_block_ret ?_
          refine g_then_ret ?_
          refine g_end1 (.inl rfl) Try.results47 (.tmp rfl) [] (ASub.refl _) hHH1 (fun p hp => by cases hp) ⟨by rw [hkb]; rfl, h, EffTo.refl _ _, by rw [show upd f peer (keepF (f peer) life' e base l) = f by rw [keepF, if_neg (by rw [hkb]; simp), upd_id]]; exact ⟨ml, aw, hP, hsm⟩⟩
         ·
          try simp only [decide_eq_true_eq, decide_eq_false_iff_not, Bool.not_eq_true', Bool.not_eq_false', Bool.not_eq_eq_eq_not, Bool.not_true, Bool.not_false, Bool.and_eq_true, Bool.or_eq_true, Bool.or_eq_false_iff, beq_iff_eq, beq_eq_false_iff_ne, ne_eq, Int.not_lt, Int.not_le, Decidable.not_not] at hg77
          refine g_step_yes (j := 6) (t := 77) rfl rfl rfl rfl (s_val (v_move rfl) rfl rfl ?_)
          refine g_step_yes (j := 6) (t := 77) rfl rfl rfl rfl (s_val (v_nilCheck rfl rfl) rfl rfl ?_)
          refine g_step_yes (j := 6) (t := 77) rfl rfl rfl rfl (s_val (by first | exact v_fieldAddr ty164 fo164_1 ty146 rfl | exact v_fieldAddr_box ty164 fo164_1 ty146 rfl) rfl rfl ?_)
          refine g_step_yes (j := 6) (t := 77) rfl rfl rfl rfl (s_val (by first | exact v_load ty146 rfl rfl (by first | rfl | assumption) (by first | assumption | exact map_get (by assumption) | rfl) rfl | exact v_load_box ty146 rfl rfl hb (by rfl)) rfl rfl ?_)
          refine g_step_yes (j := 6) (t := 77) rfl rfl rfl rfl (s_val (v_move rfl) rfl rfl ?_)
          refine g_step_yes (j := 6) (t := 77) rfl rfl rfl rfl (s_callp rfl rfl rfl (bat_ok g.rows e _ (aw peer) hwm.view (by omega)) ?_)
          rintro _ rfl
          refine g_step_yes (j := 6) (t := 77) rfl rfl rfl rfl (s_val (v_geq rfl rfl) rfl rfl ?_)
          refine g_step rfl (s_val (v_pick_f rfl rfl) rfl rfl ?_)
          refine g_step rfl (s_val (v_assign rfl) rfl rfl ?_)
          refine g_nil ?_
          refine g_next hK9 ?_
          refine g_cond rfl (fun hc70 => ?_) (fun hc70 => ?_)
          ·
           try simp only [decide_eq_true_eq, decide_eq_false_iff_not, Bool.not_eq_true', Bool.not_eq_false', Bool.not_eq_eq_eq_not, Bool.not_true, Bool.not_false, Bool.and_eq_true, Bool.or_eq_true, Bool.or_eq_false_iff, beq_iff_eq, beq_eq_false_iff_ne, ne_eq, Int.not_lt, Int.not_le, Decidable.not_not] at hc70
           refine g_seq (fun K11 hK11 => ?_)
           refine g_region ?_
           have hkb : keepB (f peer) life' e l = false := by first | exact keep_no1 hfg (by omega) | exact keep_no2 hfg (by omega) (by omega)
           refine g_step rfl (s_val (v_assign rfl) rfl rfl ?_)
           refine g_nil ?_
           refine g_next hK11 ?_
           first | refine g_keep [12] [] [] (keep_cons rfl keep_nil) lkeep_nil keep_nil rfl ?_ | refine g_keep [12] [] [] rfl rfl rfl rfl ?_
           refine g_ret ?_
           refine g_block_ret ?_
           refine g_then_ret ?_
           refine g_end1 (.inl rfl) Try.results47 (.tmp rfl) [] (ASub.refl _) hHH1 (fun p hp => by cases hp) ⟨by rw [hkb]; rfl, h, EffTo.refl _ _, by rw [show upd f peer (keepF (f peer) life' e base l) = f by rw [keepF, if_neg (by rw [hkb]; simp), upd_id]]; exact ⟨ml, aw, hP, hsm⟩⟩
          ·
           try simp only [decide_eq_true_eq, decide_eq_false_iff_not, Bool.not_eq_true', Bool.not_eq_false', Bool.not_eq_eq_eq_not, Bool.not_true, Bool.not_false, Bool.and_eq_true, Bool.or_eq_true, Bool.or_eq_false_iff, beq_iff_eq, beq_eq_false_iff_ne, ne_eq, Int.not_lt, Int.not_le, Decidable.not_not] at hc70
           refine g_region ?_
           have hlf : g.life = life' := by omega
           have hkb : keepB (f peer) life' e l = true := keep_yes he1 hyl (.inr ⟨g, hfg, .inr ⟨hlf, by omega⟩⟩)
           have hR0 : (rows0 (f peer) life' base) = g.rows.filter (fun x => !isUnder base x) := rows0_ge hfg (by omega)
           have hb10 : r10 ≠ b := fun e1 => by rw [← e1] at hb0; rw [hh10 hr10x hhH] at hb0; cases hb0
           refine g_step rfl (s_val (v_move rfl) rfl rfl ?_)
           refine g_step rfl (s_val (v_move rfl) rfl rfl ?_)
           refine g_step rfl (s_val (v_nilCheck rfl rfl) rfl rfl ?_)
           refine g_step rfl (s_val (by first | exact v_fieldAddr ty164 fo164_1 ty146 rfl | exact v_fieldAddr_box ty164 fo164_1 ty146 rfl) rfl rfl ?_)
           refine g_step rfl (s_val (by first | exact v_load ty146 rfl rfl (by first | rfl | assumption) (by first | assumption | exact map_get (by assumption) | rfl) rfl | exact v_load_box ty146 rfl rfl hb (by rfl)) rfl rfl ?_)
           refine g_step rfl (s_val (v_makeFunc rfl) rfl rfl ?_)
           refine g_step rfl (s_call rfl rfl rfl (delfBV_ok g.rows 80 [.box r10 0] (isUnder base) (aw peer) _ hwm (by omega) (fun x hx rr hrr H' h' => kp1_ok r10 base x H' (h' _ _ (by obtain ⟨nn, hnn⟩ := hrr; rw [AHeap.get_del_ne _ (fun e1 => by have h9 := hhH1 _ _ (hP.wne hk hnn); rw [← e1, h10] at h9; cases h9)]; exact h10)))) (fun c hc => .inl (by obtain ⟨nn, hnn⟩ := hc; show h c ≠ none; rw [hP.wne hk hnn]; simp)) ?_)
           rintro n4 v4 effs4 hn4 hdom4 (⟨ha, hl0, rfl, rfl⟩ | ⟨rr, kk, ha, rfl, rfl⟩) hok4
           ·
            refine g_step rfl (s_val (v_nilCheck rfl rfl) rfl rfl ?_)
            refine g_step rfl (s_val (by first | exact v_fieldAddr ty164 fo164_1 ty146 rfl | exact v_fieldAddr_box ty164 fo164_1 ty146 rfl) rfl rfl ?_)
            refine g_step rfl (s_store_box (new := encG ⟨g.life, []⟩ .nil0) ty146 rfl rfl hb rfl rfl rfl rfl hDb ?_)
            refine g_nil ?_
            have hE4 := (EffTo.refl h w0.heap.size).write (b := b) (.box (encG ⟨g.life, []⟩ .nil0)) hDb
            have hR0 : (rows0 (f peer) life' base) = [] := by rw [hR0, hl0]; rfl
            have hsm2 : ∀ k c, pget ml k = some c → (upd f peer (some ⟨life', (rows0 (f peer) life' base)⟩) k).isSome = true := fun k c hkk => by by_cases hkp : k = peer; (subst hkp; rw [upd_at]; rfl); (rw [upd_ne _ _ hkp]; exact hsm k c hkk)
            have hP4 := hP.turn (h' := h.set b (.box (encG ⟨g.life, []⟩ .nil0))) hk (s := some ⟨life', (rows0 (f peer) life' base)⟩) (a := .nil0) (by rw [← hlf]; exact AHeap.get_set _ _ _) (.inl ⟨rfl, by show (rows0 (f peer) life' base).map encB = []; rw [hR0]; rfl⟩) (fun c y hc hcb _ => (AHeap.get_set_ne _ _ hcb).trans hc) (fun x n hx => by cases hx)
            refine g_block_normal ?_
            first | refine g_keep [3, 5, 10, 13] [] [] (keep_cons rfl (keep_cons rfl (keep_cons rfl (keep_cons rfl keep_nil)))) lkeep_nil keep_nil rfl ?_ | refine g_keep [3, 5, 10, 13] [] [] rfl rfl rfl rfl ?_
            first | exact g_has ⟨r10, H1, r63, pput ml peer r63, upd aw peer .nil0, _, [(r, bmRow (pput ml peer r63)), (r63, .box (encG ⟨life', []⟩ .nil0))], rfl, rfl, rfl, rfl, ⟨by rw [pget_pput, if_pos rfl], hen, by rw [hR0]; exact hnew, by rw [hR0]; exact hsm2, hHH1, hkb, (AHeap.get_set_ne _ _ h10r).trans ((AHeap.get_set_ne _ _ h1063).trans h10)⟩⟩ | exact g_has ⟨r10, H1, b, ml, upd aw peer .nil0, _, [(b, .box (encG ⟨g.life, []⟩ .nil0))], rfl, rfl, rfl, rfl, ⟨hk, hE4, hP4, hsm2, hHH1, hkb, (AHeap.get_set_ne _ _ hb10).trans h10⟩⟩ | exact g_has ⟨r10, H1, b, ml, upd aw peer (.own rr 2 0 (rows0 (f peer) life' base).length), _, [(b, .box (encG ⟨g.life, []⟩ (.own rr 2 0 (rows0 (f peer) life' base).length))), (rr, .row 2 ((rows0 (f peer) life' base).map encB)), (rr, .row 2 ((rows0 (f peer) life' base).map encB ++ List.replicate (g.rows.length - (rows0 (f peer) life' base).length) (.agg [.nil0, .int .i64 0])))], rfl, rfl, rfl, rfl, ⟨hk, hE4, hP4, hsm2, hHH1, hkb, (AHeap.get_set_ne _ _ hb10).trans ((AHeap.get_set_ne _ _ (Ne.symm hx10)).trans ((AHeap.get_set_ne _ _ (Ne.symm hx10)).trans h10))⟩⟩
           ·
            have hx0 := hP.wne hk ha
            rw [hfg] at hx0
            have hxb : rr ≠ b := fun e1 => by rw [e1, hb0] at hx0; cases hx0
            have hx10 : rr ≠ r10 := fun e1 => by rw [e1, hh10 hr10x hhH] at hx0; cases hx0
            refine g_cutrow (G := AHeap.set _ rr _) (m := (rows0 (f peer) life' base).map encB) (rows0 (f peer) life' base).length (AHeap.get_set _ _ _) (by rw [← hR0, List.take_left' (by rw [List.length_map])]) ?_
            rw [← hR0]
            refine g_step rfl (s_val (v_nilCheck rfl rfl) rfl rfl ?_)
            refine g_step rfl (s_val (by first | exact v_fieldAddr ty164 fo164_1 ty146 rfl | exact v_fieldAddr_box ty164 fo164_1 ty146 rfl) rfl rfl ?_)
            refine g_step rfl (s_store_box (new := encG ⟨g.life, []⟩ (.own rr 2 0 (rows0 (f peer) life' base).length)) ty146 rfl rfl ((AHeap.get_set_ne _ _ (Ne.symm hxb)).trans ((AHeap.get_set_ne _ _ (Ne.symm hxb)).trans hb)) rfl rfl rfl rfl hDb ?_)
            refine g_nil ?_
            have hE4 := (((EffTo.refl h w0.heap.size).write (b := rr) (.row 2 ((rows0 (f peer) life' base).map encB ++ List.replicate (g.rows.length - (rows0 (f peer) life' base).length) (.agg [.nil0, .int .i64 0]))) (.inl (by rw [hx0]; simp))).write (b := rr) (.row 2 ((rows0 (f peer) life' base).map encB)) (.inl (by rw [AHeap.get_set]; simp))).write (b := b) (.box (encG ⟨g.life, []⟩ (.own rr 2 0 (rows0 (f peer) life' base).length))) (.inl (by rw [AHeap.get_set_ne _ _ (Ne.symm hxb), AHeap.get_set_ne _ _ (Ne.symm hxb), hb0]; simp))
            have hsm2 : ∀ k c, pget ml k = some c → (upd f peer (some ⟨life', (rows0 (f peer) life' base)⟩) k).isSome = true := fun k c hkk => by by_cases hkp : k = peer; (subst hkp; rw [upd_at]; rfl); (rw [upd_ne _ _ hkp]; exact hsm k c hkk)
            have hP4 := hP.turn (h' := ((h.set rr (.row 2 ((rows0 (f peer) life' base).map encB ++ List.replicate (g.rows.length - (rows0 (f peer) life' base).length) (.agg [.nil0, .int .i64 0])))).set rr (.row 2 ((rows0 (f peer) life' base).map encB))).set b (.box (encG ⟨g.life, []⟩ (.own rr 2 0 (rows0 (f peer) life' base).length)))) hk (s := some ⟨life', (rows0 (f peer) life' base)⟩) (a := .own rr 2 0 (rows0 (f peer) life' base).length) (by rw [← hlf]; exact AHeap.get_set _ _ _) (.inr ⟨rr, by show _ = AV.own rr 2 0 ((rows0 (f peer) life' base).map encB).length; rw [List.length_map], by rw [AHeap.get_set_ne _ _ hxb]; exact AHeap.get_set _ _ _⟩) (fun c y hc hcb hcw => by rw [AHeap.get_set_ne _ _ hcb]; exact set_two hc (fun e1 => hcw _ (e1 ▸ ha))) (fun x n hx => by cases hx; exact .inr ⟨_, ha⟩)
            refine g_block_normal ?_
            first | refine g_keep [3, 5, 10, 13] [] [] (keep_cons rfl (keep_cons rfl (keep_cons rfl (keep_cons rfl keep_nil)))) lkeep_nil keep_nil rfl ?_ | refine g_keep [3, 5, 10, 13] [] [] rfl rfl rfl rfl ?_
            first | exact g_has ⟨r10, H1, r63, pput ml peer r63, upd aw peer .nil0, _, [(r, bmRow (pput ml peer r63)), (r63, .box (encG ⟨life', []⟩ .nil0))], rfl, rfl, rfl, rfl, ⟨by rw [pget_pput, if_pos rfl], hen, by rw [hR0]; exact hnew, by rw [hR0]; exact hsm2, hHH1, hkb, (AHeap.get_set_ne _ _ h10r).trans ((AHeap.get_set_ne _ _ h1063).trans h10)⟩⟩ | exact g_has ⟨r10, H1, b, ml, upd aw peer .nil0, _, [(b, .box (encG ⟨g.life, []⟩ .nil0))], rfl, rfl, rfl, rfl, ⟨hk, hE4, hP4, hsm2, hHH1, hkb, (AHeap.get_set_ne _ _ hb10).trans h10⟩⟩ | exact g_has ⟨r10, H1, b, ml, upd aw peer (.own rr 2 0 (rows0 (f peer) life' base).length), _, [(b, .box (encG ⟨g.life, []⟩ (.own rr 2 0 (rows0 (f peer) life' base).length))), (rr, .row 2 ((rows0 (f peer) life' base).map encB)), (rr, .row 2 ((rows0 (f peer) life' base).map encB ++ List.replicate (g.rows.length - (rows0 (f peer) life' base).length) (.agg [.nil0, .int .i64 0])))], rfl, rfl, rfl, rfl, ⟨hk, hE4, hP4, hsm2, hHH1, hkb, (AHeap.get_set_ne _ _ hb10).trans ((AHeap.get_set_ne _ _ (Ne.symm hx10)).trans ((AHeap.get_set_ne _ _ (Ne.symm hx10)).trans h10))⟩⟩
     ·
      obtain ⟨r10, H1, b1, ml1, aw1, h1, e1, rfl, rfl, rfl, rfl, hk1, hE1, hP1, hsm1, hHH1, hkb, hr10⟩ := hI
      have hhH1 := AHeap.sub_trans hhH hHH1
      have hsub1 := hE1.within hhH1
      have hb10 : h1 b1 = some (.box (encG ⟨life', (rows0 (f peer) life' base)⟩ (aw1 peer))) := by have := hP1.bb peer b1 hk1; rw [upd_at] at this; exact this
      have hb1 := hsub1 _ _ hb10
      have hw1 : SV h1 2 (aw1 peer) ((rows0 (f peer) life' base).map encB) := by have := hP1.ww peer b1 hk1; rw [upd_at] at this; exact this
      have hwm1 := hw1.mono hsub1
      have hDb : h b1 ≠ none ∨ w0.heap.size ≤ b1 := hE1.some (by rw [hb10]; simp)
      obtain ⟨hr4, hrok, hrise⟩ := rows0_len (life := life') (base := base) hgo
      refine g_seq (fun K12 hK12 => ?_)
      refine g_region ?_
      refine g_step rfl (s_val (v_move rfl) rfl rfl ?_)
      refine g_step rfl (s_val (v_build (vs := [(1, _)]) (zs := [.nil0, (.int .i64 0)]) (cells := [_, _]) ty144 pl144 rfl rfl rfl) rfl rfl ?_)
      refine g_step rfl (s_alloc (av := (.agg [.nil0, (.int .i64 0)])) ty144 rfl rfl rfl rfl ?_)
      refine g_step rfl (s_store_all ty144 rfl rfl rfl rfl rfl rfl ?_)
      refine g_nil ?_
      refine g_next hK12 ?_
      refine g_seq (fun K13 hK13 => ?_)
      refine g_region ?_
      refine g_step rfl (s_val (v_move rfl) rfl rfl ?_)
      refine g_step rfl (s_callp rfl rfl rfl (recCopy_ok l _ _ rfl (by omega) hls) ?_)
      rintro _ rfl
      refine g_step rfl (s_fieldAddr ty144 fo144_0 ty142 rfl rfl ?_)
      refine g_step rfl (s_fieldAddr ty142 fo142_0 ty64 rfl rfl ?_)
      refine g_step rfl (s_store (new := (encB (⟨l, e⟩ : BRow))) ty64 rfl rfl rfl rfl rfl rfl rfl ?_)
      refine g_nil ?_
      refine g_next hK13 ?_
      refine g_seq (fun K14 hK14 => ?_)
      refine g_region ?_
      refine g_step rfl (s_val (v_assign rfl) rfl rfl ?_)
      refine g_nil ?_
      refine g_next hK14 ?_
      refine g_cut (fun env L B G => ∃ (r10 : Nat) (H1 : AHeap) (b1 : Nat) (ml1 : BMap) (aw1 : Int → AV) (h1 : AHeap) (e1 : List (Nat × ARow)) (i : Nat), env = [(10, .box r10 0), (13, .box b1 0), (15, .int .i64 (i : Int))] ∧ L = [(14, 14, 0)] ∧ B = [(14, (encB (⟨l, e⟩ : BRow)))] ∧ G = setAll H1 e1 ∧ pget ml1 peer = some b1 ∧ EffTo h h1 w0.heap.size e1 ∧ GA h1 p (.agg [.map r]) r ml1 (upd f peer (some ⟨life', (rows0 (f peer) life' base)⟩)) aw1 ∧ (∀ k b, pget ml1 k = some b → ((upd f peer (some ⟨life', (rows0 (f peer) life' base)⟩)) k).isSome = true) ∧ H.sub H1 ∧ keepB (f peer) life' e l = true ∧ (setAll H1 e1) r10 = some (.box (.int .i64 base)) ∧ i ≤ (rows0 (f peer) life' base).length ∧ (rows0 (f peer) life' base).take i = (rows0 (f peer) life' base).takeWhile (isUnder e) ∧ (rows0 (f peer) life' base).drop i = (rows0 (f peer) life' base).dropWhile (isUnder e)) ?_ (fun env L B G hI => ?_)
      ·
       refine g_block ?_
       first | refine g_keep [3, 10, 13, 15] [14] [14] (keep_cons rfl (keep_cons rfl (keep_cons rfl (keep_cons rfl keep_nil)))) (lkeep_cons rfl lkeep_nil) (keep_cons rfl keep_nil) rfl ?_ | refine g_keep [3, 10, 13, 15] [14] [14] rfl rfl rfl rfl ?_
       refine g_loop (fun n env L B G => ∃ (i : Nat) , i ≤ (rows0 (f peer) life' base).length ∧ n = (rows0 (f peer) life' base).length - i ∧ env = [(3, .int .i64 e), (10, .box r10 0), (13, .box b1 0), (15, .int .i64 (i : Int))] ∧ L = [(14, 14, 0)] ∧ B = [(14, (encB (⟨l, e⟩ : BRow)))] ∧ G = setAll H1 e1 ∧ ((rows0 (f peer) life' base).take i).all (isUnder e) = true) ((rows0 (f peer) life' base).length) ⟨0, Nat.zero_le _, rfl, rfl, rfl, rfl, rfl, rfl⟩ (fun n env L B G hI => ?_)
       obtain ⟨i, hi, rfl, rfl, rfl, rfl, rfl, hall⟩ := hI
       refine g_seq (fun K15 hK15 => ?_)
       refine g_seq (fun K16 hK16 => ?_)
       refine g_region ?_
       refine g_step rfl (s_val (v_move rfl) rfl rfl ?_)
       refine g_step rfl (s_val (v_move rfl) rfl rfl ?_)
       refine g_step rfl (s_val (v_nilCheck rfl rfl) rfl rfl ?_)
       refine g_step rfl (s_val (by first | exact v_fieldAddr ty164 fo164_1 ty146 rfl | exact v_fieldAddr_box ty164 fo164_1 ty146 rfl) rfl rfl ?_)
       refine g_step rfl (s_val (by first | exact v_load ty146 rfl rfl (by first | rfl | assumption) (by first | assumption | exact map_get (by assumption) | rfl) rfl | exact v_load_box ty146 rfl rfl hb1 (by rfl)) rfl rfl ?_)
       refine g_step rfl (s_val (v_len ty146 rfl hwm1.view (List.length_map ..)) rfl rfl ?_)
       refine g_step rfl (s_val (v_lss rfl rfl) rfl rfl ?_)
       refine g_step rfl (s_val (v_move rfl) rfl rfl ?_)
       refine g_split 99 rfl (fun hg99 => ?_) (fun hg99 => ?_)
       ·
        try simp only [decide_eq_true_eq, decide_eq_false_iff_not, Bool.not_eq_true', Bool.not_eq_false', Bool.not_eq_eq_eq_not, Bool.not_true, Bool.not_false, Bool.and_eq_true, Bool.or_eq_true, Bool.or_eq_false_iff, beq_iff_eq, beq_eq_false_iff_ne, ne_eq, Int.not_lt, Int.not_le, Decidable.not_not] at hg99
        obtain ⟨y, hy⟩ := get_some (l := (rows0 (f peer) life' base)) (k := i) (by omega)
        refine g_step_yes (j := 7) (t := 99) rfl rfl rfl rfl (s_val (v_move rfl) rfl rfl ?_)
        refine g_step_yes (j := 7) (t := 99) rfl rfl rfl rfl (s_val (v_nilCheck rfl rfl) rfl rfl ?_)
        refine g_step_yes (j := 7) (t := 99) rfl rfl rfl rfl (s_val (by first | exact v_fieldAddr ty164 fo164_1 ty146 rfl | exact v_fieldAddr_box ty164 fo164_1 ty146 rfl) rfl rfl ?_)
        refine g_step_yes (j := 7) (t := 99) rfl rfl rfl rfl (s_val (by first | exact v_load ty146 rfl rfl (by first | rfl | assumption) (by first | assumption | exact map_get (by assumption) | rfl) rfl | exact v_load_box ty146 rfl rfl hb1 (by rfl)) rfl rfl ?_)
        refine g_step_yes (j := 7) (t := 99) rfl rfl rfl rfl (s_val (v_move rfl) rfl rfl ?_)
        refine g_step_yes (j := 7) (t := 99) rfl rfl rfl rfl (s_val (v_indexAddr ty146 ty144 rfl rfl hwm1.view (by first | rfl | exact (rfl : (0 : Int) = ((0 : Nat) : Int)) | exact (Int.toNat_of_nonneg (by omega)).symm) (map_get hy) rfl) rfl rfl ?_)
        refine g_step_yes (j := 7) (t := 99) rfl rfl rfl rfl (s_val (by first | exact v_fieldAddr ty144 fo144_1 ty3 rfl | exact v_fieldAddr_box ty144 fo144_1 ty3 rfl) rfl rfl ?_)
        refine g_step_yes (j := 7) (t := 99) rfl rfl rfl rfl (s_val (by first | exact v_load ty3 rfl rfl hwm1.view (map_get hy) rfl | exact v_load_box ty3 rfl rfl (by assumption) rfl) rfl rfl ?_)
        refine g_step_yes (j := 7) (t := 99) rfl rfl rfl rfl (s_val (v_move rfl) rfl rfl ?_)
        refine g_step_yes (j := 7) (t := 99) rfl rfl rfl rfl (s_val (v_lss rfl rfl) rfl rfl ?_)
        refine g_step rfl (s_val (v_pick_t rfl rfl) rfl rfl ?_)
        refine g_nil ?_
        refine g_next hK16 ?_
        refine g_cond rfl (fun hc110 => ?_) (fun hc110 => ?_)
        ·
         try simp only [decide_eq_true_eq, decide_eq_false_iff_not, Bool.not_eq_true', Bool.not_eq_false', Bool.not_eq_eq_eq_not, Bool.not_true, Bool.not_false, Bool.and_eq_true, Bool.or_eq_true, Bool.or_eq_false_iff, beq_iff_eq, beq_eq_false_iff_ne, ne_eq, Int.not_lt, Int.not_le, Decidable.not_not] at hc110
         refine g_skip ?_
         refine g_next hK15 ?_
         refine g_block ?_
         refine g_region ?_
         refine g_step rfl (s_val (v_move rfl) rfl rfl ?_)
         refine g_step rfl (s_val (v_add rfl rfl (by omega)) rfl rfl ?_)
         refine g_step rfl (s_val (v_assign rfl) rfl rfl ?_)
         refine g_nil ?_
         refine g_block_normal ?_
         first | refine g_keep [3, 10, 13, 15] [14] [14] (keep_cons rfl (keep_cons rfl (keep_cons rfl (keep_cons rfl keep_nil)))) (lkeep_cons rfl lkeep_nil) (keep_cons rfl keep_nil) rfl ?_ | refine g_keep [3, 10, 13, 15] [14] [14] rfl rfl rfl rfl ?_
         exact g_round _ (by omega) ⟨i + 1, by omega, rfl, rfl, rfl, rfl, rfl, by rw [allG_snoc hy, hall]; simpa [isUnder] using hc110⟩
        ·
         try simp only [decide_eq_true_eq, decide_eq_false_iff_not, Bool.not_eq_true', Bool.not_eq_false', Bool.not_eq_eq_eq_not, Bool.not_true, Bool.not_false, Bool.and_eq_true, Bool.or_eq_true, Bool.or_eq_false_iff, beq_iff_eq, beq_eq_false_iff_ne, ne_eq, Int.not_lt, Int.not_le, Decidable.not_not] at hc110
         refine g_exit ?_
         refine g_then_exit ?_
         refine g_then_exit ?_
         refine g_block_same ?_
         first | refine g_keep [10, 13, 15] [14] [14] (keep_cons rfl (keep_cons rfl (keep_cons rfl keep_nil))) (lkeep_cons rfl lkeep_nil) (keep_cons rfl keep_nil) rfl ?_ | refine g_keep [10, 13, 15] [14] [14] rfl rfl rfl rfl ?_
         first | exact g_has ⟨r10, H1, b1, ml1, aw1, h1, e1, i, rfl, rfl, rfl, rfl, ⟨hk1, hE1, hP1, hsm1, hHH1, hkb, hr10, split_whileG hi hall (fun z hz => by rw [hy] at hz; injection hz with hz; subst hz; simp [isUnder]; omega)⟩⟩ | exact g_has ⟨r10, H1, b1, ml1, aw1, h1, e1, i, rfl, rfl, rfl, rfl, ⟨hk1, hE1, hP1, hsm1, hHH1, hkb, hr10, split_whileG hi hall (fun z hz => by have := (List.getElem?_eq_some_iff.1 hz).1; omega)⟩⟩
       ·
        try simp only [decide_eq_true_eq, decide_eq_false_iff_not, Bool.not_eq_true', Bool.not_eq_false', Bool.not_eq_eq_eq_not, Bool.not_true, Bool.not_false, Bool.and_eq_true, Bool.or_eq_true, Bool.or_eq_false_iff, beq_iff_eq, beq_eq_false_iff_ne, ne_eq, Int.not_lt, Int.not_le, Decidable.not_not] at hg99
        refine g_step_no (j := 7) (t := 99) rfl rfl rfl rfl rfl rfl rfl ?_
        refine g_step_no (j := 7) (t := 99) rfl rfl rfl rfl rfl rfl rfl ?_
        refine g_step_no (j := 7) (t := 99) rfl rfl rfl rfl rfl rfl rfl ?_
        refine g_step_no (j := 7) (t := 99) rfl rfl rfl rfl rfl rfl rfl ?_
        refine g_step_no (j := 7) (t := 99) rfl rfl rfl rfl rfl rfl rfl ?_
        refine g_step_no (j := 7) (t := 99) rfl rfl rfl rfl rfl rfl rfl ?_
        refine g_step_no (j := 7) (t := 99) rfl rfl rfl rfl rfl rfl rfl ?_
        refine g_step_no (j := 7) (t := 99) rfl rfl rfl rfl rfl rfl rfl ?_
        refine g_step_no (j := 7) (t := 99) rfl rfl rfl rfl rfl rfl rfl ?_
        refine g_step_no (j := 7) (t := 99) rfl rfl rfl rfl rfl rfl rfl ?_
        refine g_step rfl (s_val (v_pick_f rfl rfl) rfl rfl ?_)
        refine g_nil ?_
        refine g_next hK16 ?_
        refine g_cond rfl (fun h => by cases h) (fun _ => ?_)
        refine g_exit ?_
        refine g_then_exit ?_
        refine g_then_exit ?_
        refine g_block_same ?_
        first | refine g_keep [10, 13, 15] [14] [14] (keep_cons rfl (keep_cons rfl (keep_cons rfl keep_nil))) (lkeep_cons rfl lkeep_nil) (keep_cons rfl keep_nil) rfl ?_ | refine g_keep [10, 13, 15] [14] [14] rfl rfl rfl rfl ?_
        first | exact g_has ⟨r10, H1, b1, ml1, aw1, h1, e1, i, rfl, rfl, rfl, rfl, ⟨hk1, hE1, hP1, hsm1, hHH1, hkb, hr10, split_whileG hi hall (fun z hz => by rw [hy] at hz; injection hz with hz; subst hz; simp [isUnder]; omega)⟩⟩ | exact g_has ⟨r10, H1, b1, ml1, aw1, h1, e1, i, rfl, rfl, rfl, rfl, ⟨hk1, hE1, hP1, hsm1, hHH1, hkb, hr10, split_whileG hi hall (fun z hz => by have := (List.getElem?_eq_some_iff.1 hz).1; omega)⟩⟩
      ·
       obtain ⟨r10, H1, b1, ml1, aw1, h1, e1, i, rfl, rfl, rfl, rfl, hk1, hE1, hP1, hsm1, hHH1, hkb, hr10, hil, htw, hdw⟩ := hI
       have hhH1 := AHeap.sub_trans hhH hHH1
       have hsub1 := hE1.within hhH1
       have hb10 : h1 b1 = some (.box (encG ⟨life', (rows0 (f peer) life' base)⟩ (aw1 peer))) := by have := hP1.bb peer b1 hk1; rw [upd_at] at this; exact this
       have hb1 := hsub1 _ _ hb10
       have hw1 : SV h1 2 (aw1 peer) ((rows0 (f peer) life' base).map encB) := by have := hP1.ww peer b1 hk1; rw [upd_at] at this; exact this
       have hwm1 := hw1.mono hsub1
       have hDb : h b1 ≠ none ∨ w0.heap.size ≤ b1 := hE1.some (by rw [hb10]; simp)
       obtain ⟨hr4, hrok, hrise⟩ := rows0_len (life := life') (base := base) hgo
       refine g_cut (fun env L B G => ∃ (r10 : Nat) (H1 : AHeap) (b1 : Nat) (ml1 : BMap) (aw1 : Int → AV) (h1 : AHeap) (e1 : List (Nat × ARow)) (r' : Nat) (h4 : AHeap) (e4 : List (Nat × ARow)), env = [(10, .box r10 0), (13, .box b1 0)] ∧ L = [] ∧ B = [] ∧ G = setAll H1 e4 ∧ pget ml1 peer = some b1 ∧ EffTo h h1 w0.heap.size e1 ∧ GA h1 p (.agg [.map r]) r ml1 (upd f peer (some ⟨life', (rows0 (f peer) life' base)⟩)) aw1 ∧ (∀ k b, pget ml1 k = some b → ((upd f peer (some ⟨life', (rows0 (f peer) life' base)⟩)) k).isSome = true) ∧ H.sub H1 ∧ keepB (f peer) life' e l = true ∧ EffTo h h4 w0.heap.size e4 ∧ h4 b1 = some (.box (encG ⟨life', []⟩ (.own r' 2 0 ((rows0 (f peer) life' base).length + 1)))) ∧ h4 r' = some (.row 2 ((insRow (rows0 (f peer) life' base) (⟨l, e⟩ : BRow)).map encB)) ∧ (∀ c y, h1 c = some y → c ≠ b1 → (∀ n, aw1 peer ≠ .own c 2 0 n) → h4 c = some y) ∧ (h1 r' = none ∨ ∃ n, aw1 peer = .own r' 2 0 n) ∧ b1 ≠ r' ∧ (setAll H1 e4) r10 = some (.box (.int .i64 base))) ?_ (fun env L B G hI => ?_)
       ·
        refine g_draw (n := 12) (fun j => !([7, 8, 11] : List Nat).contains j) rfl rfl ?_
        refine m_take 0 false rfl rfl (by kernel_rfl) (by kernel_rfl) (by kernel_rfl) (fun _ _ _ _ h => h) (v_move rfl) rfl rfl ?_
        refine m_take 1 false rfl rfl (by kernel_rfl) (by kernel_rfl) (by kernel_rfl) (fun _ _ _ _ h => h) (v_move rfl) rfl rfl ?_
        refine m_take 2 false rfl rfl (by kernel_rfl) (by kernel_rfl) (by kernel_rfl) (fun _ _ _ _ h => h) (v_nilCheck rfl rfl) rfl rfl ?_
        refine m_take 3 false rfl rfl (by kernel_rfl) (by kernel_rfl) (by kernel_rfl) (fun _ _ _ _ h => h) (by first | exact v_fieldAddr ty164 fo164_1 ty146 rfl | exact v_fieldAddr_box ty164 fo164_1 ty146 rfl) rfl rfl ?_
        refine m_take 5 false rfl rfl (by kernel_rfl) (by kernel_rfl) (by kernel_rfl) (fun _ _ _ _ h => h) (v_move rfl) rfl rfl ?_
        refine m_take 6 true rfl rfl (by kernel_rfl) (by kernel_rfl) (by kernel_rfl) (fun _ _ _ _ h => h) (by first | exact v_loadl_all ty144 rfl rfl rfl rfl rfl | exact v_loadl_part (cs := [_, _]) ty144 rfl rfl rfl rfl rfl rfl) rfl rfl ?_
        refine m_all (is := [4, 7]) (by kernel_rfl) rfl (fun _ _ _ => trivial) (fun i hi => ?_)
        rcases (by simpa using hi : i = 4 ∨ i = 7) with rfl | rfl
        ·
         refine ⟨_, rfl, .inl ⟨rfl, ?_⟩⟩
         refine sm_val (by first | exact v_load ty146 rfl rfl (by first | rfl | assumption) (by first | assumption | exact map_get (by assumption) | rfl) rfl | exact v_load_box ty146 rfl rfl (by first | exact hb1 | exact (AHeap.get_set_ne _ _ hqb).trans hb1) (by rfl)) rfl rfl ?_
         refine m_one 7 (by kernel_rfl) rfl rfl ?_
         refine sm_any rfl (s_litO ty145 ty144 rfl rfl rfl rfl rfl rfl rfl (fun q hq1 hq2 => ?_))
         have hqb : b1 ≠ q := fun e2 => by rw [← e2, hb1] at hq1; cases hq1
         have hq10 : r10 ≠ q := fun e2 => by rw [← e2, hr10] at hq1; cases hq1
         have hwq : SV ((setAll H1 e1).set q (.row 2 ([(⟨l, e⟩ : BRow)].map encB))) 2 (aw1 peer) ((rows0 (f peer) life' base).map encB) := hwm1.mono (AHeap.sub_set (AHeap.sub_refl _) hq1)
         refine m_one 8 (by kernel_rfl) rfl rfl ?_
         refine sm_any rfl (s_call rfl rfl rfl (insBV_ok q i (rows0 (f peer) life' base) (⟨l, e⟩ : BRow) (aw1 peer) _ hwq (AHeap.get_set _ _ _) (fun n hn => by rcases hwm1 with ⟨h9, _⟩ | ⟨z, h9, h8⟩; (rw [hn] at h9; cases h9); (rw [hn] at h9; cases h9; rw [hq1] at h8; cases h8)) hil (by omega)) (fun c hc => by obtain ⟨n, hn⟩ := hc; rcases hw1 with ⟨h9, _⟩ | ⟨z, h9, h8⟩; (rw [hn] at h9; cases h9); (rw [hn] at h9; cases h9; exact hE1.some (by rw [h8]; simp))) ?_)
         rintro n8 v8 effs8 hn8 hdom8 ⟨r', hr', rfl, rfl⟩ hok8
         rw [htw, hdw]
         have hkin := keep_in (X := .box (encG ⟨life', []⟩ (.own r' 2 0 ((rows0 (f peer) life' base).length + 1)))) (R := .row 2 ((insRow (rows0 (f peer) life' base) (⟨l, e⟩ : BRow)).map encB)) hE1 hhH1 hb10 hw1 hr10 hq1 hq2 hn8 hdom8 hr' (by intro e2; cases e2)
         have hbr' := hkin.2.2.2.2.2.1
         refine m_take 9 false rfl rfl (by kernel_rfl) (by kernel_rfl) (by kernel_rfl) (fun _ _ _ _ h => h) (v_nilCheck rfl rfl) rfl rfl ?_
         refine m_take 10 false rfl rfl (by kernel_rfl) (by kernel_rfl) (by kernel_rfl) (fun _ _ _ _ h => h) (by first | exact v_fieldAddr ty164 fo164_1 ty146 rfl | exact v_fieldAddr_box ty164 fo164_1 ty146 rfl) rfl rfl ?_
         refine m_one 11 (by kernel_rfl) rfl rfl ?_
         refine sm_any rfl (s_store_box (new := encG ⟨life', []⟩ (.own r' 2 0 ((rows0 (f peer) life' base).length + 1))) ty146 rfl rfl ((AHeap.get_set_ne _ _ hbr').trans ((AHeap.get_set_ne _ _ hqb).trans hb1)) rfl rfl rfl rfl hDb ?_)
         refine m_done (by kernel_rfl) ?_
         first | refine g_keep [10, 13] [] [] (keep_cons rfl (keep_cons rfl keep_nil)) lkeep_nil keep_nil rfl ?_ | refine g_keep [10, 13] [] [] rfl rfl rfl rfl ?_
         first | exact g_has ⟨r10, H1, b1, ml1, aw1, h1, e1, r', _, (b1, .box (encG ⟨life', []⟩ (.own r' 2 0 ((rows0 (f peer) life' base).length + 1)))) :: (r', .row 2 ((insRow (rows0 (f peer) life' base) (⟨l, e⟩ : BRow)).map encB)) :: (q, .row 2 ([(⟨l, e⟩ : BRow)].map encB)) :: e1, rfl, rfl, rfl, rfl, ⟨hk1, hE1, hP1, hsm1, hHH1, hkb, hkin⟩⟩
        ·
         refine ⟨_, rfl, .inl ⟨rfl, ?_⟩⟩
         refine sm_any rfl (s_litO ty145 ty144 rfl rfl rfl rfl rfl rfl rfl (fun q hq1 hq2 => ?_))
         have hqb : b1 ≠ q := fun e2 => by rw [← e2, hb1] at hq1; cases hq1
         have hq10 : r10 ≠ q := fun e2 => by rw [← e2, hr10] at hq1; cases hq1
         have hwq : SV ((setAll H1 e1).set q (.row 2 ([(⟨l, e⟩ : BRow)].map encB))) 2 (aw1 peer) ((rows0 (f peer) life' base).map encB) := hwm1.mono (AHeap.sub_set (AHeap.sub_refl _) hq1)
         refine m_take 4 true rfl rfl (by kernel_rfl) (by kernel_rfl) (by kernel_rfl) (fun _ _ _ _ h => h) (by first | exact v_load ty146 rfl rfl (by first | rfl | assumption) (by first | assumption | exact map_get (by assumption) | rfl) rfl | exact v_load_box ty146 rfl rfl (by first | exact hb1 | exact (AHeap.get_set_ne _ _ hqb).trans hb1) (by rfl)) rfl rfl ?_
         refine m_one 8 (by kernel_rfl) rfl rfl ?_
         refine sm_any rfl (s_call rfl rfl rfl (insBV_ok q i (rows0 (f peer) life' base) (⟨l, e⟩ : BRow) (aw1 peer) _ hwq (AHeap.get_set _ _ _) (fun n hn => by rcases hwm1 with ⟨h9, _⟩ | ⟨z, h9, h8⟩; (rw [hn] at h9; cases h9); (rw [hn] at h9; cases h9; rw [hq1] at h8; cases h8)) hil (by omega)) (fun c hc => by obtain ⟨n, hn⟩ := hc; rcases hw1 with ⟨h9, _⟩ | ⟨z, h9, h8⟩; (rw [hn] at h9; cases h9); (rw [hn] at h9; cases h9; exact hE1.some (by rw [h8]; simp))) ?_)
         rintro n8 v8 effs8 hn8 hdom8 ⟨r', hr', rfl, rfl⟩ hok8
         rw [htw, hdw]
         have hkin := keep_in (X := .box (encG ⟨life', []⟩ (.own r' 2 0 ((rows0 (f peer) life' base).length + 1)))) (R := .row 2 ((insRow (rows0 (f peer) life' base) (⟨l, e⟩ : BRow)).map encB)) hE1 hhH1 hb10 hw1 hr10 hq1 hq2 hn8 hdom8 hr' (by intro e2; cases e2)
         have hbr' := hkin.2.2.2.2.2.1
         refine m_take 9 false rfl rfl (by kernel_rfl) (by kernel_rfl) (by kernel_rfl) (fun _ _ _ _ h => h) (v_nilCheck rfl rfl) rfl rfl ?_
         refine m_take 10 false rfl rfl (by kernel_rfl) (by kernel_rfl) (by kernel_rfl) (fun _ _ _ _ h => h) (by first | exact v_fieldAddr ty164 fo164_1 ty146 rfl | exact v_fieldAddr_box ty164 fo164_1 ty146 rfl) rfl rfl ?_
         refine m_one 11 (by kernel_rfl) rfl rfl ?_
         refine sm_any rfl (s_store_box (new := encG ⟨life', []⟩ (.own r' 2 0 ((rows0 (f peer) life' base).length + 1))) ty146 rfl rfl ((AHeap.get_set_ne _ _ hbr').trans ((AHeap.get_set_ne _ _ hqb).trans hb1)) rfl rfl rfl rfl hDb ?_)
         refine m_done (by kernel_rfl) ?_
         first | refine g_keep [10, 13] [] [] (keep_cons rfl (keep_cons rfl keep_nil)) lkeep_nil keep_nil rfl ?_ | refine g_keep [10, 13] [] [] rfl rfl rfl rfl ?_
         first | exact g_has ⟨r10, H1, b1, ml1, aw1, h1, e1, r', _, (b1, .box (encG ⟨life', []⟩ (.own r' 2 0 ((rows0 (f peer) life' base).length + 1)))) :: (r', .row 2 ((insRow (rows0 (f peer) life' base) (⟨l, e⟩ : BRow)).map encB)) :: (q, .row 2 ([(⟨l, e⟩ : BRow)].map encB)) :: e1, rfl, rfl, rfl, rfl, ⟨hk1, hE1, hP1, hsm1, hHH1, hkb, hkin⟩⟩
       ·
        obtain ⟨r10, H1, b1, ml1, aw1, h1, e1, r', h4, e4, rfl, rfl, rfl, rfl, hk1, hE1, hP1, hsm1, hHH1, hkb, hE4, hb40, hr40, hf4, hn4, hbr', hr10⟩ := hI
        have hhH1 := AHeap.sub_trans hhH hHH1
        have hsub4 := hE4.within hhH1
        have hb4 := hsub4 _ _ hb40
        have hr4' := hsub4 _ _ hr40
        have hDb : h b1 ≠ none ∨ w0.heap.size ≤ b1 := hE4.some (by rw [hb40]; simp)
        have hDr : h r' ≠ none ∨ w0.heap.size ≤ r' := hE4.some (by rw [hr40]; simp)
        obtain ⟨hr4, hrok, hrise⟩ := rows0_len (life := life') (base := base) hgo
        have hil := insRow_len (rows0 (f peer) life' base) (⟨l, e⟩ : BRow)
        have hir := insRow_rise (x := (⟨l, e⟩ : BRow)) hrise (rows0_no hkb)
        refine g_cut (fun env L B G => ∃ (r10 : Nat) (H1 : AHeap) (b1 : Nat) (ml1 : BMap) (aw1 : Int → AV) (h1 : AHeap) (e1 : List (Nat × ARow)) (a' : AV) (h5 : AHeap) (e5 : List (Nat × ARow)), env = [] ∧ L = [] ∧ B = [] ∧ G = setAll H1 e5 ∧ pget ml1 peer = some b1 ∧ EffTo h h1 w0.heap.size e1 ∧ GA h1 p (.agg [.map r]) r ml1 (upd f peer (some ⟨life', (rows0 (f peer) life' base)⟩)) aw1 ∧ (∀ k b, pget ml1 k = some b → ((upd f peer (some ⟨life', (rows0 (f peer) life' base)⟩)) k).isSome = true) ∧ H.sub H1 ∧ keepB (f peer) life' e l = true ∧ EffTo h h5 w0.heap.size e5 ∧ h5 b1 = some (.box (encG ⟨life', []⟩ a')) ∧ SV h5 2 a' ((trimR base (insRow (rows0 (f peer) life' base) (⟨l, e⟩ : BRow))).map encB) ∧ (∀ c y, h1 c = some y → c ≠ b1 → (∀ n, aw1 peer ≠ .own c 2 0 n) → h5 c = some y) ∧ (∀ x n, a' = .own x 2 0 n → h1 x = none ∨ ∃ n', aw1 peer = .own x 2 0 n')) ?_ (fun env L B G hI => ?_)
        ·
         refine g_seq (fun K17 hK17 => ?_)
         refine g_region ?_
         refine g_step rfl (s_val (v_move rfl) rfl rfl ?_)
         refine g_step rfl (s_val (v_nilCheck rfl rfl) rfl rfl ?_)
         refine g_step rfl (s_val (by first | exact v_fieldAddr ty164 fo164_1 ty146 rfl | exact v_fieldAddr_box ty164 fo164_1 ty146 rfl) rfl rfl ?_)
         refine g_step rfl (s_val (by first | exact v_load ty146 rfl rfl (by first | rfl | assumption) (by first | assumption | exact map_get (by assumption) | rfl) rfl | exact v_load_box ty146 rfl rfl hb4 (by rfl)) rfl rfl ?_)
         refine g_step rfl (s_val (v_len ty146 rfl (AV.view_own_all hr4' (by rw [List.length_map, hil])) (show _ = (insRow (rows0 (f peer) life' base) (⟨l, e⟩ : BRow)).length by rw [List.length_map])) rfl rfl ?_)
         refine g_step rfl (s_val (v_gtr rfl rfl) rfl rfl ?_)
         refine g_nil ?_
         refine g_next hK17 ?_
         refine g_cond rfl (fun hc129 => ?_) (fun hc129 => ?_)
         ·
          try simp only [decide_eq_true_eq, decide_eq_false_iff_not, Bool.not_eq_true', Bool.not_eq_false', Bool.not_eq_eq_eq_not, Bool.not_true, Bool.not_false, Bool.and_eq_true, Bool.or_eq_true, Bool.or_eq_false_iff, beq_iff_eq, beq_eq_false_iff_ne, ne_eq, Int.not_lt, Int.not_le, Decidable.not_not] at hc129
          refine g_seq (fun K18 hK18 => ?_)
          refine g_region ?_
          refine g_step rfl (s_val (v_move rfl) rfl rfl ?_)
          refine g_step rfl (s_val (v_nilCheck rfl rfl) rfl rfl ?_)
          refine g_step rfl (s_val (by first | exact v_fieldAddr ty164 fo164_1 ty146 rfl | exact v_fieldAddr_box ty164 fo164_1 ty146 rfl) rfl rfl ?_)
          refine g_step rfl (s_val (by first | exact v_load ty146 rfl rfl (by first | rfl | assumption) (by first | assumption | exact map_get (by assumption) | rfl) rfl | exact v_load_box ty146 rfl rfl hb4 (by rfl)) rfl rfl ?_)
          refine g_step rfl (s_val (v_makeFunc rfl) rfl rfl ?_)
          refine g_step rfl (s_callp rfl rfl rfl (ixB_ok (insRow (rows0 (f peer) life' base) (⟨l, e⟩ : BRow)) 83 [.box r10 0] (notEp base) _ (.own r' 2 0 ((rows0 (f peer) life' base).length + 1)) (AV.view_own_all hr4' (by rw [List.length_map, hil])) (by omega) (fun x hx H' h' => kp2_ok r10 base x H' (h' _ _ hr10))) ?_)
          rintro _ rfl
          refine g_step rfl (s_val (v_assign rfl) rfl rfl ?_)
          refine g_nil ?_
          refine g_next hK18 ?_
          refine g_region ?_
          obtain ⟨i, w, hzi, hwi, hfi⟩ := row_pos (notEp_pos hir (by omega) base)
          rw [hzi, ← hil]
          rw [← hil] at hb4
          have hii := (List.getElem?_eq_some_iff.1 hwi).1
          have htr := del_one (by omega) hfi
          refine g_step rfl (s_val (v_move rfl) rfl rfl ?_)
          refine g_step rfl (s_val (v_move rfl) rfl rfl ?_)
          refine g_step rfl (s_val (v_nilCheck rfl rfl) rfl rfl ?_)
          refine g_step rfl (s_val (by first | exact v_fieldAddr ty164 fo164_1 ty146 rfl | exact v_fieldAddr_box ty164 fo164_1 ty146 rfl) rfl rfl ?_)
          refine g_step rfl (s_val (by first | exact v_load ty146 rfl rfl (by first | rfl | assumption) (by first | assumption | exact map_get (by assumption) | rfl) rfl | exact v_load_box ty146 rfl rfl hb4 (by rfl)) rfl rfl ?_)
          refine g_step rfl (s_val (v_move rfl) rfl rfl ?_)
          refine g_step rfl (s_val (v_move rfl) rfl rfl ?_)
          refine g_step rfl (s_val (v_add rfl rfl (by omega)) rfl rfl ?_)
          refine g_step rfl (s_call rfl rfl rfl (delB_ok r' i (i + 1) (insRow (rows0 (f peer) life' base) (⟨l, e⟩ : BRow)) (i : Int) _ _ rfl (by omega) hr4' (by omega) (by omega) (by omega)) (fun c hc => by subst hc; exact hDr) ?_)
          rintro n9 r9 effs9 hn9 hdom9 ⟨rfl, rfl⟩ hok9
          refine g_cutrow (G := AHeap.set _ r' _) (m := ((insRow (rows0 (f peer) life' base) (⟨l, e⟩ : BRow)).take i ++ (insRow (rows0 (f peer) life' base) (⟨l, e⟩ : BRow)).drop (i + 1)).map encB) ((insRow (rows0 (f peer) life' base) (⟨l, e⟩ : BRow)).length - 1) (AHeap.get_set _ _ _) (by rw [List.take_left' (by rw [List.length_map, List.length_append, List.length_take, List.length_drop]; omega)]) ?_
          refine g_step rfl (s_val (v_nilCheck rfl rfl) rfl rfl ?_)
          refine g_step rfl (s_val (by first | exact v_fieldAddr ty164 fo164_1 ty146 rfl | exact v_fieldAddr_box ty164 fo164_1 ty146 rfl) rfl rfl ?_)
          refine g_step rfl (s_store_box (new := encG ⟨life', []⟩ (.own r' 2 0 ((insRow (rows0 (f peer) life' base) (⟨l, e⟩ : BRow)).length - (i + 1 - i)))) ty146 rfl rfl ((AHeap.get_set_ne _ _ hbr').trans ((AHeap.get_set_ne _ _ hbr').trans hb4)) rfl rfl rfl rfl hDb ?_)
          refine g_nil ?_
          first | refine g_keep [] [] [] keep_nil lkeep_nil keep_nil rfl ?_ | refine g_keep [] [] [] rfl rfl rfl rfl ?_
          first | exact g_has ⟨r10, H1, b1, ml1, aw1, h1, e1, .own r' 2 0 ((rows0 (f peer) life' base).length + 1), h4, e4, rfl, rfl, rfl, rfl, ⟨hk1, hE1, hP1, hsm1, hHH1, hkb, hE4, hb40, .inr ⟨r', by rw [trimR, if_neg (by omega), List.length_map, hil], by rw [trimR, if_neg (by omega)]; exact hr40⟩, hf4, fun x n hx => by cases hx; exact hn4⟩⟩ | exact g_has ⟨r10, H1, b1, ml1, aw1, h1, e1, .own r' 2 0 ((insRow (rows0 (f peer) life' base) (⟨l, e⟩ : BRow)).length - (i + 1 - i)), ((h4.set r' _).set r' (.row 2 (((insRow (rows0 (f peer) life' base) (⟨l, e⟩ : BRow)).take i ++ (insRow (rows0 (f peer) life' base) (⟨l, e⟩ : BRow)).drop (i + 1)).map encB))).set b1 (.box (encG ⟨life', []⟩ (.own r' 2 0 ((insRow (rows0 (f peer) life' base) (⟨l, e⟩ : BRow)).length - (i + 1 - i))))), (b1, .box (encG ⟨life', []⟩ (.own r' 2 0 ((insRow (rows0 (f peer) life' base) (⟨l, e⟩ : BRow)).length - (i + 1 - i))))) :: (r', .row 2 (((insRow (rows0 (f peer) life' base) (⟨l, e⟩ : BRow)).take i ++ (insRow (rows0 (f peer) life' base) (⟨l, e⟩ : BRow)).drop (i + 1)).map encB)) :: (r', _) :: e4, rfl, rfl, rfl, rfl, ⟨hk1, hE1, hP1, hsm1, hHH1, hkb, ((hE4.write _ (.inl (by rw [hr40]; simp))).write _ (.inl (by rw [AHeap.get_set]; simp))).write _ (.inl (by rw [AHeap.get_set_ne _ _ hbr', AHeap.get_set_ne _ _ hbr', hb40]; simp)), AHeap.get_set _ _ _, .inr ⟨r', by rw [htr, List.length_map, List.length_append, List.length_take, List.length_drop]; congr 1; omega, by rw [htr, AHeap.get_set_ne _ _ (Ne.symm hbr')]; exact AHeap.get_set _ _ _⟩, fun c y hc hcb hcw => by rw [AHeap.get_set_ne _ _ hcb]; exact set_two (hf4 c y hc hcb hcw) (cut_ne hn4 hc hcw), fun x n hx => by cases hx; exact hn4⟩⟩
         ·
          try simp only [decide_eq_true_eq, decide_eq_false_iff_not, Bool.not_eq_true', Bool.not_eq_false', Bool.not_eq_eq_eq_not, Bool.not_true, Bool.not_false, Bool.and_eq_true, Bool.or_eq_true, Bool.or_eq_false_iff, beq_iff_eq, beq_eq_false_iff_ne, ne_eq, Int.not_lt, Int.not_le, Decidable.not_not] at hc129
          refine g_skip ?_
          first | refine g_keep [] [] [] keep_nil lkeep_nil keep_nil rfl ?_ | refine g_keep [] [] [] rfl rfl rfl rfl ?_
          first | exact g_has ⟨r10, H1, b1, ml1, aw1, h1, e1, .own r' 2 0 ((rows0 (f peer) life' base).length + 1), h4, e4, rfl, rfl, rfl, rfl, ⟨hk1, hE1, hP1, hsm1, hHH1, hkb, hE4, hb40, .inr ⟨r', by rw [trimR, if_neg (by omega), List.length_map, hil], by rw [trimR, if_neg (by omega)]; exact hr40⟩, hf4, fun x n hx => by cases hx; exact hn4⟩⟩ | exact g_has ⟨r10, H1, b1, ml1, aw1, h1, e1, .own r' 2 0 ((insRow (rows0 (f peer) life' base) (⟨l, e⟩ : BRow)).length - (i + 1 - i)), ((h4.set r' _).set r' (.row 2 (((insRow (rows0 (f peer) life' base) (⟨l, e⟩ : BRow)).take i ++ (insRow (rows0 (f peer) life' base) (⟨l, e⟩ : BRow)).drop (i + 1)).map encB))).set b1 (.box (encG ⟨life', []⟩ (.own r' 2 0 ((insRow (rows0 (f peer) life' base) (⟨l, e⟩ : BRow)).length - (i + 1 - i))))), (b1, .box (encG ⟨life', []⟩ (.own r' 2 0 ((insRow (rows0 (f peer) life' base) (⟨l, e⟩ : BRow)).length - (i + 1 - i))))) :: (r', .row 2 (((insRow (rows0 (f peer) life' base) (⟨l, e⟩ : BRow)).take i ++ (insRow (rows0 (f peer) life' base) (⟨l, e⟩ : BRow)).drop (i + 1)).map encB)) :: (r', _) :: e4, rfl, rfl, rfl, rfl, ⟨hk1, hE1, hP1, hsm1, hHH1, hkb, ((hE4.write _ (.inl (by rw [hr40]; simp))).write _ (.inl (by rw [AHeap.get_set]; simp))).write _ (.inl (by rw [AHeap.get_set_ne _ _ hbr', AHeap.get_set_ne _ _ hbr', hb40]; simp)), AHeap.get_set _ _ _, .inr ⟨r', by rw [htr, List.length_map, List.length_append, List.length_take, List.length_drop]; congr 1; omega, by rw [htr, AHeap.get_set_ne _ _ (Ne.symm hbr')]; exact AHeap.get_set _ _ _⟩, fun c y hc hcb hcw => by rw [AHeap.get_set_ne _ _ hcb]; exact set_two (hf4 c y hc hcb hcw) (cut_ne hn4 hc hcw), fun x n hx => by cases hx; exact hn4⟩⟩
        ·
         obtain ⟨r10, H1, b1, ml1, aw1, h1, e1, a', h5, e5, rfl, rfl, rfl, rfl, hk1, hE1, hP1, hsm1, hHH1, hkb, hE5, hb5, hw5, hf5, hn5⟩ := hI
         refine g_seq (fun K19 hK19 => ?_)
         refine g_region ?_
         refine g_step rfl (s_val (v_assign rfl) rfl rfl ?_)
         refine g_nil ?_
         refine g_next hK19 ?_
         refine g_ret ?_
         refine g_end1 (.inl rfl) Try.results47 (.tmp rfl) e5 (ASub.refl _) (setAllMono hHH1 e5) (hE5.ok hG) ⟨by rw [hkb]; rfl, h5, hE5, ml1, upd aw1 peer a', by rw [keepF, if_pos hkb, ← upd_upd f peer (some ⟨life', (rows0 (f peer) life' base)⟩)]; exact hP1.turn hk1 (s := some ⟨life', trimR base (insRow (rows0 (f peer) life' base) (⟨l, e⟩ : BRow))⟩) hb5 hw5 hf5 hn5, fun k c hkk => by rw [keepF, if_pos hkb]; have h9 := hsm1 k c hkk; by_cases hkp : k = peer; (subst hkp; rw [upd_at]; rfl); (rw [upd_ne _ _ hkp] at h9 ⊢; exact h9)⟩

end Go.Proofs.Ytobigfbgaiglkaa

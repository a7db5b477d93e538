import Derived.Test.YtobigfbgaiglkaaFacts
import Derived.Test.YtobigfbgaiglkaaPDice
set_option maxHeartbeats 8000000
set_option linter.unusedSimpArgs false
set_option linter.unusedVariables false
set_option maxRecDepth 100000
namespace Go.Proofs.Ytobigfbgaiglkaa
open Go Go.Proofs.Ytobigfbgaiglkaa.AM
theorem left_ok (p : Nat) (ds : List Int) (G : AHeap) (hG : G p = some (.box (.agg [encI ds]))) : PCalls Try.prog 34 [.box p 0] G (fun r => r = .int .i64 ds.length) := by
 refine LCalls.intro 10 fi34 rfl Try.ntmps34 rfl (fun _ h => h.elim) (fun H hH w0 hw0 => ?_)
 have hG := hH _ _ hG
 refine g_seq (fun K0 hK0 => ?_)
 refine g_region ?_
 refine g_step rfl (s_val (v_assign rfl) rfl rfl ?_)
 refine g_nil ?_
 refine g_next hK0 ?_
 refine g_seq (fun K1 hK1 => ?_)
 refine g_seq (fun K2 hK2 => ?_)
 refine g_region ?_
 refine g_step rfl (s_val (v_move rfl) rfl rfl ?_)
 refine g_step rfl (s_val (by first | exact v_ptr_eql_nil ty46 rfl rfl rfl | exact v_nil_eql_nil ty46 rfl rfl | exact v_ptrO_eql ty46 rfl rfl) rfl rfl ?_)
 refine g_nil ?_
 refine g_next hK2 ?_
 refine g_cond rfl (fun hc4 => ?_) (fun hc4 => ?_)
 · exfalso; (try simp only [decide_eq_true_eq, decide_eq_false_iff_not, Bool.not_eq_true', Bool.not_eq_false', Bool.not_eq_eq_eq_not, Bool.not_true, Bool.not_false, Bool.and_eq_true, Bool.or_eq_true, Bool.or_eq_false_iff, beq_iff_eq, beq_eq_false_iff_ne, ne_eq, Int.not_lt, Int.not_le, Decidable.not_not] at hc4); exact absurd hc4 (by decide)
 ·
  try simp only [decide_eq_true_eq, decide_eq_false_iff_not, Bool.not_eq_true', Bool.not_eq_false', Bool.not_eq_eq_eq_not, Bool.not_true, Bool.not_false, Bool.and_eq_true, Bool.or_eq_true, Bool.or_eq_false_iff, beq_iff_eq, beq_eq_false_iff_ne, ne_eq, Int.not_lt, Int.not_le, Decidable.not_not] at hc4
  refine g_skip ?_
  refine g_next hK1 ?_
  refine g_seq (fun K3 hK3 => ?_)
  refine g_region ?_
  refine g_step rfl (s_val (v_move rfl) rfl rfl ?_)
  refine g_step rfl (s_val (v_nilCheck rfl rfl) rfl rfl ?_)
  refine g_step rfl (s_val (by first | exact v_fieldAddr ty127 fo127_0 ty41 rfl | exact v_fieldAddr_box ty127 fo127_0 ty41 rfl) rfl rfl ?_)
  refine g_step rfl (s_val (by first | exact v_load ty41 rfl rfl (by first | rfl | assumption) (by first | assumption | exact map_get (by assumption) | rfl) rfl | exact v_load_box ty41 rfl rfl (by assumption) rfl) rfl rfl ?_)
  refine g_step rfl (s_val (v_len ty41 rfl (by first | rfl | assumption) (by first | exact List.length_map .. | rfl)) rfl rfl ?_)
  refine g_step rfl (s_val (v_assign rfl) rfl rfl ?_)
  refine g_nil ?_
  refine g_next hK3 ?_
  refine g_ret ?_
  refine g_end1 (.inl rfl) Try.results34 (.tmp rfl) [] (ASub.refl _) (AHeap.sub_refl _) (fun p hp => by cases hp) ⟨rfl, ?_⟩
  first | (simp; done) | (simp; rfl)

theorem take_ok (p : Nat) (ds : List Int) (G : AHeap) (hG : G p = some (.box (.agg [encI ds]))) : LCalls Try.prog 65 [.box p 0] G (· = p) (fun _ r effs => r = .int .i64 (ds.headD 0) ∧ effs = [(p, .box (.agg [encI ds.tail]))]) := by
 refine LCalls.intro 29 fi65 rfl Try.ntmps65 rfl (fun b hb => by subst hb; rw [hG]; simp) (fun H hH w0 hw0 => ?_)
 have hG1 := hH _ _ hG
 refine g_seq (fun K0 hK0 => ?_)
 refine g_region ?_
 refine g_step rfl (s_val (v_assign rfl) rfl rfl ?_)
 refine g_nil ?_
 refine g_next hK0 ?_
 refine g_seq (fun K1 hK1 => ?_)
 refine g_seq (fun K2 hK2 => ?_)
 refine g_region ?_
 refine g_step rfl (s_val (v_move rfl) rfl rfl ?_)
 refine g_step rfl (s_val (by first | exact v_ptr_eql_nil ty46 rfl rfl rfl | exact v_nil_eql_nil ty46 rfl rfl | exact v_ptrO_eql ty46 rfl rfl) rfl rfl ?_)
 refine g_step rfl (s_val (v_move rfl) rfl rfl ?_)
 refine g_split 6 rfl (fun hg6 => ?_) (fun hg6 => ?_)
 · exfalso; (try simp only [decide_eq_true_eq, decide_eq_false_iff_not, Bool.not_eq_true', Bool.not_eq_false', Bool.not_eq_eq_eq_not, Bool.not_true, Bool.not_false, Bool.and_eq_true, Bool.or_eq_true, Bool.or_eq_false_iff, beq_iff_eq, beq_eq_false_iff_ne, ne_eq, Int.not_lt, Int.not_le, Decidable.not_not] at hg6); exact absurd hg6 (by decide)
 ·
  try simp only [decide_eq_true_eq, decide_eq_false_iff_not, Bool.not_eq_true', Bool.not_eq_false', Bool.not_eq_eq_eq_not, Bool.not_true, Bool.not_false, Bool.and_eq_true, Bool.or_eq_true, Bool.or_eq_false_iff, beq_iff_eq, beq_eq_false_iff_ne, ne_eq, Int.not_lt, Int.not_le, Decidable.not_not] at hg6
  refine g_step_yes (j := 2) (t := 6) rfl rfl rfl rfl (s_val (v_move rfl) rfl rfl ?_)
  refine g_step_yes (j := 2) (t := 6) rfl rfl rfl rfl (s_val (v_nilCheck rfl rfl) rfl rfl ?_)
  refine g_step_yes (j := 2) (t := 6) rfl rfl rfl rfl (s_val (by first | exact v_fieldAddr ty127 fo127_0 ty41 rfl | exact v_fieldAddr_box ty127 fo127_0 ty41 rfl) rfl rfl ?_)
  refine g_step_yes (j := 2) (t := 6) rfl rfl rfl rfl (s_val (by first | exact v_load ty41 rfl rfl (by first | rfl | assumption) (by first | assumption | exact map_get (by assumption) | rfl) rfl | exact v_load_box ty41 rfl rfl (by assumption) rfl) rfl rfl ?_)
  refine g_step_yes (j := 2) (t := 6) rfl rfl rfl rfl (s_val (v_len ty41 rfl (by first | rfl | assumption) (by first | exact List.length_map .. | rfl)) rfl rfl ?_)
  refine g_step_yes (j := 2) (t := 6) rfl rfl rfl rfl (s_val (v_eql rfl rfl) rfl rfl ?_)
  refine g_step rfl (s_val (v_pick_f rfl rfl) rfl rfl ?_)
  refine g_nil ?_
  refine g_next hK2 ?_
  refine g_cond rfl (fun hc13 => ?_) (fun hc13 => ?_)
  ·
   try simp only [decide_eq_true_eq, decide_eq_false_iff_not, Bool.not_eq_true', Bool.not_eq_false', Bool.not_eq_eq_eq_not, Bool.not_true, Bool.not_false, Bool.and_eq_true, Bool.or_eq_true, Bool.or_eq_false_iff, beq_iff_eq, beq_eq_false_iff_ne, ne_eq, Int.not_lt, Int.not_le, Decidable.not_not] at hc13
   obtain rfl : ds = [] := List.length_eq_zero_iff.1 (by simpa using hc13)
   refine g_seq (fun K3 hK3 => ?_)
   refine g_region ?_
   refine g_step rfl (s_val (v_assign rfl) rfl rfl ?_)
   refine g_nil ?_
   refine g_next hK3 ?_
   refine g_ret ?_
   refine g_then_ret ?_
   refine g_end1 (.inl rfl) Try.results65 (.tmp rfl) [(p, .box (.agg [encI []]))] (ASub.refl _) (fun b y hb => by rw [show setAll H [(p, ARow.box (.agg [encI []]))] = H from AHeap.set_same _ _ _ hG1] at hb; exact hb) (fun q hq => .inl (by simp at hq; subst hq; rw [hG]; simp)) ⟨rfl, rfl⟩
  ·
   try simp only [decide_eq_true_eq, decide_eq_false_iff_not, Bool.not_eq_true', Bool.not_eq_false', Bool.not_eq_eq_eq_not, Bool.not_true, Bool.not_false, Bool.and_eq_true, Bool.or_eq_true, Bool.or_eq_false_iff, beq_iff_eq, beq_eq_false_iff_ne, ne_eq, Int.not_lt, Int.not_le, Decidable.not_not] at hc13
   obtain ⟨x, ds, rfl⟩ : ∃ x t, ds = x :: t := by cases ds with | nil => simp at hc13 | cons x t => exact ⟨x, t, rfl⟩
   refine g_skip ?_
   refine g_next hK1 ?_
   refine g_seq (fun K4 hK4 => ?_)
   refine g_region ?_
   refine g_step rfl (s_val (v_move rfl) rfl rfl ?_)
   refine g_step rfl (s_val (v_nilCheck rfl rfl) rfl rfl ?_)
   refine g_step rfl (s_val (by first | exact v_fieldAddr ty127 fo127_0 ty41 rfl | exact v_fieldAddr_box ty127 fo127_0 ty41 rfl) rfl rfl ?_)
   refine g_step rfl (s_val (by first | exact v_load ty41 rfl rfl (by first | rfl | assumption) (by first | assumption | exact map_get (by assumption) | rfl) rfl | exact v_load_box ty41 rfl rfl (by assumption) rfl) rfl rfl ?_)
   refine g_step rfl (s_val (v_indexAddr ty41 ty3 rfl rfl (by first | rfl | assumption) (by first | rfl | exact (rfl : (0 : Int) = ((0 : Nat) : Int)) | exact (Int.toNat_of_nonneg (by omega)).symm) (by first | assumption | exact map_get (by assumption) | rfl) rfl) rfl rfl ?_)
   refine g_step rfl (s_val (by first | exact v_load ty3 rfl rfl (by first | rfl | assumption) (by first | assumption | exact map_get (by assumption) | rfl) rfl | exact v_load_box ty3 rfl rfl (by assumption) rfl) rfl rfl ?_)
   refine g_step rfl (s_val (v_assign rfl) rfl rfl ?_)
   refine g_nil ?_
   refine g_next hK4 ?_
   refine g_seq (fun K5 hK5 => ?_)
   refine g_region ?_
   refine g_step rfl (s_val (v_move rfl) rfl rfl ?_)
   refine g_step rfl (s_val (v_move rfl) rfl rfl ?_)
   refine g_step rfl (s_val (v_nilCheck rfl rfl) rfl rfl ?_)
   refine g_step rfl (s_val (by first | exact v_fieldAddr ty127 fo127_0 ty41 rfl | exact v_fieldAddr_box ty127 fo127_0 ty41 rfl) rfl rfl ?_)
   refine g_step rfl (s_val (by first | exact v_load ty41 rfl rfl (by first | rfl | assumption) (by first | assumption | exact map_get (by assumption) | rfl) rfl | exact v_load_box ty41 rfl rfl (by assumption) rfl) rfl rfl ?_)
   refine g_step rfl (s_val (v_slice_imm (lo := 1) (hi := (ds.length + 1)) (m := ds.map (.int .i64)) ty41 ty3 rfl rfl rfl (by first | rfl | (exact (rfl : (0 : Int) = ((0 : Nat) : Int))) | omega | (simp <;> omega)) (by first | rfl | (exact (rfl : (0 : Int) = ((0 : Nat) : Int))) | omega | (simp <;> omega)) (by first | omega | (simp <;> omega)) (by first | omega | (simp <;> omega)) (by refine Even.map _ ?_ _; intro _; rfl) (by first | rfl | simp [List.take_of_length_le])) rfl rfl ?_)
   refine g_step rfl (s_val (v_nilCheck rfl rfl) rfl rfl ?_)
   refine g_step rfl (s_val (by first | exact v_fieldAddr ty127 fo127_0 ty41 rfl | exact v_fieldAddr_box ty127 fo127_0 ty41 rfl) rfl rfl ?_)
   refine g_step rfl (s_store_box (new := .agg [encI ds]) ty41 rfl rfl (by assumption) rfl rfl rfl rfl (.inl rfl) ?_)
   refine g_nil ?_
   refine g_next hK5 ?_
   first | refine g_keep [3] [] [] (keep_cons rfl keep_nil) lkeep_nil keep_nil rfl ?_ | refine g_keep [3] [] [] rfl rfl rfl rfl ?_
   refine g_seq (fun K6 hK6 => ?_)
   refine g_region ?_
   refine g_step rfl (s_val (v_move rfl) rfl rfl ?_)
   refine g_step rfl (s_val (v_assign rfl) rfl rfl ?_)
   refine g_nil ?_
   refine g_next hK6 ?_
   refine g_ret ?_
   refine g_end1 (.inl rfl) Try.results65 (.tmp rfl) [(p, .box (.agg [encI ds]))] (ASub.refl _) (AHeap.sub_refl _) (fun q hq => .inl (by simp at hq; subst hq; rw [hG]; simp)) ⟨rfl, rfl⟩

theorem next_ok (p : Nat) (ds : List Int) (n : Int) (G : AHeap) (hG : G p = some (.box (.agg [encI ds]))) (hn2 : n ≤ 9223372036854775807) : LCalls Try.prog 29 [.box p 0, .int .i64 n] G (· = p) (fun _ r effs => r = .int .i64 (dNext ds n) ∧ effs = [(p, .box (.agg [encI (dRest ds n)]))]) := by
 refine LCalls.intro 18 fi29 rfl Try.ntmps29 rfl (fun b hb => by subst hb; rw [hG]; simp) (fun H hH w0 hw0 => ?_)
 have hG1 := hH _ _ hG
 refine g_seq (fun K0 hK0 => ?_)
 refine g_region ?_
 refine g_step rfl (s_val (v_assign rfl) rfl rfl ?_)
 refine g_nil ?_
 refine g_next hK0 ?_
 refine g_seq (fun K1 hK1 => ?_)
 refine g_seq (fun K2 hK2 => ?_)
 refine g_region ?_
 refine g_step rfl (s_val (v_move rfl) rfl rfl ?_)
 refine g_step rfl (s_val (v_lss rfl rfl) rfl rfl ?_)
 refine g_nil ?_
 refine g_next hK2 ?_
 refine g_cond rfl (fun hc7 => ?_) (fun hc7 => ?_)
 ·
  try simp only [decide_eq_true_eq, decide_eq_false_iff_not, Bool.not_eq_true', Bool.not_eq_false', Bool.not_eq_eq_eq_not, Bool.not_true, Bool.not_false, Bool.and_eq_true, Bool.or_eq_true, Bool.or_eq_false_iff, beq_iff_eq, beq_eq_false_iff_ne, ne_eq, Int.not_lt, Int.not_le, Decidable.not_not] at hc7
  refine g_seq (fun K3 hK3 => ?_)
  refine g_region ?_
  refine g_step rfl (s_val (v_assign rfl) rfl rfl ?_)
  refine g_nil ?_
  refine g_next hK3 ?_
  refine g_ret ?_
  refine g_then_ret ?_
  refine g_end1 (.inl rfl) Try.results29 (.tmp rfl) [(p, .box (.agg [encI (dRest ds n)]))] (ASub.refl _) (fun b y hb => by rw [show setAll H [(p, ARow.box (.agg [encI (dRest ds n)]))] = H from AHeap.set_same _ _ _ (by rw [dRest, if_pos hc7]; exact hG1)] at hb; exact hb) (fun q hq => .inl (by simp at hq; subst hq; rw [hG]; simp)) ⟨by rw [dNext, if_pos hc7]; rfl, rfl⟩
 ·
  try simp only [decide_eq_true_eq, decide_eq_false_iff_not, Bool.not_eq_true', Bool.not_eq_false', Bool.not_eq_eq_eq_not, Bool.not_true, Bool.not_false, Bool.and_eq_true, Bool.or_eq_true, Bool.or_eq_false_iff, beq_iff_eq, beq_eq_false_iff_ne, ne_eq, Int.not_lt, Int.not_le, Decidable.not_not] at hc7
  have htm := tmod_range (ds.headD 0) n (by omega)
  refine g_skip ?_
  refine g_next hK1 ?_
  refine g_seq (fun K4 hK4 => ?_)
  refine g_region ?_
  refine g_step rfl (s_val (v_move rfl) rfl rfl ?_)
  refine g_step rfl (s_call rfl rfl rfl (take_ok _ _ _ (by assumption)) (fun b hb => .inl hb) ?_)
  rintro n1 r1 effs1 hn1 hdom1 ⟨rfl, rfl⟩ hok1
  refine g_step rfl (s_val (v_move rfl) rfl rfl ?_)
  refine g_step rfl (s_val (v_rem rfl rfl (by omega)) rfl rfl ?_)
  refine g_step rfl (s_val (v_assign rfl) rfl rfl ?_)
  refine g_nil ?_
  refine g_next hK4 ?_
  refine g_seq (fun K5 hK5 => ?_)
  refine g_seq (fun K6 hK6 => ?_)
  refine g_region ?_
  refine g_step rfl (s_val (v_move rfl) rfl rfl ?_)
  refine g_step rfl (s_val (v_lss rfl rfl) rfl rfl ?_)
  refine g_nil ?_
  refine g_next hK6 ?_
  refine g_cond rfl (fun hc13 => ?_) (fun hc13 => ?_)
  ·
   try simp only [decide_eq_true_eq, decide_eq_false_iff_not, Bool.not_eq_true', Bool.not_eq_false', Bool.not_eq_eq_eq_not, Bool.not_true, Bool.not_false, Bool.and_eq_true, Bool.or_eq_true, Bool.or_eq_false_iff, beq_iff_eq, beq_eq_false_iff_ne, ne_eq, Int.not_lt, Int.not_le, Decidable.not_not] at hc13
   refine g_region ?_
   refine g_step rfl (s_val (v_move rfl) rfl rfl ?_)
   refine g_step rfl (s_val (v_move rfl) rfl rfl ?_)
   refine g_step rfl (s_val (v_add rfl rfl (by omega)) rfl rfl ?_)
   refine g_step rfl (s_val (v_assign rfl) rfl rfl ?_)
   refine g_nil ?_
   refine g_next hK5 ?_
   refine g_seq (fun K7 hK7 => ?_)
   refine g_region ?_
   refine g_step rfl (s_val (v_move rfl) rfl rfl ?_)
   refine g_step rfl (s_val (v_assign rfl) rfl rfl ?_)
   refine g_nil ?_
   refine g_next hK7 ?_
   refine g_ret ?_
   refine g_end1 (.inl rfl) Try.results29 (.tmp rfl) [(p, .box (.agg [encI (dRest ds n)]))] (ASub.refl _) (by rw [dRest, if_neg (by omega)]; exact AHeap.sub_refl _) (fun q hq => .inl (by simp at hq; subst hq; rw [hG]; simp)) ⟨by first | (rw [dNext, if_neg (by omega), lowI, if_pos hc13]) | (rw [dNext, if_neg (by omega), lowI, if_neg (by omega)]), rfl⟩
  ·
   try simp only [decide_eq_true_eq, decide_eq_false_iff_not, Bool.not_eq_true', Bool.not_eq_false', Bool.not_eq_eq_eq_not, Bool.not_true, Bool.not_false, Bool.and_eq_true, Bool.or_eq_true, Bool.or_eq_false_iff, beq_iff_eq, beq_eq_false_iff_ne, ne_eq, Int.not_lt, Int.not_le, Decidable.not_not] at hc13
   refine g_skip ?_
   refine g_next hK5 ?_
   refine g_seq (fun K8 hK8 => ?_)
   refine g_region ?_
   refine g_step rfl (s_val (v_move rfl) rfl rfl ?_)
   refine g_step rfl (s_val (v_assign rfl) rfl rfl ?_)
   refine g_nil ?_
   refine g_next hK8 ?_
   refine g_ret ?_
   refine g_end1 (.inl rfl) Try.results29 (.tmp rfl) [(p, .box (.agg [encI (dRest ds n)]))] (ASub.refl _) (by rw [dRest, if_neg (by omega)]; exact AHeap.sub_refl _) (fun q hq => .inl (by simp at hq; subst hq; rw [hG]; simp)) ⟨by first | (rw [dNext, if_neg (by omega), lowI, if_pos hc13]) | (rw [dNext, if_neg (by omega), lowI, if_neg (by omega)]), rfl⟩

theorem new_ok (l : List Int) (va : AV) (G : AHeap) (hv : va.view G = some (l.map (.int .i64))) (hl : l.length ≤ 1000000) : LCalls Try.prog 23 [va] G noD (fun n r effs => ∃ p, n ≤ p ∧ r = .box p 0 ∧ effs = [(p, .box (.agg [encI l]))]) := by
 refine LCalls.intro 7 fi23 rfl Try.ntmps23 rfl (fun _ h => h.elim) (fun H hH w0 hw0 => ?_)
 have hv := view_sub hH hv
 refine g_seq (fun K0 hK0 => ?_)
 refine g_region ?_
 refine g_step rfl (s_val (v_assign rfl) rfl rfl ?_)
 refine g_nil ?_
 refine g_next hK0 ?_
 refine g_seq (fun K1 hK1 => ?_)
 refine g_region ?_
 refine g_step rfl (s_val (v_move rfl) rfl rfl ?_)
 refine g_step rfl (s_append (l := _) (m := _) ty41 ty3 rfl rfl (Own.nil ..) rfl (by first | rfl | assumption) (by refine Even.map _ ?_ _; intro _; rfl) (by intro x hx; obtain ⟨_, _, rfl⟩ := List.mem_map.1 hx; rfl) rfl (by simp; omega) (by simp; omega) ?_)
 intro av4 G4 hown4
 refine g_freeze 4 rfl hown4 ?_
 refine g_step rfl (s_val (v_build (vs := [(0, _)]) (zs := [.nil0]) (cells := [_]) ty127 pl127 rfl rfl rfl) rfl rfl ?_)
 refine g_step rfl (s_box rfl rfl rfl rfl ?_)
 refine g_expose 6 rfl rfl (fun r6 hr6 hw6 => ?_)
 refine g_step rfl (s_val (v_assign rfl) rfl rfl ?_)
 refine g_nil ?_
 refine g_next hK1 ?_
 refine g_ret ?_
 refine g_end1 (.inl rfl) Try.results23 (.tmp rfl) [(r6, .box (.agg [encI l]))] (ASub.refl _) (AHeap.sub_refl _) (fun q hq => .inr (by simp at hq; subst hq; exact hw6)) ⟨r6, hw6, rfl, rfl⟩

theorem change_ok (r n : Nat) (l : List Int) (i k : Nat) (zi zk : Int) (G : AHeap) (hG : G r = some (.row 1 (l.map (.int .i64)))) (hn : n = l.length) (hi : i < l.length) (hk : k < l.length) (hzi : zi = (i : Int)) (hzk : zk = (k : Int)) : LCalls Try.prog 66 [.own r 1 0 n, .int .i64 zi, .int .i64 zk] G (· = r) (fun _ v effs => v = .tup [] ∧ effs = [(r, .row 1 ((swp l i k).map (.int .i64)))]) := by
 refine LCalls.intro 20 fi66 rfl Try.ntmps66 rfl (fun b hb => by subst hb; rw [hG]; simp) (fun H hH w0 hw0 => ?_)
 subst hn hzi hzk
 have hG1 := hH _ _ hG
 have hvw := view_row hG1 (n := l.length) (by simp)
 have hgi := map_get (f := AV.int .i64) (List.getElem?_eq_getElem hi)
 have hgk := map_get (f := AV.int .i64) (List.getElem?_eq_getElem hk)
 obtain ⟨z, hz1, hz2⟩ := swp_mid l i k hk
 refine g_draw (n := 16) (fun j => !([13, 15] : List Nat).contains j) rfl rfl ?_
 refine m_take 0 false rfl rfl (by kernel_rfl) (by kernel_rfl) (by kernel_rfl) (fun _ _ _ _ h => h) (v_move rfl) rfl rfl ?_
 refine m_take 1 false rfl rfl (by kernel_rfl) (by kernel_rfl) (by kernel_rfl) (fun _ _ _ _ h => h) (v_move rfl) rfl rfl ?_
 refine m_take 2 false rfl rfl (by kernel_rfl) (by kernel_rfl) (by kernel_rfl) (fun _ _ _ _ h => h) (v_move rfl) rfl rfl ?_
 refine m_take 3 false rfl rfl (by kernel_rfl) (by kernel_rfl) (by kernel_rfl) (fun _ _ _ _ h => h) (v_move rfl) rfl rfl ?_
 refine m_take 4 false rfl rfl (by kernel_rfl) (by kernel_rfl) (by kernel_rfl) (fun _ _ _ _ h => h) (v_move rfl) rfl rfl ?_
 refine m_take 5 false rfl rfl (by kernel_rfl) (by kernel_rfl) (by kernel_rfl) (fun _ _ _ _ h => h) (v_move rfl) rfl rfl ?_
 refine m_take 6 false rfl rfl (by kernel_rfl) (by kernel_rfl) (by kernel_rfl) (fun _ _ _ _ h => h) (v_indexAddr ty41 ty3 rfl rfl (by first | rfl | assumption) (by first | rfl | exact (rfl : (0 : Int) = ((0 : Nat) : Int)) | exact (Int.toNat_of_nonneg (by omega)).symm) (by first | assumption | exact map_get (by assumption) | rfl) rfl) rfl rfl ?_
 refine m_take 7 true rfl rfl (by kernel_rfl) (by kernel_rfl) (by kernel_rfl) (fun _ _ _ _ h => h) (by first | exact v_load ty3 rfl rfl (by first | rfl | assumption) (by first | assumption | exact map_get (by assumption) | rfl) rfl | exact v_load_box ty3 rfl rfl (by assumption) rfl) rfl rfl ?_
 refine m_take 8 false rfl rfl (by kernel_rfl) (by kernel_rfl) (by kernel_rfl) (fun _ _ _ _ h => h) (v_move rfl) rfl rfl ?_
 refine m_take 9 false rfl rfl (by kernel_rfl) (by kernel_rfl) (by kernel_rfl) (fun _ _ _ _ h => h) (v_move rfl) rfl rfl ?_
 refine m_take 10 false rfl rfl (by kernel_rfl) (by kernel_rfl) (by kernel_rfl) (fun _ _ _ _ h => h) (v_indexAddr ty41 ty3 rfl rfl (by first | rfl | assumption) (by first | rfl | exact (rfl : (0 : Int) = ((0 : Nat) : Int)) | exact (Int.toNat_of_nonneg (by omega)).symm) (by first | assumption | exact map_get (by assumption) | rfl) rfl) rfl rfl ?_
 refine m_take 11 true rfl rfl (by kernel_rfl) (by kernel_rfl) (by kernel_rfl) (fun _ _ _ _ h => h) (by first | exact v_load ty3 rfl rfl (by first | rfl | assumption) (by first | assumption | exact map_get (by assumption) | rfl) rfl | exact v_load_box ty3 rfl rfl (by assumption) rfl) rfl rfl ?_
 refine m_take 12 false rfl rfl (by kernel_rfl) (by kernel_rfl) (by kernel_rfl) (fun _ _ _ _ h => h) (v_indexAddr ty41 ty3 rfl rfl hvw (by first | rfl | exact (rfl : (0 : Int) = ((0 : Nat) : Int)) | exact (Int.toNat_of_nonneg (by omega)).symm) hgi rfl) rfl rfl ?_
 refine m_one 13 (by kernel_rfl) rfl rfl ?_
 refine sm_any rfl (s_store_row (k := i) (off := 0) (old := .int .i64 (l[i]'hi)) (new := .int .i64 (l[k]'hk)) ty3 rfl rfl hG1 (by simp) rfl rfl rfl rfl (.inl rfl) ?_)
 refine m_take 14 false rfl rfl (by kernel_rfl) (by kernel_rfl) (by kernel_rfl) (fun _ _ _ _ h => h) (v_indexAddr ty41 ty3 rfl rfl (view_row (AHeap.get_set _ _ _) (by simp)) (by first | rfl | exact (rfl : (0 : Int) = ((0 : Nat) : Int)) | exact (Int.toNat_of_nonneg (by omega)).symm) hz2 rfl) rfl rfl ?_
 refine m_one 15 (by kernel_rfl) rfl rfl ?_
 refine sm_any rfl (s_store_row (k := k) (off := 0) (old := _) (new := .int .i64 (l[i]'hi)) ty3 rfl rfl (AHeap.get_set _ _ _) hz1 rfl rfl rfl rfl (.inl rfl) ?_)
 refine m_done (by kernel_rfl) ?_
 refine g_end0 (.inr rfl) Try.results66  [(r, .row 1 ((swp l i k).map (.int .i64)))]  (by rw [AHeap.set_set, swp_row l i k hi hk]; exact AHeap.sub_refl _) (fun q hq => .inl (by simp at hq; subst hq; rw [hG]; simp)) ⟨rfl, rfl⟩

theorem shuffle_ok (p : Nat) (ds l : List Int) (va : AV) (G : AHeap) (hG : G p = some (.box (.agg [encI ds]))) (hv : va.view G = some (l.map (.int .i64))) (hl : l.length ≤ 1000000) : LCalls Try.prog 30 [.box p 0, va] G (· = p) (fun n v effs => ∃ e, OwnR n 1 v ((shuffled l ds).map (.int .i64)) e ∧ effs = e ++ [(p, .box (.agg [encI (shufRest l ds)]))]) := by
 refine LCalls.intro 24 fi30 rfl Try.ntmps30 rfl (fun b hb => by subst hb; rw [hG]; simp) (fun H hH w0 hw0 => ?_)
 have hG1 := hH _ _ hG
 have hv := view_sub hH hv
 refine g_seq (fun K0 hK0 => ?_)
 refine g_region ?_
 refine g_step rfl (s_val (v_assign rfl) rfl rfl ?_)
 refine g_nil ?_
 refine g_next hK0 ?_
 refine g_seq (fun K1 hK1 => ?_)
 refine g_region ?_
 refine g_step rfl (s_val (v_move rfl) rfl rfl ?_)
 refine g_step rfl (s_append (l := _) (m := _) ty41 ty3 rfl rfl (Own.nil ..) rfl (by first | rfl | assumption) (by refine Even.map _ ?_ _; intro _; rfl) (by intro x hx; obtain ⟨_, _, rfl⟩ := List.mem_map.1 hx; rfl) rfl (by simp; omega) (by simp; omega) ?_)
 intro av8 G8 hown8
 refine g_step rfl (s_val (v_assign rfl) rfl rfl ?_)
 refine g_nil ?_
 refine g_next hK1 ?_
 refine g_seq (fun K2 hK2 => ?_)
 refine g_seq (fun K3 hK3 => ?_)
 refine g_region ?_
 refine g_step rfl (s_val (v_move rfl) rfl rfl ?_)
 refine g_step rfl (s_val (v_len ty41 rfl (Own.view hown8) (by simp; rfl)) rfl rfl ?_)
 refine g_step rfl (s_val (v_sub_ rfl rfl (by omega)) rfl rfl ?_)
 refine g_step rfl (s_val (v_assign rfl) rfl rfl ?_)
 refine g_nil ?_
 refine g_next hK3 ?_
 refine g_block ?_
 first | refine g_keep [0, 5, 6] [] [] (keep_cons rfl (keep_cons rfl (keep_cons rfl keep_nil))) lkeep_nil keep_nil rfl ?_ | refine g_keep [0, 5, 6] [] [] rfl rfl rfl rfl ?_
 refine g_loop (fun n env L B G => ∃ (i : Nat) (z : Int) (out ds' : List Int) (av : AV), i = n ∧ out.length = l.length ∧ ((z = (i:Int) ∧ i < out.length) ∨ (z = -1 ∧ i = 0 ∧ out = [])) ∧ env = [(0, .box p 0), (5, av), (6, .int .i64 z)] ∧ L = [] ∧ B = [] ∧ Own w0.heap.size 1 (H.set p (.box (.agg [encI ds']))) av (out.map (.int .i64)) G ∧ shuf i out ds' = shuf (l.length - 1) l ds) (l.length - 1) ⟨l.length - 1, _, l, ds, av8, rfl, rfl, by rcases l with _ | ⟨x, t⟩ <;> simp, rfl, rfl, rfl, by rw [AHeap.set_same _ _ _ hG1]; exact hown8, rfl⟩ (fun n env L B G hI => ?_)
 obtain ⟨i, z, out, ds', av, rfl, hlen, hz, rfl, rfl, rfl, hown, hsh⟩ := hI
 refine g_seq (fun K4 hK4 => ?_)
 refine g_seq (fun K5 hK5 => ?_)
 refine g_region ?_
 refine g_step rfl (s_val (v_move rfl) rfl rfl ?_)
 refine g_step rfl (s_val (v_gtr rfl rfl) rfl rfl ?_)
 refine g_nil ?_
 refine g_next hK5 ?_
 refine g_cond rfl (fun hc13 => ?_) (fun hc13 => ?_)
 ·
  try simp only [decide_eq_true_eq, decide_eq_false_iff_not, Bool.not_eq_true', Bool.not_eq_false', Bool.not_eq_eq_eq_not, Bool.not_true, Bool.not_false, Bool.and_eq_true, Bool.or_eq_true, Bool.or_eq_false_iff, beq_iff_eq, beq_eq_false_iff_ne, ne_eq, Int.not_lt, Int.not_le, Decidable.not_not] at hc13
  obtain ⟨rfl, hi⟩ := hz.resolve_right (by omega)
  obtain ⟨j, rfl⟩ : ∃ j, i = j + 1 := ⟨i - 1, by omega⟩
  obtain ⟨r, hr1, hr2, rfl, rfl⟩ := hown.resolve_left (by rintro ⟨_, h0, _⟩; have he : out = [] := (by simpa using h0); subst he; simp at hi)
  have hrp : r ≠ p := fun e => by subst e; rw [AHeap.get_set] at hr1; cases hr1
  have hGp : ((H.set p (.box (.agg [encI ds']))).set r (.row 1 (out.map (.int .i64)))) p = some (.box (.agg [encI ds'])) := by rw [AHeap.get_set_ne _ _ (Ne.symm hrp), AHeap.get_set]
  have hlow := lowI_range (ds'.headD 0) ((j : Int) + 2) (by omega)
  refine g_skip ?_
  refine g_next hK4 ?_
  refine g_seq (fun K6 hK6 => ?_)
  refine g_block ?_
  refine g_region ?_
  refine g_step rfl (s_val (v_move rfl) rfl rfl ?_)
  refine g_step rfl (s_val (v_move rfl) rfl rfl ?_)
  refine g_step rfl (s_val (v_move rfl) rfl rfl ?_)
  refine g_step rfl (s_val (v_move rfl) rfl rfl ?_)
  refine g_step rfl (s_val (v_add rfl rfl (by omega)) rfl rfl ?_)
  refine g_step rfl (s_call rfl rfl rfl (next_ok p ds' (((j + 1 : Nat) : Int) + 1) _ hGp (by omega)) (fun b hb => .inl hb) ?_)
  rintro n1 r1 effs1 hn1 hdom1 ⟨rfl, rfl⟩ hok1
  rw [show setAll ((H.set p (.box (.agg [encI ds']))).set r (.row 1 (out.map (.int .i64)))) [(p, .box (.agg [encI (dRest ds' (((j + 1 : Nat) : Int) + 1))]))] = (H.set p (.box (.agg [encI ds'.tail]))).set r (.row 1 (out.map (.int .i64))) by rw [dRest_pos _ (by omega)]; exact set_three hrp]
  have hGr : ((H.set p (.box (.agg [encI ds'.tail]))).set r (.row 1 (out.map (.int .i64)))) r = some (.row 1 (out.map (.int .i64))) := AHeap.get_set _ _ _
  refine g_step rfl (s_call rfl rfl rfl (change_ok r _ out (j + 1) (lowI (ds'.headD 0) ((j : Int) + 2)).toNat _ _ _ hGr (by simp) (by omega) (by omega) rfl (by rw [dNext_pos _ (by omega), show (((j + 1 : Nat) : Int) + 1) = (j : Int) + 2 by omega]; omega)) (fun b hb => .inr (by subst hb; exact hr2)) ?_)
  rintro n2 r2 effs2 hn2 hdom2 ⟨rfl, rfl⟩ hok2
  rw [show setAll ((H.set p (.box (.agg [encI ds'.tail]))).set r (.row 1 (out.map (.int .i64)))) [(r, .row 1 ((swp out (j + 1) (lowI (ds'.headD 0) ((j : Int) + 2)).toNat).map (.int .i64)))] = (H.set p (.box (.agg [encI ds'.tail]))).set r (.row 1 ((swp out (j + 1) (lowI (ds'.headD 0) ((j : Int) + 2)).toNat).map (.int .i64))) by exact AHeap.set_set _ _ _ _]
  have hrn : (H.set p (.box (.agg [encI ds'.tail]))) r = none := by rw [AHeap.get_set_ne _ _ hrp] at hr1 ⊢; exact hr1
  refine g_nil ?_
  refine g_block_normal ?_
  refine g_next hK6 ?_
  refine g_region ?_
  refine g_step rfl (s_val (v_move rfl) rfl rfl ?_)
  refine g_step rfl (s_val (v_sub_ rfl rfl (by omega)) rfl rfl ?_)
  refine g_step rfl (s_val (v_assign rfl) rfl rfl ?_)
  refine g_nil ?_
  first | refine g_keep [0, 5, 6] [] [] (keep_cons rfl (keep_cons rfl (keep_cons rfl keep_nil))) lkeep_nil keep_nil rfl ?_ | refine g_keep [0, 5, 6] [] [] rfl rfl rfl rfl ?_
  exact g_round _ (by omega) ⟨j, _, swp out (j + 1) (lowI (ds'.headD 0) ((j : Int) + 2)).toNat, ds'.tail, _, rfl, by rw [swp_length]; exact hlen, .inl ⟨by omega, by rw [swp_length]; omega⟩, rfl, rfl, rfl, .inr ⟨r, hrn, hr2, by simp [swp_length], rfl⟩, hsh⟩
 ·
  try simp only [decide_eq_true_eq, decide_eq_false_iff_not, Bool.not_eq_true', Bool.not_eq_false', Bool.not_eq_eq_eq_not, Bool.not_true, Bool.not_false, Bool.and_eq_true, Bool.or_eq_true, Bool.or_eq_false_iff, beq_iff_eq, beq_eq_false_iff_ne, ne_eq, Int.not_lt, Int.not_le, Decidable.not_not] at hc13
  obtain rfl : i = 0 := by omega
  obtain ⟨e, he1, he2, he3⟩ := hown.effs
  simp only [shuf] at hsh
  refine g_exit ?_
  refine g_then_exit ?_
  refine g_then_exit ?_
  refine g_block_same ?_
  refine g_next hK2 ?_
  refine g_seq (fun K7 hK7 => ?_)
  refine g_region ?_
  refine g_step rfl (s_val (v_move rfl) rfl rfl ?_)
  refine g_step rfl (s_val (v_assign rfl) rfl rfl ?_)
  refine g_nil ?_
  refine g_next hK7 ?_
  refine g_ret ?_
  refine g_end1 (.inl rfl) Try.results30 (.tmp rfl) (e ++ [(p, .box (.agg [encI ds']))]) (ASub.refl _) (by rw [setAll_append]; show AHeap.sub (setAll (H.set p _) e) _; rw [he3]; exact AHeap.sub_refl _) (fun q hq => (List.mem_append.1 hq).elim (fun h => .inr (he2 q h)) (fun h => .inl (by simp at h; subst h; rw [hG]; simp))) ⟨e, by rw [shuffled, ← hsh]; exact he1, by rw [shufRest, ← hsh]⟩

end Go.Proofs.Ytobigfbgaiglkaa

import Derived.Test.YtobigfbgaiglkaaRingS
import Derived.Test.YtobigfbgaiglkaaDice
import Derived.Test.YtobigfbgaiglkaaPRing2
set_option maxHeartbeats 8000000
set_option linter.unusedSimpArgs false
set_option linter.unusedVariables false
set_option maxRecDepth 100000
namespace Go.Proofs.Ytobigfbgaiglkaa
open Go Go.Proofs.Ytobigfbgaiglkaa.AM
theorem ringNew_ok (G : AHeap) : LCalls Try.prog 22 [] G noD (fun n v effs => ∃ p, n ≤ p ∧ v = .box p 0 ∧ effs = [(p, .box (.agg [.nil0, .nil0]))]) := by
 refine LCalls.intro 3 fi22 rfl Try.ntmps22 rfl (fun _ h => h.elim) (fun H hH w0 hw0 => ?_)
 refine g_seq (fun K0 hK0 => ?_)
 refine g_region ?_
 refine g_step rfl (s_val (v_assign rfl) rfl rfl ?_)
 refine g_nil ?_
 refine g_next hK0 ?_
 refine g_seq (fun K1 hK1 => ?_)
 refine g_region ?_
 refine g_step rfl (s_val (v_build (vs := []) (zs := [.nil0, .nil0]) (cells := [_, _]) ty125 pl125 rfl rfl rfl) rfl rfl ?_)
 refine g_step rfl (s_box rfl rfl rfl rfl ?_)
 refine g_expose 2 rfl rfl (fun r2 hr2 hw2 => ?_)
 refine g_step rfl (s_val (v_assign rfl) rfl rfl ?_)
 refine g_nil ?_
 refine g_next hK1 ?_
 refine g_ret ?_
 refine g_end1 (.inl rfl) Try.results22 (.tmp rfl) [(r2, .box (.agg [.nil0, .nil0]))] (ASub.refl _) (AHeap.sub_refl _) (fun q hq => .inr (by simp at hq; subst hq; exact hw2)) ⟨r2, hw2, rfl, rfl⟩

theorem gone_ok (b : Nat) (all : List Int) (x : Int) (G : AHeap) (hG : G b = some (.box (.imm (all.map (.int .i64))))) (hs : all.Pairwise (· < ·)) (hl : all.length ≤ 100000) : PCalls Try.prog 59 [.int .i64 x, .box b 0] G (fun v => v = .bool (!decide (x ∈ all))) := by
 refine LCalls.intro 14 fi59 rfl Try.ntmps59 rfl (fun _ h => h.elim) (fun H hH w0 hw0 => ?_)
 have hG := hH _ _ hG
 refine g_seq (fun K0 hK0 => ?_)
 refine g_region ?_
 refine g_step rfl (s_val (v_assign rfl) rfl rfl ?_)
 refine g_nil ?_
 refine g_next hK0 ?_
 refine g_seq (fun K1 hK1 => ?_)
 refine g_region ?_
 refine g_step rfl (s_val (by first | exact v_load ty41 rfl rfl (by first | rfl | assumption) (by first | assumption | exact map_get (by assumption) | rfl) rfl | exact v_load_box ty41 rfl rfl (by assumption) rfl) rfl rfl ?_)
 refine g_step rfl (s_val (v_move rfl) rfl rfl ?_)
 refine g_step rfl (s_callp rfl rfl rfl (bs_ok all x _ _ rfl (by omega) hs) ?_)
 rintro _ ⟨i, rfl⟩
 refine g_step rfl (s_val (v_move rfl) rfl rfl ?_)
 refine g_step rfl (s_val (v_extract rfl rfl) rfl rfl ?_)
 refine g_step rfl (s_val (v_extract rfl rfl) rfl rfl ?_)
 refine g_step rfl (s_val (v_assign rfl) rfl rfl ?_)
 refine g_step rfl (s_val (v_assign rfl) rfl rfl ?_)
 refine g_nil ?_
 refine g_next hK1 ?_
 refine g_seq (fun K2 hK2 => ?_)
 refine g_region ?_
 refine g_step rfl (s_val (v_move rfl) rfl rfl ?_)
 refine g_step rfl (s_val (v_not rfl) rfl rfl ?_)
 refine g_step rfl (s_val (v_assign rfl) rfl rfl ?_)
 refine g_nil ?_
 refine g_next hK2 ?_
 refine g_ret ?_
 refine g_end1 (.inl rfl) Try.results59 (.tmp rfl) [] (ASub.refl _) (AHeap.sub_refl _) (fun p hp => by cases hp) ⟨rfl, ?_⟩
 rfl

theorem rLeft_okO (h : AHeap) (p q : Nat) (s : Rg) (G : AHeap) (hI : RIs h p q s) (hG : h.sub G) (hl : s.left.length ≤ 100000) : LCalls Try.prog 32 [.box p 0] G noD (fun n v effs => OwnR n 1 v (s.left.map (.int .i64)) effs) := by
 refine LCalls.intro 10 fi32 rfl Try.ntmps32 rfl (fun _ h => h.elim) (fun H hH w0 hw0 => ?_)
 obtain ⟨al, ad, hR⟩ := hI
 have hhH := AHeap.sub_trans hG hH
 have hp := hhH _ _ hR.pp
 refine g_seq (fun K0 hK0 => ?_)
 refine g_region ?_
 refine g_step rfl (s_val (v_assign rfl) rfl rfl ?_)
 refine g_nil ?_
 refine g_next hK0 ?_
 refine g_seq (fun K1 hK1 => ?_)
 refine g_seq (fun K2 hK2 => ?_)
 refine g_region ?_
 refine g_step rfl (s_val (v_move rfl) rfl rfl ?_)
 refine g_step rfl (s_val (by first | exact v_ptr_eql_nil ty44 rfl rfl rfl | exact v_nil_eql_nil ty44 rfl rfl | exact v_ptrO_eql ty44 rfl rfl) rfl rfl ?_)
 refine g_nil ?_
 refine g_next hK2 ?_
 refine g_cond rfl (fun hc4 => ?_) (fun hc4 => ?_)
 · exfalso; (try simp only [decide_eq_true_eq, decide_eq_false_iff_not, Bool.not_eq_true', Bool.not_eq_false', Bool.not_eq_eq_eq_not, Bool.not_true, Bool.not_false, Bool.and_eq_true, Bool.or_eq_true, Bool.or_eq_false_iff, beq_iff_eq, beq_eq_false_iff_ne, ne_eq, Int.not_lt, Int.not_le, Decidable.not_not] at hc4); simp at hc4
 ·
  try simp only [decide_eq_true_eq, decide_eq_false_iff_not, Bool.not_eq_true', Bool.not_eq_false', Bool.not_eq_eq_eq_not, Bool.not_true, Bool.not_false, Bool.and_eq_true, Bool.or_eq_true, Bool.or_eq_false_iff, beq_iff_eq, beq_eq_false_iff_ne, ne_eq, Int.not_lt, Int.not_le, Decidable.not_not] at hc4
  refine g_skip ?_
  refine g_next hK1 ?_
  refine g_seq (fun K3 hK3 => ?_)
  refine g_region ?_
  refine g_step rfl (s_val (v_move rfl) rfl rfl ?_)
  refine g_step rfl (s_val (v_nilCheck rfl rfl) rfl rfl ?_)
  refine g_step rfl (s_val (by first | exact v_fieldAddr ty125 fo125_0 ty41 rfl | exact v_fieldAddr_box ty125 fo125_0 ty41 rfl) rfl rfl ?_)
  refine g_step rfl (s_val (by first | exact v_load ty41 rfl rfl (by first | rfl | assumption) (by first | assumption | exact map_get (by assumption) | rfl) rfl | exact v_load_box ty41 rfl rfl (by assumption) rfl) rfl rfl ?_)
  refine g_step rfl (s_call rfl rfl rfl (clone_ok s.left _ _ (hR.lv.mono hhH).view (by omega)) (fun _ h => h.elim) ?_)
  rintro n5 v5 effs5 hn5 hdom5 hR5 hok5
  obtain ⟨e, he1, he2, he3⟩ := (hR5.own hn5 hdom5).effs
  refine g_step rfl (s_val (v_assign rfl) rfl rfl ?_)
  refine g_nil ?_
  refine g_next hK3 ?_
  refine g_ret ?_
  refine g_end1 (.inl rfl) Try.results32 (.tmp rfl) e (ASub.refl _) (by rw [he3]; exact AHeap.sub_refl _) (fun q hq => .inr (he2 q hq)) he1

theorem rLeft_ok (h : AHeap) (p q : Nat) (s : Rg) (G : AHeap) (hI : RIs h p q s) (hG : h.sub G) (hl : s.left.length ≤ 100000) : PCalls Try.prog 32 [.box p 0] G (fun v => v = .imm (s.left.map (.int .i64))) := LCalls.freeze (rLeft_okO h p q s G hI hG hl)
theorem rDone_okO (h : AHeap) (p q : Nat) (s : Rg) (G : AHeap) (hI : RIs h p q s) (hG : h.sub G) (hl : s.done.length ≤ 100000) : LCalls Try.prog 33 [.box p 0] G noD (fun n v effs => OwnR n 1 v (s.done.map (.int .i64)) effs) := by
 refine LCalls.intro 10 fi33 rfl Try.ntmps33 rfl (fun _ h => h.elim) (fun H hH w0 hw0 => ?_)
 obtain ⟨al, ad, hR⟩ := hI
 have hhH := AHeap.sub_trans hG hH
 have hp := hhH _ _ hR.pp
 refine g_seq (fun K0 hK0 => ?_)
 refine g_region ?_
 refine g_step rfl (s_val (v_assign rfl) rfl rfl ?_)
 refine g_nil ?_
 refine g_next hK0 ?_
 refine g_seq (fun K1 hK1 => ?_)
 refine g_seq (fun K2 hK2 => ?_)
 refine g_region ?_
 refine g_step rfl (s_val (v_move rfl) rfl rfl ?_)
 refine g_step rfl (s_val (by first | exact v_ptr_eql_nil ty44 rfl rfl rfl | exact v_nil_eql_nil ty44 rfl rfl | exact v_ptrO_eql ty44 rfl rfl) rfl rfl ?_)
 refine g_nil ?_
 refine g_next hK2 ?_
 refine g_cond rfl (fun hc4 => ?_) (fun hc4 => ?_)
 · exfalso; (try simp only [decide_eq_true_eq, decide_eq_false_iff_not, Bool.not_eq_true', Bool.not_eq_false', Bool.not_eq_eq_eq_not, Bool.not_true, Bool.not_false, Bool.and_eq_true, Bool.or_eq_true, Bool.or_eq_false_iff, beq_iff_eq, beq_eq_false_iff_ne, ne_eq, Int.not_lt, Int.not_le, Decidable.not_not] at hc4); simp at hc4
 ·
  try simp only [decide_eq_true_eq, decide_eq_false_iff_not, Bool.not_eq_true', Bool.not_eq_false', Bool.not_eq_eq_eq_not, Bool.not_true, Bool.not_false, Bool.and_eq_true, Bool.or_eq_true, Bool.or_eq_false_iff, beq_iff_eq, beq_eq_false_iff_ne, ne_eq, Int.not_lt, Int.not_le, Decidable.not_not] at hc4
  refine g_skip ?_
  refine g_next hK1 ?_
  refine g_seq (fun K3 hK3 => ?_)
  refine g_region ?_
  refine g_step rfl (s_val (v_move rfl) rfl rfl ?_)
  refine g_step rfl (s_val (v_nilCheck rfl rfl) rfl rfl ?_)
  refine g_step rfl (s_val (by first | exact v_fieldAddr ty125 fo125_1 ty41 rfl | exact v_fieldAddr_box ty125 fo125_1 ty41 rfl) rfl rfl ?_)
  refine g_step rfl (s_val (by first | exact v_load ty41 rfl rfl (by first | rfl | assumption) (by first | assumption | exact map_get (by assumption) | rfl) rfl | exact v_load_box ty41 rfl rfl (by assumption) rfl) rfl rfl ?_)
  refine g_step rfl (s_call rfl rfl rfl (clone_ok s.done _ _ (hR.dv.mono hhH).view (by omega)) (fun _ h => h.elim) ?_)
  rintro n5 v5 effs5 hn5 hdom5 hR5 hok5
  obtain ⟨e, he1, he2, he3⟩ := (hR5.own hn5 hdom5).effs
  refine g_step rfl (s_val (v_assign rfl) rfl rfl ?_)
  refine g_nil ?_
  refine g_next hK3 ?_
  refine g_ret ?_
  refine g_end1 (.inl rfl) Try.results33 (.tmp rfl) e (ASub.refl _) (by rw [he3]; exact AHeap.sub_refl _) (fun q hq => .inr (he2 q hq)) he1

theorem rDone_ok (h : AHeap) (p q : Nat) (s : Rg) (G : AHeap) (hI : RIs h p q s) (hG : h.sub G) (hl : s.done.length ≤ 100000) : PCalls Try.prog 33 [.box p 0] G (fun v => v = .imm (s.done.map (.int .i64))) := LCalls.freeze (rDone_okO h p q s G hI hG hl)
theorem rNext_ok (h : AHeap) (p q : Nat) (s : Rg) (there : List Int) (va : AV) (G : AHeap) (hI : RIs h p q s) (hG : h.sub G) (hva : va.view G = some (there.map (.int .i64))) (hl : s.left.length ≤ 1000) (hd : s.done.length ≤ 1000) (ht : there.length ≤ 1000) : LCalls Try.prog 24 [.box p 0, va, .box q 0] G (fun b => h b ≠ none) (fun n v effs => v = .tup [.int .i64 (rNext s there).2.1, .bool (rNext s there).2.2] ∧ ∃ h', EffTo h h' n effs ∧ RIs h' p q (rNext s there).1) := by
 refine LCalls.intro 128 fi24 rfl Try.ntmps24 rfl (fun b hb => sub_some hG hb) (fun H hH w0 hw0 => ?_)
 obtain ⟨al, ad, hR⟩ := hI
 have hhH := AHeap.sub_trans hG hH
 have hva := view_sub hH hva
 refine g_seq (fun K0 hK0 => ?_)
 refine g_region ?_
 refine g_step rfl (s_val (v_assign rfl) rfl rfl ?_)
 refine g_step rfl (s_val (v_assign rfl) rfl rfl ?_)
 refine g_nil ?_
 refine g_next hK0 ?_
 refine g_seq (fun K1 hK1 => ?_)
 refine g_seq (fun K2 hK2 => ?_)
 refine g_region ?_
 refine g_step rfl (s_val (v_move rfl) rfl rfl ?_)
 refine g_step rfl (s_val (by first | exact v_ptr_eql_nil ty44 rfl rfl rfl | exact v_nil_eql_nil ty44 rfl rfl | exact v_ptrO_eql ty44 rfl rfl) rfl rfl ?_)
 refine g_nil ?_
 refine g_next hK2 ?_
 refine g_cond rfl (fun hc15 => ?_) (fun hc15 => ?_)
 · exfalso; (try simp only [decide_eq_true_eq, decide_eq_false_iff_not, Bool.not_eq_true', Bool.not_eq_false', Bool.not_eq_eq_eq_not, Bool.not_true, Bool.not_false, Bool.and_eq_true, Bool.or_eq_true, Bool.or_eq_false_iff, beq_iff_eq, beq_eq_false_iff_ne, ne_eq, Int.not_lt, Int.not_le, Decidable.not_not] at hc15); simp at hc15
 ·
  try simp only [decide_eq_true_eq, decide_eq_false_iff_not, Bool.not_eq_true', Bool.not_eq_false', Bool.not_eq_eq_eq_not, Bool.not_true, Bool.not_false, Bool.and_eq_true, Bool.or_eq_true, Bool.or_eq_false_iff, beq_iff_eq, beq_eq_false_iff_ne, ne_eq, Int.not_lt, Int.not_le, Decidable.not_not] at hc15
  refine g_skip ?_
  refine g_next hK1 ?_
  refine g_seq (fun K3 hK3 => ?_)
  refine g_region ?_
  refine g_step rfl (s_val (v_move rfl) rfl rfl ?_)
  refine g_step rfl (s_callp rfl rfl rfl (ringSet_ok there _ va hva (by omega)) ?_)
  rintro _ rfl
  refine g_step rfl (s_alloc (av := .nil0) ty41 rfl rfl rfl rfl ?_)
  refine g_step rfl (s_store_all ty41 rfl rfl rfl rfl rfl rfl ?_)
  refine g_nil ?_
  refine g_next hK3 ?_
  refine g_cut (fun env L B G => ∃ (r8 : Nat) (H1 : AHeap) (e1 : List (Nat × ARow)) (h1 : AHeap) (al1 ad1 : AV), env = [(0, .box p 0), (2, .box q 0), (8, .box r8 0), (9, .fn (.func 59) [.box r8 0])] ∧ L = [] ∧ B = [] ∧ G = setAll H1 e1 ∧ RW w0.heap.size h H1 r8 (.box (.imm ((setOf there).map (.int .i64)))) e1 h1 ∧ RA h1 p q al1 ad1 s ∧ H.sub H1) ?_ (fun env L B G hI => ?_)
  ·
   refine g_region ?_
   refine g_expose 8 rfl rfl (fun r8 hr8 hw8 => ?_)
   refine g_step rfl (s_val (v_makeFunc rfl) rfl rfl ?_)
   generalize hH1 : AHeap.set H r8 (.box (.imm ((setOf there).map (.int .i64)))) = H1
   have hhH1 : h.sub H1 := by rw [← hH1]; exact AHeap.sub_set hhH hr8
   have hHH1 : H.sub H1 := by rw [← hH1]; exact AHeap.sub_set (AHeap.sub_refl _) hr8
   have h80 : H1 r8 = some (.box (.imm ((setOf there).map (.int .i64)))) := by rw [← hH1]; exact AHeap.get_set _ _ _
   have hW : RW w0.heap.size h H1 r8 (.box (.imm ((setOf there).map (.int .i64)))) [] h := ⟨EffTo.refl _ _, sub_none hhH hr8, h80⟩
   have hR1 := hR
   obtain ⟨e1, he1⟩ : ∃ e1 : List (Nat × ARow), e1 = [] := ⟨_, rfl⟩
   have hgoal : H1 = setAll H1 e1 := by rw [he1]; rfl
   rw [← he1] at hW
   refine g_step rfl (s_val (v_assign rfl) rfl rfl ?_)
   refine g_nil ?_
   first | refine g_keep [0, 2, 8, 9] [] [] (keep_cons rfl (keep_cons rfl (keep_cons rfl (keep_cons rfl keep_nil)))) lkeep_nil keep_nil rfl ?_ | refine g_keep [0, 2, 8, 9] [] [] rfl rfl rfl rfl ?_
   first | exact g_has ⟨r8, H1, e1, h, al, ad, rfl, rfl, rfl, hgoal, ⟨hW, hR1, hHH1⟩⟩
  ·
   obtain ⟨r8, H1, e1, h1, al1, ad1, rfl, rfl, rfl, rfl, hW, hR1, hHH1⟩ := hI
   have hhH1 := AHeap.sub_trans hhH hHH1
   have hs1 := hW.eff.within hhH1
   have hp1 := hs1 _ _ hR1.pp
   have hq1 := hs1 _ _ hR1.qq
   have h8 := hW.r8s
   have hlv := hR1.lv.mono hs1
   have hdv := hR1.dv.mono hs1
   have hDp : h p ≠ none ∨ w0.heap.size ≤ p := hW.eff.some (by rw [hR1.pp]; simp)
   refine g_cut (fun env L B G => ∃ (r8 : Nat) (H1 : AHeap) (e1 : List (Nat × ARow)) (h1 : AHeap) (al1 ad1 : AV), env = [(0, .box p 0), (2, .box q 0), (8, .box r8 0), (9, .fn (.func 59) [.box r8 0])] ∧ L = [] ∧ B = [] ∧ G = setAll H1 e1 ∧ RW w0.heap.size h H1 r8 (.box (.imm ((setOf there).map (.int .i64)))) e1 h1 ∧ RA h1 p q al1 ad1 ⟨(stay (setOf there) s.left), s.done, s.ds⟩ ∧ H.sub H1) ?_ (fun env L B G hI => ?_)
   ·
    refine g_region ?_
    refine g_step rfl (s_val (v_move rfl) rfl rfl ?_)
    refine g_step rfl (s_val (v_move rfl) rfl rfl ?_)
    refine g_step rfl (s_val (v_nilCheck rfl rfl) rfl rfl ?_)
    refine g_step rfl (s_val (by first | exact v_fieldAddr ty125 fo125_0 ty41 rfl | exact v_fieldAddr_box ty125 fo125_0 ty41 rfl) rfl rfl ?_)
    refine g_step rfl (s_val (by first | exact v_load ty41 rfl rfl (by first | rfl | assumption) (by first | assumption | exact map_get (by assumption) | rfl) rfl | exact v_load_box ty41 rfl rfl hp1 (by rfl)) rfl rfl ?_)
    refine g_step rfl (s_val (v_move rfl) rfl rfl ?_)
    refine g_step rfl (s_call rfl rfl rfl (delfIV_ok s.left 59 [.box r8 0] (fun x => !decide (x ∈ (setOf there))) al1 _ hlv (by omega) (fun x hx rr hrr H' h' => gone_ok r8 (setOf there) x H' (h' _ _ (by obtain ⟨nn, hnn⟩ := hrr; rw [AHeap.get_del_ne _ (fun e2 => by have h9 := svat hlv hnn; rw [← e2, h8] at h9; cases h9)]; exact h8)) (setOf_rise there).1 (Nat.le_trans (setOf_len there) (by omega)))) (fun c hc => by obtain ⟨nn, hnn⟩ := hc; have h9 := svat hR1.lv hnn; exact hW.eff.some (by rw [h9]; simp)) ?_)
    rintro n4 v4 effs4 hn4 hdom4 hX4 hok4
    obtain ⟨e2, h2, hle, hE2, hv2, hf2, hn2, hin, hin2⟩ := delf_eff (G := setAll H1 e1) w0.heap.size hX4 (fun e => by rw [e]; rfl) hR1.lv
    have hW2 := hW.inner hE2 hin hin2
    refine g_le hle ?_
    rw [← setAll_append] at hle
    have hs2 := hW2.eff.within hhH1
    rw [setAll_append] at hs2
    have hv2G := hv2.mono hs2
    have hp2' : h2 p = some (.box (.agg [al1, ad1])) := hf2 _ _ hR1.pp (fun n e => by have := svat hR1.lv e; rw [hR1.pp] at this; cases this)
    have hp2 := hs2 _ _ hp2'
    ·
     refine g_step rfl (s_val (v_nilCheck rfl rfl) rfl rfl ?_)
     refine g_step rfl (s_val (by first | exact v_fieldAddr ty125 fo125_0 ty41 rfl | exact v_fieldAddr_box ty125 fo125_0 ty41 rfl) rfl rfl ?_)
     refine g_step rfl (s_store_box (new := (.agg [v4, ad1])) ty41 rfl rfl hp2 (by rw [hv2G.one.1]; rfl) hv2G.one.2 rfl (by rw [hv2G.one.1]; rfl) hDp ?_)
     refine g_nil ?_
     first | refine g_keep [0, 2, 8, 9] [] [] (keep_cons rfl (keep_cons rfl (keep_cons rfl (keep_cons rfl keep_nil)))) lkeep_nil keep_nil rfl ?_ | refine g_keep [0, 2, 8, 9] [] [] rfl rfl rfl rfl ?_
     first | exact g_has ⟨r8, H1, (p, .box (.agg [v4, ad1])) :: (e2 ++ e1), h2.set p (.box (.agg [v4, ad1])), v4, ad1, rfl, rfl, rfl, (by show AHeap.set _ p _ = AHeap.set _ p _; rw [setAll_append]), ⟨hW2.write _ (.inl (by rw [hp2']; simp)), by rw [← (show List.filter (fun x => !(!decide (x ∈ (setOf there)))) s.left = stay (setOf there) s.left by unfold stay; congr 1; funext x; simp)]; exact hR1.left (AHeap.get_set _ _ _) (sv_keep hv2 (fun x n e y hy => (AHeap.get_set_ne _ _ (fun e9 => by have := svat hv2 e; rw [e9, hp2'] at this; cases this)).trans hy)) (fun c y hc hcp hcw => (AHeap.get_set_ne _ _ hcp).trans (hf2 c y hc hcw)) (fun x n e => .inr (hn2 x n e)), hHH1⟩⟩
   ·
    obtain ⟨r8, H1, e1, h1, al1, ad1, rfl, rfl, rfl, rfl, hW, hR1, hHH1⟩ := hI
    have hhH1 := AHeap.sub_trans hhH hHH1
    have hs1 := hW.eff.within hhH1
    have hp1 := hs1 _ _ hR1.pp
    have hq1 := hs1 _ _ hR1.qq
    have h8 := hW.r8s
    have hlv := hR1.lv.mono hs1
    have hdv := hR1.dv.mono hs1
    have hDp : h p ≠ none ∨ w0.heap.size ≤ p := hW.eff.some (by rw [hR1.pp]; simp)
    refine g_cut (fun env L B G => ∃ (r8 : Nat) (H1 : AHeap) (e1 : List (Nat × ARow)) (h1 : AHeap) (al1 ad1 : AV), env = [(0, .box p 0), (2, .box q 0), (8, .box r8 0)] ∧ L = [] ∧ B = [] ∧ G = setAll H1 e1 ∧ RW w0.heap.size h H1 r8 (.box (.imm ((setOf there).map (.int .i64)))) e1 h1 ∧ RA h1 p q al1 ad1 ⟨(stay (setOf there) s.left), (stay (setOf there) s.done), s.ds⟩ ∧ H.sub H1) ?_ (fun env L B G hI => ?_)
    ·
     refine g_region ?_
     refine g_step rfl (s_val (v_move rfl) rfl rfl ?_)
     refine g_step rfl (s_val (v_move rfl) rfl rfl ?_)
     refine g_step rfl (s_val (v_nilCheck rfl rfl) rfl rfl ?_)
     refine g_step rfl (s_val (by first | exact v_fieldAddr ty125 fo125_1 ty41 rfl | exact v_fieldAddr_box ty125 fo125_1 ty41 rfl) rfl rfl ?_)
     refine g_step rfl (s_val (by first | exact v_load ty41 rfl rfl (by first | rfl | assumption) (by first | assumption | exact map_get (by assumption) | rfl) rfl | exact v_load_box ty41 rfl rfl hp1 (by rfl)) rfl rfl ?_)
     refine g_step rfl (s_val (v_move rfl) rfl rfl ?_)
     refine g_step rfl (s_call rfl rfl rfl (delfIV_ok s.done 59 [.box r8 0] (fun x => !decide (x ∈ (setOf there))) ad1 _ hdv (by omega) (fun x hx rr hrr H' h' => gone_ok r8 (setOf there) x H' (h' _ _ (by obtain ⟨nn, hnn⟩ := hrr; rw [AHeap.get_del_ne _ (fun e2 => by have h9 := svat hdv hnn; rw [← e2, h8] at h9; cases h9)]; exact h8)) (setOf_rise there).1 (Nat.le_trans (setOf_len there) (by omega)))) (fun c hc => by obtain ⟨nn, hnn⟩ := hc; have h9 := svat hR1.dv hnn; exact hW.eff.some (by rw [h9]; simp)) ?_)
     rintro n4 v4 effs4 hn4 hdom4 hX4 hok4
     obtain ⟨e2, h2, hle, hE2, hv2, hf2, hn2, hin, hin2⟩ := delf_eff (G := setAll H1 e1) w0.heap.size hX4 (fun e => by rw [e]; rfl) hR1.dv
     have hW2 := hW.inner hE2 hin hin2
     refine g_le hle ?_
     rw [← setAll_append] at hle
     have hs2 := hW2.eff.within hhH1
     rw [setAll_append] at hs2
     have hv2G := hv2.mono hs2
     have hp2' : h2 p = some (.box (.agg [al1, ad1])) := hf2 _ _ hR1.pp (fun n e => by have := svat hR1.dv e; rw [hR1.pp] at this; cases this)
     have hp2 := hs2 _ _ hp2'
     ·
      refine g_step rfl (s_val (v_nilCheck rfl rfl) rfl rfl ?_)
      refine g_step rfl (s_val (by first | exact v_fieldAddr ty125 fo125_1 ty41 rfl | exact v_fieldAddr_box ty125 fo125_1 ty41 rfl) rfl rfl ?_)
      refine g_step rfl (s_store_box (new := (.agg [al1, v4])) ty41 rfl rfl hp2 (by rw [hv2G.one.1]; rfl) hv2G.one.2 rfl (by rw [hv2G.one.1]; rfl) hDp ?_)
      refine g_nil ?_
      first | refine g_keep [0, 2, 8] [] [] (keep_cons rfl (keep_cons rfl (keep_cons rfl keep_nil))) lkeep_nil keep_nil rfl ?_ | refine g_keep [0, 2, 8] [] [] rfl rfl rfl rfl ?_
      first | exact g_has ⟨r8, H1, (p, .box (.agg [al1, v4])) :: (e2 ++ e1), h2.set p (.box (.agg [al1, v4])), al1, v4, rfl, rfl, rfl, (by show AHeap.set _ p _ = AHeap.set _ p _; rw [setAll_append]), ⟨hW2.write _ (.inl (by rw [hp2']; simp)), by rw [← (show List.filter (fun x => !(!decide (x ∈ (setOf there)))) s.done = stay (setOf there) s.done by unfold stay; congr 1; funext x; simp)]; exact hR1.fin (AHeap.get_set _ _ _) (sv_keep hv2 (fun x n e y hy => (AHeap.get_set_ne _ _ (fun e9 => by have := svat hv2 e; rw [e9, hp2'] at this; cases this)).trans hy)) (fun c y hc hcp hcw => (AHeap.get_set_ne _ _ hcp).trans (hf2 c y hc hcw)) (fun x n e => .inr (hn2 x n e)), hHH1⟩⟩
    ·
     obtain ⟨r8, H1, e1, h1, al1, ad1, rfl, rfl, rfl, rfl, hW, hR1, hHH1⟩ := hI
     have hhH1 := AHeap.sub_trans hhH hHH1
     have hs1 := hW.eff.within hhH1
     have hp1 := hs1 _ _ hR1.pp
     have hq1 := hs1 _ _ hR1.qq
     have h8 := hW.r8s
     have hlv := hR1.lv.mono hs1
     have hdv := hR1.dv.mono hs1
     have hDp : h p ≠ none ∨ w0.heap.size ≤ p := hW.eff.some (by rw [hR1.pp]; simp)
     refine g_seq (fun K4 hK4 => ?_)
     refine g_seq (fun K5 hK5 => ?_)
     refine g_region ?_
     refine g_step rfl (s_val (by first | exact v_load ty41 rfl rfl (by first | rfl | assumption) (by first | assumption | exact map_get (by assumption) | rfl) rfl | exact v_load_box ty41 rfl rfl h8 (by rfl)) rfl rfl ?_)
     refine g_step rfl (s_val (v_len ty41 rfl (by first | rfl | assumption) (by first | exact List.length_map .. | rfl)) rfl rfl ?_)
     refine g_step rfl (s_val (v_move rfl) rfl rfl ?_)
     refine g_nil ?_
     refine g_next hK5 ?_
     refine g_block ?_
     first | refine g_keep [0, 2, 37, 38, 39] [] [] (keep_cons rfl (keep_cons rfl (keep_cons rfl (keep_cons rfl (keep_cons rfl keep_nil))))) lkeep_nil keep_nil rfl ?_ | refine g_keep [0, 2, 37, 38, 39] [] [] rfl rfl rfl rfl ?_
     refine g_loop (fun n env L B G => ∃ (k : Nat) (e1 : List (Nat × ARow)) (h1 : AHeap) (al1 : AV), k ≤ (setOf there).length ∧ n = (setOf there).length - k ∧ env = [(0, .box p 0), (2, .box q 0), (37, .imm ((setOf there).map (.int .i64))), (38, .int .i64 ((setOf there).length : Int)), (39, .int .i64 (k : Int))] ∧ L = [] ∧ B = [] ∧ G = setAll H1 e1 ∧ RW w0.heap.size h H1 r8 (.box (.imm ((setOf there).map (.int .i64)))) e1 h1 ∧ RA h1 p q al1 ad1 ⟨(addUpTo s there k).1, (stay (setOf there) s.done), (addUpTo s there k).2⟩) ((setOf there).length) ⟨0, e1, h1, al1, Nat.zero_le _, rfl, rfl, rfl, rfl, rfl, ⟨hW, hR1⟩⟩ (fun n env L B G hI => ?_)
     obtain ⟨k, e1, h1, al1, hk, rfl, rfl, rfl, rfl, rfl, hW, hR1⟩ := hI
     have hhH1 := AHeap.sub_trans hhH hHH1
     have hs1 := hW.eff.within hhH1
     have hp1 := hs1 _ _ hR1.pp
     have hq1 := hs1 _ _ hR1.qq
     have h8 := hW.r8s
     have hlv := hR1.lv.mono hs1
     have hdv := hR1.dv.mono hs1
     have hDp : h p ≠ none ∨ w0.heap.size ≤ p := hW.eff.some (by rw [hR1.pp]; simp)
     have hul := addUpTo_len s there k
     have hal := setOf_len there
     refine g_seq (fun K6 hK6 => ?_)
     refine g_region ?_
     refine g_step rfl (s_val (v_lss rfl rfl) rfl rfl ?_)
     refine g_nil ?_
     refine g_next hK6 ?_
     refine g_seq (fun K7 hK7 => ?_)
     refine g_cond rfl (fun hc40 => ?_) (fun hc40 => ?_)
     ·
      try simp only [decide_eq_true_eq, decide_eq_false_iff_not, Bool.not_eq_true', Bool.not_eq_false', Bool.not_eq_eq_eq_not, Bool.not_true, Bool.not_false, Bool.and_eq_true, Bool.or_eq_true, Bool.or_eq_false_iff, beq_iff_eq, beq_eq_false_iff_ne, ne_eq, Int.not_lt, Int.not_le, Decidable.not_not] at hc40
      obtain ⟨x, hx⟩ := get_some (l := (setOf there)) (k := k) (by omega)
      refine g_skip ?_
      refine g_next hK7 ?_
      refine g_seq (fun K8 hK8 => ?_)
      refine g_block ?_
      refine g_seq (fun K9 hK9 => ?_)
      refine g_region ?_
      refine g_step rfl (s_val (v_indexAddr ty41 ty3 rfl rfl (by first | rfl | assumption) (by first | rfl | exact (rfl : (0 : Int) = ((0 : Nat) : Int)) | exact (Int.toNat_of_nonneg (by omega)).symm) (by first | assumption | exact map_get (by assumption) | rfl) rfl) rfl rfl ?_)
      refine g_step rfl (s_val (by first | exact v_load ty3 rfl rfl (by first | rfl | assumption) (by first | assumption | exact map_get (by assumption) | rfl) rfl | exact v_load_box ty3 rfl rfl (by assumption) rfl) rfl rfl ?_)
      refine g_step rfl (s_val (v_assign rfl) rfl rfl ?_)
      refine g_nil ?_
      refine g_next hK9 ?_
      refine g_seq (fun K10 hK10 => ?_)
      refine g_region ?_
      refine g_step rfl (s_val (v_move rfl) rfl rfl ?_)
      refine g_step rfl (s_val (v_nilCheck rfl rfl) rfl rfl ?_)
      refine g_step rfl (s_val (by first | exact v_fieldAddr ty125 fo125_0 ty41 rfl | exact v_fieldAddr_box ty125 fo125_0 ty41 rfl) rfl rfl ?_)
      refine g_step rfl (s_val (by first | exact v_load ty41 rfl rfl (by first | rfl | assumption) (by first | assumption | exact map_get (by assumption) | rfl) rfl | exact v_load_box ty41 rfl rfl hp1 (by rfl)) rfl rfl ?_)
      refine g_step rfl (s_val (v_move rfl) rfl rfl ?_)
      refine g_step rfl (s_callp rfl rfl rfl (contains_ok (addUpTo s there k).1 x _ al1 hlv.view (by omega)) ?_)
      rintro _ rfl
      refine g_step rfl (s_val (v_not rfl) rfl rfl ?_)
      refine g_step rfl (s_val (v_move rfl) rfl rfl ?_)
      refine g_split 50 rfl (fun hg50 => ?_) (fun hg50 => ?_)
      ·
       try simp only [decide_eq_true_eq, decide_eq_false_iff_not, Bool.not_eq_true', Bool.not_eq_false', Bool.not_eq_eq_eq_not, Bool.not_true, Bool.not_false, Bool.and_eq_true, Bool.or_eq_true, Bool.or_eq_false_iff, beq_iff_eq, beq_eq_false_iff_ne, ne_eq, Int.not_lt, Int.not_le, Decidable.not_not] at hg50
       refine g_step_yes (j := 7) (t := 50) rfl rfl rfl rfl (s_val (v_move rfl) rfl rfl ?_)
       refine g_step_yes (j := 7) (t := 50) rfl rfl rfl rfl (s_val (v_nilCheck rfl rfl) rfl rfl ?_)
       refine g_step_yes (j := 7) (t := 50) rfl rfl rfl rfl (s_val (by first | exact v_fieldAddr ty125 fo125_1 ty41 rfl | exact v_fieldAddr_box ty125 fo125_1 ty41 rfl) rfl rfl ?_)
       refine g_step_yes (j := 7) (t := 50) rfl rfl rfl rfl (s_val (by first | exact v_load ty41 rfl rfl (by first | rfl | assumption) (by first | assumption | exact map_get (by assumption) | rfl) rfl | exact v_load_box ty41 rfl rfl hp1 (by rfl)) rfl rfl ?_)
       refine g_step_yes (j := 7) (t := 50) rfl rfl rfl rfl (s_val (v_move rfl) rfl rfl ?_)
       refine g_step_yes (j := 7) (t := 50) rfl rfl rfl rfl (s_callp rfl rfl rfl (contains_ok (stay (setOf there) s.done) x _ ad1 hdv.view (Nat.le_trans (List.length_filter_le _ _) (by omega))) ?_)
       rintro _ rfl
       refine g_step_yes (j := 7) (t := 50) rfl rfl rfl rfl (s_val (v_not rfl) rfl rfl ?_)
       refine g_step rfl (s_val (v_pick_t rfl rfl) rfl rfl ?_)
       refine g_nil ?_
       refine g_next hK10 ?_
       first | refine g_keep [0, 2, 11, 37, 38, 39, 58] [] [] (keep_cons rfl (keep_cons rfl (keep_cons rfl (keep_cons rfl (keep_cons rfl (keep_cons rfl (keep_cons rfl keep_nil))))))) lkeep_nil keep_nil rfl ?_ | refine g_keep [0, 2, 11, 37, 38, 39, 58] [] [] rfl rfl rfl rfl ?_
       refine g_cond rfl (fun hc58 => ?_) (fun hc58 => ?_)
       ·
        try simp only [decide_eq_true_eq, decide_eq_false_iff_not, Bool.not_eq_true', Bool.not_eq_false', Bool.not_eq_eq_eq_not, Bool.not_true, Bool.not_false, Bool.and_eq_true, Bool.or_eq_true, Bool.or_eq_false_iff, beq_iff_eq, beq_eq_false_iff_ne, ne_eq, Int.not_lt, Int.not_le, Decidable.not_not] at hc58
        refine g_seq (fun K11 hK11 => ?_)
        refine g_region ?_
        refine g_step rfl (s_val (v_move rfl) rfl rfl ?_)
        refine g_step rfl (s_val (v_move rfl) rfl rfl ?_)
        refine g_step rfl (s_val (v_nilCheck rfl rfl) rfl rfl ?_)
        refine g_step rfl (s_val (by first | exact v_fieldAddr ty125 fo125_0 ty41 rfl | exact v_fieldAddr_box ty125 fo125_0 ty41 rfl) rfl rfl ?_)
        refine g_step rfl (s_val (by first | exact v_load ty41 rfl rfl (by first | rfl | assumption) (by first | assumption | exact map_get (by assumption) | rfl) rfl | exact v_load_box ty41 rfl rfl hp1 (by rfl)) rfl rfl ?_)
        refine g_step rfl (s_val (v_len ty41 rfl hlv.view (show _ = (addUpTo s there k).1.length by rw [List.length_map])) rfl rfl ?_)
        refine g_step rfl (s_val (v_add rfl rfl (by omega)) rfl rfl ?_)
        refine g_step rfl (s_call rfl rfl rfl (next_ok q (addUpTo s there k).2 (((addUpTo s there k).1.length : Int) + 1) _ hq1 (by omega)) (fun b hb => by subst hb; exact hW.eff.some (by rw [hR1.qq]; simp)) ?_)
        rintro n6 v6 effs6 hn6 hdom6 ⟨rfl, rfl⟩ hok6
        obtain ⟨at', ha1, ha2, ha3⟩ := dNext_at (addUpTo s there k).2 (addUpTo s there k).1.length
        rw [ha1]
        have hW3 := hW.write (b := q) (.box (.agg [encI (dRest (addUpTo s there k).2 (((addUpTo s there k).1.length : Int) + 1))])) (.inl (by rw [hR1.qq]; simp))
        have hR3 := hR1.dice (dRest (addUpTo s there k).2 (((addUpTo s there k).1.length : Int) + 1))
        have hs3 := hW3.eff.within hhH1
        have hp3 := hs3 _ _ hR3.pp
        have hlv3 := hR3.lv.mono hs3
        refine g_step rfl (s_val (v_assign rfl) rfl rfl ?_)
        refine g_nil ?_
        refine g_next hK11 ?_
        refine g_region ?_
        refine g_step rfl (s_val (v_move rfl) rfl rfl ?_)
        refine g_step rfl (s_val (v_move rfl) rfl rfl ?_)
        refine g_step rfl (s_val (v_nilCheck rfl rfl) rfl rfl ?_)
        refine g_step rfl (s_val (by first | exact v_fieldAddr ty125 fo125_0 ty41 rfl | exact v_fieldAddr_box ty125 fo125_0 ty41 rfl) rfl rfl ?_)
        refine g_step rfl (s_val (by first | exact v_load ty41 rfl rfl (by first | rfl | assumption) (by first | assumption | exact map_get (by assumption) | rfl) rfl | exact v_load_box ty41 rfl rfl hp3 (by rfl)) rfl rfl ?_)
        refine g_step rfl (s_val (v_move rfl) rfl rfl ?_)
        refine g_step rfl (s_val (v_move rfl) rfl rfl ?_)
        refine g_step rfl (s_litO ty41 ty3 rfl rfl rfl rfl rfl rfl rfl (fun qq hqq1 hqq2 => ?_))
        have hpqq : p ≠ qq := fun e => by have h9 := hqq1; rw [← e] at h9; exact absurd (hp3.symm.trans h9) (by simp)
        have hwq := hlv3.mono (AHeap.sub_set (x := .row 1 ([x].map (AV.int .i64))) (AHeap.sub_refl _) hqq1)
        refine g_step rfl (s_call rfl rfl rfl (insIV_ok qq at' (addUpTo s there k).1 x (at' : Int) al1 _ rfl hwq (AHeap.get_set _ _ _) (fun n hn => by have h9 := svat hlv3 hn; exact absurd (h9.symm.trans hqq1) (by simp)) (by omega) (by omega)) (fun c hc => by obtain ⟨nn, hnn⟩ := hc; have h9 := svat hR1.lv hnn; exact hW.eff.some (by rw [h9]; simp)) ?_)
        rintro n8 v8 effs8 hn8 hdom8 ⟨r', hr', rfl, rfl⟩ hok8
        obtain ⟨hpr', hW5, hR5⟩ := ring_in (n' := (addUpTo s there k).1.length + 1) (l' := insAt (addUpTo s there k).1 at' x) hW3 hR3 hhH1 hqq1 hqq2 hn8 hdom8 hr' (insAt_len _ _ _).symm
        refine g_step rfl (s_val (v_nilCheck rfl rfl) rfl rfl ?_)
        refine g_step rfl (s_val (by first | exact v_fieldAddr ty125 fo125_0 ty41 rfl | exact v_fieldAddr_box ty125 fo125_0 ty41 rfl) rfl rfl ?_)
        refine g_step rfl (s_store_box (new := (.agg [.own r' 1 0 ((addUpTo s there k).1.length + 1), ad1])) ty41 rfl rfl ((AHeap.get_set_ne _ _ hpr').trans ((AHeap.get_set_ne _ _ hpqq).trans hp3)) rfl rfl rfl rfl hDp ?_)
        refine g_nil ?_
        refine g_block_normal ?_
        refine g_next hK8 ?_
        first | refine g_keep [0, 2, 37, 38, 39] [] [] (keep_cons rfl (keep_cons rfl (keep_cons rfl (keep_cons rfl (keep_cons rfl keep_nil))))) lkeep_nil keep_nil rfl ?_ | refine g_keep [0, 2, 37, 38, 39] [] [] rfl rfl rfl rfl ?_
        refine g_region ?_
        refine g_step rfl (s_val (v_add rfl rfl (by omega)) rfl rfl ?_)
        refine g_step rfl (s_val (v_move rfl) rfl rfl ?_)
        refine g_nil ?_
        first | refine g_keep [0, 2, 37, 38, 39] [] [] (keep_cons rfl (keep_cons rfl (keep_cons rfl (keep_cons rfl (keep_cons rfl keep_nil))))) lkeep_nil keep_nil rfl ?_ | refine g_keep [0, 2, 37, 38, 39] [] [] rfl rfl rfl rfl ?_
        first | exact g_round _ (by omega) ⟨k + 1, _, _, .own r' 1 0 ((addUpTo s there k).1.length + 1), by omega, rfl, rfl, rfl, rfl, rfl, ⟨hW5, by rw [addUpTo_snoc hx, addOne, if_neg (by rintro (h9 | h9); exact hg50 h9; exact hc58 h9), ha3]; exact hR5⟩⟩ | exact g_round _ (by omega) ⟨k + 1, e1, h1, al1, by omega, rfl, rfl, rfl, rfl, rfl, ⟨hW, by rw [addUpTo_snoc hx, addOne, if_pos (by first | exact .inl hg50 | exact .inr hc58)]; exact hR1⟩⟩
       ·
        try simp only [decide_eq_true_eq, decide_eq_false_iff_not, Bool.not_eq_true', Bool.not_eq_false', Bool.not_eq_eq_eq_not, Bool.not_true, Bool.not_false, Bool.and_eq_true, Bool.or_eq_true, Bool.or_eq_false_iff, beq_iff_eq, beq_eq_false_iff_ne, ne_eq, Int.not_lt, Int.not_le, Decidable.not_not] at hc58
        refine g_skip ?_
        refine g_block_normal ?_
        refine g_next hK8 ?_
        refine g_region ?_
        refine g_step rfl (s_val (v_add rfl rfl (by omega)) rfl rfl ?_)
        refine g_step rfl (s_val (v_move rfl) rfl rfl ?_)
        refine g_nil ?_
        first | refine g_keep [0, 2, 37, 38, 39] [] [] (keep_cons rfl (keep_cons rfl (keep_cons rfl (keep_cons rfl (keep_cons rfl keep_nil))))) lkeep_nil keep_nil rfl ?_ | refine g_keep [0, 2, 37, 38, 39] [] [] rfl rfl rfl rfl ?_
        first | exact g_round _ (by omega) ⟨k + 1, _, _, .own r' 1 0 ((addUpTo s there k).1.length + 1), by omega, rfl, rfl, rfl, rfl, rfl, ⟨hW5, by rw [addUpTo_snoc hx, addOne, if_neg (by rintro (h9 | h9); exact hg50 h9; exact hc58 h9), ha3]; exact hR5⟩⟩ | exact g_round _ (by omega) ⟨k + 1, e1, h1, al1, by omega, rfl, rfl, rfl, rfl, rfl, ⟨hW, by rw [addUpTo_snoc hx, addOne, if_pos (by first | exact .inl hg50 | exact .inr hc58)]; exact hR1⟩⟩
      ·
       try simp only [decide_eq_true_eq, decide_eq_false_iff_not, Bool.not_eq_true', Bool.not_eq_false', Bool.not_eq_eq_eq_not, Bool.not_true, Bool.not_false, Bool.and_eq_true, Bool.or_eq_true, Bool.or_eq_false_iff, beq_iff_eq, beq_eq_false_iff_ne, ne_eq, Int.not_lt, Int.not_le, Decidable.not_not] at hg50
       refine g_step_no (j := 7) (t := 50) rfl rfl rfl rfl rfl rfl rfl ?_
       refine g_step_no (j := 7) (t := 50) rfl rfl rfl rfl rfl rfl rfl ?_
       refine g_step_no (j := 7) (t := 50) rfl rfl rfl rfl rfl rfl rfl ?_
       refine g_step_no (j := 7) (t := 50) rfl rfl rfl rfl rfl rfl rfl ?_
       refine g_step_no (j := 7) (t := 50) rfl rfl rfl rfl rfl rfl rfl ?_
       refine g_step_no (j := 7) (t := 50) rfl rfl rfl rfl rfl rfl rfl ?_
       refine g_step_no (j := 7) (t := 50) rfl rfl rfl rfl rfl rfl rfl ?_
       refine g_step rfl (s_val (v_pick_f rfl rfl) rfl rfl ?_)
       refine g_nil ?_
       refine g_next hK10 ?_
       first | refine g_keep [0, 2, 11, 37, 38, 39, 58] [] [] (keep_cons rfl (keep_cons rfl (keep_cons rfl (keep_cons rfl (keep_cons rfl (keep_cons rfl (keep_cons rfl keep_nil))))))) lkeep_nil keep_nil rfl ?_ | refine g_keep [0, 2, 11, 37, 38, 39, 58] [] [] rfl rfl rfl rfl ?_
       refine g_cond rfl (fun h => by cases h) (fun _ => ?_)
       refine g_skip ?_
       refine g_block_normal ?_
       refine g_next hK8 ?_
       refine g_region ?_
       refine g_step rfl (s_val (v_add rfl rfl (by omega)) rfl rfl ?_)
       refine g_step rfl (s_val (v_move rfl) rfl rfl ?_)
       refine g_nil ?_
       first | refine g_keep [0, 2, 37, 38, 39] [] [] (keep_cons rfl (keep_cons rfl (keep_cons rfl (keep_cons rfl (keep_cons rfl keep_nil))))) lkeep_nil keep_nil rfl ?_ | refine g_keep [0, 2, 37, 38, 39] [] [] rfl rfl rfl rfl ?_
       first | exact g_round _ (by omega) ⟨k + 1, _, _, .own r' 1 0 ((addUpTo s there k).1.length + 1), by omega, rfl, rfl, rfl, rfl, rfl, ⟨hW5, by rw [addUpTo_snoc hx, addOne, if_neg (by rintro (h9 | h9); exact hg50 h9; exact hc58 h9), ha3]; exact hR5⟩⟩ | exact g_round _ (by omega) ⟨k + 1, e1, h1, al1, by omega, rfl, rfl, rfl, rfl, rfl, ⟨hW, by rw [addUpTo_snoc hx, addOne, if_pos (by first | exact .inl hg50 | exact .inr hc58)]; exact hR1⟩⟩
     ·
      try simp only [decide_eq_true_eq, decide_eq_false_iff_not, Bool.not_eq_true', Bool.not_eq_false', Bool.not_eq_eq_eq_not, Bool.not_true, Bool.not_false, Bool.and_eq_true, Bool.or_eq_true, Bool.or_eq_false_iff, beq_iff_eq, beq_eq_false_iff_ne, ne_eq, Int.not_lt, Int.not_le, Decidable.not_not] at hc40
      obtain rfl : k = (setOf there).length := by omega
      skip
      refine g_exit ?_
      refine g_then_exit ?_
      refine g_then_exit ?_
      refine g_block_same ?_
      refine g_next hK4 ?_
      refine g_cut (fun env L B G => ∃ (r8 : Nat) (H1 : AHeap) (e1 : List (Nat × ARow)) (h1 : AHeap) (al1 ad1 : AV), env = [(0, .box p 0)] ∧ L = [] ∧ B = [] ∧ G = setAll H1 e1 ∧ RW w0.heap.size h H1 r8 (.box (.imm ((setOf there).map (.int .i64)))) e1 h1 ∧ RA h1 p q al1 ad1 (rTurn (rAdd s there)) ∧ H.sub H1) ?_ (fun env L B G hI => ?_)
      ·
       refine g_seq (fun K12 hK12 => ?_)
       refine g_region ?_
       refine g_step rfl (s_val (v_move rfl) rfl rfl ?_)
       refine g_step rfl (s_val (v_nilCheck rfl rfl) rfl rfl ?_)
       refine g_step rfl (s_val (by first | exact v_fieldAddr ty125 fo125_0 ty41 rfl | exact v_fieldAddr_box ty125 fo125_0 ty41 rfl) rfl rfl ?_)
       refine g_step rfl (s_val (by first | exact v_load ty41 rfl rfl (by first | rfl | assumption) (by first | assumption | exact map_get (by assumption) | rfl) rfl | exact v_load_box ty41 rfl rfl hp1 (by rfl)) rfl rfl ?_)
       refine g_step rfl (s_val (v_len ty41 rfl hlv.view (show _ = (addUpTo s there (setOf there).length).1.length by rw [List.length_map])) rfl rfl ?_)
       refine g_step rfl (s_val (v_eql rfl rfl) rfl rfl ?_)
       refine g_nil ?_
       refine g_next hK12 ?_
       refine g_cond rfl (fun hc84 => ?_) (fun hc84 => ?_)
       ·
        try simp only [decide_eq_true_eq, decide_eq_false_iff_not, Bool.not_eq_true', Bool.not_eq_false', Bool.not_eq_eq_eq_not, Bool.not_true, Bool.not_false, Bool.and_eq_true, Bool.or_eq_true, Bool.or_eq_false_iff, beq_iff_eq, beq_eq_false_iff_ne, ne_eq, Int.not_lt, Int.not_le, Decidable.not_not] at hc84
        refine g_region ?_
        refine g_step rfl (s_val (v_move rfl) rfl rfl ?_)
        refine g_step rfl (s_val (v_move rfl) rfl rfl ?_)
        refine g_step rfl (s_val (v_move rfl) rfl rfl ?_)
        refine g_step rfl (s_val (v_move rfl) rfl rfl ?_)
        refine g_step rfl (s_val (v_nilCheck rfl rfl) rfl rfl ?_)
        refine g_step rfl (s_val (by first | exact v_fieldAddr ty125 fo125_1 ty41 rfl | exact v_fieldAddr_box ty125 fo125_1 ty41 rfl) rfl rfl ?_)
        refine g_step rfl (s_val (by first | exact v_load ty41 rfl rfl (by first | rfl | assumption) (by first | assumption | exact map_get (by assumption) | rfl) rfl | exact v_load_box ty41 rfl rfl hp1 (by rfl)) rfl rfl ?_)
        refine g_step rfl (s_call rfl rfl rfl (shuffle_ok q (addUpTo s there (setOf there).length).2 (stay (setOf there) s.done) ad1 _ hq1 hdv.view (Nat.le_trans (List.length_filter_le _ _) (by omega))) (fun b hb => by subst hb; exact hW.eff.some (by rw [hR1.qq]; simp)) ?_)
        rintro n9 v9 effs9 hn9 hdom9 ⟨e9, hO9, rfl⟩ hok9
        obtain ⟨h2, hW2, hp2', hv2, hR2⟩ := ring_shuf (ds := shufRest (stay (setOf there) s.done) (addUpTo s there (setOf there).length).2) hW hR1 hhH1 hn9 hdom9 hO9
        have hs2 := hW2.eff.within hhH1
        rw [setAll_append] at hs2
        have hp2 := hs2 _ _ hp2'
        have hv2G := hv2.mono hs2
        refine g_step rfl (s_val (v_nilCheck rfl rfl) rfl rfl ?_)
        refine g_step rfl (s_val (by first | exact v_fieldAddr ty125 fo125_0 ty41 rfl | exact v_fieldAddr_box ty125 fo125_0 ty41 rfl) rfl rfl ?_)
        refine g_step rfl (s_store_box (new := (.agg [v9, ad1])) ty41 rfl rfl hp2 (by rw [hv2G.one.1]; rfl) hv2G.one.2 rfl (by rw [hv2G.one.1]; rfl) hDp ?_)
        refine g_step rfl (s_val (v_nilCheck rfl rfl) rfl rfl ?_)
        refine g_step rfl (s_val (by first | exact v_fieldAddr ty125 fo125_1 ty41 rfl | exact v_fieldAddr_box ty125 fo125_1 ty41 rfl) rfl rfl ?_)
        refine g_step rfl (s_store_box (new := (.agg [v9, .nil0])) ty41 rfl rfl (AHeap.get_set _ _ _) rfl rfl rfl rfl hDp ?_)
        refine g_nil ?_
        first | refine g_keep [0] [] [] (keep_cons rfl keep_nil) lkeep_nil keep_nil rfl ?_ | refine g_keep [0] [] [] rfl rfl rfl rfl ?_
        first | exact g_has ⟨r8, H1, _, _, v9, .nil0, rfl, rfl, rfl, (by first | rfl | (show AHeap.set (AHeap.set _ p _) p _ = AHeap.set (AHeap.set _ p _) p _; simp only [setAll_append])), ⟨(hW2.write (.box (.agg [v9, ad1])) (.inl (by rw [hp2']; simp))).write (.box (.agg [v9, .nil0])) (.inl (by rw [AHeap.get_set]; simp)), by rw [AHeap.set_set, rTurn, if_pos (List.eq_nil_of_length_eq_zero (by show (addUpTo s there (setOf there).length).1.length = 0; omega))]; exact hR2, hHH1⟩⟩ | exact g_has ⟨r8, H1, e1, h1, al1, ad1, rfl, rfl, rfl, (by first | rfl | (show AHeap.set (AHeap.set _ p _) p _ = AHeap.set (AHeap.set _ p _) p _; simp only [setAll_append])), ⟨hW, by rw [rTurn, if_neg (fun e9 => hc84 (by have e9 : (addUpTo s there (setOf there).length).1 = [] := e9; rw [e9]; rfl))]; exact hR1, hHH1⟩⟩
       ·
        try simp only [decide_eq_true_eq, decide_eq_false_iff_not, Bool.not_eq_true', Bool.not_eq_false', Bool.not_eq_eq_eq_not, Bool.not_true, Bool.not_false, Bool.and_eq_true, Bool.or_eq_true, Bool.or_eq_false_iff, beq_iff_eq, beq_eq_false_iff_ne, ne_eq, Int.not_lt, Int.not_le, Decidable.not_not] at hc84
        refine g_skip ?_
        first | refine g_keep [0] [] [] (keep_cons rfl keep_nil) lkeep_nil keep_nil rfl ?_ | refine g_keep [0] [] [] rfl rfl rfl rfl ?_
        first | exact g_has ⟨r8, H1, _, _, v9, .nil0, rfl, rfl, rfl, (by first | rfl | (show AHeap.set (AHeap.set _ p _) p _ = AHeap.set (AHeap.set _ p _) p _; simp only [setAll_append])), ⟨(hW2.write (.box (.agg [v9, ad1])) (.inl (by rw [hp2']; simp))).write (.box (.agg [v9, .nil0])) (.inl (by rw [AHeap.get_set]; simp)), by rw [AHeap.set_set, rTurn, if_pos (List.eq_nil_of_length_eq_zero (by show (addUpTo s there (setOf there).length).1.length = 0; omega))]; exact hR2, hHH1⟩⟩ | exact g_has ⟨r8, H1, e1, h1, al1, ad1, rfl, rfl, rfl, (by first | rfl | (show AHeap.set (AHeap.set _ p _) p _ = AHeap.set (AHeap.set _ p _) p _; simp only [setAll_append])), ⟨hW, by rw [rTurn, if_neg (fun e9 => hc84 (by have e9 : (addUpTo s there (setOf there).length).1 = [] := e9; rw [e9]; rfl))]; exact hR1, hHH1⟩⟩
      ·
       obtain ⟨r8, H1, e1, h1, al1, ad1, rfl, rfl, rfl, rfl, hW, hR1, hHH1⟩ := hI
       have hhH1 := AHeap.sub_trans hhH hHH1
       have hs1 := hW.eff.within hhH1
       have hp1 := hs1 _ _ hR1.pp
       have hq1 := hs1 _ _ hR1.qq
       have h8 := hW.r8s
       have hlv := hR1.lv.mono hs1
       have hdv := hR1.dv.mono hs1
       have hDp : h p ≠ none ∨ w0.heap.size ≤ p := hW.eff.some (by rw [hR1.pp]; simp)
       obtain ⟨htl, htd⟩ := rTurn_len s there
       have hal := setOf_len there
       refine g_seq (fun K13 hK13 => ?_)
       refine g_seq (fun K14 hK14 => ?_)
       refine g_region ?_
       refine g_step rfl (s_val (v_move rfl) rfl rfl ?_)
       refine g_step rfl (s_val (v_nilCheck rfl rfl) rfl rfl ?_)
       refine g_step rfl (s_val (by first | exact v_fieldAddr ty125 fo125_0 ty41 rfl | exact v_fieldAddr_box ty125 fo125_0 ty41 rfl) rfl rfl ?_)
       refine g_step rfl (s_val (by first | exact v_load ty41 rfl rfl (by first | rfl | assumption) (by first | assumption | exact map_get (by assumption) | rfl) rfl | exact v_load_box ty41 rfl rfl hp1 (by rfl)) rfl rfl ?_)
       refine g_step rfl (s_val (v_len ty41 rfl hlv.view (show _ = (rTurn (rAdd s there)).left.length by rw [List.length_map])) rfl rfl ?_)
       refine g_step rfl (s_val (v_eql rfl rfl) rfl rfl ?_)
       refine g_nil ?_
       refine g_next hK14 ?_
       refine g_cond rfl (fun hc102 => ?_) (fun hc102 => ?_)
       ·
        try simp only [decide_eq_true_eq, decide_eq_false_iff_not, Bool.not_eq_true', Bool.not_eq_false', Bool.not_eq_eq_eq_not, Bool.not_true, Bool.not_false, Bool.and_eq_true, Bool.or_eq_true, Bool.or_eq_false_iff, beq_iff_eq, beq_eq_false_iff_ne, ne_eq, Int.not_lt, Int.not_le, Decidable.not_not] at hc102
        refine g_seq (fun K15 hK15 => ?_)
        refine g_region ?_
        refine g_step rfl (s_val (v_assign rfl) rfl rfl ?_)
        refine g_step rfl (s_val (v_assign rfl) rfl rfl ?_)
        refine g_nil ?_
        refine g_next hK15 ?_
        refine g_ret ?_
        refine g_then_ret ?_
        refine g_end2 (.inl rfl) Try.results24 (.tmp rfl) (.tmp rfl) e1 (ASub.refl _) (setAllMono hHH1 e1) (hW.eff.ok hG) ⟨by rw [rNext, rOut_nil (List.eq_nil_of_length_eq_zero (by omega))]; rfl, h1, hW.eff, al1, ad1, by rw [rNext, rOut_nil (List.eq_nil_of_length_eq_zero (by omega))]; exact hR1⟩
       ·
        try simp only [decide_eq_true_eq, decide_eq_false_iff_not, Bool.not_eq_true', Bool.not_eq_false', Bool.not_eq_eq_eq_not, Bool.not_true, Bool.not_false, Bool.and_eq_true, Bool.or_eq_true, Bool.or_eq_false_iff, beq_iff_eq, beq_eq_false_iff_ne, ne_eq, Int.not_lt, Int.not_le, Decidable.not_not] at hc102
        obtain ⟨x, l, hxl⟩ : ∃ x l, (rTurn (rAdd s there)).left = x :: l := by cases hh9 : (rTurn (rAdd s there)).left with | nil => exact absurd (by rw [hh9]; rfl) hc102 | cons x l => exact ⟨x, l, rfl⟩
        obtain ⟨rl, hal1, hrl⟩ := hR1.lv.resolve_left (by rintro ⟨_, h9⟩; rw [hxl] at h9; cases h9)
        rw [List.length_map] at hal1
        have hrlp : rl ≠ p := fun e => by rw [e, hR1.pp] at hrl; cases hrl
        have hrlG := hs1 _ _ hrl
        have hx0 : ((rTurn (rAdd s there)).left.map (AV.int .i64))[0]? = some (.int .i64 x) := by rw [hxl]; rfl
        have hlen1 : 1 ≤ (rTurn (rAdd s there)).left.length := by rw [hxl]; simp
        have hdrop : (rTurn (rAdd s there)).left.take 0 ++ (rTurn (rAdd s there)).left.drop 1 = l := by rw [hxl]; rfl
        have hll : (rTurn (rAdd s there)).left.length - (1 - 0) = l.length := by rw [hxl]; simp
        refine g_skip ?_
        refine g_next hK13 ?_
        refine g_seq (fun K16 hK16 => ?_)
        refine g_region ?_
        refine g_step rfl (s_val (v_move rfl) rfl rfl ?_)
        refine g_step rfl (s_val (v_nilCheck rfl rfl) rfl rfl ?_)
        refine g_step rfl (s_val (by first | exact v_fieldAddr ty125 fo125_0 ty41 rfl | exact v_fieldAddr_box ty125 fo125_0 ty41 rfl) rfl rfl ?_)
        refine g_step rfl (s_val (by first | exact v_load ty41 rfl rfl (by first | rfl | assumption) (by first | assumption | exact map_get (by assumption) | rfl) rfl | exact v_load_box ty41 rfl rfl hp1 (by rfl)) rfl rfl ?_)
        refine g_step rfl (s_val (v_indexAddr ty41 ty3 rfl rfl hlv.view rfl hx0 rfl) rfl rfl ?_)
        refine g_step rfl (s_val (by first | exact v_load ty3 rfl rfl hlv.view hx0 rfl | exact v_load_box ty3 rfl rfl (by assumption) rfl) rfl rfl ?_)
        refine g_step rfl (s_val (v_assign rfl) rfl rfl ?_)
        refine g_nil ?_
        refine g_next hK16 ?_
        refine g_seq (fun K17 hK17 => ?_)
        refine g_region ?_
        rw [hal1] at hp1
        refine g_step rfl (s_val (v_move rfl) rfl rfl ?_)
        refine g_step rfl (s_val (v_move rfl) rfl rfl ?_)
        refine g_step rfl (s_val (v_nilCheck rfl rfl) rfl rfl ?_)
        refine g_step rfl (s_val (by first | exact v_fieldAddr ty125 fo125_0 ty41 rfl | exact v_fieldAddr_box ty125 fo125_0 ty41 rfl) rfl rfl ?_)
        refine g_step rfl (s_val (by first | exact v_load ty41 rfl rfl (by first | rfl | assumption) (by first | assumption | exact map_get (by assumption) | rfl) rfl | exact v_load_box ty41 rfl rfl hp1 (by rfl)) rfl rfl ?_)
        refine g_step rfl (s_call rfl rfl rfl (delI_ok rl 0 1 (rTurn (rAdd s there)).left 0 1 _ rfl rfl hrlG (by omega) hlen1 (by omega)) (fun c hc => by subst hc; exact hW.eff.some (by rw [hrl]; simp)) ?_)
        rintro n9 r9 effs9 hn9 hdom9 ⟨rfl, rfl⟩ hok9
        rw [hdrop, hll]
        refine g_cutrow (G := AHeap.set _ rl _) (m := l.map (.int .i64)) l.length (AHeap.get_set _ _ _) (by rw [List.take_left' (by rw [List.length_map])]) ?_
        refine g_step rfl (s_val (v_nilCheck rfl rfl) rfl rfl ?_)
        refine g_step rfl (s_val (by first | exact v_fieldAddr ty125 fo125_0 ty41 rfl | exact v_fieldAddr_box ty125 fo125_0 ty41 rfl) rfl rfl ?_)
        refine g_step rfl (s_store_box (new := (.agg [.own rl 1 0 l.length, ad1])) ty41 rfl rfl ((AHeap.get_set_ne _ _ (Ne.symm hrlp)).trans ((AHeap.get_set_ne _ _ (Ne.symm hrlp)).trans hp1)) rfl rfl rfl rfl hDp ?_)
        refine g_nil ?_
        have hW6 := ((hW.write (b := rl) (.row 1 (l.map (.int .i64) ++ List.replicate (1 - 0) (.int .i64 0))) (.inl (by rw [hrl]; simp))).write (b := rl) (.row 1 (l.map (.int .i64))) (.inl (by rw [AHeap.get_set]; simp))).write (b := p) (.box (.agg [.own rl 1 0 l.length, ad1])) (.inl (by rw [AHeap.get_set_ne _ _ (Ne.symm hrlp), AHeap.get_set_ne _ _ (Ne.symm hrlp), hR1.pp]; simp))
        have hR6 := hR1.left (h' := ((h1.set rl (.row 1 (l.map (.int .i64) ++ List.replicate (1 - 0) (.int .i64 0)))).set rl (.row 1 (l.map (.int .i64)))).set p (.box (.agg [.own rl 1 0 l.length, ad1]))) (al' := .own rl 1 0 l.length) (l := l) (AHeap.get_set _ _ _) (.inr ⟨rl, by rw [List.length_map], by rw [AHeap.get_set_ne _ _ hrlp]; exact AHeap.get_set _ _ _⟩) (fun c y hc hcp hcw => by have hcr : c ≠ rl := fun e => hcw _ (e ▸ hal1); rw [AHeap.get_set_ne _ _ hcp, AHeap.get_set_ne _ _ hcr, AHeap.get_set_ne _ _ hcr]; exact hc) (fun z n e => by cases e; exact .inr ⟨_, hal1⟩)
        have hs6 := hW6.eff.within hhH1
        have hdv6 := hR6.dv.mono hs6
        refine g_next hK17 ?_
        refine g_seq (fun K18 hK18 => ?_)
        refine g_region ?_
        refine g_step rfl (s_val (v_move rfl) rfl rfl ?_)
        refine g_step rfl (s_val (v_move rfl) rfl rfl ?_)
        refine g_step rfl (s_val (v_nilCheck rfl rfl) rfl rfl ?_)
        refine g_step rfl (s_val (by first | exact v_fieldAddr ty125 fo125_1 ty41 rfl | exact v_fieldAddr_box ty125 fo125_1 ty41 rfl) rfl rfl ?_)
        refine g_step rfl (s_val (by first | exact v_load ty41 rfl rfl (by first | rfl | assumption) (by first | assumption | exact map_get (by assumption) | rfl) rfl | exact v_load_box ty41 rfl rfl (AHeap.get_set _ _ _) (by rfl)) rfl rfl ?_)
        refine g_step rfl (s_val (v_move rfl) rfl rfl ?_)
        refine g_step rfl (s_lit ty41 ty3 rfl rfl rfl rfl rfl rfl rfl ?_)
        refine g_step rfl (s_appendV (l := ((rTurn (rAdd s there)).done.map (AV.int .i64))) (m := ([x].map (AV.int .i64))) ty41 ty3 rfl rfl (by rcases hdv6 with h9 | ⟨z, h9, h8⟩; exact .inl h9; exact .inr ⟨z, h9, h8, hW6.eff.some (by rw [svat hR6.dv h9]; simp)⟩) rfl rfl (by refine Even.map _ ?_ _; intro _; rfl) (by intro x hx; obtain ⟨_, _, rfl⟩ := List.mem_map.1 hx; rfl) rfl (by simp) (by simp; omega) (by simp; omega) ?_)
        intro r' hr'
        rw [← List.map_append]
        obtain ⟨hpr', hW7, hR7⟩ := ring_app (l' := (rTurn (rAdd s there)).done ++ [x]) hW6 hR6 hhH1 hr' (((rTurn (rAdd s there)).done ++ [x]).map (AV.int .i64)).length (by rw [List.length_map])
        refine g_step rfl (s_val (v_nilCheck rfl rfl) rfl rfl ?_)
        refine g_step rfl (s_val (by first | exact v_fieldAddr ty125 fo125_1 ty41 rfl | exact v_fieldAddr_box ty125 fo125_1 ty41 rfl) rfl rfl ?_)
        refine g_step rfl (s_store_box (new := (.agg [.own rl 1 0 l.length, .own r' 1 0 (((rTurn (rAdd s there)).done ++ [x]).map (AV.int .i64)).length])) ty41 rfl rfl ((AHeap.get_set_ne _ _ hpr').trans (AHeap.get_set _ _ _)) rfl rfl rfl rfl hDp ?_)
        refine g_nil ?_
        refine g_next hK18 ?_
        first | refine g_keep [13] [] [] (keep_cons rfl keep_nil) lkeep_nil keep_nil rfl ?_ | refine g_keep [13] [] [] rfl rfl rfl rfl ?_
        refine g_seq (fun K19 hK19 => ?_)
        refine g_region ?_
        refine g_step rfl (s_val (v_move rfl) rfl rfl ?_)
        refine g_step rfl (s_val (v_assign rfl) rfl rfl ?_)
        refine g_step rfl (s_val (v_assign rfl) rfl rfl ?_)
        refine g_nil ?_
        refine g_next hK19 ?_
        refine g_ret ?_
        refine g_end2 (.inl rfl) Try.results24 (.tmp rfl) (.tmp rfl) _ (ASub.refl _) (setAllMono hHH1 _) (hW7.eff.ok hG) ⟨by rw [rNext, rOut_cons hxl]; rfl, _, hW7.eff, _, _, by rw [rNext, rOut_cons hxl]; exact hR7⟩

end Go.Proofs.Ytobigfbgaiglkaa

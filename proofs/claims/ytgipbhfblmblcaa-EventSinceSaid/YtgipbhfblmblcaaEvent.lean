import Derived.Test.YtgipbhfblmblcaaRec2
import Derived.Test.YtgipbhfblmblcaaPEvent2
set_option maxHeartbeats 8000000
set_option linter.unusedSimpArgs false
set_option linter.unusedVariables false
set_option maxRecDepth 100000
namespace Go.Proofs.Ytgipbhfblmblcaa
open Go Go.Proofs.Ytgipbhfblmblcaa.AM
theorem turned_ok (s : Int) (G : AHeap) : PCalls Try.prog 81 [.int .i64 s] G (fun v => v = .int .i64 (turned s)) := by
  refine LCalls.intro 10 fi81 rfl Try.ntmps81 rfl (fun _ h => h.elim) (fun H hH w0 hw0 => ?_)
  refine g_seq (fun K0 hK0 => ?_)
  refine g_region ?_
  refine g_step rfl (s_val (v_assign rfl) rfl rfl ?_)
  refine g_nil ?_
  refine g_next hK0 ?_
  refine g_seq (fun K1 hK1 => ?_)
  refine g_seq (fun K2 hK2 => ?_)
  refine g_region ?_
  refine g_step rfl (s_val (v_move rfl) rfl rfl ?_)
  refine g_nil ?_
  refine g_next hK2 ?_
  refine g_block ?_
  refine g_seq (fun K3 hK3 => ?_)
  refine g_region ?_
  refine g_step rfl (s_val (v_eql rfl rfl) rfl rfl ?_)
  refine g_step rfl (s_val (v_assign rfl) rfl rfl ?_)
  refine g_nil ?_
  refine g_next hK3 ?_
  refine g_cond rfl (fun hc4 => ?_) (fun hc4 => ?_)
  · try simp only [decide_eq_true_eq, decide_eq_false_iff_not, Bool.not_eq_true', Bool.not_eq_false', Bool.not_eq_eq_eq_not, Bool.not_true, Bool.not_false, Bool.and_eq_true, Bool.or_eq_true, Bool.or_eq_false_iff, beq_iff_eq, beq_eq_false_iff_ne, ne_eq, Int.not_lt, Int.not_le, Decidable.not_not] at hc4
    refine g_seq (fun K4 hK4 => ?_)
    refine g_region ?_
    refine g_step rfl (s_val (v_assign rfl) rfl rfl ?_)
    refine g_nil ?_
    refine g_next hK4 ?_
    refine g_ret ?_
    refine g_block_ret ?_
    refine g_then_ret ?_
    refine g_end1 (.inl rfl) Try.results81 (.tmp rfl) [] (ASub.refl _) (AHeap.sub_refl _) (fun p hp => by cases hp) ⟨rfl, ?_⟩
    first | (rw [turned, if_pos (by omega)]; done) | (rw [turned, if_pos (by omega)]; rfl)
  · try simp only [decide_eq_true_eq, decide_eq_false_iff_not, Bool.not_eq_true', Bool.not_eq_false', Bool.not_eq_eq_eq_not, Bool.not_true, Bool.not_false, Bool.and_eq_true, Bool.or_eq_true, Bool.or_eq_false_iff, beq_iff_eq, beq_eq_false_iff_ne, ne_eq, Int.not_lt, Int.not_le, Decidable.not_not] at hc4
    refine g_seq (fun K5 hK5 => ?_)
    refine g_region ?_
    refine g_step rfl (s_val (v_eql rfl rfl) rfl rfl ?_)
    refine g_step rfl (s_val (v_assign rfl) rfl rfl ?_)
    refine g_nil ?_
    refine g_next hK5 ?_
    refine g_cond rfl (fun hc6 => ?_) (fun hc6 => ?_)
    · try simp only [decide_eq_true_eq, decide_eq_false_iff_not, Bool.not_eq_true', Bool.not_eq_false', Bool.not_eq_eq_eq_not, Bool.not_true, Bool.not_false, Bool.and_eq_true, Bool.or_eq_true, Bool.or_eq_false_iff, beq_iff_eq, beq_eq_false_iff_ne, ne_eq, Int.not_lt, Int.not_le, Decidable.not_not] at hc6
      refine g_seq (fun K6 hK6 => ?_)
      refine g_region ?_
      refine g_step rfl (s_val (v_assign rfl) rfl rfl ?_)
      refine g_nil ?_
      refine g_next hK6 ?_
      refine g_ret ?_
      refine g_block_ret ?_
      refine g_then_ret ?_
      refine g_end1 (.inl rfl) Try.results81 (.tmp rfl) [] (ASub.refl _) (AHeap.sub_refl _) (fun p hp => by cases hp) ⟨rfl, ?_⟩
      first | (rw [turned, if_neg (by omega), if_pos (by omega)]; done) | (rw [turned, if_neg (by omega), if_pos (by omega)]; rfl)
    · try simp only [decide_eq_true_eq, decide_eq_false_iff_not, Bool.not_eq_true', Bool.not_eq_false', Bool.not_eq_eq_eq_not, Bool.not_true, Bool.not_false, Bool.and_eq_true, Bool.or_eq_true, Bool.or_eq_false_iff, beq_iff_eq, beq_eq_false_iff_ne, ne_eq, Int.not_lt, Int.not_le, Decidable.not_not] at hc6
      refine g_seq (fun K7 hK7 => ?_)
      refine g_region ?_
      refine g_step rfl (s_val (v_eql rfl rfl) rfl rfl ?_)
      refine g_step rfl (s_val (v_assign rfl) rfl rfl ?_)
      refine g_nil ?_
      refine g_next hK7 ?_
      refine g_cond rfl (fun hc8 => ?_) (fun hc8 => ?_)
      · try simp only [decide_eq_true_eq, decide_eq_false_iff_not, Bool.not_eq_true', Bool.not_eq_false', Bool.not_eq_eq_eq_not, Bool.not_true, Bool.not_false, Bool.and_eq_true, Bool.or_eq_true, Bool.or_eq_false_iff, beq_iff_eq, beq_eq_false_iff_ne, ne_eq, Int.not_lt, Int.not_le, Decidable.not_not] at hc8
        refine g_seq (fun K8 hK8 => ?_)
        refine g_region ?_
        refine g_step rfl (s_val (v_assign rfl) rfl rfl ?_)
        refine g_nil ?_
        refine g_next hK8 ?_
        refine g_ret ?_
        refine g_block_ret ?_
        refine g_then_ret ?_
        refine g_end1 (.inl rfl) Try.results81 (.tmp rfl) [] (ASub.refl _) (AHeap.sub_refl _) (fun p hp => by cases hp) ⟨rfl, ?_⟩
        first | (rw [turned, if_neg (by omega), if_neg (by omega), if_pos (by omega)]; done) | (rw [turned, if_neg (by omega), if_neg (by omega), if_pos (by omega)]; rfl)
      · try simp only [decide_eq_true_eq, decide_eq_false_iff_not, Bool.not_eq_true', Bool.not_eq_false', Bool.not_eq_eq_eq_not, Bool.not_true, Bool.not_false, Bool.and_eq_true, Bool.or_eq_true, Bool.or_eq_false_iff, beq_iff_eq, beq_eq_false_iff_ne, ne_eq, Int.not_lt, Int.not_le, Decidable.not_not] at hc8
        refine g_skip ?_
        refine g_block_normal ?_
        refine g_next hK1 ?_
        refine g_seq (fun K9 hK9 => ?_)
        refine g_region ?_
        refine g_step rfl (s_val (v_assign rfl) rfl rfl ?_)
        refine g_nil ?_
        refine g_next hK9 ?_
        refine g_ret ?_
        refine g_end1 (.inl rfl) Try.results81 (.tmp rfl) [] (ASub.refl _) (AHeap.sub_refl _) (fun p hp => by cases hp) ⟨rfl, ?_⟩
        first | (rw [turned, if_neg (by omega), if_neg (by omega), if_neg (by omega)]; done) | (rw [turned, if_neg (by omega), if_neg (by omega), if_neg (by omega)]; rfl)

theorem of1T_ok (q p : Nat) (k : Int) (a : Rc) (out : List Ev) (ao : AV) (G : AHeap) (hp : G p = some (.box (encR a))) (hq : G q = some (.box ao)) (ho : SV G 2 ao (out.map encE)) (hlen : out.length ≤ 1000000) : LCalls Try.prog 80 [.bool true, .int .i64 k, .box q 0, .box p 0] G (fun b => b = q ∨ ∃ j, ao = .own b 2 0 j) (fun n r effs => r = .tup [] ∧ PutE n q true k a.id ao out effs) := by
  refine LCalls.intro 14 fi80 rfl Try.ntmps80 rfl (by rintro b (rfl | ⟨k, hk⟩); rw [hq]; simp; rcases ho with ⟨h1, _⟩ | ⟨r, h1, h2⟩; (rw [hk] at h1; cases h1); (rw [hk] at h1; cases h1; rw [h2]; simp)) (fun H hH w0 hw0 => ?_)
  have hp1 := hH _ _ hp
  have hq1 := hH _ _ hq
  have ho1 := ho.mono hH
  refine g_seq (fun K0 hK0 => ?_)
  refine g_region ?_
  refine g_step rfl (s_val (v_move rfl) rfl rfl ?_)
  refine g_nil ?_
  refine g_next hK0 ?_
  refine g_cond rfl (fun hc6 => ?_) (fun hc6 => ?_)
  · try simp only [decide_eq_true_eq, decide_eq_false_iff_not, Bool.not_eq_true', Bool.not_eq_false', Bool.not_eq_eq_eq_not, Bool.not_true, Bool.not_false, Bool.and_eq_true, Bool.or_eq_true, Bool.or_eq_false_iff, beq_iff_eq, beq_eq_false_iff_ne, ne_eq, Int.not_lt, Int.not_le, Decidable.not_not] at hc6
    refine g_region ?_
    have hsv : (ao = .nil0 ∧ out.map encE = []) ∨ ∃ r, ao = .own r 2 0 (out.map encE).length ∧ H r = some (.row 2 (out.map encE)) ∧ ((r = q ∨ ∃ k, ao = .own r 2 0 k) ∨ w0.heap.size ≤ r) := ho1.imp id fun ⟨r, h1, h2⟩ => ⟨r, h1, h2, .inl (.inr ⟨_, h1⟩)⟩
    refine g_step rfl (s_val (by first | exact v_load ty25 rfl rfl (by first | rfl | assumption) (by first | assumption | exact map_get (by assumption) | rfl) rfl | exact v_load_box ty25 rfl rfl hq1 (by rw [ho1.one.1]; rfl)) rfl rfl ?_)
    refine g_step rfl (s_val (v_move rfl) rfl rfl ?_)
    refine g_step rfl (s_val (by first | exact v_fieldAddr ty46 fo46_0 ty3 rfl | exact v_fieldAddr_box ty46 fo46_0 ty3 rfl) rfl rfl ?_)
    refine g_step rfl (s_val (by first | exact v_load ty3 rfl rfl (by first | rfl | assumption) (by first | assumption | exact map_get (by assumption) | rfl) rfl | exact v_load_box ty3 rfl rfl hp1 (by rfl)) rfl rfl ?_)
    refine g_step rfl (s_val (v_build (vs := [(0, _), (1, _)]) (zs := [(.int .i64 0), (.int .i64 0)]) (cells := [_, _]) ty37 pl37 rfl rfl rfl) rfl rfl ?_)
    refine g_step rfl (s_lit ty25 ty37 rfl rfl rfl rfl rfl rfl rfl ?_)
    refine g_step rfl (s_appendV (l := (out.map encE)) (m := ([(⟨k, a.id⟩ : Ev)].map encE)) ty25 ty37 rfl rfl hsv rfl rfl (by refine Even.map _ ?_ _; intro _; rfl) (by intro x hx; obtain ⟨_, _, rfl⟩ := List.mem_map.1 hx; rfl) rfl (by simp) (by simp; omega) (by simp; omega) ?_)
    intro r13 hr13
    rw [← List.map_append]
    have hq13 : q ≠ r13 := fun e => by subst e; rcases hr13 with ⟨h1, _⟩ | h1; (rw [hq1] at h1; cases h1); (rcases hsv with ⟨h2, _⟩ | ⟨r, h2, h3, _⟩; (rw [h1] at h2; cases h2); (rw [h1] at h2; cases h2; rw [hq1] at h3; cases h3))
    refine g_step rfl (s_store_box (new := .own r13 2 0 ((out ++ [(⟨k, a.id⟩ : Ev)]).map encE).length) ty25 rfl rfl ((AHeap.get_set_ne _ _ hq13).trans hq1) rfl rfl (by rw [ho1.one.1]; rfl) (by rw [ho1.one.1]; rfl) (.inl (.inl rfl)) ?_)
    refine g_nil ?_
    refine g_end0 (.inr rfl) Try.results80  [(q, .box (.own r13 2 0 ((out ++ [(⟨k, a.id⟩ : Ev)]).map encE).length)), (r13, .row 2 ((out ++ [(⟨k, a.id⟩ : Ev)]).map encE))]  (AHeap.sub_refl _) (fun z hz => by simp at hz; rcases hz with rfl | rfl; (left; rw [hq]; simp); (rcases hr13 with ⟨_, h1⟩ | h1; (right; exact h1); (left; rcases ho with ⟨h2, _⟩ | ⟨r, h2, h3⟩; (rw [h1] at h2; cases h2); (rw [h1] at h2; cases h2; rw [h3]; simp)))) ⟨rfl, .inr ⟨rfl, r13, hr13.imp (fun h => h.2) (fun h => ⟨_, h⟩), rfl⟩⟩
  · exfalso; (try simp only [decide_eq_true_eq, decide_eq_false_iff_not, Bool.not_eq_true', Bool.not_eq_false', Bool.not_eq_eq_eq_not, Bool.not_true, Bool.not_false, Bool.and_eq_true, Bool.or_eq_true, Bool.or_eq_false_iff, beq_iff_eq, beq_eq_false_iff_ne, ne_eq, Int.not_lt, Int.not_le, Decidable.not_not] at hc6); simp at hc6

theorem of1F_ok (q p : Nat) (k : Int) (a : Rc) (out : List Ev) (ao : AV) (G : AHeap) (hp : G p = some (.box (encR a))) (hq : G q = some (.box ao)) (ho : SV G 2 ao (out.map encE)) (hlen : out.length ≤ 1000000) : LCalls Try.prog 80 [.bool false, .int .i64 k, .box q 0, .box p 0] G (fun b => b = q ∨ ∃ j, ao = .own b 2 0 j) (fun n r effs => r = .tup [] ∧ PutE n q false k a.id ao out effs) := by
  refine LCalls.intro 14 fi80 rfl Try.ntmps80 rfl (by rintro b (rfl | ⟨k, hk⟩); rw [hq]; simp; rcases ho with ⟨h1, _⟩ | ⟨r, h1, h2⟩; (rw [hk] at h1; cases h1); (rw [hk] at h1; cases h1; rw [h2]; simp)) (fun H hH w0 hw0 => ?_)
  have hp1 := hH _ _ hp
  have hq1 := hH _ _ hq
  have ho1 := ho.mono hH
  refine g_seq (fun K0 hK0 => ?_)
  refine g_region ?_
  refine g_step rfl (s_val (v_move rfl) rfl rfl ?_)
  refine g_nil ?_
  refine g_next hK0 ?_
  refine g_cond rfl (fun hc6 => ?_) (fun hc6 => ?_)
  · exfalso; (try simp only [decide_eq_true_eq, decide_eq_false_iff_not, Bool.not_eq_true', Bool.not_eq_false', Bool.not_eq_eq_eq_not, Bool.not_true, Bool.not_false, Bool.and_eq_true, Bool.or_eq_true, Bool.or_eq_false_iff, beq_iff_eq, beq_eq_false_iff_ne, ne_eq, Int.not_lt, Int.not_le, Decidable.not_not] at hc6); simp at hc6
  · try simp only [decide_eq_true_eq, decide_eq_false_iff_not, Bool.not_eq_true', Bool.not_eq_false', Bool.not_eq_eq_eq_not, Bool.not_true, Bool.not_false, Bool.and_eq_true, Bool.or_eq_true, Bool.or_eq_false_iff, beq_iff_eq, beq_eq_false_iff_ne, ne_eq, Int.not_lt, Int.not_le, Decidable.not_not] at hc6
    refine g_skip ?_
    refine g_end0 (.inr rfl) Try.results80  []  (AHeap.sub_refl _) (fun z hz => by cases hz) ⟨rfl, .inl ⟨rfl, rfl⟩⟩

theorem of1_ok (c : Bool) (q p : Nat) (k : Int) (a : Rc) (out : List Ev) (ao : AV) (G : AHeap) (hp : G p = some (.box (encR a))) (hq : G q = some (.box ao)) (ho : SV G 2 ao (out.map encE)) (hlen : out.length ≤ 1000000) : LCalls Try.prog 80 [.bool c, .int .i64 k, .box q 0, .box p 0] G (fun b => b = q ∨ ∃ j, ao = .own b 2 0 j) (fun n r effs => r = .tup [] ∧ PutE n q c k a.id ao out effs) := by
  cases c
  · exact of1F_ok q p k a out ao G hp hq ho hlen
  · exact of1T_ok q p k a out ao G hp hq ho hlen
theorem evI_len (c : Bool) (k i : Int) : (evI c k i).length ≤ 1 := by unfold evI; split <;> simp
theorem len1 (a b : Rc) : (evI (decide (a.st ≠ b.st)) (turned b.st) a.id).length ≤ 1000000 := by have h1 := evI_len (decide (a.st ≠ b.st)) (turned b.st) a.id; omega
theorem len2 (a b : Rc) : (evI (decide (a.st ≠ b.st)) (turned b.st) a.id ++ evI (decide (a.sp ≠ b.sp)) 6 a.id).length ≤ 1000000 := by have h1 := evI_len (decide (a.st ≠ b.st)) (turned b.st) a.id; have h2 := evI_len (decide (a.sp ≠ b.sp)) 6 a.id; simp only [List.length_append]; omega
theorem len3 (a b : Rc) : (evI (decide (a.st ≠ b.st)) (turned b.st) a.id ++ evI (decide (a.sp ≠ b.sp)) 6 a.id ++ evI (decide (a.cut ≠ b.cut ∨ a.bag ≠ b.bag)) 7 a.id).length ≤ 1000000 := by have h1 := evI_len (decide (a.st ≠ b.st)) (turned b.st) a.id; have h2 := evI_len (decide (a.sp ≠ b.sp)) 6 a.id; have h3 := evI_len (decide (a.cut ≠ b.cut ∨ a.bag ≠ b.bag)) 7 a.id; simp only [List.length_append]; omega
theorem evof_ok (a b : Rc) (G : AHeap) (hs : Small a.bag) : PCalls Try.prog 50 [encR a, encR b] G (fun v => v = .imm ((ofL a b).map encE)) := by
  refine LCalls.intro 48 fi50 rfl Try.ntmps50 rfl (fun _ h => h.elim) (fun H hH w0 hw0 => ?_)
  refine g_seq (fun K0 hK0 => ?_)
  refine g_region ?_
  refine g_step rfl (s_box rfl rfl rfl rfl ?_)
  refine g_step rfl (s_box rfl rfl rfl rfl ?_)
  refine g_step rfl (s_val (v_assign rfl) rfl rfl ?_)
  refine g_nil ?_
  refine g_next hK0 ?_
  refine g_seq (fun K1 hK1 => ?_)
  refine g_region ?_
  refine g_step rfl (s_alloc (av := .nil0) ty25 rfl rfl rfl rfl ?_)
  refine g_nil ?_
  refine g_next hK1 ?_
  refine g_seq (fun K2 hK2 => ?_)
  refine g_region ?_
  refine g_expose 5 rfl rfl (fun r5 hr5 hw5 => ?_)
  refine g_expose 2 rfl rfl (fun r2 hr2 hw2 => ?_)
  refine g_step rfl (s_val (v_makeFunc rfl) rfl rfl ?_)
  refine g_step rfl (s_val (v_assign rfl) rfl rfl ?_)
  refine g_nil ?_
  refine g_next hK2 ?_
  refine g_cut (fun env L B G => env = [(2, .box r2 0), (5, .box r5 0), (6, .fn (.func 80) [.box r5 0, .box r2 0])] ∧ L = [(3, 3, 0)] ∧ B = [(3, (encR b))] ∧ OfSt w0.heap.size r5 r2 H G a (evI (decide (a.st ≠ b.st)) (turned b.st) a.id)) ?_ (fun env L B G hI => ?_)
  · skip
    refine g_draw (n := 10) (fun j => !([9] : List Nat).contains j) rfl rfl ?_
    have hne : r2 ≠ r5 := fun e => by subst e; rw [AHeap.get_set] at hr2; cases hr2
    have hst : OfSt w0.heap.size r5 r2 H (AHeap.set (AHeap.set H r5 (.box .nil0)) r2 (.box (encR a))) a ([]) := ⟨⟨.nil0, by rw [AHeap.get_set_ne _ _ (Ne.symm hne)]; exact AHeap.get_set _ _ _, .inl ⟨rfl, rfl⟩, fun _ _ e => by cases e⟩, AHeap.get_set _ _ _, AHeap.sub_set (AHeap.sub_set (AHeap.sub_refl _) hr5) hr2, hw5, hw2, hne⟩
    obtain ⟨ao, hq, ho, hof⟩ := hst.out
    have hal : ([] : List Ev).length ≤ 1000000 := by simp
    generalize (AHeap.set (AHeap.set H r5 (.box .nil0)) r2 (.box (encR a))) = G2 at *
    refine m_take 0 false rfl rfl (by kernel_rfl) (by kernel_rfl) (by kernel_rfl) (fun _ _ _ _ h => h) (v_move rfl) rfl rfl ?_
    refine m_take 1 false rfl rfl (by kernel_rfl) (by kernel_rfl) (by kernel_rfl) (fun _ _ _ _ h => h) (by first | exact v_fieldAddr ty46 fo46_2 ty3 rfl | exact v_fieldAddr_box ty46 fo46_2 ty3 rfl) rfl rfl ?_
    refine m_takel 3 rfl rfl (by kernel_rfl) (by kernel_rfl) (by kernel_rfl) (fun _ _ _ _ h => h) (vl_fieldAddr ty46 fo46_2 ty3 rfl) rfl rfl ?_
    refine m_takel 6 rfl rfl (by kernel_rfl) (by kernel_rfl) (by kernel_rfl) (fun _ _ _ _ h => h) (vl_fieldAddr ty46 fo46_2 ty3 rfl) rfl rfl ?_
    refine m_all (is := [2, 4, 7]) (by kernel_rfl) rfl (fun _ _ _ => trivial) (fun i hi => ?_)
    rcases (by simpa using hi : i = 2 ∨ i = 4 ∨ i = 7) with rfl | rfl | rfl
    · refine ⟨_, rfl, .inl ⟨rfl, ?_⟩⟩
      refine sm_val (by first | exact v_load ty3 rfl rfl (by first | rfl | assumption) (by first | assumption | exact map_get (by assumption) | rfl) rfl | exact v_load_box ty3 rfl rfl hst.arec (by rfl)) rfl rfl ?_
      refine m_all (is := [4, 7]) (by kernel_rfl) rfl (fun _ _ _ => trivial) (fun i hi => ?_)
      rcases (by simpa using hi : i = 4 ∨ i = 7) with rfl | rfl
      · refine ⟨_, rfl, .inl ⟨rfl, ?_⟩⟩
        refine sm_val (v_loadl ty3 rfl rfl rfl rfl) rfl rfl ?_
        refine m_take 5 false rfl rfl (by kernel_rfl) (by kernel_rfl) (by kernel_rfl) (fun _ _ _ _ h => h) (v_neq rfl rfl) rfl rfl ?_
        refine m_one 7 (by kernel_rfl) rfl rfl ?_
        refine sm_val (v_loadl ty3 rfl rfl rfl rfl) rfl rfl ?_
        refine m_one 8 (by kernel_rfl) rfl rfl ?_
        refine sm_callp rfl rfl rfl (turned_ok _ _) ?_
        rintro _ rfl
        refine m_one 9 (by kernel_rfl) rfl rfl ?_
        refine sm_any rfl (s_call rfl rfl rfl (of1_ok _ r5 r2 _ a ([]) ao _ hst.arec hq ho hal) (fun b hb => .inr (by rcases hb with rfl | ⟨k, hk⟩; exact hst.fq; exact hof _ _ hk)) ?_)
        rintro n1 r1 effs1 hn1 hdom1 ⟨rfl, he1⟩ hok1
        have hst2 := hst.step hw0 hn1 hdom1 hq ho hof he1
        generalize setAll _ effs1 = G2 at hst2 ⊢
        refine m_done (by kernel_rfl) ?_
        first | refine g_keep [2, 5, 6] [3] [3] (keep_cons rfl (keep_cons rfl (keep_cons rfl keep_nil))) (lkeep_cons rfl lkeep_nil) (keep_cons rfl keep_nil) rfl ?_ | refine g_keep [2, 5, 6] [3] [3] rfl rfl rfl rfl ?_
        exact g_has ⟨rfl, rfl, rfl, (by simpa using hst2)⟩
      · refine ⟨_, rfl, .inl ⟨rfl, ?_⟩⟩
        refine sm_val (v_loadl ty3 rfl rfl rfl rfl) rfl rfl ?_
        refine m_all (is := [4, 8]) (by kernel_rfl) rfl (fun _ _ _ => trivial) (fun i hi => ?_)
        rcases (by simpa using hi : i = 4 ∨ i = 8) with rfl | rfl
        · refine ⟨_, rfl, .inl ⟨rfl, ?_⟩⟩
          refine sm_val (v_loadl ty3 rfl rfl rfl rfl) rfl rfl ?_
          refine m_take 5 false rfl rfl (by kernel_rfl) (by kernel_rfl) (by kernel_rfl) (fun _ _ _ _ h => h) (v_neq rfl rfl) rfl rfl ?_
          refine m_one 8 (by kernel_rfl) rfl rfl ?_
          refine sm_callp rfl rfl rfl (turned_ok _ _) ?_
          rintro _ rfl
          refine m_one 9 (by kernel_rfl) rfl rfl ?_
          refine sm_any rfl (s_call rfl rfl rfl (of1_ok _ r5 r2 _ a ([]) ao _ hst.arec hq ho hal) (fun b hb => .inr (by rcases hb with rfl | ⟨k, hk⟩; exact hst.fq; exact hof _ _ hk)) ?_)
          rintro n1 r1 effs1 hn1 hdom1 ⟨rfl, he1⟩ hok1
          have hst2 := hst.step hw0 hn1 hdom1 hq ho hof he1
          generalize setAll _ effs1 = G2 at hst2 ⊢
          refine m_done (by kernel_rfl) ?_
          first | refine g_keep [2, 5, 6] [3] [3] (keep_cons rfl (keep_cons rfl (keep_cons rfl keep_nil))) (lkeep_cons rfl lkeep_nil) (keep_cons rfl keep_nil) rfl ?_ | refine g_keep [2, 5, 6] [3] [3] rfl rfl rfl rfl ?_
          exact g_has ⟨rfl, rfl, rfl, (by simpa using hst2)⟩
        · refine ⟨_, rfl, .inl ⟨rfl, ?_⟩⟩
          refine sm_callp rfl rfl rfl (turned_ok _ _) ?_
          rintro _ rfl
          refine m_one 4 (by kernel_rfl) rfl rfl ?_
          refine sm_val (v_loadl ty3 rfl rfl rfl rfl) rfl rfl ?_
          refine m_take 5 false rfl rfl (by kernel_rfl) (by kernel_rfl) (by kernel_rfl) (fun _ _ _ _ h => h) (v_neq rfl rfl) rfl rfl ?_
          refine m_one 9 (by kernel_rfl) rfl rfl ?_
          refine sm_any rfl (s_call rfl rfl rfl (of1_ok _ r5 r2 _ a ([]) ao _ hst.arec hq ho hal) (fun b hb => .inr (by rcases hb with rfl | ⟨k, hk⟩; exact hst.fq; exact hof _ _ hk)) ?_)
          rintro n1 r1 effs1 hn1 hdom1 ⟨rfl, he1⟩ hok1
          have hst2 := hst.step hw0 hn1 hdom1 hq ho hof he1
          generalize setAll _ effs1 = G2 at hst2 ⊢
          refine m_done (by kernel_rfl) ?_
          first | refine g_keep [2, 5, 6] [3] [3] (keep_cons rfl (keep_cons rfl (keep_cons rfl keep_nil))) (lkeep_cons rfl lkeep_nil) (keep_cons rfl keep_nil) rfl ?_ | refine g_keep [2, 5, 6] [3] [3] rfl rfl rfl rfl ?_
          exact g_has ⟨rfl, rfl, rfl, (by simpa using hst2)⟩
    · refine ⟨_, rfl, .inl ⟨rfl, ?_⟩⟩
      refine sm_val (v_loadl ty3 rfl rfl rfl rfl) rfl rfl ?_
      refine m_all (is := [2, 7]) (by kernel_rfl) rfl (fun _ _ _ => trivial) (fun i hi => ?_)
      rcases (by simpa using hi : i = 2 ∨ i = 7) with rfl | rfl
      · refine ⟨_, rfl, .inl ⟨rfl, ?_⟩⟩
        refine sm_val (by first | exact v_load ty3 rfl rfl (by first | rfl | assumption) (by first | assumption | exact map_get (by assumption) | rfl) rfl | exact v_load_box ty3 rfl rfl hst.arec (by rfl)) rfl rfl ?_
        refine m_take 5 false rfl rfl (by kernel_rfl) (by kernel_rfl) (by kernel_rfl) (fun _ _ _ _ h => h) (v_neq rfl rfl) rfl rfl ?_
        refine m_one 7 (by kernel_rfl) rfl rfl ?_
        refine sm_val (v_loadl ty3 rfl rfl rfl rfl) rfl rfl ?_
        refine m_one 8 (by kernel_rfl) rfl rfl ?_
        refine sm_callp rfl rfl rfl (turned_ok _ _) ?_
        rintro _ rfl
        refine m_one 9 (by kernel_rfl) rfl rfl ?_
        refine sm_any rfl (s_call rfl rfl rfl (of1_ok _ r5 r2 _ a ([]) ao _ hst.arec hq ho hal) (fun b hb => .inr (by rcases hb with rfl | ⟨k, hk⟩; exact hst.fq; exact hof _ _ hk)) ?_)
        rintro n1 r1 effs1 hn1 hdom1 ⟨rfl, he1⟩ hok1
        have hst2 := hst.step hw0 hn1 hdom1 hq ho hof he1
        generalize setAll _ effs1 = G2 at hst2 ⊢
        refine m_done (by kernel_rfl) ?_
        first | refine g_keep [2, 5, 6] [3] [3] (keep_cons rfl (keep_cons rfl (keep_cons rfl keep_nil))) (lkeep_cons rfl lkeep_nil) (keep_cons rfl keep_nil) rfl ?_ | refine g_keep [2, 5, 6] [3] [3] rfl rfl rfl rfl ?_
        exact g_has ⟨rfl, rfl, rfl, (by simpa using hst2)⟩
      · refine ⟨_, rfl, .inl ⟨rfl, ?_⟩⟩
        refine sm_val (v_loadl ty3 rfl rfl rfl rfl) rfl rfl ?_
        refine m_all (is := [2, 8]) (by kernel_rfl) rfl (fun _ _ _ => trivial) (fun i hi => ?_)
        rcases (by simpa using hi : i = 2 ∨ i = 8) with rfl | rfl
        · refine ⟨_, rfl, .inl ⟨rfl, ?_⟩⟩
          refine sm_val (by first | exact v_load ty3 rfl rfl (by first | rfl | assumption) (by first | assumption | exact map_get (by assumption) | rfl) rfl | exact v_load_box ty3 rfl rfl hst.arec (by rfl)) rfl rfl ?_
          refine m_take 5 false rfl rfl (by kernel_rfl) (by kernel_rfl) (by kernel_rfl) (fun _ _ _ _ h => h) (v_neq rfl rfl) rfl rfl ?_
          refine m_one 8 (by kernel_rfl) rfl rfl ?_
          refine sm_callp rfl rfl rfl (turned_ok _ _) ?_
          rintro _ rfl
          refine m_one 9 (by kernel_rfl) rfl rfl ?_
          refine sm_any rfl (s_call rfl rfl rfl (of1_ok _ r5 r2 _ a ([]) ao _ hst.arec hq ho hal) (fun b hb => .inr (by rcases hb with rfl | ⟨k, hk⟩; exact hst.fq; exact hof _ _ hk)) ?_)
          rintro n1 r1 effs1 hn1 hdom1 ⟨rfl, he1⟩ hok1
          have hst2 := hst.step hw0 hn1 hdom1 hq ho hof he1
          generalize setAll _ effs1 = G2 at hst2 ⊢
          refine m_done (by kernel_rfl) ?_
          first | refine g_keep [2, 5, 6] [3] [3] (keep_cons rfl (keep_cons rfl (keep_cons rfl keep_nil))) (lkeep_cons rfl lkeep_nil) (keep_cons rfl keep_nil) rfl ?_ | refine g_keep [2, 5, 6] [3] [3] rfl rfl rfl rfl ?_
          exact g_has ⟨rfl, rfl, rfl, (by simpa using hst2)⟩
        · refine ⟨_, rfl, .inl ⟨rfl, ?_⟩⟩
          refine sm_callp rfl rfl rfl (turned_ok _ _) ?_
          rintro _ rfl
          refine m_one 2 (by kernel_rfl) rfl rfl ?_
          refine sm_val (by first | exact v_load ty3 rfl rfl (by first | rfl | assumption) (by first | assumption | exact map_get (by assumption) | rfl) rfl | exact v_load_box ty3 rfl rfl hst.arec (by rfl)) rfl rfl ?_
          refine m_take 5 false rfl rfl (by kernel_rfl) (by kernel_rfl) (by kernel_rfl) (fun _ _ _ _ h => h) (v_neq rfl rfl) rfl rfl ?_
          refine m_one 9 (by kernel_rfl) rfl rfl ?_
          refine sm_any rfl (s_call rfl rfl rfl (of1_ok _ r5 r2 _ a ([]) ao _ hst.arec hq ho hal) (fun b hb => .inr (by rcases hb with rfl | ⟨k, hk⟩; exact hst.fq; exact hof _ _ hk)) ?_)
          rintro n1 r1 effs1 hn1 hdom1 ⟨rfl, he1⟩ hok1
          have hst2 := hst.step hw0 hn1 hdom1 hq ho hof he1
          generalize setAll _ effs1 = G2 at hst2 ⊢
          refine m_done (by kernel_rfl) ?_
          first | refine g_keep [2, 5, 6] [3] [3] (keep_cons rfl (keep_cons rfl (keep_cons rfl keep_nil))) (lkeep_cons rfl lkeep_nil) (keep_cons rfl keep_nil) rfl ?_ | refine g_keep [2, 5, 6] [3] [3] rfl rfl rfl rfl ?_
          exact g_has ⟨rfl, rfl, rfl, (by simpa using hst2)⟩
    · refine ⟨_, rfl, .inl ⟨rfl, ?_⟩⟩
      refine sm_val (v_loadl ty3 rfl rfl rfl rfl) rfl rfl ?_
      refine m_all (is := [2, 4, 8]) (by kernel_rfl) rfl (fun _ _ _ => trivial) (fun i hi => ?_)
      rcases (by simpa using hi : i = 2 ∨ i = 4 ∨ i = 8) with rfl | rfl | rfl
      · refine ⟨_, rfl, .inl ⟨rfl, ?_⟩⟩
        refine sm_val (by first | exact v_load ty3 rfl rfl (by first | rfl | assumption) (by first | assumption | exact map_get (by assumption) | rfl) rfl | exact v_load_box ty3 rfl rfl hst.arec (by rfl)) rfl rfl ?_
        refine m_all (is := [4, 8]) (by kernel_rfl) rfl (fun _ _ _ => trivial) (fun i hi => ?_)
        rcases (by simpa using hi : i = 4 ∨ i = 8) with rfl | rfl
        · refine ⟨_, rfl, .inl ⟨rfl, ?_⟩⟩
          refine sm_val (v_loadl ty3 rfl rfl rfl rfl) rfl rfl ?_
          refine m_take 5 false rfl rfl (by kernel_rfl) (by kernel_rfl) (by kernel_rfl) (fun _ _ _ _ h => h) (v_neq rfl rfl) rfl rfl ?_
          refine m_one 8 (by kernel_rfl) rfl rfl ?_
          refine sm_callp rfl rfl rfl (turned_ok _ _) ?_
          rintro _ rfl
          refine m_one 9 (by kernel_rfl) rfl rfl ?_
          refine sm_any rfl (s_call rfl rfl rfl (of1_ok _ r5 r2 _ a ([]) ao _ hst.arec hq ho hal) (fun b hb => .inr (by rcases hb with rfl | ⟨k, hk⟩; exact hst.fq; exact hof _ _ hk)) ?_)
          rintro n1 r1 effs1 hn1 hdom1 ⟨rfl, he1⟩ hok1
          have hst2 := hst.step hw0 hn1 hdom1 hq ho hof he1
          generalize setAll _ effs1 = G2 at hst2 ⊢
          refine m_done (by kernel_rfl) ?_
          first | refine g_keep [2, 5, 6] [3] [3] (keep_cons rfl (keep_cons rfl (keep_cons rfl keep_nil))) (lkeep_cons rfl lkeep_nil) (keep_cons rfl keep_nil) rfl ?_ | refine g_keep [2, 5, 6] [3] [3] rfl rfl rfl rfl ?_
          exact g_has ⟨rfl, rfl, rfl, (by simpa using hst2)⟩
        · refine ⟨_, rfl, .inl ⟨rfl, ?_⟩⟩
          refine sm_callp rfl rfl rfl (turned_ok _ _) ?_
          rintro _ rfl
          refine m_one 4 (by kernel_rfl) rfl rfl ?_
          refine sm_val (v_loadl ty3 rfl rfl rfl rfl) rfl rfl ?_
          refine m_take 5 false rfl rfl (by kernel_rfl) (by kernel_rfl) (by kernel_rfl) (fun _ _ _ _ h => h) (v_neq rfl rfl) rfl rfl ?_
          refine m_one 9 (by kernel_rfl) rfl rfl ?_
          refine sm_any rfl (s_call rfl rfl rfl (of1_ok _ r5 r2 _ a ([]) ao _ hst.arec hq ho hal) (fun b hb => .inr (by rcases hb with rfl | ⟨k, hk⟩; exact hst.fq; exact hof _ _ hk)) ?_)
          rintro n1 r1 effs1 hn1 hdom1 ⟨rfl, he1⟩ hok1
          have hst2 := hst.step hw0 hn1 hdom1 hq ho hof he1
          generalize setAll _ effs1 = G2 at hst2 ⊢
          refine m_done (by kernel_rfl) ?_
          first | refine g_keep [2, 5, 6] [3] [3] (keep_cons rfl (keep_cons rfl (keep_cons rfl keep_nil))) (lkeep_cons rfl lkeep_nil) (keep_cons rfl keep_nil) rfl ?_ | refine g_keep [2, 5, 6] [3] [3] rfl rfl rfl rfl ?_
          exact g_has ⟨rfl, rfl, rfl, (by simpa using hst2)⟩
      · refine ⟨_, rfl, .inl ⟨rfl, ?_⟩⟩
        refine sm_val (v_loadl ty3 rfl rfl rfl rfl) rfl rfl ?_
        refine m_all (is := [2, 8]) (by kernel_rfl) rfl (fun _ _ _ => trivial) (fun i hi => ?_)
        rcases (by simpa using hi : i = 2 ∨ i = 8) with rfl | rfl
        · refine ⟨_, rfl, .inl ⟨rfl, ?_⟩⟩
          refine sm_val (by first | exact v_load ty3 rfl rfl (by first | rfl | assumption) (by first | assumption | exact map_get (by assumption) | rfl) rfl | exact v_load_box ty3 rfl rfl hst.arec (by rfl)) rfl rfl ?_
          refine m_take 5 false rfl rfl (by kernel_rfl) (by kernel_rfl) (by kernel_rfl) (fun _ _ _ _ h => h) (v_neq rfl rfl) rfl rfl ?_
          refine m_one 8 (by kernel_rfl) rfl rfl ?_
          refine sm_callp rfl rfl rfl (turned_ok _ _) ?_
          rintro _ rfl
          refine m_one 9 (by kernel_rfl) rfl rfl ?_
          refine sm_any rfl (s_call rfl rfl rfl (of1_ok _ r5 r2 _ a ([]) ao _ hst.arec hq ho hal) (fun b hb => .inr (by rcases hb with rfl | ⟨k, hk⟩; exact hst.fq; exact hof _ _ hk)) ?_)
          rintro n1 r1 effs1 hn1 hdom1 ⟨rfl, he1⟩ hok1
          have hst2 := hst.step hw0 hn1 hdom1 hq ho hof he1
          generalize setAll _ effs1 = G2 at hst2 ⊢
          refine m_done (by kernel_rfl) ?_
          first | refine g_keep [2, 5, 6] [3] [3] (keep_cons rfl (keep_cons rfl (keep_cons rfl keep_nil))) (lkeep_cons rfl lkeep_nil) (keep_cons rfl keep_nil) rfl ?_ | refine g_keep [2, 5, 6] [3] [3] rfl rfl rfl rfl ?_
          exact g_has ⟨rfl, rfl, rfl, (by simpa using hst2)⟩
        · refine ⟨_, rfl, .inl ⟨rfl, ?_⟩⟩
          refine sm_callp rfl rfl rfl (turned_ok _ _) ?_
          rintro _ rfl
          refine m_one 2 (by kernel_rfl) rfl rfl ?_
          refine sm_val (by first | exact v_load ty3 rfl rfl (by first | rfl | assumption) (by first | assumption | exact map_get (by assumption) | rfl) rfl | exact v_load_box ty3 rfl rfl hst.arec (by rfl)) rfl rfl ?_
          refine m_take 5 false rfl rfl (by kernel_rfl) (by kernel_rfl) (by kernel_rfl) (fun _ _ _ _ h => h) (v_neq rfl rfl) rfl rfl ?_
          refine m_one 9 (by kernel_rfl) rfl rfl ?_
          refine sm_any rfl (s_call rfl rfl rfl (of1_ok _ r5 r2 _ a ([]) ao _ hst.arec hq ho hal) (fun b hb => .inr (by rcases hb with rfl | ⟨k, hk⟩; exact hst.fq; exact hof _ _ hk)) ?_)
          rintro n1 r1 effs1 hn1 hdom1 ⟨rfl, he1⟩ hok1
          have hst2 := hst.step hw0 hn1 hdom1 hq ho hof he1
          generalize setAll _ effs1 = G2 at hst2 ⊢
          refine m_done (by kernel_rfl) ?_
          first | refine g_keep [2, 5, 6] [3] [3] (keep_cons rfl (keep_cons rfl (keep_cons rfl keep_nil))) (lkeep_cons rfl lkeep_nil) (keep_cons rfl keep_nil) rfl ?_ | refine g_keep [2, 5, 6] [3] [3] rfl rfl rfl rfl ?_
          exact g_has ⟨rfl, rfl, rfl, (by simpa using hst2)⟩
      · refine ⟨_, rfl, .inl ⟨rfl, ?_⟩⟩
        refine sm_callp rfl rfl rfl (turned_ok _ _) ?_
        rintro _ rfl
        refine m_all (is := [2, 4]) (by kernel_rfl) rfl (fun _ _ _ => trivial) (fun i hi => ?_)
        rcases (by simpa using hi : i = 2 ∨ i = 4) with rfl | rfl
        · refine ⟨_, rfl, .inl ⟨rfl, ?_⟩⟩
          refine sm_val (by first | exact v_load ty3 rfl rfl (by first | rfl | assumption) (by first | assumption | exact map_get (by assumption) | rfl) rfl | exact v_load_box ty3 rfl rfl hst.arec (by rfl)) rfl rfl ?_
          refine m_one 4 (by kernel_rfl) rfl rfl ?_
          refine sm_val (v_loadl ty3 rfl rfl rfl rfl) rfl rfl ?_
          refine m_take 5 false rfl rfl (by kernel_rfl) (by kernel_rfl) (by kernel_rfl) (fun _ _ _ _ h => h) (v_neq rfl rfl) rfl rfl ?_
          refine m_one 9 (by kernel_rfl) rfl rfl ?_
          refine sm_any rfl (s_call rfl rfl rfl (of1_ok _ r5 r2 _ a ([]) ao _ hst.arec hq ho hal) (fun b hb => .inr (by rcases hb with rfl | ⟨k, hk⟩; exact hst.fq; exact hof _ _ hk)) ?_)
          rintro n1 r1 effs1 hn1 hdom1 ⟨rfl, he1⟩ hok1
          have hst2 := hst.step hw0 hn1 hdom1 hq ho hof he1
          generalize setAll _ effs1 = G2 at hst2 ⊢
          refine m_done (by kernel_rfl) ?_
          first | refine g_keep [2, 5, 6] [3] [3] (keep_cons rfl (keep_cons rfl (keep_cons rfl keep_nil))) (lkeep_cons rfl lkeep_nil) (keep_cons rfl keep_nil) rfl ?_ | refine g_keep [2, 5, 6] [3] [3] rfl rfl rfl rfl ?_
          exact g_has ⟨rfl, rfl, rfl, (by simpa using hst2)⟩
        · refine ⟨_, rfl, .inl ⟨rfl, ?_⟩⟩
          refine sm_val (v_loadl ty3 rfl rfl rfl rfl) rfl rfl ?_
          refine m_one 2 (by kernel_rfl) rfl rfl ?_
          refine sm_val (by first | exact v_load ty3 rfl rfl (by first | rfl | assumption) (by first | assumption | exact map_get (by assumption) | rfl) rfl | exact v_load_box ty3 rfl rfl hst.arec (by rfl)) rfl rfl ?_
          refine m_take 5 false rfl rfl (by kernel_rfl) (by kernel_rfl) (by kernel_rfl) (fun _ _ _ _ h => h) (v_neq rfl rfl) rfl rfl ?_
          refine m_one 9 (by kernel_rfl) rfl rfl ?_
          refine sm_any rfl (s_call rfl rfl rfl (of1_ok _ r5 r2 _ a ([]) ao _ hst.arec hq ho hal) (fun b hb => .inr (by rcases hb with rfl | ⟨k, hk⟩; exact hst.fq; exact hof _ _ hk)) ?_)
          rintro n1 r1 effs1 hn1 hdom1 ⟨rfl, he1⟩ hok1
          have hst2 := hst.step hw0 hn1 hdom1 hq ho hof he1
          generalize setAll _ effs1 = G2 at hst2 ⊢
          refine m_done (by kernel_rfl) ?_
          first | refine g_keep [2, 5, 6] [3] [3] (keep_cons rfl (keep_cons rfl (keep_cons rfl keep_nil))) (lkeep_cons rfl lkeep_nil) (keep_cons rfl keep_nil) rfl ?_ | refine g_keep [2, 5, 6] [3] [3] rfl rfl rfl rfl ?_
          exact g_has ⟨rfl, rfl, rfl, (by simpa using hst2)⟩
  · skip
    obtain ⟨rfl, rfl, rfl, hst⟩ := hI
    have hal := len1 a b
    refine g_cut (fun env L B G => env = [(2, .box r2 0), (5, .box r5 0), (6, .fn (.func 80) [.box r5 0, .box r2 0])] ∧ L = [(3, 3, 0)] ∧ B = [(3, (encR b))] ∧ OfSt w0.heap.size r5 r2 H G a (evI (decide (a.st ≠ b.st)) (turned b.st) a.id ++ evI (decide (a.sp ≠ b.sp)) 6 a.id)) ?_ (fun env L B G hI => ?_)
    · skip
      refine g_region ?_
      obtain ⟨ao, hq, ho, hof⟩ := hst.out
      refine g_step rfl (s_val (v_move rfl) rfl rfl ?_)
      refine g_step rfl (s_val (by first | exact v_fieldAddr ty46 fo46_3 ty43 rfl | exact v_fieldAddr_box ty46 fo46_3 ty43 rfl) rfl rfl ?_)
      refine g_step rfl (s_val (by first | exact v_load_elt ty43 rfl rfl (by first | rfl | assumption) (by first | assumption | exact map_get (by assumption) | rfl) rfl rfl | exact v_load_box_all ty43 rfl rfl hst.arec rfl rfl | exact v_load_part (cs := [_, _]) ty43 rfl rfl (by first | rfl | assumption) (by first | assumption | exact map_get (by assumption) | rfl) rfl rfl rfl | exact v_load_box_part (cs := [_, _]) ty43 rfl rfl hst.arec rfl rfl rfl) rfl rfl ?_)
      refine g_step rfl (s_fieldAddr ty46 fo46_3 ty43 rfl rfl ?_)
      refine g_step rfl (s_val (v_loadl_part (cs := [_, _]) ty43 rfl rfl rfl rfl rfl rfl) rfl rfl ?_)
      refine g_step rfl (s_val (v_st_neq (k := .i64) (l := [a.sp.lo, a.sp.hi]) (m := [b.sp.lo, b.sp.hi]) ty43 st43 rfl rfl rfl rfl st43l rfl) rfl rfl ?_)
      refine g_step rfl (s_call rfl rfl rfl (of1_ok _ r5 r2 _ a (evI (decide (a.st ≠ b.st)) (turned b.st) a.id) ao _ hst.arec hq ho hal) (fun b hb => .inr (by rcases hb with rfl | ⟨k, hk⟩; exact hst.fq; exact hof _ _ hk)) ?_)
      rintro n1 r1 effs1 hn1 hdom1 ⟨rfl, he1⟩ hok1
      have hst2 := hst.step hw0 hn1 hdom1 hq ho hof he1
      generalize setAll _ effs1 = G2 at hst2 ⊢
      refine g_nil ?_
      first | refine g_keep [2, 5, 6] [3] [3] (keep_cons rfl (keep_cons rfl (keep_cons rfl keep_nil))) (lkeep_cons rfl lkeep_nil) (keep_cons rfl keep_nil) rfl ?_ | refine g_keep [2, 5, 6] [3] [3] rfl rfl rfl rfl ?_
      exact g_has ⟨rfl, rfl, rfl, (by have h9 := hst2; rw [show (!decide ([a.sp.lo, a.sp.hi] = [b.sp.lo, b.sp.hi])) = decide (a.sp ≠ b.sp) by simp only [spl_eq]; simp] at h9; exact h9)⟩
    · skip
      obtain ⟨rfl, rfl, rfl, hst⟩ := hI
      have hal := len2 a b
      refine g_cut (fun env L B G => env = [(2, .box r2 0), (5, .box r5 0), (6, .fn (.func 80) [.box r5 0, .box r2 0])] ∧ L = [(3, 3, 0)] ∧ B = [(3, (encR b))] ∧ OfSt w0.heap.size r5 r2 H G a (evI (decide (a.st ≠ b.st)) (turned b.st) a.id ++ evI (decide (a.sp ≠ b.sp)) 6 a.id ++ evI (decide (a.cut ≠ b.cut ∨ a.bag ≠ b.bag)) 7 a.id)) ?_ (fun env L B G hI => ?_)
      · skip
        refine g_region ?_
        obtain ⟨ao, hq, ho, hof⟩ := hst.out
        refine g_step rfl (s_val (v_move rfl) rfl rfl ?_)
        refine g_step rfl (s_val (by first | exact v_fieldAddr ty46 fo46_4 ty4 rfl | exact v_fieldAddr_box ty46 fo46_4 ty4 rfl) rfl rfl ?_)
        refine g_step rfl (s_val (by first | exact v_load ty4 rfl rfl (by first | rfl | assumption) (by first | assumption | exact map_get (by assumption) | rfl) rfl | exact v_load_box ty4 rfl rfl hst.arec (by rfl)) rfl rfl ?_)
        refine g_step rfl (s_fieldAddr ty46 fo46_4 ty4 rfl rfl ?_)
        refine g_step rfl (s_val (v_loadl ty4 rfl rfl rfl rfl) rfl rfl ?_)
        refine g_step rfl (s_val (v_bool_neq ty4 rfl rfl) rfl rfl ?_)
        refine g_step rfl (s_val (v_move rfl) rfl rfl ?_)
        refine g_split 31 rfl (fun hg31 => ?_) (fun hg31 => ?_)
        · try simp only [decide_eq_true_eq, decide_eq_false_iff_not, Bool.not_eq_true', Bool.not_eq_false', Bool.not_eq_eq_eq_not, Bool.not_true, Bool.not_false, Bool.and_eq_true, Bool.or_eq_true, Bool.or_eq_false_iff, beq_iff_eq, beq_eq_false_iff_ne, ne_eq, Int.not_lt, Int.not_le, Decidable.not_not] at hg31
          refine g_step_no (j := 6) (t := 31) rfl rfl rfl rfl rfl rfl rfl ?_
          refine g_step_no (j := 6) (t := 31) rfl rfl rfl rfl rfl rfl rfl ?_
          refine g_step_no (j := 6) (t := 31) rfl rfl rfl rfl rfl rfl rfl ?_
          refine g_step_no (j := 6) (t := 31) rfl rfl rfl rfl rfl rfl rfl ?_
          refine g_step_no (j := 6) (t := 31) rfl rfl rfl rfl rfl rfl rfl ?_
          refine g_step_no (j := 6) (t := 31) rfl rfl rfl rfl rfl rfl rfl ?_
          refine g_step rfl (s_val (v_pick_t rfl rfl) rfl rfl ?_)
          refine g_step rfl (s_call rfl rfl rfl (of1_ok _ r5 r2 _ a (evI (decide (a.st ≠ b.st)) (turned b.st) a.id ++ evI (decide (a.sp ≠ b.sp)) 6 a.id) ao _ hst.arec hq ho hal) (fun b hb => .inr (by rcases hb with rfl | ⟨k, hk⟩; exact hst.fq; exact hof _ _ hk)) ?_)
          rintro n1 r1 effs1 hn1 hdom1 ⟨rfl, he1⟩ hok1
          have hst2 := hst.step hw0 hn1 hdom1 hq ho hof he1
          generalize setAll _ effs1 = G2 at hst2 ⊢
          refine g_nil ?_
          first | refine g_keep [2, 5, 6] [3] [3] (keep_cons rfl (keep_cons rfl (keep_cons rfl keep_nil))) (lkeep_cons rfl lkeep_nil) (keep_cons rfl keep_nil) rfl ?_ | refine g_keep [2, 5, 6] [3] [3] rfl rfl rfl rfl ?_
          exact g_has ⟨rfl, rfl, rfl, (by first | (simpa [show a.cut ≠ b.cut by simp_all] using hst2) | (simpa [show a.cut = b.cut by simp_all] using hst2))⟩
        · try simp only [decide_eq_true_eq, decide_eq_false_iff_not, Bool.not_eq_true', Bool.not_eq_false', Bool.not_eq_eq_eq_not, Bool.not_true, Bool.not_false, Bool.and_eq_true, Bool.or_eq_true, Bool.or_eq_false_iff, beq_iff_eq, beq_eq_false_iff_ne, ne_eq, Int.not_lt, Int.not_le, Decidable.not_not] at hg31
          refine g_step_yes (j := 6) (t := 31) rfl rfl rfl rfl (s_val (by first | exact v_fieldAddr ty46 fo46_5 ty44 rfl | exact v_fieldAddr_box ty46 fo46_5 ty44 rfl) rfl rfl ?_)
          refine g_step_yes (j := 6) (t := 31) rfl rfl rfl rfl (s_val (by first | exact v_load ty44 rfl rfl (by first | rfl | assumption) (by first | assumption | exact map_get (by assumption) | rfl) rfl | exact v_load_box ty44 rfl rfl hst.arec (by rfl)) rfl rfl ?_)
          refine g_step_yes (j := 6) (t := 31) rfl rfl rfl rfl (s_fieldAddr ty46 fo46_5 ty44 rfl rfl ?_)
          refine g_step_yes (j := 6) (t := 31) rfl rfl rfl rfl (s_val (v_loadl ty44 rfl rfl rfl rfl) rfl rfl ?_)
          refine g_step_yes (j := 6) (t := 31) rfl rfl rfl rfl (s_callp rfl rfl rfl (bagSame_ok a.bag b.bag _ _ _ rfl rfl hs) ?_)
          rintro _ rfl
          refine g_step_yes (j := 6) (t := 31) rfl rfl rfl rfl (s_val (v_not rfl) rfl rfl ?_)
          refine g_step rfl (s_val (v_pick_f rfl rfl) rfl rfl ?_)
          refine g_step rfl (s_call rfl rfl rfl (of1_ok _ r5 r2 _ a (evI (decide (a.st ≠ b.st)) (turned b.st) a.id ++ evI (decide (a.sp ≠ b.sp)) 6 a.id) ao _ hst.arec hq ho hal) (fun b hb => .inr (by rcases hb with rfl | ⟨k, hk⟩; exact hst.fq; exact hof _ _ hk)) ?_)
          rintro n1 r1 effs1 hn1 hdom1 ⟨rfl, he1⟩ hok1
          have hst2 := hst.step hw0 hn1 hdom1 hq ho hof he1
          generalize setAll _ effs1 = G2 at hst2 ⊢
          refine g_nil ?_
          first | refine g_keep [2, 5, 6] [3] [3] (keep_cons rfl (keep_cons rfl (keep_cons rfl keep_nil))) (lkeep_cons rfl lkeep_nil) (keep_cons rfl keep_nil) rfl ?_ | refine g_keep [2, 5, 6] [3] [3] rfl rfl rfl rfl ?_
          exact g_has ⟨rfl, rfl, rfl, (by first | (simpa [show a.cut ≠ b.cut by simp_all] using hst2) | (simpa [show a.cut = b.cut by simp_all] using hst2))⟩
      · skip
        obtain ⟨rfl, rfl, rfl, hst⟩ := hI
        have hal := len3 a b
        refine g_cut (fun env L B G => env = [(5, .box r5 0)] ∧ L = [] ∧ B = [] ∧ OfSt w0.heap.size r5 r2 H G a (evI (decide (a.st ≠ b.st)) (turned b.st) a.id ++ evI (decide (a.sp ≠ b.sp)) 6 a.id ++ evI (decide (a.cut ≠ b.cut ∨ a.bag ≠ b.bag)) 7 a.id ++ evI (decide (a.inc ≠ b.inc)) 8 a.id)) ?_ (fun env L B G hI => ?_)
        · skip
          refine g_region ?_
          obtain ⟨ao, hq, ho, hof⟩ := hst.out
          refine g_step rfl (s_val (v_move rfl) rfl rfl ?_)
          refine g_step rfl (s_val (by first | exact v_fieldAddr ty46 fo46_1 ty3 rfl | exact v_fieldAddr_box ty46 fo46_1 ty3 rfl) rfl rfl ?_)
          refine g_step rfl (s_val (by first | exact v_load ty3 rfl rfl (by first | rfl | assumption) (by first | assumption | exact map_get (by assumption) | rfl) rfl | exact v_load_box ty3 rfl rfl hst.arec (by rfl)) rfl rfl ?_)
          refine g_step rfl (s_fieldAddr ty46 fo46_1 ty3 rfl rfl ?_)
          refine g_step rfl (s_val (v_loadl ty3 rfl rfl rfl rfl) rfl rfl ?_)
          refine g_step rfl (s_val (v_neq rfl rfl) rfl rfl ?_)
          refine g_step rfl (s_call rfl rfl rfl (of1_ok _ r5 r2 _ a (evI (decide (a.st ≠ b.st)) (turned b.st) a.id ++ evI (decide (a.sp ≠ b.sp)) 6 a.id ++ evI (decide (a.cut ≠ b.cut ∨ a.bag ≠ b.bag)) 7 a.id) ao _ hst.arec hq ho hal) (fun b hb => .inr (by rcases hb with rfl | ⟨k, hk⟩; exact hst.fq; exact hof _ _ hk)) ?_)
          rintro n1 r1 effs1 hn1 hdom1 ⟨rfl, he1⟩ hok1
          have hst2 := hst.step hw0 hn1 hdom1 hq ho hof he1
          generalize setAll _ effs1 = G2 at hst2 ⊢
          refine g_nil ?_
          first | refine g_keep [5] [] [] (keep_cons rfl keep_nil) lkeep_nil keep_nil rfl ?_ | refine g_keep [5] [] [] rfl rfl rfl rfl ?_
          exact g_has ⟨rfl, rfl, rfl, (by simpa using hst2)⟩
        · skip
          obtain ⟨rfl, rfl, rfl, hst⟩ := hI
          refine g_seq (fun K3 hK3 => ?_)
          refine g_region ?_
          obtain ⟨ao, hq, ho, hof⟩ := hst.out
          refine g_step rfl (s_val (by first | exact v_load ty25 rfl rfl (by first | rfl | assumption) (by first | assumption | exact map_get (by assumption) | rfl) rfl | exact v_load_box ty25 rfl rfl hq (by rw [ho.one.1]; rfl)) rfl rfl ?_)
          refine g_step rfl (s_val (v_assign rfl) rfl rfl ?_)
          refine g_nil ?_
          refine g_freezeV 4 rfl ho hst.sub (fun r k e => hw0 r (hof r k e)) ?_
          refine g_next hK3 ?_
          refine g_ret ?_
          refine g_end1 (.inl rfl) Try.results50 (.tmp rfl) [] (ASub.refl _) (AHeap.sub_refl _) (fun p hp => by cases hp) ⟨rfl, ?_⟩
          rfl

theorem between_ok (a b : List Rc) (G : AHeap) (hla : a.length ≤ 1000000) (hlb : b.length ≤ 1000000) (hsa : ∀ x ∈ a, Small x.bag) (hsb : ∀ x ∈ b, Small x.bag) : PCalls Try.prog 13 [encRs a, encRs b] G (fun v => v = .tup [encEs (evB a b), .bool (srt a && srt b)]) := by
  refine LCalls.intro 92 fi13 rfl Try.ntmps13 rfl (fun _ h => h.elim) (fun H hH w0 hw0 => ?_)
  refine g_seq (fun K0 hK0 => ?_)
  refine g_region ?_
  refine g_step rfl (s_val (v_assign rfl) rfl rfl ?_)
  refine g_step rfl (s_val (v_assign rfl) rfl rfl ?_)
  refine g_nil ?_
  refine g_next hK0 ?_
  refine g_seq (fun K1 hK1 => ?_)
  refine g_seq (fun K2 hK2 => ?_)
  refine g_region ?_
  refine g_step rfl (s_val (v_move rfl) rfl rfl ?_)
  refine g_step rfl (s_callp rfl rfl rfl (sorted_ok a _ hla hsa) ?_)
  rintro _ rfl
  refine g_step rfl (s_val (v_not rfl) rfl rfl ?_)
  refine g_step rfl (s_val (v_move rfl) rfl rfl ?_)
  refine g_split 10 rfl (fun hg10 => ?_) (fun hg10 => ?_)
  · try simp only [decide_eq_true_eq, decide_eq_false_iff_not, Bool.not_eq_true', Bool.not_eq_false', Bool.not_eq_eq_eq_not, Bool.not_true, Bool.not_false, Bool.and_eq_true, Bool.or_eq_true, Bool.or_eq_false_iff, beq_iff_eq, beq_eq_false_iff_ne, ne_eq, Int.not_lt, Int.not_le, Decidable.not_not] at hg10
    refine g_step_no (j := 3) (t := 10) rfl rfl rfl rfl rfl rfl rfl ?_
    refine g_step_no (j := 3) (t := 10) rfl rfl rfl rfl rfl rfl rfl ?_
    refine g_step_no (j := 3) (t := 10) rfl rfl rfl rfl rfl rfl rfl ?_
    refine g_step rfl (s_val (v_pick_t rfl rfl) rfl rfl ?_)
    refine g_nil ?_
    refine g_next hK2 ?_
    refine g_cond rfl (fun _ => ?_) (fun h => by cases h)
    refine g_seq (fun K3 hK3 => ?_)
    refine g_region ?_
    refine g_step rfl (s_val (v_assign rfl) rfl rfl ?_)
    refine g_step rfl (s_val (v_assign rfl) rfl rfl ?_)
    refine g_nil ?_
    refine g_next hK3 ?_
    refine g_ret ?_
    refine g_then_ret ?_
    refine g_end2 (.inl rfl) Try.results13 (.tmp rfl) (.tmp rfl) [] (ASub.tup (m := [.imm [], .bool false]) ⟨ASub.nil0, ASub.refl _, trivial⟩) (AHeap.sub_refl _) (fun p hp => by cases hp) ⟨rfl, ?_⟩
    first | (rw [evB, show (srt a && srt b) = false by simp_all]; rfl; done) | (rw [evB, show (srt a && srt b) = false by simp_all]; rfl; rfl)
  · try simp only [decide_eq_true_eq, decide_eq_false_iff_not, Bool.not_eq_true', Bool.not_eq_false', Bool.not_eq_eq_eq_not, Bool.not_true, Bool.not_false, Bool.and_eq_true, Bool.or_eq_true, Bool.or_eq_false_iff, beq_iff_eq, beq_eq_false_iff_ne, ne_eq, Int.not_lt, Int.not_le, Decidable.not_not] at hg10
    refine g_step_yes (j := 3) (t := 10) rfl rfl rfl rfl (s_val (v_move rfl) rfl rfl ?_)
    refine g_step_yes (j := 3) (t := 10) rfl rfl rfl rfl (s_callp rfl rfl rfl (sorted_ok b _ hlb hsb) ?_)
    rintro _ rfl
    refine g_step_yes (j := 3) (t := 10) rfl rfl rfl rfl (s_val (v_not rfl) rfl rfl ?_)
    refine g_step rfl (s_val (v_pick_f rfl rfl) rfl rfl ?_)
    refine g_nil ?_
    refine g_next hK2 ?_
    refine g_cond rfl (fun hc14 => ?_) (fun hc14 => ?_)
    · try simp only [decide_eq_true_eq, decide_eq_false_iff_not, Bool.not_eq_true', Bool.not_eq_false', Bool.not_eq_eq_eq_not, Bool.not_true, Bool.not_false, Bool.and_eq_true, Bool.or_eq_true, Bool.or_eq_false_iff, beq_iff_eq, beq_eq_false_iff_ne, ne_eq, Int.not_lt, Int.not_le, Decidable.not_not] at hc14
      refine g_seq (fun K4 hK4 => ?_)
      refine g_region ?_
      refine g_step rfl (s_val (v_assign rfl) rfl rfl ?_)
      refine g_step rfl (s_val (v_assign rfl) rfl rfl ?_)
      refine g_nil ?_
      refine g_next hK4 ?_
      refine g_ret ?_
      refine g_then_ret ?_
      refine g_end2 (.inl rfl) Try.results13 (.tmp rfl) (.tmp rfl) [] (ASub.tup (m := [.imm [], .bool false]) ⟨ASub.nil0, ASub.refl _, trivial⟩) (AHeap.sub_refl _) (fun p hp => by cases hp) ⟨rfl, ?_⟩
      first | (rw [evB, show (srt a && srt b) = false by simp_all]; rfl; done) | (rw [evB, show (srt a && srt b) = false by simp_all]; rfl; rfl)
    · try simp only [decide_eq_true_eq, decide_eq_false_iff_not, Bool.not_eq_true', Bool.not_eq_false', Bool.not_eq_eq_eq_not, Bool.not_true, Bool.not_false, Bool.and_eq_true, Bool.or_eq_true, Bool.or_eq_false_iff, beq_iff_eq, beq_eq_false_iff_ne, ne_eq, Int.not_lt, Int.not_le, Decidable.not_not] at hc14
      refine g_skip ?_
      refine g_next hK1 ?_
      refine g_seq (fun K5 hK5 => ?_)
      refine g_region ?_
      have hyes : srt a = true ∧ srt b = true := by simp_all
      refine g_step rfl (s_val (v_assign rfl) rfl rfl ?_)
      refine g_nil ?_
      refine g_next hK5 ?_
      refine g_seq (fun K6 hK6 => ?_)
      refine g_block ?_
      first | refine g_keep [0, 1, 6] [] [] (keep_cons rfl (keep_cons rfl (keep_cons rfl keep_nil))) lkeep_nil keep_nil rfl ?_ | refine g_keep [0, 1, 6] [] [] rfl rfl rfl rfl ?_
      refine g_loop (fun n env L B G => ∃ (a' b' : List Rc) (av : AV) (acc : List Ev), n = a'.length + b'.length ∧ env = [(0, encRs a'), (1, encRs b'), (6, av)] ∧ L = [] ∧ B = [] ∧ Own w0.heap.size 2 H av ((acc).map encE) G ∧ acc ++ evL a' b' = evL a b ∧ (∀ x ∈ a', x ∈ a) ∧ (∀ x ∈ b', x ∈ b) ∧ acc.length + 4 * (a'.length + b'.length) ≤ 4 * (a.length + b.length)) (a.length + b.length) ⟨a, b, .nil0, [], rfl, rfl, rfl, rfl, Own.nil .., rfl, fun _ h => h, fun _ h => h, by simp⟩ (fun n env L B G hI => ?_)
      obtain ⟨a', b', av, acc, rfl, rfl, rfl, rfl, hown, hacc, hma, hmb, hlen⟩ := hI
      have hla' : (encRs a').view G = some (a'.map encR) := rfl
      refine g_cut (fun env L B G => env = [(0, (encRs a')), (1, (encRs b')), (6, av)] ∧ L = [] ∧ B = [] ∧ (0 < a'.length ∨ 0 < b'.length) ∧ Own w0.heap.size 2 H av ((acc).map encE) G) ?_ (fun env L B G hI => ?_)
      · skip
        refine g_seq (fun K7 hK7 => ?_)
        refine g_region ?_
        refine g_step rfl (s_val (v_move rfl) rfl rfl ?_)
        refine g_step rfl (s_val (v_len ty22 rfl (by first | rfl | assumption) (by first | exact List.length_map .. | rfl)) rfl rfl ?_)
        refine g_step rfl (s_val (v_gtr rfl rfl) rfl rfl ?_)
        refine g_step rfl (s_val (v_move rfl) rfl rfl ?_)
        refine g_split 18 rfl (fun hg18 => ?_) (fun hg18 => ?_)
        · try simp only [decide_eq_true_eq, decide_eq_false_iff_not, Bool.not_eq_true', Bool.not_eq_false', Bool.not_eq_eq_eq_not, Bool.not_true, Bool.not_false, Bool.and_eq_true, Bool.or_eq_true, Bool.or_eq_false_iff, beq_iff_eq, beq_eq_false_iff_ne, ne_eq, Int.not_lt, Int.not_le, Decidable.not_not] at hg18
          refine g_step_no (j := 3) (t := 18) rfl rfl rfl rfl rfl rfl rfl ?_
          refine g_step_no (j := 3) (t := 18) rfl rfl rfl rfl rfl rfl rfl ?_
          refine g_step_no (j := 3) (t := 18) rfl rfl rfl rfl rfl rfl rfl ?_
          refine g_step rfl (s_val (v_pick_t rfl rfl) rfl rfl ?_)
          refine g_nil ?_
          refine g_next hK7 ?_
          refine g_cond rfl (fun _ => ?_) (fun h => by cases h)
          refine g_skip ?_
          first | refine g_keep [0, 1, 6] [] [] (keep_cons rfl (keep_cons rfl (keep_cons rfl keep_nil))) lkeep_nil keep_nil rfl ?_ | refine g_keep [0, 1, 6] [] [] rfl rfl rfl rfl ?_
          exact g_has ⟨rfl, rfl, rfl, ⟨by first | (left; omega) | (right; omega), hown⟩⟩
        · try simp only [decide_eq_true_eq, decide_eq_false_iff_not, Bool.not_eq_true', Bool.not_eq_false', Bool.not_eq_eq_eq_not, Bool.not_true, Bool.not_false, Bool.and_eq_true, Bool.or_eq_true, Bool.or_eq_false_iff, beq_iff_eq, beq_eq_false_iff_ne, ne_eq, Int.not_lt, Int.not_le, Decidable.not_not] at hg18
          refine g_step_yes (j := 3) (t := 18) rfl rfl rfl rfl (s_val (v_move rfl) rfl rfl ?_)
          refine g_step_yes (j := 3) (t := 18) rfl rfl rfl rfl (s_val (v_len ty22 rfl (by first | rfl | assumption) (by first | exact List.length_map .. | rfl)) rfl rfl ?_)
          refine g_step_yes (j := 3) (t := 18) rfl rfl rfl rfl (s_val (v_gtr rfl rfl) rfl rfl ?_)
          refine g_step rfl (s_val (v_pick_f rfl rfl) rfl rfl ?_)
          refine g_nil ?_
          refine g_next hK7 ?_
          refine g_cond rfl (fun hc22 => ?_) (fun hc22 => ?_)
          · try simp only [decide_eq_true_eq, decide_eq_false_iff_not, Bool.not_eq_true', Bool.not_eq_false', Bool.not_eq_eq_eq_not, Bool.not_true, Bool.not_false, Bool.and_eq_true, Bool.or_eq_true, Bool.or_eq_false_iff, beq_iff_eq, beq_eq_false_iff_ne, ne_eq, Int.not_lt, Int.not_le, Decidable.not_not] at hc22
            refine g_skip ?_
            first | refine g_keep [0, 1, 6] [] [] (keep_cons rfl (keep_cons rfl (keep_cons rfl keep_nil))) lkeep_nil keep_nil rfl ?_ | refine g_keep [0, 1, 6] [] [] rfl rfl rfl rfl ?_
            exact g_has ⟨rfl, rfl, rfl, ⟨by first | (left; omega) | (right; omega), hown⟩⟩
          · try simp only [decide_eq_true_eq, decide_eq_false_iff_not, Bool.not_eq_true', Bool.not_eq_false', Bool.not_eq_eq_eq_not, Bool.not_true, Bool.not_false, Bool.and_eq_true, Bool.or_eq_true, Bool.or_eq_false_iff, beq_iff_eq, beq_eq_false_iff_ne, ne_eq, Int.not_lt, Int.not_le, Decidable.not_not] at hc22
            refine g_exit ?_
            refine g_then_exit ?_
            refine g_then_exit ?_
            refine g_block_same ?_
            refine g_next hK6 ?_
            refine g_seq (fun K8 hK8 => ?_)
            refine g_region ?_
            have hfin : acc = evL a b := by rw [← hacc, show a' = [] from List.eq_nil_of_length_eq_zero (by omega), show b' = [] from List.eq_nil_of_length_eq_zero (by omega), ev_nil, List.append_nil]
            refine g_freeze 6 rfl hown ?_
            refine g_step rfl (s_val (v_move rfl) rfl rfl ?_)
            refine g_step rfl (s_val (v_assign rfl) rfl rfl ?_)
            refine g_step rfl (s_val (v_assign rfl) rfl rfl ?_)
            refine g_nil ?_
            refine g_next hK8 ?_
            refine g_ret ?_
            refine g_end2 (.inl rfl) Try.results13 (.tmp rfl) (.tmp rfl) [] (ASub.refl _) (AHeap.sub_refl _) (fun p hp => by cases hp) ⟨rfl, ?_⟩
            first | (rw [evB, hyes.1, hyes.2, hfin]; rfl; done) | (rw [evB, hyes.1, hyes.2, hfin]; rfl; rfl)
      · skip
        obtain ⟨rfl, rfl, rfl, hne, hown⟩ := hI
        refine g_block ?_
        refine g_block ?_
        refine g_seq (fun K9 hK9 => ?_)
        refine g_draw (n := 20) (fun j => !([] : List Nat).contains j) rfl rfl ?_
        refine m_take 0 false rfl rfl (by kernel_rfl) (by kernel_rfl) (by kernel_rfl) (fun _ _ _ _ h => h) (v_move rfl) rfl rfl ?_
        refine m_take 1 false rfl rfl (by kernel_rfl) (by kernel_rfl) (by kernel_rfl) (fun _ _ _ _ h => h) (v_len ty22 rfl (by first | rfl | assumption) (by first | exact List.length_map .. | rfl)) rfl rfl ?_
        refine m_take 2 false rfl rfl (by kernel_rfl) (by kernel_rfl) (by kernel_rfl) (fun _ _ _ _ h => h) (v_eql rfl rfl) rfl rfl ?_
        refine m_take 3 false rfl rfl (by kernel_rfl) (by kernel_rfl) (by kernel_rfl) (fun _ _ _ _ h => h) (v_move rfl) rfl rfl ?_
        refine m_split 40 rfl (fun hg40 => ?_) (fun hg40 => ?_)
        · try simp only [decide_eq_true_eq, decide_eq_false_iff_not, Bool.not_eq_true', Bool.not_eq_false', Bool.not_eq_eq_eq_not, Bool.not_true, Bool.not_false, Bool.and_eq_true, Bool.or_eq_true, Bool.or_eq_false_iff, beq_iff_eq, beq_eq_false_iff_ne, ne_eq, Int.not_lt, Int.not_le, Decidable.not_not] at hg40
          refine m_take_no (j := 3) (t := 40) 4 rfl rfl rfl rfl rfl rfl (by kernel_rfl) (by kernel_rfl) (by kernel_rfl) (fun _ _ _ _ h => h) rfl rfl ?_
          refine m_take_no (j := 3) (t := 40) 5 rfl rfl rfl rfl rfl rfl (by kernel_rfl) (by kernel_rfl) (by kernel_rfl) (fun _ _ _ _ h => h) rfl rfl ?_
          refine m_take_no (j := 3) (t := 40) 6 rfl rfl rfl rfl rfl rfl (by kernel_rfl) (by kernel_rfl) (by kernel_rfl) (fun _ _ _ _ h => h) rfl rfl ?_
          refine m_take_no (j := 3) (t := 40) 7 rfl rfl rfl rfl rfl rfl (by kernel_rfl) (by kernel_rfl) (by kernel_rfl) (fun _ _ _ _ h => h) rfl rfl ?_
          refine m_take_und (j := 7) (t := 44) 8 rfl rfl rfl rfl rfl (by kernel_rfl) (by kernel_rfl) (by kernel_rfl) (fun _ _ _ _ h => h) rfl rfl ?_
          refine m_take_und (j := 7) (t := 44) 9 rfl rfl rfl rfl rfl (by kernel_rfl) (by kernel_rfl) (by kernel_rfl) (fun _ _ _ _ h => h) rfl rfl ?_
          refine m_take_und (j := 7) (t := 44) 10 rfl rfl rfl rfl rfl (by kernel_rfl) (by kernel_rfl) (by kernel_rfl) (fun _ _ _ _ h => h) rfl rfl ?_
          refine m_take_und (j := 7) (t := 44) 11 rfl rfl rfl rfl rfl (by kernel_rfl) (by kernel_rfl) (by kernel_rfl) (fun _ _ _ _ h => h) rfl rfl ?_
          refine m_take_und (j := 7) (t := 44) 12 rfl rfl rfl rfl rfl (by kernel_rfl) (by kernel_rfl) (by kernel_rfl) (fun _ _ _ _ h => h) rfl rfl ?_
          refine m_take_und (j := 7) (t := 44) 13 rfl rfl rfl rfl rfl (by kernel_rfl) (by kernel_rfl) (by kernel_rfl) (fun _ _ _ _ h => h) rfl rfl ?_
          refine m_take_und (j := 7) (t := 44) 14 rfl rfl rfl rfl rfl (by kernel_rfl) (by kernel_rfl) (by kernel_rfl) (fun _ _ _ _ h => h) rfl rfl ?_
          refine m_take_und (j := 7) (t := 44) 15 rfl rfl rfl rfl rfl (by kernel_rfl) (by kernel_rfl) (by kernel_rfl) (fun _ _ _ _ h => h) rfl rfl ?_
          refine m_take_und (j := 7) (t := 44) 16 rfl rfl rfl rfl rfl (by kernel_rfl) (by kernel_rfl) (by kernel_rfl) (fun _ _ _ _ h => h) rfl rfl ?_
          refine m_take_no (j := 3) (t := 40) 17 rfl rfl rfl rfl rfl rfl (by kernel_rfl) (by kernel_rfl) (by kernel_rfl) (fun _ _ _ _ h => h) rfl rfl ?_
          refine m_take 18 false rfl rfl (by kernel_rfl) (by kernel_rfl) (by kernel_rfl) (fun _ _ _ _ h => h) (v_pick_t rfl rfl) rfl rfl ?_
          refine m_take 19 false rfl rfl (by kernel_rfl) (by kernel_rfl) (by kernel_rfl) (fun _ _ _ _ h => h) (v_assign rfl) rfl rfl ?_
          refine m_done (by kernel_rfl) ?_
          refine g_next hK9 ?_
          refine g_cond rfl (fun _ => ?_) (fun h => by cases h)
          refine g_seq (fun K10 hK10 => ?_)
          refine g_region ?_
          obtain ⟨u, hu⟩ := get_some (l := a') (k := 0) (by omega)
          have hk := ev_keep hacc hlen (evs_lost hu (by first | exact .inl (by omega) | exact .inr ⟨y, hy, by cases hx.symm.trans hu; omega⟩)) (by simp) (by simp only [List.length_tail]; omega)
          refine g_step rfl (s_val (v_move rfl) rfl rfl ?_)
          refine g_step rfl (s_val (v_move rfl) rfl rfl ?_)
          refine g_step rfl (s_val (v_indexAddr ty22 ty46 rfl rfl (by first | rfl | assumption) (by first | rfl | exact (rfl : (0 : Int) = ((0 : Nat) : Int)) | exact (Int.toNat_of_nonneg (by omega)).symm) (map_get hu) rfl) rfl rfl ?_)
          refine g_step rfl (s_val (by first | exact v_fieldAddr ty46 fo46_0 ty3 rfl | exact v_fieldAddr_box ty46 fo46_0 ty3 rfl) rfl rfl ?_)
          refine g_step rfl (s_val (by first | exact v_load ty3 rfl rfl (by first | rfl | assumption) (map_get hu) rfl | exact v_load_box ty3 rfl rfl (by assumption) rfl) rfl rfl ?_)
          refine g_step rfl (s_val (v_build (vs := [(0, _), (1, _)]) (zs := [(.int .i64 0), (.int .i64 0)]) (cells := [_, _]) ty37 pl37 rfl rfl rfl) rfl rfl ?_)
          refine g_step rfl (s_lit ty25 ty37 rfl rfl rfl rfl rfl rfl rfl ?_)
          refine g_step rfl (s_append (l := (acc.map encE)) (m := ([(⟨9, u.id⟩ : Ev)].map encE)) ty25 ty37 rfl rfl hown rfl rfl (by refine Even.map _ ?_ _; intro _; rfl) (by intro x hx; obtain ⟨_, _, rfl⟩ := List.mem_map.1 hx; rfl) rfl (by simp; omega) (by simp; omega) ?_)
          intro av63 G63 hown63
          refine g_step rfl (s_val (v_assign rfl) rfl rfl ?_)
          refine g_nil ?_
          refine g_next hK10 ?_
          first | refine g_keep [0, 1, 6] [] [] (keep_cons rfl (keep_cons rfl (keep_cons rfl keep_nil))) lkeep_nil keep_nil rfl ?_ | refine g_keep [0, 1, 6] [] [] rfl rfl rfl rfl ?_
          refine g_region ?_
          refine g_step rfl (s_val (v_move rfl) rfl rfl ?_)
          refine g_step rfl (s_val (v_slice_imm (lo := 1) (hi := a'.length) (m := (a'.tail.map encR)) ty22 ty46 rfl rfl rfl (by first | rfl | (exact (rfl : (0 : Int) = ((0 : Nat) : Int))) | omega | (simp <;> omega)) (by simp) (by omega) (by simp) (by refine Even.map _ ?_ _; intro _; rfl) (tail_eq a' encR)) rfl rfl ?_)
          refine g_step rfl (s_val (v_assign rfl) rfl rfl ?_)
          refine g_nil ?_
          refine g_block_normal ?_
          refine g_block_normal ?_
          first | refine g_keep [0, 1, 6] [] [] (keep_cons rfl (keep_cons rfl (keep_cons rfl keep_nil))) lkeep_nil keep_nil rfl ?_ | refine g_keep [0, 1, 6] [] [] rfl rfl rfl rfl ?_
          first | exact g_round _ hk.1 ⟨a'.tail, b', _, acc ++ [(⟨9, u.id⟩ : Ev)], rfl, rfl, rfl, rfl, by rw [List.map_append]; exact hown63, hk.2.1, mem_tail hma, hmb, hk.2.2⟩ | exact g_round _ hk.1 ⟨a', b'.tail, _, acc ++ [(⟨1, v.id⟩ : Ev)], rfl, rfl, rfl, rfl, by rw [List.map_append]; exact hown88, hk.2.1, hma, mem_tail hmb, hk.2.2⟩ | exact g_round _ hk.1 ⟨a'.tail, b'.tail, _, acc ++ ofL x2 y2, rfl, rfl, rfl, rfl, by rw [List.map_append]; exact hown31, hk.2.1, mem_tail hma, mem_tail hmb, hk.2.2⟩
        · try simp only [decide_eq_true_eq, decide_eq_false_iff_not, Bool.not_eq_true', Bool.not_eq_false', Bool.not_eq_eq_eq_not, Bool.not_true, Bool.not_false, Bool.and_eq_true, Bool.or_eq_true, Bool.or_eq_false_iff, beq_iff_eq, beq_eq_false_iff_ne, ne_eq, Int.not_lt, Int.not_le, Decidable.not_not] at hg40
          obtain ⟨y, hy⟩ := get_some (l := b') (k := 0) (by omega)
          refine m_take_yes (j := 3) (t := 40) 4 false rfl rfl rfl rfl rfl (by kernel_rfl) (by kernel_rfl) (by kernel_rfl) (fun _ _ _ _ h => h) (v_move rfl) rfl rfl ?_
          refine m_take_yes (j := 3) (t := 40) 5 false rfl rfl rfl rfl rfl (by kernel_rfl) (by kernel_rfl) (by kernel_rfl) (fun _ _ _ _ h => h) (v_len ty22 rfl (by first | rfl | assumption) (by first | exact List.length_map .. | rfl)) rfl rfl ?_
          refine m_take_yes (j := 3) (t := 40) 6 false rfl rfl rfl rfl rfl (by kernel_rfl) (by kernel_rfl) (by kernel_rfl) (fun _ _ _ _ h => h) (v_gtr rfl rfl) rfl rfl ?_
          refine m_take_yes (j := 3) (t := 40) 7 false rfl rfl rfl rfl rfl (by kernel_rfl) (by kernel_rfl) (by kernel_rfl) (fun _ _ _ _ h => h) (v_move rfl) rfl rfl ?_
          refine m_split 44 rfl (fun hg44 => ?_) (fun hg44 => ?_)
          · try simp only [decide_eq_true_eq, decide_eq_false_iff_not, Bool.not_eq_true', Bool.not_eq_false', Bool.not_eq_eq_eq_not, Bool.not_true, Bool.not_false, Bool.and_eq_true, Bool.or_eq_true, Bool.or_eq_false_iff, beq_iff_eq, beq_eq_false_iff_ne, ne_eq, Int.not_lt, Int.not_le, Decidable.not_not] at hg44
            obtain ⟨x, hx⟩ := get_some (l := a') (k := 0) (by omega)
            refine m_take_yes (j := 7) (t := 44) 8 false rfl rfl rfl rfl rfl (by kernel_rfl) (by kernel_rfl) (by kernel_rfl) (fun _ _ _ _ h => h) (v_move rfl) rfl rfl ?_
            refine m_take_yes (j := 7) (t := 44) 9 false rfl rfl rfl rfl rfl (by kernel_rfl) (by kernel_rfl) (by kernel_rfl) (fun _ _ _ _ h => h) (v_indexAddr ty22 ty46 rfl rfl (by first | rfl | assumption) (by first | rfl | exact (rfl : (0 : Int) = ((0 : Nat) : Int)) | exact (Int.toNat_of_nonneg (by omega)).symm) (map_get hx) rfl) rfl rfl ?_
            refine m_take_yes (j := 7) (t := 44) 10 false rfl rfl rfl rfl rfl (by kernel_rfl) (by kernel_rfl) (by kernel_rfl) (fun _ _ _ _ h => h) (by first | exact v_fieldAddr ty46 fo46_0 ty3 rfl | exact v_fieldAddr_box ty46 fo46_0 ty3 rfl) rfl rfl ?_
            refine m_take_yes (j := 7) (t := 44) 11 true rfl rfl rfl rfl rfl (by kernel_rfl) (by kernel_rfl) (by kernel_rfl) (fun _ _ _ _ h => h) (by first | exact v_load ty3 rfl rfl (by first | rfl | assumption) (map_get hx) rfl | exact v_load_box ty3 rfl rfl (by assumption) rfl) rfl rfl ?_
            refine m_take_yes (j := 7) (t := 44) 12 false rfl rfl rfl rfl rfl (by kernel_rfl) (by kernel_rfl) (by kernel_rfl) (fun _ _ _ _ h => h) (v_move rfl) rfl rfl ?_
            refine m_take_yes (j := 7) (t := 44) 13 false rfl rfl rfl rfl rfl (by kernel_rfl) (by kernel_rfl) (by kernel_rfl) (fun _ _ _ _ h => h) (v_indexAddr ty22 ty46 rfl rfl (by first | rfl | assumption) (by first | rfl | exact (rfl : (0 : Int) = ((0 : Nat) : Int)) | exact (Int.toNat_of_nonneg (by omega)).symm) (map_get hy) rfl) rfl rfl ?_
            refine m_take_yes (j := 7) (t := 44) 14 false rfl rfl rfl rfl rfl (by kernel_rfl) (by kernel_rfl) (by kernel_rfl) (fun _ _ _ _ h => h) (by first | exact v_fieldAddr ty46 fo46_0 ty3 rfl | exact v_fieldAddr_box ty46 fo46_0 ty3 rfl) rfl rfl ?_
            refine m_take_yes (j := 7) (t := 44) 15 true rfl rfl rfl rfl rfl (by kernel_rfl) (by kernel_rfl) (by kernel_rfl) (fun _ _ _ _ h => h) (by first | exact v_load ty3 rfl rfl (by first | rfl | assumption) (map_get hy) rfl | exact v_load_box ty3 rfl rfl (by assumption) rfl) rfl rfl ?_
            refine m_take_yes (j := 7) (t := 44) 16 false rfl rfl rfl rfl rfl (by kernel_rfl) (by kernel_rfl) (by kernel_rfl) (fun _ _ _ _ h => h) (v_lss rfl rfl) rfl rfl ?_
            refine m_take_yes (j := 3) (t := 40) 17 false rfl rfl rfl rfl rfl (by kernel_rfl) (by kernel_rfl) (by kernel_rfl) (fun _ _ _ _ h => h) (v_pick_t rfl rfl) rfl rfl ?_
            refine m_take 18 false rfl rfl (by kernel_rfl) (by kernel_rfl) (by kernel_rfl) (fun _ _ _ _ h => h) (v_pick_f rfl rfl) rfl rfl ?_
            refine m_take 19 false rfl rfl (by kernel_rfl) (by kernel_rfl) (by kernel_rfl) (fun _ _ _ _ h => h) (v_assign rfl) rfl rfl ?_
            refine m_done (by kernel_rfl) ?_
            refine g_next hK9 ?_
            refine g_cond rfl (fun hc36 => ?_) (fun hc36 => ?_)
            · try simp only [decide_eq_true_eq, decide_eq_false_iff_not, Bool.not_eq_true', Bool.not_eq_false', Bool.not_eq_eq_eq_not, Bool.not_true, Bool.not_false, Bool.and_eq_true, Bool.or_eq_true, Bool.or_eq_false_iff, beq_iff_eq, beq_eq_false_iff_ne, ne_eq, Int.not_lt, Int.not_le, Decidable.not_not] at hc36
              refine g_seq (fun K11 hK11 => ?_)
              refine g_region ?_
              obtain ⟨u, hu⟩ := get_some (l := a') (k := 0) (by omega)
              have hk := ev_keep hacc hlen (evs_lost hu (by first | exact .inl (by omega) | exact .inr ⟨y, hy, by cases hx.symm.trans hu; omega⟩)) (by simp) (by simp only [List.length_tail]; omega)
              refine g_step rfl (s_val (v_move rfl) rfl rfl ?_)
              refine g_step rfl (s_val (v_move rfl) rfl rfl ?_)
              refine g_step rfl (s_val (v_indexAddr ty22 ty46 rfl rfl (by first | rfl | assumption) (by first | rfl | exact (rfl : (0 : Int) = ((0 : Nat) : Int)) | exact (Int.toNat_of_nonneg (by omega)).symm) (map_get hu) rfl) rfl rfl ?_)
              refine g_step rfl (s_val (by first | exact v_fieldAddr ty46 fo46_0 ty3 rfl | exact v_fieldAddr_box ty46 fo46_0 ty3 rfl) rfl rfl ?_)
              refine g_step rfl (s_val (by first | exact v_load ty3 rfl rfl (by first | rfl | assumption) (map_get hu) rfl | exact v_load_box ty3 rfl rfl (by assumption) rfl) rfl rfl ?_)
              refine g_step rfl (s_val (v_build (vs := [(0, _), (1, _)]) (zs := [(.int .i64 0), (.int .i64 0)]) (cells := [_, _]) ty37 pl37 rfl rfl rfl) rfl rfl ?_)
              refine g_step rfl (s_lit ty25 ty37 rfl rfl rfl rfl rfl rfl rfl ?_)
              refine g_step rfl (s_append (l := (acc.map encE)) (m := ([(⟨9, u.id⟩ : Ev)].map encE)) ty25 ty37 rfl rfl hown rfl rfl (by refine Even.map _ ?_ _; intro _; rfl) (by intro x hx; obtain ⟨_, _, rfl⟩ := List.mem_map.1 hx; rfl) rfl (by simp; omega) (by simp; omega) ?_)
              intro av63 G63 hown63
              refine g_step rfl (s_val (v_assign rfl) rfl rfl ?_)
              refine g_nil ?_
              refine g_next hK11 ?_
              first | refine g_keep [0, 1, 6] [] [] (keep_cons rfl (keep_cons rfl (keep_cons rfl keep_nil))) lkeep_nil keep_nil rfl ?_ | refine g_keep [0, 1, 6] [] [] rfl rfl rfl rfl ?_
              refine g_region ?_
              refine g_step rfl (s_val (v_move rfl) rfl rfl ?_)
              refine g_step rfl (s_val (v_slice_imm (lo := 1) (hi := a'.length) (m := (a'.tail.map encR)) ty22 ty46 rfl rfl rfl (by first | rfl | (exact (rfl : (0 : Int) = ((0 : Nat) : Int))) | omega | (simp <;> omega)) (by simp) (by omega) (by simp) (by refine Even.map _ ?_ _; intro _; rfl) (tail_eq a' encR)) rfl rfl ?_)
              refine g_step rfl (s_val (v_assign rfl) rfl rfl ?_)
              refine g_nil ?_
              refine g_block_normal ?_
              refine g_block_normal ?_
              first | refine g_keep [0, 1, 6] [] [] (keep_cons rfl (keep_cons rfl (keep_cons rfl keep_nil))) lkeep_nil keep_nil rfl ?_ | refine g_keep [0, 1, 6] [] [] rfl rfl rfl rfl ?_
              first | exact g_round _ hk.1 ⟨a'.tail, b', _, acc ++ [(⟨9, u.id⟩ : Ev)], rfl, rfl, rfl, rfl, by rw [List.map_append]; exact hown63, hk.2.1, mem_tail hma, hmb, hk.2.2⟩ | exact g_round _ hk.1 ⟨a', b'.tail, _, acc ++ [(⟨1, v.id⟩ : Ev)], rfl, rfl, rfl, rfl, by rw [List.map_append]; exact hown88, hk.2.1, hma, mem_tail hmb, hk.2.2⟩ | exact g_round _ hk.1 ⟨a'.tail, b'.tail, _, acc ++ ofL x2 y2, rfl, rfl, rfl, rfl, by rw [List.map_append]; exact hown31, hk.2.1, mem_tail hma, mem_tail hmb, hk.2.2⟩
            · try simp only [decide_eq_true_eq, decide_eq_false_iff_not, Bool.not_eq_true', Bool.not_eq_false', Bool.not_eq_eq_eq_not, Bool.not_true, Bool.not_false, Bool.and_eq_true, Bool.or_eq_true, Bool.or_eq_false_iff, beq_iff_eq, beq_eq_false_iff_ne, ne_eq, Int.not_lt, Int.not_le, Decidable.not_not] at hc36
              refine g_seq (fun K12 hK12 => ?_)
              refine g_draw (n := 15) (fun j => !([] : List Nat).contains j) rfl rfl ?_
              refine m_take 0 false rfl rfl (by kernel_rfl) (by kernel_rfl) (by kernel_rfl) (fun _ _ _ _ h => h) (v_move rfl) rfl rfl ?_
              refine m_take 1 false rfl rfl (by kernel_rfl) (by kernel_rfl) (by kernel_rfl) (fun _ _ _ _ h => h) (v_len ty22 rfl (by first | rfl | assumption) (by first | exact List.length_map .. | rfl)) rfl rfl ?_
              refine m_take 2 false rfl rfl (by kernel_rfl) (by kernel_rfl) (by kernel_rfl) (fun _ _ _ _ h => h) (v_eql rfl rfl) rfl rfl ?_
              refine m_take 3 false rfl rfl (by kernel_rfl) (by kernel_rfl) (by kernel_rfl) (fun _ _ _ _ h => h) (v_move rfl) rfl rfl ?_
              refine m_split 70 rfl (fun hg70 => ?_) (fun hg70 => ?_)
              · try simp only [decide_eq_true_eq, decide_eq_false_iff_not, Bool.not_eq_true', Bool.not_eq_false', Bool.not_eq_eq_eq_not, Bool.not_true, Bool.not_false, Bool.and_eq_true, Bool.or_eq_true, Bool.or_eq_false_iff, beq_iff_eq, beq_eq_false_iff_ne, ne_eq, Int.not_lt, Int.not_le, Decidable.not_not] at hg70
                refine m_take_no (j := 3) (t := 70) 4 rfl rfl rfl rfl rfl rfl (by kernel_rfl) (by kernel_rfl) (by kernel_rfl) (fun _ _ _ _ h => h) rfl rfl ?_
                refine m_take_no (j := 3) (t := 70) 5 rfl rfl rfl rfl rfl rfl (by kernel_rfl) (by kernel_rfl) (by kernel_rfl) (fun _ _ _ _ h => h) rfl rfl ?_
                refine m_take_no (j := 3) (t := 70) 6 rfl rfl rfl rfl rfl rfl (by kernel_rfl) (by kernel_rfl) (by kernel_rfl) (fun _ _ _ _ h => h) rfl rfl ?_
                refine m_take_no (j := 3) (t := 70) 7 rfl rfl rfl rfl rfl rfl (by kernel_rfl) (by kernel_rfl) (by kernel_rfl) (fun _ _ _ _ h => h) rfl rfl ?_
                refine m_take_no (j := 3) (t := 70) 8 rfl rfl rfl rfl rfl rfl (by kernel_rfl) (by kernel_rfl) (by kernel_rfl) (fun _ _ _ _ h => h) rfl rfl ?_
                refine m_take_no (j := 3) (t := 70) 9 rfl rfl rfl rfl rfl rfl (by kernel_rfl) (by kernel_rfl) (by kernel_rfl) (fun _ _ _ _ h => h) rfl rfl ?_
                refine m_take_no (j := 3) (t := 70) 10 rfl rfl rfl rfl rfl rfl (by kernel_rfl) (by kernel_rfl) (by kernel_rfl) (fun _ _ _ _ h => h) rfl rfl ?_
                refine m_take_no (j := 3) (t := 70) 11 rfl rfl rfl rfl rfl rfl (by kernel_rfl) (by kernel_rfl) (by kernel_rfl) (fun _ _ _ _ h => h) rfl rfl ?_
                refine m_take_no (j := 3) (t := 70) 12 rfl rfl rfl rfl rfl rfl (by kernel_rfl) (by kernel_rfl) (by kernel_rfl) (fun _ _ _ _ h => h) rfl rfl ?_
                refine m_take 13 false rfl rfl (by kernel_rfl) (by kernel_rfl) (by kernel_rfl) (fun _ _ _ _ h => h) (v_pick_t rfl rfl) rfl rfl ?_
                refine m_take 14 false rfl rfl (by kernel_rfl) (by kernel_rfl) (by kernel_rfl) (fun _ _ _ _ h => h) (v_assign rfl) rfl rfl ?_
                refine m_done (by kernel_rfl) ?_
                refine g_next hK12 ?_
                first | refine g_keep [0, 1, 6, 66] [] [] (keep_cons rfl (keep_cons rfl (keep_cons rfl (keep_cons rfl keep_nil)))) lkeep_nil keep_nil rfl ?_ | refine g_keep [0, 1, 6, 66] [] [] rfl rfl rfl rfl ?_
                refine g_cond rfl (fun _ => ?_) (fun h => by cases h)
                refine g_seq (fun K13 hK13 => ?_)
                refine g_region ?_
                obtain ⟨v, hv⟩ := get_some (l := b') (k := 0) (by omega)
                have hk := ev_keep hacc hlen (evs_came hv (by first | exact .inl (by omega) | exact .inr ⟨x2, hx2, by cases hy2.symm.trans hv; omega⟩)) (by simp) (by simp only [List.length_tail]; omega)
                refine g_step rfl (s_val (v_move rfl) rfl rfl ?_)
                refine g_step rfl (s_val (v_move rfl) rfl rfl ?_)
                refine g_step rfl (s_val (v_indexAddr ty22 ty46 rfl rfl (by first | rfl | assumption) (by first | rfl | exact (rfl : (0 : Int) = ((0 : Nat) : Int)) | exact (Int.toNat_of_nonneg (by omega)).symm) (map_get hv) rfl) rfl rfl ?_)
                refine g_step rfl (s_val (by first | exact v_fieldAddr ty46 fo46_0 ty3 rfl | exact v_fieldAddr_box ty46 fo46_0 ty3 rfl) rfl rfl ?_)
                refine g_step rfl (s_val (by first | exact v_load ty3 rfl rfl (by first | rfl | assumption) (map_get hv) rfl | exact v_load_box ty3 rfl rfl (by assumption) rfl) rfl rfl ?_)
                refine g_step rfl (s_val (v_build (vs := [(0, _), (1, _)]) (zs := [(.int .i64 0), (.int .i64 0)]) (cells := [_, _]) ty37 pl37 rfl rfl rfl) rfl rfl ?_)
                refine g_step rfl (s_lit ty25 ty37 rfl rfl rfl rfl rfl rfl rfl ?_)
                refine g_step rfl (s_append (l := (acc.map encE)) (m := ([(⟨1, v.id⟩ : Ev)].map encE)) ty25 ty37 rfl rfl hown rfl rfl (by refine Even.map _ ?_ _; intro _; rfl) (by intro x hx; obtain ⟨_, _, rfl⟩ := List.mem_map.1 hx; rfl) rfl (by simp; omega) (by simp; omega) ?_)
                intro av88 G88 hown88
                refine g_step rfl (s_val (v_assign rfl) rfl rfl ?_)
                refine g_nil ?_
                refine g_next hK13 ?_
                refine g_region ?_
                refine g_step rfl (s_val (v_move rfl) rfl rfl ?_)
                refine g_step rfl (s_val (v_slice_imm (lo := 1) (hi := b'.length) (m := (b'.tail.map encR)) ty22 ty46 rfl rfl rfl (by first | rfl | (exact (rfl : (0 : Int) = ((0 : Nat) : Int))) | omega | (simp <;> omega)) (by simp) (by omega) (by simp) (by refine Even.map _ ?_ _; intro _; rfl) (tail_eq b' encR)) rfl rfl ?_)
                refine g_step rfl (s_val (v_assign rfl) rfl rfl ?_)
                refine g_nil ?_
                refine g_block_normal ?_
                refine g_block_normal ?_
                first | refine g_keep [0, 1, 6] [] [] (keep_cons rfl (keep_cons rfl (keep_cons rfl keep_nil))) lkeep_nil keep_nil rfl ?_ | refine g_keep [0, 1, 6] [] [] rfl rfl rfl rfl ?_
                first | exact g_round _ hk.1 ⟨a'.tail, b', _, acc ++ [(⟨9, u.id⟩ : Ev)], rfl, rfl, rfl, rfl, by rw [List.map_append]; exact hown63, hk.2.1, mem_tail hma, hmb, hk.2.2⟩ | exact g_round _ hk.1 ⟨a', b'.tail, _, acc ++ [(⟨1, v.id⟩ : Ev)], rfl, rfl, rfl, rfl, by rw [List.map_append]; exact hown88, hk.2.1, hma, mem_tail hmb, hk.2.2⟩ | exact g_round _ hk.1 ⟨a'.tail, b'.tail, _, acc ++ ofL x2 y2, rfl, rfl, rfl, rfl, by rw [List.map_append]; exact hown31, hk.2.1, mem_tail hma, mem_tail hmb, hk.2.2⟩
              · try simp only [decide_eq_true_eq, decide_eq_false_iff_not, Bool.not_eq_true', Bool.not_eq_false', Bool.not_eq_eq_eq_not, Bool.not_true, Bool.not_false, Bool.and_eq_true, Bool.or_eq_true, Bool.or_eq_false_iff, beq_iff_eq, beq_eq_false_iff_ne, ne_eq, Int.not_lt, Int.not_le, Decidable.not_not] at hg70
                obtain ⟨x2, hx2⟩ := get_some (l := a') (k := 0) (by omega)
                obtain ⟨y2, hy2⟩ := get_some (l := b') (k := 0) (by omega)
                refine m_take_yes (j := 3) (t := 70) 4 false rfl rfl rfl rfl rfl (by kernel_rfl) (by kernel_rfl) (by kernel_rfl) (fun _ _ _ _ h => h) (v_move rfl) rfl rfl ?_
                refine m_take_yes (j := 3) (t := 70) 5 false rfl rfl rfl rfl rfl (by kernel_rfl) (by kernel_rfl) (by kernel_rfl) (fun _ _ _ _ h => h) (v_indexAddr ty22 ty46 rfl rfl (by first | rfl | assumption) (by first | rfl | exact (rfl : (0 : Int) = ((0 : Nat) : Int)) | exact (Int.toNat_of_nonneg (by omega)).symm) (map_get hy2) rfl) rfl rfl ?_
                refine m_take_yes (j := 3) (t := 70) 6 false rfl rfl rfl rfl rfl (by kernel_rfl) (by kernel_rfl) (by kernel_rfl) (fun _ _ _ _ h => h) (by first | exact v_fieldAddr ty46 fo46_0 ty3 rfl | exact v_fieldAddr_box ty46 fo46_0 ty3 rfl) rfl rfl ?_
                refine m_take_yes (j := 3) (t := 70) 7 true rfl rfl rfl rfl rfl (by kernel_rfl) (by kernel_rfl) (by kernel_rfl) (fun _ _ _ _ h => h) (by first | exact v_load ty3 rfl rfl (by first | rfl | assumption) (map_get hy2) rfl | exact v_load_box ty3 rfl rfl (by assumption) rfl) rfl rfl ?_
                refine m_take_yes (j := 3) (t := 70) 8 false rfl rfl rfl rfl rfl (by kernel_rfl) (by kernel_rfl) (by kernel_rfl) (fun _ _ _ _ h => h) (v_move rfl) rfl rfl ?_
                refine m_take_yes (j := 3) (t := 70) 9 false rfl rfl rfl rfl rfl (by kernel_rfl) (by kernel_rfl) (by kernel_rfl) (fun _ _ _ _ h => h) (v_indexAddr ty22 ty46 rfl rfl (by first | rfl | assumption) (by first | rfl | exact (rfl : (0 : Int) = ((0 : Nat) : Int)) | exact (Int.toNat_of_nonneg (by omega)).symm) (map_get hx2) rfl) rfl rfl ?_
                refine m_take_yes (j := 3) (t := 70) 10 false rfl rfl rfl rfl rfl (by kernel_rfl) (by kernel_rfl) (by kernel_rfl) (fun _ _ _ _ h => h) (by first | exact v_fieldAddr ty46 fo46_0 ty3 rfl | exact v_fieldAddr_box ty46 fo46_0 ty3 rfl) rfl rfl ?_
                refine m_take_yes (j := 3) (t := 70) 11 true rfl rfl rfl rfl rfl (by kernel_rfl) (by kernel_rfl) (by kernel_rfl) (fun _ _ _ _ h => h) (by first | exact v_load ty3 rfl rfl (by first | rfl | assumption) (map_get hx2) rfl | exact v_load_box ty3 rfl rfl (by assumption) rfl) rfl rfl ?_
                refine m_take_yes (j := 3) (t := 70) 12 false rfl rfl rfl rfl rfl (by kernel_rfl) (by kernel_rfl) (by kernel_rfl) (fun _ _ _ _ h => h) (v_lss rfl rfl) rfl rfl ?_
                refine m_take 13 false rfl rfl (by kernel_rfl) (by kernel_rfl) (by kernel_rfl) (fun _ _ _ _ h => h) (v_pick_f rfl rfl) rfl rfl ?_
                refine m_take 14 false rfl rfl (by kernel_rfl) (by kernel_rfl) (by kernel_rfl) (fun _ _ _ _ h => h) (v_assign rfl) rfl rfl ?_
                refine m_done (by kernel_rfl) ?_
                refine g_next hK12 ?_
                first | refine g_keep [0, 1, 6, 66] [] [] (keep_cons rfl (keep_cons rfl (keep_cons rfl (keep_cons rfl keep_nil)))) lkeep_nil keep_nil rfl ?_ | refine g_keep [0, 1, 6, 66] [] [] rfl rfl rfl rfl ?_
                refine g_cond rfl (fun hc66 => ?_) (fun hc66 => ?_)
                · try simp only [decide_eq_true_eq, decide_eq_false_iff_not, Bool.not_eq_true', Bool.not_eq_false', Bool.not_eq_eq_eq_not, Bool.not_true, Bool.not_false, Bool.and_eq_true, Bool.or_eq_true, Bool.or_eq_false_iff, beq_iff_eq, beq_eq_false_iff_ne, ne_eq, Int.not_lt, Int.not_le, Decidable.not_not] at hc66
                  refine g_seq (fun K14 hK14 => ?_)
                  refine g_region ?_
                  obtain ⟨v, hv⟩ := get_some (l := b') (k := 0) (by omega)
                  have hk := ev_keep hacc hlen (evs_came hv (by first | exact .inl (by omega) | exact .inr ⟨x2, hx2, by cases hy2.symm.trans hv; omega⟩)) (by simp) (by simp only [List.length_tail]; omega)
                  refine g_step rfl (s_val (v_move rfl) rfl rfl ?_)
                  refine g_step rfl (s_val (v_move rfl) rfl rfl ?_)
                  refine g_step rfl (s_val (v_indexAddr ty22 ty46 rfl rfl (by first | rfl | assumption) (by first | rfl | exact (rfl : (0 : Int) = ((0 : Nat) : Int)) | exact (Int.toNat_of_nonneg (by omega)).symm) (map_get hv) rfl) rfl rfl ?_)
                  refine g_step rfl (s_val (by first | exact v_fieldAddr ty46 fo46_0 ty3 rfl | exact v_fieldAddr_box ty46 fo46_0 ty3 rfl) rfl rfl ?_)
                  refine g_step rfl (s_val (by first | exact v_load ty3 rfl rfl (by first | rfl | assumption) (map_get hv) rfl | exact v_load_box ty3 rfl rfl (by assumption) rfl) rfl rfl ?_)
                  refine g_step rfl (s_val (v_build (vs := [(0, _), (1, _)]) (zs := [(.int .i64 0), (.int .i64 0)]) (cells := [_, _]) ty37 pl37 rfl rfl rfl) rfl rfl ?_)
                  refine g_step rfl (s_lit ty25 ty37 rfl rfl rfl rfl rfl rfl rfl ?_)
                  refine g_step rfl (s_append (l := (acc.map encE)) (m := ([(⟨1, v.id⟩ : Ev)].map encE)) ty25 ty37 rfl rfl hown rfl rfl (by refine Even.map _ ?_ _; intro _; rfl) (by intro x hx; obtain ⟨_, _, rfl⟩ := List.mem_map.1 hx; rfl) rfl (by simp; omega) (by simp; omega) ?_)
                  intro av88 G88 hown88
                  refine g_step rfl (s_val (v_assign rfl) rfl rfl ?_)
                  refine g_nil ?_
                  refine g_next hK14 ?_
                  refine g_region ?_
                  refine g_step rfl (s_val (v_move rfl) rfl rfl ?_)
                  refine g_step rfl (s_val (v_slice_imm (lo := 1) (hi := b'.length) (m := (b'.tail.map encR)) ty22 ty46 rfl rfl rfl (by first | rfl | (exact (rfl : (0 : Int) = ((0 : Nat) : Int))) | omega | (simp <;> omega)) (by simp) (by omega) (by simp) (by refine Even.map _ ?_ _; intro _; rfl) (tail_eq b' encR)) rfl rfl ?_)
                  refine g_step rfl (s_val (v_assign rfl) rfl rfl ?_)
                  refine g_nil ?_
                  refine g_block_normal ?_
                  refine g_block_normal ?_
                  first | refine g_keep [0, 1, 6] [] [] (keep_cons rfl (keep_cons rfl (keep_cons rfl keep_nil))) lkeep_nil keep_nil rfl ?_ | refine g_keep [0, 1, 6] [] [] rfl rfl rfl rfl ?_
                  first | exact g_round _ hk.1 ⟨a'.tail, b', _, acc ++ [(⟨9, u.id⟩ : Ev)], rfl, rfl, rfl, rfl, by rw [List.map_append]; exact hown63, hk.2.1, mem_tail hma, hmb, hk.2.2⟩ | exact g_round _ hk.1 ⟨a', b'.tail, _, acc ++ [(⟨1, v.id⟩ : Ev)], rfl, rfl, rfl, rfl, by rw [List.map_append]; exact hown88, hk.2.1, hma, mem_tail hmb, hk.2.2⟩ | exact g_round _ hk.1 ⟨a'.tail, b'.tail, _, acc ++ ofL x2 y2, rfl, rfl, rfl, rfl, by rw [List.map_append]; exact hown31, hk.2.1, mem_tail hma, mem_tail hmb, hk.2.2⟩
                · try simp only [decide_eq_true_eq, decide_eq_false_iff_not, Bool.not_eq_true', Bool.not_eq_false', Bool.not_eq_eq_eq_not, Bool.not_true, Bool.not_false, Bool.and_eq_true, Bool.or_eq_true, Bool.or_eq_false_iff, beq_iff_eq, beq_eq_false_iff_ne, ne_eq, Int.not_lt, Int.not_le, Decidable.not_not] at hc66
                  refine g_seq (fun K15 hK15 => ?_)
                  refine g_draw (n := 10) (fun j => !([8] : List Nat).contains j) rfl rfl ?_
                  have hxy : x2.id = y2.id := by first | (exfalso; omega) | (cases hx.symm.trans hx2; cases hy.symm.trans hy2; omega)
                  have hk := ev_keep hacc hlen (evs_both hx2 hy2 hxy) (ofL_len _ _) (by simp only [List.length_tail]; omega)
                  have hsx2 := hsa x2 (hma x2 (mem_get hx2))
                  have hol := ofL_len x2 y2
                  refine m_take 0 false rfl rfl (by kernel_rfl) (by kernel_rfl) (by kernel_rfl) (fun _ _ _ _ h => h) (v_move rfl) rfl rfl ?_
                  refine m_take 1 false rfl rfl (by kernel_rfl) (by kernel_rfl) (by kernel_rfl) (fun _ _ _ _ h => h) (v_move rfl) rfl rfl ?_
                  refine m_take 2 false rfl rfl (by kernel_rfl) (by kernel_rfl) (by kernel_rfl) (fun _ _ _ _ h => h) (v_indexAddr ty22 ty46 rfl rfl (by first | rfl | assumption) (by first | rfl | exact (rfl : (0 : Int) = ((0 : Nat) : Int)) | exact (Int.toNat_of_nonneg (by omega)).symm) (map_get hx2) rfl) rfl rfl ?_
                  refine m_take 4 false rfl rfl (by kernel_rfl) (by kernel_rfl) (by kernel_rfl) (fun _ _ _ _ h => h) (v_move rfl) rfl rfl ?_
                  refine m_take 5 false rfl rfl (by kernel_rfl) (by kernel_rfl) (by kernel_rfl) (fun _ _ _ _ h => h) (v_indexAddr ty22 ty46 rfl rfl (by first | rfl | assumption) (by first | rfl | exact (rfl : (0 : Int) = ((0 : Nat) : Int)) | exact (Int.toNat_of_nonneg (by omega)).symm) (map_get hy2) rfl) rfl rfl ?_
                  refine m_all (is := [3, 6]) (by kernel_rfl) rfl (fun _ _ _ => trivial) (fun i hi => ?_)
                  rcases (by simpa using hi : i = 3 ∨ i = 6) with rfl | rfl
                  · refine ⟨_, rfl, .inl ⟨rfl, ?_⟩⟩
                    refine sm_val (by first | exact v_load_elt ty46 rfl rfl (by first | rfl | assumption) (map_get hx2) rfl rfl | exact v_load_box_all ty46 rfl rfl (by assumption) rfl rfl | exact v_load_part (cs := [_, _, _, _, _, _, _]) ty46 rfl rfl (by first | rfl | assumption) (map_get hx2) rfl rfl rfl | exact v_load_box_part (cs := [_, _, _, _, _, _, _]) ty46 rfl rfl (by assumption) rfl rfl rfl) rfl rfl ?_
                    refine m_one 6 (by kernel_rfl) rfl rfl ?_
                    refine sm_val (by first | exact v_load_elt ty46 rfl rfl (by first | rfl | assumption) (map_get hy2) rfl rfl | exact v_load_box_all ty46 rfl rfl (by assumption) rfl rfl | exact v_load_part (cs := [_, _, _, _, _, _, _]) ty46 rfl rfl (by first | rfl | assumption) (map_get hy2) rfl rfl rfl | exact v_load_box_part (cs := [_, _, _, _, _, _, _]) ty46 rfl rfl (by assumption) rfl rfl rfl) rfl rfl ?_
                    refine m_one 7 (by kernel_rfl) rfl rfl ?_
                    refine sm_callp rfl rfl rfl (evof_ok x2 y2 _ hsx2) ?_
                    rintro _ rfl
                    refine m_one 8 (by kernel_rfl) rfl rfl ?_
                    refine sm_any rfl (s_append (l := (acc.map encE)) (m := ((ofL x2 y2).map encE)) ty25 ty37 rfl rfl hown rfl rfl (by refine Even.map _ ?_ _; intro _; rfl) (by intro x hx; obtain ⟨_, _, rfl⟩ := List.mem_map.1 hx; rfl) rfl (by simp; omega) (by simp; omega) ?_)
                    intro av31 G31 hown31
                    refine m_take 9 false rfl rfl (by kernel_rfl) (by kernel_rfl) (by kernel_rfl) (fun _ _ _ _ h => h) (v_assign rfl) rfl rfl ?_
                    refine m_done (by kernel_rfl) ?_
                    refine g_next hK15 ?_
                    refine g_draw (n := 6) (fun j => !([] : List Nat).contains j) rfl rfl ?_
                    refine m_take 0 false rfl rfl (by kernel_rfl) (by kernel_rfl) (by kernel_rfl) (fun _ _ _ _ h => h) (v_move rfl) rfl rfl ?_
                    refine m_take 1 false rfl rfl (by kernel_rfl) (by kernel_rfl) (by kernel_rfl) (fun _ _ _ _ h => h) (v_slice_imm (lo := 1) (hi := a'.length) (m := (a'.tail.map encR)) ty22 ty46 rfl rfl rfl (by first | rfl | (exact (rfl : (0 : Int) = ((0 : Nat) : Int))) | omega | (simp <;> omega)) (by simp) (by omega) (by simp) (by refine Even.map _ ?_ _; intro _; rfl) (tail_eq a' encR)) rfl rfl ?_
                    refine m_take 2 false rfl rfl (by kernel_rfl) (by kernel_rfl) (by kernel_rfl) (fun _ _ _ _ h => h) (v_move rfl) rfl rfl ?_
                    refine m_take 3 false rfl rfl (by kernel_rfl) (by kernel_rfl) (by kernel_rfl) (fun _ _ _ _ h => h) (v_slice_imm (lo := 1) (hi := b'.length) (m := (b'.tail.map encR)) ty22 ty46 rfl rfl rfl (by first | rfl | (exact (rfl : (0 : Int) = ((0 : Nat) : Int))) | omega | (simp <;> omega)) (by simp) (by omega) (by simp) (by refine Even.map _ ?_ _; intro _; rfl) (tail_eq b' encR)) rfl rfl ?_
                    refine m_take 4 false rfl rfl (by kernel_rfl) (by kernel_rfl) (by kernel_rfl) (fun _ _ _ _ h => h) (v_assign rfl) rfl rfl ?_
                    refine m_take 5 false rfl rfl (by kernel_rfl) (by kernel_rfl) (by kernel_rfl) (fun _ _ _ _ h => h) (v_assign rfl) rfl rfl ?_
                    refine m_done (by kernel_rfl) ?_
                    refine g_block_normal ?_
                    refine g_block_normal ?_
                    first | refine g_keep [0, 1, 6] [] [] (keep_cons rfl (keep_cons rfl (keep_cons rfl keep_nil))) lkeep_nil keep_nil rfl ?_ | refine g_keep [0, 1, 6] [] [] rfl rfl rfl rfl ?_
                    first | exact g_round _ hk.1 ⟨a'.tail, b', _, acc ++ [(⟨9, u.id⟩ : Ev)], rfl, rfl, rfl, rfl, by rw [List.map_append]; exact hown63, hk.2.1, mem_tail hma, hmb, hk.2.2⟩ | exact g_round _ hk.1 ⟨a', b'.tail, _, acc ++ [(⟨1, v.id⟩ : Ev)], rfl, rfl, rfl, rfl, by rw [List.map_append]; exact hown88, hk.2.1, hma, mem_tail hmb, hk.2.2⟩ | exact g_round _ hk.1 ⟨a'.tail, b'.tail, _, acc ++ ofL x2 y2, rfl, rfl, rfl, rfl, by rw [List.map_append]; exact hown31, hk.2.1, mem_tail hma, mem_tail hmb, hk.2.2⟩
                  · refine ⟨_, rfl, .inl ⟨rfl, ?_⟩⟩
                    refine sm_val (by first | exact v_load_elt ty46 rfl rfl (by first | rfl | assumption) (map_get hy2) rfl rfl | exact v_load_box_all ty46 rfl rfl (by assumption) rfl rfl | exact v_load_part (cs := [_, _, _, _, _, _, _]) ty46 rfl rfl (by first | rfl | assumption) (map_get hy2) rfl rfl rfl | exact v_load_box_part (cs := [_, _, _, _, _, _, _]) ty46 rfl rfl (by assumption) rfl rfl rfl) rfl rfl ?_
                    refine m_one 3 (by kernel_rfl) rfl rfl ?_
                    refine sm_val (by first | exact v_load_elt ty46 rfl rfl (by first | rfl | assumption) (map_get hx2) rfl rfl | exact v_load_box_all ty46 rfl rfl (by assumption) rfl rfl | exact v_load_part (cs := [_, _, _, _, _, _, _]) ty46 rfl rfl (by first | rfl | assumption) (map_get hx2) rfl rfl rfl | exact v_load_box_part (cs := [_, _, _, _, _, _, _]) ty46 rfl rfl (by assumption) rfl rfl rfl) rfl rfl ?_
                    refine m_one 7 (by kernel_rfl) rfl rfl ?_
                    refine sm_callp rfl rfl rfl (evof_ok x2 y2 _ hsx2) ?_
                    rintro _ rfl
                    refine m_one 8 (by kernel_rfl) rfl rfl ?_
                    refine sm_any rfl (s_append (l := (acc.map encE)) (m := ((ofL x2 y2).map encE)) ty25 ty37 rfl rfl hown rfl rfl (by refine Even.map _ ?_ _; intro _; rfl) (by intro x hx; obtain ⟨_, _, rfl⟩ := List.mem_map.1 hx; rfl) rfl (by simp; omega) (by simp; omega) ?_)
                    intro av31 G31 hown31
                    refine m_take 9 false rfl rfl (by kernel_rfl) (by kernel_rfl) (by kernel_rfl) (fun _ _ _ _ h => h) (v_assign rfl) rfl rfl ?_
                    refine m_done (by kernel_rfl) ?_
                    refine g_next hK15 ?_
                    refine g_draw (n := 6) (fun j => !([] : List Nat).contains j) rfl rfl ?_
                    refine m_take 0 false rfl rfl (by kernel_rfl) (by kernel_rfl) (by kernel_rfl) (fun _ _ _ _ h => h) (v_move rfl) rfl rfl ?_
                    refine m_take 1 false rfl rfl (by kernel_rfl) (by kernel_rfl) (by kernel_rfl) (fun _ _ _ _ h => h) (v_slice_imm (lo := 1) (hi := a'.length) (m := (a'.tail.map encR)) ty22 ty46 rfl rfl rfl (by first | rfl | (exact (rfl : (0 : Int) = ((0 : Nat) : Int))) | omega | (simp <;> omega)) (by simp) (by omega) (by simp) (by refine Even.map _ ?_ _; intro _; rfl) (tail_eq a' encR)) rfl rfl ?_
                    refine m_take 2 false rfl rfl (by kernel_rfl) (by kernel_rfl) (by kernel_rfl) (fun _ _ _ _ h => h) (v_move rfl) rfl rfl ?_
                    refine m_take 3 false rfl rfl (by kernel_rfl) (by kernel_rfl) (by kernel_rfl) (fun _ _ _ _ h => h) (v_slice_imm (lo := 1) (hi := b'.length) (m := (b'.tail.map encR)) ty22 ty46 rfl rfl rfl (by first | rfl | (exact (rfl : (0 : Int) = ((0 : Nat) : Int))) | omega | (simp <;> omega)) (by simp) (by omega) (by simp) (by refine Even.map _ ?_ _; intro _; rfl) (tail_eq b' encR)) rfl rfl ?_
                    refine m_take 4 false rfl rfl (by kernel_rfl) (by kernel_rfl) (by kernel_rfl) (fun _ _ _ _ h => h) (v_assign rfl) rfl rfl ?_
                    refine m_take 5 false rfl rfl (by kernel_rfl) (by kernel_rfl) (by kernel_rfl) (fun _ _ _ _ h => h) (v_assign rfl) rfl rfl ?_
                    refine m_done (by kernel_rfl) ?_
                    refine g_block_normal ?_
                    refine g_block_normal ?_
                    first | refine g_keep [0, 1, 6] [] [] (keep_cons rfl (keep_cons rfl (keep_cons rfl keep_nil))) lkeep_nil keep_nil rfl ?_ | refine g_keep [0, 1, 6] [] [] rfl rfl rfl rfl ?_
                    first | exact g_round _ hk.1 ⟨a'.tail, b', _, acc ++ [(⟨9, u.id⟩ : Ev)], rfl, rfl, rfl, rfl, by rw [List.map_append]; exact hown63, hk.2.1, mem_tail hma, hmb, hk.2.2⟩ | exact g_round _ hk.1 ⟨a', b'.tail, _, acc ++ [(⟨1, v.id⟩ : Ev)], rfl, rfl, rfl, rfl, by rw [List.map_append]; exact hown88, hk.2.1, hma, mem_tail hmb, hk.2.2⟩ | exact g_round _ hk.1 ⟨a'.tail, b'.tail, _, acc ++ ofL x2 y2, rfl, rfl, rfl, rfl, by rw [List.map_append]; exact hown31, hk.2.1, mem_tail hma, mem_tail hmb, hk.2.2⟩
          · try simp only [decide_eq_true_eq, decide_eq_false_iff_not, Bool.not_eq_true', Bool.not_eq_false', Bool.not_eq_eq_eq_not, Bool.not_true, Bool.not_false, Bool.and_eq_true, Bool.or_eq_true, Bool.or_eq_false_iff, beq_iff_eq, beq_eq_false_iff_ne, ne_eq, Int.not_lt, Int.not_le, Decidable.not_not] at hg44
            refine m_take_no (j := 7) (t := 44) 8 rfl rfl rfl rfl rfl rfl (by kernel_rfl) (by kernel_rfl) (by kernel_rfl) (fun _ _ _ _ h => h) rfl rfl ?_
            refine m_take_no (j := 7) (t := 44) 9 rfl rfl rfl rfl rfl rfl (by kernel_rfl) (by kernel_rfl) (by kernel_rfl) (fun _ _ _ _ h => h) rfl rfl ?_
            refine m_take_no (j := 7) (t := 44) 10 rfl rfl rfl rfl rfl rfl (by kernel_rfl) (by kernel_rfl) (by kernel_rfl) (fun _ _ _ _ h => h) rfl rfl ?_
            refine m_take_no (j := 7) (t := 44) 11 rfl rfl rfl rfl rfl rfl (by kernel_rfl) (by kernel_rfl) (by kernel_rfl) (fun _ _ _ _ h => h) rfl rfl ?_
            refine m_take_no (j := 7) (t := 44) 12 rfl rfl rfl rfl rfl rfl (by kernel_rfl) (by kernel_rfl) (by kernel_rfl) (fun _ _ _ _ h => h) rfl rfl ?_
            refine m_take_no (j := 7) (t := 44) 13 rfl rfl rfl rfl rfl rfl (by kernel_rfl) (by kernel_rfl) (by kernel_rfl) (fun _ _ _ _ h => h) rfl rfl ?_
            refine m_take_no (j := 7) (t := 44) 14 rfl rfl rfl rfl rfl rfl (by kernel_rfl) (by kernel_rfl) (by kernel_rfl) (fun _ _ _ _ h => h) rfl rfl ?_
            refine m_take_no (j := 7) (t := 44) 15 rfl rfl rfl rfl rfl rfl (by kernel_rfl) (by kernel_rfl) (by kernel_rfl) (fun _ _ _ _ h => h) rfl rfl ?_
            refine m_take_no (j := 7) (t := 44) 16 rfl rfl rfl rfl rfl rfl (by kernel_rfl) (by kernel_rfl) (by kernel_rfl) (fun _ _ _ _ h => h) rfl rfl ?_
            refine m_take_yes (j := 3) (t := 40) 17 false rfl rfl rfl rfl rfl (by kernel_rfl) (by kernel_rfl) (by kernel_rfl) (fun _ _ _ _ h => h) (v_pick_f rfl rfl) rfl rfl ?_
            refine m_take 18 false rfl rfl (by kernel_rfl) (by kernel_rfl) (by kernel_rfl) (fun _ _ _ _ h => h) (v_pick_f rfl rfl) rfl rfl ?_
            refine m_take 19 false rfl rfl (by kernel_rfl) (by kernel_rfl) (by kernel_rfl) (fun _ _ _ _ h => h) (v_assign rfl) rfl rfl ?_
            refine m_done (by kernel_rfl) ?_
            refine g_next hK9 ?_
            refine g_cond rfl (fun h => by cases h) (fun _ => ?_)
            refine g_seq (fun K16 hK16 => ?_)
            refine g_draw (n := 15) (fun j => !([] : List Nat).contains j) rfl rfl ?_
            refine m_take 0 false rfl rfl (by kernel_rfl) (by kernel_rfl) (by kernel_rfl) (fun _ _ _ _ h => h) (v_move rfl) rfl rfl ?_
            refine m_take 1 false rfl rfl (by kernel_rfl) (by kernel_rfl) (by kernel_rfl) (fun _ _ _ _ h => h) (v_len ty22 rfl (by first | rfl | assumption) (by first | exact List.length_map .. | rfl)) rfl rfl ?_
            refine m_take 2 false rfl rfl (by kernel_rfl) (by kernel_rfl) (by kernel_rfl) (fun _ _ _ _ h => h) (v_eql rfl rfl) rfl rfl ?_
            refine m_take 3 false rfl rfl (by kernel_rfl) (by kernel_rfl) (by kernel_rfl) (fun _ _ _ _ h => h) (v_move rfl) rfl rfl ?_
            refine m_split 70 rfl (fun hg70 => ?_) (fun hg70 => ?_)
            · try simp only [decide_eq_true_eq, decide_eq_false_iff_not, Bool.not_eq_true', Bool.not_eq_false', Bool.not_eq_eq_eq_not, Bool.not_true, Bool.not_false, Bool.and_eq_true, Bool.or_eq_true, Bool.or_eq_false_iff, beq_iff_eq, beq_eq_false_iff_ne, ne_eq, Int.not_lt, Int.not_le, Decidable.not_not] at hg70
              refine m_take_no (j := 3) (t := 70) 4 rfl rfl rfl rfl rfl rfl (by kernel_rfl) (by kernel_rfl) (by kernel_rfl) (fun _ _ _ _ h => h) rfl rfl ?_
              refine m_take_no (j := 3) (t := 70) 5 rfl rfl rfl rfl rfl rfl (by kernel_rfl) (by kernel_rfl) (by kernel_rfl) (fun _ _ _ _ h => h) rfl rfl ?_
              refine m_take_no (j := 3) (t := 70) 6 rfl rfl rfl rfl rfl rfl (by kernel_rfl) (by kernel_rfl) (by kernel_rfl) (fun _ _ _ _ h => h) rfl rfl ?_
              refine m_take_no (j := 3) (t := 70) 7 rfl rfl rfl rfl rfl rfl (by kernel_rfl) (by kernel_rfl) (by kernel_rfl) (fun _ _ _ _ h => h) rfl rfl ?_
              refine m_take_no (j := 3) (t := 70) 8 rfl rfl rfl rfl rfl rfl (by kernel_rfl) (by kernel_rfl) (by kernel_rfl) (fun _ _ _ _ h => h) rfl rfl ?_
              refine m_take_no (j := 3) (t := 70) 9 rfl rfl rfl rfl rfl rfl (by kernel_rfl) (by kernel_rfl) (by kernel_rfl) (fun _ _ _ _ h => h) rfl rfl ?_
              refine m_take_no (j := 3) (t := 70) 10 rfl rfl rfl rfl rfl rfl (by kernel_rfl) (by kernel_rfl) (by kernel_rfl) (fun _ _ _ _ h => h) rfl rfl ?_
              refine m_take_no (j := 3) (t := 70) 11 rfl rfl rfl rfl rfl rfl (by kernel_rfl) (by kernel_rfl) (by kernel_rfl) (fun _ _ _ _ h => h) rfl rfl ?_
              refine m_take_no (j := 3) (t := 70) 12 rfl rfl rfl rfl rfl rfl (by kernel_rfl) (by kernel_rfl) (by kernel_rfl) (fun _ _ _ _ h => h) rfl rfl ?_
              refine m_take 13 false rfl rfl (by kernel_rfl) (by kernel_rfl) (by kernel_rfl) (fun _ _ _ _ h => h) (v_pick_t rfl rfl) rfl rfl ?_
              refine m_take 14 false rfl rfl (by kernel_rfl) (by kernel_rfl) (by kernel_rfl) (fun _ _ _ _ h => h) (v_assign rfl) rfl rfl ?_
              refine m_done (by kernel_rfl) ?_
              refine g_next hK16 ?_
              first | refine g_keep [0, 1, 6, 66] [] [] (keep_cons rfl (keep_cons rfl (keep_cons rfl (keep_cons rfl keep_nil)))) lkeep_nil keep_nil rfl ?_ | refine g_keep [0, 1, 6, 66] [] [] rfl rfl rfl rfl ?_
              refine g_cond rfl (fun _ => ?_) (fun h => by cases h)
              refine g_seq (fun K17 hK17 => ?_)
              refine g_region ?_
              obtain ⟨v, hv⟩ := get_some (l := b') (k := 0) (by omega)
              have hk := ev_keep hacc hlen (evs_came hv (by first | exact .inl (by omega) | exact .inr ⟨x2, hx2, by cases hy2.symm.trans hv; omega⟩)) (by simp) (by simp only [List.length_tail]; omega)
              refine g_step rfl (s_val (v_move rfl) rfl rfl ?_)
              refine g_step rfl (s_val (v_move rfl) rfl rfl ?_)
              refine g_step rfl (s_val (v_indexAddr ty22 ty46 rfl rfl (by first | rfl | assumption) (by first | rfl | exact (rfl : (0 : Int) = ((0 : Nat) : Int)) | exact (Int.toNat_of_nonneg (by omega)).symm) (map_get hv) rfl) rfl rfl ?_)
              refine g_step rfl (s_val (by first | exact v_fieldAddr ty46 fo46_0 ty3 rfl | exact v_fieldAddr_box ty46 fo46_0 ty3 rfl) rfl rfl ?_)
              refine g_step rfl (s_val (by first | exact v_load ty3 rfl rfl (by first | rfl | assumption) (map_get hv) rfl | exact v_load_box ty3 rfl rfl (by assumption) rfl) rfl rfl ?_)
              refine g_step rfl (s_val (v_build (vs := [(0, _), (1, _)]) (zs := [(.int .i64 0), (.int .i64 0)]) (cells := [_, _]) ty37 pl37 rfl rfl rfl) rfl rfl ?_)
              refine g_step rfl (s_lit ty25 ty37 rfl rfl rfl rfl rfl rfl rfl ?_)
              refine g_step rfl (s_append (l := (acc.map encE)) (m := ([(⟨1, v.id⟩ : Ev)].map encE)) ty25 ty37 rfl rfl hown rfl rfl (by refine Even.map _ ?_ _; intro _; rfl) (by intro x hx; obtain ⟨_, _, rfl⟩ := List.mem_map.1 hx; rfl) rfl (by simp; omega) (by simp; omega) ?_)
              intro av88 G88 hown88
              refine g_step rfl (s_val (v_assign rfl) rfl rfl ?_)
              refine g_nil ?_
              refine g_next hK17 ?_
              refine g_region ?_
              refine g_step rfl (s_val (v_move rfl) rfl rfl ?_)
              refine g_step rfl (s_val (v_slice_imm (lo := 1) (hi := b'.length) (m := (b'.tail.map encR)) ty22 ty46 rfl rfl rfl (by first | rfl | (exact (rfl : (0 : Int) = ((0 : Nat) : Int))) | omega | (simp <;> omega)) (by simp) (by omega) (by simp) (by refine Even.map _ ?_ _; intro _; rfl) (tail_eq b' encR)) rfl rfl ?_)
              refine g_step rfl (s_val (v_assign rfl) rfl rfl ?_)
              refine g_nil ?_
              refine g_block_normal ?_
              refine g_block_normal ?_
              first | refine g_keep [0, 1, 6] [] [] (keep_cons rfl (keep_cons rfl (keep_cons rfl keep_nil))) lkeep_nil keep_nil rfl ?_ | refine g_keep [0, 1, 6] [] [] rfl rfl rfl rfl ?_
              first | exact g_round _ hk.1 ⟨a'.tail, b', _, acc ++ [(⟨9, u.id⟩ : Ev)], rfl, rfl, rfl, rfl, by rw [List.map_append]; exact hown63, hk.2.1, mem_tail hma, hmb, hk.2.2⟩ | exact g_round _ hk.1 ⟨a', b'.tail, _, acc ++ [(⟨1, v.id⟩ : Ev)], rfl, rfl, rfl, rfl, by rw [List.map_append]; exact hown88, hk.2.1, hma, mem_tail hmb, hk.2.2⟩ | exact g_round _ hk.1 ⟨a'.tail, b'.tail, _, acc ++ ofL x2 y2, rfl, rfl, rfl, rfl, by rw [List.map_append]; exact hown31, hk.2.1, mem_tail hma, mem_tail hmb, hk.2.2⟩
            · try simp only [decide_eq_true_eq, decide_eq_false_iff_not, Bool.not_eq_true', Bool.not_eq_false', Bool.not_eq_eq_eq_not, Bool.not_true, Bool.not_false, Bool.and_eq_true, Bool.or_eq_true, Bool.or_eq_false_iff, beq_iff_eq, beq_eq_false_iff_ne, ne_eq, Int.not_lt, Int.not_le, Decidable.not_not] at hg70
              obtain ⟨x2, hx2⟩ := get_some (l := a') (k := 0) (by omega)
              obtain ⟨y2, hy2⟩ := get_some (l := b') (k := 0) (by omega)
              refine m_take_yes (j := 3) (t := 70) 4 false rfl rfl rfl rfl rfl (by kernel_rfl) (by kernel_rfl) (by kernel_rfl) (fun _ _ _ _ h => h) (v_move rfl) rfl rfl ?_
              refine m_take_yes (j := 3) (t := 70) 5 false rfl rfl rfl rfl rfl (by kernel_rfl) (by kernel_rfl) (by kernel_rfl) (fun _ _ _ _ h => h) (v_indexAddr ty22 ty46 rfl rfl (by first | rfl | assumption) (by first | rfl | exact (rfl : (0 : Int) = ((0 : Nat) : Int)) | exact (Int.toNat_of_nonneg (by omega)).symm) (map_get hy2) rfl) rfl rfl ?_
              refine m_take_yes (j := 3) (t := 70) 6 false rfl rfl rfl rfl rfl (by kernel_rfl) (by kernel_rfl) (by kernel_rfl) (fun _ _ _ _ h => h) (by first | exact v_fieldAddr ty46 fo46_0 ty3 rfl | exact v_fieldAddr_box ty46 fo46_0 ty3 rfl) rfl rfl ?_
              refine m_take_yes (j := 3) (t := 70) 7 true rfl rfl rfl rfl rfl (by kernel_rfl) (by kernel_rfl) (by kernel_rfl) (fun _ _ _ _ h => h) (by first | exact v_load ty3 rfl rfl (by first | rfl | assumption) (map_get hy2) rfl | exact v_load_box ty3 rfl rfl (by assumption) rfl) rfl rfl ?_
              refine m_take_yes (j := 3) (t := 70) 8 false rfl rfl rfl rfl rfl (by kernel_rfl) (by kernel_rfl) (by kernel_rfl) (fun _ _ _ _ h => h) (v_move rfl) rfl rfl ?_
              refine m_take_yes (j := 3) (t := 70) 9 false rfl rfl rfl rfl rfl (by kernel_rfl) (by kernel_rfl) (by kernel_rfl) (fun _ _ _ _ h => h) (v_indexAddr ty22 ty46 rfl rfl (by first | rfl | assumption) (by first | rfl | exact (rfl : (0 : Int) = ((0 : Nat) : Int)) | exact (Int.toNat_of_nonneg (by omega)).symm) (map_get hx2) rfl) rfl rfl ?_
              refine m_take_yes (j := 3) (t := 70) 10 false rfl rfl rfl rfl rfl (by kernel_rfl) (by kernel_rfl) (by kernel_rfl) (fun _ _ _ _ h => h) (by first | exact v_fieldAddr ty46 fo46_0 ty3 rfl | exact v_fieldAddr_box ty46 fo46_0 ty3 rfl) rfl rfl ?_
              refine m_take_yes (j := 3) (t := 70) 11 true rfl rfl rfl rfl rfl (by kernel_rfl) (by kernel_rfl) (by kernel_rfl) (fun _ _ _ _ h => h) (by first | exact v_load ty3 rfl rfl (by first | rfl | assumption) (map_get hx2) rfl | exact v_load_box ty3 rfl rfl (by assumption) rfl) rfl rfl ?_
              refine m_take_yes (j := 3) (t := 70) 12 false rfl rfl rfl rfl rfl (by kernel_rfl) (by kernel_rfl) (by kernel_rfl) (fun _ _ _ _ h => h) (v_lss rfl rfl) rfl rfl ?_
              refine m_take 13 false rfl rfl (by kernel_rfl) (by kernel_rfl) (by kernel_rfl) (fun _ _ _ _ h => h) (v_pick_f rfl rfl) rfl rfl ?_
              refine m_take 14 false rfl rfl (by kernel_rfl) (by kernel_rfl) (by kernel_rfl) (fun _ _ _ _ h => h) (v_assign rfl) rfl rfl ?_
              refine m_done (by kernel_rfl) ?_
              refine g_next hK16 ?_
              first | refine g_keep [0, 1, 6, 66] [] [] (keep_cons rfl (keep_cons rfl (keep_cons rfl (keep_cons rfl keep_nil)))) lkeep_nil keep_nil rfl ?_ | refine g_keep [0, 1, 6, 66] [] [] rfl rfl rfl rfl ?_
              refine g_cond rfl (fun hc66 => ?_) (fun hc66 => ?_)
              · try simp only [decide_eq_true_eq, decide_eq_false_iff_not, Bool.not_eq_true', Bool.not_eq_false', Bool.not_eq_eq_eq_not, Bool.not_true, Bool.not_false, Bool.and_eq_true, Bool.or_eq_true, Bool.or_eq_false_iff, beq_iff_eq, beq_eq_false_iff_ne, ne_eq, Int.not_lt, Int.not_le, Decidable.not_not] at hc66
                refine g_seq (fun K18 hK18 => ?_)
                refine g_region ?_
                obtain ⟨v, hv⟩ := get_some (l := b') (k := 0) (by omega)
                have hk := ev_keep hacc hlen (evs_came hv (by first | exact .inl (by omega) | exact .inr ⟨x2, hx2, by cases hy2.symm.trans hv; omega⟩)) (by simp) (by simp only [List.length_tail]; omega)
                refine g_step rfl (s_val (v_move rfl) rfl rfl ?_)
                refine g_step rfl (s_val (v_move rfl) rfl rfl ?_)
                refine g_step rfl (s_val (v_indexAddr ty22 ty46 rfl rfl (by first | rfl | assumption) (by first | rfl | exact (rfl : (0 : Int) = ((0 : Nat) : Int)) | exact (Int.toNat_of_nonneg (by omega)).symm) (map_get hv) rfl) rfl rfl ?_)
                refine g_step rfl (s_val (by first | exact v_fieldAddr ty46 fo46_0 ty3 rfl | exact v_fieldAddr_box ty46 fo46_0 ty3 rfl) rfl rfl ?_)
                refine g_step rfl (s_val (by first | exact v_load ty3 rfl rfl (by first | rfl | assumption) (map_get hv) rfl | exact v_load_box ty3 rfl rfl (by assumption) rfl) rfl rfl ?_)
                refine g_step rfl (s_val (v_build (vs := [(0, _), (1, _)]) (zs := [(.int .i64 0), (.int .i64 0)]) (cells := [_, _]) ty37 pl37 rfl rfl rfl) rfl rfl ?_)
                refine g_step rfl (s_lit ty25 ty37 rfl rfl rfl rfl rfl rfl rfl ?_)
                refine g_step rfl (s_append (l := (acc.map encE)) (m := ([(⟨1, v.id⟩ : Ev)].map encE)) ty25 ty37 rfl rfl hown rfl rfl (by refine Even.map _ ?_ _; intro _; rfl) (by intro x hx; obtain ⟨_, _, rfl⟩ := List.mem_map.1 hx; rfl) rfl (by simp; omega) (by simp; omega) ?_)
                intro av88 G88 hown88
                refine g_step rfl (s_val (v_assign rfl) rfl rfl ?_)
                refine g_nil ?_
                refine g_next hK18 ?_
                refine g_region ?_
                refine g_step rfl (s_val (v_move rfl) rfl rfl ?_)
                refine g_step rfl (s_val (v_slice_imm (lo := 1) (hi := b'.length) (m := (b'.tail.map encR)) ty22 ty46 rfl rfl rfl (by first | rfl | (exact (rfl : (0 : Int) = ((0 : Nat) : Int))) | omega | (simp <;> omega)) (by simp) (by omega) (by simp) (by refine Even.map _ ?_ _; intro _; rfl) (tail_eq b' encR)) rfl rfl ?_)
                refine g_step rfl (s_val (v_assign rfl) rfl rfl ?_)
                refine g_nil ?_
                refine g_block_normal ?_
                refine g_block_normal ?_
                first | refine g_keep [0, 1, 6] [] [] (keep_cons rfl (keep_cons rfl (keep_cons rfl keep_nil))) lkeep_nil keep_nil rfl ?_ | refine g_keep [0, 1, 6] [] [] rfl rfl rfl rfl ?_
                first | exact g_round _ hk.1 ⟨a'.tail, b', _, acc ++ [(⟨9, u.id⟩ : Ev)], rfl, rfl, rfl, rfl, by rw [List.map_append]; exact hown63, hk.2.1, mem_tail hma, hmb, hk.2.2⟩ | exact g_round _ hk.1 ⟨a', b'.tail, _, acc ++ [(⟨1, v.id⟩ : Ev)], rfl, rfl, rfl, rfl, by rw [List.map_append]; exact hown88, hk.2.1, hma, mem_tail hmb, hk.2.2⟩ | exact g_round _ hk.1 ⟨a'.tail, b'.tail, _, acc ++ ofL x2 y2, rfl, rfl, rfl, rfl, by rw [List.map_append]; exact hown31, hk.2.1, mem_tail hma, mem_tail hmb, hk.2.2⟩
              · try simp only [decide_eq_true_eq, decide_eq_false_iff_not, Bool.not_eq_true', Bool.not_eq_false', Bool.not_eq_eq_eq_not, Bool.not_true, Bool.not_false, Bool.and_eq_true, Bool.or_eq_true, Bool.or_eq_false_iff, beq_iff_eq, beq_eq_false_iff_ne, ne_eq, Int.not_lt, Int.not_le, Decidable.not_not] at hc66
                refine g_seq (fun K19 hK19 => ?_)
                refine g_draw (n := 10) (fun j => !([8] : List Nat).contains j) rfl rfl ?_
                have hxy : x2.id = y2.id := by first | (exfalso; omega) | (cases hx.symm.trans hx2; cases hy.symm.trans hy2; omega)
                have hk := ev_keep hacc hlen (evs_both hx2 hy2 hxy) (ofL_len _ _) (by simp only [List.length_tail]; omega)
                have hsx2 := hsa x2 (hma x2 (mem_get hx2))
                have hol := ofL_len x2 y2
                refine m_take 0 false rfl rfl (by kernel_rfl) (by kernel_rfl) (by kernel_rfl) (fun _ _ _ _ h => h) (v_move rfl) rfl rfl ?_
                refine m_take 1 false rfl rfl (by kernel_rfl) (by kernel_rfl) (by kernel_rfl) (fun _ _ _ _ h => h) (v_move rfl) rfl rfl ?_
                refine m_take 2 false rfl rfl (by kernel_rfl) (by kernel_rfl) (by kernel_rfl) (fun _ _ _ _ h => h) (v_indexAddr ty22 ty46 rfl rfl (by first | rfl | assumption) (by first | rfl | exact (rfl : (0 : Int) = ((0 : Nat) : Int)) | exact (Int.toNat_of_nonneg (by omega)).symm) (map_get hx2) rfl) rfl rfl ?_
                refine m_take 4 false rfl rfl (by kernel_rfl) (by kernel_rfl) (by kernel_rfl) (fun _ _ _ _ h => h) (v_move rfl) rfl rfl ?_
                refine m_take 5 false rfl rfl (by kernel_rfl) (by kernel_rfl) (by kernel_rfl) (fun _ _ _ _ h => h) (v_indexAddr ty22 ty46 rfl rfl (by first | rfl | assumption) (by first | rfl | exact (rfl : (0 : Int) = ((0 : Nat) : Int)) | exact (Int.toNat_of_nonneg (by omega)).symm) (map_get hy2) rfl) rfl rfl ?_
                refine m_all (is := [3, 6]) (by kernel_rfl) rfl (fun _ _ _ => trivial) (fun i hi => ?_)
                rcases (by simpa using hi : i = 3 ∨ i = 6) with rfl | rfl
                · refine ⟨_, rfl, .inl ⟨rfl, ?_⟩⟩
                  refine sm_val (by first | exact v_load_elt ty46 rfl rfl (by first | rfl | assumption) (map_get hx2) rfl rfl | exact v_load_box_all ty46 rfl rfl (by assumption) rfl rfl | exact v_load_part (cs := [_, _, _, _, _, _, _]) ty46 rfl rfl (by first | rfl | assumption) (map_get hx2) rfl rfl rfl | exact v_load_box_part (cs := [_, _, _, _, _, _, _]) ty46 rfl rfl (by assumption) rfl rfl rfl) rfl rfl ?_
                  refine m_one 6 (by kernel_rfl) rfl rfl ?_
                  refine sm_val (by first | exact v_load_elt ty46 rfl rfl (by first | rfl | assumption) (map_get hy2) rfl rfl | exact v_load_box_all ty46 rfl rfl (by assumption) rfl rfl | exact v_load_part (cs := [_, _, _, _, _, _, _]) ty46 rfl rfl (by first | rfl | assumption) (map_get hy2) rfl rfl rfl | exact v_load_box_part (cs := [_, _, _, _, _, _, _]) ty46 rfl rfl (by assumption) rfl rfl rfl) rfl rfl ?_
                  refine m_one 7 (by kernel_rfl) rfl rfl ?_
                  refine sm_callp rfl rfl rfl (evof_ok x2 y2 _ hsx2) ?_
                  rintro _ rfl
                  refine m_one 8 (by kernel_rfl) rfl rfl ?_
                  refine sm_any rfl (s_append (l := (acc.map encE)) (m := ((ofL x2 y2).map encE)) ty25 ty37 rfl rfl hown rfl rfl (by refine Even.map _ ?_ _; intro _; rfl) (by intro x hx; obtain ⟨_, _, rfl⟩ := List.mem_map.1 hx; rfl) rfl (by simp; omega) (by simp; omega) ?_)
                  intro av31 G31 hown31
                  refine m_take 9 false rfl rfl (by kernel_rfl) (by kernel_rfl) (by kernel_rfl) (fun _ _ _ _ h => h) (v_assign rfl) rfl rfl ?_
                  refine m_done (by kernel_rfl) ?_
                  refine g_next hK19 ?_
                  refine g_draw (n := 6) (fun j => !([] : List Nat).contains j) rfl rfl ?_
                  refine m_take 0 false rfl rfl (by kernel_rfl) (by kernel_rfl) (by kernel_rfl) (fun _ _ _ _ h => h) (v_move rfl) rfl rfl ?_
                  refine m_take 1 false rfl rfl (by kernel_rfl) (by kernel_rfl) (by kernel_rfl) (fun _ _ _ _ h => h) (v_slice_imm (lo := 1) (hi := a'.length) (m := (a'.tail.map encR)) ty22 ty46 rfl rfl rfl (by first | rfl | (exact (rfl : (0 : Int) = ((0 : Nat) : Int))) | omega | (simp <;> omega)) (by simp) (by omega) (by simp) (by refine Even.map _ ?_ _; intro _; rfl) (tail_eq a' encR)) rfl rfl ?_
                  refine m_take 2 false rfl rfl (by kernel_rfl) (by kernel_rfl) (by kernel_rfl) (fun _ _ _ _ h => h) (v_move rfl) rfl rfl ?_
                  refine m_take 3 false rfl rfl (by kernel_rfl) (by kernel_rfl) (by kernel_rfl) (fun _ _ _ _ h => h) (v_slice_imm (lo := 1) (hi := b'.length) (m := (b'.tail.map encR)) ty22 ty46 rfl rfl rfl (by first | rfl | (exact (rfl : (0 : Int) = ((0 : Nat) : Int))) | omega | (simp <;> omega)) (by simp) (by omega) (by simp) (by refine Even.map _ ?_ _; intro _; rfl) (tail_eq b' encR)) rfl rfl ?_
                  refine m_take 4 false rfl rfl (by kernel_rfl) (by kernel_rfl) (by kernel_rfl) (fun _ _ _ _ h => h) (v_assign rfl) rfl rfl ?_
                  refine m_take 5 false rfl rfl (by kernel_rfl) (by kernel_rfl) (by kernel_rfl) (fun _ _ _ _ h => h) (v_assign rfl) rfl rfl ?_
                  refine m_done (by kernel_rfl) ?_
                  refine g_block_normal ?_
                  refine g_block_normal ?_
                  first | refine g_keep [0, 1, 6] [] [] (keep_cons rfl (keep_cons rfl (keep_cons rfl keep_nil))) lkeep_nil keep_nil rfl ?_ | refine g_keep [0, 1, 6] [] [] rfl rfl rfl rfl ?_
                  first | exact g_round _ hk.1 ⟨a'.tail, b', _, acc ++ [(⟨9, u.id⟩ : Ev)], rfl, rfl, rfl, rfl, by rw [List.map_append]; exact hown63, hk.2.1, mem_tail hma, hmb, hk.2.2⟩ | exact g_round _ hk.1 ⟨a', b'.tail, _, acc ++ [(⟨1, v.id⟩ : Ev)], rfl, rfl, rfl, rfl, by rw [List.map_append]; exact hown88, hk.2.1, hma, mem_tail hmb, hk.2.2⟩ | exact g_round _ hk.1 ⟨a'.tail, b'.tail, _, acc ++ ofL x2 y2, rfl, rfl, rfl, rfl, by rw [List.map_append]; exact hown31, hk.2.1, mem_tail hma, mem_tail hmb, hk.2.2⟩
                · refine ⟨_, rfl, .inl ⟨rfl, ?_⟩⟩
                  refine sm_val (by first | exact v_load_elt ty46 rfl rfl (by first | rfl | assumption) (map_get hy2) rfl rfl | exact v_load_box_all ty46 rfl rfl (by assumption) rfl rfl | exact v_load_part (cs := [_, _, _, _, _, _, _]) ty46 rfl rfl (by first | rfl | assumption) (map_get hy2) rfl rfl rfl | exact v_load_box_part (cs := [_, _, _, _, _, _, _]) ty46 rfl rfl (by assumption) rfl rfl rfl) rfl rfl ?_
                  refine m_one 3 (by kernel_rfl) rfl rfl ?_
                  refine sm_val (by first | exact v_load_elt ty46 rfl rfl (by first | rfl | assumption) (map_get hx2) rfl rfl | exact v_load_box_all ty46 rfl rfl (by assumption) rfl rfl | exact v_load_part (cs := [_, _, _, _, _, _, _]) ty46 rfl rfl (by first | rfl | assumption) (map_get hx2) rfl rfl rfl | exact v_load_box_part (cs := [_, _, _, _, _, _, _]) ty46 rfl rfl (by assumption) rfl rfl rfl) rfl rfl ?_
                  refine m_one 7 (by kernel_rfl) rfl rfl ?_
                  refine sm_callp rfl rfl rfl (evof_ok x2 y2 _ hsx2) ?_
                  rintro _ rfl
                  refine m_one 8 (by kernel_rfl) rfl rfl ?_
                  refine sm_any rfl (s_append (l := (acc.map encE)) (m := ((ofL x2 y2).map encE)) ty25 ty37 rfl rfl hown rfl rfl (by refine Even.map _ ?_ _; intro _; rfl) (by intro x hx; obtain ⟨_, _, rfl⟩ := List.mem_map.1 hx; rfl) rfl (by simp; omega) (by simp; omega) ?_)
                  intro av31 G31 hown31
                  refine m_take 9 false rfl rfl (by kernel_rfl) (by kernel_rfl) (by kernel_rfl) (fun _ _ _ _ h => h) (v_assign rfl) rfl rfl ?_
                  refine m_done (by kernel_rfl) ?_
                  refine g_next hK19 ?_
                  refine g_draw (n := 6) (fun j => !([] : List Nat).contains j) rfl rfl ?_
                  refine m_take 0 false rfl rfl (by kernel_rfl) (by kernel_rfl) (by kernel_rfl) (fun _ _ _ _ h => h) (v_move rfl) rfl rfl ?_
                  refine m_take 1 false rfl rfl (by kernel_rfl) (by kernel_rfl) (by kernel_rfl) (fun _ _ _ _ h => h) (v_slice_imm (lo := 1) (hi := a'.length) (m := (a'.tail.map encR)) ty22 ty46 rfl rfl rfl (by first | rfl | (exact (rfl : (0 : Int) = ((0 : Nat) : Int))) | omega | (simp <;> omega)) (by simp) (by omega) (by simp) (by refine Even.map _ ?_ _; intro _; rfl) (tail_eq a' encR)) rfl rfl ?_
                  refine m_take 2 false rfl rfl (by kernel_rfl) (by kernel_rfl) (by kernel_rfl) (fun _ _ _ _ h => h) (v_move rfl) rfl rfl ?_
                  refine m_take 3 false rfl rfl (by kernel_rfl) (by kernel_rfl) (by kernel_rfl) (fun _ _ _ _ h => h) (v_slice_imm (lo := 1) (hi := b'.length) (m := (b'.tail.map encR)) ty22 ty46 rfl rfl rfl (by first | rfl | (exact (rfl : (0 : Int) = ((0 : Nat) : Int))) | omega | (simp <;> omega)) (by simp) (by omega) (by simp) (by refine Even.map _ ?_ _; intro _; rfl) (tail_eq b' encR)) rfl rfl ?_
                  refine m_take 4 false rfl rfl (by kernel_rfl) (by kernel_rfl) (by kernel_rfl) (fun _ _ _ _ h => h) (v_assign rfl) rfl rfl ?_
                  refine m_take 5 false rfl rfl (by kernel_rfl) (by kernel_rfl) (by kernel_rfl) (fun _ _ _ _ h => h) (v_assign rfl) rfl rfl ?_
                  refine m_done (by kernel_rfl) ?_
                  refine g_block_normal ?_
                  refine g_block_normal ?_
                  first | refine g_keep [0, 1, 6] [] [] (keep_cons rfl (keep_cons rfl (keep_cons rfl keep_nil))) lkeep_nil keep_nil rfl ?_ | refine g_keep [0, 1, 6] [] [] rfl rfl rfl rfl ?_
                  first | exact g_round _ hk.1 ⟨a'.tail, b', _, acc ++ [(⟨9, u.id⟩ : Ev)], rfl, rfl, rfl, rfl, by rw [List.map_append]; exact hown63, hk.2.1, mem_tail hma, hmb, hk.2.2⟩ | exact g_round _ hk.1 ⟨a', b'.tail, _, acc ++ [(⟨1, v.id⟩ : Ev)], rfl, rfl, rfl, rfl, by rw [List.map_append]; exact hown88, hk.2.1, hma, mem_tail hmb, hk.2.2⟩ | exact g_round _ hk.1 ⟨a'.tail, b'.tail, _, acc ++ ofL x2 y2, rfl, rfl, rfl, rfl, by rw [List.map_append]; exact hown31, hk.2.1, mem_tail hma, mem_tail hmb, hk.2.2⟩

end Go.Proofs.Ytgipbhfblmblcaa

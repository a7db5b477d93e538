import Derived.Test.YtgipbhfblmblcaaMember
set_option maxHeartbeats 8000000
set_option linter.unusedSimpArgs false
set_option linter.unusedVariables false
set_option maxRecDepth 100000
namespace Go.Proofs.Ytgipbhfblmblcaa
open Go Go.Proofs.Ytgipbhfblmblcaa.AM
theorem begin_ok (own : Rc) (room : Int) (G : AHeap) (hs : Small own.bag) (hv : recValid own = true) (h0 : own.st = 0) (h1 : 1 ≤ room) (h48 : room ≤ 48) : LCalls Try.prog 24 [encR own, .int .i64 room] G noD (fun n rv effs => ∃ p q, n ≤ p ∧ n ≤ q ∧ p ≠ q ∧ rv = .tup [.box p 0, .int .i64 0] ∧ effs = [(p, .box (tabA own.id room q 1)), (q, .row 7 ([own].map encR))]) := by
 refine LCalls.intro 28 fi24 rfl Try.ntmps24 rfl (fun _ h => h.elim) (fun H hH w0 hw0 => ?_)
 refine g_seq (fun K0 hK0 => ?_)
 refine g_region ?_
 refine g_step rfl (s_box rfl rfl rfl rfl ?_)
 refine g_step rfl (s_val (v_assign rfl) rfl rfl ?_)
 refine g_step rfl (s_val (v_assign rfl) rfl rfl ?_)
 refine g_nil ?_
 refine g_next hK0 ?_
 refine g_seq (fun K1 hK1 => ?_)
 refine g_seq (fun K2 hK2 => ?_)
 refine g_region ?_
 refine g_step rfl (s_val (by first | exact v_loadl_all ty46 rfl rfl rfl rfl rfl | exact v_loadl_part (cs := [_, _, _, _, _, _, _]) ty46 rfl rfl rfl rfl rfl rfl) rfl rfl ?_)
 refine g_step rfl (s_callp rfl rfl rfl (recValid_ok own _ hs) ?_)
 rintro _ rfl
 refine g_step rfl (s_val (v_not rfl) rfl rfl ?_)
 refine g_step rfl (s_val (v_move rfl) rfl rfl ?_)
 refine g_split 9 rfl (fun hg9 => ?_) (fun hg9 => ?_)
 · exfalso; (try simp only [NM] at hg9); simp_all
 ·
  try simp only [NM] at hg9
  refine g_step_yes (j := 3) (t := 9) rfl rfl rfl rfl (s_fieldAddr ty46 fo46_2 ty3 rfl rfl ?_)
  refine g_step_yes (j := 3) (t := 9) rfl rfl rfl rfl (s_val (v_loadl ty3 rfl rfl rfl rfl) rfl rfl ?_)
  refine g_step_yes (j := 3) (t := 9) rfl rfl rfl rfl (s_val (v_neq rfl rfl) rfl rfl ?_)
  refine g_step rfl (s_val (v_pick_f rfl rfl) rfl rfl ?_)
  refine g_nil ?_
  refine g_next hK2 ?_
  refine g_cond rfl (fun hc13 => ?_) (fun hc13 => ?_)
  · exfalso; (try simp only [NM] at hc13); omega
  ·
   try simp only [NM] at hc13
   refine g_skip ?_
   refine g_next hK1 ?_
   refine g_seq (fun K3 hK3 => ?_)
   refine g_seq (fun K4 hK4 => ?_)
   refine g_region ?_
   refine g_step rfl (s_val (v_move rfl) rfl rfl ?_)
   refine g_step rfl (s_val (v_lss rfl rfl) rfl rfl ?_)
   refine g_step rfl (s_val (v_move rfl) rfl rfl ?_)
   refine g_split 16 rfl (fun hg16 => ?_) (fun hg16 => ?_)
   · exfalso; (try simp only [NM] at hg16); omega
   ·
    try simp only [NM] at hg16
    refine g_step_yes (j := 2) (t := 16) rfl rfl rfl rfl (s_val (v_move rfl) rfl rfl ?_)
    refine g_step_yes (j := 2) (t := 16) rfl rfl rfl rfl (s_val (v_gtr rfl rfl) rfl rfl ?_)
    refine g_step rfl (s_val (v_pick_f rfl rfl) rfl rfl ?_)
    refine g_nil ?_
    refine g_next hK4 ?_
    refine g_cond rfl (fun hc19 => ?_) (fun hc19 => ?_)
    · exfalso; (try simp only [NM] at hc19); omega
    ·
     try simp only [NM] at hc19
     refine g_skip ?_
     refine g_next hK3 ?_
     refine g_seq (fun K5 hK5 => ?_)
     refine g_draw (n := 10) (fun j => !([5] : List Nat).contains j) rfl rfl ?_
     refine m_takel 0 rfl rfl (by kernel_rfl) (by kernel_rfl) (by kernel_rfl) (fun _ _ _ _ h => h) (vl_fieldAddr ty46 fo46_0 ty3 rfl) rfl rfl ?_
     refine m_tk 2 false rfl rfl (by kernel_rfl) (v_move rfl) rfl rfl ?_
     refine m_tk 3 true rfl rfl (by kernel_rfl) (by first | exact v_loadl_all ty46 rfl rfl rfl rfl rfl | exact v_loadl_part (cs := [_, _, _, _, _, _, _]) ty46 rfl rfl rfl rfl rfl rfl) rfl rfl ?_
     refine m_all (is := [1, 4]) (by kernel_rfl) rfl (fun _ _ _ => trivial) (fun i hi => ?_)
     rcases (by simpa using hi : i = 1 ∨ i = 4) with rfl | rfl
     ·
      refine ⟨_, rfl, .inl ⟨rfl, ?_⟩⟩
      refine sm_val (v_loadl ty3 rfl rfl rfl rfl) rfl rfl ?_
      refine m_one 4 (by kernel_rfl) rfl rfl ?_
      refine sm_lit ty22 ty46 rfl rfl rfl rfl rfl rfl rfl ?_
      refine m_one 5 (by kernel_rfl) rfl rfl ?_
      refine sm_any rfl (s_call rfl rfl rfl (recCopyO_ok [own] _ _ rfl (by simp) (by simpa using hs)) (fun _ h => h.elim) ?_)
      rintro n1 rv1 effs1 hn1 hdom1 hR1 hok1
      obtain ⟨q, hq1, rfl, rfl⟩ := hR1.resolve_left (by rintro ⟨_, h0, _⟩; simp at h0)
      refine m_tk 6 false rfl rfl (by kernel_rfl) (v_build (vs := [(0, _), (1, _), (2, _)]) (zs := [(.int .i64 0), (.int .i64 0), .nil0]) (cells := [_, _, _]) ty110 pl110 rfl rfl rfl) rfl rfl ?_
      refine m_one 7 (by kernel_rfl) rfl rfl ?_
      refine sm_box rfl rfl rfl rfl ?_
      refine g_expose 27 rfl rfl (fun r27 hr27 hw27 => ?_)
      refine m_tk 8 false rfl rfl (by kernel_rfl) (v_assign rfl) rfl rfl ?_
      refine m_tk 9 false rfl rfl (by kernel_rfl) (v_assign rfl) rfl rfl ?_
      refine m_done (by kernel_rfl) ?_
      refine g_next hK5 ?_
      refine g_ret ?_
      refine g_end2 (.inl rfl) Try.results24 (.tmp rfl) (.tmp rfl) [(r27, .box (tabA own.id room q 1)), (q, .row 7 ([own].map encR))] (ASub.refl _) (AHeap.sub_refl _) (fun z hz' => .inr (by simp at hz'; rcases hz' with rfl | rfl; exact hw27; exact Nat.le_trans hn1 hq1)) ⟨r27, q, hw27, Nat.le_trans hn1 hq1, (fun e => by subst e; have h9 : (setAll H [(r27, ARow.row 7 ([own].map encR))]) r27 = some (.row 7 ([own].map encR)) := AHeap.get_set _ _ _; rw [hr27] at h9; cases h9), rfl, rfl⟩
     ·
      refine ⟨_, rfl, .inl ⟨rfl, ?_⟩⟩
      refine sm_lit ty22 ty46 rfl rfl rfl rfl rfl rfl rfl ?_
      refine m_all (is := [1, 5]) (by kernel_rfl) rfl (fun _ _ _ => trivial) (fun i hi => ?_)
      rcases (by simpa using hi : i = 1 ∨ i = 5) with rfl | rfl
      ·
       refine ⟨_, rfl, .inl ⟨rfl, ?_⟩⟩
       refine sm_val (v_loadl ty3 rfl rfl rfl rfl) rfl rfl ?_
       refine m_one 5 (by kernel_rfl) rfl rfl ?_
       refine sm_any rfl (s_call rfl rfl rfl (recCopyO_ok [own] _ _ rfl (by simp) (by simpa using hs)) (fun _ h => h.elim) ?_)
       rintro n1 rv1 effs1 hn1 hdom1 hR1 hok1
       obtain ⟨q, hq1, rfl, rfl⟩ := hR1.resolve_left (by rintro ⟨_, h0, _⟩; simp at h0)
       refine m_tk 6 false rfl rfl (by kernel_rfl) (v_build (vs := [(0, _), (1, _), (2, _)]) (zs := [(.int .i64 0), (.int .i64 0), .nil0]) (cells := [_, _, _]) ty110 pl110 rfl rfl rfl) rfl rfl ?_
       refine m_one 7 (by kernel_rfl) rfl rfl ?_
       refine sm_box rfl rfl rfl rfl ?_
       refine g_expose 27 rfl rfl (fun r27 hr27 hw27 => ?_)
       refine m_tk 8 false rfl rfl (by kernel_rfl) (v_assign rfl) rfl rfl ?_
       refine m_tk 9 false rfl rfl (by kernel_rfl) (v_assign rfl) rfl rfl ?_
       refine m_done (by kernel_rfl) ?_
       refine g_next hK5 ?_
       refine g_ret ?_
       refine g_end2 (.inl rfl) Try.results24 (.tmp rfl) (.tmp rfl) [(r27, .box (tabA own.id room q 1)), (q, .row 7 ([own].map encR))] (ASub.refl _) (AHeap.sub_refl _) (fun z hz' => .inr (by simp at hz'; rcases hz' with rfl | rfl; exact hw27; exact Nat.le_trans hn1 hq1)) ⟨r27, q, hw27, Nat.le_trans hn1 hq1, (fun e => by subst e; have h9 : (setAll H [(r27, ARow.row 7 ([own].map encR))]) r27 = some (.row 7 ([own].map encR)) := AHeap.get_set _ _ _; rw [hr27] at h9; cases h9), rfl, rfl⟩
      ·
       refine ⟨_, rfl, .inl ⟨rfl, ?_⟩⟩
       refine sm_any rfl (s_call rfl rfl rfl (recCopyO_ok [own] _ _ rfl (by simp) (by simpa using hs)) (fun _ h => h.elim) ?_)
       rintro n1 rv1 effs1 hn1 hdom1 hR1 hok1
       obtain ⟨q, hq1, rfl, rfl⟩ := hR1.resolve_left (by rintro ⟨_, h0, _⟩; simp at h0)
       refine m_tk 1 true rfl rfl (by kernel_rfl) (v_loadl ty3 rfl rfl rfl rfl) rfl rfl ?_
       refine m_tk 6 false rfl rfl (by kernel_rfl) (v_build (vs := [(0, _), (1, _), (2, _)]) (zs := [(.int .i64 0), (.int .i64 0), .nil0]) (cells := [_, _, _]) ty110 pl110 rfl rfl rfl) rfl rfl ?_
       refine m_one 7 (by kernel_rfl) rfl rfl ?_
       refine sm_box rfl rfl rfl rfl ?_
       refine g_expose 27 rfl rfl (fun r27 hr27 hw27 => ?_)
       refine m_tk 8 false rfl rfl (by kernel_rfl) (v_assign rfl) rfl rfl ?_
       refine m_tk 9 false rfl rfl (by kernel_rfl) (v_assign rfl) rfl rfl ?_
       refine m_done (by kernel_rfl) ?_
       refine g_next hK5 ?_
       refine g_ret ?_
       refine g_end2 (.inl rfl) Try.results24 (.tmp rfl) (.tmp rfl) [(r27, .box (tabA own.id room q 1)), (q, .row 7 ([own].map encR))] (ASub.refl _) (AHeap.sub_refl _) (fun z hz' => .inr (by simp at hz'; rcases hz' with rfl | rfl; exact hw27; exact Nat.le_trans hn1 hq1)) ⟨r27, q, hw27, Nat.le_trans hn1 hq1, (fun e => by subst e; have h9 : (setAll H [(r27, ARow.row 7 ([own].map encR))]) r27 = some (.row 7 ([own].map encR)) := AHeap.get_set _ _ _; rw [hr27] at h9; cases h9), rfl, rfl⟩

theorem begin1_ok (own : Rc) (room : Int) (G : AHeap) (hs : Small own.bag) (hv : recValid own = false ∨ own.st ≠ 0) : PCalls Try.prog 24 [encR own, .int .i64 room] G (fun v => v = .tup [.nilp, .int .i64 1]) := by
 refine LCalls.intro 28 fi24 rfl Try.ntmps24 rfl (fun _ h => h.elim) (fun H hH w0 hw0 => ?_)
 refine g_seq (fun K0 hK0 => ?_)
 refine g_region ?_
 refine g_step rfl (s_box rfl rfl rfl rfl ?_)
 refine g_step rfl (s_val (v_assign rfl) rfl rfl ?_)
 refine g_step rfl (s_val (v_assign rfl) rfl rfl ?_)
 refine g_nil ?_
 refine g_next hK0 ?_
 refine g_seq (fun K1 hK1 => ?_)
 refine g_seq (fun K2 hK2 => ?_)
 refine g_region ?_
 refine g_step rfl (s_val (by first | exact v_loadl_all ty46 rfl rfl rfl rfl rfl | exact v_loadl_part (cs := [_, _, _, _, _, _, _]) ty46 rfl rfl rfl rfl rfl rfl) rfl rfl ?_)
 refine g_step rfl (s_callp rfl rfl rfl (recValid_ok own _ hs) ?_)
 rintro _ rfl
 refine g_step rfl (s_val (v_not rfl) rfl rfl ?_)
 refine g_step rfl (s_val (v_move rfl) rfl rfl ?_)
 refine g_split 9 rfl (fun hg9 => ?_) (fun hg9 => ?_)
 ·
  try simp only [NM] at hg9
  refine g_step_no (j := 3) (t := 9) rfl rfl rfl rfl rfl rfl rfl ?_
  refine g_step_no (j := 3) (t := 9) rfl rfl rfl rfl rfl rfl rfl ?_
  refine g_step_no (j := 3) (t := 9) rfl rfl rfl rfl rfl rfl rfl ?_
  refine g_step rfl (s_val (v_pick_t rfl rfl) rfl rfl ?_)
  refine g_nil ?_
  refine g_next hK2 ?_
  refine g_cond rfl (fun _ => ?_) (fun h => by cases h)
  refine g_seq (fun K3 hK3 => ?_)
  refine g_region ?_
  refine g_step rfl (s_val (v_assign rfl) rfl rfl ?_)
  refine g_step rfl (s_val (v_assign rfl) rfl rfl ?_)
  refine g_nil ?_
  refine g_next hK3 ?_
  refine g_ret ?_
  refine g_then_ret ?_
  refine g_end2 (.inl rfl) Try.results24 (.tmp rfl) (.tmp rfl) [] (ASub.refl _) (AHeap.sub_refl _) (fun p hp => by cases hp) ⟨rfl, ?_⟩
  rfl
 ·
  try simp only [NM] at hg9
  refine g_step_yes (j := 3) (t := 9) rfl rfl rfl rfl (s_fieldAddr ty46 fo46_2 ty3 rfl rfl ?_)
  refine g_step_yes (j := 3) (t := 9) rfl rfl rfl rfl (s_val (v_loadl ty3 rfl rfl rfl rfl) rfl rfl ?_)
  refine g_step_yes (j := 3) (t := 9) rfl rfl rfl rfl (s_val (v_neq rfl rfl) rfl rfl ?_)
  refine g_step rfl (s_val (v_pick_f rfl rfl) rfl rfl ?_)
  refine g_nil ?_
  refine g_next hK2 ?_
  refine g_cond rfl (fun hc13 => ?_) (fun hc13 => ?_)
  ·
   try simp only [NM] at hc13
   refine g_seq (fun K4 hK4 => ?_)
   refine g_region ?_
   refine g_step rfl (s_val (v_assign rfl) rfl rfl ?_)
   refine g_step rfl (s_val (v_assign rfl) rfl rfl ?_)
   refine g_nil ?_
   refine g_next hK4 ?_
   refine g_ret ?_
   refine g_then_ret ?_
   refine g_end2 (.inl rfl) Try.results24 (.tmp rfl) (.tmp rfl) [] (ASub.refl _) (AHeap.sub_refl _) (fun p hp => by cases hp) ⟨rfl, ?_⟩
   rfl
  · exfalso; (try simp only [NM] at hc13); simp_all

theorem mall_ok (p r : Nat) (me room : Int) (l : List Rc) (G : AHeap) (hT : Tb G p r me room l) (hl : l.length ≤ 1000) (hs : ∀ x ∈ l, Small x.bag) : PCalls Try.prog 32 [.box p 0] G (fun v => v = encRs l) := by
 refine LCalls.intro 10 fi32 rfl Try.ntmps32 rfl (fun _ h => h.elim) (fun H hH w0 hw0 => ?_)
 have hT1 := hT.mono hH
 refine g_seq (fun K0 hK0 => ?_)
 refine g_region ?_
 refine g_step rfl (s_val (v_assign rfl) rfl rfl ?_)
 refine g_nil ?_
 refine g_next hK0 ?_
 refine g_seq (fun K1 hK1 => ?_)
 refine g_seq (fun K2 hK2 => ?_)
 refine g_region ?_
 refine g_step rfl (s_val (v_move rfl) rfl rfl ?_)
 refine g_step rfl (s_val (by first | exact v_ptr_eql_nil ty48 rfl rfl rfl | exact v_nil_eql_nil ty48 rfl rfl | exact v_ptrO_eql ty48 rfl rfl) rfl rfl ?_)
 refine g_nil ?_
 refine g_next hK2 ?_
 refine g_cond rfl (fun hc4 => ?_) (fun hc4 => ?_)
 · exfalso; (try simp only [NM] at hc4); simp at hc4
 ·
  try simp only [NM] at hc4
  refine g_skip ?_
  refine g_next hK1 ?_
  refine g_seq (fun K3 hK3 => ?_)
  refine g_region ?_
  refine g_step rfl (s_val (v_move rfl) rfl rfl ?_)
  refine g_step rfl (s_val (v_nilCheck rfl rfl) rfl rfl ?_)
  refine g_step rfl (s_val (by first | exact v_fieldAddr ty110 fo110_2 ty22 rfl | exact v_fieldAddr_box ty110 fo110_2 ty22 rfl) rfl rfl ?_)
  refine g_step rfl (s_val (by first | exact v_load ty22 rfl rfl (by first | rfl | assumption) (by first | assumption | exact map_get (by assumption) | rfl) rfl | exact v_load_box ty22 rfl rfl hT1.tp (by rfl)) rfl rfl ?_)
  refine g_step rfl (s_callp rfl rfl rfl (recCopy_ok l _ (.own r 7 0 l.length) hT1.view (by omega) hs) ?_)
  rintro _ rfl
  refine g_step rfl (s_val (v_assign rfl) rfl rfl ?_)
  refine g_nil ?_
  refine g_next hK3 ?_
  refine g_ret ?_
  refine g_end1 (.inl rfl) Try.results32 (.tmp rfl) [] (ASub.refl _) (AHeap.sub_refl _) (fun p hp => by cases hp) ⟨rfl, ?_⟩
  rfl

theorem mget_ok (p r : Nat) (me room : Int) (l : List Rc) (id : Int) (G : AHeap) (hT : Tb G p r me room l) (hl : l.length ≤ 1000) (hs : ∀ x ∈ l, Small x.bag) : PCalls Try.prog 33 [.box p 0, .int .i64 id] G (fun v => v = .tup [encR (rfind l id).1, .bool (rfind l id).2]) := by
 refine LCalls.intro 17 fi33 rfl Try.ntmps33 rfl (fun _ h => h.elim) (fun H hH w0 hw0 => ?_)
 have hT1 := hT.mono hH
 refine g_seq (fun K0 hK0 => ?_)
 refine g_region ?_
 refine g_step rfl (s_alloc (av := (.agg [(.int .i64 0), (.int .i64 0), (.int .i64 0), (.int .i64 0), (.int .i64 0), (.bool false), .nil0])) ty46 rfl rfl rfl rfl ?_)
 refine g_step rfl (s_val (v_assign rfl) rfl rfl ?_)
 refine g_nil ?_
 refine g_next hK0 ?_
 refine g_seq (fun K1 hK1 => ?_)
 refine g_seq (fun K2 hK2 => ?_)
 refine g_region ?_
 refine g_step rfl (s_val (v_move rfl) rfl rfl ?_)
 refine g_step rfl (s_val (by first | exact v_ptr_eql_nil ty48 rfl rfl rfl | exact v_nil_eql_nil ty48 rfl rfl | exact v_ptrO_eql ty48 rfl rfl) rfl rfl ?_)
 refine g_nil ?_
 refine g_next hK2 ?_
 refine g_cond rfl (fun hc7 => ?_) (fun hc7 => ?_)
 · exfalso; (try simp only [NM] at hc7); simp at hc7
 ·
  try simp only [NM] at hc7
  refine g_skip ?_
  refine g_next hK1 ?_
  refine g_seq (fun K3 hK3 => ?_)
  refine g_region ?_
  refine g_step rfl (s_val (v_move rfl) rfl rfl ?_)
  refine g_step rfl (s_val (v_nilCheck rfl rfl) rfl rfl ?_)
  refine g_step rfl (s_val (by first | exact v_fieldAddr ty110 fo110_2 ty22 rfl | exact v_fieldAddr_box ty110 fo110_2 ty22 rfl) rfl rfl ?_)
  refine g_step rfl (s_val (by first | exact v_load ty22 rfl rfl (by first | rfl | assumption) (by first | assumption | exact map_get (by assumption) | rfl) rfl | exact v_load_box ty22 rfl rfl hT1.tp (by rfl)) rfl rfl ?_)
  refine g_step rfl (s_val (v_move rfl) rfl rfl ?_)
  refine g_step rfl (s_callp rfl rfl rfl (find_ok l id _ (.own r 7 0 l.length) hT1.view (by omega) hs) ?_)
  rintro _ rfl
  refine g_step rfl (s_val (v_extract rfl rfl) rfl rfl ?_)
  refine g_step rfl (s_val (v_extract rfl rfl) rfl rfl ?_)
  refine g_step rfl (s_store_all ty46 rfl rfl rfl rfl rfl rfl ?_)
  refine g_step rfl (s_val (v_assign rfl) rfl rfl ?_)
  refine g_nil ?_
  refine g_next hK3 ?_
  refine g_ret ?_
  refine g_end2 (.inl rfl) Try.results33 (.agg ty46 rfl rfl rfl rfl rfl) (.tmp rfl) [] (ASub.refl _) (AHeap.sub_refl _) (fun p hp => by cases hp) ⟨rfl, ?_⟩
  rfl

theorem mself_ok (p r : Nat) (me room : Int) (l : List Rc) (G : AHeap) (hT : Tb G p r me room l) (hl : l.length ≤ 1000) (hs : ∀ x ∈ l, Small x.bag) : PCalls Try.prog 26 [.box p 0] G (fun v => v = encR (rfind l me).1) := by
 refine LCalls.intro 13 fi26 rfl Try.ntmps26 rfl (fun _ h => h.elim) (fun H hH w0 hw0 => ?_)
 have hT1 := hT.mono hH
 refine g_seq (fun K0 hK0 => ?_)
 refine g_region ?_
 refine g_step rfl (s_alloc (av := (.agg [(.int .i64 0), (.int .i64 0), (.int .i64 0), (.int .i64 0), (.int .i64 0), (.bool false), .nil0])) ty46 rfl rfl rfl rfl ?_)
 refine g_nil ?_
 refine g_next hK0 ?_
 refine g_seq (fun K1 hK1 => ?_)
 refine g_region ?_
 refine g_step rfl (s_val (v_move rfl) rfl rfl ?_)
 refine g_step rfl (s_val (v_move rfl) rfl rfl ?_)
 refine g_step rfl (s_callp rfl rfl rfl (mid_ok p r me room l _ hT1 hl hs) ?_)
 rintro _ rfl
 refine g_step rfl (s_callp rfl rfl rfl (mget_ok p r me room l me _ hT1 hl hs) ?_)
 rintro _ rfl
 refine g_step rfl (s_val (v_move rfl) rfl rfl ?_)
 refine g_step rfl (s_val (v_extract rfl rfl) rfl rfl ?_)
 refine g_step rfl (s_val (v_extract rfl rfl) rfl rfl ?_)
 refine g_step rfl (s_alloc (av := (.agg [(.int .i64 0), (.int .i64 0), (.int .i64 0), (.int .i64 0), (.int .i64 0), (.bool false), .nil0])) ty46 rfl rfl rfl rfl ?_)
 refine g_step rfl (s_store_all ty46 rfl rfl rfl rfl rfl rfl ?_)
 refine g_step rfl (s_val (v_assign rfl) rfl rfl ?_)
 refine g_nil ?_
 refine g_next hK1 ?_
 refine g_seq (fun K2 hK2 => ?_)
 refine g_region ?_
 refine g_step rfl (s_val (by first | exact v_loadl_all ty46 rfl rfl rfl rfl rfl | exact v_loadl_part (cs := [_, _, _, _, _, _, _]) ty46 rfl rfl rfl rfl rfl rfl) rfl rfl ?_)
 refine g_step rfl (s_store_all ty46 rfl rfl rfl rfl rfl rfl ?_)
 refine g_nil ?_
 refine g_next hK2 ?_
 refine g_ret ?_
 refine g_end1 (.inl rfl) Try.results26 (.agg ty46 rfl rfl rfl rfl rfl) [] (ASub.refl _) (AHeap.sub_refl _) (fun p hp => by cases hp) ⟨rfl, ?_⟩
 rfl

theorem move_ok (p r : Nat) (me room : Int) (l : List Rc) (id inc s s' : Int) (G : AHeap) (hT : Tb G p r me room l) (hl : l.length ≤ 1000) (hs : ∀ x ∈ l, Small x.bag) : LCalls Try.prog 92 [.box p 0, .int .i64 id, .int .i64 inc, .int .i64 s, .int .i64 s'] G (fun b => b = p ∨ b = r) (fun n rv effs => rv = .bool (moveT me l id inc s s').2 ∧ TE n p r me room l (moveT me l id inc s s').1 effs) := by
 refine LCalls.intro 57 fi92 rfl Try.ntmps92 rfl (by rintro b (rfl | rfl); rw [hT.tp]; simp; rw [hT.tr]; simp) (fun H hH w0 hw0 => ?_)
 have hT1 := hT.mono hH
 refine g_seq (fun K0 hK0 => ?_)
 refine g_region ?_
 refine g_step rfl (s_val (v_assign rfl) rfl rfl ?_)
 refine g_nil ?_
 refine g_next hK0 ?_
 refine g_seq (fun K1 hK1 => ?_)
 refine g_region ?_
 refine g_step rfl (s_val (v_move rfl) rfl rfl ?_)
 refine g_step rfl (s_val (v_move rfl) rfl rfl ?_)
 refine g_step rfl (s_callp rfl rfl rfl (at_ok p r me room l id _ hT1 hl hs) ?_)
 rintro _ rfl
 refine g_step rfl (s_val (v_assign rfl) rfl rfl ?_)
 refine g_nil ?_
 refine g_next hK1 ?_
 refine g_seq (fun K2 hK2 => ?_)
 refine g_seq (fun K3 hK3 => ?_)
 refine g_region ?_
 refine g_step rfl (s_val (v_move rfl) rfl rfl ?_)
 refine g_step rfl (s_val (v_lss rfl rfl) rfl rfl ?_)
 refine g_step rfl (s_val (v_move rfl) rfl rfl ?_)
 refine g_split 17 rfl (fun hg17 => ?_) (fun hg17 => ?_)
 ·
  try simp only [NM] at hg17
  have hno := at_none (l := l) (id := id) (by omega)
  refine g_step_no (j := 2) (t := 17) rfl rfl rfl rfl rfl rfl rfl ?_
  refine g_step_no (j := 2) (t := 17) rfl rfl rfl rfl rfl rfl rfl ?_
  refine g_step_no (j := 2) (t := 17) rfl rfl rfl rfl rfl rfl rfl ?_
  refine g_step_no (j := 2) (t := 17) rfl rfl rfl rfl rfl rfl rfl ?_
  refine g_step_no (j := 2) (t := 17) rfl rfl rfl rfl rfl rfl rfl ?_
  refine g_step_no (j := 2) (t := 17) rfl rfl rfl rfl rfl rfl rfl ?_
  refine g_step rfl (s_val (v_pick_t rfl rfl) rfl rfl ?_)
  refine g_step rfl (s_val (v_move rfl) rfl rfl ?_)
  refine g_step_no (j := 10) (t := 25) rfl rfl rfl rfl rfl rfl rfl ?_
  refine g_step_no (j := 10) (t := 25) rfl rfl rfl rfl rfl rfl rfl ?_
  refine g_step_no (j := 10) (t := 25) rfl rfl rfl rfl rfl rfl rfl ?_
  refine g_step_no (j := 10) (t := 25) rfl rfl rfl rfl rfl rfl rfl ?_
  refine g_step_no (j := 10) (t := 25) rfl rfl rfl rfl rfl rfl rfl ?_
  refine g_step_no (j := 10) (t := 25) rfl rfl rfl rfl rfl rfl rfl ?_
  refine g_step_no (j := 10) (t := 25) rfl rfl rfl rfl rfl rfl rfl ?_
  refine g_step_no (j := 10) (t := 25) rfl rfl rfl rfl rfl rfl rfl ?_
  refine g_step_no (j := 10) (t := 25) rfl rfl rfl rfl rfl rfl rfl ?_
  refine g_step_no (j := 10) (t := 25) rfl rfl rfl rfl rfl rfl rfl ?_
  refine g_step rfl (s_val (v_pick_t rfl rfl) rfl rfl ?_)
  refine g_step rfl (s_val (v_move rfl) rfl rfl ?_)
  refine g_step_no (j := 22) (t := 37) rfl rfl rfl rfl rfl rfl rfl ?_
  refine g_step_no (j := 22) (t := 37) rfl rfl rfl rfl rfl rfl rfl ?_
  refine g_step_no (j := 22) (t := 37) rfl rfl rfl rfl rfl rfl rfl ?_
  refine g_step_no (j := 22) (t := 37) rfl rfl rfl rfl rfl rfl rfl ?_
  refine g_step_no (j := 22) (t := 37) rfl rfl rfl rfl rfl rfl rfl ?_
  refine g_step_no (j := 22) (t := 37) rfl rfl rfl rfl rfl rfl rfl ?_
  refine g_step_no (j := 22) (t := 37) rfl rfl rfl rfl rfl rfl rfl ?_
  refine g_step_no (j := 22) (t := 37) rfl rfl rfl rfl rfl rfl rfl ?_
  refine g_step_no (j := 22) (t := 37) rfl rfl rfl rfl rfl rfl rfl ?_
  refine g_step_no (j := 22) (t := 37) rfl rfl rfl rfl rfl rfl rfl ?_
  refine g_step rfl (s_val (v_pick_t rfl rfl) rfl rfl ?_)
  refine g_nil ?_
  refine g_next hK3 ?_
  first | refine g_keep [0, 4, 11, 48] [] [] (keep_cons rfl (keep_cons rfl (keep_cons rfl (keep_cons rfl keep_nil)))) lkeep_nil keep_nil rfl ?_ | refine g_keep [0, 4, 11, 48] [] [] rfl rfl rfl rfl ?_
  refine g_cond rfl (fun _ => ?_) (fun h => by cases h)
  refine g_seq (fun K4 hK4 => ?_)
  refine g_region ?_
  have hR : (moveT me l id inc s s') = (l, false) := by first | (rw [moveT, hno]; done) | (rw [moveT, hno]; rfl) | (rw [moveT, hfny]; exact if_pos (by omega))
  refine g_step rfl (s_val (v_assign rfl) rfl rfl ?_)
  refine g_nil ?_
  refine g_next hK4 ?_
  refine g_ret ?_
  refine g_then_ret ?_
  refine g_end1 (.inl rfl) Try.results92 (.tmp rfl) [] (ASub.refl _) (AHeap.sub_refl _) (fun p hp => by cases hp) (by rw [hR]; exact ⟨rfl, .inl ⟨rfl, rfl⟩⟩)
 ·
  try simp only [NM] at hg17
  obtain ⟨j, y, hzy, hiy, hfy, hidy, hfny⟩ := at_some (l := l) (id := id) (by omega)
  refine g_step_yes (j := 2) (t := 17) rfl rfl rfl rfl (s_val (v_move rfl) rfl rfl ?_)
  refine g_step_yes (j := 2) (t := 17) rfl rfl rfl rfl (s_val (v_move rfl) rfl rfl ?_)
  refine g_step_yes (j := 2) (t := 17) rfl rfl rfl rfl (s_val (v_nilCheck rfl rfl) rfl rfl ?_)
  refine g_step_yes (j := 2) (t := 17) rfl rfl rfl rfl (s_val (by first | exact v_fieldAddr ty110 fo110_0 ty3 rfl | exact v_fieldAddr_box ty110 fo110_0 ty3 rfl) rfl rfl ?_)
  refine g_step_yes (j := 2) (t := 17) rfl rfl rfl rfl (s_val (by first | exact v_load ty3 rfl rfl (by first | rfl | assumption) (by first | assumption | exact map_get (by assumption) | rfl) rfl | exact v_load_box ty3 rfl rfl hT1.tp (by rfl)) rfl rfl ?_)
  refine g_step_yes (j := 2) (t := 17) rfl rfl rfl rfl (s_val (v_eql rfl rfl) rfl rfl ?_)
  refine g_step rfl (s_val (v_pick_f rfl rfl) rfl rfl ?_)
  refine g_step rfl (s_val (v_move rfl) rfl rfl ?_)
  refine g_split 25 rfl (fun hg25 => ?_) (fun hg25 => ?_)
  ·
   try simp only [NM] at hg25
   refine g_step_no (j := 10) (t := 25) rfl rfl rfl rfl rfl rfl rfl ?_
   refine g_step_no (j := 10) (t := 25) rfl rfl rfl rfl rfl rfl rfl ?_
   refine g_step_no (j := 10) (t := 25) rfl rfl rfl rfl rfl rfl rfl ?_
   refine g_step_no (j := 10) (t := 25) rfl rfl rfl rfl rfl rfl rfl ?_
   refine g_step_no (j := 10) (t := 25) rfl rfl rfl rfl rfl rfl rfl ?_
   refine g_step_no (j := 10) (t := 25) rfl rfl rfl rfl rfl rfl rfl ?_
   refine g_step_no (j := 10) (t := 25) rfl rfl rfl rfl rfl rfl rfl ?_
   refine g_step_no (j := 10) (t := 25) rfl rfl rfl rfl rfl rfl rfl ?_
   refine g_step_no (j := 10) (t := 25) rfl rfl rfl rfl rfl rfl rfl ?_
   refine g_step_no (j := 10) (t := 25) rfl rfl rfl rfl rfl rfl rfl ?_
   refine g_step rfl (s_val (v_pick_t rfl rfl) rfl rfl ?_)
   refine g_step rfl (s_val (v_move rfl) rfl rfl ?_)
   refine g_step_no (j := 22) (t := 37) rfl rfl rfl rfl rfl rfl rfl ?_
   refine g_step_no (j := 22) (t := 37) rfl rfl rfl rfl rfl rfl rfl ?_
   refine g_step_no (j := 22) (t := 37) rfl rfl rfl rfl rfl rfl rfl ?_
   refine g_step_no (j := 22) (t := 37) rfl rfl rfl rfl rfl rfl rfl ?_
   refine g_step_no (j := 22) (t := 37) rfl rfl rfl rfl rfl rfl rfl ?_
   refine g_step_no (j := 22) (t := 37) rfl rfl rfl rfl rfl rfl rfl ?_
   refine g_step_no (j := 22) (t := 37) rfl rfl rfl rfl rfl rfl rfl ?_
   refine g_step_no (j := 22) (t := 37) rfl rfl rfl rfl rfl rfl rfl ?_
   refine g_step_no (j := 22) (t := 37) rfl rfl rfl rfl rfl rfl rfl ?_
   refine g_step_no (j := 22) (t := 37) rfl rfl rfl rfl rfl rfl rfl ?_
   refine g_step rfl (s_val (v_pick_t rfl rfl) rfl rfl ?_)
   refine g_nil ?_
   refine g_next hK3 ?_
   first | refine g_keep [0, 4, 11, 48] [] [] (keep_cons rfl (keep_cons rfl (keep_cons rfl (keep_cons rfl keep_nil)))) lkeep_nil keep_nil rfl ?_ | refine g_keep [0, 4, 11, 48] [] [] rfl rfl rfl rfl ?_
   refine g_cond rfl (fun _ => ?_) (fun h => by cases h)
   refine g_seq (fun K5 hK5 => ?_)
   refine g_region ?_
   have hR : (moveT me l id inc s s') = (l, false) := by first | (rw [moveT, hno]; done) | (rw [moveT, hno]; rfl) | (rw [moveT, hfny]; exact if_pos (by omega))
   refine g_step rfl (s_val (v_assign rfl) rfl rfl ?_)
   refine g_nil ?_
   refine g_next hK5 ?_
   refine g_ret ?_
   refine g_then_ret ?_
   refine g_end1 (.inl rfl) Try.results92 (.tmp rfl) [] (ASub.refl _) (AHeap.sub_refl _) (fun p hp => by cases hp) (by rw [hR]; exact ⟨rfl, .inl ⟨rfl, rfl⟩⟩)
  ·
   try simp only [NM] at hg25
   refine g_step_yes (j := 10) (t := 25) rfl rfl rfl rfl (s_val (v_move rfl) rfl rfl ?_)
   refine g_step_yes (j := 10) (t := 25) rfl rfl rfl rfl (s_val (v_nilCheck rfl rfl) rfl rfl ?_)
   refine g_step_yes (j := 10) (t := 25) rfl rfl rfl rfl (s_val (by first | exact v_fieldAddr ty110 fo110_2 ty22 rfl | exact v_fieldAddr_box ty110 fo110_2 ty22 rfl) rfl rfl ?_)
   refine g_step_yes (j := 10) (t := 25) rfl rfl rfl rfl (s_val (by first | exact v_load ty22 rfl rfl (by first | rfl | assumption) (by first | assumption | exact map_get (by assumption) | rfl) rfl | exact v_load_box ty22 rfl rfl hT1.tp (by rfl)) rfl rfl ?_)
   refine g_step_yes (j := 10) (t := 25) rfl rfl rfl rfl (s_val (v_move rfl) rfl rfl ?_)
   refine g_step_yes (j := 10) (t := 25) rfl rfl rfl rfl (s_val (v_indexAddr ty22 ty46 rfl rfl hT1.view hzy (map_get hiy) rfl) rfl rfl ?_)
   refine g_step_yes (j := 10) (t := 25) rfl rfl rfl rfl (s_val (by first | exact v_fieldAddr ty46 fo46_1 ty3 rfl | exact v_fieldAddr_box ty46 fo46_1 ty3 rfl) rfl rfl ?_)
   refine g_step_yes (j := 10) (t := 25) rfl rfl rfl rfl (s_val (by first | exact v_load ty3 rfl rfl hT1.view (map_get hiy) rfl | exact v_load_box ty3 rfl rfl (by assumption) rfl) rfl rfl ?_)
   refine g_step_yes (j := 10) (t := 25) rfl rfl rfl rfl (s_val (v_move rfl) rfl rfl ?_)
   refine g_step_yes (j := 10) (t := 25) rfl rfl rfl rfl (s_val (v_neq rfl rfl) rfl rfl ?_)
   refine g_step rfl (s_val (v_pick_f rfl rfl) rfl rfl ?_)
   refine g_step rfl (s_val (v_move rfl) rfl rfl ?_)
   refine g_split 37 rfl (fun hg37 => ?_) (fun hg37 => ?_)
   ·
    try simp only [NM] at hg37
    refine g_step_no (j := 22) (t := 37) rfl rfl rfl rfl rfl rfl rfl ?_
    refine g_step_no (j := 22) (t := 37) rfl rfl rfl rfl rfl rfl rfl ?_
    refine g_step_no (j := 22) (t := 37) rfl rfl rfl rfl rfl rfl rfl ?_
    refine g_step_no (j := 22) (t := 37) rfl rfl rfl rfl rfl rfl rfl ?_
    refine g_step_no (j := 22) (t := 37) rfl rfl rfl rfl rfl rfl rfl ?_
    refine g_step_no (j := 22) (t := 37) rfl rfl rfl rfl rfl rfl rfl ?_
    refine g_step_no (j := 22) (t := 37) rfl rfl rfl rfl rfl rfl rfl ?_
    refine g_step_no (j := 22) (t := 37) rfl rfl rfl rfl rfl rfl rfl ?_
    refine g_step_no (j := 22) (t := 37) rfl rfl rfl rfl rfl rfl rfl ?_
    refine g_step_no (j := 22) (t := 37) rfl rfl rfl rfl rfl rfl rfl ?_
    refine g_step rfl (s_val (v_pick_t rfl rfl) rfl rfl ?_)
    refine g_nil ?_
    refine g_next hK3 ?_
    first | refine g_keep [0, 4, 11, 48] [] [] (keep_cons rfl (keep_cons rfl (keep_cons rfl (keep_cons rfl keep_nil)))) lkeep_nil keep_nil rfl ?_ | refine g_keep [0, 4, 11, 48] [] [] rfl rfl rfl rfl ?_
    refine g_cond rfl (fun _ => ?_) (fun h => by cases h)
    refine g_seq (fun K6 hK6 => ?_)
    refine g_region ?_
    have hR : (moveT me l id inc s s') = (l, false) := by first | (rw [moveT, hno]; done) | (rw [moveT, hno]; rfl) | (rw [moveT, hfny]; exact if_pos (by omega))
    refine g_step rfl (s_val (v_assign rfl) rfl rfl ?_)
    refine g_nil ?_
    refine g_next hK6 ?_
    refine g_ret ?_
    refine g_then_ret ?_
    refine g_end1 (.inl rfl) Try.results92 (.tmp rfl) [] (ASub.refl _) (AHeap.sub_refl _) (fun p hp => by cases hp) (by rw [hR]; exact ⟨rfl, .inl ⟨rfl, rfl⟩⟩)
   ·
    try simp only [NM] at hg37
    refine g_step_yes (j := 22) (t := 37) rfl rfl rfl rfl (s_val (v_move rfl) rfl rfl ?_)
    refine g_step_yes (j := 22) (t := 37) rfl rfl rfl rfl (s_val (v_nilCheck rfl rfl) rfl rfl ?_)
    refine g_step_yes (j := 22) (t := 37) rfl rfl rfl rfl (s_val (by first | exact v_fieldAddr ty110 fo110_2 ty22 rfl | exact v_fieldAddr_box ty110 fo110_2 ty22 rfl) rfl rfl ?_)
    refine g_step_yes (j := 22) (t := 37) rfl rfl rfl rfl (s_val (by first | exact v_load ty22 rfl rfl (by first | rfl | assumption) (by first | assumption | exact map_get (by assumption) | rfl) rfl | exact v_load_box ty22 rfl rfl hT1.tp (by rfl)) rfl rfl ?_)
    refine g_step_yes (j := 22) (t := 37) rfl rfl rfl rfl (s_val (v_move rfl) rfl rfl ?_)
    refine g_step_yes (j := 22) (t := 37) rfl rfl rfl rfl (s_val (v_indexAddr ty22 ty46 rfl rfl hT1.view hzy (map_get hiy) rfl) rfl rfl ?_)
    refine g_step_yes (j := 22) (t := 37) rfl rfl rfl rfl (s_val (by first | exact v_fieldAddr ty46 fo46_2 ty3 rfl | exact v_fieldAddr_box ty46 fo46_2 ty3 rfl) rfl rfl ?_)
    refine g_step_yes (j := 22) (t := 37) rfl rfl rfl rfl (s_val (by first | exact v_load ty3 rfl rfl hT1.view (map_get hiy) rfl | exact v_load_box ty3 rfl rfl (by assumption) rfl) rfl rfl ?_)
    refine g_step_yes (j := 22) (t := 37) rfl rfl rfl rfl (s_val (v_move rfl) rfl rfl ?_)
    refine g_step_yes (j := 22) (t := 37) rfl rfl rfl rfl (s_val (v_neq rfl rfl) rfl rfl ?_)
    refine g_step rfl (s_val (v_pick_f rfl rfl) rfl rfl ?_)
    refine g_nil ?_
    refine g_next hK3 ?_
    first | refine g_keep [0, 4, 11, 48] [] [] (keep_cons rfl (keep_cons rfl (keep_cons rfl (keep_cons rfl keep_nil)))) lkeep_nil keep_nil rfl ?_ | refine g_keep [0, 4, 11, 48] [] [] rfl rfl rfl rfl ?_
    refine g_cond rfl (fun hc48 => ?_) (fun hc48 => ?_)
    ·
     try simp only [NM] at hc48
     refine g_seq (fun K7 hK7 => ?_)
     refine g_region ?_
     have hR : (moveT me l id inc s s') = (l, false) := by first | (rw [moveT, hno]; done) | (rw [moveT, hno]; rfl) | (rw [moveT, hfny]; exact if_pos (by omega))
     refine g_step rfl (s_val (v_assign rfl) rfl rfl ?_)
     refine g_nil ?_
     refine g_next hK7 ?_
     refine g_ret ?_
     refine g_then_ret ?_
     refine g_end1 (.inl rfl) Try.results92 (.tmp rfl) [] (ASub.refl _) (AHeap.sub_refl _) (fun p hp => by cases hp) (by rw [hR]; exact ⟨rfl, .inl ⟨rfl, rfl⟩⟩)
    ·
     try simp only [NM] at hc48
     refine g_skip ?_
     refine g_next hK2 ?_
     refine g_seq (fun K8 hK8 => ?_)
     refine g_region ?_
     have hid : (withSt y s').id = id := hidy
     have hR : (moveT me l id inc s s') = (rput l (withSt y s'), true) := by rw [moveT, hfny]; exact if_neg (by omega)
     refine g_step rfl (s_val (v_move rfl) rfl rfl ?_)
     refine g_step rfl (s_val (v_nilCheck rfl rfl) rfl rfl ?_)
     refine g_step rfl (s_val (by first | exact v_fieldAddr ty110 fo110_2 ty22 rfl | exact v_fieldAddr_box ty110 fo110_2 ty22 rfl) rfl rfl ?_)
     refine g_step rfl (s_val (by first | exact v_load ty22 rfl rfl (by first | rfl | assumption) (by first | assumption | exact map_get (by assumption) | rfl) rfl | exact v_load_box ty22 rfl rfl hT1.tp (by rfl)) rfl rfl ?_)
     refine g_step rfl (s_val (v_move rfl) rfl rfl ?_)
     refine g_step rfl (s_val (v_move rfl) rfl rfl ?_)
     refine g_step rfl (s_val (v_indexAddr ty22 ty46 rfl rfl hT1.view hzy (map_get hiy) rfl) rfl rfl ?_)
     refine g_step rfl (s_val (by first | exact v_fieldAddr ty46 fo46_2 ty3 rfl | exact v_fieldAddr_box ty46 fo46_2 ty3 rfl) rfl rfl ?_)
     refine g_step rfl (s_store_row (k := j) (off := 2) (old := encR y) (new := encR (withSt y s')) ty3 rfl rfl hT1.tr (by rw [Nat.zero_add]; exact map_get hiy) rfl rfl rfl rfl (.inl (.inr rfl)) ?_)
     rw [Nat.zero_add j, ← List.map_set, set_rput hiy hfy hid]
     refine g_nil ?_
     refine g_next hK8 ?_
     refine g_seq (fun K9 hK9 => ?_)
     refine g_region ?_
     refine g_step rfl (s_val (v_assign rfl) rfl rfl ?_)
     refine g_nil ?_
     refine g_next hK9 ?_
     refine g_ret ?_
     refine g_end1 (.inl rfl) Try.results92 (.tmp rfl) [(p, .box (tabA me room r (rput l (withSt y s')).length)), (r, .row 7 ((rput l (withSt y s')).map encR))] (ASub.refl _) (by rw [hT1.keepbox (rput_len_hit hiy hfy hid)]; exact AHeap.sub_refl _) (fun z hz' => .inl (by simp at hz'; rcases hz' with rfl | rfl; rw [hT.tp]; simp; rw [hT.tr]; simp)) (by rw [hR]; exact ⟨rfl, .inr ⟨r, .inl rfl, rfl⟩⟩)

theorem suspect_ok (p r : Nat) (me room : Int) (l : List Rc) (id inc : Int) (G : AHeap) (hT : Tb G p r me room l) (hl : l.length ≤ 1000) (hs : ∀ x ∈ l, Small x.bag) : LCalls Try.prog 67 [.box p 0, .int .i64 id, .int .i64 inc] G (fun b => b = p ∨ b = r) (fun n rv effs => rv = .bool (moveT me l id inc 0 1).2 ∧ TE n p r me room l (moveT me l id inc 0 1).1 effs) := by
 refine LCalls.intro 11 fi67 rfl Try.ntmps67 rfl (by rintro b (rfl | rfl); rw [hT.tp]; simp; rw [hT.tr]; simp) (fun H hH w0 hw0 => ?_)
 have hT1 := hT.mono hH
 refine g_seq (fun K0 hK0 => ?_)
 refine g_region ?_
 refine g_step rfl (s_val (v_assign rfl) rfl rfl ?_)
 refine g_nil ?_
 refine g_next hK0 ?_
 refine g_seq (fun K1 hK1 => ?_)
 refine g_region ?_
 refine g_step rfl (s_val (v_move rfl) rfl rfl ?_)
 refine g_step rfl (s_val (v_move rfl) rfl rfl ?_)
 refine g_step rfl (s_val (v_move rfl) rfl rfl ?_)
 refine g_step rfl (s_call rfl rfl rfl (move_ok p r me room l id inc 0 1 _ hT1 hl hs) (fun b hb => .inl hb) ?_)
 rintro n1 rv1 effs1 hn1 hdom1 ⟨rfl, hTE⟩ hok1
 refine g_step rfl (s_val (v_assign rfl) rfl rfl ?_)
 refine g_nil ?_
 refine g_next hK1 ?_
 refine g_ret ?_
 refine g_end1 (.inl rfl) Try.results67 (.tmp rfl) effs1 (ASub.refl _) (AHeap.sub_refl _) (fun z hz' => by rcases hTE.dom z hz' with h9 | h9 | h9; (left; rw [h9, hT.tp]; simp); (left; rw [h9, hT.tr]; simp); (right; exact Nat.le_trans hn1 h9)) ⟨rfl, hTE.mono hn1⟩

theorem bury_ok (p r : Nat) (me room : Int) (l : List Rc) (id inc : Int) (G : AHeap) (hT : Tb G p r me room l) (hl : l.length ≤ 1000) (hs : ∀ x ∈ l, Small x.bag) : LCalls Try.prog 68 [.box p 0, .int .i64 id, .int .i64 inc] G (fun b => b = p ∨ b = r) (fun n rv effs => rv = .bool (moveT me l id inc 1 2).2 ∧ TE n p r me room l (moveT me l id inc 1 2).1 effs) := by
 refine LCalls.intro 11 fi68 rfl Try.ntmps68 rfl (by rintro b (rfl | rfl); rw [hT.tp]; simp; rw [hT.tr]; simp) (fun H hH w0 hw0 => ?_)
 have hT1 := hT.mono hH
 refine g_seq (fun K0 hK0 => ?_)
 refine g_region ?_
 refine g_step rfl (s_val (v_assign rfl) rfl rfl ?_)
 refine g_nil ?_
 refine g_next hK0 ?_
 refine g_seq (fun K1 hK1 => ?_)
 refine g_region ?_
 refine g_step rfl (s_val (v_move rfl) rfl rfl ?_)
 refine g_step rfl (s_val (v_move rfl) rfl rfl ?_)
 refine g_step rfl (s_val (v_move rfl) rfl rfl ?_)
 refine g_step rfl (s_call rfl rfl rfl (move_ok p r me room l id inc 1 2 _ hT1 hl hs) (fun b hb => .inl hb) ?_)
 rintro n1 rv1 effs1 hn1 hdom1 ⟨rfl, hTE⟩ hok1
 refine g_step rfl (s_val (v_assign rfl) rfl rfl ?_)
 refine g_nil ?_
 refine g_next hK1 ?_
 refine g_ret ?_
 refine g_end1 (.inl rfl) Try.results68 (.tmp rfl) effs1 (ASub.refl _) (AHeap.sub_refl _) (fun z hz' => by rcases hTE.dom z hz' with h9 | h9 | h9; (left; rw [h9, hT.tp]; simp); (left; rw [h9, hT.tr]; simp); (right; exact Nat.le_trans hn1 h9)) ⟨rfl, hTE.mono hn1⟩

theorem change_ok (p r : Nat) (me room : Int) (l : List Rc) (b : List Fd) (hb : Small b) (G : AHeap) (hT : Tb G p r me room l) (hl : l.length ≤ 1000) (hs : ∀ x ∈ l, Small x.bag) (i : Nat) (o : Rc) (hi : l[i]? = some o) (hf : fidx (hasId me) l = i) (hz : fidxZ (hasId me) l = (i : Int)) (hfo : fnd l me = some o) (hinc : 0 ≤ o.inc) : LCalls Try.prog 69 [.box p 0, encBag b] G (fun b => b = p ∨ b = r) (fun n rv effs => rv = .int .i64 (changeT me l b).2 ∧ TE n p r me room l (changeT me l b).1 effs) := by
 refine LCalls.intro 47 fi69 rfl Try.ntmps69 rfl (by rintro b (rfl | rfl); rw [hT.tp]; simp; rw [hT.tr]; simp) (fun H hH w0 hw0 => ?_)
 have hT1 := hT.mono hH
 refine g_seq (fun K0 hK0 => ?_)
 refine g_region ?_
 refine g_step rfl (s_val (v_assign rfl) rfl rfl ?_)
 refine g_nil ?_
 refine g_next hK0 ?_
 refine g_seq (fun K1 hK1 => ?_)
 refine g_region ?_
 refine g_step rfl (s_val (v_move rfl) rfl rfl ?_)
 refine g_step rfl (s_callp rfl rfl rfl (own_ok p r me room l _ hT1 hl hs i o hi hf hz hfo) ?_)
 rintro _ rfl
 refine g_step rfl (s_val (v_assign rfl) rfl rfl ?_)
 refine g_nil ?_
 refine g_next hK1 ?_
 refine g_seq (fun K2 hK2 => ?_)
 refine g_block ?_
 refine g_seq (fun K3 hK3 => ?_)
 refine g_region ?_
 refine g_step rfl (s_val (v_move rfl) rfl rfl ?_)
 refine g_step rfl (s_val (by first | exact v_ptr_neq_nil ty48 rfl rfl rfl | exact v_nil_neq_nil ty48 rfl rfl | exact v_ptrO_neq ty48 rfl rfl) rfl rfl ?_)
 refine g_step rfl (s_val (v_move rfl) rfl rfl ?_)
 refine g_split 11 rfl (fun hg11 => ?_) (fun hg11 => ?_)
 ·
  try simp only [NM] at hg11
  refine g_step_yes (j := 2) (t := 11) rfl rfl rfl rfl (s_val (v_move rfl) rfl rfl ?_)
  refine g_step_yes (j := 2) (t := 11) rfl rfl rfl rfl (s_callp rfl rfl rfl (bagValid_ok b _ _ rfl hb) ?_)
  rintro _ rfl
  refine g_step_yes (j := 2) (t := 11) rfl rfl rfl rfl (s_val (v_not rfl) rfl rfl ?_)
  refine g_step rfl (s_val (v_pick_t rfl rfl) rfl rfl ?_)
  refine g_step rfl (s_val (v_assign rfl) rfl rfl ?_)
  refine g_nil ?_
  refine g_next hK3 ?_
  refine g_cond rfl (fun hc8 => ?_) (fun hc8 => ?_)
  ·
   try simp only [NM] at hc8
   refine g_seq (fun K4 hK4 => ?_)
   refine g_region ?_
   have hR : (changeT me l b) = (l, 1) := if_pos (by simp_all)
   refine g_step rfl (s_val (v_assign rfl) rfl rfl ?_)
   refine g_nil ?_
   refine g_next hK4 ?_
   refine g_ret ?_
   refine g_block_ret ?_
   refine g_then_ret ?_
   refine g_end1 (.inl rfl) Try.results69 (.tmp rfl) [] (ASub.refl _) (AHeap.sub_refl _) (fun p hp => by cases hp) (by rw [hR]; exact ⟨rfl, .inl ⟨rfl, rfl⟩⟩)
  ·
   try simp only [NM] at hc8
   refine g_seq (fun K5 hK5 => ?_)
   refine g_region ?_
   have hvb : ¬ (bagValid b = false) := by simp_all
   refine g_step rfl (s_val (v_move rfl) rfl rfl ?_)
   refine g_step rfl (s_val (by first | exact v_ptr_eql_nil ty136 rfl rfl rfl | exact v_nil_eql_nil ty136 rfl rfl | exact v_ptrO_eql ty136 rfl rfl) rfl rfl ?_)
   refine g_step rfl (s_val (v_move rfl) rfl rfl ?_)
   refine g_split 19 rfl (fun hg19 => ?_) (fun hg19 => ?_)
   · exfalso; (try simp only [NM] at hg19); simp at hg19
   ·
    try simp only [NM] at hg19
    refine g_step_yes (j := 2) (t := 19) rfl rfl rfl rfl (s_val (v_move rfl) rfl rfl ?_)
    refine g_step_yes (j := 2) (t := 19) rfl rfl rfl rfl (s_val (v_nilCheck rfl rfl) rfl rfl ?_)
    refine g_step_yes (j := 2) (t := 19) rfl rfl rfl rfl (s_val (by first | exact v_fieldAddr ty46 fo46_2 ty3 rfl | exact v_fieldAddr_box ty46 fo46_2 ty3 rfl) rfl rfl ?_)
    refine g_step_yes (j := 2) (t := 19) rfl rfl rfl rfl (s_val (by first | exact v_load ty3 rfl rfl hT1.view (map_get hi) rfl | exact v_load_box ty3 rfl rfl (by assumption) rfl) rfl rfl ?_)
    refine g_step_yes (j := 2) (t := 19) rfl rfl rfl rfl (s_val (v_eql rfl rfl) rfl rfl ?_)
    refine g_step rfl (s_val (v_pick_f rfl rfl) rfl rfl ?_)
    refine g_step rfl (s_val (v_assign rfl) rfl rfl ?_)
    refine g_nil ?_
    refine g_next hK5 ?_
    refine g_cond rfl (fun hc16 => ?_) (fun hc16 => ?_)
    ·
     try simp only [NM] at hc16
     refine g_seq (fun K6 hK6 => ?_)
     refine g_region ?_
     have hR : (changeT me l b) = (l, 15) := by rw [changeT, if_neg hvb, hfo]; exact if_pos (by omega)
     refine g_step rfl (s_val (v_assign rfl) rfl rfl ?_)
     refine g_nil ?_
     refine g_next hK6 ?_
     refine g_ret ?_
     refine g_block_ret ?_
     refine g_then_ret ?_
     refine g_end1 (.inl rfl) Try.results69 (.tmp rfl) [] (ASub.refl _) (AHeap.sub_refl _) (fun p hp => by cases hp) (by rw [hR]; exact ⟨rfl, .inl ⟨rfl, rfl⟩⟩)
    ·
     try simp only [NM] at hc16
     refine g_seq (fun K7 hK7 => ?_)
     refine g_region ?_
     refine g_step rfl (s_val (v_move rfl) rfl rfl ?_)
     refine g_step rfl (s_val (v_nilCheck rfl rfl) rfl rfl ?_)
     refine g_step rfl (s_val (by first | exact v_fieldAddr ty46 fo46_1 ty3 rfl | exact v_fieldAddr_box ty46 fo46_1 ty3 rfl) rfl rfl ?_)
     refine g_step rfl (s_val (by first | exact v_load ty3 rfl rfl hT1.view (map_get hi) rfl | exact v_load_box ty3 rfl rfl (by assumption) rfl) rfl rfl ?_)
     refine g_step rfl (s_val (v_geq rfl rfl) rfl rfl ?_)
     refine g_step rfl (s_val (v_assign rfl) rfl rfl ?_)
     refine g_nil ?_
     refine g_next hK7 ?_
     first | refine g_keep [1, 5, 26] [] [] (keep_cons rfl (keep_cons rfl (keep_cons rfl keep_nil))) lkeep_nil keep_nil rfl ?_ | refine g_keep [1, 5, 26] [] [] rfl rfl rfl rfl ?_
     refine g_cond rfl (fun hc26 => ?_) (fun hc26 => ?_)
     ·
      try simp only [NM] at hc26
      refine g_seq (fun K8 hK8 => ?_)
      refine g_region ?_
      have hR : (changeT me l b) = (l, 6) := by rw [changeT, if_neg hvb, hfo]; show (if _ then _ else _) = _; rw [if_neg (by omega), if_pos (by omega)]
      refine g_step rfl (s_val (v_assign rfl) rfl rfl ?_)
      refine g_nil ?_
      refine g_next hK8 ?_
      refine g_ret ?_
      refine g_block_ret ?_
      refine g_then_ret ?_
      refine g_end1 (.inl rfl) Try.results69 (.tmp rfl) [] (ASub.refl _) (AHeap.sub_refl _) (fun p hp => by cases hp) (by rw [hR]; exact ⟨rfl, .inl ⟨rfl, rfl⟩⟩)
     ·
      try simp only [NM] at hc26
      refine g_skip ?_
      refine g_block_normal ?_
      refine g_next hK2 ?_
      refine g_seq (fun K9 hK9 => ?_)
      refine g_region ?_
      have hlt := (List.getElem?_eq_some_iff.1 hi).1
      have hi1 : (l.set i (wthInc o (o.inc + 1)))[i]? = some (wthInc o (o.inc + 1)) := List.getElem?_set_self hlt
      have hi2 : (l.set i (⟨o.id, o.inc + 1, o.st, o.sp, false, o.bag⟩ : Rc))[i]? = some (⟨o.id, o.inc + 1, o.st, o.sp, false, o.bag⟩ : Rc) := List.getElem?_set_self hlt
      have hid : (wthBag o b).id = me := by show o.id = me; exact fnd_id hfo
      have hR : (changeT me l b) = (rput l (wthBag o b), 0) := by rw [changeT, if_neg hvb, hfo]; show (if _ then _ else _) = _; rw [if_neg (by omega), if_neg (by omega)]
      refine g_step rfl (s_val (v_move rfl) rfl rfl ?_)
      refine g_step rfl (s_val (v_nilCheck rfl rfl) rfl rfl ?_)
      refine g_step rfl (s_val (by first | exact v_fieldAddr ty46 fo46_1 ty3 rfl | exact v_fieldAddr_box ty46 fo46_1 ty3 rfl) rfl rfl ?_)
      refine g_step rfl (s_val (by first | exact v_load ty3 rfl rfl hT1.view (map_get hi) rfl | exact v_load_box ty3 rfl rfl (by assumption) rfl) rfl rfl ?_)
      refine g_step rfl (s_val (v_add rfl rfl (by omega)) rfl rfl ?_)
      refine g_step rfl (s_val (v_nilCheck rfl rfl) rfl rfl ?_)
      refine g_step rfl (s_val (by first | exact v_fieldAddr ty46 fo46_1 ty3 rfl | exact v_fieldAddr_box ty46 fo46_1 ty3 rfl) rfl rfl ?_)
      refine g_step rfl (s_store_row (k := i) (off := 1) (old := encR o) (new := encR (wthInc o (o.inc + 1))) ty3 rfl rfl hT1.tr (by rw [Nat.zero_add]; exact map_get hi) rfl rfl rfl rfl (.inl (.inr rfl)) ?_)
      rw [Nat.zero_add i, ← List.map_set]
      refine g_nil ?_
      refine g_next hK9 ?_
      refine g_seq (fun K10 hK10 => ?_)
      refine g_region ?_
      refine g_step rfl (s_val (v_move rfl) rfl rfl ?_)
      refine g_step rfl (s_val (v_move rfl) rfl rfl ?_)
      refine g_step rfl (s_val (v_move rfl) rfl rfl ?_)
      refine g_step rfl (s_callp rfl rfl rfl (bagCopy_ok b _ _ rfl hb) ?_)
      rintro _ rfl
      refine g_step rfl (s_val (v_nilCheck rfl rfl) rfl rfl ?_)
      refine g_step rfl (s_val (by first | exact v_fieldAddr ty46 fo46_4 ty4 rfl | exact v_fieldAddr_box ty46 fo46_4 ty4 rfl) rfl rfl ?_)
      refine g_step rfl (s_store_row (k := i) (off := 5) (old := encR (wthInc o (o.inc + 1))) (new := encR (⟨o.id, o.inc + 1, o.st, o.sp, false, o.bag⟩ : Rc)) ty4 rfl rfl (AHeap.get_set _ _ _) (by rw [Nat.zero_add]; exact map_get hi1) rfl rfl rfl rfl (.inl (.inr rfl)) ?_)
      rw [Nat.zero_add i, ← List.map_set, List.set_set, AHeap.set_set]
      refine g_step rfl (s_val (v_nilCheck rfl rfl) rfl rfl ?_)
      refine g_step rfl (s_val (by first | exact v_fieldAddr ty46 fo46_5 ty44 rfl | exact v_fieldAddr_box ty46 fo46_5 ty44 rfl) rfl rfl ?_)
      refine g_step rfl (s_store_row (k := i) (off := 6) (old := encR (⟨o.id, o.inc + 1, o.st, o.sp, false, o.bag⟩ : Rc)) (new := encR (wthBag o b)) ty44 rfl rfl (AHeap.get_set _ _ _) (by rw [Nat.zero_add]; exact map_get hi2) rfl rfl rfl rfl (.inl (.inr rfl)) ?_)
      rw [Nat.zero_add i, ← List.map_set, List.set_set, AHeap.set_set]
      rw [set_rput hi hf hid]
      refine g_nil ?_
      refine g_next hK10 ?_
      refine g_seq (fun K11 hK11 => ?_)
      refine g_region ?_
      refine g_step rfl (s_val (v_assign rfl) rfl rfl ?_)
      refine g_nil ?_
      refine g_next hK11 ?_
      refine g_ret ?_
      refine g_end1 (.inl rfl) Try.results69 (.tmp rfl) [(p, .box (tabA me room r (rput l (wthBag o b)).length)), (r, .row 7 ((rput l (wthBag o b)).map encR))] (ASub.refl _) (by rw [hT1.keepbox (rput_len_hit hi hf hid)]; exact AHeap.sub_refl _) (fun z hz' => .inl (by simp at hz'; rcases hz' with rfl | rfl; rw [hT.tp]; simp; rw [hT.tr]; simp)) (by rw [hR]; exact ⟨rfl, .inr ⟨r, .inl rfl, rfl⟩⟩)
 ·
  try simp only [NM] at hg11
  refine g_step_no (j := 2) (t := 11) rfl rfl rfl rfl rfl rfl rfl ?_
  refine g_step_no (j := 2) (t := 11) rfl rfl rfl rfl rfl rfl rfl ?_
  refine g_step_no (j := 2) (t := 11) rfl rfl rfl rfl rfl rfl rfl ?_
  refine g_step rfl (s_val (v_pick_f rfl rfl) rfl rfl ?_)
  refine g_step rfl (s_val (v_assign rfl) rfl rfl ?_)
  refine g_nil ?_
  refine g_next hK3 ?_
  refine g_cond rfl (fun h => by cases h) (fun _ => ?_)
  refine g_seq (fun K12 hK12 => ?_)
  refine g_region ?_
  have hvb : ¬ (bagValid b = false) := by simp_all
  refine g_step rfl (s_val (v_move rfl) rfl rfl ?_)
  refine g_step rfl (s_val (by first | exact v_ptr_eql_nil ty136 rfl rfl rfl | exact v_nil_eql_nil ty136 rfl rfl | exact v_ptrO_eql ty136 rfl rfl) rfl rfl ?_)
  refine g_step rfl (s_val (v_move rfl) rfl rfl ?_)
  refine g_split 19 rfl (fun hg19 => ?_) (fun hg19 => ?_)
  · exfalso; (try simp only [NM] at hg19); simp at hg19
  ·
   try simp only [NM] at hg19
   refine g_step_yes (j := 2) (t := 19) rfl rfl rfl rfl (s_val (v_move rfl) rfl rfl ?_)
   refine g_step_yes (j := 2) (t := 19) rfl rfl rfl rfl (s_val (v_nilCheck rfl rfl) rfl rfl ?_)
   refine g_step_yes (j := 2) (t := 19) rfl rfl rfl rfl (s_val (by first | exact v_fieldAddr ty46 fo46_2 ty3 rfl | exact v_fieldAddr_box ty46 fo46_2 ty3 rfl) rfl rfl ?_)
   refine g_step_yes (j := 2) (t := 19) rfl rfl rfl rfl (s_val (by first | exact v_load ty3 rfl rfl hT1.view (map_get hi) rfl | exact v_load_box ty3 rfl rfl (by assumption) rfl) rfl rfl ?_)
   refine g_step_yes (j := 2) (t := 19) rfl rfl rfl rfl (s_val (v_eql rfl rfl) rfl rfl ?_)
   refine g_step rfl (s_val (v_pick_f rfl rfl) rfl rfl ?_)
   refine g_step rfl (s_val (v_assign rfl) rfl rfl ?_)
   refine g_nil ?_
   refine g_next hK12 ?_
   refine g_cond rfl (fun hc16 => ?_) (fun hc16 => ?_)
   ·
    try simp only [NM] at hc16
    refine g_seq (fun K13 hK13 => ?_)
    refine g_region ?_
    have hR : (changeT me l b) = (l, 15) := by rw [changeT, if_neg hvb, hfo]; exact if_pos (by omega)
    refine g_step rfl (s_val (v_assign rfl) rfl rfl ?_)
    refine g_nil ?_
    refine g_next hK13 ?_
    refine g_ret ?_
    refine g_block_ret ?_
    refine g_then_ret ?_
    refine g_end1 (.inl rfl) Try.results69 (.tmp rfl) [] (ASub.refl _) (AHeap.sub_refl _) (fun p hp => by cases hp) (by rw [hR]; exact ⟨rfl, .inl ⟨rfl, rfl⟩⟩)
   ·
    try simp only [NM] at hc16
    refine g_seq (fun K14 hK14 => ?_)
    refine g_region ?_
    refine g_step rfl (s_val (v_move rfl) rfl rfl ?_)
    refine g_step rfl (s_val (v_nilCheck rfl rfl) rfl rfl ?_)
    refine g_step rfl (s_val (by first | exact v_fieldAddr ty46 fo46_1 ty3 rfl | exact v_fieldAddr_box ty46 fo46_1 ty3 rfl) rfl rfl ?_)
    refine g_step rfl (s_val (by first | exact v_load ty3 rfl rfl hT1.view (map_get hi) rfl | exact v_load_box ty3 rfl rfl (by assumption) rfl) rfl rfl ?_)
    refine g_step rfl (s_val (v_geq rfl rfl) rfl rfl ?_)
    refine g_step rfl (s_val (v_assign rfl) rfl rfl ?_)
    refine g_nil ?_
    refine g_next hK14 ?_
    first | refine g_keep [1, 5, 26] [] [] (keep_cons rfl (keep_cons rfl (keep_cons rfl keep_nil))) lkeep_nil keep_nil rfl ?_ | refine g_keep [1, 5, 26] [] [] rfl rfl rfl rfl ?_
    refine g_cond rfl (fun hc26 => ?_) (fun hc26 => ?_)
    ·
     try simp only [NM] at hc26
     refine g_seq (fun K15 hK15 => ?_)
     refine g_region ?_
     have hR : (changeT me l b) = (l, 6) := by rw [changeT, if_neg hvb, hfo]; show (if _ then _ else _) = _; rw [if_neg (by omega), if_pos (by omega)]
     refine g_step rfl (s_val (v_assign rfl) rfl rfl ?_)
     refine g_nil ?_
     refine g_next hK15 ?_
     refine g_ret ?_
     refine g_block_ret ?_
     refine g_then_ret ?_
     refine g_end1 (.inl rfl) Try.results69 (.tmp rfl) [] (ASub.refl _) (AHeap.sub_refl _) (fun p hp => by cases hp) (by rw [hR]; exact ⟨rfl, .inl ⟨rfl, rfl⟩⟩)
    ·
     try simp only [NM] at hc26
     refine g_skip ?_
     refine g_block_normal ?_
     refine g_next hK2 ?_
     refine g_seq (fun K16 hK16 => ?_)
     refine g_region ?_
     have hlt := (List.getElem?_eq_some_iff.1 hi).1
     have hi1 : (l.set i (wthInc o (o.inc + 1)))[i]? = some (wthInc o (o.inc + 1)) := List.getElem?_set_self hlt
     have hi2 : (l.set i (⟨o.id, o.inc + 1, o.st, o.sp, false, o.bag⟩ : Rc))[i]? = some (⟨o.id, o.inc + 1, o.st, o.sp, false, o.bag⟩ : Rc) := List.getElem?_set_self hlt
     have hid : (wthBag o b).id = me := by show o.id = me; exact fnd_id hfo
     have hR : (changeT me l b) = (rput l (wthBag o b), 0) := by rw [changeT, if_neg hvb, hfo]; show (if _ then _ else _) = _; rw [if_neg (by omega), if_neg (by omega)]
     refine g_step rfl (s_val (v_move rfl) rfl rfl ?_)
     refine g_step rfl (s_val (v_nilCheck rfl rfl) rfl rfl ?_)
     refine g_step rfl (s_val (by first | exact v_fieldAddr ty46 fo46_1 ty3 rfl | exact v_fieldAddr_box ty46 fo46_1 ty3 rfl) rfl rfl ?_)
     refine g_step rfl (s_val (by first | exact v_load ty3 rfl rfl hT1.view (map_get hi) rfl | exact v_load_box ty3 rfl rfl (by assumption) rfl) rfl rfl ?_)
     refine g_step rfl (s_val (v_add rfl rfl (by omega)) rfl rfl ?_)
     refine g_step rfl (s_val (v_nilCheck rfl rfl) rfl rfl ?_)
     refine g_step rfl (s_val (by first | exact v_fieldAddr ty46 fo46_1 ty3 rfl | exact v_fieldAddr_box ty46 fo46_1 ty3 rfl) rfl rfl ?_)
     refine g_step rfl (s_store_row (k := i) (off := 1) (old := encR o) (new := encR (wthInc o (o.inc + 1))) ty3 rfl rfl hT1.tr (by rw [Nat.zero_add]; exact map_get hi) rfl rfl rfl rfl (.inl (.inr rfl)) ?_)
     rw [Nat.zero_add i, ← List.map_set]
     refine g_nil ?_
     refine g_next hK16 ?_
     refine g_seq (fun K17 hK17 => ?_)
     refine g_region ?_
     refine g_step rfl (s_val (v_move rfl) rfl rfl ?_)
     refine g_step rfl (s_val (v_move rfl) rfl rfl ?_)
     refine g_step rfl (s_val (v_move rfl) rfl rfl ?_)
     refine g_step rfl (s_callp rfl rfl rfl (bagCopy_ok b _ _ rfl hb) ?_)
     rintro _ rfl
     refine g_step rfl (s_val (v_nilCheck rfl rfl) rfl rfl ?_)
     refine g_step rfl (s_val (by first | exact v_fieldAddr ty46 fo46_4 ty4 rfl | exact v_fieldAddr_box ty46 fo46_4 ty4 rfl) rfl rfl ?_)
     refine g_step rfl (s_store_row (k := i) (off := 5) (old := encR (wthInc o (o.inc + 1))) (new := encR (⟨o.id, o.inc + 1, o.st, o.sp, false, o.bag⟩ : Rc)) ty4 rfl rfl (AHeap.get_set _ _ _) (by rw [Nat.zero_add]; exact map_get hi1) rfl rfl rfl rfl (.inl (.inr rfl)) ?_)
     rw [Nat.zero_add i, ← List.map_set, List.set_set, AHeap.set_set]
     refine g_step rfl (s_val (v_nilCheck rfl rfl) rfl rfl ?_)
     refine g_step rfl (s_val (by first | exact v_fieldAddr ty46 fo46_5 ty44 rfl | exact v_fieldAddr_box ty46 fo46_5 ty44 rfl) rfl rfl ?_)
     refine g_step rfl (s_store_row (k := i) (off := 6) (old := encR (⟨o.id, o.inc + 1, o.st, o.sp, false, o.bag⟩ : Rc)) (new := encR (wthBag o b)) ty44 rfl rfl (AHeap.get_set _ _ _) (by rw [Nat.zero_add]; exact map_get hi2) rfl rfl rfl rfl (.inl (.inr rfl)) ?_)
     rw [Nat.zero_add i, ← List.map_set, List.set_set, AHeap.set_set]
     rw [set_rput hi hf hid]
     refine g_nil ?_
     refine g_next hK17 ?_
     refine g_seq (fun K18 hK18 => ?_)
     refine g_region ?_
     refine g_step rfl (s_val (v_assign rfl) rfl rfl ?_)
     refine g_nil ?_
     refine g_next hK18 ?_
     refine g_ret ?_
     refine g_end1 (.inl rfl) Try.results69 (.tmp rfl) [(p, .box (tabA me room r (rput l (wthBag o b)).length)), (r, .row 7 ((rput l (wthBag o b)).map encR))] (ASub.refl _) (by rw [hT1.keepbox (rput_len_hit hi hf hid)]; exact AHeap.sub_refl _) (fun z hz' => .inl (by simp at hz'; rcases hz' with rfl | rfl; rw [hT.tp]; simp; rw [hT.tr]; simp)) (by rw [hR]; exact ⟨rfl, .inr ⟨r, .inl rfl, rfl⟩⟩)

theorem leave_ok (p r : Nat) (me room : Int) (l : List Rc) (G : AHeap) (hT : Tb G p r me room l) (hl : l.length ≤ 1000) (hs : ∀ x ∈ l, Small x.bag) (i : Nat) (o : Rc) (hi : l[i]? = some o) (hf : fidx (hasId me) l = i) (hz : fidxZ (hasId me) l = (i : Int)) (hfo : fnd l me = some o) : LCalls Try.prog 70 [.box p 0] G (fun b => b = p ∨ b = r) (fun n rv effs => rv = .bool (leaveT me l).2 ∧ TE n p r me room l (leaveT me l).1 effs) := by
 refine LCalls.intro 18 fi70 rfl Try.ntmps70 rfl (by rintro b (rfl | rfl); rw [hT.tp]; simp; rw [hT.tr]; simp) (fun H hH w0 hw0 => ?_)
 have hT1 := hT.mono hH
 refine g_seq (fun K0 hK0 => ?_)
 refine g_region ?_
 refine g_step rfl (s_val (v_assign rfl) rfl rfl ?_)
 refine g_nil ?_
 refine g_next hK0 ?_
 refine g_seq (fun K1 hK1 => ?_)
 refine g_region ?_
 refine g_step rfl (s_val (v_move rfl) rfl rfl ?_)
 refine g_step rfl (s_callp rfl rfl rfl (own_ok p r me room l _ hT1 hl hs i o hi hf hz hfo) ?_)
 rintro _ rfl
 refine g_step rfl (s_val (v_assign rfl) rfl rfl ?_)
 refine g_nil ?_
 refine g_next hK1 ?_
 refine g_seq (fun K2 hK2 => ?_)
 refine g_seq (fun K3 hK3 => ?_)
 refine g_region ?_
 refine g_step rfl (s_val (v_move rfl) rfl rfl ?_)
 refine g_step rfl (s_val (by first | exact v_ptr_eql_nil ty136 rfl rfl rfl | exact v_nil_eql_nil ty136 rfl rfl | exact v_ptrO_eql ty136 rfl rfl) rfl rfl ?_)
 refine g_step rfl (s_val (v_move rfl) rfl rfl ?_)
 refine g_split 8 rfl (fun hg8 => ?_) (fun hg8 => ?_)
 · exfalso; (try simp only [NM] at hg8); simp at hg8
 ·
  try simp only [NM] at hg8
  refine g_step_yes (j := 2) (t := 8) rfl rfl rfl rfl (s_val (v_move rfl) rfl rfl ?_)
  refine g_step_yes (j := 2) (t := 8) rfl rfl rfl rfl (s_val (v_nilCheck rfl rfl) rfl rfl ?_)
  refine g_step_yes (j := 2) (t := 8) rfl rfl rfl rfl (s_val (by first | exact v_fieldAddr ty46 fo46_2 ty3 rfl | exact v_fieldAddr_box ty46 fo46_2 ty3 rfl) rfl rfl ?_)
  refine g_step_yes (j := 2) (t := 8) rfl rfl rfl rfl (s_val (by first | exact v_load ty3 rfl rfl hT1.view (map_get hi) rfl | exact v_load_box ty3 rfl rfl (by assumption) rfl) rfl rfl ?_)
  refine g_step_yes (j := 2) (t := 8) rfl rfl rfl rfl (s_val (v_eql rfl rfl) rfl rfl ?_)
  refine g_step rfl (s_val (v_pick_f rfl rfl) rfl rfl ?_)
  refine g_nil ?_
  refine g_next hK3 ?_
  refine g_cond rfl (fun hc14 => ?_) (fun hc14 => ?_)
  ·
   try simp only [NM] at hc14
   refine g_seq (fun K4 hK4 => ?_)
   refine g_region ?_
   have hR : (leaveT me l) = (l, false) := by rw [leaveT, hfo]; exact if_pos (by omega)
   refine g_step rfl (s_val (v_assign rfl) rfl rfl ?_)
   refine g_nil ?_
   refine g_next hK4 ?_
   refine g_ret ?_
   refine g_then_ret ?_
   refine g_end1 (.inl rfl) Try.results70 (.tmp rfl) [] (ASub.refl _) (AHeap.sub_refl _) (fun p hp => by cases hp) (by rw [hR]; exact ⟨rfl, .inl ⟨rfl, rfl⟩⟩)
  ·
   try simp only [NM] at hc14
   refine g_skip ?_
   refine g_next hK2 ?_
   refine g_seq (fun K5 hK5 => ?_)
   refine g_region ?_
   have hid : (withSt o 3).id = me := by show o.id = me; exact fnd_id hfo
   have hR : (leaveT me l) = (rput l (withSt o 3), true) := by rw [leaveT, hfo]; exact if_neg (by omega)
   refine g_step rfl (s_val (v_move rfl) rfl rfl ?_)
   refine g_step rfl (s_val (v_nilCheck rfl rfl) rfl rfl ?_)
   refine g_step rfl (s_val (by first | exact v_fieldAddr ty46 fo46_2 ty3 rfl | exact v_fieldAddr_box ty46 fo46_2 ty3 rfl) rfl rfl ?_)
   refine g_step rfl (s_store_row (k := i) (off := 2) (old := encR o) (new := encR (withSt o 3)) ty3 rfl rfl hT1.tr (by rw [Nat.zero_add]; exact map_get hi) rfl rfl rfl rfl (.inl (.inr rfl)) ?_)
   rw [Nat.zero_add i, ← List.map_set, set_rput hi hf hid]
   refine g_nil ?_
   refine g_next hK5 ?_
   refine g_seq (fun K6 hK6 => ?_)
   refine g_region ?_
   refine g_step rfl (s_val (v_assign rfl) rfl rfl ?_)
   refine g_nil ?_
   refine g_next hK6 ?_
   refine g_ret ?_
   refine g_end1 (.inl rfl) Try.results70 (.tmp rfl) [(p, .box (tabA me room r (rput l (withSt o 3)).length)), (r, .row 7 ((rput l (withSt o 3)).map encR))] (ASub.refl _) (by rw [hT1.keepbox (rput_len_hit hi hf hid)]; exact AHeap.sub_refl _) (fun z hz' => .inl (by simp at hz'; rcases hz' with rfl | rfl; rw [hT.tp]; simp; rw [hT.tr]; simp)) (by rw [hR]; exact ⟨rfl, .inr ⟨r, .inl rfl, rfl⟩⟩)

end Go.Proofs.Ytgipbhfblmblcaa

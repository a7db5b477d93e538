import Derived.Test.YtgedefcjngofkaaCoord
set_option maxHeartbeats 8000000
set_option linter.unusedSimpArgs false
set_option linter.unusedVariables false
set_option maxRecDepth 100000
namespace Go.Proofs.Ytgedefcjngofkaa
open Go Go.Proofs.Ytgedefcjngofkaa.AM
theorem cAsked_ok (p : Nat) (k : Co) (G : AHeap) (hp : G p = some (.box (encCo k))) : PCalls Try.prog 36 [.box p 0] G (fun v => v = .int .i64 k.ask) := by
 refine LCalls.intro 9 fi36 rfl Try.ntmps36 rfl (fun _ h => h.elim) (fun H hH w0 hw0 => ?_)
 have hp := hH _ _ hp
 refine g_seq (fun K0 hK0 => ?_)
 refine g_region ?_
 refine g_step rfl (s_val (v_assign rfl) rfl rfl ?_)
 refine g_nil ?_
 refine g_next hK0 ?_
 refine g_seq (fun K1 hK1 => ?_)
 refine g_seq (fun K2 hK2 => ?_)
 refine g_region ?_
 refine g_step rfl (s_val (v_move rfl) rfl rfl ?_)
 refine g_step rfl (s_val (by first | exact v_ptr_eql_nil ty53 rfl rfl rfl | exact v_nil_eql_nil ty53 rfl rfl | exact v_ptrO_eql ty53 rfl rfl) rfl rfl ?_)
 refine g_nil ?_
 refine g_next hK2 ?_
 refine g_cond rfl (fun hc4 => ?_) (fun hc4 => ?_)
 · exfalso; (try simp only [NM] at hc4); simp at hc4
 ·
  try simp only [NM] at hc4
  refine g_skip ?_
  refine g_next hK1 ?_
  refine g_seq (fun K3 hK3 => ?_)
  refine g_region ?_
  refine g_step rfl (s_val (v_move rfl) rfl rfl ?_)
  refine g_step rfl (s_val (v_nilCheck rfl rfl) rfl rfl ?_)
  refine g_step rfl (s_val (by first | exact v_fieldAddr ty116 fo116_3 ty111 rfl | exact v_fieldAddr_box ty116 fo116_3 ty111 rfl) rfl rfl ?_)
  refine g_step rfl (s_callp rfl rfl rfl (iload_ok p (0 + 18) k.ask (coL k) _ hp rfl) ?_)
  rintro _ rfl
  refine g_step rfl (s_val (v_assign rfl) rfl rfl ?_)
  refine g_nil ?_
  refine g_next hK3 ?_
  refine g_ret ?_
  refine g_end1 (.inl rfl) Try.results36 (.tmp rfl) [] (ASub.refl _) (AHeap.sub_refl _) (fun p hp => by cases hp) ⟨rfl, ?_⟩
  rfl

theorem cAt_ok (p : Nat) (k : Co) (g : Int) (G : AHeap) (hp : G p = some (.box (encCo k))) : PCalls Try.prog 38 [.box p 0, .int .i64 g] G (fun v => v = .tup [.int .i64 (snI (k.at g)), .bool (k.at g).isSome]) := by
 refine LCalls.intro 32 fi38 rfl Try.ntmps38 rfl (fun _ h => h.elim) (fun H hH w0 hw0 => ?_)
 have hp := hH _ _ hp
 refine g_seq (fun K0 hK0 => ?_)
 refine g_region ?_
 refine g_step rfl (s_val (v_assign rfl) rfl rfl ?_)
 refine g_step rfl (s_val (v_assign rfl) rfl rfl ?_)
 refine g_nil ?_
 refine g_next hK0 ?_
 refine g_seq (fun K1 hK1 => ?_)
 refine g_seq (fun K2 hK2 => ?_)
 refine g_region ?_
 refine g_step rfl (s_val (v_move rfl) rfl rfl ?_)
 refine g_step rfl (s_val (by first | exact v_ptr_eql_nil ty53 rfl rfl rfl | exact v_nil_eql_nil ty53 rfl rfl | exact v_ptrO_eql ty53 rfl rfl) rfl rfl ?_)
 refine g_step rfl (s_val (v_move rfl) rfl rfl ?_)
 refine g_split 9 rfl (fun hg9 => ?_) (fun hg9 => ?_)
 · exfalso; (try simp only [NM] at hg9); simp at hg9
 ·
  try simp only [NM] at hg9
  refine g_step_yes (j := 2) (t := 9) rfl rfl rfl rfl (s_val (v_move rfl) rfl rfl ?_)
  refine g_step_yes (j := 2) (t := 9) rfl rfl rfl rfl (s_val (v_lss rfl rfl) rfl rfl ?_)
  refine g_step rfl (s_val (v_pick_f rfl rfl) rfl rfl ?_)
  refine g_step rfl (s_val (v_move rfl) rfl rfl ?_)
  refine g_split 13 rfl (fun hg13 => ?_) (fun hg13 => ?_)
  ·
   try simp only [NM] at hg13
   refine g_step_no (j := 6) (t := 13) rfl rfl rfl rfl rfl rfl rfl ?_
   refine g_step_no (j := 6) (t := 13) rfl rfl rfl rfl rfl rfl rfl ?_
   refine g_step rfl (s_val (v_pick_t rfl rfl) rfl rfl ?_)
   refine g_nil ?_
   refine g_next hK2 ?_
   refine g_cond rfl (fun _ => ?_) (fun h => by cases h)
   refine g_seq (fun K3 hK3 => ?_)
   refine g_region ?_
   refine g_step rfl (s_val (v_assign rfl) rfl rfl ?_)
   refine g_step rfl (s_val (v_assign rfl) rfl rfl ?_)
   refine g_nil ?_
   refine g_next hK3 ?_
   refine g_ret ?_
   refine g_then_ret ?_
   have hat : k.at g = none := Co.at_no (by omega)
   refine g_end2 (.inl rfl) Try.results38 (.tmp rfl) (.tmp rfl) [] (ASub.refl _) (AHeap.sub_refl _) (fun p hp => by cases hp) ⟨rfl, ?_⟩
   first | (rw [hat]; rfl; done) | (rw [hat]; rfl; rfl)
  ·
   try simp only [NM] at hg13
   refine g_step_yes (j := 6) (t := 13) rfl rfl rfl rfl (s_val (v_move rfl) rfl rfl ?_)
   refine g_step_yes (j := 6) (t := 13) rfl rfl rfl rfl (s_val (v_gtr rfl rfl) rfl rfl ?_)
   refine g_step rfl (s_val (v_pick_f rfl rfl) rfl rfl ?_)
   refine g_nil ?_
   refine g_next hK2 ?_
   refine g_cond rfl (fun hc16 => ?_) (fun hc16 => ?_)
   ·
    try simp only [NM] at hc16
    refine g_seq (fun K4 hK4 => ?_)
    refine g_region ?_
    refine g_step rfl (s_val (v_assign rfl) rfl rfl ?_)
    refine g_step rfl (s_val (v_assign rfl) rfl rfl ?_)
    refine g_nil ?_
    refine g_next hK4 ?_
    refine g_ret ?_
    refine g_then_ret ?_
    have hat : k.at g = none := Co.at_no (by omega)
    refine g_end2 (.inl rfl) Try.results38 (.tmp rfl) (.tmp rfl) [] (ASub.refl _) (AHeap.sub_refl _) (fun p hp => by cases hp) ⟨rfl, ?_⟩
    first | (rw [hat]; rfl; done) | (rw [hat]; rfl; rfl)
   ·
    try simp only [NM] at hc16
    refine g_skip ?_
    refine g_next hK1 ?_
    refine g_seq (fun K5 hK5 => ?_)
    refine g_region ?_
    obtain ⟨i, hi⟩ := Int.eq_ofNat_of_zero_le (a := g - 1) (by omega)
    have hi3 : i < 3 := by omega
    have hat := Co.at_is (k := k) hi hi3
    obtain ⟨c0, c1, c3, c4⟩ := k.cell i hi3
    refine g_step rfl (s_val (v_move rfl) rfl rfl ?_)
    refine g_step rfl (s_val (v_move rfl) rfl rfl ?_)
    refine g_step rfl (s_val (v_sub_ rfl rfl (by omega)) rfl rfl ?_)
    refine g_step rfl (s_val (v_nilCheck rfl rfl) rfl rfl ?_)
    refine g_step rfl (s_val (by first | exact v_fieldAddr ty116 fo116_2 ty114 rfl | exact v_fieldAddr_box ty116 fo116_2 ty114 rfl) rfl rfl ?_)
    refine g_step rfl (s_val (v_indexAddr_arr (k := i) ty114 ty113 rfl rfl hi hi3) rfl rfl ?_)
    refine g_step rfl (s_val (v_assign rfl) rfl rfl ?_)
    refine g_nil ?_
    refine g_next hK5 ?_
    refine g_seq (fun K6 hK6 => ?_)
    refine g_seq (fun K7 hK7 => ?_)
    refine g_region ?_
    refine g_step rfl (s_val (v_move rfl) rfl rfl ?_)
    refine g_step rfl (s_val (v_nilCheck rfl rfl) rfl rfl ?_)
    refine g_step rfl (s_val (by first | exact v_fieldAddr ty113 fo113_2 ty102 rfl | exact v_fieldAddr_box ty113 fo113_2 ty102 rfl) rfl rfl ?_)
    refine g_step rfl (s_callp rfl rfl rfl (bload_ok p (0 + 3 + i * 5 + 4) (dnI (k.fin i)) (coL k) _ hp (by rw [Nat.zero_add]; exact c4)) ?_)
    rintro _ rfl
    rw [dnI_ne]
    refine g_step rfl (s_val (v_not rfl) rfl rfl ?_)
    refine g_nil ?_
    refine g_next hK7 ?_
    first | refine g_keep [6, 27] [] [] (keep_cons rfl (keep_cons rfl keep_nil)) lkeep_nil keep_nil rfl ?_ | refine g_keep [6, 27] [] [] rfl rfl rfl rfl ?_
    refine g_cond rfl (fun hc27 => ?_) (fun hc27 => ?_)
    ·
     try simp only [NM] at hc27
     refine g_seq (fun K8 hK8 => ?_)
     refine g_region ?_
     refine g_step rfl (s_val (v_assign rfl) rfl rfl ?_)
     refine g_step rfl (s_val (v_assign rfl) rfl rfl ?_)
     refine g_nil ?_
     refine g_next hK8 ?_
     refine g_ret ?_
     refine g_then_ret ?_
     have hno : k.fin i = none := by cases hf : k.fin i with | none => rfl | some t => rw [hf] at hc27; simp at hc27
     refine g_end2 (.inl rfl) Try.results38 (.tmp rfl) (.tmp rfl) [] (ASub.refl _) (AHeap.sub_refl _) (fun p hp => by cases hp) ⟨rfl, ?_⟩
     first | (rw [hat, hno]; rfl; done) | (rw [hat, hno]; rfl; rfl)
    ·
     try simp only [NM] at hc27
     refine g_skip ?_
     refine g_next hK6 ?_
     refine g_seq (fun K9 hK9 => ?_)
     refine g_region ?_
     refine g_step rfl (s_val (v_move rfl) rfl rfl ?_)
     refine g_step rfl (s_val (v_nilCheck rfl rfl) rfl rfl ?_)
     refine g_step rfl (s_val (by first | exact v_fieldAddr ty113 fo113_1 ty111 rfl | exact v_fieldAddr_box ty113 fo113_1 ty111 rfl) rfl rfl ?_)
     refine g_step rfl (s_callp rfl rfl rfl (iload_ok p (0 + 3 + i * 5 + 3) (snI (k.fin i)) (coL k) _ hp (by rw [Nat.zero_add]; exact c3)) ?_)
     rintro _ rfl
     refine g_step rfl (s_val (v_assign rfl) rfl rfl ?_)
     refine g_step rfl (s_val (v_assign rfl) rfl rfl ?_)
     refine g_nil ?_
     refine g_next hK9 ?_
     refine g_ret ?_
     have hyes : (k.fin i).isSome = true := by cases hf : k.fin i with | none => rw [hf] at hc27; simp at hc27 | some t => rfl
     refine g_end2 (.inl rfl) Try.results38 (.tmp rfl) (.tmp rfl) [] (ASub.refl _) (AHeap.sub_refl _) (fun p hp => by cases hp) ⟨rfl, ?_⟩
     first | (rw [hat, hyes]; rfl; done) | (rw [hat, hyes]; rfl; rfl)

theorem cLevel_ok (p : Nat) (k : Co) (G : AHeap) (hp : G p = some (.box (encCo k))) : PCalls Try.prog 37 [.box p 0] G (fun v => v = .int .i64 k.level) := by
 refine LCalls.intro 18 fi37 rfl Try.ntmps37 rfl (fun _ h => h.elim) (fun H hH w0 hw0 => ?_)
 have hp := hH _ _ hp
 refine g_seq (fun K0 hK0 => ?_)
 refine g_region ?_
 refine g_step rfl (s_val (v_assign rfl) rfl rfl ?_)
 refine g_nil ?_
 refine g_next hK0 ?_
 refine g_seq (fun K1 hK1 => ?_)
 refine g_seq (fun K2 hK2 => ?_)
 refine g_region ?_
 refine g_step rfl (s_val (v_assign rfl) rfl rfl ?_)
 refine g_nil ?_
 refine g_next hK2 ?_
 refine g_block ?_
 first | refine g_keep [0, 3] [] [] (keep_cons rfl (keep_cons rfl keep_nil)) lkeep_nil keep_nil rfl ?_ | refine g_keep [0, 3] [] [] rfl rfl rfl rfl ?_
 refine g_loop (fun n env L B G => ∃ (j : Nat) (g : Int), j ≤ 3 ∧ n = 3 - j ∧ env = [(0, .box p 0), (3, .int .i64 g)] ∧ L = [] ∧ B = [] ∧ H = G ∧ g = 3 - (j : Int) ∧ k.level = k.lvTo (3 - j)) (3) ⟨0, 3, Nat.zero_le _, rfl, rfl, rfl, rfl, rfl, ⟨by simp, rfl⟩⟩ (fun n env L B G hI => ?_)
 obtain ⟨j, g, hj, rfl, rfl, rfl, rfl, rfl, hg, hlv⟩ := hI
 refine g_seq (fun K3 hK3 => ?_)
 refine g_seq (fun K4 hK4 => ?_)
 refine g_region ?_
 refine g_step rfl (s_val (v_move rfl) rfl rfl ?_)
 refine g_step rfl (s_val (v_gtr rfl rfl) rfl rfl ?_)
 refine g_nil ?_
 refine g_next hK4 ?_
 refine g_cond rfl (fun hc7 => ?_) (fun hc7 => ?_)
 ·
  try simp only [NM] at hc7
  refine g_skip ?_
  refine g_next hK3 ?_
  refine g_seq (fun K5 hK5 => ?_)
  refine g_block ?_
  refine g_seq (fun K6 hK6 => ?_)
  refine g_region ?_
  refine g_step rfl (s_val (v_move rfl) rfl rfl ?_)
  refine g_step rfl (s_val (v_move rfl) rfl rfl ?_)
  refine g_step rfl (s_callp rfl rfl rfl (cAt_ok p k g _ hp) ?_)
  rintro _ rfl
  refine g_step rfl (s_val (v_move rfl) rfl rfl ?_)
  refine g_step rfl (s_val (v_extract rfl rfl) rfl rfl ?_)
  refine g_step rfl (s_val (v_extract rfl rfl) rfl rfl ?_)
  refine g_step rfl (s_val (v_assign rfl) rfl rfl ?_)
  refine g_step rfl (s_val (v_assign rfl) rfl rfl ?_)
  refine g_nil ?_
  refine g_next hK6 ?_
  refine g_seq (fun K7 hK7 => ?_)
  refine g_region ?_
  refine g_step rfl (s_val (v_move rfl) rfl rfl ?_)
  refine g_nil ?_
  refine g_next hK7 ?_
  refine g_cond rfl (fun hc16 => ?_) (fun hc16 => ?_)
  ·
   try simp only [NM] at hc16
   refine g_seq (fun K8 hK8 => ?_)
   refine g_region ?_
   refine g_step rfl (s_val (v_move rfl) rfl rfl ?_)
   refine g_step rfl (s_val (v_assign rfl) rfl rfl ?_)
   refine g_nil ?_
   refine g_next hK8 ?_
   refine g_ret ?_
   refine g_block_ret ?_
   refine g_then_ret ?_
   refine g_then_ret ?_
   refine g_block_ret ?_
   refine g_then_ret ?_
   have hL := Co.lv_yes hg (by assumption) (by simpa using hc16) hlv
   refine g_end1 (.inl rfl) Try.results37 (.tmp rfl) [] (ASub.refl _) (AHeap.sub_refl _) (fun p hp => by cases hp) ⟨rfl, ?_⟩
   first | (rw [hL]; done) | (rw [hL]; rfl)
  ·
   try simp only [NM] at hc16
   refine g_skip ?_
   refine g_block_normal ?_
   refine g_next hK5 ?_
   refine g_region ?_
   refine g_step rfl (s_val (v_move rfl) rfl rfl ?_)
   refine g_step rfl (s_val (v_sub_ rfl rfl (by omega)) rfl rfl ?_)
   refine g_step rfl (s_val (v_assign rfl) rfl rfl ?_)
   refine g_nil ?_
   first | refine g_keep [0, 3] [] [] (keep_cons rfl (keep_cons rfl keep_nil)) lkeep_nil keep_nil rfl ?_ | refine g_keep [0, 3] [] [] rfl rfl rfl rfl ?_
   exact g_round _ (by omega) ⟨j + 1, _, by omega, rfl, rfl, rfl, rfl, rfl, ⟨by omega, Co.lv_no hg (by assumption) (by simpa using hc16) hlv⟩⟩
 ·
  try simp only [NM] at hc7
  refine g_exit ?_
  refine g_then_exit ?_
  refine g_then_exit ?_
  refine g_block_same ?_
  refine g_next hK1 ?_
  refine g_seq (fun K9 hK9 => ?_)
  refine g_region ?_
  refine g_step rfl (s_val (v_assign rfl) rfl rfl ?_)
  refine g_nil ?_
  refine g_next hK9 ?_
  refine g_ret ?_
  have hj3 : j = 3 := by omega
  subst hj3
  refine g_end1 (.inl rfl) Try.results37 (.tmp rfl) [] (ASub.refl _) (AHeap.sub_refl _) (fun p hp => by cases hp) ⟨rfl, ?_⟩
  first | (rw [hlv]; rfl; done) | (rw [hlv]; rfl; rfl)

theorem cnew1_ok (t : Sp) (wd : Int) (G : AHeap) (hv : spValid t = false) : PCalls Try.prog 31 [encSp t, .int .i64 wd] G (fun v => v = .tup [.nilp, .int .i64 1]) := by
 refine LCalls.intro 28 fi31 rfl Try.ntmps31 rfl (fun _ h => h.elim) (fun H hH w0 hw0 => ?_)
 refine g_seq (fun K0 hK0 => ?_)
 refine g_region ?_
 refine g_step rfl (s_box rfl rfl rfl rfl ?_)
 refine g_step rfl (s_val (v_assign rfl) rfl rfl ?_)
 refine g_step rfl (s_val (v_assign rfl) rfl rfl ?_)
 refine g_nil ?_
 refine g_next hK0 ?_
 refine g_seq (fun K1 hK1 => ?_)
 refine g_seq (fun K2 hK2 => ?_)
 refine g_region ?_
 refine g_step rfl (s_val (by first | exact v_loadl_all ty24 rfl rfl rfl rfl rfl | exact v_loadl_part (cs := [_, _]) ty24 rfl rfl rfl rfl rfl rfl) rfl rfl ?_)
 refine g_step rfl (s_callp rfl rfl rfl (spValid_ok t _) ?_)
 rintro _ rfl
 refine g_step rfl (s_val (v_not rfl) rfl rfl ?_)
 refine g_nil ?_
 refine g_next hK2 ?_
 refine g_cond rfl (fun hc8 => ?_) (fun hc8 => ?_)
 ·
  try simp only [NM] at hc8
  refine g_seq (fun K3 hK3 => ?_)
  refine g_region ?_
  refine g_step rfl (s_val (v_assign rfl) rfl rfl ?_)
  refine g_step rfl (s_val (v_assign rfl) rfl rfl ?_)
  refine g_nil ?_
  refine g_next hK3 ?_
  refine g_ret ?_
  refine g_then_ret ?_
  refine g_end2 (.inl rfl) Try.results31 (.tmp rfl) (.tmp rfl) [] (ASub.refl _) (AHeap.sub_refl _) (fun p hp => by cases hp) ⟨rfl, ?_⟩
  rfl
 · exfalso; (try simp only [NM] at hc8); simp_all

theorem cnew5_ok (t : Sp) (wd : Int) (G : AHeap) (hv : spValid t = true) (hb : wd < 1 ∨ 3 < wd ∨ wd ≤ t.hi - t.lo) : PCalls Try.prog 31 [encSp t, .int .i64 wd] G (fun v => v = .tup [.nilp, .int .i64 5]) := by
 refine LCalls.intro 28 fi31 rfl Try.ntmps31 rfl (fun _ h => h.elim) (fun H hH w0 hw0 => ?_)
 have hv2 : 1 ≤ t.lo ∧ t.lo ≤ t.hi ∧ t.hi ≤ 3 := by simpa [spValid] using hv
 refine g_seq (fun K0 hK0 => ?_)
 refine g_region ?_
 refine g_step rfl (s_box rfl rfl rfl rfl ?_)
 refine g_step rfl (s_val (v_assign rfl) rfl rfl ?_)
 refine g_step rfl (s_val (v_assign rfl) rfl rfl ?_)
 refine g_nil ?_
 refine g_next hK0 ?_
 refine g_seq (fun K1 hK1 => ?_)
 refine g_seq (fun K2 hK2 => ?_)
 refine g_region ?_
 refine g_step rfl (s_val (by first | exact v_loadl_all ty24 rfl rfl rfl rfl rfl | exact v_loadl_part (cs := [_, _]) ty24 rfl rfl rfl rfl rfl rfl) rfl rfl ?_)
 refine g_step rfl (s_callp rfl rfl rfl (spValid_ok t _) ?_)
 rintro _ rfl
 refine g_step rfl (s_val (v_not rfl) rfl rfl ?_)
 refine g_nil ?_
 refine g_next hK2 ?_
 refine g_cond rfl (fun hc8 => ?_) (fun hc8 => ?_)
 · exfalso; (try simp only [NM] at hc8); simp_all
 ·
  try simp only [NM] at hc8
  refine g_skip ?_
  refine g_next hK1 ?_
  refine g_seq (fun K3 hK3 => ?_)
  refine g_seq (fun K4 hK4 => ?_)
  refine g_region ?_
  refine g_step rfl (s_val (v_move rfl) rfl rfl ?_)
  refine g_step rfl (s_val (v_lss rfl rfl) rfl rfl ?_)
  refine g_step rfl (s_val (v_move rfl) rfl rfl ?_)
  refine g_split 11 rfl (fun hg11 => ?_) (fun hg11 => ?_)
  ·
   try simp only [NM] at hg11
   refine g_step_no (j := 2) (t := 11) rfl rfl rfl rfl rfl rfl rfl ?_
   refine g_step_no (j := 2) (t := 11) rfl rfl rfl rfl rfl rfl rfl ?_
   refine g_step rfl (s_val (v_pick_t rfl rfl) rfl rfl ?_)
   refine g_step rfl (s_val (v_move rfl) rfl rfl ?_)
   refine g_step_no (j := 6) (t := 15) rfl rfl rfl rfl rfl rfl rfl ?_
   refine g_step_no (j := 6) (t := 15) rfl rfl rfl rfl rfl rfl rfl ?_
   refine g_step_no (j := 6) (t := 15) rfl rfl rfl rfl rfl rfl rfl ?_
   refine g_step_no (j := 6) (t := 15) rfl rfl rfl rfl rfl rfl rfl ?_
   refine g_step_no (j := 6) (t := 15) rfl rfl rfl rfl rfl rfl rfl ?_
   refine g_step_no (j := 6) (t := 15) rfl rfl rfl rfl rfl rfl rfl ?_
   refine g_step_no (j := 6) (t := 15) rfl rfl rfl rfl rfl rfl rfl ?_
   refine g_step rfl (s_val (v_pick_t rfl rfl) rfl rfl ?_)
   refine g_nil ?_
   refine g_next hK4 ?_
   refine g_cond rfl (fun _ => ?_) (fun h => by cases h)
   refine g_seq (fun K5 hK5 => ?_)
   refine g_region ?_
   refine g_step rfl (s_val (v_assign rfl) rfl rfl ?_)
   refine g_step rfl (s_val (v_assign rfl) rfl rfl ?_)
   refine g_nil ?_
   refine g_next hK5 ?_
   refine g_ret ?_
   refine g_then_ret ?_
   refine g_end2 (.inl rfl) Try.results31 (.tmp rfl) (.tmp rfl) [] (ASub.refl _) (AHeap.sub_refl _) (fun p hp => by cases hp) ⟨rfl, ?_⟩
   rfl
  ·
   try simp only [NM] at hg11
   refine g_step_yes (j := 2) (t := 11) rfl rfl rfl rfl (s_val (v_move rfl) rfl rfl ?_)
   refine g_step_yes (j := 2) (t := 11) rfl rfl rfl rfl (s_val (v_gtr rfl rfl) rfl rfl ?_)
   refine g_step rfl (s_val (v_pick_f rfl rfl) rfl rfl ?_)
   refine g_step rfl (s_val (v_move rfl) rfl rfl ?_)
   refine g_split 15 rfl (fun hg15 => ?_) (fun hg15 => ?_)
   ·
    try simp only [NM] at hg15
    refine g_step_no (j := 6) (t := 15) rfl rfl rfl rfl rfl rfl rfl ?_
    refine g_step_no (j := 6) (t := 15) rfl rfl rfl rfl rfl rfl rfl ?_
    refine g_step_no (j := 6) (t := 15) rfl rfl rfl rfl rfl rfl rfl ?_
    refine g_step_no (j := 6) (t := 15) rfl rfl rfl rfl rfl rfl rfl ?_
    refine g_step_no (j := 6) (t := 15) rfl rfl rfl rfl rfl rfl rfl ?_
    refine g_step_no (j := 6) (t := 15) rfl rfl rfl rfl rfl rfl rfl ?_
    refine g_step_no (j := 6) (t := 15) rfl rfl rfl rfl rfl rfl rfl ?_
    refine g_step rfl (s_val (v_pick_t rfl rfl) rfl rfl ?_)
    refine g_nil ?_
    refine g_next hK4 ?_
    refine g_cond rfl (fun _ => ?_) (fun h => by cases h)
    refine g_seq (fun K6 hK6 => ?_)
    refine g_region ?_
    refine g_step rfl (s_val (v_assign rfl) rfl rfl ?_)
    refine g_step rfl (s_val (v_assign rfl) rfl rfl ?_)
    refine g_nil ?_
    refine g_next hK6 ?_
    refine g_ret ?_
    refine g_then_ret ?_
    refine g_end2 (.inl rfl) Try.results31 (.tmp rfl) (.tmp rfl) [] (ASub.refl _) (AHeap.sub_refl _) (fun p hp => by cases hp) ⟨rfl, ?_⟩
    rfl
   ·
    try simp only [NM] at hg15
    refine g_step_yes (j := 6) (t := 15) rfl rfl rfl rfl (s_fieldAddr ty24 fo24_1 ty3 rfl rfl ?_)
    refine g_step_yes (j := 6) (t := 15) rfl rfl rfl rfl (s_val (v_loadl ty3 rfl rfl rfl rfl) rfl rfl ?_)
    refine g_step_yes (j := 6) (t := 15) rfl rfl rfl rfl (s_fieldAddr ty24 fo24_0 ty3 rfl rfl ?_)
    refine g_step_yes (j := 6) (t := 15) rfl rfl rfl rfl (s_val (v_loadl ty3 rfl rfl rfl rfl) rfl rfl ?_)
    refine g_step_yes (j := 6) (t := 15) rfl rfl rfl rfl (s_val (v_sub_ rfl rfl (by omega)) rfl rfl ?_)
    refine g_step_yes (j := 6) (t := 15) rfl rfl rfl rfl (s_val (v_move rfl) rfl rfl ?_)
    refine g_step_yes (j := 6) (t := 15) rfl rfl rfl rfl (s_val (v_geq rfl rfl) rfl rfl ?_)
    refine g_step rfl (s_val (v_pick_f rfl rfl) rfl rfl ?_)
    refine g_nil ?_
    refine g_next hK4 ?_
    refine g_cond rfl (fun hc23 => ?_) (fun hc23 => ?_)
    ·
     try simp only [NM] at hc23
     refine g_seq (fun K7 hK7 => ?_)
     refine g_region ?_
     refine g_step rfl (s_val (v_assign rfl) rfl rfl ?_)
     refine g_step rfl (s_val (v_assign rfl) rfl rfl ?_)
     refine g_nil ?_
     refine g_next hK7 ?_
     refine g_ret ?_
     refine g_then_ret ?_
     refine g_end2 (.inl rfl) Try.results31 (.tmp rfl) (.tmp rfl) [] (ASub.refl _) (AHeap.sub_refl _) (fun p hp => by cases hp) ⟨rfl, ?_⟩
     rfl
    · exfalso; (try simp only [NM] at hc23); omega

theorem cnew_ok (t : Sp) (wd : Int) (G : AHeap) (hv : spValid t = true) (h1 : 1 ≤ wd) (h3 : wd ≤ 3) (hb : t.hi - t.lo < wd) : LCalls Try.prog 31 [encSp t, .int .i64 wd] G noD (fun n v effs => ∃ p, n ≤ p ∧ v = .tup [.box p 0, .int .i64 0] ∧ effs = [(p, .box (encCo (⟨t, wd, none, none, none, 0⟩ : Co)))]) := by
 refine LCalls.intro 28 fi31 rfl Try.ntmps31 rfl (fun _ h => h.elim) (fun H hH w0 hw0 => ?_)
 have hv2 : 1 ≤ t.lo ∧ t.lo ≤ t.hi ∧ t.hi ≤ 3 := by simpa [spValid] using hv
 refine g_seq (fun K0 hK0 => ?_)
 refine g_region ?_
 refine g_step rfl (s_box rfl rfl rfl rfl ?_)
 refine g_step rfl (s_val (v_assign rfl) rfl rfl ?_)
 refine g_step rfl (s_val (v_assign rfl) rfl rfl ?_)
 refine g_nil ?_
 refine g_next hK0 ?_
 refine g_seq (fun K1 hK1 => ?_)
 refine g_seq (fun K2 hK2 => ?_)
 refine g_region ?_
 refine g_step rfl (s_val (by first | exact v_loadl_all ty24 rfl rfl rfl rfl rfl | exact v_loadl_part (cs := [_, _]) ty24 rfl rfl rfl rfl rfl rfl) rfl rfl ?_)
 refine g_step rfl (s_callp rfl rfl rfl (spValid_ok t _) ?_)
 rintro _ rfl
 refine g_step rfl (s_val (v_not rfl) rfl rfl ?_)
 refine g_nil ?_
 refine g_next hK2 ?_
 refine g_cond rfl (fun hc8 => ?_) (fun hc8 => ?_)
 · exfalso; (try simp only [NM] at hc8); simp_all
 ·
  try simp only [NM] at hc8
  refine g_skip ?_
  refine g_next hK1 ?_
  refine g_seq (fun K3 hK3 => ?_)
  refine g_seq (fun K4 hK4 => ?_)
  refine g_region ?_
  refine g_step rfl (s_val (v_move rfl) rfl rfl ?_)
  refine g_step rfl (s_val (v_lss rfl rfl) rfl rfl ?_)
  refine g_step rfl (s_val (v_move rfl) rfl rfl ?_)
  refine g_split 11 rfl (fun hg11 => ?_) (fun hg11 => ?_)
  · exfalso; (try simp only [NM] at hg11); omega
  ·
   try simp only [NM] at hg11
   refine g_step_yes (j := 2) (t := 11) rfl rfl rfl rfl (s_val (v_move rfl) rfl rfl ?_)
   refine g_step_yes (j := 2) (t := 11) rfl rfl rfl rfl (s_val (v_gtr rfl rfl) rfl rfl ?_)
   refine g_step rfl (s_val (v_pick_f rfl rfl) rfl rfl ?_)
   refine g_step rfl (s_val (v_move rfl) rfl rfl ?_)
   refine g_split 15 rfl (fun hg15 => ?_) (fun hg15 => ?_)
   · exfalso; (try simp only [NM] at hg15); omega
   ·
    try simp only [NM] at hg15
    refine g_step_yes (j := 6) (t := 15) rfl rfl rfl rfl (s_fieldAddr ty24 fo24_1 ty3 rfl rfl ?_)
    refine g_step_yes (j := 6) (t := 15) rfl rfl rfl rfl (s_val (v_loadl ty3 rfl rfl rfl rfl) rfl rfl ?_)
    refine g_step_yes (j := 6) (t := 15) rfl rfl rfl rfl (s_fieldAddr ty24 fo24_0 ty3 rfl rfl ?_)
    refine g_step_yes (j := 6) (t := 15) rfl rfl rfl rfl (s_val (v_loadl ty3 rfl rfl rfl rfl) rfl rfl ?_)
    refine g_step_yes (j := 6) (t := 15) rfl rfl rfl rfl (s_val (v_sub_ rfl rfl (by omega)) rfl rfl ?_)
    refine g_step_yes (j := 6) (t := 15) rfl rfl rfl rfl (s_val (v_move rfl) rfl rfl ?_)
    refine g_step_yes (j := 6) (t := 15) rfl rfl rfl rfl (s_val (v_geq rfl rfl) rfl rfl ?_)
    refine g_step rfl (s_val (v_pick_f rfl rfl) rfl rfl ?_)
    refine g_nil ?_
    refine g_next hK4 ?_
    refine g_cond rfl (fun hc23 => ?_) (fun hc23 => ?_)
    · exfalso; (try simp only [NM] at hc23); omega
    ·
     try simp only [NM] at hc23
     refine g_skip ?_
     refine g_next hK3 ?_
     refine g_seq (fun K5 hK5 => ?_)
     refine g_region ?_
     refine g_step rfl (s_val (by first | exact v_loadl_all ty24 rfl rfl rfl rfl rfl | exact v_loadl_part (cs := [_, _]) ty24 rfl rfl rfl rfl rfl rfl) rfl rfl ?_)
     refine g_step rfl (s_val (v_move rfl) rfl rfl ?_)
     refine g_step rfl (s_val (v_sub (b := (encCo (⟨t, wd, none, none, none, 0⟩ : Co))) (v_build (vs := [(0, _), (1, _)]) (zs := [(.int .i64 0), (.int .i64 0), (.int .i64 0), (.int .u32 0), (.int .i32 0), (.int .u32 0), (.int .i64 0), (.int .u32 0), (.int .u32 0), (.int .i32 0), (.int .u32 0), (.int .i64 0), (.int .u32 0), (.int .u32 0), (.int .i32 0), (.int .u32 0), (.int .i64 0), (.int .u32 0), (.int .i64 0)]) (cells := [_, _, _, _, _, _, _, _, _, _, _, _, _, _, _, _, _, _, _]) ty116 pl116 rfl rfl rfl) (ASub.of_wk rfl)) rfl rfl ?_)
     refine g_step rfl (s_box rfl rfl rfl rfl ?_)
     refine g_expose 27 rfl rfl (fun r27 hr27 hw27 => ?_)
     refine g_step rfl (s_val (v_assign rfl) rfl rfl ?_)
     refine g_step rfl (s_val (v_assign rfl) rfl rfl ?_)
     refine g_nil ?_
     refine g_next hK5 ?_
     refine g_ret ?_
     refine g_end2 (.inl rfl) Try.results31 (.tmp rfl) (.tmp rfl) [(r27, .box (encCo (⟨t, wd, none, none, none, 0⟩ : Co)))] (ASub.refl _) (AHeap.sub_refl _) (fun q hq => .inr (by rw [List.mem_singleton.1 hq]; exact hw27)) ⟨r27, hw27, rfl, rfl⟩

theorem cNext_ok (p : Nat) (k : Co) (l : List Rc) (G : AHeap) (hp : G p = some (.box (encCo k))) (hl : l.length ≤ 100000) (hs : ∀ x ∈ l, Small x.bag) : PCalls Try.prog 40 [.box p 0, encRs l] G (fun v => v = .tup [encMv ((nextL k l).head?.getD mv0), .bool (nextL k l).head?.isSome, .int .i64 (mayE l k.t k.wd)]) := by
 refine LCalls.intro 37 fi40 rfl Try.ntmps40 rfl (fun _ h => h.elim) (fun H hH w0 hw0 => ?_)
 have hp := hH _ _ hp
 refine g_seq (fun K0 hK0 => ?_)
 refine g_region ?_
 refine g_step rfl (s_alloc (av := (.agg [(.int .i64 0), (.int .i64 0), (.int .i64 0)])) ty42 rfl rfl rfl rfl ?_)
 refine g_step rfl (s_val (v_assign rfl) rfl rfl ?_)
 refine g_step rfl (s_val (v_assign rfl) rfl rfl ?_)
 refine g_nil ?_
 refine g_next hK0 ?_
 refine g_seq (fun K1 hK1 => ?_)
 refine g_seq (fun K2 hK2 => ?_)
 refine g_region ?_
 refine g_step rfl (s_val (v_move rfl) rfl rfl ?_)
 refine g_step rfl (s_val (by first | exact v_ptr_eql_nil ty53 rfl rfl rfl | exact v_nil_eql_nil ty53 rfl rfl | exact v_ptrO_eql ty53 rfl rfl) rfl rfl ?_)
 refine g_nil ?_
 refine g_next hK2 ?_
 refine g_cond rfl (fun hc10 => ?_) (fun hc10 => ?_)
 · exfalso; (try simp only [NM] at hc10); simp at hc10
 ·
  try simp only [NM] at hc10
  refine g_skip ?_
  refine g_next hK1 ?_
  refine g_seq (fun K3 hK3 => ?_)
  refine g_draw (n := 15) (fun j => !([] : List Nat).contains j) rfl rfl ?_
  refine m_tk 0 false rfl rfl (by kernel_rfl) (v_move rfl) rfl rfl ?_
  refine m_tk 1 false rfl rfl (by kernel_rfl) (v_move rfl) rfl rfl ?_
  refine m_tk 2 false rfl rfl (by kernel_rfl) (v_nilCheck rfl rfl) rfl rfl ?_
  refine m_tk 3 false rfl rfl (by kernel_rfl) (by first | exact v_fieldAddr ty116 fo116_0 ty24 rfl | exact v_fieldAddr_box ty116 fo116_0 ty24 rfl) rfl rfl ?_
  refine m_tk 4 true rfl rfl (by kernel_rfl) (by first | exact v_load_elt ty24 rfl rfl (by first | rfl | assumption) (by first | assumption | exact map_get (by assumption) | rfl) rfl rfl | exact v_load_box_all ty24 rfl rfl hp rfl rfl | exact v_load_part (cs := [_, _]) ty24 rfl rfl (by first | rfl | assumption) (by first | assumption | exact map_get (by assumption) | rfl) rfl rfl rfl | exact v_load_box_part (cs := [_, _]) ty24 rfl rfl hp rfl rfl rfl) rfl rfl ?_
  refine m_tk 5 false rfl rfl (by kernel_rfl) (v_move rfl) rfl rfl ?_
  refine m_tk 6 false rfl rfl (by kernel_rfl) (v_nilCheck rfl rfl) rfl rfl ?_
  refine m_tk 7 false rfl rfl (by kernel_rfl) (by first | exact v_fieldAddr ty116 fo116_1 ty3 rfl | exact v_fieldAddr_box ty116 fo116_1 ty3 rfl) rfl rfl ?_
  refine m_tk 8 true rfl rfl (by kernel_rfl) (by first | exact v_load ty3 rfl rfl (by first | rfl | assumption) (by first | assumption | exact map_get (by assumption) | rfl) rfl | exact v_load_box ty3 rfl rfl hp (by rfl)) rfl rfl ?_
  refine m_one 9 (by kernel_rfl) rfl rfl ?_
  refine sm_callp rfl rfl rfl (plan_ok l k.t k.wd _ hl hs) ?_
  rintro _ rfl
  rw [show (if mayE l k.t k.wd = 0 then planL l k.t k.wd else []) = nextL k l from rfl]
  refine m_tk 10 false rfl rfl (by kernel_rfl) (v_move rfl) rfl rfl ?_
  refine m_tk 11 false rfl rfl (by kernel_rfl) (v_extract rfl rfl) rfl rfl ?_
  refine m_tk 12 false rfl rfl (by kernel_rfl) (v_extract rfl rfl) rfl rfl ?_
  refine m_tk 13 false rfl rfl (by kernel_rfl) (v_assign rfl) rfl rfl ?_
  refine m_tk 14 false rfl rfl (by kernel_rfl) (v_assign rfl) rfl rfl ?_
  refine m_done (by kernel_rfl) ?_
  refine g_next hK3 ?_
  refine g_seq (fun K4 hK4 => ?_)
  refine g_seq (fun K5 hK5 => ?_)
  refine g_region ?_
  refine g_step rfl (s_val (v_move rfl) rfl rfl ?_)
  refine g_step rfl (s_val (v_neq rfl rfl) rfl rfl ?_)
  refine g_step rfl (s_val (v_move rfl) rfl rfl ?_)
  refine g_split 27 rfl (fun hg27 => ?_) (fun hg27 => ?_)
  ·
   try simp only [NM] at hg27
   refine g_step_no (j := 2) (t := 27) rfl rfl rfl rfl rfl rfl rfl ?_
   refine g_step_no (j := 2) (t := 27) rfl rfl rfl rfl rfl rfl rfl ?_
   refine g_step_no (j := 2) (t := 27) rfl rfl rfl rfl rfl rfl rfl ?_
   refine g_step rfl (s_val (v_pick_t rfl rfl) rfl rfl ?_)
   refine g_nil ?_
   refine g_next hK5 ?_
   first | refine g_keep [7, 8, 31] [4] [4] (keep_cons rfl (keep_cons rfl (keep_cons rfl keep_nil))) (lkeep_cons rfl lkeep_nil) (keep_cons rfl keep_nil) rfl ?_ | refine g_keep [7, 8, 31] [4] [4] rfl rfl rfl rfl ?_
   refine g_cond rfl (fun _ => ?_) (fun h => by cases h)
   refine g_seq (fun K6 hK6 => ?_)
   refine g_region ?_
   refine g_step rfl (s_val (v_sub (b := (encMv mv0)) (v_build (vs := []) (zs := [(.int .i64 0), (.int .i64 0), (.int .i64 0)]) (cells := [_, _, _]) ty42 pl42 rfl rfl rfl) (ASub.of_wk rfl)) rfl rfl ?_)
   refine g_step rfl (s_val (v_move rfl) rfl rfl ?_)
   refine g_step rfl (s_store_all ty42 rfl rfl rfl rfl rfl rfl ?_)
   refine g_step rfl (s_val (v_assign rfl) rfl rfl ?_)
   refine g_step rfl (s_val (v_assign rfl) rfl rfl ?_)
   refine g_nil ?_
   refine g_next hK6 ?_
   refine g_ret ?_
   refine g_then_ret ?_
   have hno : (nextL k l) = [] := by first | (rw [nextL, if_neg (by omega)]; done) | exact List.eq_nil_of_length_eq_zero (by omega)
   refine g_end3 (.inl rfl) Try.results40 (.agg ty42 rfl rfl rfl rfl rfl) (.tmp rfl) (.tmp rfl) [] (ASub.refl _) (AHeap.sub_refl _) (fun p hp => by cases hp) ⟨rfl, ?_⟩
   first | (rw [hno]; rfl; done) | (rw [hno]; rfl; rfl)
  ·
   try simp only [NM] at hg27
   refine g_step_yes (j := 2) (t := 27) rfl rfl rfl rfl (s_val (v_move rfl) rfl rfl ?_)
   refine g_step_yes (j := 2) (t := 27) rfl rfl rfl rfl (s_val (v_len ty35 rfl (by first | rfl | assumption) (by first | exact List.length_map .. | rfl)) rfl rfl ?_)
   refine g_step_yes (j := 2) (t := 27) rfl rfl rfl rfl (s_val (v_eql rfl rfl) rfl rfl ?_)
   refine g_step rfl (s_val (v_pick_f rfl rfl) rfl rfl ?_)
   refine g_nil ?_
   refine g_next hK5 ?_
   first | refine g_keep [7, 8, 31] [4] [4] (keep_cons rfl (keep_cons rfl (keep_cons rfl keep_nil))) (lkeep_cons rfl lkeep_nil) (keep_cons rfl keep_nil) rfl ?_ | refine g_keep [7, 8, 31] [4] [4] rfl rfl rfl rfl ?_
   refine g_cond rfl (fun hc31 => ?_) (fun hc31 => ?_)
   ·
    try simp only [NM] at hc31
    refine g_seq (fun K7 hK7 => ?_)
    refine g_region ?_
    refine g_step rfl (s_val (v_sub (b := (encMv mv0)) (v_build (vs := []) (zs := [(.int .i64 0), (.int .i64 0), (.int .i64 0)]) (cells := [_, _, _]) ty42 pl42 rfl rfl rfl) (ASub.of_wk rfl)) rfl rfl ?_)
    refine g_step rfl (s_val (v_move rfl) rfl rfl ?_)
    refine g_step rfl (s_store_all ty42 rfl rfl rfl rfl rfl rfl ?_)
    refine g_step rfl (s_val (v_assign rfl) rfl rfl ?_)
    refine g_step rfl (s_val (v_assign rfl) rfl rfl ?_)
    refine g_nil ?_
    refine g_next hK7 ?_
    refine g_ret ?_
    refine g_then_ret ?_
    have hno : (nextL k l) = [] := by first | (rw [nextL, if_neg (by omega)]; done) | exact List.eq_nil_of_length_eq_zero (by omega)
    refine g_end3 (.inl rfl) Try.results40 (.agg ty42 rfl rfl rfl rfl rfl) (.tmp rfl) (.tmp rfl) [] (ASub.refl _) (AHeap.sub_refl _) (fun p hp => by cases hp) ⟨rfl, ?_⟩
    first | (rw [hno]; rfl; done) | (rw [hno]; rfl; rfl)
   ·
    try simp only [NM] at hc31
    refine g_skip ?_
    refine g_next hK4 ?_
    refine g_seq (fun K8 hK8 => ?_)
    refine g_region ?_
    have hz : mayE l k.t k.wd = 0 := by first | omega | simp_all
    obtain ⟨q, hq⟩ : ∃ q, (nextL k l).head? = some q := by cases hh : (nextL k l) with | nil => rw [hh] at hc31; simp at hc31 | cons q r => exact ⟨q, rfl⟩
    have hq0 : (nextL k l)[0]? = some q := by rw [← List.head?_eq_getElem?]; exact hq
    refine g_step rfl (s_val (v_move rfl) rfl rfl ?_)
    refine g_step rfl (s_val (v_indexAddr ty35 ty42 rfl rfl rfl rfl (map_get hq0) rfl) rfl rfl ?_)
    refine g_step rfl (s_val (by first | exact v_load_elt ty42 rfl rfl rfl (map_get hq0) rfl rfl | exact v_load_box_all ty42 rfl rfl (by assumption) rfl rfl | exact v_load_part (cs := [_, _, _]) ty42 rfl rfl rfl (map_get hq0) rfl rfl rfl | exact v_load_box_part (cs := [_, _, _]) ty42 rfl rfl (by assumption) rfl rfl rfl) rfl rfl ?_)
    refine g_step rfl (s_store_all ty42 rfl rfl rfl rfl rfl rfl ?_)
    refine g_step rfl (s_val (v_assign rfl) rfl rfl ?_)
    refine g_step rfl (s_val (v_assign rfl) rfl rfl ?_)
    refine g_nil ?_
    refine g_next hK8 ?_
    refine g_ret ?_
    refine g_end3 (.inl rfl) Try.results40 (.agg ty42 rfl rfl rfl rfl rfl) (.tmp rfl) (.tmp rfl) [] (ASub.refl _) (AHeap.sub_refl _) (fun p hp => by cases hp) ⟨rfl, ?_⟩
    first | (rw [hq, hz]; rfl; done) | (rw [hq, hz]; rfl; rfl)

end Go.Proofs.Ytgedefcjngofkaa

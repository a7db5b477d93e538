import Derived.Test.YtgipbhfblmblcaaBlindL
import Derived.Test.YtgipbhfblmblcaaPBlind8
set_option maxHeartbeats 8000000
set_option linter.unusedSimpArgs false
set_option linter.unusedVariables false
set_option maxRecDepth 100000
namespace Go.Proofs.Ytgipbhfblmblcaa
open Go Go.Proofs.Ytgipbhfblmblcaa.AM
theorem blindPlays_ok (n room : Int) (l : List Mv) (no : Int) (hh : ∀ x ∈ l, ∀ r ∈ x.recs, Held r.bag) (hh2 : ∀ x ∈ l, x.recs.length ≤ 140737488351232) (hl : l.length ≤ 140737488351232) (G : AHeap) : PCalls Try.prog 9 [.int .i64 n, .int .i64 room, .imm (l.map encMv), .int .i64 no] G (fun v => v = .bool true) := by
 refine LCalls.intro 248 fi9 rfl Try.ntmps9 rfl (fun _ h => h.elim) (fun H hH w0 hw0 => ?_)
 refine g_seq (fun K0 hK0 => ?_)
 refine g_region ?_
 refine g_step rfl (s_val (v_assign rfl) rfl rfl ?_)
 refine g_nil ?_
 refine g_next hK0 ?_
 refine g_seq (fun K1 hK1 => ?_)
 refine g_seq (fun K2 hK2 => ?_)
 refine g_region ?_
 refine g_step rfl (s_val (v_move rfl) rfl rfl ?_)
 refine g_step rfl (s_callp rfl rfl rfl (few34_ok l hh hh2 hl _) ?_)
 rintro _ rfl
 refine g_step rfl (s_val (v_not rfl) rfl rfl ?_)
 refine g_nil ?_
 refine g_next hK2 ?_
 refine g_cond rfl (fun hc25 => ?_) (fun hc25 => ?_)
 ·
  try simp only [NM] at hc25
  refine g_seq (fun K3 hK3 => ?_)
  refine g_region ?_
  refine g_step rfl (s_callp rfl rfl rfl (awake34_ok _) ?_)
  rintro _ rfl
  refine g_step rfl (s_val (v_assign rfl) rfl rfl ?_)
  refine g_nil ?_
  refine g_next hK3 ?_
  refine g_ret ?_
  refine g_then_ret ?_
  refine g_end1 (.inl rfl) Try.results9 (.tmp rfl) [] (ASub.refl _) (by first | exact AHeap.sub_refl _ | exact hsH) (fun p hp => by cases hp) ⟨rfl, ?_⟩
  rfl
 ·
  try simp only [NM] at hc25
  obtain ⟨hl30, hfew⟩ := fewMv_all (l := l) (by simpa using hc25)
  refine g_skip ?_
  refine g_next hK1 ?_
  refine g_seq (fun K4 hK4 => ?_)
  refine g_region ?_
  rcases rg_cases n room with hrg | ⟨nn, rfl, hn1, hn2, h1r, h48⟩
  ·
   refine g_step rfl (s_val (v_move rfl) rfl rfl ?_)
   refine g_step rfl (s_val (v_move rfl) rfl rfl ?_)
   refine g_step rfl (s_callp rfl rfl rfl (bnewE_ok n room _ hrg) ?_)
   rintro _ rfl
   refine g_step rfl (s_val (v_move rfl) rfl rfl ?_)
   refine g_step rfl (s_val (v_extract rfl rfl) rfl rfl ?_)
   refine g_step rfl (s_val (v_extract rfl rfl) rfl rfl ?_)
   refine g_step rfl (s_val (v_assign rfl) rfl rfl ?_)
   refine g_step rfl (s_val (v_assign rfl) rfl rfl ?_)
   refine g_nil ?_
   refine g_next hK4 ?_
   refine g_seq (fun K5 hK5 => ?_)
   refine g_seq (fun K6 hK6 => ?_)
   refine g_region ?_
   refine g_step rfl (s_val (v_move rfl) rfl rfl ?_)
   refine g_step rfl (s_val (v_lss rfl rfl) rfl rfl ?_)
   refine g_step rfl (s_val (v_move rfl) rfl rfl ?_)
   refine g_split 35 rfl (fun hg35 => ?_) (fun hg35 => ?_)
   ·
    try simp only [NM] at hg35
    refine g_step_no (j := 2) (t := 35) rfl rfl rfl rfl rfl rfl rfl ?_
    refine g_step_no (j := 2) (t := 35) rfl rfl rfl rfl rfl rfl rfl ?_
    refine g_step rfl (s_val (v_pick_t rfl rfl) rfl rfl ?_)
    refine g_step rfl (s_val (v_move rfl) rfl rfl ?_)
    refine g_step_no (j := 6) (t := 39) rfl rfl rfl rfl rfl rfl rfl ?_
    refine g_step_no (j := 6) (t := 39) rfl rfl rfl rfl rfl rfl rfl ?_
    refine g_step rfl (s_val (v_pick_t rfl rfl) rfl rfl ?_)
    refine g_step rfl (s_val (v_move rfl) rfl rfl ?_)
    refine g_step_no (j := 10) (t := 43) rfl rfl rfl rfl rfl rfl rfl ?_
    refine g_step_no (j := 10) (t := 43) rfl rfl rfl rfl rfl rfl rfl ?_
    refine g_step rfl (s_val (v_pick_t rfl rfl) rfl rfl ?_)
    refine g_nil ?_
    refine g_next hK6 ?_
    first | refine g_keep [0, 1, 2, 3, 9, 10, 46] [] [] (keep_cons rfl (keep_cons rfl (keep_cons rfl (keep_cons rfl (keep_cons rfl (keep_cons rfl (keep_cons rfl keep_nil))))))) lkeep_nil keep_nil rfl ?_ | refine g_keep [0, 1, 2, 3, 9, 10, 46] [] [] rfl rfl rfl rfl ?_
    refine g_cond rfl (fun _ => ?_) (fun h => by cases h)
    refine g_seq (fun K7 hK7 => ?_)
    refine g_region ?_
    refine g_step rfl (s_val (v_move rfl) rfl rfl ?_)
    refine g_step rfl (s_val (by first | exact v_ptr_eql_nil ty78 rfl rfl rfl | exact v_nil_eql_nil ty78 rfl rfl | exact v_ptrO_eql ty78 rfl rfl) rfl rfl ?_)
    refine g_step rfl (s_val (v_move rfl) rfl rfl ?_)
    refine g_split 49 rfl (fun hg49 => ?_) (fun hg49 => ?_)
    ·
     try simp only [NM] at hg49
     refine g_step_yes (j := 2) (t := 49) rfl rfl rfl rfl (s_val (v_move rfl) rfl rfl ?_)
     refine g_step_yes (j := 2) (t := 49) rfl rfl rfl rfl (s_val (v_eql rfl rfl) rfl rfl ?_)
     refine g_step rfl (s_val (v_pick_t rfl rfl) rfl rfl ?_)
     refine g_step rfl (s_val (v_move rfl) rfl rfl ?_)
     refine g_split 53 rfl (fun hg53 => ?_) (fun hg53 => ?_)
     ·
      try simp only [NM] at hg53
      refine g_step_yes (j := 6) (t := 53) rfl rfl rfl rfl (s_callp rfl rfl rfl (awake34_ok _) ?_)
      rintro _ rfl
      refine g_step rfl (s_val (v_pick_t rfl rfl) rfl rfl ?_)
      refine g_step rfl (s_val (v_assign rfl) rfl rfl ?_)
      refine g_nil ?_
      refine g_next hK7 ?_
      refine g_ret ?_
      refine g_then_ret ?_
      refine g_end1 (.inl rfl) Try.results9 (.tmp rfl) [] (ASub.refl _) (by first | exact AHeap.sub_refl _ | exact hsH) (fun p hp => by cases hp) ⟨rfl, ?_⟩
      rfl
     · exfalso; (try simp only [NM] at hg53); first | (simp at hg53; done) | exact hg53 rfl | cases hg53
    · exfalso; (try simp only [NM] at hg49); first | (simp at hg49; done) | exact hg49 rfl | cases hg49
   ·
    try simp only [NM] at hg35
    refine g_step_yes (j := 2) (t := 35) rfl rfl rfl rfl (s_val (v_move rfl) rfl rfl ?_)
    refine g_step_yes (j := 2) (t := 35) rfl rfl rfl rfl (s_val (v_gtr rfl rfl) rfl rfl ?_)
    refine g_step rfl (s_val (v_pick_f rfl rfl) rfl rfl ?_)
    refine g_step rfl (s_val (v_move rfl) rfl rfl ?_)
    refine g_split 39 rfl (fun hg39 => ?_) (fun hg39 => ?_)
    ·
     try simp only [NM] at hg39
     refine g_step_no (j := 6) (t := 39) rfl rfl rfl rfl rfl rfl rfl ?_
     refine g_step_no (j := 6) (t := 39) rfl rfl rfl rfl rfl rfl rfl ?_
     refine g_step rfl (s_val (v_pick_t rfl rfl) rfl rfl ?_)
     refine g_step rfl (s_val (v_move rfl) rfl rfl ?_)
     refine g_step_no (j := 10) (t := 43) rfl rfl rfl rfl rfl rfl rfl ?_
     refine g_step_no (j := 10) (t := 43) rfl rfl rfl rfl rfl rfl rfl ?_
     refine g_step rfl (s_val (v_pick_t rfl rfl) rfl rfl ?_)
     refine g_nil ?_
     refine g_next hK6 ?_
     first | refine g_keep [0, 1, 2, 3, 9, 10, 46] [] [] (keep_cons rfl (keep_cons rfl (keep_cons rfl (keep_cons rfl (keep_cons rfl (keep_cons rfl (keep_cons rfl keep_nil))))))) lkeep_nil keep_nil rfl ?_ | refine g_keep [0, 1, 2, 3, 9, 10, 46] [] [] rfl rfl rfl rfl ?_
     refine g_cond rfl (fun _ => ?_) (fun h => by cases h)
     refine g_seq (fun K8 hK8 => ?_)
     refine g_region ?_
     refine g_step rfl (s_val (v_move rfl) rfl rfl ?_)
     refine g_step rfl (s_val (by first | exact v_ptr_eql_nil ty78 rfl rfl rfl | exact v_nil_eql_nil ty78 rfl rfl | exact v_ptrO_eql ty78 rfl rfl) rfl rfl ?_)
     refine g_step rfl (s_val (v_move rfl) rfl rfl ?_)
     refine g_split 49 rfl (fun hg49 => ?_) (fun hg49 => ?_)
     ·
      try simp only [NM] at hg49
      refine g_step_yes (j := 2) (t := 49) rfl rfl rfl rfl (s_val (v_move rfl) rfl rfl ?_)
      refine g_step_yes (j := 2) (t := 49) rfl rfl rfl rfl (s_val (v_eql rfl rfl) rfl rfl ?_)
      refine g_step rfl (s_val (v_pick_t rfl rfl) rfl rfl ?_)
      refine g_step rfl (s_val (v_move rfl) rfl rfl ?_)
      refine g_split 53 rfl (fun hg53 => ?_) (fun hg53 => ?_)
      ·
       try simp only [NM] at hg53
       refine g_step_yes (j := 6) (t := 53) rfl rfl rfl rfl (s_callp rfl rfl rfl (awake34_ok _) ?_)
       rintro _ rfl
       refine g_step rfl (s_val (v_pick_t rfl rfl) rfl rfl ?_)
       refine g_step rfl (s_val (v_assign rfl) rfl rfl ?_)
       refine g_nil ?_
       refine g_next hK8 ?_
       refine g_ret ?_
       refine g_then_ret ?_
       refine g_end1 (.inl rfl) Try.results9 (.tmp rfl) [] (ASub.refl _) (by first | exact AHeap.sub_refl _ | exact hsH) (fun p hp => by cases hp) ⟨rfl, ?_⟩
       rfl
      · exfalso; (try simp only [NM] at hg53); first | (simp at hg53; done) | exact hg53 rfl | cases hg53
     · exfalso; (try simp only [NM] at hg49); first | (simp at hg49; done) | exact hg49 rfl | cases hg49
    ·
     try simp only [NM] at hg39
     refine g_step_yes (j := 6) (t := 39) rfl rfl rfl rfl (s_val (v_move rfl) rfl rfl ?_)
     refine g_step_yes (j := 6) (t := 39) rfl rfl rfl rfl (s_val (v_lss rfl rfl) rfl rfl ?_)
     refine g_step rfl (s_val (v_pick_f rfl rfl) rfl rfl ?_)
     refine g_step rfl (s_val (v_move rfl) rfl rfl ?_)
     refine g_split 43 rfl (fun hg43 => ?_) (fun hg43 => ?_)
     ·
      try simp only [NM] at hg43
      refine g_step_no (j := 10) (t := 43) rfl rfl rfl rfl rfl rfl rfl ?_
      refine g_step_no (j := 10) (t := 43) rfl rfl rfl rfl rfl rfl rfl ?_
      refine g_step rfl (s_val (v_pick_t rfl rfl) rfl rfl ?_)
      refine g_nil ?_
      refine g_next hK6 ?_
      first | refine g_keep [0, 1, 2, 3, 9, 10, 46] [] [] (keep_cons rfl (keep_cons rfl (keep_cons rfl (keep_cons rfl (keep_cons rfl (keep_cons rfl (keep_cons rfl keep_nil))))))) lkeep_nil keep_nil rfl ?_ | refine g_keep [0, 1, 2, 3, 9, 10, 46] [] [] rfl rfl rfl rfl ?_
      refine g_cond rfl (fun _ => ?_) (fun h => by cases h)
      refine g_seq (fun K9 hK9 => ?_)
      refine g_region ?_
      refine g_step rfl (s_val (v_move rfl) rfl rfl ?_)
      refine g_step rfl (s_val (by first | exact v_ptr_eql_nil ty78 rfl rfl rfl | exact v_nil_eql_nil ty78 rfl rfl | exact v_ptrO_eql ty78 rfl rfl) rfl rfl ?_)
      refine g_step rfl (s_val (v_move rfl) rfl rfl ?_)
      refine g_split 49 rfl (fun hg49 => ?_) (fun hg49 => ?_)
      ·
       try simp only [NM] at hg49
       refine g_step_yes (j := 2) (t := 49) rfl rfl rfl rfl (s_val (v_move rfl) rfl rfl ?_)
       refine g_step_yes (j := 2) (t := 49) rfl rfl rfl rfl (s_val (v_eql rfl rfl) rfl rfl ?_)
       refine g_step rfl (s_val (v_pick_t rfl rfl) rfl rfl ?_)
       refine g_step rfl (s_val (v_move rfl) rfl rfl ?_)
       refine g_split 53 rfl (fun hg53 => ?_) (fun hg53 => ?_)
       ·
        try simp only [NM] at hg53
        refine g_step_yes (j := 6) (t := 53) rfl rfl rfl rfl (s_callp rfl rfl rfl (awake34_ok _) ?_)
        rintro _ rfl
        refine g_step rfl (s_val (v_pick_t rfl rfl) rfl rfl ?_)
        refine g_step rfl (s_val (v_assign rfl) rfl rfl ?_)
        refine g_nil ?_
        refine g_next hK9 ?_
        refine g_ret ?_
        refine g_then_ret ?_
        refine g_end1 (.inl rfl) Try.results9 (.tmp rfl) [] (ASub.refl _) (by first | exact AHeap.sub_refl _ | exact hsH) (fun p hp => by cases hp) ⟨rfl, ?_⟩
        rfl
       · exfalso; (try simp only [NM] at hg53); first | (simp at hg53; done) | exact hg53 rfl | cases hg53
      · exfalso; (try simp only [NM] at hg49); first | (simp at hg49; done) | exact hg49 rfl | cases hg49
     ·
      try simp only [NM] at hg43
      refine g_step_yes (j := 10) (t := 43) rfl rfl rfl rfl (s_val (v_move rfl) rfl rfl ?_)
      refine g_step_yes (j := 10) (t := 43) rfl rfl rfl rfl (s_val (v_gtr rfl rfl) rfl rfl ?_)
      refine g_step rfl (s_val (v_pick_f rfl rfl) rfl rfl ?_)
      refine g_nil ?_
      refine g_next hK6 ?_
      first | refine g_keep [0, 1, 2, 3, 9, 10, 46] [] [] (keep_cons rfl (keep_cons rfl (keep_cons rfl (keep_cons rfl (keep_cons rfl (keep_cons rfl (keep_cons rfl keep_nil))))))) lkeep_nil keep_nil rfl ?_ | refine g_keep [0, 1, 2, 3, 9, 10, 46] [] [] rfl rfl rfl rfl ?_
      refine g_cond rfl (fun hc46 => ?_) (fun hc46 => ?_)
      ·
       try simp only [NM] at hc46
       refine g_seq (fun K10 hK10 => ?_)
       refine g_region ?_
       refine g_step rfl (s_val (v_move rfl) rfl rfl ?_)
       refine g_step rfl (s_val (by first | exact v_ptr_eql_nil ty78 rfl rfl rfl | exact v_nil_eql_nil ty78 rfl rfl | exact v_ptrO_eql ty78 rfl rfl) rfl rfl ?_)
       refine g_step rfl (s_val (v_move rfl) rfl rfl ?_)
       refine g_split 49 rfl (fun hg49 => ?_) (fun hg49 => ?_)
       ·
        try simp only [NM] at hg49
        refine g_step_yes (j := 2) (t := 49) rfl rfl rfl rfl (s_val (v_move rfl) rfl rfl ?_)
        refine g_step_yes (j := 2) (t := 49) rfl rfl rfl rfl (s_val (v_eql rfl rfl) rfl rfl ?_)
        refine g_step rfl (s_val (v_pick_t rfl rfl) rfl rfl ?_)
        refine g_step rfl (s_val (v_move rfl) rfl rfl ?_)
        refine g_split 53 rfl (fun hg53 => ?_) (fun hg53 => ?_)
        ·
         try simp only [NM] at hg53
         refine g_step_yes (j := 6) (t := 53) rfl rfl rfl rfl (s_callp rfl rfl rfl (awake34_ok _) ?_)
         rintro _ rfl
         refine g_step rfl (s_val (v_pick_t rfl rfl) rfl rfl ?_)
         refine g_step rfl (s_val (v_assign rfl) rfl rfl ?_)
         refine g_nil ?_
         refine g_next hK10 ?_
         refine g_ret ?_
         refine g_then_ret ?_
         refine g_end1 (.inl rfl) Try.results9 (.tmp rfl) [] (ASub.refl _) (by first | exact AHeap.sub_refl _ | exact hsH) (fun p hp => by cases hp) ⟨rfl, ?_⟩
         rfl
        · exfalso; (try simp only [NM] at hg53); first | (simp at hg53; done) | exact hg53 rfl | cases hg53
       · exfalso; (try simp only [NM] at hg49); first | (simp at hg49; done) | exact hg49 rfl | cases hg49
      · exfalso; (try simp only [NM] at hc46); first | omega | (simp_all; omega)
  ·
   refine g_step rfl (s_val (v_move rfl) rfl rfl ?_)
   refine g_step rfl (s_val (v_move rfl) rfl rfl ?_)
   refine g_step rfl (s_call rfl rfl rfl (bnew_ok nn room _ hn1 hn2 h1r h48) (fun _ h => h.elim) ?_)
   rintro n0 _ effs0 hn0 hdom0 ⟨d, h1, rfl, hE0, hI⟩ hok0
   have hS := (show Sep w0.heap.size H ([] ++ noH :: [noH]) from Sep.zero _ _ 2).fresh hE0 hn0 hdom0
   have hsH := hE0.frame hdom0 (AHeap.sub_refl H) (fun b hb => absurd rfl hb)
   generalize setAll H effs0 = G0 at hS hsH ⊢
   have hok := newW_ok room (n := nn) hn2
   refine g_step rfl (s_val (v_move rfl) rfl rfl ?_)
   refine g_step rfl (s_val (v_extract rfl rfl) rfl rfl ?_)
   refine g_step rfl (s_val (v_extract rfl rfl) rfl rfl ?_)
   refine g_step rfl (s_val (v_assign rfl) rfl rfl ?_)
   refine g_step rfl (s_val (v_assign rfl) rfl rfl ?_)
   refine g_nil ?_
   refine g_next hK4 ?_
   refine g_seq (fun K11 hK11 => ?_)
   refine g_seq (fun K12 hK12 => ?_)
   refine g_region ?_
   refine g_step rfl (s_val (v_move rfl) rfl rfl ?_)
   refine g_step rfl (s_val (v_lss rfl rfl) rfl rfl ?_)
   refine g_step rfl (s_val (v_move rfl) rfl rfl ?_)
   refine g_split 35 rfl (fun hg35 => ?_) (fun hg35 => ?_)
   · exfalso; (try simp only [NM] at hg35); omega
   ·
    try simp only [NM] at hg35
    refine g_step_yes (j := 2) (t := 35) rfl rfl rfl rfl (s_val (v_move rfl) rfl rfl ?_)
    refine g_step_yes (j := 2) (t := 35) rfl rfl rfl rfl (s_val (v_gtr rfl rfl) rfl rfl ?_)
    refine g_step rfl (s_val (v_pick_f rfl rfl) rfl rfl ?_)
    refine g_step rfl (s_val (v_move rfl) rfl rfl ?_)
    refine g_split 39 rfl (fun hg39 => ?_) (fun hg39 => ?_)
    · exfalso; (try simp only [NM] at hg39); omega
    ·
     try simp only [NM] at hg39
     refine g_step_yes (j := 6) (t := 39) rfl rfl rfl rfl (s_val (v_move rfl) rfl rfl ?_)
     refine g_step_yes (j := 6) (t := 39) rfl rfl rfl rfl (s_val (v_lss rfl rfl) rfl rfl ?_)
     refine g_step rfl (s_val (v_pick_f rfl rfl) rfl rfl ?_)
     refine g_step rfl (s_val (v_move rfl) rfl rfl ?_)
     refine g_split 43 rfl (fun hg43 => ?_) (fun hg43 => ?_)
     · exfalso; (try simp only [NM] at hg43); omega
     ·
      try simp only [NM] at hg43
      refine g_step_yes (j := 10) (t := 43) rfl rfl rfl rfl (s_val (v_move rfl) rfl rfl ?_)
      refine g_step_yes (j := 10) (t := 43) rfl rfl rfl rfl (s_val (v_gtr rfl rfl) rfl rfl ?_)
      refine g_step rfl (s_val (v_pick_f rfl rfl) rfl rfl ?_)
      refine g_nil ?_
      refine g_next hK12 ?_
      first | refine g_keep [0, 1, 2, 3, 9, 10, 46] [] [] (keep_cons rfl (keep_cons rfl (keep_cons rfl (keep_cons rfl (keep_cons rfl (keep_cons rfl (keep_cons rfl keep_nil))))))) lkeep_nil keep_nil rfl ?_ | refine g_keep [0, 1, 2, 3, 9, 10, 46] [] [] rfl rfl rfl rfl ?_
      refine g_cond rfl (fun hc46 => ?_) (fun hc46 => ?_)
      · exfalso; (try simp only [NM] at hc46); omega
      ·
       try simp only [NM] at hc46
       refine g_skip ?_
       refine g_next hK11 ?_
       refine g_seq (fun K13 hK13 => ?_)
       refine g_seq (fun K14 hK14 => ?_)
       refine g_region ?_
       refine g_step rfl (s_val (v_move rfl) rfl rfl ?_)
       refine g_step rfl (s_val (v_neq rfl rfl) rfl rfl ?_)
       refine g_step rfl (s_val (v_move rfl) rfl rfl ?_)
       refine g_split 58 rfl (fun hg58 => ?_) (fun hg58 => ?_)
       · exfalso; (try simp only [NM] at hg58); first | (simp at hg58; done) | exact hg58 rfl | cases hg58
       ·
        try simp only [NM] at hg58
        refine g_step_yes (j := 2) (t := 58) rfl rfl rfl rfl (s_val (v_move rfl) rfl rfl ?_)
        refine g_step_yes (j := 2) (t := 58) rfl rfl rfl rfl (s_val (by first | exact v_ptr_eql_nil ty78 rfl rfl rfl | exact v_nil_eql_nil ty78 rfl rfl | exact v_ptrO_eql ty78 rfl rfl) rfl rfl ?_)
        refine g_step rfl (s_val (v_pick_f rfl rfl) rfl rfl ?_)
        refine g_nil ?_
        refine g_next hK14 ?_
        refine g_cond rfl (fun hc61 => ?_) (fun hc61 => ?_)
        · exfalso; (try simp only [NM] at hc61); first | (simp at hc61; done) | exact hc61 rfl | cases hc61
        ·
         try simp only [NM] at hc61
         refine g_skip ?_
         refine g_next hK13 ?_
         refine g_cut (fun env L B G => ∃ (ur hr cr : Nat) (h2 : AHeap), env = [(0, .int .i64 (nn : Int)), (1, .int .i64 room), (2, .imm (l.map encMv)), (3, .int .i64 no), (9, .box d 0)] ∧ L = [(11, 11, 0)] ∧ B = [(11, (mdA ur hr cr nn .nil0))] ∧ Sep w0.heap.size G [h1, h2] ∧ H.sub G ∧ LA h2 ur hr cr .nil0 ⟨List.replicate nn false, List.replicate nn (0, 0, []), List.replicate nn 0, []⟩) ?_ (fun env L B G hI => ?_)
         ·
          refine g_draw (n := 9) (fun j => !([1, 3, 5, 8] : List Nat).contains j) rfl rfl ?_
          refine m_tk 0 false rfl rfl (by kernel_rfl) (v_move rfl) rfl rfl ?_
          refine m_tk 2 false rfl rfl (by kernel_rfl) (v_move rfl) rfl rfl ?_
          refine m_tk 4 false rfl rfl (by kernel_rfl) (v_move rfl) rfl rfl ?_
          refine m_all (is := [1, 3, 5, 7]) (by kernel_rfl) rfl (fun _ _ _ => trivial) (fun i hi => ?_)
          rcases (by simpa using hi : i = 1 ∨ i = 3 ∨ i = 5 ∨ i = 7) with rfl | rfl | rfl | rfl
          ·
           refine ⟨_, rfl, .inl ⟨rfl, ?_⟩⟩
           refine sm_any rfl (s_makeO (n := nn) (za := (.bool false)) ty81 ty4 rfl rfl rfl rfl rfl rfl (by omega) (by omega) ?_)
           intro r63 hr63 hw63
           refine m_all (is := [3, 5, 7]) (by kernel_rfl) rfl (fun _ _ _ => trivial) (fun i hi => ?_)
           rcases (by simpa using hi : i = 3 ∨ i = 5 ∨ i = 7) with rfl | rfl | rfl
           ·
            refine ⟨_, rfl, .inl ⟨rfl, ?_⟩⟩
            refine sm_any rfl (s_makeO (n := nn) (za := (.agg [(.int .i64 0), (.int .i64 0), .nil0])) ty82 ty61 rfl rfl rfl rfl rfl rfl (by omega) (by omega) ?_)
            intro r65 hr65 hw65
            refine m_all (is := [5, 7]) (by kernel_rfl) rfl (fun _ _ _ => trivial) (fun i hi => ?_)
            rcases (by simpa using hi : i = 5 ∨ i = 7) with rfl | rfl
            ·
             refine ⟨_, rfl, .inl ⟨rfl, ?_⟩⟩
             refine sm_any rfl (s_makeO (n := nn) (za := (.int .i64 0)) ty71 ty3 rfl rfl rfl rfl rfl rfl (by omega) (by omega) ?_)
             intro r67 hr67 hw67
             refine m_tk 6 false rfl rfl (by kernel_rfl) (v_build (vs := [(0, _), (1, _), (2, _)]) (zs := [.nil0, .nil0, .nil0, .nil0]) (cells := [_, _, _, _]) ty85 pl85 rfl rfl rfl) rfl rfl ?_
             refine m_one 7 (by kernel_rfl) rfl rfl ?_
             refine sm_alloc (av := (.agg [.nil0, .nil0, .nil0, .nil0])) ty85 rfl rfl rfl rfl ?_
             refine m_one 8 (by kernel_rfl) rfl rfl ?_
             refine sm_any rfl (s_store_all ty85 rfl rfl rfl rfl rfl rfl ?_)
             refine m_done (by kernel_rfl) ?_
             have d1 : r63 ≠ r65 := by first | exact (set_none hr65).1 | exact (set_none hr63).1.symm | exact (set_none (set_none hr65).2).1 | exact (set_none (set_none hr63).2).1.symm
             have d2 : r63 ≠ r67 := by first | exact (set_none hr67).1 | exact (set_none hr63).1.symm | exact (set_none (set_none hr67).2).1 | exact (set_none (set_none hr63).2).1.symm
             have d3 : r65 ≠ r67 := by first | exact (set_none hr67).1 | exact (set_none hr65).1.symm | exact (set_none (set_none hr67).2).1 | exact (set_none (set_none hr65).2).1.symm
             have f1 : G0 r63 = none := by first | exact hr63 | exact (set_none hr63).2 | exact (set_none (set_none hr63).2).2
             have f2 : G0 r65 = none := by first | exact hr65 | exact (set_none hr65).2 | exact (set_none (set_none hr65).2).2
             have f3 : G0 r67 = none := by first | exact hr67 | exact (set_none hr67).2 | exact (set_none (set_none hr67).2).2
             refine g_wkrow (r := r65) (sz := 3) (l := List.replicate nn (.agg [.int .i64 0, .int .i64 0, .nil0])) (m := List.replicate nn (mdl 0 0 [])) (by simp [AHeap.set, d1, d2, d3, d1.symm, d2.symm, d3.symm]) (by rw [List.map_replicate]; rfl) ?_
             generalize hGw : AHeap.set _ r65 (.row 3 (List.replicate nn (mdl 0 0 []))) = Gw
             obtain ⟨h2, hS2, hL⟩ := newM (ur := r63) (hr := r65) (cr := r67) (n := nn) hS (G' := Gw) (fun b e1 e2 e3 => by subst hGw; simp [AHeap.set, e1, e2, e3]) (by subst hGw; simp [AHeap.set, d1, d2, d3, d1.symm, d2.symm, d3.symm]) (by subst hGw; simp [AHeap.set]) (by subst hGw; simp [AHeap.set, d1, d2, d3, d1.symm, d2.symm, d3.symm]) hw63 hw65 hw67 f1 f2 f3 d2
             have hsH2 : H.sub Gw := by subst hGw; exact AHeap.sub_trans hsH (fun b y hb => by have e1 : b ≠ r63 := (fun e => by rw [e, f1] at hb; cases hb); have e2 : b ≠ r65 := (fun e => by rw [e, f2] at hb; cases hb); have e3 : b ≠ r67 := (fun e => by rw [e, f3] at hb; cases hb); simpa [AHeap.set, e1, e2, e3] using hb)
             first | refine g_keep [0, 1, 2, 3, 9] [11] [11] (keep_cons rfl (keep_cons rfl (keep_cons rfl (keep_cons rfl (keep_cons rfl keep_nil))))) (lkeep_cons rfl lkeep_nil) (keep_cons rfl keep_nil) rfl ?_ | refine g_keep [0, 1, 2, 3, 9] [11] [11] rfl rfl rfl rfl ?_
             first | exact g_has ⟨r63, r65, r67, h2, rfl, rfl, rfl, ⟨hS2, hsH2, hL⟩⟩
            ·
             refine ⟨_, rfl, .inl ⟨rfl, ?_⟩⟩
             refine sm_alloc (av := (.agg [.nil0, .nil0, .nil0, .nil0])) ty85 rfl rfl rfl rfl ?_
             refine m_one 5 (by kernel_rfl) rfl rfl ?_
             refine sm_any rfl (s_makeO (n := nn) (za := (.int .i64 0)) ty71 ty3 rfl rfl rfl rfl rfl rfl (by omega) (by omega) ?_)
             intro r67 hr67 hw67
             refine m_tk 6 false rfl rfl (by kernel_rfl) (v_build (vs := [(0, _), (1, _), (2, _)]) (zs := [.nil0, .nil0, .nil0, .nil0]) (cells := [_, _, _, _]) ty85 pl85 rfl rfl rfl) rfl rfl ?_
             refine m_one 8 (by kernel_rfl) rfl rfl ?_
             refine sm_any rfl (s_store_all ty85 rfl rfl rfl rfl rfl rfl ?_)
             refine m_done (by kernel_rfl) ?_
             have d1 : r63 ≠ r65 := by first | exact (set_none hr65).1 | exact (set_none hr63).1.symm | exact (set_none (set_none hr65).2).1 | exact (set_none (set_none hr63).2).1.symm
             have d2 : r63 ≠ r67 := by first | exact (set_none hr67).1 | exact (set_none hr63).1.symm | exact (set_none (set_none hr67).2).1 | exact (set_none (set_none hr63).2).1.symm
             have d3 : r65 ≠ r67 := by first | exact (set_none hr67).1 | exact (set_none hr65).1.symm | exact (set_none (set_none hr67).2).1 | exact (set_none (set_none hr65).2).1.symm
             have f1 : G0 r63 = none := by first | exact hr63 | exact (set_none hr63).2 | exact (set_none (set_none hr63).2).2
             have f2 : G0 r65 = none := by first | exact hr65 | exact (set_none hr65).2 | exact (set_none (set_none hr65).2).2
             have f3 : G0 r67 = none := by first | exact hr67 | exact (set_none hr67).2 | exact (set_none (set_none hr67).2).2
             refine g_wkrow (r := r65) (sz := 3) (l := List.replicate nn (.agg [.int .i64 0, .int .i64 0, .nil0])) (m := List.replicate nn (mdl 0 0 [])) (by simp [AHeap.set, d1, d2, d3, d1.symm, d2.symm, d3.symm]) (by rw [List.map_replicate]; rfl) ?_
             generalize hGw : AHeap.set _ r65 (.row 3 (List.replicate nn (mdl 0 0 []))) = Gw
             obtain ⟨h2, hS2, hL⟩ := newM (ur := r63) (hr := r65) (cr := r67) (n := nn) hS (G' := Gw) (fun b e1 e2 e3 => by subst hGw; simp [AHeap.set, e1, e2, e3]) (by subst hGw; simp [AHeap.set, d1, d2, d3, d1.symm, d2.symm, d3.symm]) (by subst hGw; simp [AHeap.set]) (by subst hGw; simp [AHeap.set, d1, d2, d3, d1.symm, d2.symm, d3.symm]) hw63 hw65 hw67 f1 f2 f3 d2
             have hsH2 : H.sub Gw := by subst hGw; exact AHeap.sub_trans hsH (fun b y hb => by have e1 : b ≠ r63 := (fun e => by rw [e, f1] at hb; cases hb); have e2 : b ≠ r65 := (fun e => by rw [e, f2] at hb; cases hb); have e3 : b ≠ r67 := (fun e => by rw [e, f3] at hb; cases hb); simpa [AHeap.set, e1, e2, e3] using hb)
             first | refine g_keep [0, 1, 2, 3, 9] [11] [11] (keep_cons rfl (keep_cons rfl (keep_cons rfl (keep_cons rfl (keep_cons rfl keep_nil))))) (lkeep_cons rfl lkeep_nil) (keep_cons rfl keep_nil) rfl ?_ | refine g_keep [0, 1, 2, 3, 9] [11] [11] rfl rfl rfl rfl ?_
             first | exact g_has ⟨r63, r65, r67, h2, rfl, rfl, rfl, ⟨hS2, hsH2, hL⟩⟩
           ·
            refine ⟨_, rfl, .inl ⟨rfl, ?_⟩⟩
            refine sm_any rfl (s_makeO (n := nn) (za := (.int .i64 0)) ty71 ty3 rfl rfl rfl rfl rfl rfl (by omega) (by omega) ?_)
            intro r67 hr67 hw67
            refine m_all (is := [3, 7]) (by kernel_rfl) rfl (fun _ _ _ => trivial) (fun i hi => ?_)
            rcases (by simpa using hi : i = 3 ∨ i = 7) with rfl | rfl
            ·
             refine ⟨_, rfl, .inl ⟨rfl, ?_⟩⟩
             refine sm_any rfl (s_makeO (n := nn) (za := (.agg [(.int .i64 0), (.int .i64 0), .nil0])) ty82 ty61 rfl rfl rfl rfl rfl rfl (by omega) (by omega) ?_)
             intro r65 hr65 hw65
             refine m_tk 6 false rfl rfl (by kernel_rfl) (v_build (vs := [(0, _), (1, _), (2, _)]) (zs := [.nil0, .nil0, .nil0, .nil0]) (cells := [_, _, _, _]) ty85 pl85 rfl rfl rfl) rfl rfl ?_
             refine m_one 7 (by kernel_rfl) rfl rfl ?_
             refine sm_alloc (av := (.agg [.nil0, .nil0, .nil0, .nil0])) ty85 rfl rfl rfl rfl ?_
             refine m_one 8 (by kernel_rfl) rfl rfl ?_
             refine sm_any rfl (s_store_all ty85 rfl rfl rfl rfl rfl rfl ?_)
             refine m_done (by kernel_rfl) ?_
             have d1 : r63 ≠ r65 := by first | exact (set_none hr65).1 | exact (set_none hr63).1.symm | exact (set_none (set_none hr65).2).1 | exact (set_none (set_none hr63).2).1.symm
             have d2 : r63 ≠ r67 := by first | exact (set_none hr67).1 | exact (set_none hr63).1.symm | exact (set_none (set_none hr67).2).1 | exact (set_none (set_none hr63).2).1.symm
             have d3 : r65 ≠ r67 := by first | exact (set_none hr67).1 | exact (set_none hr65).1.symm | exact (set_none (set_none hr67).2).1 | exact (set_none (set_none hr65).2).1.symm
             have f1 : G0 r63 = none := by first | exact hr63 | exact (set_none hr63).2 | exact (set_none (set_none hr63).2).2
             have f2 : G0 r65 = none := by first | exact hr65 | exact (set_none hr65).2 | exact (set_none (set_none hr65).2).2
             have f3 : G0 r67 = none := by first | exact hr67 | exact (set_none hr67).2 | exact (set_none (set_none hr67).2).2
             refine g_wkrow (r := r65) (sz := 3) (l := List.replicate nn (.agg [.int .i64 0, .int .i64 0, .nil0])) (m := List.replicate nn (mdl 0 0 [])) (by simp [AHeap.set, d1, d2, d3, d1.symm, d2.symm, d3.symm]) (by rw [List.map_replicate]; rfl) ?_
             generalize hGw : AHeap.set _ r65 (.row 3 (List.replicate nn (mdl 0 0 []))) = Gw
             obtain ⟨h2, hS2, hL⟩ := newM (ur := r63) (hr := r65) (cr := r67) (n := nn) hS (G' := Gw) (fun b e1 e2 e3 => by subst hGw; simp [AHeap.set, e1, e2, e3]) (by subst hGw; simp [AHeap.set, d1, d2, d3, d1.symm, d2.symm, d3.symm]) (by subst hGw; simp [AHeap.set]) (by subst hGw; simp [AHeap.set, d1, d2, d3, d1.symm, d2.symm, d3.symm]) hw63 hw65 hw67 f1 f2 f3 d2
             have hsH2 : H.sub Gw := by subst hGw; exact AHeap.sub_trans hsH (fun b y hb => by have e1 : b ≠ r63 := (fun e => by rw [e, f1] at hb; cases hb); have e2 : b ≠ r65 := (fun e => by rw [e, f2] at hb; cases hb); have e3 : b ≠ r67 := (fun e => by rw [e, f3] at hb; cases hb); simpa [AHeap.set, e1, e2, e3] using hb)
             first | refine g_keep [0, 1, 2, 3, 9] [11] [11] (keep_cons rfl (keep_cons rfl (keep_cons rfl (keep_cons rfl (keep_cons rfl keep_nil))))) (lkeep_cons rfl lkeep_nil) (keep_cons rfl keep_nil) rfl ?_ | refine g_keep [0, 1, 2, 3, 9] [11] [11] rfl rfl rfl rfl ?_
             first | exact g_has ⟨r63, r65, r67, h2, rfl, rfl, rfl, ⟨hS2, hsH2, hL⟩⟩
            ·
             refine ⟨_, rfl, .inl ⟨rfl, ?_⟩⟩
             refine sm_alloc (av := (.agg [.nil0, .nil0, .nil0, .nil0])) ty85 rfl rfl rfl rfl ?_
             refine m_one 3 (by kernel_rfl) rfl rfl ?_
             refine sm_any rfl (s_makeO (n := nn) (za := (.agg [(.int .i64 0), (.int .i64 0), .nil0])) ty82 ty61 rfl rfl rfl rfl rfl rfl (by omega) (by omega) ?_)
             intro r65 hr65 hw65
             refine m_tk 6 false rfl rfl (by kernel_rfl) (v_build (vs := [(0, _), (1, _), (2, _)]) (zs := [.nil0, .nil0, .nil0, .nil0]) (cells := [_, _, _, _]) ty85 pl85 rfl rfl rfl) rfl rfl ?_
             refine m_one 8 (by kernel_rfl) rfl rfl ?_
             refine sm_any rfl (s_store_all ty85 rfl rfl rfl rfl rfl rfl ?_)
             refine m_done (by kernel_rfl) ?_
             have d1 : r63 ≠ r65 := by first | exact (set_none hr65).1 | exact (set_none hr63).1.symm | exact (set_none (set_none hr65).2).1 | exact (set_none (set_none hr63).2).1.symm
             have d2 : r63 ≠ r67 := by first | exact (set_none hr67).1 | exact (set_none hr63).1.symm | exact (set_none (set_none hr67).2).1 | exact (set_none (set_none hr63).2).1.symm
             have d3 : r65 ≠ r67 := by first | exact (set_none hr67).1 | exact (set_none hr65).1.symm | exact (set_none (set_none hr67).2).1 | exact (set_none (set_none hr65).2).1.symm
             have f1 : G0 r63 = none := by first | exact hr63 | exact (set_none hr63).2 | exact (set_none (set_none hr63).2).2
             have f2 : G0 r65 = none := by first | exact hr65 | exact (set_none hr65).2 | exact (set_none (set_none hr65).2).2
             have f3 : G0 r67 = none := by first | exact hr67 | exact (set_none hr67).2 | exact (set_none (set_none hr67).2).2
             refine g_wkrow (r := r65) (sz := 3) (l := List.replicate nn (.agg [.int .i64 0, .int .i64 0, .nil0])) (m := List.replicate nn (mdl 0 0 [])) (by simp [AHeap.set, d1, d2, d3, d1.symm, d2.symm, d3.symm]) (by rw [List.map_replicate]; rfl) ?_
             generalize hGw : AHeap.set _ r65 (.row 3 (List.replicate nn (mdl 0 0 []))) = Gw
             obtain ⟨h2, hS2, hL⟩ := newM (ur := r63) (hr := r65) (cr := r67) (n := nn) hS (G' := Gw) (fun b e1 e2 e3 => by subst hGw; simp [AHeap.set, e1, e2, e3]) (by subst hGw; simp [AHeap.set, d1, d2, d3, d1.symm, d2.symm, d3.symm]) (by subst hGw; simp [AHeap.set]) (by subst hGw; simp [AHeap.set, d1, d2, d3, d1.symm, d2.symm, d3.symm]) hw63 hw65 hw67 f1 f2 f3 d2
             have hsH2 : H.sub Gw := by subst hGw; exact AHeap.sub_trans hsH (fun b y hb => by have e1 : b ≠ r63 := (fun e => by rw [e, f1] at hb; cases hb); have e2 : b ≠ r65 := (fun e => by rw [e, f2] at hb; cases hb); have e3 : b ≠ r67 := (fun e => by rw [e, f3] at hb; cases hb); simpa [AHeap.set, e1, e2, e3] using hb)
             first | refine g_keep [0, 1, 2, 3, 9] [11] [11] (keep_cons rfl (keep_cons rfl (keep_cons rfl (keep_cons rfl (keep_cons rfl keep_nil))))) (lkeep_cons rfl lkeep_nil) (keep_cons rfl keep_nil) rfl ?_ | refine g_keep [0, 1, 2, 3, 9] [11] [11] rfl rfl rfl rfl ?_
             first | exact g_has ⟨r63, r65, r67, h2, rfl, rfl, rfl, ⟨hS2, hsH2, hL⟩⟩
           ·
            refine ⟨_, rfl, .inl ⟨rfl, ?_⟩⟩
            refine sm_alloc (av := (.agg [.nil0, .nil0, .nil0, .nil0])) ty85 rfl rfl rfl rfl ?_
            refine m_all (is := [3, 5]) (by kernel_rfl) rfl (fun _ _ _ => trivial) (fun i hi => ?_)
            rcases (by simpa using hi : i = 3 ∨ i = 5) with rfl | rfl
            ·
             refine ⟨_, rfl, .inl ⟨rfl, ?_⟩⟩
             refine sm_any rfl (s_makeO (n := nn) (za := (.agg [(.int .i64 0), (.int .i64 0), .nil0])) ty82 ty61 rfl rfl rfl rfl rfl rfl (by omega) (by omega) ?_)
             intro r65 hr65 hw65
             refine m_one 5 (by kernel_rfl) rfl rfl ?_
             refine sm_any rfl (s_makeO (n := nn) (za := (.int .i64 0)) ty71 ty3 rfl rfl rfl rfl rfl rfl (by omega) (by omega) ?_)
             intro r67 hr67 hw67
             refine m_tk 6 false rfl rfl (by kernel_rfl) (v_build (vs := [(0, _), (1, _), (2, _)]) (zs := [.nil0, .nil0, .nil0, .nil0]) (cells := [_, _, _, _]) ty85 pl85 rfl rfl rfl) rfl rfl ?_
             refine m_one 8 (by kernel_rfl) rfl rfl ?_
             refine sm_any rfl (s_store_all ty85 rfl rfl rfl rfl rfl rfl ?_)
             refine m_done (by kernel_rfl) ?_
             have d1 : r63 ≠ r65 := by first | exact (set_none hr65).1 | exact (set_none hr63).1.symm | exact (set_none (set_none hr65).2).1 | exact (set_none (set_none hr63).2).1.symm
             have d2 : r63 ≠ r67 := by first | exact (set_none hr67).1 | exact (set_none hr63).1.symm | exact (set_none (set_none hr67).2).1 | exact (set_none (set_none hr63).2).1.symm
             have d3 : r65 ≠ r67 := by first | exact (set_none hr67).1 | exact (set_none hr65).1.symm | exact (set_none (set_none hr67).2).1 | exact (set_none (set_none hr65).2).1.symm
             have f1 : G0 r63 = none := by first | exact hr63 | exact (set_none hr63).2 | exact (set_none (set_none hr63).2).2
             have f2 : G0 r65 = none := by first | exact hr65 | exact (set_none hr65).2 | exact (set_none (set_none hr65).2).2
             have f3 : G0 r67 = none := by first | exact hr67 | exact (set_none hr67).2 | exact (set_none (set_none hr67).2).2
             refine g_wkrow (r := r65) (sz := 3) (l := List.replicate nn (.agg [.int .i64 0, .int .i64 0, .nil0])) (m := List.replicate nn (mdl 0 0 [])) (by simp [AHeap.set, d1, d2, d3, d1.symm, d2.symm, d3.symm]) (by rw [List.map_replicate]; rfl) ?_
             generalize hGw : AHeap.set _ r65 (.row 3 (List.replicate nn (mdl 0 0 []))) = Gw
             obtain ⟨h2, hS2, hL⟩ := newM (ur := r63) (hr := r65) (cr := r67) (n := nn) hS (G' := Gw) (fun b e1 e2 e3 => by subst hGw; simp [AHeap.set, e1, e2, e3]) (by subst hGw; simp [AHeap.set, d1, d2, d3, d1.symm, d2.symm, d3.symm]) (by subst hGw; simp [AHeap.set]) (by subst hGw; simp [AHeap.set, d1, d2, d3, d1.symm, d2.symm, d3.symm]) hw63 hw65 hw67 f1 f2 f3 d2
             have hsH2 : H.sub Gw := by subst hGw; exact AHeap.sub_trans hsH (fun b y hb => by have e1 : b ≠ r63 := (fun e => by rw [e, f1] at hb; cases hb); have e2 : b ≠ r65 := (fun e => by rw [e, f2] at hb; cases hb); have e3 : b ≠ r67 := (fun e => by rw [e, f3] at hb; cases hb); simpa [AHeap.set, e1, e2, e3] using hb)
             first | refine g_keep [0, 1, 2, 3, 9] [11] [11] (keep_cons rfl (keep_cons rfl (keep_cons rfl (keep_cons rfl (keep_cons rfl keep_nil))))) (lkeep_cons rfl lkeep_nil) (keep_cons rfl keep_nil) rfl ?_ | refine g_keep [0, 1, 2, 3, 9] [11] [11] rfl rfl rfl rfl ?_
             first | exact g_has ⟨r63, r65, r67, h2, rfl, rfl, rfl, ⟨hS2, hsH2, hL⟩⟩
            ·
             refine ⟨_, rfl, .inl ⟨rfl, ?_⟩⟩
             refine sm_any rfl (s_makeO (n := nn) (za := (.int .i64 0)) ty71 ty3 rfl rfl rfl rfl rfl rfl (by omega) (by omega) ?_)
             intro r67 hr67 hw67
             refine m_one 3 (by kernel_rfl) rfl rfl ?_
             refine sm_any rfl (s_makeO (n := nn) (za := (.agg [(.int .i64 0), (.int .i64 0), .nil0])) ty82 ty61 rfl rfl rfl rfl rfl rfl (by omega) (by omega) ?_)
             intro r65 hr65 hw65
             refine m_tk 6 false rfl rfl (by kernel_rfl) (v_build (vs := [(0, _), (1, _), (2, _)]) (zs := [.nil0, .nil0, .nil0, .nil0]) (cells := [_, _, _, _]) ty85 pl85 rfl rfl rfl) rfl rfl ?_
             refine m_one 8 (by kernel_rfl) rfl rfl ?_
             refine sm_any rfl (s_store_all ty85 rfl rfl rfl rfl rfl rfl ?_)
             refine m_done (by kernel_rfl) ?_
             have d1 : r63 ≠ r65 := by first | exact (set_none hr65).1 | exact (set_none hr63).1.symm | exact (set_none (set_none hr65).2).1 | exact (set_none (set_none hr63).2).1.symm
             have d2 : r63 ≠ r67 := by first | exact (set_none hr67).1 | exact (set_none hr63).1.symm | exact (set_none (set_none hr67).2).1 | exact (set_none (set_none hr63).2).1.symm
             have d3 : r65 ≠ r67 := by first | exact (set_none hr67).1 | exact (set_none hr65).1.symm | exact (set_none (set_none hr67).2).1 | exact (set_none (set_none hr65).2).1.symm
             have f1 : G0 r63 = none := by first | exact hr63 | exact (set_none hr63).2 | exact (set_none (set_none hr63).2).2
             have f2 : G0 r65 = none := by first | exact hr65 | exact (set_none hr65).2 | exact (set_none (set_none hr65).2).2
             have f3 : G0 r67 = none := by first | exact hr67 | exact (set_none hr67).2 | exact (set_none (set_none hr67).2).2
             refine g_wkrow (r := r65) (sz := 3) (l := List.replicate nn (.agg [.int .i64 0, .int .i64 0, .nil0])) (m := List.replicate nn (mdl 0 0 [])) (by simp [AHeap.set, d1, d2, d3, d1.symm, d2.symm, d3.symm]) (by rw [List.map_replicate]; rfl) ?_
             generalize hGw : AHeap.set _ r65 (.row 3 (List.replicate nn (mdl 0 0 []))) = Gw
             obtain ⟨h2, hS2, hL⟩ := newM (ur := r63) (hr := r65) (cr := r67) (n := nn) hS (G' := Gw) (fun b e1 e2 e3 => by subst hGw; simp [AHeap.set, e1, e2, e3]) (by subst hGw; simp [AHeap.set, d1, d2, d3, d1.symm, d2.symm, d3.symm]) (by subst hGw; simp [AHeap.set]) (by subst hGw; simp [AHeap.set, d1, d2, d3, d1.symm, d2.symm, d3.symm]) hw63 hw65 hw67 f1 f2 f3 d2
             have hsH2 : H.sub Gw := by subst hGw; exact AHeap.sub_trans hsH (fun b y hb => by have e1 : b ≠ r63 := (fun e => by rw [e, f1] at hb; cases hb); have e2 : b ≠ r65 := (fun e => by rw [e, f2] at hb; cases hb); have e3 : b ≠ r67 := (fun e => by rw [e, f3] at hb; cases hb); simpa [AHeap.set, e1, e2, e3] using hb)
             first | refine g_keep [0, 1, 2, 3, 9] [11] [11] (keep_cons rfl (keep_cons rfl (keep_cons rfl (keep_cons rfl (keep_cons rfl keep_nil))))) (lkeep_cons rfl lkeep_nil) (keep_cons rfl keep_nil) rfl ?_ | refine g_keep [0, 1, 2, 3, 9] [11] [11] rfl rfl rfl rfl ?_
             first | exact g_has ⟨r63, r65, r67, h2, rfl, rfl, rfl, ⟨hS2, hsH2, hL⟩⟩
          ·
           refine ⟨_, rfl, .inl ⟨rfl, ?_⟩⟩
           refine sm_any rfl (s_makeO (n := nn) (za := (.agg [(.int .i64 0), (.int .i64 0), .nil0])) ty82 ty61 rfl rfl rfl rfl rfl rfl (by omega) (by omega) ?_)
           intro r65 hr65 hw65
           refine m_all (is := [1, 5, 7]) (by kernel_rfl) rfl (fun _ _ _ => trivial) (fun i hi => ?_)
           rcases (by simpa using hi : i = 1 ∨ i = 5 ∨ i = 7) with rfl | rfl | rfl
           ·
            refine ⟨_, rfl, .inl ⟨rfl, ?_⟩⟩
            refine sm_any rfl (s_makeO (n := nn) (za := (.bool false)) ty81 ty4 rfl rfl rfl rfl rfl rfl (by omega) (by omega) ?_)
            intro r63 hr63 hw63
            refine m_all (is := [5, 7]) (by kernel_rfl) rfl (fun _ _ _ => trivial) (fun i hi => ?_)
            rcases (by simpa using hi : i = 5 ∨ i = 7) with rfl | rfl
            ·
             refine ⟨_, rfl, .inl ⟨rfl, ?_⟩⟩
             refine sm_any rfl (s_makeO (n := nn) (za := (.int .i64 0)) ty71 ty3 rfl rfl rfl rfl rfl rfl (by omega) (by omega) ?_)
             intro r67 hr67 hw67
             refine m_tk 6 false rfl rfl (by kernel_rfl) (v_build (vs := [(0, _), (1, _), (2, _)]) (zs := [.nil0, .nil0, .nil0, .nil0]) (cells := [_, _, _, _]) ty85 pl85 rfl rfl rfl) rfl rfl ?_
             refine m_one 7 (by kernel_rfl) rfl rfl ?_
             refine sm_alloc (av := (.agg [.nil0, .nil0, .nil0, .nil0])) ty85 rfl rfl rfl rfl ?_
             refine m_one 8 (by kernel_rfl) rfl rfl ?_
             refine sm_any rfl (s_store_all ty85 rfl rfl rfl rfl rfl rfl ?_)
             refine m_done (by kernel_rfl) ?_
             have d1 : r63 ≠ r65 := by first | exact (set_none hr65).1 | exact (set_none hr63).1.symm | exact (set_none (set_none hr65).2).1 | exact (set_none (set_none hr63).2).1.symm
             have d2 : r63 ≠ r67 := by first | exact (set_none hr67).1 | exact (set_none hr63).1.symm | exact (set_none (set_none hr67).2).1 | exact (set_none (set_none hr63).2).1.symm
             have d3 : r65 ≠ r67 := by first | exact (set_none hr67).1 | exact (set_none hr65).1.symm | exact (set_none (set_none hr67).2).1 | exact (set_none (set_none hr65).2).1.symm
             have f1 : G0 r63 = none := by first | exact hr63 | exact (set_none hr63).2 | exact (set_none (set_none hr63).2).2
             have f2 : G0 r65 = none := by first | exact hr65 | exact (set_none hr65).2 | exact (set_none (set_none hr65).2).2
             have f3 : G0 r67 = none := by first | exact hr67 | exact (set_none hr67).2 | exact (set_none (set_none hr67).2).2
             refine g_wkrow (r := r65) (sz := 3) (l := List.replicate nn (.agg [.int .i64 0, .int .i64 0, .nil0])) (m := List.replicate nn (mdl 0 0 [])) (by simp [AHeap.set, d1, d2, d3, d1.symm, d2.symm, d3.symm]) (by rw [List.map_replicate]; rfl) ?_
             generalize hGw : AHeap.set _ r65 (.row 3 (List.replicate nn (mdl 0 0 []))) = Gw
             obtain ⟨h2, hS2, hL⟩ := newM (ur := r63) (hr := r65) (cr := r67) (n := nn) hS (G' := Gw) (fun b e1 e2 e3 => by subst hGw; simp [AHeap.set, e1, e2, e3]) (by subst hGw; simp [AHeap.set, d1, d2, d3, d1.symm, d2.symm, d3.symm]) (by subst hGw; simp [AHeap.set]) (by subst hGw; simp [AHeap.set, d1, d2, d3, d1.symm, d2.symm, d3.symm]) hw63 hw65 hw67 f1 f2 f3 d2
             have hsH2 : H.sub Gw := by subst hGw; exact AHeap.sub_trans hsH (fun b y hb => by have e1 : b ≠ r63 := (fun e => by rw [e, f1] at hb; cases hb); have e2 : b ≠ r65 := (fun e => by rw [e, f2] at hb; cases hb); have e3 : b ≠ r67 := (fun e => by rw [e, f3] at hb; cases hb); simpa [AHeap.set, e1, e2, e3] using hb)
             first | refine g_keep [0, 1, 2, 3, 9] [11] [11] (keep_cons rfl (keep_cons rfl (keep_cons rfl (keep_cons rfl (keep_cons rfl keep_nil))))) (lkeep_cons rfl lkeep_nil) (keep_cons rfl keep_nil) rfl ?_ | refine g_keep [0, 1, 2, 3, 9] [11] [11] rfl rfl rfl rfl ?_
             first | exact g_has ⟨r63, r65, r67, h2, rfl, rfl, rfl, ⟨hS2, hsH2, hL⟩⟩
            ·
             refine ⟨_, rfl, .inl ⟨rfl, ?_⟩⟩
             refine sm_alloc (av := (.agg [.nil0, .nil0, .nil0, .nil0])) ty85 rfl rfl rfl rfl ?_
             refine m_one 5 (by kernel_rfl) rfl rfl ?_
             refine sm_any rfl (s_makeO (n := nn) (za := (.int .i64 0)) ty71 ty3 rfl rfl rfl rfl rfl rfl (by omega) (by omega) ?_)
             intro r67 hr67 hw67
             refine m_tk 6 false rfl rfl (by kernel_rfl) (v_build (vs := [(0, _), (1, _), (2, _)]) (zs := [.nil0, .nil0, .nil0, .nil0]) (cells := [_, _, _, _]) ty85 pl85 rfl rfl rfl) rfl rfl ?_
             refine m_one 8 (by kernel_rfl) rfl rfl ?_
             refine sm_any rfl (s_store_all ty85 rfl rfl rfl rfl rfl rfl ?_)
             refine m_done (by kernel_rfl) ?_
             have d1 : r63 ≠ r65 := by first | exact (set_none hr65).1 | exact (set_none hr63).1.symm | exact (set_none (set_none hr65).2).1 | exact (set_none (set_none hr63).2).1.symm
             have d2 : r63 ≠ r67 := by first | exact (set_none hr67).1 | exact (set_none hr63).1.symm | exact (set_none (set_none hr67).2).1 | exact (set_none (set_none hr63).2).1.symm
             have d3 : r65 ≠ r67 := by first | exact (set_none hr67).1 | exact (set_none hr65).1.symm | exact (set_none (set_none hr67).2).1 | exact (set_none (set_none hr65).2).1.symm
             have f1 : G0 r63 = none := by first | exact hr63 | exact (set_none hr63).2 | exact (set_none (set_none hr63).2).2
             have f2 : G0 r65 = none := by first | exact hr65 | exact (set_none hr65).2 | exact (set_none (set_none hr65).2).2
             have f3 : G0 r67 = none := by first | exact hr67 | exact (set_none hr67).2 | exact (set_none (set_none hr67).2).2
             refine g_wkrow (r := r65) (sz := 3) (l := List.replicate nn (.agg [.int .i64 0, .int .i64 0, .nil0])) (m := List.replicate nn (mdl 0 0 [])) (by simp [AHeap.set, d1, d2, d3, d1.symm, d2.symm, d3.symm]) (by rw [List.map_replicate]; rfl) ?_
             generalize hGw : AHeap.set _ r65 (.row 3 (List.replicate nn (mdl 0 0 []))) = Gw
             obtain ⟨h2, hS2, hL⟩ := newM (ur := r63) (hr := r65) (cr := r67) (n := nn) hS (G' := Gw) (fun b e1 e2 e3 => by subst hGw; simp [AHeap.set, e1, e2, e3]) (by subst hGw; simp [AHeap.set, d1, d2, d3, d1.symm, d2.symm, d3.symm]) (by subst hGw; simp [AHeap.set]) (by subst hGw; simp [AHeap.set, d1, d2, d3, d1.symm, d2.symm, d3.symm]) hw63 hw65 hw67 f1 f2 f3 d2
             have hsH2 : H.sub Gw := by subst hGw; exact AHeap.sub_trans hsH (fun b y hb => by have e1 : b ≠ r63 := (fun e => by rw [e, f1] at hb; cases hb); have e2 : b ≠ r65 := (fun e => by rw [e, f2] at hb; cases hb); have e3 : b ≠ r67 := (fun e => by rw [e, f3] at hb; cases hb); simpa [AHeap.set, e1, e2, e3] using hb)
             first | refine g_keep [0, 1, 2, 3, 9] [11] [11] (keep_cons rfl (keep_cons rfl (keep_cons rfl (keep_cons rfl (keep_cons rfl keep_nil))))) (lkeep_cons rfl lkeep_nil) (keep_cons rfl keep_nil) rfl ?_ | refine g_keep [0, 1, 2, 3, 9] [11] [11] rfl rfl rfl rfl ?_
             first | exact g_has ⟨r63, r65, r67, h2, rfl, rfl, rfl, ⟨hS2, hsH2, hL⟩⟩
           ·
            refine ⟨_, rfl, .inl ⟨rfl, ?_⟩⟩
            refine sm_any rfl (s_makeO (n := nn) (za := (.int .i64 0)) ty71 ty3 rfl rfl rfl rfl rfl rfl (by omega) (by omega) ?_)
            intro r67 hr67 hw67
            refine m_all (is := [1, 7]) (by kernel_rfl) rfl (fun _ _ _ => trivial) (fun i hi => ?_)
            rcases (by simpa using hi : i = 1 ∨ i = 7) with rfl | rfl
            ·
             refine ⟨_, rfl, .inl ⟨rfl, ?_⟩⟩
             refine sm_any rfl (s_makeO (n := nn) (za := (.bool false)) ty81 ty4 rfl rfl rfl rfl rfl rfl (by omega) (by omega) ?_)
             intro r63 hr63 hw63
             refine m_tk 6 false rfl rfl (by kernel_rfl) (v_build (vs := [(0, _), (1, _), (2, _)]) (zs := [.nil0, .nil0, .nil0, .nil0]) (cells := [_, _, _, _]) ty85 pl85 rfl rfl rfl) rfl rfl ?_
             refine m_one 7 (by kernel_rfl) rfl rfl ?_
             refine sm_alloc (av := (.agg [.nil0, .nil0, .nil0, .nil0])) ty85 rfl rfl rfl rfl ?_
             refine m_one 8 (by kernel_rfl) rfl rfl ?_
             refine sm_any rfl (s_store_all ty85 rfl rfl rfl rfl rfl rfl ?_)
             refine m_done (by kernel_rfl) ?_
             have d1 : r63 ≠ r65 := by first | exact (set_none hr65).1 | exact (set_none hr63).1.symm | exact (set_none (set_none hr65).2).1 | exact (set_none (set_none hr63).2).1.symm
             have d2 : r63 ≠ r67 := by first | exact (set_none hr67).1 | exact (set_none hr63).1.symm | exact (set_none (set_none hr67).2).1 | exact (set_none (set_none hr63).2).1.symm
             have d3 : r65 ≠ r67 := by first | exact (set_none hr67).1 | exact (set_none hr65).1.symm | exact (set_none (set_none hr67).2).1 | exact (set_none (set_none hr65).2).1.symm
             have f1 : G0 r63 = none := by first | exact hr63 | exact (set_none hr63).2 | exact (set_none (set_none hr63).2).2
             have f2 : G0 r65 = none := by first | exact hr65 | exact (set_none hr65).2 | exact (set_none (set_none hr65).2).2
             have f3 : G0 r67 = none := by first | exact hr67 | exact (set_none hr67).2 | exact (set_none (set_none hr67).2).2
             refine g_wkrow (r := r65) (sz := 3) (l := List.replicate nn (.agg [.int .i64 0, .int .i64 0, .nil0])) (m := List.replicate nn (mdl 0 0 [])) (by simp [AHeap.set, d1, d2, d3, d1.symm, d2.symm, d3.symm]) (by rw [List.map_replicate]; rfl) ?_
             generalize hGw : AHeap.set _ r65 (.row 3 (List.replicate nn (mdl 0 0 []))) = Gw
             obtain ⟨h2, hS2, hL⟩ := newM (ur := r63) (hr := r65) (cr := r67) (n := nn) hS (G' := Gw) (fun b e1 e2 e3 => by subst hGw; simp [AHeap.set, e1, e2, e3]) (by subst hGw; simp [AHeap.set, d1, d2, d3, d1.symm, d2.symm, d3.symm]) (by subst hGw; simp [AHeap.set]) (by subst hGw; simp [AHeap.set, d1, d2, d3, d1.symm, d2.symm, d3.symm]) hw63 hw65 hw67 f1 f2 f3 d2
             have hsH2 : H.sub Gw := by subst hGw; exact AHeap.sub_trans hsH (fun b y hb => by have e1 : b ≠ r63 := (fun e => by rw [e, f1] at hb; cases hb); have e2 : b ≠ r65 := (fun e => by rw [e, f2] at hb; cases hb); have e3 : b ≠ r67 := (fun e => by rw [e, f3] at hb; cases hb); simpa [AHeap.set, e1, e2, e3] using hb)
             first | refine g_keep [0, 1, 2, 3, 9] [11] [11] (keep_cons rfl (keep_cons rfl (keep_cons rfl (keep_cons rfl (keep_cons rfl keep_nil))))) (lkeep_cons rfl lkeep_nil) (keep_cons rfl keep_nil) rfl ?_ | refine g_keep [0, 1, 2, 3, 9] [11] [11] rfl rfl rfl rfl ?_
             first | exact g_has ⟨r63, r65, r67, h2, rfl, rfl, rfl, ⟨hS2, hsH2, hL⟩⟩
            ·
             refine ⟨_, rfl, .inl ⟨rfl, ?_⟩⟩
             refine sm_alloc (av := (.agg [.nil0, .nil0, .nil0, .nil0])) ty85 rfl rfl rfl rfl ?_
             refine m_one 1 (by kernel_rfl) rfl rfl ?_
             refine sm_any rfl (s_makeO (n := nn) (za := (.bool false)) ty81 ty4 rfl rfl rfl rfl rfl rfl (by omega) (by omega) ?_)
             intro r63 hr63 hw63
             refine m_tk 6 false rfl rfl (by kernel_rfl) (v_build (vs := [(0, _), (1, _), (2, _)]) (zs := [.nil0, .nil0, .nil0, .nil0]) (cells := [_, _, _, _]) ty85 pl85 rfl rfl rfl) rfl rfl ?_
             refine m_one 8 (by kernel_rfl) rfl rfl ?_
             refine sm_any rfl (s_store_all ty85 rfl rfl rfl rfl rfl rfl ?_)
             refine m_done (by kernel_rfl) ?_
             have d1 : r63 ≠ r65 := by first | exact (set_none hr65).1 | exact (set_none hr63).1.symm | exact (set_none (set_none hr65).2).1 | exact (set_none (set_none hr63).2).1.symm
             have d2 : r63 ≠ r67 := by first | exact (set_none hr67).1 | exact (set_none hr63).1.symm | exact (set_none (set_none hr67).2).1 | exact (set_none (set_none hr63).2).1.symm
             have d3 : r65 ≠ r67 := by first | exact (set_none hr67).1 | exact (set_none hr65).1.symm | exact (set_none (set_none hr67).2).1 | exact (set_none (set_none hr65).2).1.symm
             have f1 : G0 r63 = none := by first | exact hr63 | exact (set_none hr63).2 | exact (set_none (set_none hr63).2).2
             have f2 : G0 r65 = none := by first | exact hr65 | exact (set_none hr65).2 | exact (set_none (set_none hr65).2).2
             have f3 : G0 r67 = none := by first | exact hr67 | exact (set_none hr67).2 | exact (set_none (set_none hr67).2).2
             refine g_wkrow (r := r65) (sz := 3) (l := List.replicate nn (.agg [.int .i64 0, .int .i64 0, .nil0])) (m := List.replicate nn (mdl 0 0 [])) (by simp [AHeap.set, d1, d2, d3, d1.symm, d2.symm, d3.symm]) (by rw [List.map_replicate]; rfl) ?_
             generalize hGw : AHeap.set _ r65 (.row 3 (List.replicate nn (mdl 0 0 []))) = Gw
             obtain ⟨h2, hS2, hL⟩ := newM (ur := r63) (hr := r65) (cr := r67) (n := nn) hS (G' := Gw) (fun b e1 e2 e3 => by subst hGw; simp [AHeap.set, e1, e2, e3]) (by subst hGw; simp [AHeap.set, d1, d2, d3, d1.symm, d2.symm, d3.symm]) (by subst hGw; simp [AHeap.set]) (by subst hGw; simp [AHeap.set, d1, d2, d3, d1.symm, d2.symm, d3.symm]) hw63 hw65 hw67 f1 f2 f3 d2
             have hsH2 : H.sub Gw := by subst hGw; exact AHeap.sub_trans hsH (fun b y hb => by have e1 : b ≠ r63 := (fun e => by rw [e, f1] at hb; cases hb); have e2 : b ≠ r65 := (fun e => by rw [e, f2] at hb; cases hb); have e3 : b ≠ r67 := (fun e => by rw [e, f3] at hb; cases hb); simpa [AHeap.set, e1, e2, e3] using hb)
             first | refine g_keep [0, 1, 2, 3, 9] [11] [11] (keep_cons rfl (keep_cons rfl (keep_cons rfl (keep_cons rfl (keep_cons rfl keep_nil))))) (lkeep_cons rfl lkeep_nil) (keep_cons rfl keep_nil) rfl ?_ | refine g_keep [0, 1, 2, 3, 9] [11] [11] rfl rfl rfl rfl ?_
             first | exact g_has ⟨r63, r65, r67, h2, rfl, rfl, rfl, ⟨hS2, hsH2, hL⟩⟩
           ·
            refine ⟨_, rfl, .inl ⟨rfl, ?_⟩⟩
            refine sm_alloc (av := (.agg [.nil0, .nil0, .nil0, .nil0])) ty85 rfl rfl rfl rfl ?_
            refine m_all (is := [1, 5]) (by kernel_rfl) rfl (fun _ _ _ => trivial) (fun i hi => ?_)
            rcases (by simpa using hi : i = 1 ∨ i = 5) with rfl | rfl
            ·
             refine ⟨_, rfl, .inl ⟨rfl, ?_⟩⟩
             refine sm_any rfl (s_makeO (n := nn) (za := (.bool false)) ty81 ty4 rfl rfl rfl rfl rfl rfl (by omega) (by omega) ?_)
             intro r63 hr63 hw63
             refine m_one 5 (by kernel_rfl) rfl rfl ?_
             refine sm_any rfl (s_makeO (n := nn) (za := (.int .i64 0)) ty71 ty3 rfl rfl rfl rfl rfl rfl (by omega) (by omega) ?_)
             intro r67 hr67 hw67
             refine m_tk 6 false rfl rfl (by kernel_rfl) (v_build (vs := [(0, _), (1, _), (2, _)]) (zs := [.nil0, .nil0, .nil0, .nil0]) (cells := [_, _, _, _]) ty85 pl85 rfl rfl rfl) rfl rfl ?_
             refine m_one 8 (by kernel_rfl) rfl rfl ?_
             refine sm_any rfl (s_store_all ty85 rfl rfl rfl rfl rfl rfl ?_)
             refine m_done (by kernel_rfl) ?_
             have d1 : r63 ≠ r65 := by first | exact (set_none hr65).1 | exact (set_none hr63).1.symm | exact (set_none (set_none hr65).2).1 | exact (set_none (set_none hr63).2).1.symm
             have d2 : r63 ≠ r67 := by first | exact (set_none hr67).1 | exact (set_none hr63).1.symm | exact (set_none (set_none hr67).2).1 | exact (set_none (set_none hr63).2).1.symm
             have d3 : r65 ≠ r67 := by first | exact (set_none hr67).1 | exact (set_none hr65).1.symm | exact (set_none (set_none hr67).2).1 | exact (set_none (set_none hr65).2).1.symm
             have f1 : G0 r63 = none := by first | exact hr63 | exact (set_none hr63).2 | exact (set_none (set_none hr63).2).2
             have f2 : G0 r65 = none := by first | exact hr65 | exact (set_none hr65).2 | exact (set_none (set_none hr65).2).2
             have f3 : G0 r67 = none := by first | exact hr67 | exact (set_none hr67).2 | exact (set_none (set_none hr67).2).2
             refine g_wkrow (r := r65) (sz := 3) (l := List.replicate nn (.agg [.int .i64 0, .int .i64 0, .nil0])) (m := List.replicate nn (mdl 0 0 [])) (by simp [AHeap.set, d1, d2, d3, d1.symm, d2.symm, d3.symm]) (by rw [List.map_replicate]; rfl) ?_
             generalize hGw : AHeap.set _ r65 (.row 3 (List.replicate nn (mdl 0 0 []))) = Gw
             obtain ⟨h2, hS2, hL⟩ := newM (ur := r63) (hr := r65) (cr := r67) (n := nn) hS (G' := Gw) (fun b e1 e2 e3 => by subst hGw; simp [AHeap.set, e1, e2, e3]) (by subst hGw; simp [AHeap.set, d1, d2, d3, d1.symm, d2.symm, d3.symm]) (by subst hGw; simp [AHeap.set]) (by subst hGw; simp [AHeap.set, d1, d2, d3, d1.symm, d2.symm, d3.symm]) hw63 hw65 hw67 f1 f2 f3 d2
             have hsH2 : H.sub Gw := by subst hGw; exact AHeap.sub_trans hsH (fun b y hb => by have e1 : b ≠ r63 := (fun e => by rw [e, f1] at hb; cases hb); have e2 : b ≠ r65 := (fun e => by rw [e, f2] at hb; cases hb); have e3 : b ≠ r67 := (fun e => by rw [e, f3] at hb; cases hb); simpa [AHeap.set, e1, e2, e3] using hb)
             first | refine g_keep [0, 1, 2, 3, 9] [11] [11] (keep_cons rfl (keep_cons rfl (keep_cons rfl (keep_cons rfl (keep_cons rfl keep_nil))))) (lkeep_cons rfl lkeep_nil) (keep_cons rfl keep_nil) rfl ?_ | refine g_keep [0, 1, 2, 3, 9] [11] [11] rfl rfl rfl rfl ?_
             first | exact g_has ⟨r63, r65, r67, h2, rfl, rfl, rfl, ⟨hS2, hsH2, hL⟩⟩
            ·
             refine ⟨_, rfl, .inl ⟨rfl, ?_⟩⟩
             refine sm_any rfl (s_makeO (n := nn) (za := (.int .i64 0)) ty71 ty3 rfl rfl rfl rfl rfl rfl (by omega) (by omega) ?_)
             intro r67 hr67 hw67
             refine m_one 1 (by kernel_rfl) rfl rfl ?_
             refine sm_any rfl (s_makeO (n := nn) (za := (.bool false)) ty81 ty4 rfl rfl rfl rfl rfl rfl (by omega) (by omega) ?_)
             intro r63 hr63 hw63
             refine m_tk 6 false rfl rfl (by kernel_rfl) (v_build (vs := [(0, _), (1, _), (2, _)]) (zs := [.nil0, .nil0, .nil0, .nil0]) (cells := [_, _, _, _]) ty85 pl85 rfl rfl rfl) rfl rfl ?_
             refine m_one 8 (by kernel_rfl) rfl rfl ?_
             refine sm_any rfl (s_store_all ty85 rfl rfl rfl rfl rfl rfl ?_)
             refine m_done (by kernel_rfl) ?_
             have d1 : r63 ≠ r65 := by first | exact (set_none hr65).1 | exact (set_none hr63).1.symm | exact (set_none (set_none hr65).2).1 | exact (set_none (set_none hr63).2).1.symm
             have d2 : r63 ≠ r67 := by first | exact (set_none hr67).1 | exact (set_none hr63).1.symm | exact (set_none (set_none hr67).2).1 | exact (set_none (set_none hr63).2).1.symm
             have d3 : r65 ≠ r67 := by first | exact (set_none hr67).1 | exact (set_none hr65).1.symm | exact (set_none (set_none hr67).2).1 | exact (set_none (set_none hr65).2).1.symm
             have f1 : G0 r63 = none := by first | exact hr63 | exact (set_none hr63).2 | exact (set_none (set_none hr63).2).2
             have f2 : G0 r65 = none := by first | exact hr65 | exact (set_none hr65).2 | exact (set_none (set_none hr65).2).2
             have f3 : G0 r67 = none := by first | exact hr67 | exact (set_none hr67).2 | exact (set_none (set_none hr67).2).2
             refine g_wkrow (r := r65) (sz := 3) (l := List.replicate nn (.agg [.int .i64 0, .int .i64 0, .nil0])) (m := List.replicate nn (mdl 0 0 [])) (by simp [AHeap.set, d1, d2, d3, d1.symm, d2.symm, d3.symm]) (by rw [List.map_replicate]; rfl) ?_
             generalize hGw : AHeap.set _ r65 (.row 3 (List.replicate nn (mdl 0 0 []))) = Gw
             obtain ⟨h2, hS2, hL⟩ := newM (ur := r63) (hr := r65) (cr := r67) (n := nn) hS (G' := Gw) (fun b e1 e2 e3 => by subst hGw; simp [AHeap.set, e1, e2, e3]) (by subst hGw; simp [AHeap.set, d1, d2, d3, d1.symm, d2.symm, d3.symm]) (by subst hGw; simp [AHeap.set]) (by subst hGw; simp [AHeap.set, d1, d2, d3, d1.symm, d2.symm, d3.symm]) hw63 hw65 hw67 f1 f2 f3 d2
             have hsH2 : H.sub Gw := by subst hGw; exact AHeap.sub_trans hsH (fun b y hb => by have e1 : b ≠ r63 := (fun e => by rw [e, f1] at hb; cases hb); have e2 : b ≠ r65 := (fun e => by rw [e, f2] at hb; cases hb); have e3 : b ≠ r67 := (fun e => by rw [e, f3] at hb; cases hb); simpa [AHeap.set, e1, e2, e3] using hb)
             first | refine g_keep [0, 1, 2, 3, 9] [11] [11] (keep_cons rfl (keep_cons rfl (keep_cons rfl (keep_cons rfl (keep_cons rfl keep_nil))))) (lkeep_cons rfl lkeep_nil) (keep_cons rfl keep_nil) rfl ?_ | refine g_keep [0, 1, 2, 3, 9] [11] [11] rfl rfl rfl rfl ?_
             first | exact g_has ⟨r63, r65, r67, h2, rfl, rfl, rfl, ⟨hS2, hsH2, hL⟩⟩
          ·
           refine ⟨_, rfl, .inl ⟨rfl, ?_⟩⟩
           refine sm_any rfl (s_makeO (n := nn) (za := (.int .i64 0)) ty71 ty3 rfl rfl rfl rfl rfl rfl (by omega) (by omega) ?_)
           intro r67 hr67 hw67
           refine m_all (is := [1, 3, 7]) (by kernel_rfl) rfl (fun _ _ _ => trivial) (fun i hi => ?_)
           rcases (by simpa using hi : i = 1 ∨ i = 3 ∨ i = 7) with rfl | rfl | rfl
           ·
            refine ⟨_, rfl, .inl ⟨rfl, ?_⟩⟩
            refine sm_any rfl (s_makeO (n := nn) (za := (.bool false)) ty81 ty4 rfl rfl rfl rfl rfl rfl (by omega) (by omega) ?_)
            intro r63 hr63 hw63
            refine m_all (is := [3, 7]) (by kernel_rfl) rfl (fun _ _ _ => trivial) (fun i hi => ?_)
            rcases (by simpa using hi : i = 3 ∨ i = 7) with rfl | rfl
            ·
             refine ⟨_, rfl, .inl ⟨rfl, ?_⟩⟩
             refine sm_any rfl (s_makeO (n := nn) (za := (.agg [(.int .i64 0), (.int .i64 0), .nil0])) ty82 ty61 rfl rfl rfl rfl rfl rfl (by omega) (by omega) ?_)
             intro r65 hr65 hw65
             refine m_tk 6 false rfl rfl (by kernel_rfl) (v_build (vs := [(0, _), (1, _), (2, _)]) (zs := [.nil0, .nil0, .nil0, .nil0]) (cells := [_, _, _, _]) ty85 pl85 rfl rfl rfl) rfl rfl ?_
             refine m_one 7 (by kernel_rfl) rfl rfl ?_
             refine sm_alloc (av := (.agg [.nil0, .nil0, .nil0, .nil0])) ty85 rfl rfl rfl rfl ?_
             refine m_one 8 (by kernel_rfl) rfl rfl ?_
             refine sm_any rfl (s_store_all ty85 rfl rfl rfl rfl rfl rfl ?_)
             refine m_done (by kernel_rfl) ?_
             have d1 : r63 ≠ r65 := by first | exact (set_none hr65).1 | exact (set_none hr63).1.symm | exact (set_none (set_none hr65).2).1 | exact (set_none (set_none hr63).2).1.symm
             have d2 : r63 ≠ r67 := by first | exact (set_none hr67).1 | exact (set_none hr63).1.symm | exact (set_none (set_none hr67).2).1 | exact (set_none (set_none hr63).2).1.symm
             have d3 : r65 ≠ r67 := by first | exact (set_none hr67).1 | exact (set_none hr65).1.symm | exact (set_none (set_none hr67).2).1 | exact (set_none (set_none hr65).2).1.symm
             have f1 : G0 r63 = none := by first | exact hr63 | exact (set_none hr63).2 | exact (set_none (set_none hr63).2).2
             have f2 : G0 r65 = none := by first | exact hr65 | exact (set_none hr65).2 | exact (set_none (set_none hr65).2).2
             have f3 : G0 r67 = none := by first | exact hr67 | exact (set_none hr67).2 | exact (set_none (set_none hr67).2).2
             refine g_wkrow (r := r65) (sz := 3) (l := List.replicate nn (.agg [.int .i64 0, .int .i64 0, .nil0])) (m := List.replicate nn (mdl 0 0 [])) (by simp [AHeap.set, d1, d2, d3, d1.symm, d2.symm, d3.symm]) (by rw [List.map_replicate]; rfl) ?_
             generalize hGw : AHeap.set _ r65 (.row 3 (List.replicate nn (mdl 0 0 []))) = Gw
             obtain ⟨h2, hS2, hL⟩ := newM (ur := r63) (hr := r65) (cr := r67) (n := nn) hS (G' := Gw) (fun b e1 e2 e3 => by subst hGw; simp [AHeap.set, e1, e2, e3]) (by subst hGw; simp [AHeap.set, d1, d2, d3, d1.symm, d2.symm, d3.symm]) (by subst hGw; simp [AHeap.set]) (by subst hGw; simp [AHeap.set, d1, d2, d3, d1.symm, d2.symm, d3.symm]) hw63 hw65 hw67 f1 f2 f3 d2
             have hsH2 : H.sub Gw := by subst hGw; exact AHeap.sub_trans hsH (fun b y hb => by have e1 : b ≠ r63 := (fun e => by rw [e, f1] at hb; cases hb); have e2 : b ≠ r65 := (fun e => by rw [e, f2] at hb; cases hb); have e3 : b ≠ r67 := (fun e => by rw [e, f3] at hb; cases hb); simpa [AHeap.set, e1, e2, e3] using hb)
             first | refine g_keep [0, 1, 2, 3, 9] [11] [11] (keep_cons rfl (keep_cons rfl (keep_cons rfl (keep_cons rfl (keep_cons rfl keep_nil))))) (lkeep_cons rfl lkeep_nil) (keep_cons rfl keep_nil) rfl ?_ | refine g_keep [0, 1, 2, 3, 9] [11] [11] rfl rfl rfl rfl ?_
             first | exact g_has ⟨r63, r65, r67, h2, rfl, rfl, rfl, ⟨hS2, hsH2, hL⟩⟩
            ·
             refine ⟨_, rfl, .inl ⟨rfl, ?_⟩⟩
             refine sm_alloc (av := (.agg [.nil0, .nil0, .nil0, .nil0])) ty85 rfl rfl rfl rfl ?_
             refine m_one 3 (by kernel_rfl) rfl rfl ?_
             refine sm_any rfl (s_makeO (n := nn) (za := (.agg [(.int .i64 0), (.int .i64 0), .nil0])) ty82 ty61 rfl rfl rfl rfl rfl rfl (by omega) (by omega) ?_)
             intro r65 hr65 hw65
             refine m_tk 6 false rfl rfl (by kernel_rfl) (v_build (vs := [(0, _), (1, _), (2, _)]) (zs := [.nil0, .nil0, .nil0, .nil0]) (cells := [_, _, _, _]) ty85 pl85 rfl rfl rfl) rfl rfl ?_
             refine m_one 8 (by kernel_rfl) rfl rfl ?_
             refine sm_any rfl (s_store_all ty85 rfl rfl rfl rfl rfl rfl ?_)
             refine m_done (by kernel_rfl) ?_
             have d1 : r63 ≠ r65 := by first | exact (set_none hr65).1 | exact (set_none hr63).1.symm | exact (set_none (set_none hr65).2).1 | exact (set_none (set_none hr63).2).1.symm
             have d2 : r63 ≠ r67 := by first | exact (set_none hr67).1 | exact (set_none hr63).1.symm | exact (set_none (set_none hr67).2).1 | exact (set_none (set_none hr63).2).1.symm
             have d3 : r65 ≠ r67 := by first | exact (set_none hr67).1 | exact (set_none hr65).1.symm | exact (set_none (set_none hr67).2).1 | exact (set_none (set_none hr65).2).1.symm
             have f1 : G0 r63 = none := by first | exact hr63 | exact (set_none hr63).2 | exact (set_none (set_none hr63).2).2
             have f2 : G0 r65 = none := by first | exact hr65 | exact (set_none hr65).2 | exact (set_none (set_none hr65).2).2
             have f3 : G0 r67 = none := by first | exact hr67 | exact (set_none hr67).2 | exact (set_none (set_none hr67).2).2
             refine g_wkrow (r := r65) (sz := 3) (l := List.replicate nn (.agg [.int .i64 0, .int .i64 0, .nil0])) (m := List.replicate nn (mdl 0 0 [])) (by simp [AHeap.set, d1, d2, d3, d1.symm, d2.symm, d3.symm]) (by rw [List.map_replicate]; rfl) ?_
             generalize hGw : AHeap.set _ r65 (.row 3 (List.replicate nn (mdl 0 0 []))) = Gw
             obtain ⟨h2, hS2, hL⟩ := newM (ur := r63) (hr := r65) (cr := r67) (n := nn) hS (G' := Gw) (fun b e1 e2 e3 => by subst hGw; simp [AHeap.set, e1, e2, e3]) (by subst hGw; simp [AHeap.set, d1, d2, d3, d1.symm, d2.symm, d3.symm]) (by subst hGw; simp [AHeap.set]) (by subst hGw; simp [AHeap.set, d1, d2, d3, d1.symm, d2.symm, d3.symm]) hw63 hw65 hw67 f1 f2 f3 d2
             have hsH2 : H.sub Gw := by subst hGw; exact AHeap.sub_trans hsH (fun b y hb => by have e1 : b ≠ r63 := (fun e => by rw [e, f1] at hb; cases hb); have e2 : b ≠ r65 := (fun e => by rw [e, f2] at hb; cases hb); have e3 : b ≠ r67 := (fun e => by rw [e, f3] at hb; cases hb); simpa [AHeap.set, e1, e2, e3] using hb)
             first | refine g_keep [0, 1, 2, 3, 9] [11] [11] (keep_cons rfl (keep_cons rfl (keep_cons rfl (keep_cons rfl (keep_cons rfl keep_nil))))) (lkeep_cons rfl lkeep_nil) (keep_cons rfl keep_nil) rfl ?_ | refine g_keep [0, 1, 2, 3, 9] [11] [11] rfl rfl rfl rfl ?_
             first | exact g_has ⟨r63, r65, r67, h2, rfl, rfl, rfl, ⟨hS2, hsH2, hL⟩⟩
           ·
            refine ⟨_, rfl, .inl ⟨rfl, ?_⟩⟩
            refine sm_any rfl (s_makeO (n := nn) (za := (.agg [(.int .i64 0), (.int .i64 0), .nil0])) ty82 ty61 rfl rfl rfl rfl rfl rfl (by omega) (by omega) ?_)
            intro r65 hr65 hw65
            refine m_all (is := [1, 7]) (by kernel_rfl) rfl (fun _ _ _ => trivial) (fun i hi => ?_)
            rcases (by simpa using hi : i = 1 ∨ i = 7) with rfl | rfl
            ·
             refine ⟨_, rfl, .inl ⟨rfl, ?_⟩⟩
             refine sm_any rfl (s_makeO (n := nn) (za := (.bool false)) ty81 ty4 rfl rfl rfl rfl rfl rfl (by omega) (by omega) ?_)
             intro r63 hr63 hw63
             refine m_tk 6 false rfl rfl (by kernel_rfl) (v_build (vs := [(0, _), (1, _), (2, _)]) (zs := [.nil0, .nil0, .nil0, .nil0]) (cells := [_, _, _, _]) ty85 pl85 rfl rfl rfl) rfl rfl ?_
             refine m_one 7 (by kernel_rfl) rfl rfl ?_
             refine sm_alloc (av := (.agg [.nil0, .nil0, .nil0, .nil0])) ty85 rfl rfl rfl rfl ?_
             refine m_one 8 (by kernel_rfl) rfl rfl ?_
             refine sm_any rfl (s_store_all ty85 rfl rfl rfl rfl rfl rfl ?_)
             refine m_done (by kernel_rfl) ?_
             have d1 : r63 ≠ r65 := by first | exact (set_none hr65).1 | exact (set_none hr63).1.symm | exact (set_none (set_none hr65).2).1 | exact (set_none (set_none hr63).2).1.symm
             have d2 : r63 ≠ r67 := by first | exact (set_none hr67).1 | exact (set_none hr63).1.symm | exact (set_none (set_none hr67).2).1 | exact (set_none (set_none hr63).2).1.symm
             have d3 : r65 ≠ r67 := by first | exact (set_none hr67).1 | exact (set_none hr65).1.symm | exact (set_none (set_none hr67).2).1 | exact (set_none (set_none hr65).2).1.symm
             have f1 : G0 r63 = none := by first | exact hr63 | exact (set_none hr63).2 | exact (set_none (set_none hr63).2).2
             have f2 : G0 r65 = none := by first | exact hr65 | exact (set_none hr65).2 | exact (set_none (set_none hr65).2).2
             have f3 : G0 r67 = none := by first | exact hr67 | exact (set_none hr67).2 | exact (set_none (set_none hr67).2).2
             refine g_wkrow (r := r65) (sz := 3) (l := List.replicate nn (.agg [.int .i64 0, .int .i64 0, .nil0])) (m := List.replicate nn (mdl 0 0 [])) (by simp [AHeap.set, d1, d2, d3, d1.symm, d2.symm, d3.symm]) (by rw [List.map_replicate]; rfl) ?_
             generalize hGw : AHeap.set _ r65 (.row 3 (List.replicate nn (mdl 0 0 []))) = Gw
             obtain ⟨h2, hS2, hL⟩ := newM (ur := r63) (hr := r65) (cr := r67) (n := nn) hS (G' := Gw) (fun b e1 e2 e3 => by subst hGw; simp [AHeap.set, e1, e2, e3]) (by subst hGw; simp [AHeap.set, d1, d2, d3, d1.symm, d2.symm, d3.symm]) (by subst hGw; simp [AHeap.set]) (by subst hGw; simp [AHeap.set, d1, d2, d3, d1.symm, d2.symm, d3.symm]) hw63 hw65 hw67 f1 f2 f3 d2
             have hsH2 : H.sub Gw := by subst hGw; exact AHeap.sub_trans hsH (fun b y hb => by have e1 : b ≠ r63 := (fun e => by rw [e, f1] at hb; cases hb); have e2 : b ≠ r65 := (fun e => by rw [e, f2] at hb; cases hb); have e3 : b ≠ r67 := (fun e => by rw [e, f3] at hb; cases hb); simpa [AHeap.set, e1, e2, e3] using hb)
             first | refine g_keep [0, 1, 2, 3, 9] [11] [11] (keep_cons rfl (keep_cons rfl (keep_cons rfl (keep_cons rfl (keep_cons rfl keep_nil))))) (lkeep_cons rfl lkeep_nil) (keep_cons rfl keep_nil) rfl ?_ | refine g_keep [0, 1, 2, 3, 9] [11] [11] rfl rfl rfl rfl ?_
             first | exact g_has ⟨r63, r65, r67, h2, rfl, rfl, rfl, ⟨hS2, hsH2, hL⟩⟩
            ·
             refine ⟨_, rfl, .inl ⟨rfl, ?_⟩⟩
             refine sm_alloc (av := (.agg [.nil0, .nil0, .nil0, .nil0])) ty85 rfl rfl rfl rfl ?_
             refine m_one 1 (by kernel_rfl) rfl rfl ?_
             refine sm_any rfl (s_makeO (n := nn) (za := (.bool false)) ty81 ty4 rfl rfl rfl rfl rfl rfl (by omega) (by omega) ?_)
             intro r63 hr63 hw63
             refine m_tk 6 false rfl rfl (by kernel_rfl) (v_build (vs := [(0, _), (1, _), (2, _)]) (zs := [.nil0, .nil0, .nil0, .nil0]) (cells := [_, _, _, _]) ty85 pl85 rfl rfl rfl) rfl rfl ?_
             refine m_one 8 (by kernel_rfl) rfl rfl ?_
             refine sm_any rfl (s_store_all ty85 rfl rfl rfl rfl rfl rfl ?_)
             refine m_done (by kernel_rfl) ?_
             have d1 : r63 ≠ r65 := by first | exact (set_none hr65).1 | exact (set_none hr63).1.symm | exact (set_none (set_none hr65).2).1 | exact (set_none (set_none hr63).2).1.symm
             have d2 : r63 ≠ r67 := by first | exact (set_none hr67).1 | exact (set_none hr63).1.symm | exact (set_none (set_none hr67).2).1 | exact (set_none (set_none hr63).2).1.symm
             have d3 : r65 ≠ r67 := by first | exact (set_none hr67).1 | exact (set_none hr65).1.symm | exact (set_none (set_none hr67).2).1 | exact (set_none (set_none hr65).2).1.symm
             have f1 : G0 r63 = none := by first | exact hr63 | exact (set_none hr63).2 | exact (set_none (set_none hr63).2).2
             have f2 : G0 r65 = none := by first | exact hr65 | exact (set_none hr65).2 | exact (set_none (set_none hr65).2).2
             have f3 : G0 r67 = none := by first | exact hr67 | exact (set_none hr67).2 | exact (set_none (set_none hr67).2).2
             refine g_wkrow (r := r65) (sz := 3) (l := List.replicate nn (.agg [.int .i64 0, .int .i64 0, .nil0])) (m := List.replicate nn (mdl 0 0 [])) (by simp [AHeap.set, d1, d2, d3, d1.symm, d2.symm, d3.symm]) (by rw [List.map_replicate]; rfl) ?_
             generalize hGw : AHeap.set _ r65 (.row 3 (List.replicate nn (mdl 0 0 []))) = Gw
             obtain ⟨h2, hS2, hL⟩ := newM (ur := r63) (hr := r65) (cr := r67) (n := nn) hS (G' := Gw) (fun b e1 e2 e3 => by subst hGw; simp [AHeap.set, e1, e2, e3]) (by subst hGw; simp [AHeap.set, d1, d2, d3, d1.symm, d2.symm, d3.symm]) (by subst hGw; simp [AHeap.set]) (by subst hGw; simp [AHeap.set, d1, d2, d3, d1.symm, d2.symm, d3.symm]) hw63 hw65 hw67 f1 f2 f3 d2
             have hsH2 : H.sub Gw := by subst hGw; exact AHeap.sub_trans hsH (fun b y hb => by have e1 : b ≠ r63 := (fun e => by rw [e, f1] at hb; cases hb); have e2 : b ≠ r65 := (fun e => by rw [e, f2] at hb; cases hb); have e3 : b ≠ r67 := (fun e => by rw [e, f3] at hb; cases hb); simpa [AHeap.set, e1, e2, e3] using hb)
             first | refine g_keep [0, 1, 2, 3, 9] [11] [11] (keep_cons rfl (keep_cons rfl (keep_cons rfl (keep_cons rfl (keep_cons rfl keep_nil))))) (lkeep_cons rfl lkeep_nil) (keep_cons rfl keep_nil) rfl ?_ | refine g_keep [0, 1, 2, 3, 9] [11] [11] rfl rfl rfl rfl ?_
             first | exact g_has ⟨r63, r65, r67, h2, rfl, rfl, rfl, ⟨hS2, hsH2, hL⟩⟩
           ·
            refine ⟨_, rfl, .inl ⟨rfl, ?_⟩⟩
            refine sm_alloc (av := (.agg [.nil0, .nil0, .nil0, .nil0])) ty85 rfl rfl rfl rfl ?_
            refine m_all (is := [1, 3]) (by kernel_rfl) rfl (fun _ _ _ => trivial) (fun i hi => ?_)
            rcases (by simpa using hi : i = 1 ∨ i = 3) with rfl | rfl
            ·
             refine ⟨_, rfl, .inl ⟨rfl, ?_⟩⟩
             refine sm_any rfl (s_makeO (n := nn) (za := (.bool false)) ty81 ty4 rfl rfl rfl rfl rfl rfl (by omega) (by omega) ?_)
             intro r63 hr63 hw63
             refine m_one 3 (by kernel_rfl) rfl rfl ?_
             refine sm_any rfl (s_makeO (n := nn) (za := (.agg [(.int .i64 0), (.int .i64 0), .nil0])) ty82 ty61 rfl rfl rfl rfl rfl rfl (by omega) (by omega) ?_)
             intro r65 hr65 hw65
             refine m_tk 6 false rfl rfl (by kernel_rfl) (v_build (vs := [(0, _), (1, _), (2, _)]) (zs := [.nil0, .nil0, .nil0, .nil0]) (cells := [_, _, _, _]) ty85 pl85 rfl rfl rfl) rfl rfl ?_
             refine m_one 8 (by kernel_rfl) rfl rfl ?_
             refine sm_any rfl (s_store_all ty85 rfl rfl rfl rfl rfl rfl ?_)
             refine m_done (by kernel_rfl) ?_
             have d1 : r63 ≠ r65 := by first | exact (set_none hr65).1 | exact (set_none hr63).1.symm | exact (set_none (set_none hr65).2).1 | exact (set_none (set_none hr63).2).1.symm
             have d2 : r63 ≠ r67 := by first | exact (set_none hr67).1 | exact (set_none hr63).1.symm | exact (set_none (set_none hr67).2).1 | exact (set_none (set_none hr63).2).1.symm
             have d3 : r65 ≠ r67 := by first | exact (set_none hr67).1 | exact (set_none hr65).1.symm | exact (set_none (set_none hr67).2).1 | exact (set_none (set_none hr65).2).1.symm
             have f1 : G0 r63 = none := by first | exact hr63 | exact (set_none hr63).2 | exact (set_none (set_none hr63).2).2
             have f2 : G0 r65 = none := by first | exact hr65 | exact (set_none hr65).2 | exact (set_none (set_none hr65).2).2
             have f3 : G0 r67 = none := by first | exact hr67 | exact (set_none hr67).2 | exact (set_none (set_none hr67).2).2
             refine g_wkrow (r := r65) (sz := 3) (l := List.replicate nn (.agg [.int .i64 0, .int .i64 0, .nil0])) (m := List.replicate nn (mdl 0 0 [])) (by simp [AHeap.set, d1, d2, d3, d1.symm, d2.symm, d3.symm]) (by rw [List.map_replicate]; rfl) ?_
             generalize hGw : AHeap.set _ r65 (.row 3 (List.replicate nn (mdl 0 0 []))) = Gw
             obtain ⟨h2, hS2, hL⟩ := newM (ur := r63) (hr := r65) (cr := r67) (n := nn) hS (G' := Gw) (fun b e1 e2 e3 => by subst hGw; simp [AHeap.set, e1, e2, e3]) (by subst hGw; simp [AHeap.set, d1, d2, d3, d1.symm, d2.symm, d3.symm]) (by subst hGw; simp [AHeap.set]) (by subst hGw; simp [AHeap.set, d1, d2, d3, d1.symm, d2.symm, d3.symm]) hw63 hw65 hw67 f1 f2 f3 d2
             have hsH2 : H.sub Gw := by subst hGw; exact AHeap.sub_trans hsH (fun b y hb => by have e1 : b ≠ r63 := (fun e => by rw [e, f1] at hb; cases hb); have e2 : b ≠ r65 := (fun e => by rw [e, f2] at hb; cases hb); have e3 : b ≠ r67 := (fun e => by rw [e, f3] at hb; cases hb); simpa [AHeap.set, e1, e2, e3] using hb)
             first | refine g_keep [0, 1, 2, 3, 9] [11] [11] (keep_cons rfl (keep_cons rfl (keep_cons rfl (keep_cons rfl (keep_cons rfl keep_nil))))) (lkeep_cons rfl lkeep_nil) (keep_cons rfl keep_nil) rfl ?_ | refine g_keep [0, 1, 2, 3, 9] [11] [11] rfl rfl rfl rfl ?_
             first | exact g_has ⟨r63, r65, r67, h2, rfl, rfl, rfl, ⟨hS2, hsH2, hL⟩⟩
            ·
             refine ⟨_, rfl, .inl ⟨rfl, ?_⟩⟩
             refine sm_any rfl (s_makeO (n := nn) (za := (.agg [(.int .i64 0), (.int .i64 0), .nil0])) ty82 ty61 rfl rfl rfl rfl rfl rfl (by omega) (by omega) ?_)
             intro r65 hr65 hw65
             refine m_one 1 (by kernel_rfl) rfl rfl ?_
             refine sm_any rfl (s_makeO (n := nn) (za := (.bool false)) ty81 ty4 rfl rfl rfl rfl rfl rfl (by omega) (by omega) ?_)
             intro r63 hr63 hw63
             refine m_tk 6 false rfl rfl (by kernel_rfl) (v_build (vs := [(0, _), (1, _), (2, _)]) (zs := [.nil0, .nil0, .nil0, .nil0]) (cells := [_, _, _, _]) ty85 pl85 rfl rfl rfl) rfl rfl ?_
             refine m_one 8 (by kernel_rfl) rfl rfl ?_
             refine sm_any rfl (s_store_all ty85 rfl rfl rfl rfl rfl rfl ?_)
             refine m_done (by kernel_rfl) ?_
             have d1 : r63 ≠ r65 := by first | exact (set_none hr65).1 | exact (set_none hr63).1.symm | exact (set_none (set_none hr65).2).1 | exact (set_none (set_none hr63).2).1.symm
             have d2 : r63 ≠ r67 := by first | exact (set_none hr67).1 | exact (set_none hr63).1.symm | exact (set_none (set_none hr67).2).1 | exact (set_none (set_none hr63).2).1.symm
             have d3 : r65 ≠ r67 := by first | exact (set_none hr67).1 | exact (set_none hr65).1.symm | exact (set_none (set_none hr67).2).1 | exact (set_none (set_none hr65).2).1.symm
             have f1 : G0 r63 = none := by first | exact hr63 | exact (set_none hr63).2 | exact (set_none (set_none hr63).2).2
             have f2 : G0 r65 = none := by first | exact hr65 | exact (set_none hr65).2 | exact (set_none (set_none hr65).2).2
             have f3 : G0 r67 = none := by first | exact hr67 | exact (set_none hr67).2 | exact (set_none (set_none hr67).2).2
             refine g_wkrow (r := r65) (sz := 3) (l := List.replicate nn (.agg [.int .i64 0, .int .i64 0, .nil0])) (m := List.replicate nn (mdl 0 0 [])) (by simp [AHeap.set, d1, d2, d3, d1.symm, d2.symm, d3.symm]) (by rw [List.map_replicate]; rfl) ?_
             generalize hGw : AHeap.set _ r65 (.row 3 (List.replicate nn (mdl 0 0 []))) = Gw
             obtain ⟨h2, hS2, hL⟩ := newM (ur := r63) (hr := r65) (cr := r67) (n := nn) hS (G' := Gw) (fun b e1 e2 e3 => by subst hGw; simp [AHeap.set, e1, e2, e3]) (by subst hGw; simp [AHeap.set, d1, d2, d3, d1.symm, d2.symm, d3.symm]) (by subst hGw; simp [AHeap.set]) (by subst hGw; simp [AHeap.set, d1, d2, d3, d1.symm, d2.symm, d3.symm]) hw63 hw65 hw67 f1 f2 f3 d2
             have hsH2 : H.sub Gw := by subst hGw; exact AHeap.sub_trans hsH (fun b y hb => by have e1 : b ≠ r63 := (fun e => by rw [e, f1] at hb; cases hb); have e2 : b ≠ r65 := (fun e => by rw [e, f2] at hb; cases hb); have e3 : b ≠ r67 := (fun e => by rw [e, f3] at hb; cases hb); simpa [AHeap.set, e1, e2, e3] using hb)
             first | refine g_keep [0, 1, 2, 3, 9] [11] [11] (keep_cons rfl (keep_cons rfl (keep_cons rfl (keep_cons rfl (keep_cons rfl keep_nil))))) (lkeep_cons rfl lkeep_nil) (keep_cons rfl keep_nil) rfl ?_ | refine g_keep [0, 1, 2, 3, 9] [11] [11] rfl rfl rfl rfl ?_
             first | exact g_has ⟨r63, r65, r67, h2, rfl, rfl, rfl, ⟨hS2, hsH2, hL⟩⟩
          ·
           refine ⟨_, rfl, .inl ⟨rfl, ?_⟩⟩
           refine sm_alloc (av := (.agg [.nil0, .nil0, .nil0, .nil0])) ty85 rfl rfl rfl rfl ?_
           refine m_all (is := [1, 3, 5]) (by kernel_rfl) rfl (fun _ _ _ => trivial) (fun i hi => ?_)
           rcases (by simpa using hi : i = 1 ∨ i = 3 ∨ i = 5) with rfl | rfl | rfl
           ·
            refine ⟨_, rfl, .inl ⟨rfl, ?_⟩⟩
            refine sm_any rfl (s_makeO (n := nn) (za := (.bool false)) ty81 ty4 rfl rfl rfl rfl rfl rfl (by omega) (by omega) ?_)
            intro r63 hr63 hw63
            refine m_all (is := [3, 5]) (by kernel_rfl) rfl (fun _ _ _ => trivial) (fun i hi => ?_)
            rcases (by simpa using hi : i = 3 ∨ i = 5) with rfl | rfl
            ·
             refine ⟨_, rfl, .inl ⟨rfl, ?_⟩⟩
             refine sm_any rfl (s_makeO (n := nn) (za := (.agg [(.int .i64 0), (.int .i64 0), .nil0])) ty82 ty61 rfl rfl rfl rfl rfl rfl (by omega) (by omega) ?_)
             intro r65 hr65 hw65
             refine m_one 5 (by kernel_rfl) rfl rfl ?_
             refine sm_any rfl (s_makeO (n := nn) (za := (.int .i64 0)) ty71 ty3 rfl rfl rfl rfl rfl rfl (by omega) (by omega) ?_)
             intro r67 hr67 hw67
             refine m_tk 6 false rfl rfl (by kernel_rfl) (v_build (vs := [(0, _), (1, _), (2, _)]) (zs := [.nil0, .nil0, .nil0, .nil0]) (cells := [_, _, _, _]) ty85 pl85 rfl rfl rfl) rfl rfl ?_
             refine m_one 8 (by kernel_rfl) rfl rfl ?_
             refine sm_any rfl (s_store_all ty85 rfl rfl rfl rfl rfl rfl ?_)
             refine m_done (by kernel_rfl) ?_
             have d1 : r63 ≠ r65 := by first | exact (set_none hr65).1 | exact (set_none hr63).1.symm | exact (set_none (set_none hr65).2).1 | exact (set_none (set_none hr63).2).1.symm
             have d2 : r63 ≠ r67 := by first | exact (set_none hr67).1 | exact (set_none hr63).1.symm | exact (set_none (set_none hr67).2).1 | exact (set_none (set_none hr63).2).1.symm
             have d3 : r65 ≠ r67 := by first | exact (set_none hr67).1 | exact (set_none hr65).1.symm | exact (set_none (set_none hr67).2).1 | exact (set_none (set_none hr65).2).1.symm
             have f1 : G0 r63 = none := by first | exact hr63 | exact (set_none hr63).2 | exact (set_none (set_none hr63).2).2
             have f2 : G0 r65 = none := by first | exact hr65 | exact (set_none hr65).2 | exact (set_none (set_none hr65).2).2
             have f3 : G0 r67 = none := by first | exact hr67 | exact (set_none hr67).2 | exact (set_none (set_none hr67).2).2
             refine g_wkrow (r := r65) (sz := 3) (l := List.replicate nn (.agg [.int .i64 0, .int .i64 0, .nil0])) (m := List.replicate nn (mdl 0 0 [])) (by simp [AHeap.set, d1, d2, d3, d1.symm, d2.symm, d3.symm]) (by rw [List.map_replicate]; rfl) ?_
             generalize hGw : AHeap.set _ r65 (.row 3 (List.replicate nn (mdl 0 0 []))) = Gw
             obtain ⟨h2, hS2, hL⟩ := newM (ur := r63) (hr := r65) (cr := r67) (n := nn) hS (G' := Gw) (fun b e1 e2 e3 => by subst hGw; simp [AHeap.set, e1, e2, e3]) (by subst hGw; simp [AHeap.set, d1, d2, d3, d1.symm, d2.symm, d3.symm]) (by subst hGw; simp [AHeap.set]) (by subst hGw; simp [AHeap.set, d1, d2, d3, d1.symm, d2.symm, d3.symm]) hw63 hw65 hw67 f1 f2 f3 d2
             have hsH2 : H.sub Gw := by subst hGw; exact AHeap.sub_trans hsH (fun b y hb => by have e1 : b ≠ r63 := (fun e => by rw [e, f1] at hb; cases hb); have e2 : b ≠ r65 := (fun e => by rw [e, f2] at hb; cases hb); have e3 : b ≠ r67 := (fun e => by rw [e, f3] at hb; cases hb); simpa [AHeap.set, e1, e2, e3] using hb)
             first | refine g_keep [0, 1, 2, 3, 9] [11] [11] (keep_cons rfl (keep_cons rfl (keep_cons rfl (keep_cons rfl (keep_cons rfl keep_nil))))) (lkeep_cons rfl lkeep_nil) (keep_cons rfl keep_nil) rfl ?_ | refine g_keep [0, 1, 2, 3, 9] [11] [11] rfl rfl rfl rfl ?_
             first | exact g_has ⟨r63, r65, r67, h2, rfl, rfl, rfl, ⟨hS2, hsH2, hL⟩⟩
            ·
             refine ⟨_, rfl, .inl ⟨rfl, ?_⟩⟩
             refine sm_any rfl (s_makeO (n := nn) (za := (.int .i64 0)) ty71 ty3 rfl rfl rfl rfl rfl rfl (by omega) (by omega) ?_)
             intro r67 hr67 hw67
             refine m_one 3 (by kernel_rfl) rfl rfl ?_
             refine sm_any rfl (s_makeO (n := nn) (za := (.agg [(.int .i64 0), (.int .i64 0), .nil0])) ty82 ty61 rfl rfl rfl rfl rfl rfl (by omega) (by omega) ?_)
             intro r65 hr65 hw65
             refine m_tk 6 false rfl rfl (by kernel_rfl) (v_build (vs := [(0, _), (1, _), (2, _)]) (zs := [.nil0, .nil0, .nil0, .nil0]) (cells := [_, _, _, _]) ty85 pl85 rfl rfl rfl) rfl rfl ?_
             refine m_one 8 (by kernel_rfl) rfl rfl ?_
             refine sm_any rfl (s_store_all ty85 rfl rfl rfl rfl rfl rfl ?_)
             refine m_done (by kernel_rfl) ?_
             have d1 : r63 ≠ r65 := by first | exact (set_none hr65).1 | exact (set_none hr63).1.symm | exact (set_none (set_none hr65).2).1 | exact (set_none (set_none hr63).2).1.symm
             have d2 : r63 ≠ r67 := by first | exact (set_none hr67).1 | exact (set_none hr63).1.symm | exact (set_none (set_none hr67).2).1 | exact (set_none (set_none hr63).2).1.symm
             have d3 : r65 ≠ r67 := by first | exact (set_none hr67).1 | exact (set_none hr65).1.symm | exact (set_none (set_none hr67).2).1 | exact (set_none (set_none hr65).2).1.symm
             have f1 : G0 r63 = none := by first | exact hr63 | exact (set_none hr63).2 | exact (set_none (set_none hr63).2).2
             have f2 : G0 r65 = none := by first | exact hr65 | exact (set_none hr65).2 | exact (set_none (set_none hr65).2).2
             have f3 : G0 r67 = none := by first | exact hr67 | exact (set_none hr67).2 | exact (set_none (set_none hr67).2).2
             refine g_wkrow (r := r65) (sz := 3) (l := List.replicate nn (.agg [.int .i64 0, .int .i64 0, .nil0])) (m := List.replicate nn (mdl 0 0 [])) (by simp [AHeap.set, d1, d2, d3, d1.symm, d2.symm, d3.symm]) (by rw [List.map_replicate]; rfl) ?_
             generalize hGw : AHeap.set _ r65 (.row 3 (List.replicate nn (mdl 0 0 []))) = Gw
             obtain ⟨h2, hS2, hL⟩ := newM (ur := r63) (hr := r65) (cr := r67) (n := nn) hS (G' := Gw) (fun b e1 e2 e3 => by subst hGw; simp [AHeap.set, e1, e2, e3]) (by subst hGw; simp [AHeap.set, d1, d2, d3, d1.symm, d2.symm, d3.symm]) (by subst hGw; simp [AHeap.set]) (by subst hGw; simp [AHeap.set, d1, d2, d3, d1.symm, d2.symm, d3.symm]) hw63 hw65 hw67 f1 f2 f3 d2
             have hsH2 : H.sub Gw := by subst hGw; exact AHeap.sub_trans hsH (fun b y hb => by have e1 : b ≠ r63 := (fun e => by rw [e, f1] at hb; cases hb); have e2 : b ≠ r65 := (fun e => by rw [e, f2] at hb; cases hb); have e3 : b ≠ r67 := (fun e => by rw [e, f3] at hb; cases hb); simpa [AHeap.set, e1, e2, e3] using hb)
             first | refine g_keep [0, 1, 2, 3, 9] [11] [11] (keep_cons rfl (keep_cons rfl (keep_cons rfl (keep_cons rfl (keep_cons rfl keep_nil))))) (lkeep_cons rfl lkeep_nil) (keep_cons rfl keep_nil) rfl ?_ | refine g_keep [0, 1, 2, 3, 9] [11] [11] rfl rfl rfl rfl ?_
             first | exact g_has ⟨r63, r65, r67, h2, rfl, rfl, rfl, ⟨hS2, hsH2, hL⟩⟩
           ·
            refine ⟨_, rfl, .inl ⟨rfl, ?_⟩⟩
            refine sm_any rfl (s_makeO (n := nn) (za := (.agg [(.int .i64 0), (.int .i64 0), .nil0])) ty82 ty61 rfl rfl rfl rfl rfl rfl (by omega) (by omega) ?_)
            intro r65 hr65 hw65
            refine m_all (is := [1, 5]) (by kernel_rfl) rfl (fun _ _ _ => trivial) (fun i hi => ?_)
            rcases (by simpa using hi : i = 1 ∨ i = 5) with rfl | rfl
            ·
             refine ⟨_, rfl, .inl ⟨rfl, ?_⟩⟩
             refine sm_any rfl (s_makeO (n := nn) (za := (.bool false)) ty81 ty4 rfl rfl rfl rfl rfl rfl (by omega) (by omega) ?_)
             intro r63 hr63 hw63
             refine m_one 5 (by kernel_rfl) rfl rfl ?_
             refine sm_any rfl (s_makeO (n := nn) (za := (.int .i64 0)) ty71 ty3 rfl rfl rfl rfl rfl rfl (by omega) (by omega) ?_)
             intro r67 hr67 hw67
             refine m_tk 6 false rfl rfl (by kernel_rfl) (v_build (vs := [(0, _), (1, _), (2, _)]) (zs := [.nil0, .nil0, .nil0, .nil0]) (cells := [_, _, _, _]) ty85 pl85 rfl rfl rfl) rfl rfl ?_
             refine m_one 8 (by kernel_rfl) rfl rfl ?_
             refine sm_any rfl (s_store_all ty85 rfl rfl rfl rfl rfl rfl ?_)
             refine m_done (by kernel_rfl) ?_
             have d1 : r63 ≠ r65 := by first | exact (set_none hr65).1 | exact (set_none hr63).1.symm | exact (set_none (set_none hr65).2).1 | exact (set_none (set_none hr63).2).1.symm
             have d2 : r63 ≠ r67 := by first | exact (set_none hr67).1 | exact (set_none hr63).1.symm | exact (set_none (set_none hr67).2).1 | exact (set_none (set_none hr63).2).1.symm
             have d3 : r65 ≠ r67 := by first | exact (set_none hr67).1 | exact (set_none hr65).1.symm | exact (set_none (set_none hr67).2).1 | exact (set_none (set_none hr65).2).1.symm
             have f1 : G0 r63 = none := by first | exact hr63 | exact (set_none hr63).2 | exact (set_none (set_none hr63).2).2
             have f2 : G0 r65 = none := by first | exact hr65 | exact (set_none hr65).2 | exact (set_none (set_none hr65).2).2
             have f3 : G0 r67 = none := by first | exact hr67 | exact (set_none hr67).2 | exact (set_none (set_none hr67).2).2
             refine g_wkrow (r := r65) (sz := 3) (l := List.replicate nn (.agg [.int .i64 0, .int .i64 0, .nil0])) (m := List.replicate nn (mdl 0 0 [])) (by simp [AHeap.set, d1, d2, d3, d1.symm, d2.symm, d3.symm]) (by rw [List.map_replicate]; rfl) ?_
             generalize hGw : AHeap.set _ r65 (.row 3 (List.replicate nn (mdl 0 0 []))) = Gw
             obtain ⟨h2, hS2, hL⟩ := newM (ur := r63) (hr := r65) (cr := r67) (n := nn) hS (G' := Gw) (fun b e1 e2 e3 => by subst hGw; simp [AHeap.set, e1, e2, e3]) (by subst hGw; simp [AHeap.set, d1, d2, d3, d1.symm, d2.symm, d3.symm]) (by subst hGw; simp [AHeap.set]) (by subst hGw; simp [AHeap.set, d1, d2, d3, d1.symm, d2.symm, d3.symm]) hw63 hw65 hw67 f1 f2 f3 d2
             have hsH2 : H.sub Gw := by subst hGw; exact AHeap.sub_trans hsH (fun b y hb => by have e1 : b ≠ r63 := (fun e => by rw [e, f1] at hb; cases hb); have e2 : b ≠ r65 := (fun e => by rw [e, f2] at hb; cases hb); have e3 : b ≠ r67 := (fun e => by rw [e, f3] at hb; cases hb); simpa [AHeap.set, e1, e2, e3] using hb)
             first | refine g_keep [0, 1, 2, 3, 9] [11] [11] (keep_cons rfl (keep_cons rfl (keep_cons rfl (keep_cons rfl (keep_cons rfl keep_nil))))) (lkeep_cons rfl lkeep_nil) (keep_cons rfl keep_nil) rfl ?_ | refine g_keep [0, 1, 2, 3, 9] [11] [11] rfl rfl rfl rfl ?_
             first | exact g_has ⟨r63, r65, r67, h2, rfl, rfl, rfl, ⟨hS2, hsH2, hL⟩⟩
            ·
             refine ⟨_, rfl, .inl ⟨rfl, ?_⟩⟩
             refine sm_any rfl (s_makeO (n := nn) (za := (.int .i64 0)) ty71 ty3 rfl rfl rfl rfl rfl rfl (by omega) (by omega) ?_)
             intro r67 hr67 hw67
             refine m_one 1 (by kernel_rfl) rfl rfl ?_
             refine sm_any rfl (s_makeO (n := nn) (za := (.bool false)) ty81 ty4 rfl rfl rfl rfl rfl rfl (by omega) (by omega) ?_)
             intro r63 hr63 hw63
             refine m_tk 6 false rfl rfl (by kernel_rfl) (v_build (vs := [(0, _), (1, _), (2, _)]) (zs := [.nil0, .nil0, .nil0, .nil0]) (cells := [_, _, _, _]) ty85 pl85 rfl rfl rfl) rfl rfl ?_
             refine m_one 8 (by kernel_rfl) rfl rfl ?_
             refine sm_any rfl (s_store_all ty85 rfl rfl rfl rfl rfl rfl ?_)
             refine m_done (by kernel_rfl) ?_
             have d1 : r63 ≠ r65 := by first | exact (set_none hr65).1 | exact (set_none hr63).1.symm | exact (set_none (set_none hr65).2).1 | exact (set_none (set_none hr63).2).1.symm
             have d2 : r63 ≠ r67 := by first | exact (set_none hr67).1 | exact (set_none hr63).1.symm | exact (set_none (set_none hr67).2).1 | exact (set_none (set_none hr63).2).1.symm
             have d3 : r65 ≠ r67 := by first | exact (set_none hr67).1 | exact (set_none hr65).1.symm | exact (set_none (set_none hr67).2).1 | exact (set_none (set_none hr65).2).1.symm
             have f1 : G0 r63 = none := by first | exact hr63 | exact (set_none hr63).2 | exact (set_none (set_none hr63).2).2
             have f2 : G0 r65 = none := by first | exact hr65 | exact (set_none hr65).2 | exact (set_none (set_none hr65).2).2
             have f3 : G0 r67 = none := by first | exact hr67 | exact (set_none hr67).2 | exact (set_none (set_none hr67).2).2
             refine g_wkrow (r := r65) (sz := 3) (l := List.replicate nn (.agg [.int .i64 0, .int .i64 0, .nil0])) (m := List.replicate nn (mdl 0 0 [])) (by simp [AHeap.set, d1, d2, d3, d1.symm, d2.symm, d3.symm]) (by rw [List.map_replicate]; rfl) ?_
             generalize hGw : AHeap.set _ r65 (.row 3 (List.replicate nn (mdl 0 0 []))) = Gw
             obtain ⟨h2, hS2, hL⟩ := newM (ur := r63) (hr := r65) (cr := r67) (n := nn) hS (G' := Gw) (fun b e1 e2 e3 => by subst hGw; simp [AHeap.set, e1, e2, e3]) (by subst hGw; simp [AHeap.set, d1, d2, d3, d1.symm, d2.symm, d3.symm]) (by subst hGw; simp [AHeap.set]) (by subst hGw; simp [AHeap.set, d1, d2, d3, d1.symm, d2.symm, d3.symm]) hw63 hw65 hw67 f1 f2 f3 d2
             have hsH2 : H.sub Gw := by subst hGw; exact AHeap.sub_trans hsH (fun b y hb => by have e1 : b ≠ r63 := (fun e => by rw [e, f1] at hb; cases hb); have e2 : b ≠ r65 := (fun e => by rw [e, f2] at hb; cases hb); have e3 : b ≠ r67 := (fun e => by rw [e, f3] at hb; cases hb); simpa [AHeap.set, e1, e2, e3] using hb)
             first | refine g_keep [0, 1, 2, 3, 9] [11] [11] (keep_cons rfl (keep_cons rfl (keep_cons rfl (keep_cons rfl (keep_cons rfl keep_nil))))) (lkeep_cons rfl lkeep_nil) (keep_cons rfl keep_nil) rfl ?_ | refine g_keep [0, 1, 2, 3, 9] [11] [11] rfl rfl rfl rfl ?_
             first | exact g_has ⟨r63, r65, r67, h2, rfl, rfl, rfl, ⟨hS2, hsH2, hL⟩⟩
           ·
            refine ⟨_, rfl, .inl ⟨rfl, ?_⟩⟩
            refine sm_any rfl (s_makeO (n := nn) (za := (.int .i64 0)) ty71 ty3 rfl rfl rfl rfl rfl rfl (by omega) (by omega) ?_)
            intro r67 hr67 hw67
            refine m_all (is := [1, 3]) (by kernel_rfl) rfl (fun _ _ _ => trivial) (fun i hi => ?_)
            rcases (by simpa using hi : i = 1 ∨ i = 3) with rfl | rfl
            ·
             refine ⟨_, rfl, .inl ⟨rfl, ?_⟩⟩
             refine sm_any rfl (s_makeO (n := nn) (za := (.bool false)) ty81 ty4 rfl rfl rfl rfl rfl rfl (by omega) (by omega) ?_)
             intro r63 hr63 hw63
             refine m_one 3 (by kernel_rfl) rfl rfl ?_
             refine sm_any rfl (s_makeO (n := nn) (za := (.agg [(.int .i64 0), (.int .i64 0), .nil0])) ty82 ty61 rfl rfl rfl rfl rfl rfl (by omega) (by omega) ?_)
             intro r65 hr65 hw65
             refine m_tk 6 false rfl rfl (by kernel_rfl) (v_build (vs := [(0, _), (1, _), (2, _)]) (zs := [.nil0, .nil0, .nil0, .nil0]) (cells := [_, _, _, _]) ty85 pl85 rfl rfl rfl) rfl rfl ?_
             refine m_one 8 (by kernel_rfl) rfl rfl ?_
             refine sm_any rfl (s_store_all ty85 rfl rfl rfl rfl rfl rfl ?_)
             refine m_done (by kernel_rfl) ?_
             have d1 : r63 ≠ r65 := by first | exact (set_none hr65).1 | exact (set_none hr63).1.symm | exact (set_none (set_none hr65).2).1 | exact (set_none (set_none hr63).2).1.symm
             have d2 : r63 ≠ r67 := by first | exact (set_none hr67).1 | exact (set_none hr63).1.symm | exact (set_none (set_none hr67).2).1 | exact (set_none (set_none hr63).2).1.symm
             have d3 : r65 ≠ r67 := by first | exact (set_none hr67).1 | exact (set_none hr65).1.symm | exact (set_none (set_none hr67).2).1 | exact (set_none (set_none hr65).2).1.symm
             have f1 : G0 r63 = none := by first | exact hr63 | exact (set_none hr63).2 | exact (set_none (set_none hr63).2).2
             have f2 : G0 r65 = none := by first | exact hr65 | exact (set_none hr65).2 | exact (set_none (set_none hr65).2).2
             have f3 : G0 r67 = none := by first | exact hr67 | exact (set_none hr67).2 | exact (set_none (set_none hr67).2).2
             refine g_wkrow (r := r65) (sz := 3) (l := List.replicate nn (.agg [.int .i64 0, .int .i64 0, .nil0])) (m := List.replicate nn (mdl 0 0 [])) (by simp [AHeap.set, d1, d2, d3, d1.symm, d2.symm, d3.symm]) (by rw [List.map_replicate]; rfl) ?_
             generalize hGw : AHeap.set _ r65 (.row 3 (List.replicate nn (mdl 0 0 []))) = Gw
             obtain ⟨h2, hS2, hL⟩ := newM (ur := r63) (hr := r65) (cr := r67) (n := nn) hS (G' := Gw) (fun b e1 e2 e3 => by subst hGw; simp [AHeap.set, e1, e2, e3]) (by subst hGw; simp [AHeap.set, d1, d2, d3, d1.symm, d2.symm, d3.symm]) (by subst hGw; simp [AHeap.set]) (by subst hGw; simp [AHeap.set, d1, d2, d3, d1.symm, d2.symm, d3.symm]) hw63 hw65 hw67 f1 f2 f3 d2
             have hsH2 : H.sub Gw := by subst hGw; exact AHeap.sub_trans hsH (fun b y hb => by have e1 : b ≠ r63 := (fun e => by rw [e, f1] at hb; cases hb); have e2 : b ≠ r65 := (fun e => by rw [e, f2] at hb; cases hb); have e3 : b ≠ r67 := (fun e => by rw [e, f3] at hb; cases hb); simpa [AHeap.set, e1, e2, e3] using hb)
             first | refine g_keep [0, 1, 2, 3, 9] [11] [11] (keep_cons rfl (keep_cons rfl (keep_cons rfl (keep_cons rfl (keep_cons rfl keep_nil))))) (lkeep_cons rfl lkeep_nil) (keep_cons rfl keep_nil) rfl ?_ | refine g_keep [0, 1, 2, 3, 9] [11] [11] rfl rfl rfl rfl ?_
             first | exact g_has ⟨r63, r65, r67, h2, rfl, rfl, rfl, ⟨hS2, hsH2, hL⟩⟩
            ·
             refine ⟨_, rfl, .inl ⟨rfl, ?_⟩⟩
             refine sm_any rfl (s_makeO (n := nn) (za := (.agg [(.int .i64 0), (.int .i64 0), .nil0])) ty82 ty61 rfl rfl rfl rfl rfl rfl (by omega) (by omega) ?_)
             intro r65 hr65 hw65
             refine m_one 1 (by kernel_rfl) rfl rfl ?_
             refine sm_any rfl (s_makeO (n := nn) (za := (.bool false)) ty81 ty4 rfl rfl rfl rfl rfl rfl (by omega) (by omega) ?_)
             intro r63 hr63 hw63
             refine m_tk 6 false rfl rfl (by kernel_rfl) (v_build (vs := [(0, _), (1, _), (2, _)]) (zs := [.nil0, .nil0, .nil0, .nil0]) (cells := [_, _, _, _]) ty85 pl85 rfl rfl rfl) rfl rfl ?_
             refine m_one 8 (by kernel_rfl) rfl rfl ?_
             refine sm_any rfl (s_store_all ty85 rfl rfl rfl rfl rfl rfl ?_)
             refine m_done (by kernel_rfl) ?_
             have d1 : r63 ≠ r65 := by first | exact (set_none hr65).1 | exact (set_none hr63).1.symm | exact (set_none (set_none hr65).2).1 | exact (set_none (set_none hr63).2).1.symm
             have d2 : r63 ≠ r67 := by first | exact (set_none hr67).1 | exact (set_none hr63).1.symm | exact (set_none (set_none hr67).2).1 | exact (set_none (set_none hr63).2).1.symm
             have d3 : r65 ≠ r67 := by first | exact (set_none hr67).1 | exact (set_none hr65).1.symm | exact (set_none (set_none hr67).2).1 | exact (set_none (set_none hr65).2).1.symm
             have f1 : G0 r63 = none := by first | exact hr63 | exact (set_none hr63).2 | exact (set_none (set_none hr63).2).2
             have f2 : G0 r65 = none := by first | exact hr65 | exact (set_none hr65).2 | exact (set_none (set_none hr65).2).2
             have f3 : G0 r67 = none := by first | exact hr67 | exact (set_none hr67).2 | exact (set_none (set_none hr67).2).2
             refine g_wkrow (r := r65) (sz := 3) (l := List.replicate nn (.agg [.int .i64 0, .int .i64 0, .nil0])) (m := List.replicate nn (mdl 0 0 [])) (by simp [AHeap.set, d1, d2, d3, d1.symm, d2.symm, d3.symm]) (by rw [List.map_replicate]; rfl) ?_
             generalize hGw : AHeap.set _ r65 (.row 3 (List.replicate nn (mdl 0 0 []))) = Gw
             obtain ⟨h2, hS2, hL⟩ := newM (ur := r63) (hr := r65) (cr := r67) (n := nn) hS (G' := Gw) (fun b e1 e2 e3 => by subst hGw; simp [AHeap.set, e1, e2, e3]) (by subst hGw; simp [AHeap.set, d1, d2, d3, d1.symm, d2.symm, d3.symm]) (by subst hGw; simp [AHeap.set]) (by subst hGw; simp [AHeap.set, d1, d2, d3, d1.symm, d2.symm, d3.symm]) hw63 hw65 hw67 f1 f2 f3 d2
             have hsH2 : H.sub Gw := by subst hGw; exact AHeap.sub_trans hsH (fun b y hb => by have e1 : b ≠ r63 := (fun e => by rw [e, f1] at hb; cases hb); have e2 : b ≠ r65 := (fun e => by rw [e, f2] at hb; cases hb); have e3 : b ≠ r67 := (fun e => by rw [e, f3] at hb; cases hb); simpa [AHeap.set, e1, e2, e3] using hb)
             first | refine g_keep [0, 1, 2, 3, 9] [11] [11] (keep_cons rfl (keep_cons rfl (keep_cons rfl (keep_cons rfl (keep_cons rfl keep_nil))))) (lkeep_cons rfl lkeep_nil) (keep_cons rfl keep_nil) rfl ?_ | refine g_keep [0, 1, 2, 3, 9] [11] [11] rfl rfl rfl rfl ?_
             first | exact g_has ⟨r63, r65, r67, h2, rfl, rfl, rfl, ⟨hS2, hsH2, hL⟩⟩
         ·
          obtain ⟨ur, hr, cr, h2, rfl, rfl, rfl, hS, hsH, hL⟩ := hI
          refine g_seq (fun K15 hK15 => ?_)
          refine g_seq (fun K16 hK16 => ?_)
          refine g_region ?_
          refine g_step rfl (s_val (v_assign rfl) rfl rfl ?_)
          refine g_nil ?_
          refine g_next hK16 ?_
          refine g_block ?_
          first | refine g_keep [0, 1, 2, 3, 9, 12] [11] [11] (keep_cons rfl (keep_cons rfl (keep_cons rfl (keep_cons rfl (keep_cons rfl (keep_cons rfl keep_nil)))))) (lkeep_cons rfl lkeep_nil) (keep_cons rfl keep_nil) rfl ?_ | refine g_keep [0, 1, 2, 3, 9, 12] [11] [11] rfl rfl rfl rfl ?_
          refine g_loop (fun n env L B G => ∃ (k : Nat) (s : Wd) (m : LM) (av : AV) (h1 h2 : AHeap), k ≤ l.length ∧ n = l.length - k ∧ env = [(0, .int .i64 (nn : Int)), (1, .int .i64 room), (2, .imm (l.map encMv)), (3, .int .i64 no), (9, .box d 0), (12, .int .i64 (k : Int))] ∧ L = [(11, 11, 0)] ∧ B = [(11, (mdA ur hr cr nn av))] ∧ Sep w0.heap.size G [h1, h2] ∧ H.sub G ∧ WIs lmRow h1 d room s ∧ WOk room s ∧ LA h2 ur hr cr av m ∧ MRel room s m ∧ s.tl.length = nn ∧ m.post.length ≤ k) (l.length) ⟨0, ⟨List.replicate nn none, List.replicate nn 0, []⟩, ⟨List.replicate nn false, List.replicate nn (0, 0, []), List.replicate nn 0, []⟩, .nil0, h1, h2, Nat.zero_le _, rfl, rfl, rfl, rfl, ⟨hS, hsH, hI, hok, hL, MRel.zero room nn, List.length_replicate .., Nat.le_refl 0⟩⟩ (fun n env L B G hI => ?_)
          obtain ⟨k, s, m, av, h1, h2, hk, rfl, rfl, rfl, rfl, hS, hsH, hI, hok, hL, hR, hlen, hpl⟩ := hI
          refine g_seq (fun K17 hK17 => ?_)
          refine g_seq (fun K18 hK18 => ?_)
          refine g_region ?_
          refine g_step rfl (s_val (v_move rfl) rfl rfl ?_)
          refine g_step rfl (s_val (v_move rfl) rfl rfl ?_)
          refine g_step rfl (s_val (v_len ty76 rfl (by first | rfl | assumption) (by first | exact List.length_map .. | rfl)) rfl rfl ?_)
          refine g_step rfl (s_val (v_lss rfl rfl) rfl rfl ?_)
          refine g_nil ?_
          refine g_next hK18 ?_
          refine g_cond rfl (fun hc72 => ?_) (fun hc72 => ?_)
          ·
           try simp only [NM] at hc72
           obtain ⟨x, hx⟩ := get_some (l := l) (k := k) (by omega)
           obtain ⟨hxn', hxs⟩ := hfew x (mem_get hx)
           have hxn : x.recs.length ≤ 1000 := by omega
           refine g_skip ?_
           refine g_next hK17 ?_
           refine g_seq (fun K19 hK19 => ?_)
           refine g_block ?_
           refine g_seq (fun K20 hK20 => ?_)
           refine g_region ?_
           refine g_step rfl (s_val (v_move rfl) rfl rfl ?_)
           refine g_step rfl (s_val (v_move rfl) rfl rfl ?_)
           refine g_step rfl (s_val (v_indexAddr ty76 ty87 rfl rfl (by first | rfl | assumption) (by first | rfl | exact (rfl : (0 : Int) = ((0 : Nat) : Int)) | exact (Int.toNat_of_nonneg (by omega)).symm) (map_get hx) rfl) rfl rfl ?_)
           refine g_step rfl (s_val (by first | exact v_load_elt ty87 rfl rfl (by first | rfl | assumption) (map_get hx) rfl rfl | exact v_load_box_all ty87 rfl rfl (by assumption) rfl rfl | exact v_load_part (cs := [_, _, _, _, _, _]) ty87 rfl rfl (by first | rfl | assumption) (map_get hx) rfl rfl rfl | exact v_load_box_part (cs := [_, _, _, _, _, _]) ty87 rfl rfl (by assumption) rfl rfl rfl) rfl rfl ?_)
           refine g_step rfl (s_alloc (av := (.agg [(.int .i64 0), (.int .i64 0), (.int .i64 0), (.int .i64 0), (.int .i64 0), .nil0])) ty87 rfl rfl rfl rfl ?_)
           refine g_step rfl (s_store_all ty87 rfl rfl rfl rfl rfl rfl ?_)
           refine g_nil ?_
           refine g_next hK20 ?_
           refine g_seq (fun K21 hK21 => ?_)
           refine g_region ?_
           refine g_step rfl (s_val (v_move rfl) rfl rfl ?_)
           refine g_step rfl (s_val (by first | exact v_loadl_all ty87 rfl rfl rfl rfl rfl | exact v_loadl_part (cs := [_, _, _, _, _, _]) ty87 rfl rfl rfl rfl rfl rfl) rfl rfl ?_)
           refine g_step rfl (s_call rfl rfl rfl (wDo_ok h1 d room s x _ hI (hS.1 h1 (by simp)).1 hok hxn hxs h1r h48) (fun b hb => .inr ((hS.1 h1 (by simp)).2 b hb)) ?_)
           rintro n1 _ effs1 hn1 hdom1 ⟨rfl, h3, hE, hI2⟩ hok1
           have hS2 := hS.turn (l1 := []) hE hn1 hdom1
           have hsH2 := hE.frame hdom1 hsH (fun b hb => hw0 b ((hS.1 h1 (by simp)).2 b hb))
           generalize setAll _ effs1 = G2 at hS2 hsH2 ⊢
           refine g_step rfl (s_val (v_assign rfl) rfl rfl ?_)
           refine g_nil ?_
           refine g_next hK21 ?_
           refine g_seq (fun K22 hK22 => ?_)
           refine g_seq (fun K23 hK23 => ?_)
           refine g_region ?_
           refine g_step rfl (s_fieldAddr ty87 fo87_0 ty3 rfl rfl ?_)
           refine g_step rfl (s_val (v_loadl ty3 rfl rfl rfl rfl) rfl rfl ?_)
           refine g_step rfl (s_val (v_lss rfl rfl) rfl rfl ?_)
           refine g_step rfl (s_val (v_move rfl) rfl rfl ?_)
           refine g_split 85 rfl (fun hg85 => ?_) (fun hg85 => ?_)
           ·
            try simp only [NM] at hg85
            refine g_step_no (j := 3) (t := 85) rfl rfl rfl rfl rfl rfl rfl ?_
            refine g_step_no (j := 3) (t := 85) rfl rfl rfl rfl rfl rfl rfl ?_
            refine g_step_no (j := 3) (t := 85) rfl rfl rfl rfl rfl rfl rfl ?_
            refine g_step rfl (s_val (v_pick_t rfl rfl) rfl rfl ?_)
            refine g_step rfl (s_val (v_move rfl) rfl rfl ?_)
            refine g_step_no (j := 8) (t := 90) rfl rfl rfl rfl rfl rfl rfl ?_
            refine g_step_no (j := 8) (t := 90) rfl rfl rfl rfl rfl rfl rfl ?_
            refine g_step_no (j := 8) (t := 90) rfl rfl rfl rfl rfl rfl rfl ?_
            refine g_step rfl (s_val (v_pick_t rfl rfl) rfl rfl ?_)
            refine g_step rfl (s_val (v_move rfl) rfl rfl ?_)
            refine g_step_no (j := 13) (t := 95) rfl rfl rfl rfl rfl rfl rfl ?_
            refine g_step_no (j := 13) (t := 95) rfl rfl rfl rfl rfl rfl rfl ?_
            refine g_step_no (j := 13) (t := 95) rfl rfl rfl rfl rfl rfl rfl ?_
            refine g_step_no (j := 13) (t := 95) rfl rfl rfl rfl rfl rfl rfl ?_
            refine g_step rfl (s_val (v_pick_t rfl rfl) rfl rfl ?_)
            refine g_nil ?_
            refine g_next hK23 ?_
            first | refine g_keep [0, 1, 2, 3, 9, 12, 14, 100] [11, 13] [11, 13] (keep_cons rfl (keep_cons rfl (keep_cons rfl (keep_cons rfl (keep_cons rfl (keep_cons rfl (keep_cons rfl (keep_cons rfl keep_nil)))))))) (lkeep_cons rfl (lkeep_cons rfl lkeep_nil)) (keep_cons rfl (keep_cons rfl keep_nil)) rfl ?_ | refine g_keep [0, 1, 2, 3, 9, 12, 14, 100] [11, 13] [11, 13] rfl rfl rfl rfl ?_
            refine g_cond rfl (fun _ => ?_) (fun h => by cases h)
            refine g_seq (fun K24 hK24 => ?_)
            refine g_seq (fun K25 hK25 => ?_)
            refine g_region ?_
            have hbad : DoW room s x = (s, 1) := DoW_bad (by first | omega | (simp_all; omega))
            refine g_step rfl (s_val (v_move rfl) rfl rfl ?_)
            refine g_step rfl (s_val (v_neq rfl rfl) rfl rfl ?_)
            refine g_nil ?_
            refine g_next hK25 ?_
            refine g_cond rfl (fun hc102 => ?_) (fun hc102 => ?_)
            · exfalso; (try simp only [NM] at hc102); rw [hbad] at hc102; first | exact hc102 rfl | (simp at hc102; done)
            ·
             try simp only [NM] at hc102
             refine g_skip ?_
             refine g_next hK24 ?_
             refine g_exit ?_
             refine g_then_exit ?_
             refine g_block_same ?_
             refine g_next hK19 ?_
             refine g_region ?_
             refine g_step rfl (s_val (v_move rfl) rfl rfl ?_)
             refine g_step rfl (s_val (v_add rfl rfl (by omega)) rfl rfl ?_)
             refine g_step rfl (s_val (v_assign rfl) rfl rfl ?_)
             refine g_nil ?_
             first | refine g_keep [0, 1, 2, 3, 9, 12] [11] [11] (keep_cons rfl (keep_cons rfl (keep_cons rfl (keep_cons rfl (keep_cons rfl (keep_cons rfl keep_nil)))))) (lkeep_cons rfl lkeep_nil) (keep_cons rfl keep_nil) rfl ?_ | refine g_keep [0, 1, 2, 3, 9, 12] [11] [11] rfl rfl rfl rfl ?_
             first | exact g_round _ (by omega) ⟨k + 1, s3, m3, av3, h3, h5, by omega, rfl, rfl, rfl, rfl, ⟨hS4, hsH4, hI3, hok2, hL3, hR2, hlen, hpl3⟩⟩ | exact g_round _ (by omega) ⟨k + 1, s, m, av, h3, h2, by omega, rfl, rfl, rfl, rfl, ⟨hS2, hsH2, by rw [hbad] at hI2; exact hI2, hok, hL, hR, hlen, by omega⟩⟩
           ·
            try simp only [NM] at hg85
            refine g_step_yes (j := 3) (t := 85) rfl rfl rfl rfl (s_fieldAddr ty87 fo87_0 ty3 rfl rfl ?_)
            refine g_step_yes (j := 3) (t := 85) rfl rfl rfl rfl (s_val (v_loadl ty3 rfl rfl rfl rfl) rfl rfl ?_)
            refine g_step_yes (j := 3) (t := 85) rfl rfl rfl rfl (s_val (v_gtr rfl rfl) rfl rfl ?_)
            refine g_step rfl (s_val (v_pick_f rfl rfl) rfl rfl ?_)
            refine g_step rfl (s_val (v_move rfl) rfl rfl ?_)
            refine g_split 90 rfl (fun hg90 => ?_) (fun hg90 => ?_)
            ·
             try simp only [NM] at hg90
             refine g_step_no (j := 8) (t := 90) rfl rfl rfl rfl rfl rfl rfl ?_
             refine g_step_no (j := 8) (t := 90) rfl rfl rfl rfl rfl rfl rfl ?_
             refine g_step_no (j := 8) (t := 90) rfl rfl rfl rfl rfl rfl rfl ?_
             refine g_step rfl (s_val (v_pick_t rfl rfl) rfl rfl ?_)
             refine g_step rfl (s_val (v_move rfl) rfl rfl ?_)
             refine g_step_no (j := 13) (t := 95) rfl rfl rfl rfl rfl rfl rfl ?_
             refine g_step_no (j := 13) (t := 95) rfl rfl rfl rfl rfl rfl rfl ?_
             refine g_step_no (j := 13) (t := 95) rfl rfl rfl rfl rfl rfl rfl ?_
             refine g_step_no (j := 13) (t := 95) rfl rfl rfl rfl rfl rfl rfl ?_
             refine g_step rfl (s_val (v_pick_t rfl rfl) rfl rfl ?_)
             refine g_nil ?_
             refine g_next hK23 ?_
             first | refine g_keep [0, 1, 2, 3, 9, 12, 14, 100] [11, 13] [11, 13] (keep_cons rfl (keep_cons rfl (keep_cons rfl (keep_cons rfl (keep_cons rfl (keep_cons rfl (keep_cons rfl (keep_cons rfl keep_nil)))))))) (lkeep_cons rfl (lkeep_cons rfl lkeep_nil)) (keep_cons rfl (keep_cons rfl keep_nil)) rfl ?_ | refine g_keep [0, 1, 2, 3, 9, 12, 14, 100] [11, 13] [11, 13] rfl rfl rfl rfl ?_
             refine g_cond rfl (fun _ => ?_) (fun h => by cases h)
             refine g_seq (fun K26 hK26 => ?_)
             refine g_seq (fun K27 hK27 => ?_)
             refine g_region ?_
             have hbad : DoW room s x = (s, 1) := DoW_bad (by first | omega | (simp_all; omega))
             refine g_step rfl (s_val (v_move rfl) rfl rfl ?_)
             refine g_step rfl (s_val (v_neq rfl rfl) rfl rfl ?_)
             refine g_nil ?_
             refine g_next hK27 ?_
             refine g_cond rfl (fun hc102 => ?_) (fun hc102 => ?_)
             · exfalso; (try simp only [NM] at hc102); rw [hbad] at hc102; first | exact hc102 rfl | (simp at hc102; done)
             ·
              try simp only [NM] at hc102
              refine g_skip ?_
              refine g_next hK26 ?_
              refine g_exit ?_
              refine g_then_exit ?_
              refine g_block_same ?_
              refine g_next hK19 ?_
              refine g_region ?_
              refine g_step rfl (s_val (v_move rfl) rfl rfl ?_)
              refine g_step rfl (s_val (v_add rfl rfl (by omega)) rfl rfl ?_)
              refine g_step rfl (s_val (v_assign rfl) rfl rfl ?_)
              refine g_nil ?_
              first | refine g_keep [0, 1, 2, 3, 9, 12] [11] [11] (keep_cons rfl (keep_cons rfl (keep_cons rfl (keep_cons rfl (keep_cons rfl (keep_cons rfl keep_nil)))))) (lkeep_cons rfl lkeep_nil) (keep_cons rfl keep_nil) rfl ?_ | refine g_keep [0, 1, 2, 3, 9, 12] [11] [11] rfl rfl rfl rfl ?_
              first | exact g_round _ (by omega) ⟨k + 1, s3, m3, av3, h3, h5, by omega, rfl, rfl, rfl, rfl, ⟨hS4, hsH4, hI3, hok2, hL3, hR2, hlen, hpl3⟩⟩ | exact g_round _ (by omega) ⟨k + 1, s, m, av, h3, h2, by omega, rfl, rfl, rfl, rfl, ⟨hS2, hsH2, by rw [hbad] at hI2; exact hI2, hok, hL, hR, hlen, by omega⟩⟩
            ·
             try simp only [NM] at hg90
             refine g_step_yes (j := 8) (t := 90) rfl rfl rfl rfl (s_fieldAddr ty87 fo87_1 ty3 rfl rfl ?_)
             refine g_step_yes (j := 8) (t := 90) rfl rfl rfl rfl (s_val (v_loadl ty3 rfl rfl rfl rfl) rfl rfl ?_)
             refine g_step_yes (j := 8) (t := 90) rfl rfl rfl rfl (s_val (v_lss rfl rfl) rfl rfl ?_)
             refine g_step rfl (s_val (v_pick_f rfl rfl) rfl rfl ?_)
             refine g_step rfl (s_val (v_move rfl) rfl rfl ?_)
             refine g_split 95 rfl (fun hg95 => ?_) (fun hg95 => ?_)
             ·
              try simp only [NM] at hg95
              refine g_step_no (j := 13) (t := 95) rfl rfl rfl rfl rfl rfl rfl ?_
              refine g_step_no (j := 13) (t := 95) rfl rfl rfl rfl rfl rfl rfl ?_
              refine g_step_no (j := 13) (t := 95) rfl rfl rfl rfl rfl rfl rfl ?_
              refine g_step_no (j := 13) (t := 95) rfl rfl rfl rfl rfl rfl rfl ?_
              refine g_step rfl (s_val (v_pick_t rfl rfl) rfl rfl ?_)
              refine g_nil ?_
              refine g_next hK23 ?_
              first | refine g_keep [0, 1, 2, 3, 9, 12, 14, 100] [11, 13] [11, 13] (keep_cons rfl (keep_cons rfl (keep_cons rfl (keep_cons rfl (keep_cons rfl (keep_cons rfl (keep_cons rfl (keep_cons rfl keep_nil)))))))) (lkeep_cons rfl (lkeep_cons rfl lkeep_nil)) (keep_cons rfl (keep_cons rfl keep_nil)) rfl ?_ | refine g_keep [0, 1, 2, 3, 9, 12, 14, 100] [11, 13] [11, 13] rfl rfl rfl rfl ?_
              refine g_cond rfl (fun _ => ?_) (fun h => by cases h)
              refine g_seq (fun K28 hK28 => ?_)
              refine g_seq (fun K29 hK29 => ?_)
              refine g_region ?_
              have hbad : DoW room s x = (s, 1) := DoW_bad (by first | omega | (simp_all; omega))
              refine g_step rfl (s_val (v_move rfl) rfl rfl ?_)
              refine g_step rfl (s_val (v_neq rfl rfl) rfl rfl ?_)
              refine g_nil ?_
              refine g_next hK29 ?_
              refine g_cond rfl (fun hc102 => ?_) (fun hc102 => ?_)
              · exfalso; (try simp only [NM] at hc102); rw [hbad] at hc102; first | exact hc102 rfl | (simp at hc102; done)
              ·
               try simp only [NM] at hc102
               refine g_skip ?_
               refine g_next hK28 ?_
               refine g_exit ?_
               refine g_then_exit ?_
               refine g_block_same ?_
               refine g_next hK19 ?_
               refine g_region ?_
               refine g_step rfl (s_val (v_move rfl) rfl rfl ?_)
               refine g_step rfl (s_val (v_add rfl rfl (by omega)) rfl rfl ?_)
               refine g_step rfl (s_val (v_assign rfl) rfl rfl ?_)
               refine g_nil ?_
               first | refine g_keep [0, 1, 2, 3, 9, 12] [11] [11] (keep_cons rfl (keep_cons rfl (keep_cons rfl (keep_cons rfl (keep_cons rfl (keep_cons rfl keep_nil)))))) (lkeep_cons rfl lkeep_nil) (keep_cons rfl keep_nil) rfl ?_ | refine g_keep [0, 1, 2, 3, 9, 12] [11] [11] rfl rfl rfl rfl ?_
               first | exact g_round _ (by omega) ⟨k + 1, s3, m3, av3, h3, h5, by omega, rfl, rfl, rfl, rfl, ⟨hS4, hsH4, hI3, hok2, hL3, hR2, hlen, hpl3⟩⟩ | exact g_round _ (by omega) ⟨k + 1, s, m, av, h3, h2, by omega, rfl, rfl, rfl, rfl, ⟨hS2, hsH2, by rw [hbad] at hI2; exact hI2, hok, hL, hR, hlen, by omega⟩⟩
             ·
              try simp only [NM] at hg95
              refine g_step_yes (j := 13) (t := 95) rfl rfl rfl rfl (s_fieldAddr ty87 fo87_1 ty3 rfl rfl ?_)
              refine g_step_yes (j := 13) (t := 95) rfl rfl rfl rfl (s_val (v_loadl ty3 rfl rfl rfl rfl) rfl rfl ?_)
              refine g_step_yes (j := 13) (t := 95) rfl rfl rfl rfl (s_val (v_move rfl) rfl rfl ?_)
              refine g_step_yes (j := 13) (t := 95) rfl rfl rfl rfl (s_val (v_geq rfl rfl) rfl rfl ?_)
              refine g_step rfl (s_val (v_pick_f rfl rfl) rfl rfl ?_)
              refine g_nil ?_
              refine g_next hK23 ?_
              first | refine g_keep [0, 1, 2, 3, 9, 12, 14, 100] [11, 13] [11, 13] (keep_cons rfl (keep_cons rfl (keep_cons rfl (keep_cons rfl (keep_cons rfl (keep_cons rfl (keep_cons rfl (keep_cons rfl keep_nil)))))))) (lkeep_cons rfl (lkeep_cons rfl lkeep_nil)) (keep_cons rfl (keep_cons rfl keep_nil)) rfl ?_ | refine g_keep [0, 1, 2, 3, 9, 12, 14, 100] [11, 13] [11, 13] rfl rfl rfl rfl ?_
              refine g_cond rfl (fun hc100 => ?_) (fun hc100 => ?_)
              ·
               try simp only [NM] at hc100
               refine g_seq (fun K30 hK30 => ?_)
               refine g_seq (fun K31 hK31 => ?_)
               refine g_region ?_
               have hbad : DoW room s x = (s, 1) := DoW_bad (by first | omega | (simp_all; omega))
               refine g_step rfl (s_val (v_move rfl) rfl rfl ?_)
               refine g_step rfl (s_val (v_neq rfl rfl) rfl rfl ?_)
               refine g_nil ?_
               refine g_next hK31 ?_
               refine g_cond rfl (fun hc102 => ?_) (fun hc102 => ?_)
               · exfalso; (try simp only [NM] at hc102); rw [hbad] at hc102; first | exact hc102 rfl | (simp at hc102; done)
               ·
                try simp only [NM] at hc102
                refine g_skip ?_
                refine g_next hK30 ?_
                refine g_exit ?_
                refine g_then_exit ?_
                refine g_block_same ?_
                refine g_next hK19 ?_
                refine g_region ?_
                refine g_step rfl (s_val (v_move rfl) rfl rfl ?_)
                refine g_step rfl (s_val (v_add rfl rfl (by omega)) rfl rfl ?_)
                refine g_step rfl (s_val (v_assign rfl) rfl rfl ?_)
                refine g_nil ?_
                first | refine g_keep [0, 1, 2, 3, 9, 12] [11] [11] (keep_cons rfl (keep_cons rfl (keep_cons rfl (keep_cons rfl (keep_cons rfl (keep_cons rfl keep_nil)))))) (lkeep_cons rfl lkeep_nil) (keep_cons rfl keep_nil) rfl ?_ | refine g_keep [0, 1, 2, 3, 9, 12] [11] [11] rfl rfl rfl rfl ?_
                first | exact g_round _ (by omega) ⟨k + 1, s3, m3, av3, h3, h5, by omega, rfl, rfl, rfl, rfl, ⟨hS4, hsH4, hI3, hok2, hL3, hR2, hlen, hpl3⟩⟩ | exact g_round _ (by omega) ⟨k + 1, s, m, av, h3, h2, by omega, rfl, rfl, rfl, rfl, ⟨hS2, hsH2, by rw [hbad] at hI2; exact hI2, hok, hL, hR, hlen, by omega⟩⟩
              ·
               try simp only [NM] at hc100
               refine g_skip ?_
               refine g_next hK22 ?_
               refine g_seq (fun K32 hK32 => ?_)
               refine g_region ?_
               have hnb : ¬ (x.kind < 1 ∨ 9 < x.kind ∨ x.node < 0 ∨ (s.tl.length : Int) ≤ x.node) := by first | omega | (simp_all; omega)
               obtain ⟨j, hj⟩ := Int.eq_ofNat_of_zero_le (a := x.node) (by omega)
               have hjl : j < s.tl.length := by omega
               have hDoN := fun h => DoW_no (room := room) hnb hj h
               have hDoY := fun h => DoW_yes (room := room) hnb hj h
               refine g_step rfl (s_val (by first | exact v_loadl_all ty85 rfl rfl rfl rfl rfl | exact v_loadl_part (cs := [_, _, _, _]) ty85 rfl rfl rfl rfl rfl rfl) rfl rfl ?_)
               refine g_step rfl (s_val (by first | exact v_loadl_all ty87 rfl rfl rfl rfl rfl | exact v_loadl_part (cs := [_, _, _, _, _, _]) ty87 rfl rfl rfl rfl rfl rfl) rfl rfl ?_)
               refine g_step rfl (s_val (v_move rfl) rfl rfl ?_)
               refine g_step rfl (s_call rfl rfl rfl (legal_ok h2 ur hr cr av room s m x j nn hlen.symm _ hL hR (hS2.1 h2 (by simp)).1 hok hj hjl hxn hxs (by omega) h1r h48) (fun b hb => .inr ((hS2.1 h2 (by simp)).2 b hb)) ?_)
               rintro n2 _ effs2 hn2 hdom2 ⟨av2, m2, h4, rfl, hE2, hL2, hR2, hpl2⟩ hok3
               have hS3 := hS2.turn (l1 := [h3]) (l2 := []) hE2 hn2 hdom2
               have hsH3 := hE2.frame hdom2 hsH2 (fun b hb => hw0 b ((hS2.1 h2 (by simp)).2 b hb))
               generalize setAll _ effs2 = G3 at hS3 hsH3 ⊢
               refine g_step rfl (s_val (v_move rfl) rfl rfl ?_)
               refine g_step rfl (s_val (v_extract rfl rfl) rfl rfl ?_)
               refine g_step rfl (s_val (v_extract rfl rfl) rfl rfl ?_)
               refine g_step rfl (s_val (v_assign rfl) rfl rfl ?_)
               refine g_step rfl (s_val (v_assign rfl) rfl rfl ?_)
               refine g_nil ?_
               refine g_next hK32 ?_
               refine g_cut (fun env L B G => ∃ (s1 s3 : Wd) (m2 : LM) (av2 : AV) (h3 h4 : AHeap) (ok : Bool) (j : Nat), env = [(0, .int .i64 (nn : Int)), (1, .int .i64 room), (2, .imm (l.map encMv)), (3, .int .i64 no), (9, .box d 0), (12, .int .i64 (k : Int)), (15, av2), (16, .bool ok)] ∧ L = [(11, 11, 0), (13, 13, 0)] ∧ B = [(11, (mdA ur hr cr nn av)), (13, (encMv x))] ∧ Sep w0.heap.size G [h3, h4] ∧ H.sub G ∧ WIs lmRow h3 d room s3 ∧ LA h4 ur hr cr av2 m2 ∧ MRel room s1 m2 ∧ WOk room s1 ∧ x.node = (j : Int) ∧ s1.tl.length = nn ∧ j < nn ∧ m2.post.length ≤ k + 1 ∧ s3 = (if ok = true then cellW s1 j else s1)) ?_ (fun env L B G hI => ?_)
               ·
                refine g_seq (fun K33 hK33 => ?_)
                refine g_region ?_
                refine g_step rfl (s_val (v_move rfl) rfl rfl ?_)
                refine g_step rfl (s_val (v_move rfl) rfl rfl ?_)
                refine g_step rfl (s_val (v_eql rfl rfl) rfl rfl ?_)
                refine g_step rfl (s_val (v_bool_neq ty4 rfl rfl) rfl rfl ?_)
                refine g_step rfl (s_val (v_move rfl) rfl rfl ?_)
                refine g_split 114 rfl (fun hg114 => ?_) (fun hg114 => ?_)
                · exfalso; (try simp only [NM] at hg114); (cases hd : (doW room s j x).2; (rw [hDoN hd] at hg114; simp [hd] at hg114); (rw [hDoY hd] at hg114; simp [hd] at hg114))
                ·
                 try simp only [NM] at hg114
                 refine g_step_yes (j := 4) (t := 114) rfl rfl rfl rfl (s_val (v_move rfl) rfl rfl ?_)
                 refine g_step_yes (j := 4) (t := 114) rfl rfl rfl rfl (s_val (v_not rfl) rfl rfl ?_)
                 refine g_step_yes (j := 4) (t := 114) rfl rfl rfl rfl (s_val (v_move rfl) rfl rfl ?_)
                 refine g_split 117 rfl (fun hg117 => ?_) (fun hg117 => ?_)
                 ·
                  try simp only [NM] at hg117
                  refine g_step_yes (j := 7) (t := 117) rfl rfl rfl rfl (s_val (v_move rfl) rfl rfl ?_)
                  refine g_step_yes (j := 7) (t := 117) rfl rfl rfl rfl (s_val (v_neq rfl rfl) rfl rfl ?_)
                  refine g_step_yes (j := 4) (t := 114) rfl rfl rfl rfl (s_val (v_pick_t rfl rfl) rfl rfl ?_)
                  refine g_step rfl (s_val (v_pick_f rfl rfl) rfl rfl ?_)
                  refine g_nil ?_
                  refine g_next hK33 ?_
                  first | refine g_keep [0, 1, 2, 3, 9, 12, 15, 16, 121] [11, 13] [11, 13] (keep_cons rfl (keep_cons rfl (keep_cons rfl (keep_cons rfl (keep_cons rfl (keep_cons rfl (keep_cons rfl (keep_cons rfl (keep_cons rfl keep_nil))))))))) (lkeep_cons rfl (lkeep_cons rfl lkeep_nil)) (keep_cons rfl (keep_cons rfl keep_nil)) rfl ?_ | refine g_keep [0, 1, 2, 3, 9, 12, 15, 16, 121] [11, 13] [11, 13] rfl rfl rfl rfl ?_
                  refine g_cond rfl (fun hc121 => ?_) (fun hc121 => ?_)
                  · exfalso; (try simp only [NM] at hc121); (rw [hDoN (by assumption)] at hc121; first | exact hc121 rfl | (simp at hc121; done))
                  ·
                   try simp only [NM] at hc121
                   refine g_skip ?_
                   first | refine g_keep [0, 1, 2, 3, 9, 12, 15, 16] [11, 13] [11, 13] (keep_cons rfl (keep_cons rfl (keep_cons rfl (keep_cons rfl (keep_cons rfl (keep_cons rfl (keep_cons rfl (keep_cons rfl keep_nil)))))))) (lkeep_cons rfl (lkeep_cons rfl lkeep_nil)) (keep_cons rfl (keep_cons rfl keep_nil)) rfl ?_ | refine g_keep [0, 1, 2, 3, 9, 12, 15, 16] [11, 13] [11, 13] rfl rfl rfl rfl ?_
                   first | exact g_has ⟨(doW room s j x).1, (DoW room s x).1, m2, av2, h3, h4, (doW room s j x).2, j, rfl, rfl, rfl, ⟨hS3, hsH3, hI2, hL2, hR2, doW_ok hok x hxn (bootW_ok hok h1r h48 j x), hj, by rw [(doW_len room s j x).1]; exact hlen, by omega, by omega, by cases hd : (doW room s j x).2; (rw [hDoN hd]; rfl); (rw [hDoY hd]; rfl)⟩⟩
                 ·
                  try simp only [NM] at hg117
                  refine g_step_no (j := 7) (t := 117) rfl rfl rfl rfl rfl rfl rfl ?_
                  refine g_step_no (j := 7) (t := 117) rfl rfl rfl rfl rfl rfl rfl ?_
                  refine g_step_yes (j := 4) (t := 114) rfl rfl rfl rfl (s_val (v_pick_f rfl rfl) rfl rfl ?_)
                  refine g_step rfl (s_val (v_pick_f rfl rfl) rfl rfl ?_)
                  refine g_nil ?_
                  refine g_next hK33 ?_
                  first | refine g_keep [0, 1, 2, 3, 9, 12, 15, 16, 121] [11, 13] [11, 13] (keep_cons rfl (keep_cons rfl (keep_cons rfl (keep_cons rfl (keep_cons rfl (keep_cons rfl (keep_cons rfl (keep_cons rfl (keep_cons rfl keep_nil))))))))) (lkeep_cons rfl (lkeep_cons rfl lkeep_nil)) (keep_cons rfl (keep_cons rfl keep_nil)) rfl ?_ | refine g_keep [0, 1, 2, 3, 9, 12, 15, 16, 121] [11, 13] [11, 13] rfl rfl rfl rfl ?_
                  refine g_cond rfl (fun h => by cases h) (fun _ => ?_)
                  refine g_skip ?_
                  first | refine g_keep [0, 1, 2, 3, 9, 12, 15, 16] [11, 13] [11, 13] (keep_cons rfl (keep_cons rfl (keep_cons rfl (keep_cons rfl (keep_cons rfl (keep_cons rfl (keep_cons rfl (keep_cons rfl keep_nil)))))))) (lkeep_cons rfl (lkeep_cons rfl lkeep_nil)) (keep_cons rfl (keep_cons rfl keep_nil)) rfl ?_ | refine g_keep [0, 1, 2, 3, 9, 12, 15, 16] [11, 13] [11, 13] rfl rfl rfl rfl ?_
                  first | exact g_has ⟨(doW room s j x).1, (DoW room s x).1, m2, av2, h3, h4, (doW room s j x).2, j, rfl, rfl, rfl, ⟨hS3, hsH3, hI2, hL2, hR2, doW_ok hok x hxn (bootW_ok hok h1r h48 j x), hj, by rw [(doW_len room s j x).1]; exact hlen, by omega, by omega, by cases hd : (doW room s j x).2; (rw [hDoN hd]; rfl); (rw [hDoY hd]; rfl)⟩⟩
               ·
                obtain ⟨s1, s3, m2, av2, h3, h4, ok, j, rfl, rfl, rfl, hS3, hsH3, hI3, hL2, hR2, hok2, hj, hlen, hjn, hpl2, hs3⟩ := hI
                have hVh : (AV.own hr 3 0 nn).view _ = some (m2.has.map encMl) := AV.view_own_all ((hS3.1 h4 (by simp)).1 _ _ hL2.hh) (by rw [List.length_map, hR2.nh, hlen])
                obtain ⟨q2, hq2⟩ := get_some (l := m2.has) (k := j) (by rw [hR2.nh, hlen]; exact hjn)
                have hqo := hR2.ok q2 (mem_get hq2)
                refine g_seq (fun K34 hK34 => ?_)
                refine g_region ?_
                refine g_step rfl (s_val (v_move rfl) rfl rfl ?_)
                refine g_step rfl (s_fieldAddr ty85 fo85_3 ty83 rfl rfl ?_)
                refine g_step rfl (s_store (new := (mdA ur hr cr nn av2)) ty83 rfl rfl rfl (by rw [hL2.pp.one.1]; rfl) hL2.pp.one.2 rfl (by rw [hL2.pp.one.1]; rfl) ?_)
                refine g_nil ?_
                refine g_next hK34 ?_
                refine g_cut (fun env L B G => ∃ (s1 s3 : Wd) (m2 : LM) (av2 : AV) (h3 h4 : AHeap) (ok : Bool) (j : Nat) (q2 : Int × Int × List Rc), env = [(0, .int .i64 (nn : Int)), (1, .int .i64 room), (2, .imm (l.map encMv)), (3, .int .i64 no), (9, .box d 0), (12, .int .i64 (k : Int)), (16, .bool ok)] ∧ L = [(11, 11, 0), (13, 13, 0), (17, 17, 0)] ∧ B = [(11, (mdA ur hr cr nn av2)), (13, (encMv x)), (17, (encR (rfind q2.2.2 x.node).1))] ∧ Sep w0.heap.size G [h3, h4] ∧ H.sub G ∧ WIs lmRow h3 d room s3 ∧ LA h4 ur hr cr av2 m2 ∧ MRel room s1 m2 ∧ WOk room s1 ∧ x.node = (j : Int) ∧ s1.tl.length = nn ∧ j < nn ∧ m2.post.length ≤ k + 1 ∧ s3 = (if ok = true then cellW s1 j else s1) ∧ m2.has[j]? = some q2) ?_ (fun env L B G hI => ?_)
                ·
                 refine g_draw (n := 16) (fun j => !([14] : List Nat).contains j) rfl rfl ?_
                 refine m_takel 0 rfl rfl (by kernel_rfl) (by kernel_rfl) (by kernel_rfl) (fun _ _ _ _ h => h) (vl_fieldAddr ty85 fo85_1 ty82 rfl) rfl rfl ?_
                 refine m_tk 1 true rfl rfl (by kernel_rfl) (v_loadl ty82 rfl rfl rfl rfl) rfl rfl ?_
                 refine m_takel 2 rfl rfl (by kernel_rfl) (by kernel_rfl) (by kernel_rfl) (fun _ _ _ _ h => h) (vl_fieldAddr ty87 fo87_1 ty3 rfl) rfl rfl ?_
                 refine m_tk 3 true rfl rfl (by kernel_rfl) (v_loadl ty3 rfl rfl rfl rfl) rfl rfl ?_
                 refine m_tk 4 false rfl rfl (by kernel_rfl) (v_indexAddr ty82 ty61 rfl rfl hVh hj (map_get hq2) rfl) rfl rfl ?_
                 refine m_tk 5 false rfl rfl (by kernel_rfl) (by first | exact v_fieldAddr ty61 fo61_2 ty22 rfl | exact v_fieldAddr_box ty61 fo61_2 ty22 rfl) rfl rfl ?_
                 refine m_tk 6 true rfl rfl (by kernel_rfl) (by first | exact v_load ty22 rfl rfl hVh (map_get hq2) rfl | exact v_load_box ty22 rfl rfl (by assumption) rfl) rfl rfl ?_
                 refine m_takel 7 rfl rfl (by kernel_rfl) (by kernel_rfl) (by kernel_rfl) (fun _ _ _ _ h => h) (vl_fieldAddr ty87 fo87_1 ty3 rfl) rfl rfl ?_
                 refine m_tk 8 true rfl rfl (by kernel_rfl) (v_loadl ty3 rfl rfl rfl rfl) rfl rfl ?_
                 refine m_all (is := [9, 13]) (by kernel_rfl) rfl (fun _ _ _ => trivial) (fun i hi => ?_)
                 rcases (by simpa using hi : i = 9 ∨ i = 13) with rfl | rfl
                 ·
                  refine ⟨_, rfl, .inl ⟨rfl, ?_⟩⟩
                  refine sm_callp rfl rfl rfl (find_ok q2.2.2 x.node _ _ rfl (by omega) hqo.2) ?_
                  rintro _ rfl
                  refine m_tk 10 false rfl rfl (by kernel_rfl) (v_move rfl) rfl rfl ?_
                  refine m_tk 11 false rfl rfl (by kernel_rfl) (v_extract rfl rfl) rfl rfl ?_
                  refine m_tk 12 false rfl rfl (by kernel_rfl) (v_extract rfl rfl) rfl rfl ?_
                  refine m_one 13 (by kernel_rfl) rfl rfl ?_
                  refine sm_alloc (av := (.agg [(.int .i64 0), (.int .i64 0), (.int .i64 0), (.int .i64 0), (.int .i64 0), (.bool false), .nil0])) ty46 rfl rfl rfl rfl ?_
                  refine m_one 14 (by kernel_rfl) rfl rfl ?_
                  refine sm_any rfl (s_store_all ty46 rfl rfl rfl rfl rfl rfl ?_)
                  refine m_tk 15 false rfl rfl (by kernel_rfl) (v_assign rfl) rfl rfl ?_
                  refine m_done (by kernel_rfl) ?_
                  first | refine g_keep [0, 1, 2, 3, 9, 12, 16] [11, 13, 17] [11, 13, 17] (keep_cons rfl (keep_cons rfl (keep_cons rfl (keep_cons rfl (keep_cons rfl (keep_cons rfl (keep_cons rfl keep_nil))))))) (lkeep_cons rfl (lkeep_cons rfl (lkeep_cons rfl lkeep_nil))) (keep_cons rfl (keep_cons rfl (keep_cons rfl keep_nil))) rfl ?_ | refine g_keep [0, 1, 2, 3, 9, 12, 16] [11, 13, 17] [11, 13, 17] rfl rfl rfl rfl ?_
                  first | exact g_has ⟨s1, s3, m2, av2, h3, h4, ok, j, q2, rfl, rfl, rfl, ⟨hS3, hsH3, hI3, hL2, hR2, hok2, hj, hlen, hjn, hpl2, hs3, hq2⟩⟩
                 ·
                  refine ⟨_, rfl, .inl ⟨rfl, ?_⟩⟩
                  refine sm_alloc (av := (.agg [(.int .i64 0), (.int .i64 0), (.int .i64 0), (.int .i64 0), (.int .i64 0), (.bool false), .nil0])) ty46 rfl rfl rfl rfl ?_
                  refine m_one 9 (by kernel_rfl) rfl rfl ?_
                  refine sm_callp rfl rfl rfl (find_ok q2.2.2 x.node _ _ rfl (by omega) hqo.2) ?_
                  rintro _ rfl
                  refine m_tk 10 false rfl rfl (by kernel_rfl) (v_move rfl) rfl rfl ?_
                  refine m_tk 11 false rfl rfl (by kernel_rfl) (v_extract rfl rfl) rfl rfl ?_
                  refine m_tk 12 false rfl rfl (by kernel_rfl) (v_extract rfl rfl) rfl rfl ?_
                  refine m_one 14 (by kernel_rfl) rfl rfl ?_
                  refine sm_any rfl (s_store_all ty46 rfl rfl rfl rfl rfl rfl ?_)
                  refine m_tk 15 false rfl rfl (by kernel_rfl) (v_assign rfl) rfl rfl ?_
                  refine m_done (by kernel_rfl) ?_
                  first | refine g_keep [0, 1, 2, 3, 9, 12, 16] [11, 13, 17] [11, 13, 17] (keep_cons rfl (keep_cons rfl (keep_cons rfl (keep_cons rfl (keep_cons rfl (keep_cons rfl (keep_cons rfl keep_nil))))))) (lkeep_cons rfl (lkeep_cons rfl (lkeep_cons rfl lkeep_nil))) (keep_cons rfl (keep_cons rfl (keep_cons rfl keep_nil))) rfl ?_ | refine g_keep [0, 1, 2, 3, 9, 12, 16] [11, 13, 17] [11, 13, 17] rfl rfl rfl rfl ?_
                  first | exact g_has ⟨s1, s3, m2, av2, h3, h4, ok, j, q2, rfl, rfl, rfl, ⟨hS3, hsH3, hI3, hL2, hR2, hok2, hj, hlen, hjn, hpl2, hs3, hq2⟩⟩
                ·
                 obtain ⟨s1, s3, m2, av2, h3, h4, ok, j, q2, rfl, rfl, rfl, hS3, hsH3, hI3, hL2, hR2, hok2, hj, hlen, hjn, hpl2, hs3, hq2⟩ := hI
                 have hVu : (AV.own ur 1 0 nn).view _ = some (m2.ups.map .bool) := AV.view_own_all ((hS3.1 h4 (by simp)).1 _ _ hL2.uu) (by rw [List.length_map, hR2.nu, hlen])
                 have hVh : (AV.own hr 3 0 nn).view _ = some (m2.has.map encMl) := AV.view_own_all ((hS3.1 h4 (by simp)).1 _ _ hL2.hh) (by rw [List.length_map, hR2.nh, hlen])
                 have hVc : (AV.own cr 1 0 nn).view _ = some (m2.cells.map (.int .i64)) := AV.view_own_all ((hS3.1 h4 (by simp)).1 _ _ hL2.cc) (by rw [List.length_map, hR2.nc, hok2.len, hlen])
                 have hqo := hR2.ok q2 (mem_get hq2)
                 obtain ⟨c2, hc2⟩ := get_some (l := m2.cells) (k := j) (by rw [hR2.nc, hok2.len, hlen]; exact hjn)
                 have hup := hR2.up j (by omega)
                 have hDc := (hS3.1 h4 (by simp)).2 cr (by rw [hL2.cc]; simp)
                 have hcc := (hS3.1 h4 (by simp)).1 _ _ hL2.cc
                 refine g_cut (fun env L B G => ∃ (s3 : Wd) (m3 : LM) (av3 : AV) (h3 h5 : AHeap) (j : Nat), env = [(0, .int .i64 (nn : Int)), (1, .int .i64 room), (2, .imm (l.map encMv)), (3, .int .i64 no), (9, .box d 0), (12, .int .i64 (k : Int))] ∧ L = [(11, 11, 0), (13, 13, 0)] ∧ B = [(11, (mdA ur hr cr nn av3)), (13, (encMv x))] ∧ Sep w0.heap.size G [h3, h5] ∧ H.sub G ∧ WIs lmRow h3 d room s3 ∧ LA h5 ur hr cr av3 m3 ∧ MRel room s3 m3 ∧ WOk room s3 ∧ x.node = (j : Int) ∧ s3.tl.length = nn ∧ j < nn ∧ m3.post.length ≤ k + 1) ?_ (fun env L B G hI => ?_)
                 ·
                  refine g_seq (fun K35 hK35 => ?_)
                  refine g_draw (n := 20) (fun j => !([] : List Nat).contains j) rfl rfl ?_
                  refine m_tk 0 false rfl rfl (by kernel_rfl) (v_move rfl) rfl rfl ?_
                  refine m_tk 1 false rfl rfl (by kernel_rfl) (v_move rfl) rfl rfl ?_
                  refine m_split 138 rfl (fun hg138 => ?_) (fun hg138 => ?_)
                  ·
                   try simp only [NM] at hg138
                   refine m_takel_yes (j := 1) (t := 138) 2 rfl rfl rfl rfl rfl (by kernel_rfl) (by kernel_rfl) (by kernel_rfl) (fun _ _ _ _ h => h) (vl_fieldAddr ty85 fo85_0 ty81 rfl) rfl rfl ?_
                   refine m_take_yes (j := 1) (t := 138) 3 true rfl rfl rfl rfl rfl (by kernel_rfl) (by kernel_rfl) (by kernel_rfl) (fun _ _ _ _ h => h) (v_loadl ty81 rfl rfl rfl rfl) rfl rfl ?_
                   refine m_takel_yes (j := 1) (t := 138) 4 rfl rfl rfl rfl rfl (by kernel_rfl) (by kernel_rfl) (by kernel_rfl) (fun _ _ _ _ h => h) (vl_fieldAddr ty87 fo87_1 ty3 rfl) rfl rfl ?_
                   refine m_take_yes (j := 1) (t := 138) 5 true rfl rfl rfl rfl rfl (by kernel_rfl) (by kernel_rfl) (by kernel_rfl) (fun _ _ _ _ h => h) (v_loadl ty3 rfl rfl rfl rfl) rfl rfl ?_
                   refine m_take_yes (j := 1) (t := 138) 6 false rfl rfl rfl rfl rfl (by kernel_rfl) (by kernel_rfl) (by kernel_rfl) (fun _ _ _ _ h => h) (v_indexAddr ty81 ty4 rfl rfl hVu hj (map_get hup) rfl) rfl rfl ?_
                   refine m_take_yes (j := 1) (t := 138) 7 true rfl rfl rfl rfl rfl (by kernel_rfl) (by kernel_rfl) (by kernel_rfl) (fun _ _ _ _ h => h) (by first | exact v_load ty4 rfl rfl hVu (map_get hup) rfl | exact v_load_box ty4 rfl rfl (by assumption) rfl) rfl rfl ?_
                   refine m_tk 8 false rfl rfl (by kernel_rfl) (v_pick_t rfl rfl) rfl rfl ?_
                   refine m_tk 9 false rfl rfl (by kernel_rfl) (v_move rfl) rfl rfl ?_
                   refine m_split 146 rfl (fun hg146 => ?_) (fun hg146 => ?_)
                   ·
                    try simp only [NM] at hg146
                    refine m_takel_yes (j := 9) (t := 146) 10 rfl rfl rfl rfl rfl (by kernel_rfl) (by kernel_rfl) (by kernel_rfl) (fun _ _ _ _ h => h) (vl_fieldAddr ty46 fo46_1 ty3 rfl) rfl rfl ?_
                    refine m_take_yes (j := 9) (t := 146) 11 true rfl rfl rfl rfl rfl (by kernel_rfl) (by kernel_rfl) (by kernel_rfl) (fun _ _ _ _ h => h) (v_loadl ty3 rfl rfl rfl rfl) rfl rfl ?_
                    refine m_takel_yes (j := 9) (t := 146) 12 rfl rfl rfl rfl rfl (by kernel_rfl) (by kernel_rfl) (by kernel_rfl) (fun _ _ _ _ h => h) (vl_fieldAddr ty85 fo85_2 ty71 rfl) rfl rfl ?_
                    refine m_take_yes (j := 9) (t := 146) 13 true rfl rfl rfl rfl rfl (by kernel_rfl) (by kernel_rfl) (by kernel_rfl) (fun _ _ _ _ h => h) (v_loadl ty71 rfl rfl rfl rfl) rfl rfl ?_
                    refine m_takel_yes (j := 9) (t := 146) 14 rfl rfl rfl rfl rfl (by kernel_rfl) (by kernel_rfl) (by kernel_rfl) (fun _ _ _ _ h => h) (vl_fieldAddr ty87 fo87_1 ty3 rfl) rfl rfl ?_
                    refine m_take_yes (j := 9) (t := 146) 15 true rfl rfl rfl rfl rfl (by kernel_rfl) (by kernel_rfl) (by kernel_rfl) (fun _ _ _ _ h => h) (v_loadl ty3 rfl rfl rfl rfl) rfl rfl ?_
                    refine m_take_yes (j := 9) (t := 146) 16 false rfl rfl rfl rfl rfl (by kernel_rfl) (by kernel_rfl) (by kernel_rfl) (fun _ _ _ _ h => h) (v_indexAddr ty71 ty3 rfl rfl hVc hj (map_get hc2) rfl) rfl rfl ?_
                    refine m_take_yes (j := 9) (t := 146) 17 true rfl rfl rfl rfl rfl (by kernel_rfl) (by kernel_rfl) (by kernel_rfl) (fun _ _ _ _ h => h) (by first | exact v_load ty3 rfl rfl hVc (map_get hc2) rfl | exact v_load_box ty3 rfl rfl (by assumption) rfl) rfl rfl ?_
                    refine m_take_yes (j := 9) (t := 146) 18 false rfl rfl rfl rfl rfl (by kernel_rfl) (by kernel_rfl) (by kernel_rfl) (fun _ _ _ _ h => h) (v_geq rfl rfl) rfl rfl ?_
                    refine m_tk 19 false rfl rfl (by kernel_rfl) (v_pick_t rfl rfl) rfl rfl ?_
                    refine m_done (by kernel_rfl) ?_
                    refine g_next hK35 ?_
                    refine g_cond rfl (fun hc156 => ?_) (fun hc156 => ?_)
                    ·
                     try simp only [NM] at hc156
                     have hcellC := hR2.cellC hq2 hc2 (by assumption) (by rw [← hj]; assumption)
                     rw [← hj] at hcellC
                     have hoi := hR2.own_inc hok2 hq2 (by assumption)
                     rw [← hj] at hoi
                     rw [if_pos (by assumption)] at hs3
                     rw [hs3] at hI3
                     refine g_region ?_
                     refine g_step rfl (s_fieldAddr ty85 fo85_2 ty71 rfl rfl ?_)
                     refine g_step rfl (s_val (v_loadl ty71 rfl rfl rfl rfl) rfl rfl ?_)
                     refine g_step rfl (s_fieldAddr ty87 fo87_1 ty3 rfl rfl ?_)
                     refine g_step rfl (s_val (v_loadl ty3 rfl rfl rfl rfl) rfl rfl ?_)
                     refine g_step rfl (s_fieldAddr ty46 fo46_1 ty3 rfl rfl ?_)
                     refine g_step rfl (s_val (v_loadl ty3 rfl rfl rfl rfl) rfl rfl ?_)
                     refine g_step rfl (s_val (v_add rfl rfl (by omega)) rfl rfl ?_)
                     refine g_step rfl (s_val (v_indexAddr ty71 ty3 rfl rfl hVc hj (map_get hc2) rfl) rfl rfl ?_)
                     refine g_step rfl (s_store_row (k := j) (off := 0) (old := .int .i64 c2) (new := .int .i64 ((rfind q2.2.2 x.node).1.inc + 1)) ty3 rfl rfl hcc (by rw [Nat.zero_add]; exact map_get hc2) rfl rfl rfl rfl (.inr hDc) ?_)
                     rw [show (0 + j : Nat) = j from Nat.zero_add j, set_map_c]
                     have hS5 := Sep.write (l1 := [h3]) (l2 := []) (.row 1 ((m2.cells.set j ((rfind q2.2.2 x.node).1.inc + 1)).map (.int .i64))) hS3 (b := cr) (by rw [hL2.cc]; simp)
                     have hsH5 := sub_set' hsH3 (hw0 cr hDc) (x := (.row 1 ((m2.cells.set j ((rfind q2.2.2 x.node).1.inc + 1)).map (.int .i64))))
                     refine g_nil ?_
                     first | refine g_keep [0, 1, 2, 3, 9, 12] [11, 13] [11, 13] (keep_cons rfl (keep_cons rfl (keep_cons rfl (keep_cons rfl (keep_cons rfl (keep_cons rfl keep_nil)))))) (lkeep_cons rfl (lkeep_cons rfl lkeep_nil)) (keep_cons rfl (keep_cons rfl keep_nil)) rfl ?_ | refine g_keep [0, 1, 2, 3, 9, 12] [11, 13] [11, 13] rfl rfl rfl rfl ?_
                     first | exact g_has ⟨cellW s1 j, ⟨m2.ups, m2.has, m2.cells.set j ((rfind q2.2.2 x.node).1.inc + 1), m2.post⟩, av2, h3, (h4.set cr (.row 1 ((m2.cells.set j ((rfind q2.2.2 x.node).1.inc + 1)).map (.int .i64)))), j, rfl, rfl, rfl, ⟨hS5, hsH5, hI3, hL2.setC _, hcellC, cellW_ok hok2 j, hj, by rw [(cellW_tl s1 j).1]; exact hlen, hjn, hpl2⟩⟩ | exact g_has ⟨cellW s1 j, m2, av2, h3, h4, j, rfl, rfl, rfl, ⟨hS3, hsH3, by rw [if_pos (by assumption)] at hs3; rw [hs3] at hI3; exact hI3, hL2, by first | exact hR2.cellN (by assumption) | exact hR2.cellD hq2 hc2 (by assumption) (by rw [← hj]; assumption), cellW_ok hok2 j, hj, by rw [(cellW_tl s1 j).1]; exact hlen, hjn, hpl2⟩⟩ | exact g_has ⟨s1, m2, av2, h3, h4, j, rfl, rfl, rfl, ⟨hS3, hsH3, by rw [if_neg (by simp_all)] at hs3; rw [hs3] at hI3; exact hI3, hL2, hR2, hok2, hj, hlen, hjn, hpl2⟩⟩
                    ·
                     try simp only [NM] at hc156
                     refine g_skip ?_
                     first | refine g_keep [0, 1, 2, 3, 9, 12] [11, 13] [11, 13] (keep_cons rfl (keep_cons rfl (keep_cons rfl (keep_cons rfl (keep_cons rfl (keep_cons rfl keep_nil)))))) (lkeep_cons rfl (lkeep_cons rfl lkeep_nil)) (keep_cons rfl (keep_cons rfl keep_nil)) rfl ?_ | refine g_keep [0, 1, 2, 3, 9, 12] [11, 13] [11, 13] rfl rfl rfl rfl ?_
                     first | exact g_has ⟨cellW s1 j, ⟨m2.ups, m2.has, m2.cells.set j ((rfind q2.2.2 x.node).1.inc + 1), m2.post⟩, av2, h3, (h4.set cr (.row 1 ((m2.cells.set j ((rfind q2.2.2 x.node).1.inc + 1)).map (.int .i64)))), j, rfl, rfl, rfl, ⟨hS5, hsH5, hI3, hL2.setC _, hcellC, cellW_ok hok2 j, hj, by rw [(cellW_tl s1 j).1]; exact hlen, hjn, hpl2⟩⟩ | exact g_has ⟨cellW s1 j, m2, av2, h3, h4, j, rfl, rfl, rfl, ⟨hS3, hsH3, by rw [if_pos (by assumption)] at hs3; rw [hs3] at hI3; exact hI3, hL2, by first | exact hR2.cellN (by assumption) | exact hR2.cellD hq2 hc2 (by assumption) (by rw [← hj]; assumption), cellW_ok hok2 j, hj, by rw [(cellW_tl s1 j).1]; exact hlen, hjn, hpl2⟩⟩ | exact g_has ⟨s1, m2, av2, h3, h4, j, rfl, rfl, rfl, ⟨hS3, hsH3, by rw [if_neg (by simp_all)] at hs3; rw [hs3] at hI3; exact hI3, hL2, hR2, hok2, hj, hlen, hjn, hpl2⟩⟩
                   ·
                    try simp only [NM] at hg146
                    refine m_take_no (j := 9) (t := 146) 10 rfl rfl rfl rfl rfl rfl (by kernel_rfl) (by kernel_rfl) (by kernel_rfl) (fun _ _ _ _ h => h) rfl rfl ?_
                    refine m_take_no (j := 9) (t := 146) 11 rfl rfl rfl rfl rfl rfl (by kernel_rfl) (by kernel_rfl) (by kernel_rfl) (fun _ _ _ _ h => h) rfl rfl ?_
                    refine m_take_no (j := 9) (t := 146) 12 rfl rfl rfl rfl rfl rfl (by kernel_rfl) (by kernel_rfl) (by kernel_rfl) (fun _ _ _ _ h => h) rfl rfl ?_
                    refine m_take_no (j := 9) (t := 146) 13 rfl rfl rfl rfl rfl rfl (by kernel_rfl) (by kernel_rfl) (by kernel_rfl) (fun _ _ _ _ h => h) rfl rfl ?_
                    refine m_take_no (j := 9) (t := 146) 14 rfl rfl rfl rfl rfl rfl (by kernel_rfl) (by kernel_rfl) (by kernel_rfl) (fun _ _ _ _ h => h) rfl rfl ?_
                    refine m_take_no (j := 9) (t := 146) 15 rfl rfl rfl rfl rfl rfl (by kernel_rfl) (by kernel_rfl) (by kernel_rfl) (fun _ _ _ _ h => h) rfl rfl ?_
                    refine m_take_no (j := 9) (t := 146) 16 rfl rfl rfl rfl rfl rfl (by kernel_rfl) (by kernel_rfl) (by kernel_rfl) (fun _ _ _ _ h => h) rfl rfl ?_
                    refine m_take_no (j := 9) (t := 146) 17 rfl rfl rfl rfl rfl rfl (by kernel_rfl) (by kernel_rfl) (by kernel_rfl) (fun _ _ _ _ h => h) rfl rfl ?_
                    refine m_take_no (j := 9) (t := 146) 18 rfl rfl rfl rfl rfl rfl (by kernel_rfl) (by kernel_rfl) (by kernel_rfl) (fun _ _ _ _ h => h) rfl rfl ?_
                    refine m_tk 19 false rfl rfl (by kernel_rfl) (v_pick_f rfl rfl) rfl rfl ?_
                    refine m_done (by kernel_rfl) ?_
                    refine g_next hK35 ?_
                    first | refine g_keep [0, 1, 2, 3, 9, 12, 156] [11, 13, 17] [11, 13, 17] (keep_cons rfl (keep_cons rfl (keep_cons rfl (keep_cons rfl (keep_cons rfl (keep_cons rfl (keep_cons rfl keep_nil))))))) (lkeep_cons rfl (lkeep_cons rfl (lkeep_cons rfl lkeep_nil))) (keep_cons rfl (keep_cons rfl (keep_cons rfl keep_nil))) rfl ?_ | refine g_keep [0, 1, 2, 3, 9, 12, 156] [11, 13, 17] [11, 13, 17] rfl rfl rfl rfl ?_
                    refine g_cond rfl (fun h => by cases h) (fun _ => ?_)
                    refine g_skip ?_
                    first | refine g_keep [0, 1, 2, 3, 9, 12] [11, 13] [11, 13] (keep_cons rfl (keep_cons rfl (keep_cons rfl (keep_cons rfl (keep_cons rfl (keep_cons rfl keep_nil)))))) (lkeep_cons rfl (lkeep_cons rfl lkeep_nil)) (keep_cons rfl (keep_cons rfl keep_nil)) rfl ?_ | refine g_keep [0, 1, 2, 3, 9, 12] [11, 13] [11, 13] rfl rfl rfl rfl ?_
                    first | exact g_has ⟨cellW s1 j, ⟨m2.ups, m2.has, m2.cells.set j ((rfind q2.2.2 x.node).1.inc + 1), m2.post⟩, av2, h3, (h4.set cr (.row 1 ((m2.cells.set j ((rfind q2.2.2 x.node).1.inc + 1)).map (.int .i64)))), j, rfl, rfl, rfl, ⟨hS5, hsH5, hI3, hL2.setC _, hcellC, cellW_ok hok2 j, hj, by rw [(cellW_tl s1 j).1]; exact hlen, hjn, hpl2⟩⟩ | exact g_has ⟨cellW s1 j, m2, av2, h3, h4, j, rfl, rfl, rfl, ⟨hS3, hsH3, by rw [if_pos (by assumption)] at hs3; rw [hs3] at hI3; exact hI3, hL2, by first | exact hR2.cellN (by assumption) | exact hR2.cellD hq2 hc2 (by assumption) (by rw [← hj]; assumption), cellW_ok hok2 j, hj, by rw [(cellW_tl s1 j).1]; exact hlen, hjn, hpl2⟩⟩ | exact g_has ⟨s1, m2, av2, h3, h4, j, rfl, rfl, rfl, ⟨hS3, hsH3, by rw [if_neg (by simp_all)] at hs3; rw [hs3] at hI3; exact hI3, hL2, hR2, hok2, hj, hlen, hjn, hpl2⟩⟩
                  ·
                   try simp only [NM] at hg138
                   refine m_take_no (j := 1) (t := 138) 2 rfl rfl rfl rfl rfl rfl (by kernel_rfl) (by kernel_rfl) (by kernel_rfl) (fun _ _ _ _ h => h) rfl rfl ?_
                   refine m_take_no (j := 1) (t := 138) 3 rfl rfl rfl rfl rfl rfl (by kernel_rfl) (by kernel_rfl) (by kernel_rfl) (fun _ _ _ _ h => h) rfl rfl ?_
                   refine m_take_no (j := 1) (t := 138) 4 rfl rfl rfl rfl rfl rfl (by kernel_rfl) (by kernel_rfl) (by kernel_rfl) (fun _ _ _ _ h => h) rfl rfl ?_
                   refine m_take_no (j := 1) (t := 138) 5 rfl rfl rfl rfl rfl rfl (by kernel_rfl) (by kernel_rfl) (by kernel_rfl) (fun _ _ _ _ h => h) rfl rfl ?_
                   refine m_take_no (j := 1) (t := 138) 6 rfl rfl rfl rfl rfl rfl (by kernel_rfl) (by kernel_rfl) (by kernel_rfl) (fun _ _ _ _ h => h) rfl rfl ?_
                   refine m_take_no (j := 1) (t := 138) 7 rfl rfl rfl rfl rfl rfl (by kernel_rfl) (by kernel_rfl) (by kernel_rfl) (fun _ _ _ _ h => h) rfl rfl ?_
                   refine m_tk 8 false rfl rfl (by kernel_rfl) (v_pick_f rfl rfl) rfl rfl ?_
                   refine m_tk 9 false rfl rfl (by kernel_rfl) (v_move rfl) rfl rfl ?_
                   refine m_take_no (j := 9) (t := 146) 10 rfl rfl rfl rfl rfl rfl (by kernel_rfl) (by kernel_rfl) (by kernel_rfl) (fun _ _ _ _ h => h) rfl rfl ?_
                   refine m_take_no (j := 9) (t := 146) 11 rfl rfl rfl rfl rfl rfl (by kernel_rfl) (by kernel_rfl) (by kernel_rfl) (fun _ _ _ _ h => h) rfl rfl ?_
                   refine m_take_no (j := 9) (t := 146) 12 rfl rfl rfl rfl rfl rfl (by kernel_rfl) (by kernel_rfl) (by kernel_rfl) (fun _ _ _ _ h => h) rfl rfl ?_
                   refine m_take_no (j := 9) (t := 146) 13 rfl rfl rfl rfl rfl rfl (by kernel_rfl) (by kernel_rfl) (by kernel_rfl) (fun _ _ _ _ h => h) rfl rfl ?_
                   refine m_take_no (j := 9) (t := 146) 14 rfl rfl rfl rfl rfl rfl (by kernel_rfl) (by kernel_rfl) (by kernel_rfl) (fun _ _ _ _ h => h) rfl rfl ?_
                   refine m_take_no (j := 9) (t := 146) 15 rfl rfl rfl rfl rfl rfl (by kernel_rfl) (by kernel_rfl) (by kernel_rfl) (fun _ _ _ _ h => h) rfl rfl ?_
                   refine m_take_no (j := 9) (t := 146) 16 rfl rfl rfl rfl rfl rfl (by kernel_rfl) (by kernel_rfl) (by kernel_rfl) (fun _ _ _ _ h => h) rfl rfl ?_
                   refine m_take_no (j := 9) (t := 146) 17 rfl rfl rfl rfl rfl rfl (by kernel_rfl) (by kernel_rfl) (by kernel_rfl) (fun _ _ _ _ h => h) rfl rfl ?_
                   refine m_take_no (j := 9) (t := 146) 18 rfl rfl rfl rfl rfl rfl (by kernel_rfl) (by kernel_rfl) (by kernel_rfl) (fun _ _ _ _ h => h) rfl rfl ?_
                   refine m_tk 19 false rfl rfl (by kernel_rfl) (v_pick_f rfl rfl) rfl rfl ?_
                   refine m_done (by kernel_rfl) ?_
                   refine g_next hK35 ?_
                   first | refine g_keep [0, 1, 2, 3, 9, 12, 156] [11, 13, 17] [11, 13, 17] (keep_cons rfl (keep_cons rfl (keep_cons rfl (keep_cons rfl (keep_cons rfl (keep_cons rfl (keep_cons rfl keep_nil))))))) (lkeep_cons rfl (lkeep_cons rfl (lkeep_cons rfl lkeep_nil))) (keep_cons rfl (keep_cons rfl (keep_cons rfl keep_nil))) rfl ?_ | refine g_keep [0, 1, 2, 3, 9, 12, 156] [11, 13, 17] [11, 13, 17] rfl rfl rfl rfl ?_
                   refine g_cond rfl (fun h => by cases h) (fun _ => ?_)
                   refine g_skip ?_
                   first | refine g_keep [0, 1, 2, 3, 9, 12] [11, 13] [11, 13] (keep_cons rfl (keep_cons rfl (keep_cons rfl (keep_cons rfl (keep_cons rfl (keep_cons rfl keep_nil)))))) (lkeep_cons rfl (lkeep_cons rfl lkeep_nil)) (keep_cons rfl (keep_cons rfl keep_nil)) rfl ?_ | refine g_keep [0, 1, 2, 3, 9, 12] [11, 13] [11, 13] rfl rfl rfl rfl ?_
                   first | exact g_has ⟨cellW s1 j, ⟨m2.ups, m2.has, m2.cells.set j ((rfind q2.2.2 x.node).1.inc + 1), m2.post⟩, av2, h3, (h4.set cr (.row 1 ((m2.cells.set j ((rfind q2.2.2 x.node).1.inc + 1)).map (.int .i64)))), j, rfl, rfl, rfl, ⟨hS5, hsH5, hI3, hL2.setC _, hcellC, cellW_ok hok2 j, hj, by rw [(cellW_tl s1 j).1]; exact hlen, hjn, hpl2⟩⟩ | exact g_has ⟨cellW s1 j, m2, av2, h3, h4, j, rfl, rfl, rfl, ⟨hS3, hsH3, by rw [if_pos (by assumption)] at hs3; rw [hs3] at hI3; exact hI3, hL2, by first | exact hR2.cellN (by assumption) | exact hR2.cellD hq2 hc2 (by assumption) (by rw [← hj]; assumption), cellW_ok hok2 j, hj, by rw [(cellW_tl s1 j).1]; exact hlen, hjn, hpl2⟩⟩ | exact g_has ⟨s1, m2, av2, h3, h4, j, rfl, rfl, rfl, ⟨hS3, hsH3, by rw [if_neg (by simp_all)] at hs3; rw [hs3] at hI3; exact hI3, hL2, hR2, hok2, hj, hlen, hjn, hpl2⟩⟩
                 ·
                  obtain ⟨s3, m3, av3, h3, h5, j, rfl, rfl, rfl, hS4, hsH4, hI3, hL3, hR2, hok2, hj, hlen, hjn, hpl3⟩ := hI
                  have hVu : (AV.own ur 1 0 nn).view _ = some (m3.ups.map .bool) := AV.view_own_all ((hS4.1 h5 (by simp)).1 _ _ hL3.uu) (by rw [List.length_map, hR2.nu, hlen])
                  have hVh : (AV.own hr 3 0 nn).view _ = some (m3.has.map encMl) := AV.view_own_all ((hS4.1 h5 (by simp)).1 _ _ hL3.hh) (by rw [List.length_map, hR2.nh, hlen])
                  have hVc : (AV.own cr 1 0 nn).view _ = some (m3.cells.map (.int .i64)) := AV.view_own_all ((hS4.1 h5 (by simp)).1 _ _ hL3.cc) (by rw [List.length_map, hR2.nc, hok2.len, hlen])
                  obtain ⟨c3, hc3⟩ := get_some (l := m3.cells) (k := j) (by rw [hR2.nc, hok2.len, hlen]; exact hjn)
                  have hup := hR2.up j (by omega)
                  have hjl3 : j < s3.tl.length := by omega
                  have hcE := cell_at (s := s3) hj hjl3 (by rw [← hR2.nc]; exact hc3)
                  have hv3 := view_ok hok2 x.node
                  have hI3s := (hS4.1 h3 (by simp)).1
                  refine g_seq (fun K36 hK36 => ?_)
                  refine g_region ?_
                  refine g_step rfl (s_val (v_assign rfl) rfl rfl ?_)
                  refine g_nil ?_
                  refine g_sub 19 rfl ASub.nil0 ?_
                  refine g_next hK36 ?_
                  refine g_seq (fun K37 hK37 => ?_)
                  refine g_seq (fun K38 hK38 => ?_)
                  refine g_region ?_
                  rcases hlo3 : lOf s3 j with _ | l3
                  ·
                   refine g_step rfl (s_fieldAddr ty85 fo85_0 ty81 rfl rfl ?_)
                   have hup1 : m3.ups[j]? = some false := by rw [hup, hlo3]; rfl
                   have hupE : upW s3 x.node = false := by rw [upW_at hj hjl3, hlo3]; rfl
                   have hvE : viewW s3 x.node = [] := by rw [viewW_at hj hjl3, hlo3]; rfl
                   refine g_step rfl (s_val (v_loadl ty81 rfl rfl rfl rfl) rfl rfl ?_)
                   refine g_step rfl (s_fieldAddr ty87 fo87_1 ty3 rfl rfl ?_)
                   refine g_step rfl (s_val (v_loadl ty3 rfl rfl rfl rfl) rfl rfl ?_)
                   refine g_step rfl (s_val (v_indexAddr ty81 ty4 rfl rfl hVu hj (map_get hup1) rfl) rfl rfl ?_)
                   refine g_step rfl (s_val (by first | exact v_load ty4 rfl rfl hVu (map_get hup1) rfl | exact v_load_box ty4 rfl rfl (by assumption) rfl) rfl rfl ?_)
                   refine g_nil ?_
                   refine g_next hK38 ?_
                   refine g_cond rfl (fun hc170 => ?_) (fun hc170 => ?_)
                   · exfalso; (try simp only [NM] at hc170); first | (simp at hc170; done) | exact hc170 rfl | cases hc170
                   ·
                    try simp only [NM] at hc170
                    refine g_skip ?_
                    refine g_next hK37 ?_
                    refine g_seq (fun K39 hK39 => ?_)
                    refine g_draw (n := 33) (fun j => !([] : List Nat).contains j) rfl rfl ?_
                    refine m_tk 0 false rfl rfl (by kernel_rfl) (v_move rfl) rfl rfl ?_
                    refine m_takel 1 rfl rfl (by kernel_rfl) (by kernel_rfl) (by kernel_rfl) (fun _ _ _ _ h => h) (vl_fieldAddr ty87 fo87_1 ty3 rfl) rfl rfl ?_
                    refine m_tk 2 true rfl rfl (by kernel_rfl) (v_loadl ty3 rfl rfl rfl rfl) rfl rfl ?_
                    refine m_takel 4 rfl rfl (by kernel_rfl) (by kernel_rfl) (by kernel_rfl) (fun _ _ _ _ h => h) (vl_fieldAddr ty85 fo85_0 ty81 rfl) rfl rfl ?_
                    refine m_tk 5 true rfl rfl (by kernel_rfl) (v_loadl ty81 rfl rfl rfl rfl) rfl rfl ?_
                    refine m_takel 6 rfl rfl (by kernel_rfl) (by kernel_rfl) (by kernel_rfl) (fun _ _ _ _ h => h) (vl_fieldAddr ty87 fo87_1 ty3 rfl) rfl rfl ?_
                    refine m_tk 7 true rfl rfl (by kernel_rfl) (v_loadl ty3 rfl rfl rfl rfl) rfl rfl ?_
                    refine m_tk 8 false rfl rfl (by kernel_rfl) (v_indexAddr ty81 ty4 rfl rfl hVu hj (map_get hup1) rfl) rfl rfl ?_
                    refine m_tk 9 true rfl rfl (by kernel_rfl) (by first | exact v_load ty4 rfl rfl hVu (map_get hup1) rfl | exact v_load_box ty4 rfl rfl (by assumption) rfl) rfl rfl ?_
                    refine m_one 3 (by kernel_rfl) rfl rfl ?_
                    refine sm_callp rfl rfl rfl (up_ok h3 d room s3 x.node _ hI3 hI3s hok2) ?_
                    rintro _ rfl
                    rw [hupE]
                    refine m_tk 10 false rfl rfl (by kernel_rfl) (v_bool_neq ty4 rfl rfl) rfl rfl ?_
                    refine m_tk 11 false rfl rfl (by kernel_rfl) (v_move rfl) rfl rfl ?_
                    refine m_split 189 rfl (fun hg189 => ?_) (fun hg189 => ?_)
                    · exfalso; (try simp only [NM] at hg189); first | (simp at hg189; done) | exact hg189 rfl | cases hg189
                    ·
                     try simp only [NM] at hg189
                     refine m_take_yes (j := 11) (t := 189) 12 false rfl rfl rfl rfl rfl (by kernel_rfl) (by kernel_rfl) (by kernel_rfl) (fun _ _ _ _ h => h) (v_move rfl) rfl rfl ?_
                     refine m_takel_yes (j := 11) (t := 189) 13 rfl rfl rfl rfl rfl (by kernel_rfl) (by kernel_rfl) (by kernel_rfl) (fun _ _ _ _ h => h) (vl_fieldAddr ty87 fo87_1 ty3 rfl) rfl rfl ?_
                     refine m_take_yes (j := 11) (t := 189) 14 true rfl rfl rfl rfl rfl (by kernel_rfl) (by kernel_rfl) (by kernel_rfl) (fun _ _ _ _ h => h) (v_loadl ty3 rfl rfl rfl rfl) rfl rfl ?_
                     refine m_takel_yes (j := 11) (t := 189) 16 rfl rfl rfl rfl rfl (by kernel_rfl) (by kernel_rfl) (by kernel_rfl) (fun _ _ _ _ h => h) (vl_fieldAddr ty85 fo85_2 ty71 rfl) rfl rfl ?_
                     refine m_take_yes (j := 11) (t := 189) 17 true rfl rfl rfl rfl rfl (by kernel_rfl) (by kernel_rfl) (by kernel_rfl) (fun _ _ _ _ h => h) (v_loadl ty71 rfl rfl rfl rfl) rfl rfl ?_
                     refine m_takel_yes (j := 11) (t := 189) 18 rfl rfl rfl rfl rfl (by kernel_rfl) (by kernel_rfl) (by kernel_rfl) (fun _ _ _ _ h => h) (vl_fieldAddr ty87 fo87_1 ty3 rfl) rfl rfl ?_
                     refine m_take_yes (j := 11) (t := 189) 19 true rfl rfl rfl rfl rfl (by kernel_rfl) (by kernel_rfl) (by kernel_rfl) (fun _ _ _ _ h => h) (v_loadl ty3 rfl rfl rfl rfl) rfl rfl ?_
                     refine m_take_yes (j := 11) (t := 189) 20 false rfl rfl rfl rfl rfl (by kernel_rfl) (by kernel_rfl) (by kernel_rfl) (fun _ _ _ _ h => h) (v_indexAddr ty71 ty3 rfl rfl hVc hj (map_get hc3) rfl) rfl rfl ?_
                     refine m_take_yes (j := 11) (t := 189) 21 true rfl rfl rfl rfl rfl (by kernel_rfl) (by kernel_rfl) (by kernel_rfl) (fun _ _ _ _ h => h) (by first | exact v_load ty3 rfl rfl hVc (map_get hc3) rfl | exact v_load_box ty3 rfl rfl (by assumption) rfl) rfl rfl ?_
                     refine m_one_yes (j := 11) (t := 189) 15 (by kernel_rfl) rfl rfl rfl rfl rfl ?_
                     refine sm_callp rfl rfl rfl (wcell_ok h3 d room s3 x.node _ hI3 hI3s hok2) ?_
                     rintro _ rfl
                     rw [hcE]
                     refine m_take_yes (j := 11) (t := 189) 22 false rfl rfl rfl rfl rfl (by kernel_rfl) (by kernel_rfl) (by kernel_rfl) (fun _ _ _ _ h => h) (v_neq rfl rfl) rfl rfl ?_
                     refine m_tk 23 false rfl rfl (by kernel_rfl) (v_pick_f rfl rfl) rfl rfl ?_
                     refine m_tk 24 false rfl rfl (by kernel_rfl) (v_move rfl) rfl rfl ?_
                     refine m_split 202 rfl (fun hg202 => ?_) (fun hg202 => ?_)
                     · exfalso; (try simp only [NM] at hg202); first | (simp at hg202; done) | exact hg202 rfl | cases hg202
                     ·
                      try simp only [NM] at hg202
                      refine m_take_yes (j := 24) (t := 202) 25 false rfl rfl rfl rfl rfl (by kernel_rfl) (by kernel_rfl) (by kernel_rfl) (fun _ _ _ _ h => h) (v_move rfl) rfl rfl ?_
                      refine m_takel_yes (j := 24) (t := 202) 26 rfl rfl rfl rfl rfl (by kernel_rfl) (by kernel_rfl) (by kernel_rfl) (fun _ _ _ _ h => h) (vl_fieldAddr ty87 fo87_1 ty3 rfl) rfl rfl ?_
                      refine m_take_yes (j := 24) (t := 202) 27 true rfl rfl rfl rfl rfl (by kernel_rfl) (by kernel_rfl) (by kernel_rfl) (fun _ _ _ _ h => h) (v_loadl ty3 rfl rfl rfl rfl) rfl rfl ?_
                      refine m_take_yes (j := 24) (t := 202) 29 false rfl rfl rfl rfl rfl (by kernel_rfl) (by kernel_rfl) (by kernel_rfl) (fun _ _ _ _ h => h) (v_move rfl) rfl rfl ?_
                      refine m_one_yes (j := 24) (t := 202) 28 (by kernel_rfl) rfl rfl rfl rfl rfl ?_
                      refine sm_callp rfl rfl rfl (vw_ok h3 d room s3 x.node _ hI3 hI3s hok2) ?_
                      rintro _ rfl
                      rw [hvE]
                      refine m_one_yes (j := 24) (t := 202) 30 (by kernel_rfl) rfl rfl rfl rfl rfl ?_
                      refine sm_callp rfl rfl rfl (allAlike_ok [] [] _ _ _ rfl rfl (by simp) (by simp)) ?_
                      rintro _ rfl
                      refine m_take_yes (j := 24) (t := 202) 31 false rfl rfl rfl rfl rfl (by kernel_rfl) (by kernel_rfl) (by kernel_rfl) (fun _ _ _ _ h => h) (v_not rfl) rfl rfl ?_
                      refine m_tk 32 false rfl rfl (by kernel_rfl) (v_pick_f rfl rfl) rfl rfl ?_
                      refine m_done (by kernel_rfl) ?_
                      refine g_next hK39 ?_
                      first | refine g_keep [0, 1, 2, 3, 9, 12, 210] [11] [11] (keep_cons rfl (keep_cons rfl (keep_cons rfl (keep_cons rfl (keep_cons rfl (keep_cons rfl (keep_cons rfl keep_nil))))))) (lkeep_cons rfl lkeep_nil) (keep_cons rfl keep_nil) rfl ?_ | refine g_keep [0, 1, 2, 3, 9, 12, 210] [11] [11] rfl rfl rfl rfl ?_
                      refine g_cond rfl (fun hc210 => ?_) (fun hc210 => ?_)
                      · exfalso; (try simp only [NM] at hc210); first | (simp at hc210; done) | exact hc210 rfl | cases hc210
                      ·
                       try simp only [NM] at hc210
                       refine g_skip ?_
                       refine g_block_normal ?_
                       refine g_next hK19 ?_
                       refine g_region ?_
                       refine g_step rfl (s_val (v_move rfl) rfl rfl ?_)
                       refine g_step rfl (s_val (v_add rfl rfl (by omega)) rfl rfl ?_)
                       refine g_step rfl (s_val (v_assign rfl) rfl rfl ?_)
                       refine g_nil ?_
                       first | refine g_keep [0, 1, 2, 3, 9, 12] [11] [11] (keep_cons rfl (keep_cons rfl (keep_cons rfl (keep_cons rfl (keep_cons rfl (keep_cons rfl keep_nil)))))) (lkeep_cons rfl lkeep_nil) (keep_cons rfl keep_nil) rfl ?_ | refine g_keep [0, 1, 2, 3, 9, 12] [11] [11] rfl rfl rfl rfl ?_
                       first | exact g_round _ (by omega) ⟨k + 1, s3, m3, av3, h3, h5, by omega, rfl, rfl, rfl, rfl, ⟨hS4, hsH4, hI3, hok2, hL3, hR2, hlen, hpl3⟩⟩ | exact g_round _ (by omega) ⟨k + 1, s, m, av, h3, h2, by omega, rfl, rfl, rfl, rfl, ⟨hS2, hsH2, by rw [hbad] at hI2; exact hI2, hok, hL, hR, hlen, by omega⟩⟩
                  ·
                   refine g_step rfl (s_fieldAddr ty85 fo85_0 ty81 rfl rfl ?_)
                   have hup1 : m3.ups[j]? = some true := by rw [hup, hlo3]; rfl
                   have hupE : upW s3 x.node = true := by rw [upW_at hj hjl3, hlo3]; rfl
                   have hvE : viewW s3 x.node = l3 := by rw [viewW_at hj hjl3, hlo3]; rfl
                   have hh3 := hR2.has j l3 hlo3
                   rw [hvE] at hv3
                   refine g_step rfl (s_val (v_loadl ty81 rfl rfl rfl rfl) rfl rfl ?_)
                   refine g_step rfl (s_fieldAddr ty87 fo87_1 ty3 rfl rfl ?_)
                   refine g_step rfl (s_val (v_loadl ty3 rfl rfl rfl rfl) rfl rfl ?_)
                   refine g_step rfl (s_val (v_indexAddr ty81 ty4 rfl rfl hVu hj (map_get hup1) rfl) rfl rfl ?_)
                   refine g_step rfl (s_val (by first | exact v_load ty4 rfl rfl hVu (map_get hup1) rfl | exact v_load_box ty4 rfl rfl (by assumption) rfl) rfl rfl ?_)
                   refine g_nil ?_
                   refine g_next hK38 ?_
                   refine g_cond rfl (fun hc170 => ?_) (fun hc170 => ?_)
                   ·
                    try simp only [NM] at hc170
                    refine g_region ?_
                    refine g_step rfl (s_fieldAddr ty85 fo85_1 ty82 rfl rfl ?_)
                    refine g_step rfl (s_val (v_loadl ty82 rfl rfl rfl rfl) rfl rfl ?_)
                    refine g_step rfl (s_fieldAddr ty87 fo87_1 ty3 rfl rfl ?_)
                    refine g_step rfl (s_val (v_loadl ty3 rfl rfl rfl rfl) rfl rfl ?_)
                    refine g_step rfl (s_val (v_indexAddr ty82 ty61 rfl rfl hVh hj (map_get hh3) rfl) rfl rfl ?_)
                    refine g_step rfl (s_val (by first | exact v_fieldAddr ty61 fo61_2 ty22 rfl | exact v_fieldAddr_box ty61 fo61_2 ty22 rfl) rfl rfl ?_)
                    refine g_step rfl (s_val (by first | exact v_load ty22 rfl rfl hVh (map_get hh3) rfl | exact v_load_box ty22 rfl rfl (by assumption) rfl) rfl rfl ?_)
                    refine g_step rfl (s_val (v_assign rfl) rfl rfl ?_)
                    refine g_nil ?_
                    refine g_next hK37 ?_
                    refine g_seq (fun K40 hK40 => ?_)
                    refine g_draw (n := 33) (fun j => !([] : List Nat).contains j) rfl rfl ?_
                    refine m_tk 0 false rfl rfl (by kernel_rfl) (v_move rfl) rfl rfl ?_
                    refine m_takel 1 rfl rfl (by kernel_rfl) (by kernel_rfl) (by kernel_rfl) (fun _ _ _ _ h => h) (vl_fieldAddr ty87 fo87_1 ty3 rfl) rfl rfl ?_
                    refine m_tk 2 true rfl rfl (by kernel_rfl) (v_loadl ty3 rfl rfl rfl rfl) rfl rfl ?_
                    refine m_takel 4 rfl rfl (by kernel_rfl) (by kernel_rfl) (by kernel_rfl) (fun _ _ _ _ h => h) (vl_fieldAddr ty85 fo85_0 ty81 rfl) rfl rfl ?_
                    refine m_tk 5 true rfl rfl (by kernel_rfl) (v_loadl ty81 rfl rfl rfl rfl) rfl rfl ?_
                    refine m_takel 6 rfl rfl (by kernel_rfl) (by kernel_rfl) (by kernel_rfl) (fun _ _ _ _ h => h) (vl_fieldAddr ty87 fo87_1 ty3 rfl) rfl rfl ?_
                    refine m_tk 7 true rfl rfl (by kernel_rfl) (v_loadl ty3 rfl rfl rfl rfl) rfl rfl ?_
                    refine m_tk 8 false rfl rfl (by kernel_rfl) (v_indexAddr ty81 ty4 rfl rfl hVu hj (map_get hup1) rfl) rfl rfl ?_
                    refine m_tk 9 true rfl rfl (by kernel_rfl) (by first | exact v_load ty4 rfl rfl hVu (map_get hup1) rfl | exact v_load_box ty4 rfl rfl (by assumption) rfl) rfl rfl ?_
                    refine m_one 3 (by kernel_rfl) rfl rfl ?_
                    refine sm_callp rfl rfl rfl (up_ok h3 d room s3 x.node _ hI3 hI3s hok2) ?_
                    rintro _ rfl
                    rw [hupE]
                    refine m_tk 10 false rfl rfl (by kernel_rfl) (v_bool_neq ty4 rfl rfl) rfl rfl ?_
                    refine m_tk 11 false rfl rfl (by kernel_rfl) (v_move rfl) rfl rfl ?_
                    refine m_split 189 rfl (fun hg189 => ?_) (fun hg189 => ?_)
                    · exfalso; (try simp only [NM] at hg189); first | (simp at hg189; done) | exact hg189 rfl | cases hg189
                    ·
                     try simp only [NM] at hg189
                     refine m_take_yes (j := 11) (t := 189) 12 false rfl rfl rfl rfl rfl (by kernel_rfl) (by kernel_rfl) (by kernel_rfl) (fun _ _ _ _ h => h) (v_move rfl) rfl rfl ?_
                     refine m_takel_yes (j := 11) (t := 189) 13 rfl rfl rfl rfl rfl (by kernel_rfl) (by kernel_rfl) (by kernel_rfl) (fun _ _ _ _ h => h) (vl_fieldAddr ty87 fo87_1 ty3 rfl) rfl rfl ?_
                     refine m_take_yes (j := 11) (t := 189) 14 true rfl rfl rfl rfl rfl (by kernel_rfl) (by kernel_rfl) (by kernel_rfl) (fun _ _ _ _ h => h) (v_loadl ty3 rfl rfl rfl rfl) rfl rfl ?_
                     refine m_takel_yes (j := 11) (t := 189) 16 rfl rfl rfl rfl rfl (by kernel_rfl) (by kernel_rfl) (by kernel_rfl) (fun _ _ _ _ h => h) (vl_fieldAddr ty85 fo85_2 ty71 rfl) rfl rfl ?_
                     refine m_take_yes (j := 11) (t := 189) 17 true rfl rfl rfl rfl rfl (by kernel_rfl) (by kernel_rfl) (by kernel_rfl) (fun _ _ _ _ h => h) (v_loadl ty71 rfl rfl rfl rfl) rfl rfl ?_
                     refine m_takel_yes (j := 11) (t := 189) 18 rfl rfl rfl rfl rfl (by kernel_rfl) (by kernel_rfl) (by kernel_rfl) (fun _ _ _ _ h => h) (vl_fieldAddr ty87 fo87_1 ty3 rfl) rfl rfl ?_
                     refine m_take_yes (j := 11) (t := 189) 19 true rfl rfl rfl rfl rfl (by kernel_rfl) (by kernel_rfl) (by kernel_rfl) (fun _ _ _ _ h => h) (v_loadl ty3 rfl rfl rfl rfl) rfl rfl ?_
                     refine m_take_yes (j := 11) (t := 189) 20 false rfl rfl rfl rfl rfl (by kernel_rfl) (by kernel_rfl) (by kernel_rfl) (fun _ _ _ _ h => h) (v_indexAddr ty71 ty3 rfl rfl hVc hj (map_get hc3) rfl) rfl rfl ?_
                     refine m_take_yes (j := 11) (t := 189) 21 true rfl rfl rfl rfl rfl (by kernel_rfl) (by kernel_rfl) (by kernel_rfl) (fun _ _ _ _ h => h) (by first | exact v_load ty3 rfl rfl hVc (map_get hc3) rfl | exact v_load_box ty3 rfl rfl (by assumption) rfl) rfl rfl ?_
                     refine m_one_yes (j := 11) (t := 189) 15 (by kernel_rfl) rfl rfl rfl rfl rfl ?_
                     refine sm_callp rfl rfl rfl (wcell_ok h3 d room s3 x.node _ hI3 hI3s hok2) ?_
                     rintro _ rfl
                     rw [hcE]
                     refine m_take_yes (j := 11) (t := 189) 22 false rfl rfl rfl rfl rfl (by kernel_rfl) (by kernel_rfl) (by kernel_rfl) (fun _ _ _ _ h => h) (v_neq rfl rfl) rfl rfl ?_
                     refine m_tk 23 false rfl rfl (by kernel_rfl) (v_pick_f rfl rfl) rfl rfl ?_
                     refine m_tk 24 false rfl rfl (by kernel_rfl) (v_move rfl) rfl rfl ?_
                     refine m_split 202 rfl (fun hg202 => ?_) (fun hg202 => ?_)
                     · exfalso; (try simp only [NM] at hg202); first | (simp at hg202; done) | exact hg202 rfl | cases hg202
                     ·
                      try simp only [NM] at hg202
                      refine m_take_yes (j := 24) (t := 202) 25 false rfl rfl rfl rfl rfl (by kernel_rfl) (by kernel_rfl) (by kernel_rfl) (fun _ _ _ _ h => h) (v_move rfl) rfl rfl ?_
                      refine m_takel_yes (j := 24) (t := 202) 26 rfl rfl rfl rfl rfl (by kernel_rfl) (by kernel_rfl) (by kernel_rfl) (fun _ _ _ _ h => h) (vl_fieldAddr ty87 fo87_1 ty3 rfl) rfl rfl ?_
                      refine m_take_yes (j := 24) (t := 202) 27 true rfl rfl rfl rfl rfl (by kernel_rfl) (by kernel_rfl) (by kernel_rfl) (fun _ _ _ _ h => h) (v_loadl ty3 rfl rfl rfl rfl) rfl rfl ?_
                      refine m_take_yes (j := 24) (t := 202) 29 false rfl rfl rfl rfl rfl (by kernel_rfl) (by kernel_rfl) (by kernel_rfl) (fun _ _ _ _ h => h) (v_move rfl) rfl rfl ?_
                      refine m_one_yes (j := 24) (t := 202) 28 (by kernel_rfl) rfl rfl rfl rfl rfl ?_
                      refine sm_callp rfl rfl rfl (vw_ok h3 d room s3 x.node _ hI3 hI3s hok2) ?_
                      rintro _ rfl
                      rw [hvE]
                      refine m_one_yes (j := 24) (t := 202) 30 (by kernel_rfl) rfl rfl rfl rfl rfl ?_
                      refine sm_callp rfl rfl rfl (allAlike_ok l3 l3 _ _ _ rfl rfl (by omega) hv3.2) ?_
                      rintro _ rfl
                      refine m_take_yes (j := 24) (t := 202) 31 false rfl rfl rfl rfl rfl (by kernel_rfl) (by kernel_rfl) (by kernel_rfl) (fun _ _ _ _ h => h) (v_not rfl) rfl rfl ?_
                      refine m_tk 32 false rfl rfl (by kernel_rfl) (v_pick_f rfl rfl) rfl rfl ?_
                      refine m_done (by kernel_rfl) ?_
                      refine g_next hK40 ?_
                      first | refine g_keep [0, 1, 2, 3, 9, 12, 210] [11] [11] (keep_cons rfl (keep_cons rfl (keep_cons rfl (keep_cons rfl (keep_cons rfl (keep_cons rfl (keep_cons rfl keep_nil))))))) (lkeep_cons rfl lkeep_nil) (keep_cons rfl keep_nil) rfl ?_ | refine g_keep [0, 1, 2, 3, 9, 12, 210] [11] [11] rfl rfl rfl rfl ?_
                      refine g_cond rfl (fun hc210 => ?_) (fun hc210 => ?_)
                      · exfalso; (try simp only [NM] at hc210); first | (simp at hc210; done) | exact hc210 rfl | cases hc210
                      ·
                       try simp only [NM] at hc210
                       refine g_skip ?_
                       refine g_block_normal ?_
                       refine g_next hK19 ?_
                       refine g_region ?_
                       refine g_step rfl (s_val (v_move rfl) rfl rfl ?_)
                       refine g_step rfl (s_val (v_add rfl rfl (by omega)) rfl rfl ?_)
                       refine g_step rfl (s_val (v_assign rfl) rfl rfl ?_)
                       refine g_nil ?_
                       first | refine g_keep [0, 1, 2, 3, 9, 12] [11] [11] (keep_cons rfl (keep_cons rfl (keep_cons rfl (keep_cons rfl (keep_cons rfl (keep_cons rfl keep_nil)))))) (lkeep_cons rfl lkeep_nil) (keep_cons rfl keep_nil) rfl ?_ | refine g_keep [0, 1, 2, 3, 9, 12] [11] [11] rfl rfl rfl rfl ?_
                       first | exact g_round _ (by omega) ⟨k + 1, s3, m3, av3, h3, h5, by omega, rfl, rfl, rfl, rfl, ⟨hS4, hsH4, hI3, hok2, hL3, hR2, hlen, hpl3⟩⟩ | exact g_round _ (by omega) ⟨k + 1, s, m, av, h3, h2, by omega, rfl, rfl, rfl, rfl, ⟨hS2, hsH2, by rw [hbad] at hI2; exact hI2, hok, hL, hR, hlen, by omega⟩⟩
                   · exfalso; (try simp only [NM] at hc170); first | (simp at hc170; done) | exact hc170 rfl | cases hc170
          ·
           try simp only [NM] at hc72
           obtain rfl : k = l.length := by omega
           have hpl9 : m.post.length ≤ 100 := by omega
           have hI1s := (hS.1 h1 (by simp)).1
           have hI2s := (hS.1 h2 (by simp)).1
           have hPv := (hL.pp.mono hI2s).view
           have hlt := hok.letter no
           refine g_exit ?_
           refine g_then_exit ?_
           refine g_then_exit ?_
           refine g_block_same ?_
           refine g_next hK15 ?_
           refine g_seq (fun K41 hK41 => ?_)
           refine g_region ?_
           refine g_step rfl (s_val (v_move rfl) rfl rfl ?_)
           refine g_step rfl (s_val (v_move rfl) rfl rfl ?_)
           refine g_step rfl (s_callp rfl rfl rfl (wletter_ok h1 d room s no _ hI hI1s hok) ?_)
           rintro _ rfl
           refine g_step rfl (s_val (v_move rfl) rfl rfl ?_)
           refine g_step rfl (s_val (v_extract rfl rfl) rfl rfl ?_)
           refine g_step rfl (s_val (v_extract rfl rfl) rfl rfl ?_)
           refine g_step rfl (s_val (v_assign rfl) rfl rfl ?_)
           refine g_step rfl (s_val (v_assign rfl) rfl rfl ?_)
           refine g_nil ?_
           refine g_next hK41 ?_
           refine g_seq (fun K42 hK42 => ?_)
           refine g_region ?_
           refine g_step rfl (s_val (by first | exact v_loadl_all ty85 rfl rfl rfl rfl rfl | exact v_loadl_part (cs := [_, _, _, _]) ty85 rfl rfl rfl rfl rfl rfl) rfl rfl ?_)
           refine g_step rfl (s_val (v_move rfl) rfl rfl ?_)
           refine g_step rfl (s_callp rfl rfl rfl (letter34_ok h2 ur hr cr nn av m no _ hL hI2s (by omega)) ?_)
           rintro _ rfl
           refine g_step rfl (s_val (v_assign rfl) rfl rfl ?_)
           refine g_nil ?_
           refine g_next hK42 ?_
           refine g_seq (fun K43 hK43 => ?_)
           refine g_seq (fun K44 hK44 => ?_)
           refine g_region ?_
           rcases hR.lix_cases no with ⟨hx1, hp⟩ | ⟨j, q, hj, hq, hp⟩
           ·
            refine g_step rfl (s_val (v_move rfl) rfl rfl ?_)
            refine g_step rfl (s_val (v_move rfl) rfl rfl ?_)
            refine g_step rfl (s_val (v_geq rfl rfl) rfl rfl ?_)
            refine g_step rfl (s_val (v_bool_neq ty4 rfl rfl) rfl rfl ?_)
            refine g_step rfl (s_val (v_move rfl) rfl rfl ?_)
            refine g_split 224 rfl (fun hg224 => ?_) (fun hg224 => ?_)
            · exfalso; (try simp only [NM] at hg224); (rw [hp] at hg224; first | (simp at hg224; done) | (simp at hg224; omega))
            ·
             try simp only [NM] at hg224
             refine g_step_yes (j := 4) (t := 224) rfl rfl rfl rfl (s_val (v_move rfl) rfl rfl ?_)
             refine g_step_yes (j := 4) (t := 224) rfl rfl rfl rfl (s_val (v_move rfl) rfl rfl ?_)
             refine g_split 226 rfl (fun hg226 => ?_) (fun hg226 => ?_)
             · exfalso; (try simp only [NM] at hg226); (rw [hp] at hg226; cases hg226)
             ·
              try simp only [NM] at hg226
              refine g_step_no (j := 6) (t := 226) rfl rfl rfl rfl rfl rfl rfl ?_
              refine g_step_no (j := 6) (t := 226) rfl rfl rfl rfl rfl rfl rfl ?_
              refine g_step_no (j := 6) (t := 226) rfl rfl rfl rfl rfl rfl rfl ?_
              refine g_step_no (j := 6) (t := 226) rfl rfl rfl rfl rfl rfl rfl ?_
              refine g_step_no (j := 6) (t := 226) rfl rfl rfl rfl rfl rfl rfl ?_
              refine g_step_no (j := 6) (t := 226) rfl rfl rfl rfl rfl rfl rfl ?_
              refine g_step_no (j := 6) (t := 226) rfl rfl rfl rfl rfl rfl rfl ?_
              refine g_step_no (j := 6) (t := 226) rfl rfl rfl rfl rfl rfl rfl ?_
              refine g_step_no (j := 6) (t := 226) rfl rfl rfl rfl rfl rfl rfl ?_
              refine g_step_yes (j := 4) (t := 224) rfl rfl rfl rfl (s_val (v_pick_f rfl rfl) rfl rfl ?_)
              refine g_step rfl (s_val (v_pick_f rfl rfl) rfl rfl ?_)
              refine g_step rfl (s_val (v_move rfl) rfl rfl ?_)
              refine g_step_yes (j := 18) (t := 238) rfl rfl rfl rfl (s_val (v_move rfl) rfl rfl ?_)
              refine g_step_yes (j := 18) (t := 238) rfl rfl rfl rfl (s_val (v_not rfl) rfl rfl ?_)
              refine g_step_yes (j := 18) (t := 238) rfl rfl rfl rfl (s_val (v_move rfl) rfl rfl ?_)
              refine g_split 241 rfl (fun hg241 => ?_) (fun hg241 => ?_)
              ·
               try simp only [NM] at hg241
               refine g_step_yes (j := 21) (t := 241) rfl rfl rfl rfl (s_val (v_move rfl) rfl rfl ?_)
               refine g_step_yes (j := 21) (t := 241) rfl rfl rfl rfl (s_val (v_len ty22 rfl (by first | rfl | assumption) (by first | exact List.length_map .. | rfl)) rfl rfl ?_)
               refine g_step_yes (j := 21) (t := 241) rfl rfl rfl rfl (s_val (v_neq rfl rfl) rfl rfl ?_)
               refine g_step_yes (j := 18) (t := 238) rfl rfl rfl rfl (s_val (v_pick_t rfl rfl) rfl rfl ?_)
               refine g_step rfl (s_val (v_pick_f rfl rfl) rfl rfl ?_)
               refine g_nil ?_
               refine g_next hK44 ?_
               first | refine g_keep [246] [] [] (keep_cons rfl keep_nil) lkeep_nil keep_nil rfl ?_ | refine g_keep [246] [] [] rfl rfl rfl rfl ?_
               refine g_cond rfl (fun hc246 => ?_) (fun hc246 => ?_)
               · exfalso; (try simp only [NM] at hc246); (rw [hp] at hc246; first | exact hc246 rfl | (simp at hc246; done))
               ·
                try simp only [NM] at hc246
                refine g_skip ?_
                refine g_next hK43 ?_
                refine g_seq (fun K45 hK45 => ?_)
                refine g_region ?_
                refine g_step rfl (s_callp rfl rfl rfl (awake34_ok _) ?_)
                rintro _ rfl
                refine g_step rfl (s_val (v_assign rfl) rfl rfl ?_)
                refine g_nil ?_
                refine g_next hK45 ?_
                refine g_ret ?_
                refine g_end1 (.inl rfl) Try.results9 (.tmp rfl) [] (ASub.refl _) (by first | exact AHeap.sub_refl _ | exact hsH) (fun p hp => by cases hp) ⟨rfl, ?_⟩
                rfl
              · exfalso; (try simp only [NM] at hg241); (rw [hp] at hg241; cases hg241)
           ·
            refine g_step rfl (s_val (v_move rfl) rfl rfl ?_)
            refine g_step rfl (s_val (v_move rfl) rfl rfl ?_)
            refine g_step rfl (s_val (v_geq rfl rfl) rfl rfl ?_)
            refine g_step rfl (s_val (v_bool_neq ty4 rfl rfl) rfl rfl ?_)
            refine g_step rfl (s_val (v_move rfl) rfl rfl ?_)
            refine g_split 224 rfl (fun hg224 => ?_) (fun hg224 => ?_)
            · exfalso; (try simp only [NM] at hg224); (rw [hp, hj] at hg224; first | (simp at hg224; done) | (simp at hg224; omega))
            ·
             try simp only [NM] at hg224
             refine g_step_yes (j := 4) (t := 224) rfl rfl rfl rfl (s_val (v_move rfl) rfl rfl ?_)
             refine g_step_yes (j := 4) (t := 224) rfl rfl rfl rfl (s_val (v_move rfl) rfl rfl ?_)
             refine g_split 226 rfl (fun hg226 => ?_) (fun hg226 => ?_)
             ·
              try simp only [NM] at hg226
              refine g_step_yes (j := 6) (t := 226) rfl rfl rfl rfl (s_val (v_move rfl) rfl rfl ?_)
              refine g_step_yes (j := 6) (t := 226) rfl rfl rfl rfl (s_fieldAddr ty85 fo85_3 ty83 rfl rfl ?_)
              refine g_step_yes (j := 6) (t := 226) rfl rfl rfl rfl (s_val (v_loadl ty83 rfl rfl rfl rfl) rfl rfl ?_)
              refine g_step_yes (j := 6) (t := 226) rfl rfl rfl rfl (s_val (v_move rfl) rfl rfl ?_)
              refine g_step_yes (j := 6) (t := 226) rfl rfl rfl rfl (s_val (v_indexAddr ty83 ty97 rfl rfl hPv hj (map_get hq) rfl) rfl rfl ?_)
              refine g_step_yes (j := 6) (t := 226) rfl rfl rfl rfl (s_val (by first | exact v_fieldAddr ty97 fo97_1 ty22 rfl | exact v_fieldAddr_box ty97 fo97_1 ty22 rfl) rfl rfl ?_)
              refine g_step_yes (j := 6) (t := 226) rfl rfl rfl rfl (s_val (by first | exact v_load ty22 rfl rfl hPv (map_get hq) rfl | exact v_load_box ty22 rfl rfl (by assumption) rfl) rfl rfl ?_)
              refine g_step_yes (j := 6) (t := 226) rfl rfl rfl rfl (s_callp rfl rfl rfl (allAlike_ok ((pget s.post no).getD []) q.2 _ _ _ rfl rfl (by omega) hlt.2) ?_)
              rintro _ rfl
              refine g_step_yes (j := 6) (t := 226) rfl rfl rfl rfl (s_val (v_not rfl) rfl rfl ?_)
              refine g_step_yes (j := 4) (t := 224) rfl rfl rfl rfl (s_val (v_pick_t rfl rfl) rfl rfl ?_)
              refine g_step rfl (s_val (v_pick_f rfl rfl) rfl rfl ?_)
              refine g_step rfl (s_val (v_move rfl) rfl rfl ?_)
              refine g_split 238 rfl (fun hg238 => ?_) (fun hg238 => ?_)
              · exfalso; (try simp only [NM] at hg238); (rw [hp] at hg238; first | exact hg238 rfl | (simp at hg238; done))
              ·
               try simp only [NM] at hg238
               refine g_step_yes (j := 18) (t := 238) rfl rfl rfl rfl (s_val (v_move rfl) rfl rfl ?_)
               refine g_step_yes (j := 18) (t := 238) rfl rfl rfl rfl (s_val (v_not rfl) rfl rfl ?_)
               refine g_step_yes (j := 18) (t := 238) rfl rfl rfl rfl (s_val (v_move rfl) rfl rfl ?_)
               refine g_split 241 rfl (fun hg241 => ?_) (fun hg241 => ?_)
               · exfalso; (try simp only [NM] at hg241); (rw [hp] at hg241; cases hg241)
               ·
                try simp only [NM] at hg241
                refine g_step_no (j := 21) (t := 241) rfl rfl rfl rfl rfl rfl rfl ?_
                refine g_step_no (j := 21) (t := 241) rfl rfl rfl rfl rfl rfl rfl ?_
                refine g_step_no (j := 21) (t := 241) rfl rfl rfl rfl rfl rfl rfl ?_
                refine g_step_yes (j := 18) (t := 238) rfl rfl rfl rfl (s_val (v_pick_f rfl rfl) rfl rfl ?_)
                refine g_step rfl (s_val (v_pick_f rfl rfl) rfl rfl ?_)
                refine g_nil ?_
                refine g_next hK44 ?_
                first | refine g_keep [246] [] [] (keep_cons rfl keep_nil) lkeep_nil keep_nil rfl ?_ | refine g_keep [246] [] [] rfl rfl rfl rfl ?_
                refine g_cond rfl (fun h => by cases h) (fun _ => ?_)
                refine g_skip ?_
                refine g_next hK43 ?_
                refine g_seq (fun K46 hK46 => ?_)
                refine g_region ?_
                refine g_step rfl (s_callp rfl rfl rfl (awake34_ok _) ?_)
                rintro _ rfl
                refine g_step rfl (s_val (v_assign rfl) rfl rfl ?_)
                refine g_nil ?_
                refine g_next hK46 ?_
                refine g_ret ?_
                refine g_end1 (.inl rfl) Try.results9 (.tmp rfl) [] (ASub.refl _) (by first | exact AHeap.sub_refl _ | exact hsH) (fun p hp => by cases hp) ⟨rfl, ?_⟩
                rfl
             · exfalso; (try simp only [NM] at hg226); (rw [hp] at hg226; cases hg226)

end Go.Proofs.Ytgipbhfblmblcaa

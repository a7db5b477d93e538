import Derived.Test.YtgedefcjngofkaaBag
import Derived.Test.YtgedefcjngofkaaSpan
import Derived.Test.YtgedefcjngofkaaPRec
set_option maxHeartbeats 8000000
set_option linter.unusedSimpArgs false
set_option linter.unusedVariables false
set_option maxRecDepth 100000
namespace Go.Proofs.Ytgedefcjngofkaa
open Go Go.Proofs.Ytgedefcjngofkaa.AM
theorem core_ok (r : Rc) (G : AHeap) : PCalls Try.prog 112 [encR r] G (fun v => v = encR (core r)) := by
 refine LCalls.intro 12 fi112 rfl Try.ntmps112 rfl (fun _ h => h.elim) (fun H hH w0 hw0 => ?_)
 refine g_seq (fun K0 hK0 => ?_)
 refine g_region ?_
 refine g_step rfl (s_box rfl rfl rfl rfl ?_)
 refine g_step rfl (s_alloc (av := (.agg [(.int .i64 0), (.int .i64 0), (.int .i64 0), (.int .i64 0), (.int .i64 0), (.bool false), .nil0])) ty32 rfl rfl rfl rfl ?_)
 refine g_nil ?_
 refine g_next hK0 ?_
 refine g_seq (fun K1 hK1 => ?_)
 refine g_region ?_
 refine g_step rfl (s_fieldAddr ty32 fo32_0 ty3 rfl rfl ?_)
 refine g_step rfl (s_val (v_loadl ty3 rfl rfl rfl rfl) rfl rfl ?_)
 refine g_step rfl (s_fieldAddr ty32 fo32_1 ty3 rfl rfl ?_)
 refine g_step rfl (s_val (v_loadl ty3 rfl rfl rfl rfl) rfl rfl ?_)
 refine g_step rfl (s_fieldAddr ty32 fo32_2 ty3 rfl rfl ?_)
 refine g_step rfl (s_val (v_loadl ty3 rfl rfl rfl rfl) rfl rfl ?_)
 refine g_step rfl (s_fieldAddr ty32 fo32_3 ty24 rfl rfl ?_)
 refine g_step rfl (s_val (v_loadl_part (cs := [_, _]) ty24 rfl rfl rfl rfl rfl rfl) rfl rfl ?_)
 refine g_step rfl (s_val (v_sub (b := (encR (core r))) (v_build (vs := [(0, _), (1, _), (2, _), (3, _)]) (zs := [(.int .i64 0), (.int .i64 0), (.int .i64 0), (.int .i64 0), (.int .i64 0), (.bool false), .nil0]) (cells := [_, _, _, _, _, _, _]) ty32 pl32 rfl rfl rfl) (ASub.of_wk rfl)) rfl rfl ?_)
 refine g_step rfl (s_store_all ty32 rfl rfl rfl rfl rfl rfl ?_)
 refine g_nil ?_
 refine g_next hK1 ?_
 refine g_ret ?_
 refine g_end1 (.inl rfl) Try.results112 (.agg ty32 rfl rfl rfl rfl rfl) [] (ASub.refl _) (AHeap.sub_refl _) (fun p hp => by cases hp) ⟨rfl, ?_⟩
 rfl

theorem bare_ok (r : Rc) (G : AHeap) (hl : Small r.bag) : PCalls Try.prog 108 [encR r] G (fun v => v = encR (bare r)) := by
 refine LCalls.intro 16 fi108 rfl Try.ntmps108 rfl (fun _ h => h.elim) (fun H hH w0 hw0 => ?_)
 refine g_seq (fun K0 hK0 => ?_)
 refine g_region ?_
 refine g_step rfl (s_box rfl rfl rfl rfl ?_)
 refine g_step rfl (s_alloc (av := (.agg [(.int .i64 0), (.int .i64 0), (.int .i64 0), (.int .i64 0), (.int .i64 0), (.bool false), .nil0])) ty32 rfl rfl rfl rfl ?_)
 refine g_nil ?_
 refine g_next hK0 ?_
 refine g_seq (fun K1 hK1 => ?_)
 refine g_region ?_
 refine g_step rfl (s_val (by first | exact v_loadl_all ty32 rfl rfl rfl rfl rfl | exact v_loadl_part (cs := [_, _, _, _, _, _, _]) ty32 rfl rfl rfl rfl rfl rfl) rfl rfl ?_)
 refine g_step rfl (s_callp rfl rfl rfl (core_ok r _) ?_)
 rintro _ rfl
 refine g_step rfl (s_alloc (av := (.agg [(.int .i64 0), (.int .i64 0), (.int .i64 0), (.int .i64 0), (.int .i64 0), (.bool false), .nil0])) ty32 rfl rfl rfl rfl ?_)
 refine g_step rfl (s_store_all ty32 rfl rfl rfl rfl rfl rfl ?_)
 refine g_nil ?_
 refine g_next hK1 ?_
 refine g_seq (fun K2 hK2 => ?_)
 refine g_region ?_
 refine g_step rfl (s_fieldAddr ty32 fo32_4 ty4 rfl rfl ?_)
 refine g_step rfl (s_val (v_loadl ty4 rfl rfl rfl rfl) rfl rfl ?_)
 refine g_step rfl (s_val (v_move rfl) rfl rfl ?_)
 refine g_split 8 rfl (fun hg8 => ?_) (fun hg8 => ?_)
 ·
  try simp only [NM] at hg8
  refine g_step_no (j := 2) (t := 8) rfl rfl rfl rfl rfl rfl rfl ?_
  refine g_step_no (j := 2) (t := 8) rfl rfl rfl rfl rfl rfl rfl ?_
  refine g_step_no (j := 2) (t := 8) rfl rfl rfl rfl rfl rfl rfl ?_
  refine g_step_no (j := 2) (t := 8) rfl rfl rfl rfl rfl rfl rfl ?_
  refine g_step rfl (s_val (v_pick_t rfl rfl) rfl rfl ?_)
  refine g_step rfl (s_fieldAddr ty32 fo32_4 ty4 rfl rfl ?_)
  refine g_step rfl (s_store (new := .agg [_, _, _, _, _, _, _]) ty4 rfl rfl rfl rfl rfl rfl rfl ?_)
  refine g_nil ?_
  refine g_next hK2 ?_
  refine g_seq (fun K3 hK3 => ?_)
  refine g_region ?_
  refine g_step rfl (s_val (by first | exact v_loadl_all ty32 rfl rfl rfl rfl rfl | exact v_loadl_part (cs := [_, _, _, _, _, _, _]) ty32 rfl rfl rfl rfl rfl rfl) rfl rfl ?_)
  refine g_step rfl (s_store_all ty32 rfl rfl rfl rfl rfl rfl ?_)
  refine g_nil ?_
  refine g_next hK3 ?_
  refine g_ret ?_
  refine g_end1 (.inl rfl) Try.results108 (.agg ty32 rfl rfl rfl rfl rfl) [] (ASub.refl _) (AHeap.sub_refl _) (fun p hp => by cases hp) ⟨rfl, ?_⟩
  first | (simp [encR, bare, core, *]; done) | (simp [encR, bare, core, *]; rfl)
 ·
  try simp only [NM] at hg8
  refine g_step_yes (j := 2) (t := 8) rfl rfl rfl rfl (s_fieldAddr ty32 fo32_5 ty30 rfl rfl ?_)
  refine g_step_yes (j := 2) (t := 8) rfl rfl rfl rfl (s_val (v_loadl ty30 rfl rfl rfl rfl) rfl rfl ?_)
  refine g_step_yes (j := 2) (t := 8) rfl rfl rfl rfl (s_val (v_len ty30 rfl (by first | rfl | assumption) (by first | exact List.length_map .. | rfl)) rfl rfl ?_)
  refine g_step_yes (j := 2) (t := 8) rfl rfl rfl rfl (s_val (v_gtr rfl rfl) rfl rfl ?_)
  refine g_step rfl (s_val (v_pick_f rfl rfl) rfl rfl ?_)
  refine g_step rfl (s_fieldAddr ty32 fo32_4 ty4 rfl rfl ?_)
  refine g_step rfl (s_store (new := .agg [_, _, _, _, _, _, _]) ty4 rfl rfl rfl rfl rfl rfl rfl ?_)
  refine g_nil ?_
  refine g_next hK2 ?_
  refine g_seq (fun K4 hK4 => ?_)
  refine g_region ?_
  refine g_step rfl (s_val (by first | exact v_loadl_all ty32 rfl rfl rfl rfl rfl | exact v_loadl_part (cs := [_, _, _, _, _, _, _]) ty32 rfl rfl rfl rfl rfl rfl) rfl rfl ?_)
  refine g_step rfl (s_store_all ty32 rfl rfl rfl rfl rfl rfl ?_)
  refine g_nil ?_
  refine g_next hK4 ?_
  refine g_ret ?_
  refine g_end1 (.inl rfl) Try.results108 (.agg ty32 rfl rfl rfl rfl rfl) [] (ASub.refl _) (AHeap.sub_refl _) (fun p hp => by cases hp) ⟨rfl, ?_⟩
  first | (simp [encR, bare, core, *]; done) | (simp [encR, bare, core, *]; rfl)

theorem clone_ok (r : Rc) (G : AHeap) (hl : Small r.bag) : PCalls Try.prog 62 [encR r] G (fun v => v = encR r) := by
 refine LCalls.intro 8 fi62 rfl Try.ntmps62 rfl (fun _ h => h.elim) (fun H hH w0 hw0 => ?_)
 refine g_seq (fun K0 hK0 => ?_)
 refine g_region ?_
 refine g_step rfl (s_box rfl rfl rfl rfl ?_)
 refine g_step rfl (s_alloc (av := (.agg [(.int .i64 0), (.int .i64 0), (.int .i64 0), (.int .i64 0), (.int .i64 0), (.bool false), .nil0])) ty32 rfl rfl rfl rfl ?_)
 refine g_nil ?_
 refine g_next hK0 ?_
 refine g_seq (fun K1 hK1 => ?_)
 refine g_region ?_
 refine g_step rfl (s_fieldAddr ty32 fo32_5 ty30 rfl rfl ?_)
 refine g_step rfl (s_val (v_loadl ty30 rfl rfl rfl rfl) rfl rfl ?_)
 refine g_step rfl (s_callp rfl rfl rfl (bagCopy_ok _ _ _ rfl (by assumption)) ?_)
 rintro _ rfl
 refine g_step rfl (s_fieldAddr ty32 fo32_5 ty30 rfl rfl ?_)
 refine g_step rfl (s_store (new := .agg [_, _, _, _, _, _, _]) ty30 rfl rfl rfl rfl rfl rfl rfl ?_)
 refine g_nil ?_
 refine g_next hK1 ?_
 refine g_seq (fun K2 hK2 => ?_)
 refine g_region ?_
 refine g_step rfl (s_val (by first | exact v_loadl_all ty32 rfl rfl rfl rfl rfl | exact v_loadl_part (cs := [_, _, _, _, _, _, _]) ty32 rfl rfl rfl rfl rfl rfl) rfl rfl ?_)
 refine g_step rfl (s_store_all ty32 rfl rfl rfl rfl rfl rfl ?_)
 refine g_nil ?_
 refine g_next hK2 ?_
 refine g_ret ?_
 refine g_end1 (.inl rfl) Try.results62 (.agg ty32 rfl rfl rfl rfl rfl) [] (ASub.refl _) (AHeap.sub_refl _) (fun p hp => by cases hp) ⟨rfl, ?_⟩
 rfl

theorem recValid_ok (r : Rc) (G : AHeap) (hl : Small r.bag) : PCalls Try.prog 74 [encR r] G (fun v => v = .bool (recValid r)) := by
 refine LCalls.intro 50 fi74 rfl Try.ntmps74 rfl (fun _ h => h.elim) (fun H hH w0 hw0 => ?_)
 refine g_seq (fun K0 hK0 => ?_)
 refine g_region ?_
 refine g_step rfl (s_box rfl rfl rfl rfl ?_)
 refine g_step rfl (s_val (v_assign rfl) rfl rfl ?_)
 refine g_nil ?_
 refine g_next hK0 ?_
 refine g_seq (fun K1 hK1 => ?_)
 refine g_block ?_
 refine g_seq (fun K2 hK2 => ?_)
 refine g_region ?_
 refine g_step rfl (s_fieldAddr ty32 fo32_0 ty3 rfl rfl ?_)
 refine g_step rfl (s_val (v_loadl ty3 rfl rfl rfl rfl) rfl rfl ?_)
 refine g_step rfl (s_val (v_lss rfl rfl) rfl rfl ?_)
 refine g_step rfl (s_val (v_move rfl) rfl rfl ?_)
 refine g_split 7 rfl (fun hg7 => ?_) (fun hg7 => ?_)
 ·
  try simp only [NM] at hg7
  refine g_step_no (j := 3) (t := 7) rfl rfl rfl rfl rfl rfl rfl ?_
  refine g_step_no (j := 3) (t := 7) rfl rfl rfl rfl rfl rfl rfl ?_
  refine g_step_no (j := 3) (t := 7) rfl rfl rfl rfl rfl rfl rfl ?_
  refine g_step rfl (s_val (v_pick_t rfl rfl) rfl rfl ?_)
  refine g_step rfl (s_val (v_assign rfl) rfl rfl ?_)
  refine g_nil ?_
  refine g_next hK2 ?_
  refine g_cond rfl (fun _ => ?_) (fun h => by cases h)
  refine g_skip ?_
  refine g_block_normal ?_
  refine g_next hK1 ?_
  refine g_seq (fun K3 hK3 => ?_)
  refine g_region ?_
  refine g_step rfl (s_val (v_assign rfl) rfl rfl ?_)
  refine g_nil ?_
  refine g_next hK3 ?_
  refine g_ret ?_
  refine g_end1 (.inl rfl) Try.results74 (.tmp rfl) [] (ASub.refl _) (AHeap.sub_refl _) (fun p hp => by cases hp) ⟨rfl, ?_⟩
  first | (first | (simp [recValid, *] <;> omega) | (simp_all [recValid] <;> omega); done) | (first | (simp [recValid, *] <;> omega) | (simp_all [recValid] <;> omega); rfl)
 ·
  try simp only [NM] at hg7
  refine g_step_yes (j := 3) (t := 7) rfl rfl rfl rfl (s_fieldAddr ty32 fo32_0 ty3 rfl rfl ?_)
  refine g_step_yes (j := 3) (t := 7) rfl rfl rfl rfl (s_val (v_loadl ty3 rfl rfl rfl rfl) rfl rfl ?_)
  refine g_step_yes (j := 3) (t := 7) rfl rfl rfl rfl (s_val (v_gtr rfl rfl) rfl rfl ?_)
  refine g_step rfl (s_val (v_pick_f rfl rfl) rfl rfl ?_)
  refine g_step rfl (s_val (v_assign rfl) rfl rfl ?_)
  refine g_nil ?_
  refine g_next hK2 ?_
  refine g_cond rfl (fun hc3 => ?_) (fun hc3 => ?_)
  ·
   try simp only [NM] at hc3
   refine g_skip ?_
   refine g_block_normal ?_
   refine g_next hK1 ?_
   refine g_seq (fun K4 hK4 => ?_)
   refine g_region ?_
   refine g_step rfl (s_val (v_assign rfl) rfl rfl ?_)
   refine g_nil ?_
   refine g_next hK4 ?_
   refine g_ret ?_
   refine g_end1 (.inl rfl) Try.results74 (.tmp rfl) [] (ASub.refl _) (AHeap.sub_refl _) (fun p hp => by cases hp) ⟨rfl, ?_⟩
   first | (first | (simp [recValid, *] <;> omega) | (simp_all [recValid] <;> omega); done) | (first | (simp [recValid, *] <;> omega) | (simp_all [recValid] <;> omega); rfl)
  ·
   try simp only [NM] at hc3
   refine g_seq (fun K5 hK5 => ?_)
   refine g_region ?_
   refine g_step rfl (s_fieldAddr ty32 fo32_1 ty3 rfl rfl ?_)
   refine g_step rfl (s_val (v_loadl ty3 rfl rfl rfl rfl) rfl rfl ?_)
   refine g_step rfl (s_val (v_lss rfl rfl) rfl rfl ?_)
   refine g_step rfl (s_val (v_move rfl) rfl rfl ?_)
   refine g_split 16 rfl (fun hg16 => ?_) (fun hg16 => ?_)
   ·
    try simp only [NM] at hg16
    refine g_step_no (j := 3) (t := 16) rfl rfl rfl rfl rfl rfl rfl ?_
    refine g_step_no (j := 3) (t := 16) rfl rfl rfl rfl rfl rfl rfl ?_
    refine g_step_no (j := 3) (t := 16) rfl rfl rfl rfl rfl rfl rfl ?_
    refine g_step rfl (s_val (v_pick_t rfl rfl) rfl rfl ?_)
    refine g_step rfl (s_val (v_assign rfl) rfl rfl ?_)
    refine g_nil ?_
    refine g_next hK5 ?_
    refine g_cond rfl (fun _ => ?_) (fun h => by cases h)
    refine g_skip ?_
    refine g_block_normal ?_
    refine g_next hK1 ?_
    refine g_seq (fun K6 hK6 => ?_)
    refine g_region ?_
    refine g_step rfl (s_val (v_assign rfl) rfl rfl ?_)
    refine g_nil ?_
    refine g_next hK6 ?_
    refine g_ret ?_
    refine g_end1 (.inl rfl) Try.results74 (.tmp rfl) [] (ASub.refl _) (AHeap.sub_refl _) (fun p hp => by cases hp) ⟨rfl, ?_⟩
    first | (first | (simp [recValid, *] <;> omega) | (simp_all [recValid] <;> omega); done) | (first | (simp [recValid, *] <;> omega) | (simp_all [recValid] <;> omega); rfl)
   ·
    try simp only [NM] at hg16
    refine g_step_yes (j := 3) (t := 16) rfl rfl rfl rfl (s_fieldAddr ty32 fo32_1 ty3 rfl rfl ?_)
    refine g_step_yes (j := 3) (t := 16) rfl rfl rfl rfl (s_val (v_loadl ty3 rfl rfl rfl rfl) rfl rfl ?_)
    refine g_step_yes (j := 3) (t := 16) rfl rfl rfl rfl (s_val (v_gtr rfl rfl) rfl rfl ?_)
    refine g_step rfl (s_val (v_pick_f rfl rfl) rfl rfl ?_)
    refine g_step rfl (s_val (v_assign rfl) rfl rfl ?_)
    refine g_nil ?_
    refine g_next hK5 ?_
    refine g_cond rfl (fun hc12 => ?_) (fun hc12 => ?_)
    ·
     try simp only [NM] at hc12
     refine g_skip ?_
     refine g_block_normal ?_
     refine g_next hK1 ?_
     refine g_seq (fun K7 hK7 => ?_)
     refine g_region ?_
     refine g_step rfl (s_val (v_assign rfl) rfl rfl ?_)
     refine g_nil ?_
     refine g_next hK7 ?_
     refine g_ret ?_
     refine g_end1 (.inl rfl) Try.results74 (.tmp rfl) [] (ASub.refl _) (AHeap.sub_refl _) (fun p hp => by cases hp) ⟨rfl, ?_⟩
     first | (first | (simp [recValid, *] <;> omega) | (simp_all [recValid] <;> omega); done) | (first | (simp [recValid, *] <;> omega) | (simp_all [recValid] <;> omega); rfl)
    ·
     try simp only [NM] at hc12
     refine g_seq (fun K8 hK8 => ?_)
     refine g_region ?_
     refine g_step rfl (s_fieldAddr ty32 fo32_2 ty3 rfl rfl ?_)
     refine g_step rfl (s_val (v_loadl ty3 rfl rfl rfl rfl) rfl rfl ?_)
     refine g_step rfl (s_val (v_lss rfl rfl) rfl rfl ?_)
     refine g_step rfl (s_val (v_move rfl) rfl rfl ?_)
     refine g_split 25 rfl (fun hg25 => ?_) (fun hg25 => ?_)
     ·
      try simp only [NM] at hg25
      refine g_step_no (j := 3) (t := 25) rfl rfl rfl rfl rfl rfl rfl ?_
      refine g_step_no (j := 3) (t := 25) rfl rfl rfl rfl rfl rfl rfl ?_
      refine g_step_no (j := 3) (t := 25) rfl rfl rfl rfl rfl rfl rfl ?_
      refine g_step rfl (s_val (v_pick_t rfl rfl) rfl rfl ?_)
      refine g_step rfl (s_val (v_assign rfl) rfl rfl ?_)
      refine g_nil ?_
      refine g_next hK8 ?_
      refine g_cond rfl (fun _ => ?_) (fun h => by cases h)
      refine g_skip ?_
      refine g_block_normal ?_
      refine g_next hK1 ?_
      refine g_seq (fun K9 hK9 => ?_)
      refine g_region ?_
      refine g_step rfl (s_val (v_assign rfl) rfl rfl ?_)
      refine g_nil ?_
      refine g_next hK9 ?_
      refine g_ret ?_
      refine g_end1 (.inl rfl) Try.results74 (.tmp rfl) [] (ASub.refl _) (AHeap.sub_refl _) (fun p hp => by cases hp) ⟨rfl, ?_⟩
      first | (first | (simp [recValid, *] <;> omega) | (simp_all [recValid] <;> omega); done) | (first | (simp [recValid, *] <;> omega) | (simp_all [recValid] <;> omega); rfl)
     ·
      try simp only [NM] at hg25
      refine g_step_yes (j := 3) (t := 25) rfl rfl rfl rfl (s_fieldAddr ty32 fo32_2 ty3 rfl rfl ?_)
      refine g_step_yes (j := 3) (t := 25) rfl rfl rfl rfl (s_val (v_loadl ty3 rfl rfl rfl rfl) rfl rfl ?_)
      refine g_step_yes (j := 3) (t := 25) rfl rfl rfl rfl (s_val (v_gtr rfl rfl) rfl rfl ?_)
      refine g_step rfl (s_val (v_pick_f rfl rfl) rfl rfl ?_)
      refine g_step rfl (s_val (v_assign rfl) rfl rfl ?_)
      refine g_nil ?_
      refine g_next hK8 ?_
      refine g_cond rfl (fun hc21 => ?_) (fun hc21 => ?_)
      ·
       try simp only [NM] at hc21
       refine g_skip ?_
       refine g_block_normal ?_
       refine g_next hK1 ?_
       refine g_seq (fun K10 hK10 => ?_)
       refine g_region ?_
       refine g_step rfl (s_val (v_assign rfl) rfl rfl ?_)
       refine g_nil ?_
       refine g_next hK10 ?_
       refine g_ret ?_
       refine g_end1 (.inl rfl) Try.results74 (.tmp rfl) [] (ASub.refl _) (AHeap.sub_refl _) (fun p hp => by cases hp) ⟨rfl, ?_⟩
       first | (first | (simp [recValid, *] <;> omega) | (simp_all [recValid] <;> omega); done) | (first | (simp [recValid, *] <;> omega) | (simp_all [recValid] <;> omega); rfl)
      ·
       try simp only [NM] at hc21
       refine g_seq (fun K11 hK11 => ?_)
       refine g_region ?_
       refine g_step rfl (s_fieldAddr ty32 fo32_3 ty24 rfl rfl ?_)
       refine g_step rfl (s_val (v_loadl_part (cs := [_, _]) ty24 rfl rfl rfl rfl rfl rfl) rfl rfl ?_)
       refine g_step rfl (s_callp rfl rfl rfl (spValid_ok _ _) ?_)
       rintro _ rfl
       refine g_step rfl (s_val (v_not rfl) rfl rfl ?_)
       refine g_step rfl (s_val (v_move rfl) rfl rfl ?_)
       refine g_split 35 rfl (fun hg35 => ?_) (fun hg35 => ?_)
       ·
        try simp only [NM] at hg35
        refine g_step_no (j := 4) (t := 35) rfl rfl rfl rfl rfl rfl rfl ?_
        refine g_step_no (j := 4) (t := 35) rfl rfl rfl rfl rfl rfl rfl ?_
        refine g_step_no (j := 4) (t := 35) rfl rfl rfl rfl rfl rfl rfl ?_
        refine g_step_no (j := 4) (t := 35) rfl rfl rfl rfl rfl rfl rfl ?_
        refine g_step rfl (s_val (v_pick_t rfl rfl) rfl rfl ?_)
        refine g_step rfl (s_val (v_assign rfl) rfl rfl ?_)
        refine g_nil ?_
        refine g_next hK11 ?_
        first | refine g_keep [30] [1] [1] (keep_cons rfl keep_nil) (lkeep_cons rfl lkeep_nil) (keep_cons rfl keep_nil) rfl ?_ | refine g_keep [30] [1] [1] rfl rfl rfl rfl ?_
        refine g_cond rfl (fun _ => ?_) (fun h => by cases h)
        refine g_skip ?_
        refine g_block_normal ?_
        refine g_next hK1 ?_
        refine g_seq (fun K12 hK12 => ?_)
        refine g_region ?_
        refine g_step rfl (s_val (v_assign rfl) rfl rfl ?_)
        refine g_nil ?_
        refine g_next hK12 ?_
        refine g_ret ?_
        refine g_end1 (.inl rfl) Try.results74 (.tmp rfl) [] (ASub.refl _) (AHeap.sub_refl _) (fun p hp => by cases hp) ⟨rfl, ?_⟩
        first | (first | (simp [recValid, *] <;> omega) | (simp_all [recValid] <;> omega); done) | (first | (simp [recValid, *] <;> omega) | (simp_all [recValid] <;> omega); rfl)
       ·
        try simp only [NM] at hg35
        refine g_step_yes (j := 4) (t := 35) rfl rfl rfl rfl (s_fieldAddr ty32 fo32_5 ty30 rfl rfl ?_)
        refine g_step_yes (j := 4) (t := 35) rfl rfl rfl rfl (s_val (v_loadl ty30 rfl rfl rfl rfl) rfl rfl ?_)
        refine g_step_yes (j := 4) (t := 35) rfl rfl rfl rfl (s_callp rfl rfl rfl (bagValid_ok _ _ _ rfl (by assumption)) ?_)
        rintro _ rfl
        refine g_step_yes (j := 4) (t := 35) rfl rfl rfl rfl (s_val (v_not rfl) rfl rfl ?_)
        refine g_step rfl (s_val (v_pick_f rfl rfl) rfl rfl ?_)
        refine g_step rfl (s_val (v_assign rfl) rfl rfl ?_)
        refine g_nil ?_
        refine g_next hK11 ?_
        first | refine g_keep [30] [1] [1] (keep_cons rfl keep_nil) (lkeep_cons rfl lkeep_nil) (keep_cons rfl keep_nil) rfl ?_ | refine g_keep [30] [1] [1] rfl rfl rfl rfl ?_
        refine g_cond rfl (fun hc30 => ?_) (fun hc30 => ?_)
        ·
         try simp only [NM] at hc30
         refine g_skip ?_
         refine g_block_normal ?_
         refine g_next hK1 ?_
         refine g_seq (fun K13 hK13 => ?_)
         refine g_region ?_
         refine g_step rfl (s_val (v_assign rfl) rfl rfl ?_)
         refine g_nil ?_
         refine g_next hK13 ?_
         refine g_ret ?_
         refine g_end1 (.inl rfl) Try.results74 (.tmp rfl) [] (ASub.refl _) (AHeap.sub_refl _) (fun p hp => by cases hp) ⟨rfl, ?_⟩
         first | (first | (simp [recValid, *] <;> omega) | (simp_all [recValid] <;> omega); done) | (first | (simp [recValid, *] <;> omega) | (simp_all [recValid] <;> omega); rfl)
        ·
         try simp only [NM] at hc30
         refine g_seq (fun K14 hK14 => ?_)
         refine g_region ?_
         refine g_step rfl (s_fieldAddr ty32 fo32_4 ty4 rfl rfl ?_)
         refine g_step rfl (s_val (v_loadl ty4 rfl rfl rfl rfl) rfl rfl ?_)
         refine g_step rfl (s_val (v_move rfl) rfl rfl ?_)
         refine g_split 44 rfl (fun hg44 => ?_) (fun hg44 => ?_)
         ·
          try simp only [NM] at hg44
          refine g_step_yes (j := 2) (t := 44) rfl rfl rfl rfl (s_fieldAddr ty32 fo32_5 ty30 rfl rfl ?_)
          refine g_step_yes (j := 2) (t := 44) rfl rfl rfl rfl (s_val (v_loadl ty30 rfl rfl rfl rfl) rfl rfl ?_)
          refine g_step_yes (j := 2) (t := 44) rfl rfl rfl rfl (s_val (v_len ty30 rfl (by first | rfl | assumption) (by first | exact List.length_map .. | rfl)) rfl rfl ?_)
          refine g_step_yes (j := 2) (t := 44) rfl rfl rfl rfl (s_val (v_gtr rfl rfl) rfl rfl ?_)
          refine g_step rfl (s_val (v_pick_t rfl rfl) rfl rfl ?_)
          refine g_step rfl (s_val (v_assign rfl) rfl rfl ?_)
          refine g_nil ?_
          refine g_next hK14 ?_
          refine g_cond rfl (fun hc41 => ?_) (fun hc41 => ?_)
          ·
           try simp only [NM] at hc41
           refine g_skip ?_
           refine g_block_normal ?_
           refine g_next hK1 ?_
           refine g_seq (fun K15 hK15 => ?_)
           refine g_region ?_
           refine g_step rfl (s_val (v_assign rfl) rfl rfl ?_)
           refine g_nil ?_
           refine g_next hK15 ?_
           refine g_ret ?_
           refine g_end1 (.inl rfl) Try.results74 (.tmp rfl) [] (ASub.refl _) (AHeap.sub_refl _) (fun p hp => by cases hp) ⟨rfl, ?_⟩
           first | (first | (simp [recValid, *] <;> omega) | (simp_all [recValid] <;> omega); done) | (first | (simp [recValid, *] <;> omega) | (simp_all [recValid] <;> omega); rfl)
          ·
           try simp only [NM] at hc41
           refine g_seq (fun K16 hK16 => ?_)
           refine g_region ?_
           refine g_step rfl (s_val (v_assign rfl) rfl rfl ?_)
           refine g_nil ?_
           refine g_next hK16 ?_
           refine g_ret ?_
           refine g_block_ret ?_
           refine g_then_ret ?_
           refine g_end1 (.inl rfl) Try.results74 (.tmp rfl) [] (ASub.refl _) (AHeap.sub_refl _) (fun p hp => by cases hp) ⟨rfl, ?_⟩
           first | (first | (simp [recValid, *] <;> omega) | (simp_all [recValid] <;> omega); done) | (first | (simp [recValid, *] <;> omega) | (simp_all [recValid] <;> omega); rfl)
         ·
          try simp only [NM] at hg44
          refine g_step_no (j := 2) (t := 44) rfl rfl rfl rfl rfl rfl rfl ?_
          refine g_step_no (j := 2) (t := 44) rfl rfl rfl rfl rfl rfl rfl ?_
          refine g_step_no (j := 2) (t := 44) rfl rfl rfl rfl rfl rfl rfl ?_
          refine g_step_no (j := 2) (t := 44) rfl rfl rfl rfl rfl rfl rfl ?_
          refine g_step rfl (s_val (v_pick_f rfl rfl) rfl rfl ?_)
          refine g_step rfl (s_val (v_assign rfl) rfl rfl ?_)
          refine g_nil ?_
          refine g_next hK14 ?_
          refine g_cond rfl (fun h => by cases h) (fun _ => ?_)
          refine g_seq (fun K17 hK17 => ?_)
          refine g_region ?_
          refine g_step rfl (s_val (v_assign rfl) rfl rfl ?_)
          refine g_nil ?_
          refine g_next hK17 ?_
          refine g_ret ?_
          refine g_block_ret ?_
          refine g_then_ret ?_
          refine g_end1 (.inl rfl) Try.results74 (.tmp rfl) [] (ASub.refl _) (AHeap.sub_refl _) (fun p hp => by cases hp) ⟨rfl, ?_⟩
          first | (first | (simp [recValid, *] <;> omega) | (simp_all [recValid] <;> omega); done) | (first | (simp [recValid, *] <;> omega) | (simp_all [recValid] <;> omega); rfl)

theorem where_ok (l : List Rc) (f : Nat) (caps : List AV) (p : Rc → Bool) (G : AHeap) (va : AV) (hva : va.view G = some (l.map encR)) (hl : l.length ≤ 1000000) (hcall : ∀ x ∈ l, ∀ H, G.sub H → PCalls Try.prog f ([encR x] ++ caps) H (fun v => v = .bool (p x))) : PCalls Try.prog 64 [va, .fn (.func f) caps] G (fun v => v = .int .i64 (idx p l : Nat)) := by
 refine LCalls.intro 21 fi64 rfl Try.ntmps64 rfl (fun _ h => h.elim) (fun H hH w0 hw0 => ?_)
 have hva := view_sub hH hva
 refine g_seq (fun K0 hK0 => ?_)
 refine g_region ?_
 refine g_step rfl (s_val (v_assign rfl) rfl rfl ?_)
 refine g_nil ?_
 refine g_next hK0 ?_
 refine g_seq (fun K1 hK1 => ?_)
 refine g_seq (fun K2 hK2 => ?_)
 refine g_region ?_
 refine g_step rfl (s_val (v_move rfl) rfl rfl ?_)
 refine g_step rfl (s_val (v_len ty22 rfl hva (by first | exact List.length_map .. | rfl)) rfl rfl ?_)
 refine g_step rfl (s_val (v_move rfl) rfl rfl ?_)
 refine g_nil ?_
 refine g_next hK2 ?_
 refine g_block ?_
 first | refine g_keep [0, 1, 7, 8, 9] [] [] (keep_cons rfl (keep_cons rfl (keep_cons rfl (keep_cons rfl (keep_cons rfl keep_nil))))) lkeep_nil keep_nil rfl ?_ | refine g_keep [0, 1, 7, 8, 9] [] [] rfl rfl rfl rfl ?_
 refine g_loop (fun n env L B G => ∃ k : Nat, k ≤ l.length ∧ n = l.length - k ∧ env = [(0, va), (1, .fn (.func f) caps), (7, va), (8, .int .i64 (l.length : Int)), (9, .int .i64 (k : Int))] ∧ L = [] ∧ B = [] ∧ G = H ∧ idx p (l.drop k) + k = idx p l) l.length ⟨0, by omega, rfl, rfl, rfl, rfl, rfl, rfl⟩ (fun n env L B G hI => ?_)
 obtain ⟨k, hk, rfl, rfl, rfl, rfl, rfl, hc⟩ := hI
 refine g_seq (fun K3 hK3 => ?_)
 refine g_region ?_
 refine g_step rfl (s_val (v_lss rfl rfl) rfl rfl ?_)
 refine g_nil ?_
 refine g_next hK3 ?_
 refine g_seq (fun K4 hK4 => ?_)
 refine g_cond rfl (fun hc10 => ?_) (fun hc10 => ?_)
 ·
  try simp only [NM] at hc10
  obtain ⟨x, hx⟩ := get_some (l := l) (k := k) (by omega)
  refine g_skip ?_
  refine g_next hK4 ?_
  refine g_seq (fun K5 hK5 => ?_)
  refine g_block ?_
  refine g_seq (fun K6 hK6 => ?_)
  refine g_region ?_
  refine g_step rfl (s_val (v_move rfl) rfl rfl ?_)
  refine g_step rfl (s_val (v_indexAddr ty22 ty32 rfl rfl hva (by first | rfl | exact (rfl : (0 : Int) = ((0 : Nat) : Int)) | exact (Int.toNat_of_nonneg (by omega)).symm) (by first | assumption | exact map_get (by assumption) | rfl) rfl) rfl rfl ?_)
  refine g_step rfl (s_val (by first | exact v_load_elt ty32 rfl rfl hva (by first | assumption | exact map_get (by assumption) | rfl) rfl rfl | exact v_load_box_all ty32 rfl rfl (by assumption) rfl rfl | exact v_load_part (cs := [_, _, _, _, _, _, _]) ty32 rfl rfl hva (by first | assumption | exact map_get (by assumption) | rfl) rfl rfl rfl | exact v_load_box_part (cs := [_, _, _, _, _, _, _]) ty32 rfl rfl (by assumption) rfl rfl rfl) rfl rfl ?_)
  refine g_step rfl (s_alloc (av := (.agg [(.int .i64 0), (.int .i64 0), (.int .i64 0), (.int .i64 0), (.int .i64 0), (.bool false), .nil0])) ty32 rfl rfl rfl rfl ?_)
  refine g_step rfl (s_val (v_assign rfl) rfl rfl ?_)
  refine g_step rfl (s_store_all ty32 rfl rfl rfl rfl rfl rfl ?_)
  refine g_nil ?_
  refine g_next hK6 ?_
  refine g_seq (fun K7 hK7 => ?_)
  refine g_region ?_
  refine g_step rfl (s_val (v_move rfl) rfl rfl ?_)
  refine g_step rfl (s_val (by first | exact v_loadl_all ty32 rfl rfl rfl rfl rfl | exact v_loadl_part (cs := [_, _, _, _, _, _, _]) ty32 rfl rfl rfl rfl rfl rfl) rfl rfl ?_)
  refine g_step rfl (s_callp rfl rfl rfl (hcall x (mem_get hx) _ hH) ?_)
  rintro _ rfl
  refine g_nil ?_
  refine g_next hK7 ?_
  refine g_cond rfl (fun hc16 => ?_) (fun hc16 => ?_)
  ·
   try simp only [NM] at hc16
   refine g_seq (fun K8 hK8 => ?_)
   refine g_region ?_
   refine g_step rfl (s_val (v_move rfl) rfl rfl ?_)
   refine g_step rfl (s_val (v_assign rfl) rfl rfl ?_)
   refine g_nil ?_
   refine g_next hK8 ?_
   refine g_ret ?_
   refine g_block_ret ?_
   refine g_then_ret ?_
   refine g_then_ret ?_
   refine g_block_ret ?_
   refine g_then_ret ?_
   refine g_end1 (.inl rfl) Try.results64 (.tmp rfl) [] (ASub.refl _) (AHeap.sub_refl _) (fun p hp => by cases hp) ⟨rfl, ?_⟩
   first | (rw [idx_hit hc hx hc16]; done) | (rw [idx_hit hc hx hc16]; rfl)
  ·
   try simp only [NM] at hc16
   refine g_skip ?_
   refine g_block_normal ?_
   refine g_next hK5 ?_
   refine g_region ?_
   refine g_step rfl (s_val (v_add rfl rfl (by omega)) rfl rfl ?_)
   refine g_step rfl (s_val (v_move rfl) rfl rfl ?_)
   refine g_nil ?_
   first | refine g_keep [0, 1, 7, 8, 9] [] [] (keep_cons rfl (keep_cons rfl (keep_cons rfl (keep_cons rfl (keep_cons rfl keep_nil))))) lkeep_nil keep_nil rfl ?_ | refine g_keep [0, 1, 7, 8, 9] [] [] rfl rfl rfl rfl ?_
   exact g_round _ (by omega) ⟨k + 1, by omega, rfl, rfl, rfl, rfl, rfl, idx_miss hc hx hc16⟩
 ·
  try simp only [NM] at hc10
  obtain rfl : k = l.length := by omega
  refine g_exit ?_
  refine g_then_exit ?_
  refine g_then_exit ?_
  refine g_block_same ?_
  refine g_next hK1 ?_
  refine g_seq (fun K9 hK9 => ?_)
  refine g_region ?_
  refine g_step rfl (s_val (v_move rfl) rfl rfl ?_)
  refine g_step rfl (s_val (v_len ty22 rfl hva (by first | exact List.length_map .. | rfl)) rfl rfl ?_)
  refine g_step rfl (s_val (v_assign rfl) rfl rfl ?_)
  refine g_nil ?_
  refine g_next hK9 ?_
  refine g_ret ?_
  refine g_end1 (.inl rfl) Try.results64 (.tmp rfl) [] (ASub.refl _) (AHeap.sub_refl _) (fun p hp => by cases hp) ⟨rfl, ?_⟩
  first | (rw [idx_end hc]; done) | (rw [idx_end hc]; rfl)

theorem put1_ok (b : Nat) (r x : Rc) (G : AHeap) (hG : G b = some (.box (encR r))) : PCalls Try.prog 66 [encR x, .box b 0] G (fun v => v = .bool (decide (x.id = r.id))) := by
 refine LCalls.intro 9 fi66 rfl Try.ntmps66 rfl (fun _ h => h.elim) (fun H hH w0 hw0 => ?_)
 have hG := hH _ _ hG
 refine g_seq (fun K0 hK0 => ?_)
 refine g_region ?_
 refine g_step rfl (s_box rfl rfl rfl rfl ?_)
 refine g_step rfl (s_val (v_assign rfl) rfl rfl ?_)
 refine g_nil ?_
 refine g_next hK0 ?_
 refine g_seq (fun K1 hK1 => ?_)
 refine g_region ?_
 refine g_step rfl (s_fieldAddr ty32 fo32_0 ty3 rfl rfl ?_)
 refine g_step rfl (s_val (v_loadl ty3 rfl rfl rfl rfl) rfl rfl ?_)
 refine g_step rfl (s_val (by first | exact v_fieldAddr ty32 fo32_0 ty3 rfl | exact v_fieldAddr_box ty32 fo32_0 ty3 rfl) rfl rfl ?_)
 refine g_step rfl (s_val (by first | exact v_load ty3 rfl rfl (by first | rfl | assumption) (by first | assumption | exact map_get (by assumption) | rfl) rfl | exact v_load_box ty3 rfl rfl (by assumption) rfl) rfl rfl ?_)
 refine g_step rfl (s_val (v_eql rfl rfl) rfl rfl ?_)
 refine g_step rfl (s_val (v_assign rfl) rfl rfl ?_)
 refine g_nil ?_
 refine g_next hK1 ?_
 refine g_ret ?_
 refine g_end1 (.inl rfl) Try.results66 (.tmp rfl) [] (ASub.refl _) (AHeap.sub_refl _) (fun p hp => by cases hp) ⟨rfl, ?_⟩
 rfl

theorem put2_ok (b : Nat) (r x : Rc) (G : AHeap) (hG : G b = some (.box (encR r))) : PCalls Try.prog 67 [encR x, .box b 0] G (fun v => v = .bool (decide (r.id < x.id))) := by
 refine LCalls.intro 9 fi67 rfl Try.ntmps67 rfl (fun _ h => h.elim) (fun H hH w0 hw0 => ?_)
 have hG := hH _ _ hG
 refine g_seq (fun K0 hK0 => ?_)
 refine g_region ?_
 refine g_step rfl (s_box rfl rfl rfl rfl ?_)
 refine g_step rfl (s_val (v_assign rfl) rfl rfl ?_)
 refine g_nil ?_
 refine g_next hK0 ?_
 refine g_seq (fun K1 hK1 => ?_)
 refine g_region ?_
 refine g_step rfl (s_fieldAddr ty32 fo32_0 ty3 rfl rfl ?_)
 refine g_step rfl (s_val (v_loadl ty3 rfl rfl rfl rfl) rfl rfl ?_)
 refine g_step rfl (s_val (by first | exact v_fieldAddr ty32 fo32_0 ty3 rfl | exact v_fieldAddr_box ty32 fo32_0 ty3 rfl) rfl rfl ?_)
 refine g_step rfl (s_val (by first | exact v_load ty3 rfl rfl (by first | rfl | assumption) (by first | assumption | exact map_get (by assumption) | rfl) rfl | exact v_load_box ty3 rfl rfl (by assumption) rfl) rfl rfl ?_)
 refine g_step rfl (s_val (v_gtr rfl rfl) rfl rfl ?_)
 refine g_step rfl (s_val (v_assign rfl) rfl rfl ?_)
 refine g_nil ?_
 refine g_next hK1 ?_
 refine g_ret ?_
 refine g_end1 (.inl rfl) Try.results67 (.tmp rfl) [] (ASub.refl _) (AHeap.sub_refl _) (fun p hp => by cases hp) ⟨rfl, ?_⟩
 rfl

end Go.Proofs.Ytgedefcjngofkaa

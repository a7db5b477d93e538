import Derived.Test.YtgipbhfblmblcaaBag
import Derived.Test.YtgipbhfblmblcaaSpan
import Derived.Test.YtgipbhfblmblcaaPRec
set_option maxHeartbeats 8000000
set_option linter.unusedSimpArgs false
set_option linter.unusedVariables false
set_option maxRecDepth 100000
namespace Go.Proofs.Ytgipbhfblmblcaa
open Go Go.Proofs.Ytgipbhfblmblcaa.AM
theorem core_ok (r : Rc) (G : AHeap) : PCalls Try.prog 113 [encR r] G (fun v => v = encR (core r)) := by
 refine LCalls.intro 12 fi113 rfl Try.ntmps113 rfl (fun _ h => h.elim) (fun H hH w0 hw0 => ?_)
 refine g_seq (fun K0 hK0 => ?_)
 refine g_region ?_
 refine g_step rfl (s_box rfl rfl rfl rfl ?_)
 refine g_step rfl (s_alloc (av := (.agg [(.int .i64 0), (.int .i64 0), (.int .i64 0), (.int .i64 0), (.int .i64 0), (.bool false), .nil0])) ty46 rfl rfl rfl rfl ?_)
 refine g_nil ?_
 refine g_next hK0 ?_
 refine g_seq (fun K1 hK1 => ?_)
 refine g_region ?_
 refine g_step rfl (s_fieldAddr ty46 fo46_0 ty3 rfl rfl ?_)
 refine g_step rfl (s_val (v_loadl ty3 rfl rfl rfl rfl) rfl rfl ?_)
 refine g_step rfl (s_fieldAddr ty46 fo46_1 ty3 rfl rfl ?_)
 refine g_step rfl (s_val (v_loadl ty3 rfl rfl rfl rfl) rfl rfl ?_)
 refine g_step rfl (s_fieldAddr ty46 fo46_2 ty3 rfl rfl ?_)
 refine g_step rfl (s_val (v_loadl ty3 rfl rfl rfl rfl) rfl rfl ?_)
 refine g_step rfl (s_fieldAddr ty46 fo46_3 ty43 rfl rfl ?_)
 refine g_step rfl (s_val (v_loadl_part (cs := [_, _]) ty43 rfl rfl rfl rfl rfl rfl) rfl rfl ?_)
 refine g_step rfl (s_val (v_sub (b := (encR (core r))) (v_build (vs := [(0, _), (1, _), (2, _), (3, _)]) (zs := [(.int .i64 0), (.int .i64 0), (.int .i64 0), (.int .i64 0), (.int .i64 0), (.bool false), .nil0]) (cells := [_, _, _, _, _, _, _]) ty46 pl46 rfl rfl rfl) (ASub.of_wk rfl)) rfl rfl ?_)
 refine g_step rfl (s_store_all ty46 rfl rfl rfl rfl rfl rfl ?_)
 refine g_nil ?_
 refine g_next hK1 ?_
 refine g_ret ?_
 refine g_end1 (.inl rfl) Try.results113 (.agg ty46 rfl rfl rfl rfl rfl) [] (ASub.refl _) (AHeap.sub_refl _) (fun p hp => by cases hp) ⟨rfl, ?_⟩
 rfl

theorem akin_ok (a b : Rc) (G : AHeap) : PCalls Try.prog 77 [encR a, encR b] G (fun v => v = .bool (akin a b)) := by
 refine LCalls.intro 31 fi77 rfl Try.ntmps77 rfl (fun _ h => h.elim) (fun H hH w0 hw0 => ?_)
 refine g_seq (fun K0 hK0 => ?_)
 refine g_region ?_
 refine g_step rfl (s_box rfl rfl rfl rfl ?_)
 refine g_step rfl (s_box rfl rfl rfl rfl ?_)
 refine g_step rfl (s_val (v_assign rfl) rfl rfl ?_)
 refine g_nil ?_
 refine g_next hK0 ?_
 refine g_seq (fun K1 hK1 => ?_)
 refine g_region ?_
 refine g_step rfl (s_fieldAddr ty46 fo46_0 ty3 rfl rfl ?_)
 refine g_step rfl (s_val (v_loadl ty3 rfl rfl rfl rfl) rfl rfl ?_)
 refine g_step rfl (s_fieldAddr ty46 fo46_0 ty3 rfl rfl ?_)
 refine g_step rfl (s_val (v_loadl ty3 rfl rfl rfl rfl) rfl rfl ?_)
 refine g_step rfl (s_val (v_eql rfl rfl) rfl rfl ?_)
 refine g_step rfl (s_val (v_move rfl) rfl rfl ?_)
 refine g_split 10 rfl (fun hg10 => ?_) (fun hg10 => ?_)
 ·
  try simp only [NM] at hg10
  refine g_step_yes (j := 5) (t := 10) rfl rfl rfl rfl (s_fieldAddr ty46 fo46_1 ty3 rfl rfl ?_)
  refine g_step_yes (j := 5) (t := 10) rfl rfl rfl rfl (s_val (v_loadl ty3 rfl rfl rfl rfl) rfl rfl ?_)
  refine g_step_yes (j := 5) (t := 10) rfl rfl rfl rfl (s_fieldAddr ty46 fo46_1 ty3 rfl rfl ?_)
  refine g_step_yes (j := 5) (t := 10) rfl rfl rfl rfl (s_val (v_loadl ty3 rfl rfl rfl rfl) rfl rfl ?_)
  refine g_step_yes (j := 5) (t := 10) rfl rfl rfl rfl (s_val (v_eql rfl rfl) rfl rfl ?_)
  refine g_step rfl (s_val (v_pick_t rfl rfl) rfl rfl ?_)
  refine g_step rfl (s_val (v_move rfl) rfl rfl ?_)
  refine g_split 17 rfl (fun hg17 => ?_) (fun hg17 => ?_)
  ·
   try simp only [NM] at hg17
   refine g_step_yes (j := 12) (t := 17) rfl rfl rfl rfl (s_fieldAddr ty46 fo46_2 ty3 rfl rfl ?_)
   refine g_step_yes (j := 12) (t := 17) rfl rfl rfl rfl (s_val (v_loadl ty3 rfl rfl rfl rfl) rfl rfl ?_)
   refine g_step_yes (j := 12) (t := 17) rfl rfl rfl rfl (s_fieldAddr ty46 fo46_2 ty3 rfl rfl ?_)
   refine g_step_yes (j := 12) (t := 17) rfl rfl rfl rfl (s_val (v_loadl ty3 rfl rfl rfl rfl) rfl rfl ?_)
   refine g_step_yes (j := 12) (t := 17) rfl rfl rfl rfl (s_val (v_eql rfl rfl) rfl rfl ?_)
   refine g_step rfl (s_val (v_pick_t rfl rfl) rfl rfl ?_)
   refine g_step rfl (s_val (v_move rfl) rfl rfl ?_)
   refine g_split 24 rfl (fun hg24 => ?_) (fun hg24 => ?_)
   ·
    try simp only [NM] at hg24
    refine g_step_yes (j := 19) (t := 24) rfl rfl rfl rfl (s_fieldAddr ty46 fo46_3 ty43 rfl rfl ?_)
    refine g_step_yes (j := 19) (t := 24) rfl rfl rfl rfl (s_val (v_loadl_part (cs := [_, _]) ty43 rfl rfl rfl rfl rfl rfl) rfl rfl ?_)
    refine g_step_yes (j := 19) (t := 24) rfl rfl rfl rfl (s_fieldAddr ty46 fo46_3 ty43 rfl rfl ?_)
    refine g_step_yes (j := 19) (t := 24) rfl rfl rfl rfl (s_val (v_loadl_part (cs := [_, _]) ty43 rfl rfl rfl rfl rfl rfl) rfl rfl ?_)
    refine g_step_yes (j := 19) (t := 24) rfl rfl rfl rfl (s_val (v_st_eql (k := .i64) (l := [a.sp.lo, a.sp.hi]) (m := [b.sp.lo, b.sp.hi]) ty43 st43 rfl rfl rfl rfl st43l rfl) rfl rfl ?_)
    refine g_step rfl (s_val (v_pick_t rfl rfl) rfl rfl ?_)
    refine g_step rfl (s_val (v_assign rfl) rfl rfl ?_)
    refine g_nil ?_
    refine g_next hK1 ?_
    refine g_ret ?_
    refine g_end1 (.inl rfl) Try.results77 (.tmp rfl) [] (ASub.refl _) (AHeap.sub_refl _) (fun p hp => by cases hp) ⟨rfl, ?_⟩
    first | (obtain ⟨_, _, _, ⟨_, _⟩, _, _⟩ := a; obtain ⟨_, _, _, ⟨_, _⟩, _, _⟩ := b; simp_all [akin]; done) | (obtain ⟨_, _, _, ⟨_, _⟩, _, _⟩ := a; obtain ⟨_, _, _, ⟨_, _⟩, _, _⟩ := b; simp_all [akin]; rfl)
   ·
    try simp only [NM] at hg24
    refine g_step_no (j := 19) (t := 24) rfl rfl rfl rfl rfl rfl rfl ?_
    refine g_step_no (j := 19) (t := 24) rfl rfl rfl rfl rfl rfl rfl ?_
    refine g_step_no (j := 19) (t := 24) rfl rfl rfl rfl rfl rfl rfl ?_
    refine g_step_no (j := 19) (t := 24) rfl rfl rfl rfl rfl rfl rfl ?_
    refine g_step_no (j := 19) (t := 24) rfl rfl rfl rfl rfl rfl rfl ?_
    refine g_step rfl (s_val (v_pick_f rfl rfl) rfl rfl ?_)
    refine g_step rfl (s_val (v_assign rfl) rfl rfl ?_)
    refine g_nil ?_
    refine g_next hK1 ?_
    refine g_ret ?_
    refine g_end1 (.inl rfl) Try.results77 (.tmp rfl) [] (ASub.refl _) (AHeap.sub_refl _) (fun p hp => by cases hp) ⟨rfl, ?_⟩
    first | (obtain ⟨_, _, _, ⟨_, _⟩, _, _⟩ := a; obtain ⟨_, _, _, ⟨_, _⟩, _, _⟩ := b; simp_all [akin]; done) | (obtain ⟨_, _, _, ⟨_, _⟩, _, _⟩ := a; obtain ⟨_, _, _, ⟨_, _⟩, _, _⟩ := b; simp_all [akin]; rfl)
  ·
   try simp only [NM] at hg17
   refine g_step_no (j := 12) (t := 17) rfl rfl rfl rfl rfl rfl rfl ?_
   refine g_step_no (j := 12) (t := 17) rfl rfl rfl rfl rfl rfl rfl ?_
   refine g_step_no (j := 12) (t := 17) rfl rfl rfl rfl rfl rfl rfl ?_
   refine g_step_no (j := 12) (t := 17) rfl rfl rfl rfl rfl rfl rfl ?_
   refine g_step_no (j := 12) (t := 17) rfl rfl rfl rfl rfl rfl rfl ?_
   refine g_step rfl (s_val (v_pick_f rfl rfl) rfl rfl ?_)
   refine g_step rfl (s_val (v_move rfl) rfl rfl ?_)
   refine g_step_no (j := 19) (t := 24) rfl rfl rfl rfl rfl rfl rfl ?_
   refine g_step_no (j := 19) (t := 24) rfl rfl rfl rfl rfl rfl rfl ?_
   refine g_step_no (j := 19) (t := 24) rfl rfl rfl rfl rfl rfl rfl ?_
   refine g_step_no (j := 19) (t := 24) rfl rfl rfl rfl rfl rfl rfl ?_
   refine g_step_no (j := 19) (t := 24) rfl rfl rfl rfl rfl rfl rfl ?_
   refine g_step rfl (s_val (v_pick_f rfl rfl) rfl rfl ?_)
   refine g_step rfl (s_val (v_assign rfl) rfl rfl ?_)
   refine g_nil ?_
   refine g_next hK1 ?_
   first | refine g_keep [4] [] [] (keep_cons rfl keep_nil) lkeep_nil keep_nil rfl ?_ | refine g_keep [4] [] [] rfl rfl rfl rfl ?_
   refine g_ret ?_
   refine g_end1 (.inl rfl) Try.results77 (.tmp rfl) [] (ASub.refl _) (AHeap.sub_refl _) (fun p hp => by cases hp) ⟨rfl, ?_⟩
   first | (obtain ⟨_, _, _, ⟨_, _⟩, _, _⟩ := a; obtain ⟨_, _, _, ⟨_, _⟩, _, _⟩ := b; simp_all [akin]; done) | (obtain ⟨_, _, _, ⟨_, _⟩, _, _⟩ := a; obtain ⟨_, _, _, ⟨_, _⟩, _, _⟩ := b; simp_all [akin]; rfl)
 ·
  try simp only [NM] at hg10
  refine g_step_no (j := 5) (t := 10) rfl rfl rfl rfl rfl rfl rfl ?_
  refine g_step_no (j := 5) (t := 10) rfl rfl rfl rfl rfl rfl rfl ?_
  refine g_step_no (j := 5) (t := 10) rfl rfl rfl rfl rfl rfl rfl ?_
  refine g_step_no (j := 5) (t := 10) rfl rfl rfl rfl rfl rfl rfl ?_
  refine g_step_no (j := 5) (t := 10) rfl rfl rfl rfl rfl rfl rfl ?_
  refine g_step rfl (s_val (v_pick_f rfl rfl) rfl rfl ?_)
  refine g_step rfl (s_val (v_move rfl) rfl rfl ?_)
  refine g_step_no (j := 12) (t := 17) rfl rfl rfl rfl rfl rfl rfl ?_
  refine g_step_no (j := 12) (t := 17) rfl rfl rfl rfl rfl rfl rfl ?_
  refine g_step_no (j := 12) (t := 17) rfl rfl rfl rfl rfl rfl rfl ?_
  refine g_step_no (j := 12) (t := 17) rfl rfl rfl rfl rfl rfl rfl ?_
  refine g_step_no (j := 12) (t := 17) rfl rfl rfl rfl rfl rfl rfl ?_
  refine g_step rfl (s_val (v_pick_f rfl rfl) rfl rfl ?_)
  refine g_step rfl (s_val (v_move rfl) rfl rfl ?_)
  refine g_step_no (j := 19) (t := 24) rfl rfl rfl rfl rfl rfl rfl ?_
  refine g_step_no (j := 19) (t := 24) rfl rfl rfl rfl rfl rfl rfl ?_
  refine g_step_no (j := 19) (t := 24) rfl rfl rfl rfl rfl rfl rfl ?_
  refine g_step_no (j := 19) (t := 24) rfl rfl rfl rfl rfl rfl rfl ?_
  refine g_step_no (j := 19) (t := 24) rfl rfl rfl rfl rfl rfl rfl ?_
  refine g_step rfl (s_val (v_pick_f rfl rfl) rfl rfl ?_)
  refine g_step rfl (s_val (v_assign rfl) rfl rfl ?_)
  refine g_nil ?_
  refine g_next hK1 ?_
  first | refine g_keep [4] [] [] (keep_cons rfl keep_nil) lkeep_nil keep_nil rfl ?_ | refine g_keep [4] [] [] rfl rfl rfl rfl ?_
  refine g_ret ?_
  refine g_end1 (.inl rfl) Try.results77 (.tmp rfl) [] (ASub.refl _) (AHeap.sub_refl _) (fun p hp => by cases hp) ⟨rfl, ?_⟩
  first | (obtain ⟨_, _, _, ⟨_, _⟩, _, _⟩ := a; obtain ⟨_, _, _, ⟨_, _⟩, _, _⟩ := b; simp_all [akin]; done) | (obtain ⟨_, _, _, ⟨_, _⟩, _, _⟩ := a; obtain ⟨_, _, _, ⟨_, _⟩, _, _⟩ := b; simp_all [akin]; rfl)

theorem order_ok (a b : Int) (G : AHeap) : PCalls Try.prog 90 [.int .i64 a, .int .i64 b] G (fun v => v = .int .i64 (ordI a b)) := by
 refine LCalls.intro 13 fi90 rfl Try.ntmps90 rfl (fun _ h => h.elim) (fun H hH w0 hw0 => ?_)
 refine g_seq (fun K0 hK0 => ?_)
 refine g_region ?_
 refine g_step rfl (s_val (v_assign rfl) rfl rfl ?_)
 refine g_nil ?_
 refine g_next hK0 ?_
 refine g_seq (fun K1 hK1 => ?_)
 refine g_block ?_
 refine g_seq (fun K2 hK2 => ?_)
 refine g_region ?_
 refine g_step rfl (s_val (v_move rfl) rfl rfl ?_)
 refine g_step rfl (s_val (v_move rfl) rfl rfl ?_)
 refine g_step rfl (s_val (v_lss rfl rfl) rfl rfl ?_)
 refine g_step rfl (s_val (v_assign rfl) rfl rfl ?_)
 refine g_nil ?_
 refine g_next hK2 ?_
 refine g_cond rfl (fun hc5 => ?_) (fun hc5 => ?_)
 ·
  try simp only [NM] at hc5
  refine g_seq (fun K3 hK3 => ?_)
  refine g_region ?_
  refine g_step rfl (s_val (v_assign rfl) rfl rfl ?_)
  refine g_nil ?_
  refine g_next hK3 ?_
  refine g_ret ?_
  refine g_block_ret ?_
  refine g_then_ret ?_
  refine g_end1 (.inl rfl) Try.results90 (.tmp rfl) [] (ASub.refl _) (AHeap.sub_refl _) (fun p hp => by cases hp) ⟨rfl, ?_⟩
  first | (simp [ordI] <;> omega; done) | (simp [ordI] <;> omega; rfl)
 ·
  try simp only [NM] at hc5
  refine g_seq (fun K4 hK4 => ?_)
  refine g_region ?_
  refine g_step rfl (s_val (v_move rfl) rfl rfl ?_)
  refine g_step rfl (s_val (v_move rfl) rfl rfl ?_)
  refine g_step rfl (s_val (v_gtr rfl rfl) rfl rfl ?_)
  refine g_step rfl (s_val (v_assign rfl) rfl rfl ?_)
  refine g_nil ?_
  refine g_next hK4 ?_
  refine g_cond rfl (fun hc9 => ?_) (fun hc9 => ?_)
  ·
   try simp only [NM] at hc9
   refine g_seq (fun K5 hK5 => ?_)
   refine g_region ?_
   refine g_step rfl (s_val (v_assign rfl) rfl rfl ?_)
   refine g_nil ?_
   refine g_next hK5 ?_
   refine g_ret ?_
   refine g_block_ret ?_
   refine g_then_ret ?_
   refine g_end1 (.inl rfl) Try.results90 (.tmp rfl) [] (ASub.refl _) (AHeap.sub_refl _) (fun p hp => by cases hp) ⟨rfl, ?_⟩
   first | (simp [ordI] <;> omega; done) | (simp [ordI] <;> omega; rfl)
  ·
   try simp only [NM] at hc9
   refine g_skip ?_
   refine g_block_normal ?_
   refine g_next hK1 ?_
   refine g_seq (fun K6 hK6 => ?_)
   refine g_region ?_
   refine g_step rfl (s_val (v_assign rfl) rfl rfl ?_)
   refine g_nil ?_
   refine g_next hK6 ?_
   refine g_ret ?_
   refine g_end1 (.inl rfl) Try.results90 (.tmp rfl) [] (ASub.refl _) (AHeap.sub_refl _) (fun p hp => by cases hp) ⟨rfl, ?_⟩
   first | (simp [ordI] <;> omega; done) | (simp [ordI] <;> omega; rfl)

theorem clone_ok (r : Rc) (G : AHeap) (hl : Small r.bag) : PCalls Try.prog 72 [encR r] G (fun v => v = encR r) := by
 refine LCalls.intro 8 fi72 rfl Try.ntmps72 rfl (fun _ h => h.elim) (fun H hH w0 hw0 => ?_)
 refine g_seq (fun K0 hK0 => ?_)
 refine g_region ?_
 refine g_step rfl (s_box rfl rfl rfl rfl ?_)
 refine g_step rfl (s_alloc (av := (.agg [(.int .i64 0), (.int .i64 0), (.int .i64 0), (.int .i64 0), (.int .i64 0), (.bool false), .nil0])) ty46 rfl rfl rfl rfl ?_)
 refine g_nil ?_
 refine g_next hK0 ?_
 refine g_seq (fun K1 hK1 => ?_)
 refine g_region ?_
 refine g_step rfl (s_fieldAddr ty46 fo46_5 ty44 rfl rfl ?_)
 refine g_step rfl (s_val (v_loadl ty44 rfl rfl rfl rfl) rfl rfl ?_)
 refine g_step rfl (s_callp rfl rfl rfl (bagCopy_ok _ _ _ rfl (by assumption)) ?_)
 rintro _ rfl
 refine g_step rfl (s_fieldAddr ty46 fo46_5 ty44 rfl rfl ?_)
 refine g_step rfl (s_store (new := .agg [_, _, _, _, _, _, _]) ty44 rfl rfl rfl rfl rfl rfl rfl ?_)
 refine g_nil ?_
 refine g_next hK1 ?_
 refine g_seq (fun K2 hK2 => ?_)
 refine g_region ?_
 refine g_step rfl (s_val (by first | exact v_loadl_all ty46 rfl rfl rfl rfl rfl | exact v_loadl_part (cs := [_, _, _, _, _, _, _]) ty46 rfl rfl rfl rfl rfl rfl) rfl rfl ?_)
 refine g_step rfl (s_store_all ty46 rfl rfl rfl rfl rfl rfl ?_)
 refine g_nil ?_
 refine g_next hK2 ?_
 refine g_ret ?_
 refine g_end1 (.inl rfl) Try.results72 (.agg ty46 rfl rfl rfl rfl rfl) [] (ASub.refl _) (AHeap.sub_refl _) (fun p hp => by cases hp) ⟨rfl, ?_⟩
 rfl

theorem rsame_ok (a b : Rc) (G : AHeap) (hl : Small a.bag) : PCalls Try.prog 61 [encR a, encR b] G (fun v => v = .bool (decide (a = b))) := by
 refine LCalls.intro 22 fi61 rfl Try.ntmps61 rfl (fun _ h => h.elim) (fun H hH w0 hw0 => ?_)
 refine g_seq (fun K0 hK0 => ?_)
 refine g_region ?_
 refine g_step rfl (s_box rfl rfl rfl rfl ?_)
 refine g_step rfl (s_box rfl rfl rfl rfl ?_)
 refine g_step rfl (s_val (v_assign rfl) rfl rfl ?_)
 refine g_nil ?_
 refine g_next hK0 ?_
 refine g_seq (fun K1 hK1 => ?_)
 refine g_region ?_
 refine g_step rfl (s_val (by first | exact v_loadl_all ty46 rfl rfl rfl rfl rfl | exact v_loadl_part (cs := [_, _, _, _, _, _, _]) ty46 rfl rfl rfl rfl rfl rfl) rfl rfl ?_)
 refine g_step rfl (s_val (by first | exact v_loadl_all ty46 rfl rfl rfl rfl rfl | exact v_loadl_part (cs := [_, _, _, _, _, _, _]) ty46 rfl rfl rfl rfl rfl rfl) rfl rfl ?_)
 refine g_step rfl (s_callp rfl rfl rfl (akin_ok a b _) ?_)
 rintro _ rfl
 refine g_step rfl (s_val (v_move rfl) rfl rfl ?_)
 refine g_split 8 rfl (fun hg8 => ?_) (fun hg8 => ?_)
 ·
  try simp only [NM] at hg8
  refine g_step_yes (j := 3) (t := 8) rfl rfl rfl rfl (s_fieldAddr ty46 fo46_4 ty4 rfl rfl ?_)
  refine g_step_yes (j := 3) (t := 8) rfl rfl rfl rfl (s_val (v_loadl ty4 rfl rfl rfl rfl) rfl rfl ?_)
  refine g_step_yes (j := 3) (t := 8) rfl rfl rfl rfl (s_fieldAddr ty46 fo46_4 ty4 rfl rfl ?_)
  refine g_step_yes (j := 3) (t := 8) rfl rfl rfl rfl (s_val (v_loadl ty4 rfl rfl rfl rfl) rfl rfl ?_)
  refine g_step_yes (j := 3) (t := 8) rfl rfl rfl rfl (s_val (v_bool_eql ty4 rfl rfl) rfl rfl ?_)
  refine g_step rfl (s_val (v_pick_t rfl rfl) rfl rfl ?_)
  refine g_step rfl (s_val (v_move rfl) rfl rfl ?_)
  refine g_split 15 rfl (fun hg15 => ?_) (fun hg15 => ?_)
  ·
   try simp only [NM] at hg15
   refine g_step_yes (j := 10) (t := 15) rfl rfl rfl rfl (s_fieldAddr ty46 fo46_5 ty44 rfl rfl ?_)
   refine g_step_yes (j := 10) (t := 15) rfl rfl rfl rfl (s_val (v_loadl ty44 rfl rfl rfl rfl) rfl rfl ?_)
   refine g_step_yes (j := 10) (t := 15) rfl rfl rfl rfl (s_fieldAddr ty46 fo46_5 ty44 rfl rfl ?_)
   refine g_step_yes (j := 10) (t := 15) rfl rfl rfl rfl (s_val (v_loadl ty44 rfl rfl rfl rfl) rfl rfl ?_)
   refine g_step_yes (j := 10) (t := 15) rfl rfl rfl rfl (s_callp rfl rfl rfl (bagSame_ok a.bag b.bag _ _ _ rfl rfl hl) ?_)
   rintro _ rfl
   refine g_step rfl (s_val (v_pick_t rfl rfl) rfl rfl ?_)
   refine g_step rfl (s_val (v_assign rfl) rfl rfl ?_)
   refine g_nil ?_
   refine g_next hK1 ?_
   refine g_ret ?_
   refine g_end1 (.inl rfl) Try.results61 (.tmp rfl) [] (ASub.refl _) (AHeap.sub_refl _) (fun p hp => by cases hp) ⟨rfl, ?_⟩
   first | (obtain ⟨_, _, _, ⟨_, _⟩, _, _⟩ := a; obtain ⟨_, _, _, ⟨_, _⟩, _, _⟩ := b; simp_all [akin]; done) | (obtain ⟨_, _, _, ⟨_, _⟩, _, _⟩ := a; obtain ⟨_, _, _, ⟨_, _⟩, _, _⟩ := b; simp_all [akin]; rfl)
  ·
   try simp only [NM] at hg15
   refine g_step_no (j := 10) (t := 15) rfl rfl rfl rfl rfl rfl rfl ?_
   refine g_step_no (j := 10) (t := 15) rfl rfl rfl rfl rfl rfl rfl ?_
   refine g_step_no (j := 10) (t := 15) rfl rfl rfl rfl rfl rfl rfl ?_
   refine g_step_no (j := 10) (t := 15) rfl rfl rfl rfl rfl rfl rfl ?_
   refine g_step_no (j := 10) (t := 15) rfl rfl rfl rfl rfl rfl rfl ?_
   refine g_step rfl (s_val (v_pick_f rfl rfl) rfl rfl ?_)
   refine g_step rfl (s_val (v_assign rfl) rfl rfl ?_)
   refine g_nil ?_
   refine g_next hK1 ?_
   refine g_ret ?_
   refine g_end1 (.inl rfl) Try.results61 (.tmp rfl) [] (ASub.refl _) (AHeap.sub_refl _) (fun p hp => by cases hp) ⟨rfl, ?_⟩
   first | (obtain ⟨_, _, _, ⟨_, _⟩, _, _⟩ := a; obtain ⟨_, _, _, ⟨_, _⟩, _, _⟩ := b; simp_all [akin]; done) | (obtain ⟨_, _, _, ⟨_, _⟩, _, _⟩ := a; obtain ⟨_, _, _, ⟨_, _⟩, _, _⟩ := b; simp_all [akin]; rfl)
 ·
  try simp only [NM] at hg8
  refine g_step_no (j := 3) (t := 8) rfl rfl rfl rfl rfl rfl rfl ?_
  refine g_step_no (j := 3) (t := 8) rfl rfl rfl rfl rfl rfl rfl ?_
  refine g_step_no (j := 3) (t := 8) rfl rfl rfl rfl rfl rfl rfl ?_
  refine g_step_no (j := 3) (t := 8) rfl rfl rfl rfl rfl rfl rfl ?_
  refine g_step_no (j := 3) (t := 8) rfl rfl rfl rfl rfl rfl rfl ?_
  refine g_step rfl (s_val (v_pick_f rfl rfl) rfl rfl ?_)
  refine g_step rfl (s_val (v_move rfl) rfl rfl ?_)
  refine g_step_no (j := 10) (t := 15) rfl rfl rfl rfl rfl rfl rfl ?_
  refine g_step_no (j := 10) (t := 15) rfl rfl rfl rfl rfl rfl rfl ?_
  refine g_step_no (j := 10) (t := 15) rfl rfl rfl rfl rfl rfl rfl ?_
  refine g_step_no (j := 10) (t := 15) rfl rfl rfl rfl rfl rfl rfl ?_
  refine g_step_no (j := 10) (t := 15) rfl rfl rfl rfl rfl rfl rfl ?_
  refine g_step rfl (s_val (v_pick_f rfl rfl) rfl rfl ?_)
  refine g_step rfl (s_val (v_assign rfl) rfl rfl ?_)
  refine g_nil ?_
  refine g_next hK1 ?_
  refine g_ret ?_
  refine g_end1 (.inl rfl) Try.results61 (.tmp rfl) [] (ASub.refl _) (AHeap.sub_refl _) (fun p hp => by cases hp) ⟨rfl, ?_⟩
  first | (obtain ⟨_, _, _, ⟨_, _⟩, _, _⟩ := a; obtain ⟨_, _, _, ⟨_, _⟩, _, _⟩ := b; simp_all [akin]; done) | (obtain ⟨_, _, _, ⟨_, _⟩, _, _⟩ := a; obtain ⟨_, _, _, ⟨_, _⟩, _, _⟩ := b; simp_all [akin]; rfl)

theorem weigh_ok (a b : Rc) (G : AHeap) (hl : Small a.bag) : PCalls Try.prog 64 [encR a, encR b] G (fun v => v = .int .i64 (weigh a b)) := by
 refine LCalls.intro 39 fi64 rfl Try.ntmps64 rfl (fun _ h => h.elim) (fun H hH w0 hw0 => ?_)
 refine g_seq (fun K0 hK0 => ?_)
 refine g_region ?_
 refine g_step rfl (s_box rfl rfl rfl rfl ?_)
 refine g_step rfl (s_box rfl rfl rfl rfl ?_)
 refine g_step rfl (s_val (v_assign rfl) rfl rfl ?_)
 refine g_nil ?_
 refine g_next hK0 ?_
 refine g_seq (fun K1 hK1 => ?_)
 refine g_seq (fun K2 hK2 => ?_)
 refine g_region ?_
 refine g_step rfl (s_fieldAddr ty46 fo46_4 ty4 rfl rfl ?_)
 refine g_step rfl (s_val (v_loadl ty4 rfl rfl rfl rfl) rfl rfl ?_)
 refine g_step rfl (s_fieldAddr ty46 fo46_4 ty4 rfl rfl ?_)
 refine g_step rfl (s_val (v_loadl ty4 rfl rfl rfl rfl) rfl rfl ?_)
 refine g_step rfl (s_val (v_bool_neq ty4 rfl rfl) rfl rfl ?_)
 refine g_nil ?_
 refine g_next hK2 ?_
 refine g_cond rfl (fun hc11 => ?_) (fun hc11 => ?_)
 ·
  try simp only [NM] at hc11
  refine g_seq (fun K3 hK3 => ?_)
  refine g_seq (fun K4 hK4 => ?_)
  refine g_region ?_
  refine g_step rfl (s_fieldAddr ty46 fo46_4 ty4 rfl rfl ?_)
  refine g_step rfl (s_val (v_loadl ty4 rfl rfl rfl rfl) rfl rfl ?_)
  refine g_nil ?_
  refine g_next hK4 ?_
  refine g_cond rfl (fun hc13 => ?_) (fun hc13 => ?_)
  ·
   try simp only [NM] at hc13
   refine g_seq (fun K5 hK5 => ?_)
   refine g_region ?_
   refine g_step rfl (s_val (v_assign rfl) rfl rfl ?_)
   refine g_nil ?_
   refine g_next hK5 ?_
   refine g_ret ?_
   refine g_then_ret ?_
   refine g_then_ret ?_
   refine g_end1 (.inl rfl) Try.results64 (.tmp rfl) [] (ASub.refl _) (AHeap.sub_refl _) (fun p hp => by cases hp) ⟨rfl, ?_⟩
   first | (simp_all [weigh]; done) | (simp_all [weigh]; rfl)
  ·
   try simp only [NM] at hc13
   refine g_skip ?_
   refine g_next hK3 ?_
   refine g_seq (fun K6 hK6 => ?_)
   refine g_region ?_
   refine g_step rfl (s_val (v_assign rfl) rfl rfl ?_)
   refine g_nil ?_
   refine g_next hK6 ?_
   refine g_ret ?_
   refine g_then_ret ?_
   refine g_end1 (.inl rfl) Try.results64 (.tmp rfl) [] (ASub.refl _) (AHeap.sub_refl _) (fun p hp => by cases hp) ⟨rfl, ?_⟩
   first | (simp_all [weigh]; done) | (simp_all [weigh]; rfl)
 ·
  try simp only [NM] at hc11
  refine g_skip ?_
  refine g_next hK1 ?_
  refine g_seq (fun K7 hK7 => ?_)
  refine g_seq (fun K8 hK8 => ?_)
  refine g_region ?_
  refine g_step rfl (s_fieldAddr ty46 fo46_3 ty43 rfl rfl ?_)
  refine g_step rfl (s_fieldAddr ty43 fo43_0 ty3 rfl rfl ?_)
  refine g_step rfl (s_val (v_loadl ty3 rfl rfl rfl rfl) rfl rfl ?_)
  refine g_step rfl (s_fieldAddr ty46 fo46_3 ty43 rfl rfl ?_)
  refine g_step rfl (s_fieldAddr ty43 fo43_0 ty3 rfl rfl ?_)
  refine g_step rfl (s_val (v_loadl ty3 rfl rfl rfl rfl) rfl rfl ?_)
  refine g_step rfl (s_callp rfl rfl rfl (order_ok a.sp.lo b.sp.lo _) ?_)
  rintro _ rfl
  refine g_step rfl (s_val (v_assign rfl) rfl rfl ?_)
  refine g_nil ?_
  refine g_next hK8 ?_
  refine g_seq (fun K9 hK9 => ?_)
  refine g_region ?_
  refine g_step rfl (s_val (v_move rfl) rfl rfl ?_)
  refine g_step rfl (s_val (v_neq rfl rfl) rfl rfl ?_)
  refine g_nil ?_
  refine g_next hK9 ?_
  refine g_cond rfl (fun hc22 => ?_) (fun hc22 => ?_)
  ·
   try simp only [NM] at hc22
   refine g_seq (fun K10 hK10 => ?_)
   refine g_region ?_
   refine g_step rfl (s_val (v_move rfl) rfl rfl ?_)
   refine g_step rfl (s_val (v_assign rfl) rfl rfl ?_)
   refine g_nil ?_
   refine g_next hK10 ?_
   refine g_ret ?_
   refine g_then_ret ?_
   refine g_end1 (.inl rfl) Try.results64 (.tmp rfl) [] (ASub.refl _) (AHeap.sub_refl _) (fun p hp => by cases hp) ⟨rfl, ?_⟩
   first | (simp_all [weigh]; done) | (simp_all [weigh]; rfl)
  ·
   try simp only [NM] at hc22
   refine g_skip ?_
   refine g_next hK7 ?_
   refine g_seq (fun K11 hK11 => ?_)
   refine g_seq (fun K12 hK12 => ?_)
   refine g_region ?_
   refine g_step rfl (s_fieldAddr ty46 fo46_3 ty43 rfl rfl ?_)
   refine g_step rfl (s_fieldAddr ty43 fo43_1 ty3 rfl rfl ?_)
   refine g_step rfl (s_val (v_loadl ty3 rfl rfl rfl rfl) rfl rfl ?_)
   refine g_step rfl (s_fieldAddr ty46 fo46_3 ty43 rfl rfl ?_)
   refine g_step rfl (s_fieldAddr ty43 fo43_1 ty3 rfl rfl ?_)
   refine g_step rfl (s_val (v_loadl ty3 rfl rfl rfl rfl) rfl rfl ?_)
   refine g_step rfl (s_callp rfl rfl rfl (order_ok a.sp.hi b.sp.hi _) ?_)
   rintro _ rfl
   refine g_step rfl (s_val (v_assign rfl) rfl rfl ?_)
   refine g_nil ?_
   refine g_next hK12 ?_
   refine g_seq (fun K13 hK13 => ?_)
   refine g_region ?_
   refine g_step rfl (s_val (v_move rfl) rfl rfl ?_)
   refine g_step rfl (s_val (v_neq rfl rfl) rfl rfl ?_)
   refine g_nil ?_
   refine g_next hK13 ?_
   refine g_cond rfl (fun hc32 => ?_) (fun hc32 => ?_)
   ·
    try simp only [NM] at hc32
    refine g_seq (fun K14 hK14 => ?_)
    refine g_region ?_
    refine g_step rfl (s_val (v_move rfl) rfl rfl ?_)
    refine g_step rfl (s_val (v_assign rfl) rfl rfl ?_)
    refine g_nil ?_
    refine g_next hK14 ?_
    refine g_ret ?_
    refine g_then_ret ?_
    refine g_end1 (.inl rfl) Try.results64 (.tmp rfl) [] (ASub.refl _) (AHeap.sub_refl _) (fun p hp => by cases hp) ⟨rfl, ?_⟩
    first | (simp_all [weigh]; done) | (simp_all [weigh]; rfl)
   ·
    try simp only [NM] at hc32
    refine g_skip ?_
    refine g_next hK11 ?_
    refine g_seq (fun K15 hK15 => ?_)
    refine g_region ?_
    refine g_step rfl (s_fieldAddr ty46 fo46_5 ty44 rfl rfl ?_)
    refine g_step rfl (s_val (v_loadl ty44 rfl rfl rfl rfl) rfl rfl ?_)
    refine g_step rfl (s_fieldAddr ty46 fo46_5 ty44 rfl rfl ?_)
    refine g_step rfl (s_val (v_loadl ty44 rfl rfl rfl rfl) rfl rfl ?_)
    refine g_step rfl (s_callp rfl rfl rfl (bagCompare_ok a.bag b.bag _ _ _ rfl rfl hl) ?_)
    rintro _ rfl
    refine g_step rfl (s_val (v_assign rfl) rfl rfl ?_)
    refine g_nil ?_
    refine g_next hK15 ?_
    refine g_ret ?_
    refine g_end1 (.inl rfl) Try.results64 (.tmp rfl) [] (ASub.refl _) (AHeap.sub_refl _) (fun p hp => by cases hp) ⟨rfl, ?_⟩
    first | (simp_all [weigh]; done) | (simp_all [weigh]; rfl)

theorem recValid_ok (r : Rc) (G : AHeap) (hl : Small r.bag) : PCalls Try.prog 22 [encR r] G (fun v => v = .bool (recValid r)) := by
 refine LCalls.intro 50 fi22 rfl Try.ntmps22 rfl (fun _ h => h.elim) (fun H hH w0 hw0 => ?_)
 refine g_seq (fun K0 hK0 => ?_)
 refine g_region ?_
 refine g_step rfl (s_box rfl rfl rfl rfl ?_)
 refine g_step rfl (s_val (v_assign rfl) rfl rfl ?_)
 refine g_nil ?_
 refine g_next hK0 ?_
 refine g_seq (fun K1 hK1 => ?_)
 refine g_block ?_
 refine g_seq (fun K2 hK2 => ?_)
 refine g_region ?_
 refine g_step rfl (s_fieldAddr ty46 fo46_0 ty3 rfl rfl ?_)
 refine g_step rfl (s_val (v_loadl ty3 rfl rfl rfl rfl) rfl rfl ?_)
 refine g_step rfl (s_val (v_lss rfl rfl) rfl rfl ?_)
 refine g_step rfl (s_val (v_move rfl) rfl rfl ?_)
 refine g_split 7 rfl (fun hg7 => ?_) (fun hg7 => ?_)
 ·
  try simp only [NM] at hg7
  refine g_step_no (j := 3) (t := 7) rfl rfl rfl rfl rfl rfl rfl ?_
  refine g_step_no (j := 3) (t := 7) rfl rfl rfl rfl rfl rfl rfl ?_
  refine g_step_no (j := 3) (t := 7) rfl rfl rfl rfl rfl rfl rfl ?_
  refine g_step rfl (s_val (v_pick_t rfl rfl) rfl rfl ?_)
  refine g_step rfl (s_val (v_assign rfl) rfl rfl ?_)
  refine g_nil ?_
  refine g_next hK2 ?_
  refine g_cond rfl (fun _ => ?_) (fun h => by cases h)
  refine g_skip ?_
  refine g_block_normal ?_
  refine g_next hK1 ?_
  refine g_seq (fun K3 hK3 => ?_)
  refine g_region ?_
  refine g_step rfl (s_val (v_assign rfl) rfl rfl ?_)
  refine g_nil ?_
  refine g_next hK3 ?_
  refine g_ret ?_
  refine g_end1 (.inl rfl) Try.results22 (.tmp rfl) [] (ASub.refl _) (AHeap.sub_refl _) (fun p hp => by cases hp) ⟨rfl, ?_⟩
  first | (first | (simp [recValid, *] <;> omega) | (simp_all [recValid] <;> omega); done) | (first | (simp [recValid, *] <;> omega) | (simp_all [recValid] <;> omega); rfl)
 ·
  try simp only [NM] at hg7
  refine g_step_yes (j := 3) (t := 7) rfl rfl rfl rfl (s_fieldAddr ty46 fo46_0 ty3 rfl rfl ?_)
  refine g_step_yes (j := 3) (t := 7) rfl rfl rfl rfl (s_val (v_loadl ty3 rfl rfl rfl rfl) rfl rfl ?_)
  refine g_step_yes (j := 3) (t := 7) rfl rfl rfl rfl (s_val (v_gtr rfl rfl) rfl rfl ?_)
  refine g_step rfl (s_val (v_pick_f rfl rfl) rfl rfl ?_)
  refine g_step rfl (s_val (v_assign rfl) rfl rfl ?_)
  refine g_nil ?_
  refine g_next hK2 ?_
  refine g_cond rfl (fun hc3 => ?_) (fun hc3 => ?_)
  ·
   try simp only [NM] at hc3
   refine g_skip ?_
   refine g_block_normal ?_
   refine g_next hK1 ?_
   refine g_seq (fun K4 hK4 => ?_)
   refine g_region ?_
   refine g_step rfl (s_val (v_assign rfl) rfl rfl ?_)
   refine g_nil ?_
   refine g_next hK4 ?_
   refine g_ret ?_
   refine g_end1 (.inl rfl) Try.results22 (.tmp rfl) [] (ASub.refl _) (AHeap.sub_refl _) (fun p hp => by cases hp) ⟨rfl, ?_⟩
   first | (first | (simp [recValid, *] <;> omega) | (simp_all [recValid] <;> omega); done) | (first | (simp [recValid, *] <;> omega) | (simp_all [recValid] <;> omega); rfl)
  ·
   try simp only [NM] at hc3
   refine g_seq (fun K5 hK5 => ?_)
   refine g_region ?_
   refine g_step rfl (s_fieldAddr ty46 fo46_1 ty3 rfl rfl ?_)
   refine g_step rfl (s_val (v_loadl ty3 rfl rfl rfl rfl) rfl rfl ?_)
   refine g_step rfl (s_val (v_lss rfl rfl) rfl rfl ?_)
   refine g_step rfl (s_val (v_move rfl) rfl rfl ?_)
   refine g_split 16 rfl (fun hg16 => ?_) (fun hg16 => ?_)
   ·
    try simp only [NM] at hg16
    refine g_step_no (j := 3) (t := 16) rfl rfl rfl rfl rfl rfl rfl ?_
    refine g_step_no (j := 3) (t := 16) rfl rfl rfl rfl rfl rfl rfl ?_
    refine g_step_no (j := 3) (t := 16) rfl rfl rfl rfl rfl rfl rfl ?_
    refine g_step rfl (s_val (v_pick_t rfl rfl) rfl rfl ?_)
    refine g_step rfl (s_val (v_assign rfl) rfl rfl ?_)
    refine g_nil ?_
    refine g_next hK5 ?_
    refine g_cond rfl (fun _ => ?_) (fun h => by cases h)
    refine g_skip ?_
    refine g_block_normal ?_
    refine g_next hK1 ?_
    refine g_seq (fun K6 hK6 => ?_)
    refine g_region ?_
    refine g_step rfl (s_val (v_assign rfl) rfl rfl ?_)
    refine g_nil ?_
    refine g_next hK6 ?_
    refine g_ret ?_
    refine g_end1 (.inl rfl) Try.results22 (.tmp rfl) [] (ASub.refl _) (AHeap.sub_refl _) (fun p hp => by cases hp) ⟨rfl, ?_⟩
    first | (first | (simp [recValid, *] <;> omega) | (simp_all [recValid] <;> omega); done) | (first | (simp [recValid, *] <;> omega) | (simp_all [recValid] <;> omega); rfl)
   ·
    try simp only [NM] at hg16
    refine g_step_yes (j := 3) (t := 16) rfl rfl rfl rfl (s_fieldAddr ty46 fo46_1 ty3 rfl rfl ?_)
    refine g_step_yes (j := 3) (t := 16) rfl rfl rfl rfl (s_val (v_loadl ty3 rfl rfl rfl rfl) rfl rfl ?_)
    refine g_step_yes (j := 3) (t := 16) rfl rfl rfl rfl (s_val (v_gtr rfl rfl) rfl rfl ?_)
    refine g_step rfl (s_val (v_pick_f rfl rfl) rfl rfl ?_)
    refine g_step rfl (s_val (v_assign rfl) rfl rfl ?_)
    refine g_nil ?_
    refine g_next hK5 ?_
    refine g_cond rfl (fun hc12 => ?_) (fun hc12 => ?_)
    ·
     try simp only [NM] at hc12
     refine g_skip ?_
     refine g_block_normal ?_
     refine g_next hK1 ?_
     refine g_seq (fun K7 hK7 => ?_)
     refine g_region ?_
     refine g_step rfl (s_val (v_assign rfl) rfl rfl ?_)
     refine g_nil ?_
     refine g_next hK7 ?_
     refine g_ret ?_
     refine g_end1 (.inl rfl) Try.results22 (.tmp rfl) [] (ASub.refl _) (AHeap.sub_refl _) (fun p hp => by cases hp) ⟨rfl, ?_⟩
     first | (first | (simp [recValid, *] <;> omega) | (simp_all [recValid] <;> omega); done) | (first | (simp [recValid, *] <;> omega) | (simp_all [recValid] <;> omega); rfl)
    ·
     try simp only [NM] at hc12
     refine g_seq (fun K8 hK8 => ?_)
     refine g_region ?_
     refine g_step rfl (s_fieldAddr ty46 fo46_2 ty3 rfl rfl ?_)
     refine g_step rfl (s_val (v_loadl ty3 rfl rfl rfl rfl) rfl rfl ?_)
     refine g_step rfl (s_val (v_lss rfl rfl) rfl rfl ?_)
     refine g_step rfl (s_val (v_move rfl) rfl rfl ?_)
     refine g_split 25 rfl (fun hg25 => ?_) (fun hg25 => ?_)
     ·
      try simp only [NM] at hg25
      refine g_step_no (j := 3) (t := 25) rfl rfl rfl rfl rfl rfl rfl ?_
      refine g_step_no (j := 3) (t := 25) rfl rfl rfl rfl rfl rfl rfl ?_
      refine g_step_no (j := 3) (t := 25) rfl rfl rfl rfl rfl rfl rfl ?_
      refine g_step rfl (s_val (v_pick_t rfl rfl) rfl rfl ?_)
      refine g_step rfl (s_val (v_assign rfl) rfl rfl ?_)
      refine g_nil ?_
      refine g_next hK8 ?_
      refine g_cond rfl (fun _ => ?_) (fun h => by cases h)
      refine g_skip ?_
      refine g_block_normal ?_
      refine g_next hK1 ?_
      refine g_seq (fun K9 hK9 => ?_)
      refine g_region ?_
      refine g_step rfl (s_val (v_assign rfl) rfl rfl ?_)
      refine g_nil ?_
      refine g_next hK9 ?_
      refine g_ret ?_
      refine g_end1 (.inl rfl) Try.results22 (.tmp rfl) [] (ASub.refl _) (AHeap.sub_refl _) (fun p hp => by cases hp) ⟨rfl, ?_⟩
      first | (first | (simp [recValid, *] <;> omega) | (simp_all [recValid] <;> omega); done) | (first | (simp [recValid, *] <;> omega) | (simp_all [recValid] <;> omega); rfl)
     ·
      try simp only [NM] at hg25
      refine g_step_yes (j := 3) (t := 25) rfl rfl rfl rfl (s_fieldAddr ty46 fo46_2 ty3 rfl rfl ?_)
      refine g_step_yes (j := 3) (t := 25) rfl rfl rfl rfl (s_val (v_loadl ty3 rfl rfl rfl rfl) rfl rfl ?_)
      refine g_step_yes (j := 3) (t := 25) rfl rfl rfl rfl (s_val (v_gtr rfl rfl) rfl rfl ?_)
      refine g_step rfl (s_val (v_pick_f rfl rfl) rfl rfl ?_)
      refine g_step rfl (s_val (v_assign rfl) rfl rfl ?_)
      refine g_nil ?_
      refine g_next hK8 ?_
      refine g_cond rfl (fun hc21 => ?_) (fun hc21 => ?_)
      ·
       try simp only [NM] at hc21
       refine g_skip ?_
       refine g_block_normal ?_
       refine g_next hK1 ?_
       refine g_seq (fun K10 hK10 => ?_)
       refine g_region ?_
       refine g_step rfl (s_val (v_assign rfl) rfl rfl ?_)
       refine g_nil ?_
       refine g_next hK10 ?_
       refine g_ret ?_
       refine g_end1 (.inl rfl) Try.results22 (.tmp rfl) [] (ASub.refl _) (AHeap.sub_refl _) (fun p hp => by cases hp) ⟨rfl, ?_⟩
       first | (first | (simp [recValid, *] <;> omega) | (simp_all [recValid] <;> omega); done) | (first | (simp [recValid, *] <;> omega) | (simp_all [recValid] <;> omega); rfl)
      ·
       try simp only [NM] at hc21
       refine g_seq (fun K11 hK11 => ?_)
       refine g_region ?_
       refine g_step rfl (s_fieldAddr ty46 fo46_3 ty43 rfl rfl ?_)
       refine g_step rfl (s_val (v_loadl_part (cs := [_, _]) ty43 rfl rfl rfl rfl rfl rfl) rfl rfl ?_)
       refine g_step rfl (s_callp rfl rfl rfl (spValid_ok _ _) ?_)
       rintro _ rfl
       refine g_step rfl (s_val (v_not rfl) rfl rfl ?_)
       refine g_step rfl (s_val (v_move rfl) rfl rfl ?_)
       refine g_split 35 rfl (fun hg35 => ?_) (fun hg35 => ?_)
       ·
        try simp only [NM] at hg35
        refine g_step_no (j := 4) (t := 35) rfl rfl rfl rfl rfl rfl rfl ?_
        refine g_step_no (j := 4) (t := 35) rfl rfl rfl rfl rfl rfl rfl ?_
        refine g_step_no (j := 4) (t := 35) rfl rfl rfl rfl rfl rfl rfl ?_
        refine g_step_no (j := 4) (t := 35) rfl rfl rfl rfl rfl rfl rfl ?_
        refine g_step rfl (s_val (v_pick_t rfl rfl) rfl rfl ?_)
        refine g_step rfl (s_val (v_assign rfl) rfl rfl ?_)
        refine g_nil ?_
        refine g_next hK11 ?_
        first | refine g_keep [30] [1] [1] (keep_cons rfl keep_nil) (lkeep_cons rfl lkeep_nil) (keep_cons rfl keep_nil) rfl ?_ | refine g_keep [30] [1] [1] rfl rfl rfl rfl ?_
        refine g_cond rfl (fun _ => ?_) (fun h => by cases h)
        refine g_skip ?_
        refine g_block_normal ?_
        refine g_next hK1 ?_
        refine g_seq (fun K12 hK12 => ?_)
        refine g_region ?_
        refine g_step rfl (s_val (v_assign rfl) rfl rfl ?_)
        refine g_nil ?_
        refine g_next hK12 ?_
        refine g_ret ?_
        refine g_end1 (.inl rfl) Try.results22 (.tmp rfl) [] (ASub.refl _) (AHeap.sub_refl _) (fun p hp => by cases hp) ⟨rfl, ?_⟩
        first | (first | (simp [recValid, *] <;> omega) | (simp_all [recValid] <;> omega); done) | (first | (simp [recValid, *] <;> omega) | (simp_all [recValid] <;> omega); rfl)
       ·
        try simp only [NM] at hg35
        refine g_step_yes (j := 4) (t := 35) rfl rfl rfl rfl (s_fieldAddr ty46 fo46_5 ty44 rfl rfl ?_)
        refine g_step_yes (j := 4) (t := 35) rfl rfl rfl rfl (s_val (v_loadl ty44 rfl rfl rfl rfl) rfl rfl ?_)
        refine g_step_yes (j := 4) (t := 35) rfl rfl rfl rfl (s_callp rfl rfl rfl (bagValid_ok _ _ _ rfl (by assumption)) ?_)
        rintro _ rfl
        refine g_step_yes (j := 4) (t := 35) rfl rfl rfl rfl (s_val (v_not rfl) rfl rfl ?_)
        refine g_step rfl (s_val (v_pick_f rfl rfl) rfl rfl ?_)
        refine g_step rfl (s_val (v_assign rfl) rfl rfl ?_)
        refine g_nil ?_
        refine g_next hK11 ?_
        first | refine g_keep [30] [1] [1] (keep_cons rfl keep_nil) (lkeep_cons rfl lkeep_nil) (keep_cons rfl keep_nil) rfl ?_ | refine g_keep [30] [1] [1] rfl rfl rfl rfl ?_
        refine g_cond rfl (fun hc30 => ?_) (fun hc30 => ?_)
        ·
         try simp only [NM] at hc30
         refine g_skip ?_
         refine g_block_normal ?_
         refine g_next hK1 ?_
         refine g_seq (fun K13 hK13 => ?_)
         refine g_region ?_
         refine g_step rfl (s_val (v_assign rfl) rfl rfl ?_)
         refine g_nil ?_
         refine g_next hK13 ?_
         refine g_ret ?_
         refine g_end1 (.inl rfl) Try.results22 (.tmp rfl) [] (ASub.refl _) (AHeap.sub_refl _) (fun p hp => by cases hp) ⟨rfl, ?_⟩
         first | (first | (simp [recValid, *] <;> omega) | (simp_all [recValid] <;> omega); done) | (first | (simp [recValid, *] <;> omega) | (simp_all [recValid] <;> omega); rfl)
        ·
         try simp only [NM] at hc30
         refine g_seq (fun K14 hK14 => ?_)
         refine g_region ?_
         refine g_step rfl (s_fieldAddr ty46 fo46_4 ty4 rfl rfl ?_)
         refine g_step rfl (s_val (v_loadl ty4 rfl rfl rfl rfl) rfl rfl ?_)
         refine g_step rfl (s_val (v_move rfl) rfl rfl ?_)
         refine g_split 44 rfl (fun hg44 => ?_) (fun hg44 => ?_)
         ·
          try simp only [NM] at hg44
          refine g_step_yes (j := 2) (t := 44) rfl rfl rfl rfl (s_fieldAddr ty46 fo46_5 ty44 rfl rfl ?_)
          refine g_step_yes (j := 2) (t := 44) rfl rfl rfl rfl (s_val (v_loadl ty44 rfl rfl rfl rfl) rfl rfl ?_)
          refine g_step_yes (j := 2) (t := 44) rfl rfl rfl rfl (s_val (v_len ty44 rfl (by first | rfl | assumption) (by first | exact List.length_map .. | rfl)) rfl rfl ?_)
          refine g_step_yes (j := 2) (t := 44) rfl rfl rfl rfl (s_val (v_gtr rfl rfl) rfl rfl ?_)
          refine g_step rfl (s_val (v_pick_t rfl rfl) rfl rfl ?_)
          refine g_step rfl (s_val (v_assign rfl) rfl rfl ?_)
          refine g_nil ?_
          refine g_next hK14 ?_
          refine g_cond rfl (fun hc41 => ?_) (fun hc41 => ?_)
          ·
           try simp only [NM] at hc41
           refine g_skip ?_
           refine g_block_normal ?_
           refine g_next hK1 ?_
           refine g_seq (fun K15 hK15 => ?_)
           refine g_region ?_
           refine g_step rfl (s_val (v_assign rfl) rfl rfl ?_)
           refine g_nil ?_
           refine g_next hK15 ?_
           refine g_ret ?_
           refine g_end1 (.inl rfl) Try.results22 (.tmp rfl) [] (ASub.refl _) (AHeap.sub_refl _) (fun p hp => by cases hp) ⟨rfl, ?_⟩
           first | (first | (simp [recValid, *] <;> omega) | (simp_all [recValid] <;> omega); done) | (first | (simp [recValid, *] <;> omega) | (simp_all [recValid] <;> omega); rfl)
          ·
           try simp only [NM] at hc41
           refine g_seq (fun K16 hK16 => ?_)
           refine g_region ?_
           refine g_step rfl (s_val (v_assign rfl) rfl rfl ?_)
           refine g_nil ?_
           refine g_next hK16 ?_
           refine g_ret ?_
           refine g_block_ret ?_
           refine g_then_ret ?_
           refine g_end1 (.inl rfl) Try.results22 (.tmp rfl) [] (ASub.refl _) (AHeap.sub_refl _) (fun p hp => by cases hp) ⟨rfl, ?_⟩
           first | (first | (simp [recValid, *] <;> omega) | (simp_all [recValid] <;> omega); done) | (first | (simp [recValid, *] <;> omega) | (simp_all [recValid] <;> omega); rfl)
         ·
          try simp only [NM] at hg44
          refine g_step_no (j := 2) (t := 44) rfl rfl rfl rfl rfl rfl rfl ?_
          refine g_step_no (j := 2) (t := 44) rfl rfl rfl rfl rfl rfl rfl ?_
          refine g_step_no (j := 2) (t := 44) rfl rfl rfl rfl rfl rfl rfl ?_
          refine g_step_no (j := 2) (t := 44) rfl rfl rfl rfl rfl rfl rfl ?_
          refine g_step rfl (s_val (v_pick_f rfl rfl) rfl rfl ?_)
          refine g_step rfl (s_val (v_assign rfl) rfl rfl ?_)
          refine g_nil ?_
          refine g_next hK14 ?_
          refine g_cond rfl (fun h => by cases h) (fun _ => ?_)
          refine g_seq (fun K17 hK17 => ?_)
          refine g_region ?_
          refine g_step rfl (s_val (v_assign rfl) rfl rfl ?_)
          refine g_nil ?_
          refine g_next hK17 ?_
          refine g_ret ?_
          refine g_block_ret ?_
          refine g_then_ret ?_
          refine g_end1 (.inl rfl) Try.results22 (.tmp rfl) [] (ASub.refl _) (AHeap.sub_refl _) (fun p hp => by cases hp) ⟨rfl, ?_⟩
          first | (first | (simp [recValid, *] <;> omega) | (simp_all [recValid] <;> omega); done) | (first | (simp [recValid, *] <;> omega) | (simp_all [recValid] <;> omega); rfl)

theorem where_ok (l : List Rc) (f : Nat) (caps : List AV) (p : Rc → Bool) (G : AHeap) (va : AV) (hva : va.view G = some (l.map encR)) (hl : l.length ≤ 1000000) (hcall : ∀ x ∈ l, ∀ H, G.sub H → PCalls Try.prog f ([encR x] ++ caps) H (fun v => v = .bool (p x))) : PCalls Try.prog 51 [va, .fn (.func f) caps] G (fun v => v = .int .i64 (idx p l : Nat)) := by
 refine LCalls.intro 21 fi51 rfl Try.ntmps51 rfl (fun _ h => h.elim) (fun H hH w0 hw0 => ?_)
 have hva := view_sub hH hva
 refine g_seq (fun K0 hK0 => ?_)
 refine g_region ?_
 refine g_step rfl (s_val (v_assign rfl) rfl rfl ?_)
 refine g_nil ?_
 refine g_next hK0 ?_
 refine g_seq (fun K1 hK1 => ?_)
 refine g_seq (fun K2 hK2 => ?_)
 refine g_region ?_
 refine g_step rfl (s_val (v_move rfl) rfl rfl ?_)
 refine g_step rfl (s_val (v_len ty22 rfl hva (by first | exact List.length_map .. | rfl)) rfl rfl ?_)
 refine g_step rfl (s_val (v_move rfl) rfl rfl ?_)
 refine g_nil ?_
 refine g_next hK2 ?_
 refine g_block ?_
 first | refine g_keep [0, 1, 7, 8, 9] [] [] (keep_cons rfl (keep_cons rfl (keep_cons rfl (keep_cons rfl (keep_cons rfl keep_nil))))) lkeep_nil keep_nil rfl ?_ | refine g_keep [0, 1, 7, 8, 9] [] [] rfl rfl rfl rfl ?_
 refine g_loop (fun n env L B G => ∃ k : Nat, k ≤ l.length ∧ n = l.length - k ∧ env = [(0, va), (1, .fn (.func f) caps), (7, va), (8, .int .i64 (l.length : Int)), (9, .int .i64 (k : Int))] ∧ L = [] ∧ B = [] ∧ G = H ∧ idx p (l.drop k) + k = idx p l) l.length ⟨0, by omega, rfl, rfl, rfl, rfl, rfl, rfl⟩ (fun n env L B G hI => ?_)
 obtain ⟨k, hk, rfl, rfl, rfl, rfl, rfl, hc⟩ := hI
 refine g_seq (fun K3 hK3 => ?_)
 refine g_region ?_
 refine g_step rfl (s_val (v_lss rfl rfl) rfl rfl ?_)
 refine g_nil ?_
 refine g_next hK3 ?_
 refine g_seq (fun K4 hK4 => ?_)
 refine g_cond rfl (fun hc10 => ?_) (fun hc10 => ?_)
 ·
  try simp only [NM] at hc10
  obtain ⟨x, hx⟩ := get_some (l := l) (k := k) (by omega)
  refine g_skip ?_
  refine g_next hK4 ?_
  refine g_seq (fun K5 hK5 => ?_)
  refine g_block ?_
  refine g_seq (fun K6 hK6 => ?_)
  refine g_region ?_
  refine g_step rfl (s_val (v_move rfl) rfl rfl ?_)
  refine g_step rfl (s_val (v_indexAddr ty22 ty46 rfl rfl hva (by first | rfl | exact (rfl : (0 : Int) = ((0 : Nat) : Int)) | exact (Int.toNat_of_nonneg (by omega)).symm) (by first | assumption | exact map_get (by assumption) | rfl) rfl) rfl rfl ?_)
  refine g_step rfl (s_val (by first | exact v_load_elt ty46 rfl rfl hva (by first | assumption | exact map_get (by assumption) | rfl) rfl rfl | exact v_load_box_all ty46 rfl rfl (by assumption) rfl rfl | exact v_load_part (cs := [_, _, _, _, _, _, _]) ty46 rfl rfl hva (by first | assumption | exact map_get (by assumption) | rfl) rfl rfl rfl | exact v_load_box_part (cs := [_, _, _, _, _, _, _]) ty46 rfl rfl (by assumption) rfl rfl rfl) rfl rfl ?_)
  refine g_step rfl (s_alloc (av := (.agg [(.int .i64 0), (.int .i64 0), (.int .i64 0), (.int .i64 0), (.int .i64 0), (.bool false), .nil0])) ty46 rfl rfl rfl rfl ?_)
  refine g_step rfl (s_val (v_assign rfl) rfl rfl ?_)
  refine g_step rfl (s_store_all ty46 rfl rfl rfl rfl rfl rfl ?_)
  refine g_nil ?_
  refine g_next hK6 ?_
  refine g_seq (fun K7 hK7 => ?_)
  refine g_region ?_
  refine g_step rfl (s_val (v_move rfl) rfl rfl ?_)
  refine g_step rfl (s_val (by first | exact v_loadl_all ty46 rfl rfl rfl rfl rfl | exact v_loadl_part (cs := [_, _, _, _, _, _, _]) ty46 rfl rfl rfl rfl rfl rfl) rfl rfl ?_)
  refine g_step rfl (s_callp rfl rfl rfl (hcall x (mem_get hx) _ hH) ?_)
  rintro _ rfl
  refine g_nil ?_
  refine g_next hK7 ?_
  refine g_cond rfl (fun hc16 => ?_) (fun hc16 => ?_)
  ·
   try simp only [NM] at hc16
   refine g_seq (fun K8 hK8 => ?_)
   refine g_region ?_
   refine g_step rfl (s_val (v_move rfl) rfl rfl ?_)
   refine g_step rfl (s_val (v_assign rfl) rfl rfl ?_)
   refine g_nil ?_
   refine g_next hK8 ?_
   refine g_ret ?_
   refine g_block_ret ?_
   refine g_then_ret ?_
   refine g_then_ret ?_
   refine g_block_ret ?_
   refine g_then_ret ?_
   refine g_end1 (.inl rfl) Try.results51 (.tmp rfl) [] (ASub.refl _) (AHeap.sub_refl _) (fun p hp => by cases hp) ⟨rfl, ?_⟩
   first | (rw [idx_hit hc hx hc16]; done) | (rw [idx_hit hc hx hc16]; rfl)
  ·
   try simp only [NM] at hc16
   refine g_skip ?_
   refine g_block_normal ?_
   refine g_next hK5 ?_
   refine g_region ?_
   refine g_step rfl (s_val (v_add rfl rfl (by omega)) rfl rfl ?_)
   refine g_step rfl (s_val (v_move rfl) rfl rfl ?_)
   refine g_nil ?_
   first | refine g_keep [0, 1, 7, 8, 9] [] [] (keep_cons rfl (keep_cons rfl (keep_cons rfl (keep_cons rfl (keep_cons rfl keep_nil))))) lkeep_nil keep_nil rfl ?_ | refine g_keep [0, 1, 7, 8, 9] [] [] rfl rfl rfl rfl ?_
   exact g_round _ (by omega) ⟨k + 1, by omega, rfl, rfl, rfl, rfl, rfl, idx_miss hc hx hc16⟩
 ·
  try simp only [NM] at hc10
  obtain rfl : k = l.length := by omega
  refine g_exit ?_
  refine g_then_exit ?_
  refine g_then_exit ?_
  refine g_block_same ?_
  refine g_next hK1 ?_
  refine g_seq (fun K9 hK9 => ?_)
  refine g_region ?_
  refine g_step rfl (s_val (v_move rfl) rfl rfl ?_)
  refine g_step rfl (s_val (v_len ty22 rfl hva (by first | exact List.length_map .. | rfl)) rfl rfl ?_)
  refine g_step rfl (s_val (v_assign rfl) rfl rfl ?_)
  refine g_nil ?_
  refine g_next hK9 ?_
  refine g_ret ?_
  refine g_end1 (.inl rfl) Try.results51 (.tmp rfl) [] (ASub.refl _) (AHeap.sub_refl _) (fun p hp => by cases hp) ⟨rfl, ?_⟩
  first | (rw [idx_end hc]; done) | (rw [idx_end hc]; rfl)

theorem put1_ok (b : Nat) (r x : Rc) (G : AHeap) (hG : G b = some (.box (encR r))) : PCalls Try.prog 87 [encR x, .box b 0] G (fun v => v = .bool (decide (x.id = r.id))) := by
 refine LCalls.intro 9 fi87 rfl Try.ntmps87 rfl (fun _ h => h.elim) (fun H hH w0 hw0 => ?_)
 have hG := hH _ _ hG
 refine g_seq (fun K0 hK0 => ?_)
 refine g_region ?_
 refine g_step rfl (s_box rfl rfl rfl rfl ?_)
 refine g_step rfl (s_val (v_assign rfl) rfl rfl ?_)
 refine g_nil ?_
 refine g_next hK0 ?_
 refine g_seq (fun K1 hK1 => ?_)
 refine g_region ?_
 refine g_step rfl (s_fieldAddr ty46 fo46_0 ty3 rfl rfl ?_)
 refine g_step rfl (s_val (v_loadl ty3 rfl rfl rfl rfl) rfl rfl ?_)
 refine g_step rfl (s_val (by first | exact v_fieldAddr ty46 fo46_0 ty3 rfl | exact v_fieldAddr_box ty46 fo46_0 ty3 rfl) rfl rfl ?_)
 refine g_step rfl (s_val (by first | exact v_load ty3 rfl rfl (by first | rfl | assumption) (by first | assumption | exact map_get (by assumption) | rfl) rfl | exact v_load_box ty3 rfl rfl (by assumption) rfl) rfl rfl ?_)
 refine g_step rfl (s_val (v_eql rfl rfl) rfl rfl ?_)
 refine g_step rfl (s_val (v_assign rfl) rfl rfl ?_)
 refine g_nil ?_
 refine g_next hK1 ?_
 refine g_ret ?_
 refine g_end1 (.inl rfl) Try.results87 (.tmp rfl) [] (ASub.refl _) (AHeap.sub_refl _) (fun p hp => by cases hp) ⟨rfl, ?_⟩
 rfl

theorem put2_ok (b : Nat) (r x : Rc) (G : AHeap) (hG : G b = some (.box (encR r))) : PCalls Try.prog 88 [encR x, .box b 0] G (fun v => v = .bool (decide (r.id < x.id))) := by
 refine LCalls.intro 9 fi88 rfl Try.ntmps88 rfl (fun _ h => h.elim) (fun H hH w0 hw0 => ?_)
 have hG := hH _ _ hG
 refine g_seq (fun K0 hK0 => ?_)
 refine g_region ?_
 refine g_step rfl (s_box rfl rfl rfl rfl ?_)
 refine g_step rfl (s_val (v_assign rfl) rfl rfl ?_)
 refine g_nil ?_
 refine g_next hK0 ?_
 refine g_seq (fun K1 hK1 => ?_)
 refine g_region ?_
 refine g_step rfl (s_fieldAddr ty46 fo46_0 ty3 rfl rfl ?_)
 refine g_step rfl (s_val (v_loadl ty3 rfl rfl rfl rfl) rfl rfl ?_)
 refine g_step rfl (s_val (by first | exact v_fieldAddr ty46 fo46_0 ty3 rfl | exact v_fieldAddr_box ty46 fo46_0 ty3 rfl) rfl rfl ?_)
 refine g_step rfl (s_val (by first | exact v_load ty3 rfl rfl (by first | rfl | assumption) (by first | assumption | exact map_get (by assumption) | rfl) rfl | exact v_load_box ty3 rfl rfl (by assumption) rfl) rfl rfl ?_)
 refine g_step rfl (s_val (v_gtr rfl rfl) rfl rfl ?_)
 refine g_step rfl (s_val (v_assign rfl) rfl rfl ?_)
 refine g_nil ?_
 refine g_next hK1 ?_
 refine g_ret ?_
 refine g_end1 (.inl rfl) Try.results88 (.tmp rfl) [] (ASub.refl _) (AHeap.sub_refl _) (fun p hp => by cases hp) ⟨rfl, ?_⟩
 rfl

end Go.Proofs.Ytgipbhfblmblcaa

import Derived.Test.YtgipbhfblmblcaaLaw08
import Derived.Test.YtgipbhfblmblcaaPLat
set_option maxHeartbeats 8000000
set_option linter.unusedSimpArgs false
set_option linter.unusedVariables false
set_option maxRecDepth 100000
namespace Go.Proofs.Ytgipbhfblmblcaa
open Go Go.Proofs.Ytgipbhfblmblcaa.AM
theorem join_ok (a b : Rc) (G : AHeap) (hla : Small a.bag) (hlb : Small b.bag) : PCalls Try.prog 28 [encR a, encR b] G (fun v => v = .tup [encR (jnAll a b), .bool (decide (a.id = b.id))]) := by
 refine LCalls.intro 43 fi28 rfl Try.ntmps28 rfl (fun _ h => h.elim) (fun H hH w0 hw0 => ?_)
 refine g_seq (fun K0 hK0 => ?_)
 refine g_region ?_
 refine g_step rfl (s_box rfl rfl rfl rfl ?_)
 refine g_step rfl (s_box rfl rfl rfl rfl ?_)
 refine g_step rfl (s_alloc (av := (.agg [(.int .i64 0), (.int .i64 0), (.int .i64 0), (.int .i64 0), (.int .i64 0), (.bool false), .nil0])) ty46 rfl rfl rfl rfl ?_)
 refine g_step rfl (s_val (v_assign rfl) rfl rfl ?_)
 refine g_nil ?_
 refine g_next hK0 ?_
 refine g_seq (fun K1 hK1 => ?_)
 refine g_seq (fun K2 hK2 => ?_)
 refine g_region ?_
 refine g_step rfl (s_fieldAddr ty46 fo46_0 ty3 rfl rfl ?_)
 refine g_step rfl (s_val (v_loadl ty3 rfl rfl rfl rfl) rfl rfl ?_)
 refine g_step rfl (s_fieldAddr ty46 fo46_0 ty3 rfl rfl ?_)
 refine g_step rfl (s_val (v_loadl ty3 rfl rfl rfl rfl) rfl rfl ?_)
 refine g_step rfl (s_val (v_neq rfl rfl) rfl rfl ?_)
 refine g_nil ?_
 refine g_next hK2 ?_
 refine g_cond rfl (fun hc11 => ?_) (fun hc11 => ?_)
 ·
  try simp only [NM] at hc11
  refine g_seq (fun K3 hK3 => ?_)
  refine g_region ?_
  refine g_step rfl (s_val (v_sub (b := (encR rzero)) (v_build (vs := []) (zs := [(.int .i64 0), (.int .i64 0), (.int .i64 0), (.int .i64 0), (.int .i64 0), (.bool false), .nil0]) (cells := [_, _, _, _, _, _, _]) ty46 pl46 rfl rfl rfl) (ASub.of_wk rfl)) rfl rfl ?_)
  refine g_step rfl (s_store_all ty46 rfl rfl rfl rfl rfl rfl ?_)
  refine g_step rfl (s_val (v_assign rfl) rfl rfl ?_)
  refine g_nil ?_
  refine g_next hK3 ?_
  refine g_ret ?_
  refine g_then_ret ?_
  refine g_end2 (.inl rfl) Try.results28 (.agg ty46 rfl rfl rfl rfl rfl) (.tmp rfl) [] (ASub.refl _) (AHeap.sub_refl _) (fun p hp => by cases hp) ⟨rfl, ?_⟩
  first | (simp [jnAll, hc11]; done) | (simp [jnAll, hc11]; rfl)
 ·
  try simp only [NM] at hc11
  refine g_skip ?_
  refine g_next hK1 ?_
  refine g_seq (fun K4 hK4 => ?_)
  refine g_region ?_
  refine g_step rfl (s_val (by first | exact v_loadl_all ty46 rfl rfl rfl rfl rfl | exact v_loadl_part (cs := [_, _, _, _, _, _, _]) ty46 rfl rfl rfl rfl rfl rfl) rfl rfl ?_)
  refine g_step rfl (s_alloc (av := (.agg [(.int .i64 0), (.int .i64 0), (.int .i64 0), (.int .i64 0), (.int .i64 0), (.bool false), .nil0])) ty46 rfl rfl rfl rfl ?_)
  refine g_step rfl (s_store_all ty46 rfl rfl rfl rfl rfl rfl ?_)
  refine g_nil ?_
  refine g_next hK4 ?_
  refine g_seq (fun K5 hK5 => ?_)
  refine g_block ?_
  refine g_seq (fun K6 hK6 => ?_)
  refine g_region ?_
  refine g_step rfl (s_fieldAddr ty46 fo46_1 ty3 rfl rfl ?_)
  refine g_step rfl (s_val (v_loadl ty3 rfl rfl rfl rfl) rfl rfl ?_)
  refine g_step rfl (s_fieldAddr ty46 fo46_1 ty3 rfl rfl ?_)
  refine g_step rfl (s_val (v_loadl ty3 rfl rfl rfl rfl) rfl rfl ?_)
  refine g_step rfl (s_val (v_lss rfl rfl) rfl rfl ?_)
  refine g_step rfl (s_val (v_assign rfl) rfl rfl ?_)
  refine g_nil ?_
  refine g_next hK6 ?_
  refine g_cond rfl (fun hc14 => ?_) (fun hc14 => ?_)
  ·
   try simp only [NM] at hc14
   refine g_region ?_
   refine g_step rfl (s_val (by first | exact v_loadl_all ty46 rfl rfl rfl rfl rfl | exact v_loadl_part (cs := [_, _, _, _, _, _, _]) ty46 rfl rfl rfl rfl rfl rfl) rfl rfl ?_)
   refine g_step rfl (s_store_all ty46 rfl rfl rfl rfl rfl rfl ?_)
   refine g_nil ?_
   refine g_block_normal ?_
   refine g_next hK5 ?_
   refine g_seq (fun K7 hK7 => ?_)
   refine g_region ?_
   refine g_step rfl (s_fieldAddr ty46 fo46_5 ty44 rfl rfl ?_)
   refine g_step rfl (s_val (v_loadl ty44 rfl rfl rfl rfl) rfl rfl ?_)
   refine g_step rfl (s_callp rfl rfl rfl (bagCopy_ok _ _ _ rfl (by assumption)) ?_)
   rintro _ rfl
   refine g_step rfl (s_fieldAddr ty46 fo46_5 ty44 rfl rfl ?_)
   refine g_step rfl (s_store (new := .agg [_, _, _, _, _, _, _]) ty44 rfl rfl rfl rfl rfl rfl rfl ?_)
   refine g_nil ?_
   refine g_next hK7 ?_
   refine g_seq (fun K8 hK8 => ?_)
   refine g_region ?_
   refine g_step rfl (s_val (by first | exact v_loadl_all ty46 rfl rfl rfl rfl rfl | exact v_loadl_part (cs := [_, _, _, _, _, _, _]) ty46 rfl rfl rfl rfl rfl rfl) rfl rfl ?_)
   refine g_step rfl (s_store_all ty46 rfl rfl rfl rfl rfl rfl ?_)
   refine g_step rfl (s_val (v_assign rfl) rfl rfl ?_)
   refine g_nil ?_
   refine g_next hK8 ?_
   refine g_ret ?_
   refine g_end2 (.inl rfl) Try.results28 (.agg ty46 rfl rfl rfl rfl rfl) (.tmp rfl) [] (ASub.refl _) (AHeap.sub_refl _) (fun p hp => by cases hp) ⟨rfl, ?_⟩
   first | ((try have h1 := Int.not_lt.2 hc14); (try have h2 := Int.not_lt.2 hc30); simp [jnAll, jn, withSt, encR, *]; done) | ((try have h1 := Int.not_lt.2 hc14); (try have h2 := Int.not_lt.2 hc30); simp [jnAll, jn, withSt, encR, *]; rfl)
  ·
   try simp only [NM] at hc14
   refine g_seq (fun K9 hK9 => ?_)
   refine g_region ?_
   refine g_step rfl (s_fieldAddr ty46 fo46_1 ty3 rfl rfl ?_)
   refine g_step rfl (s_val (v_loadl ty3 rfl rfl rfl rfl) rfl rfl ?_)
   refine g_step rfl (s_fieldAddr ty46 fo46_1 ty3 rfl rfl ?_)
   refine g_step rfl (s_val (v_loadl ty3 rfl rfl rfl rfl) rfl rfl ?_)
   refine g_step rfl (s_val (v_eql rfl rfl) rfl rfl ?_)
   refine g_step rfl (s_val (v_assign rfl) rfl rfl ?_)
   refine g_nil ?_
   refine g_next hK9 ?_
   refine g_cond rfl (fun hc21 => ?_) (fun hc21 => ?_)
   ·
    try simp only [NM] at hc21
    refine g_seq (fun K10 hK10 => ?_)
    refine g_seq (fun K11 hK11 => ?_)
    refine g_region ?_
    refine g_step rfl (s_val (by first | exact v_loadl_all ty46 rfl rfl rfl rfl rfl | exact v_loadl_part (cs := [_, _, _, _, _, _, _]) ty46 rfl rfl rfl rfl rfl rfl) rfl rfl ?_)
    refine g_step rfl (s_val (by first | exact v_loadl_all ty46 rfl rfl rfl rfl rfl | exact v_loadl_part (cs := [_, _, _, _, _, _, _]) ty46 rfl rfl rfl rfl rfl rfl) rfl rfl ?_)
    refine g_step rfl (s_callp rfl rfl rfl (weigh_ok a b _ hla) ?_)
    rintro _ rfl
    refine g_step rfl (s_val (v_lss rfl rfl) rfl rfl ?_)
    refine g_nil ?_
    refine g_next hK11 ?_
    refine g_cond rfl (fun hc30 => ?_) (fun hc30 => ?_)
    ·
     try simp only [NM] at hc30
     refine g_region ?_
     refine g_step rfl (s_val (by first | exact v_loadl_all ty46 rfl rfl rfl rfl rfl | exact v_loadl_part (cs := [_, _, _, _, _, _, _]) ty46 rfl rfl rfl rfl rfl rfl) rfl rfl ?_)
     refine g_step rfl (s_store_all ty46 rfl rfl rfl rfl rfl rfl ?_)
     refine g_nil ?_
     refine g_next hK10 ?_
     refine g_region ?_
     refine g_step rfl (s_fieldAddr ty46 fo46_2 ty3 rfl rfl ?_)
     refine g_step rfl (s_val (v_loadl ty3 rfl rfl rfl rfl) rfl rfl ?_)
     refine g_step rfl (s_fieldAddr ty46 fo46_2 ty3 rfl rfl ?_)
     refine g_step rfl (s_val (v_loadl ty3 rfl rfl rfl rfl) rfl rfl ?_)
     refine g_step rfl (s_val (v_max rfl rfl) rfl rfl ?_)
     refine g_step rfl (s_fieldAddr ty46 fo46_2 ty3 rfl rfl ?_)
     refine g_step rfl (s_store (new := .agg [_, _, _, _, _, _, _]) ty3 rfl rfl rfl rfl rfl rfl rfl ?_)
     refine g_nil ?_
     refine g_block_normal ?_
     refine g_next hK5 ?_
     refine g_seq (fun K12 hK12 => ?_)
     refine g_region ?_
     refine g_step rfl (s_fieldAddr ty46 fo46_5 ty44 rfl rfl ?_)
     refine g_step rfl (s_val (v_loadl ty44 rfl rfl rfl rfl) rfl rfl ?_)
     refine g_step rfl (s_callp rfl rfl rfl (bagCopy_ok _ _ _ rfl (by assumption)) ?_)
     rintro _ rfl
     refine g_step rfl (s_fieldAddr ty46 fo46_5 ty44 rfl rfl ?_)
     refine g_step rfl (s_store (new := .agg [_, _, _, _, _, _, _]) ty44 rfl rfl rfl rfl rfl rfl rfl ?_)
     refine g_nil ?_
     refine g_next hK12 ?_
     first | refine g_keep [] [4, 6] [4, 6] keep_nil (lkeep_cons rfl (lkeep_cons rfl lkeep_nil)) (keep_cons rfl (keep_cons rfl keep_nil)) rfl ?_ | refine g_keep [] [4, 6] [4, 6] rfl rfl rfl rfl ?_
     refine g_seq (fun K13 hK13 => ?_)
     refine g_region ?_
     refine g_step rfl (s_val (by first | exact v_loadl_all ty46 rfl rfl rfl rfl rfl | exact v_loadl_part (cs := [_, _, _, _, _, _, _]) ty46 rfl rfl rfl rfl rfl rfl) rfl rfl ?_)
     refine g_step rfl (s_store_all ty46 rfl rfl rfl rfl rfl rfl ?_)
     refine g_step rfl (s_val (v_assign rfl) rfl rfl ?_)
     refine g_nil ?_
     refine g_next hK13 ?_
     refine g_ret ?_
     refine g_end2 (.inl rfl) Try.results28 (.agg ty46 rfl rfl rfl rfl rfl) (.tmp rfl) [] (ASub.refl _) (AHeap.sub_refl _) (fun p hp => by cases hp) ⟨rfl, ?_⟩
     first | ((try have h1 := Int.not_lt.2 hc14); (try have h2 := Int.not_lt.2 hc30); simp [jnAll, jn, withSt, encR, *]; done) | ((try have h1 := Int.not_lt.2 hc14); (try have h2 := Int.not_lt.2 hc30); simp [jnAll, jn, withSt, encR, *]; rfl)
    ·
     try simp only [NM] at hc30
     refine g_skip ?_
     refine g_next hK10 ?_
     refine g_region ?_
     refine g_step rfl (s_fieldAddr ty46 fo46_2 ty3 rfl rfl ?_)
     refine g_step rfl (s_val (v_loadl ty3 rfl rfl rfl rfl) rfl rfl ?_)
     refine g_step rfl (s_fieldAddr ty46 fo46_2 ty3 rfl rfl ?_)
     refine g_step rfl (s_val (v_loadl ty3 rfl rfl rfl rfl) rfl rfl ?_)
     refine g_step rfl (s_val (v_max rfl rfl) rfl rfl ?_)
     refine g_step rfl (s_fieldAddr ty46 fo46_2 ty3 rfl rfl ?_)
     refine g_step rfl (s_store (new := .agg [_, _, _, _, _, _, _]) ty3 rfl rfl rfl rfl rfl rfl rfl ?_)
     refine g_nil ?_
     refine g_block_normal ?_
     refine g_next hK5 ?_
     refine g_seq (fun K14 hK14 => ?_)
     refine g_region ?_
     refine g_step rfl (s_fieldAddr ty46 fo46_5 ty44 rfl rfl ?_)
     refine g_step rfl (s_val (v_loadl ty44 rfl rfl rfl rfl) rfl rfl ?_)
     refine g_step rfl (s_callp rfl rfl rfl (bagCopy_ok _ _ _ rfl (by assumption)) ?_)
     rintro _ rfl
     refine g_step rfl (s_fieldAddr ty46 fo46_5 ty44 rfl rfl ?_)
     refine g_step rfl (s_store (new := .agg [_, _, _, _, _, _, _]) ty44 rfl rfl rfl rfl rfl rfl rfl ?_)
     refine g_nil ?_
     refine g_next hK14 ?_
     refine g_seq (fun K15 hK15 => ?_)
     refine g_region ?_
     refine g_step rfl (s_val (by first | exact v_loadl_all ty46 rfl rfl rfl rfl rfl | exact v_loadl_part (cs := [_, _, _, _, _, _, _]) ty46 rfl rfl rfl rfl rfl rfl) rfl rfl ?_)
     refine g_step rfl (s_store_all ty46 rfl rfl rfl rfl rfl rfl ?_)
     refine g_step rfl (s_val (v_assign rfl) rfl rfl ?_)
     refine g_nil ?_
     refine g_next hK15 ?_
     first | refine g_keep [5] [4] [4] (keep_cons rfl keep_nil) (lkeep_cons rfl lkeep_nil) (keep_cons rfl keep_nil) rfl ?_ | refine g_keep [5] [4] [4] rfl rfl rfl rfl ?_
     refine g_ret ?_
     refine g_end2 (.inl rfl) Try.results28 (.agg ty46 rfl rfl rfl rfl rfl) (.tmp rfl) [] (ASub.refl _) (AHeap.sub_refl _) (fun p hp => by cases hp) ⟨rfl, ?_⟩
     first | ((try have h1 := Int.not_lt.2 hc14); (try have h2 := Int.not_lt.2 hc30); simp [jnAll, jn, withSt, encR, *]; done) | ((try have h1 := Int.not_lt.2 hc14); (try have h2 := Int.not_lt.2 hc30); simp [jnAll, jn, withSt, encR, *]; rfl)
   ·
    try simp only [NM] at hc21
    refine g_skip ?_
    refine g_block_normal ?_
    refine g_next hK5 ?_
    refine g_seq (fun K16 hK16 => ?_)
    refine g_region ?_
    refine g_step rfl (s_fieldAddr ty46 fo46_5 ty44 rfl rfl ?_)
    refine g_step rfl (s_val (v_loadl ty44 rfl rfl rfl rfl) rfl rfl ?_)
    refine g_step rfl (s_callp rfl rfl rfl (bagCopy_ok _ _ _ rfl (by assumption)) ?_)
    rintro _ rfl
    refine g_step rfl (s_fieldAddr ty46 fo46_5 ty44 rfl rfl ?_)
    refine g_step rfl (s_store (new := .agg [_, _, _, _, _, _, _]) ty44 rfl rfl rfl rfl rfl rfl rfl ?_)
    refine g_nil ?_
    refine g_next hK16 ?_
    refine g_seq (fun K17 hK17 => ?_)
    refine g_region ?_
    refine g_step rfl (s_val (by first | exact v_loadl_all ty46 rfl rfl rfl rfl rfl | exact v_loadl_part (cs := [_, _, _, _, _, _, _]) ty46 rfl rfl rfl rfl rfl rfl) rfl rfl ?_)
    refine g_step rfl (s_store_all ty46 rfl rfl rfl rfl rfl rfl ?_)
    refine g_step rfl (s_val (v_assign rfl) rfl rfl ?_)
    refine g_nil ?_
    refine g_next hK17 ?_
    refine g_ret ?_
    refine g_end2 (.inl rfl) Try.results28 (.agg ty46 rfl rfl rfl rfl rfl) (.tmp rfl) [] (ASub.refl _) (AHeap.sub_refl _) (fun p hp => by cases hp) ⟨rfl, ?_⟩
    first | ((try have h1 := Int.not_lt.2 hc14); (try have h2 := Int.not_lt.2 hc30); simp [jnAll, jn, withSt, encR, *]; done) | ((try have h1 := Int.not_lt.2 hc14); (try have h2 := Int.not_lt.2 hc30); simp [jnAll, jn, withSt, encR, *]; rfl)

end Go.Proofs.Ytgipbhfblmblcaa

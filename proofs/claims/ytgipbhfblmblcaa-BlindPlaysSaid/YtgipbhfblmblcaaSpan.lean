import Derived.Test.YtgipbhfblmblcaaFacts
import Derived.Test.YtgipbhfblmblcaaPSpan
set_option maxHeartbeats 8000000
set_option linter.unusedSimpArgs false
set_option linter.unusedVariables false
set_option maxRecDepth 100000
namespace Go.Proofs.Ytgipbhfblmblcaa
open Go Go.Proofs.Ytgipbhfblmblcaa.AM
theorem spValid_ok (s : Sp) (G : AHeap) : PCalls Try.prog 56 [encSp s] G (fun r => r = .bool (spValid s)) := by
 refine LCalls.intro 18 fi56 rfl Try.ntmps56 rfl (fun _ h => h.elim) (fun H hH w0 hw0 => ?_)
 refine g_seq (fun K0 hK0 => ?_)
 refine g_region ?_
 refine g_step rfl (s_box rfl rfl rfl rfl ?_)
 refine g_step rfl (s_val (v_assign rfl) rfl rfl ?_)
 refine g_nil ?_
 refine g_next hK0 ?_
 refine g_seq (fun K1 hK1 => ?_)
 refine g_region ?_
 refine g_step rfl (s_fieldAddr ty43 fo43_0 ty3 rfl rfl ?_)
 refine g_step rfl (s_val (v_loadl ty3 rfl rfl rfl rfl) rfl rfl ?_)
 refine g_step rfl (s_val (v_geq rfl rfl) rfl rfl ?_)
 refine g_step rfl (s_val (v_move rfl) rfl rfl ?_)
 refine g_split 6 rfl (fun hg6 => ?_) (fun hg6 => ?_)
 ·
  try simp only [NM] at hg6
  refine g_step_yes (j := 3) (t := 6) rfl rfl rfl rfl (s_fieldAddr ty43 fo43_0 ty3 rfl rfl ?_)
  refine g_step_yes (j := 3) (t := 6) rfl rfl rfl rfl (s_val (v_loadl ty3 rfl rfl rfl rfl) rfl rfl ?_)
  refine g_step_yes (j := 3) (t := 6) rfl rfl rfl rfl (s_fieldAddr ty43 fo43_1 ty3 rfl rfl ?_)
  refine g_step_yes (j := 3) (t := 6) rfl rfl rfl rfl (s_val (v_loadl ty3 rfl rfl rfl rfl) rfl rfl ?_)
  refine g_step_yes (j := 3) (t := 6) rfl rfl rfl rfl (s_val (v_leq rfl rfl) rfl rfl ?_)
  refine g_step rfl (s_val (v_pick_t rfl rfl) rfl rfl ?_)
  refine g_step rfl (s_val (v_move rfl) rfl rfl ?_)
  refine g_split 13 rfl (fun hg13 => ?_) (fun hg13 => ?_)
  ·
   try simp only [NM] at hg13
   refine g_step_yes (j := 10) (t := 13) rfl rfl rfl rfl (s_fieldAddr ty43 fo43_1 ty3 rfl rfl ?_)
   refine g_step_yes (j := 10) (t := 13) rfl rfl rfl rfl (s_val (v_loadl ty3 rfl rfl rfl rfl) rfl rfl ?_)
   refine g_step_yes (j := 10) (t := 13) rfl rfl rfl rfl (s_val (v_leq rfl rfl) rfl rfl ?_)
   refine g_step rfl (s_val (v_pick_t rfl rfl) rfl rfl ?_)
   refine g_step rfl (s_val (v_assign rfl) rfl rfl ?_)
   refine g_nil ?_
   refine g_next hK1 ?_
   refine g_ret ?_
   refine g_end1 (.inl rfl) Try.results56 (.tmp rfl) [] (ASub.refl _) (AHeap.sub_refl _) (fun p hp => by cases hp) ⟨rfl, ?_⟩
   first | (simp only [AV.bool.injEq, spValid, constAV_bool, eq_comm (a := true), eq_comm (a := false), decide_eq_true_eq, decide_eq_false_iff_not, decide_eq_decide]; omega; done) | (simp only [AV.bool.injEq, spValid, constAV_bool, eq_comm (a := true), eq_comm (a := false), decide_eq_true_eq, decide_eq_false_iff_not, decide_eq_decide]; omega; rfl)
  ·
   try simp only [NM] at hg13
   refine g_step_no (j := 10) (t := 13) rfl rfl rfl rfl rfl rfl rfl ?_
   refine g_step_no (j := 10) (t := 13) rfl rfl rfl rfl rfl rfl rfl ?_
   refine g_step_no (j := 10) (t := 13) rfl rfl rfl rfl rfl rfl rfl ?_
   refine g_step rfl (s_val (v_pick_f rfl rfl) rfl rfl ?_)
   refine g_step rfl (s_val (v_assign rfl) rfl rfl ?_)
   refine g_nil ?_
   refine g_next hK1 ?_
   refine g_ret ?_
   refine g_end1 (.inl rfl) Try.results56 (.tmp rfl) [] (ASub.refl _) (AHeap.sub_refl _) (fun p hp => by cases hp) ⟨rfl, ?_⟩
   first | (simp only [AV.bool.injEq, spValid, constAV_bool, eq_comm (a := true), eq_comm (a := false), decide_eq_true_eq, decide_eq_false_iff_not, decide_eq_decide]; omega; done) | (simp only [AV.bool.injEq, spValid, constAV_bool, eq_comm (a := true), eq_comm (a := false), decide_eq_true_eq, decide_eq_false_iff_not, decide_eq_decide]; omega; rfl)
 ·
  try simp only [NM] at hg6
  refine g_step_no (j := 3) (t := 6) rfl rfl rfl rfl rfl rfl rfl ?_
  refine g_step_no (j := 3) (t := 6) rfl rfl rfl rfl rfl rfl rfl ?_
  refine g_step_no (j := 3) (t := 6) rfl rfl rfl rfl rfl rfl rfl ?_
  refine g_step_no (j := 3) (t := 6) rfl rfl rfl rfl rfl rfl rfl ?_
  refine g_step_no (j := 3) (t := 6) rfl rfl rfl rfl rfl rfl rfl ?_
  refine g_step rfl (s_val (v_pick_f rfl rfl) rfl rfl ?_)
  refine g_step rfl (s_val (v_move rfl) rfl rfl ?_)
  refine g_step_no (j := 10) (t := 13) rfl rfl rfl rfl rfl rfl rfl ?_
  refine g_step_no (j := 10) (t := 13) rfl rfl rfl rfl rfl rfl rfl ?_
  refine g_step_no (j := 10) (t := 13) rfl rfl rfl rfl rfl rfl rfl ?_
  refine g_step rfl (s_val (v_pick_f rfl rfl) rfl rfl ?_)
  refine g_step rfl (s_val (v_assign rfl) rfl rfl ?_)
  refine g_nil ?_
  refine g_next hK1 ?_
  refine g_ret ?_
  refine g_end1 (.inl rfl) Try.results56 (.tmp rfl) [] (ASub.refl _) (AHeap.sub_refl _) (fun p hp => by cases hp) ⟨rfl, ?_⟩
  first | (simp only [AV.bool.injEq, spValid, constAV_bool, eq_comm (a := true), eq_comm (a := false), decide_eq_true_eq, decide_eq_false_iff_not, decide_eq_decide]; omega; done) | (simp only [AV.bool.injEq, spValid, constAV_bool, eq_comm (a := true), eq_comm (a := false), decide_eq_true_eq, decide_eq_false_iff_not, decide_eq_decide]; omega; rfl)

end Go.Proofs.Ytgipbhfblmblcaa

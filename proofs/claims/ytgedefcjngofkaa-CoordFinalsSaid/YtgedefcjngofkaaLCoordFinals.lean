import Derived.Test.YtgedefcjngofkaaCoordFin
import Derived.Test.YtgedefcjngofkaaDecW
import Derived.Test.YtgedefcjngofkaaRows
import Derived.Test.YtgedefcjngofkaaAmB
import Derived.WalkKit
import Derived.ProofKit
import Derived.OpenShut
import Derived.ShutString
import Derived.ChangeOld
import Derived.Below
import Derived.SizedLaws
namespace Go.Proofs.Ytgedefcjngofkaa
open Go Go.Proofs.Ytgedefcjngofkaa.AM Go.ChangeShapes Go.WideShapes Go.ChangeAt Go.RowKit
set_option linter.unusedVariables false
set_option maxRecDepth 100000 in
theorem coordFinals_lifted (os : Os) (started : os.Started) (H : Type) (enc : TypeId × Value → H) :
    ReturnsInHanded {} Try.checked os 7 .any (Rows.coordFinalsSpec.pre6 enc Try.prog Try.f7 Rows.coordFinalsRow.domain false) (Rows.coordFinalsSpec.post enc Try.prog Try.f7 false true false false) := by
  have own : ownKnob Try.prog.godebug = none := by kernel_rfl
  have laidOut : laidOutB Try.prog = true := by kernel_rfl
  have noEmp : noEmpty Try.prog = true := by kernel_rfl
  refine returnsInHanded_of_change_sized (C := Try.checked) own started (by kernel_rfl) Try.func7
    (ChangeSpec.witness6 (enc := enc) (C := Try.checked) false ⟨#[], #[(.slice none 0 0), (.agg #[(.int .i64 0), (.int .i64 0)])], []⟩ 8 (by kernel_rfl) (by kernel_rfl) (by kernel_rfl) (by kernel_rfl)) ?_
  intro W base args ds gs before hval0 hW hcnd hsz _
  have hval : ∀ (j : Nat) t v, Try.f7.params[j]? = some t → args[j]? = some v → Value.okWide Try.prog W .any base t v := hval0
  have hW' := hW
  obtain ⟨p, q, hA0, hV, rfl, hfz, hnd⟩ := hW
  have hA : DataW.TrodAll enc Try.prog W 0 (fun _ => true) true Try.f7.params.toList args.toList ds p := hA0
  rw [Try.params7] at hA hval
  obtain ⟨v0, vs0, d0, ds0, p0, q0, hargs, rfl, rfl, h0, r0⟩ := trodAll_cons hA
  obtain ⟨v1, vs1, d1, ds1, p1, q1, rfl, rfl, rfl, h1, r1⟩ := trodAll_cons r0
  obtain ⟨rfl, rfl, rfl⟩ := trodAll_nil r1
  obtain rfl : args = #[v0, v1] := by cases args; simp_all
  obtain ⟨rfl, rfl⟩ := trodVars_none hV
  rw [Try.params7] at hsz
  have hszm := fun n hn => of_decide_eq_true (List.all_eq_true.1 hsz n hn)
  have light0 : Light Try.prog 52 d0 := fun n hn => hszm n (weightsEach_mem (i := 0) (t := 52) (d := d0) rfl rfl n hn)
  have light1 : Light Try.prog 24 d1 := fun n hn => hszm n (weightsEach_mem (i := 1) (t := 24) (d := d1) rfl rfl n hn)
  have lt0 : ∀ x ∈ p0, x.block < W.heap.size := by obtain ⟨m, hm⟩ := h0; exact DataW.trod_lt m _ _ _ hm
  obtain ⟨x0, s0, z0⟩ := arg_rep laidOut noEmp (by kernel_rfl) h0 (hval 0 52 v0 rfl rfl) light0
  obtain ⟨l0, e0, _, b0, g0⟩ := dec_Lpolyglotlaw33_Want s0
  rw [e0] at z0
  have lt1 : ∀ x ∈ p1, x.block < W.heap.size := by obtain ⟨m, hm⟩ := h1; exact DataW.trod_lt m _ _ _ hm
  obtain ⟨x1, s1, z1⟩ := arg_rep laidOut noEmp (by kernel_rfl) h1 (hval 1 24 v1 rfl rfl) light1
  obtain ⟨s1, e1, _, g1⟩ := dec_api_Span s1
  rw [e1] at z1
  clear hA0 hval0
  refine (law_calls (coordFinals_ok l0 s1 (fun a ha r hr => ⟨by have := ((g0 a ha).2 r hr).2.2.2.2.1; omega, fun f hf => by have := (((g0 a ha).2 r hr).2.2.2.2.2 f hf).2.1; omega⟩) (fun a ha => by have := (g0 a ha).1; omega) (by omega) noHeap) (reps_cons z0 (reps_cons z1 (reps_nil)))).mono fun e W' ⟨he, bel⟩ => ?_
  subst he
  exact ⟨_, rfl, _, _, _, [], _, [], hW', trodAll_mk1 (shut_bool Try.underlying4 _), (trodAll_cons_mk (Below.trod laidOut (by kernel_rfl) (of_decide_eq_true (by kernel_rfl)) h0 bel lt0) (trodAll_cons_mk (Below.trod laidOut (by kernel_rfl) (of_decide_eq_true (by kernel_rfl)) h1 bel lt1) (trodAll_mk0))), rfl, bel.frame _, fun h => by cases h⟩
theorem coordFinals_over : Rows.coordFinalsRow.holds Try.pinned (OpenSpec.ofChange Rows.coordFinalsSpec) :=
  OpenClaim.holds_of_wide 7 Try.f7 rfl rfl rfl rfl rfl rfl rfl ⟨rfl, rfl, rfl, rfl, rfl⟩ rfl rfl rfl rfl rfl (by kernel_rfl) Try.func7 (by kernel_rfl)
    (of_decide_eq_true (by kernel_rfl)) (by unfold Func.isWrapper; first | (rw [if_pos (by decide +kernel)]; kernel_rfl) | (rw [if_neg (by decide +kernel)]; exact ⟨rfl, rfl⟩))
    (fun os started H enc _ => coordFinals_lifted os started H enc)
theorem coordFinals_holds : Rows.CoordFinalsSaid := coordFinals_over
#print axioms coordFinals_holds
end Go.Proofs.Ytgedefcjngofkaa

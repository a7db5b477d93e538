import Derived.Test.YtobigfbgaiglkaaNews
import Derived.Test.YtobigfbgaiglkaaDecNw
import Derived.Test.YtobigfbgaiglkaaRows
import Derived.Test.YtobigfbgaiglkaaAmB
import Derived.WalkKit
import Derived.ProofKit
import Derived.OpenShut
import Derived.ShutString
import Derived.ChangeOld
import Derived.Below
import Derived.SizedLaws
namespace Go.Proofs.Ytobigfbgaiglkaa
open Go Go.Proofs.Ytobigfbgaiglkaa.AM Go.ChangeShapes Go.WideShapes Go.ChangeAt Go.RowKit
set_option linter.unusedVariables false
set_option maxRecDepth 100000 in
theorem peersLearn_lifted (os : Os) (started : os.Started) (H : Type) (enc : TypeId × Value → H) :
    ReturnsInHanded {} Try.checked os 10 .any (Rows.peersLearnSpec.pre6 enc Try.prog Try.f10 Rows.peersLearnRow.domain false) (Rows.peersLearnSpec.post enc Try.prog Try.f10 false true false false) := by
  have own : ownKnob Try.prog.godebug = none := by kernel_rfl
  have laidOut : laidOutB Try.prog = true := by kernel_rfl
  have noEmp : noEmpty Try.prog = true := by kernel_rfl
  refine returnsInHanded_of_change_sized (C := Try.checked) own started (by kernel_rfl) Try.func10
    (ChangeSpec.witness6 (enc := enc) (C := Try.checked) false ⟨#[], #[(.slice none 0 0), (.int .i64 0)], []⟩ 8 (by kernel_rfl) (by kernel_rfl) (by kernel_rfl) (by kernel_rfl)) ?_
  intro W base args ds gs before hval0 hW hcnd hsz _
  have hval : ∀ (j : Nat) t v, Try.f10.params[j]? = some t → args[j]? = some v → Value.okWide Try.prog W .any base t v := hval0
  have hW' := hW
  obtain ⟨p, q, hA0, hV, rfl, hfz, hnd⟩ := hW
  have hA : DataW.TrodAll enc Try.prog W 0 (fun _ => true) true Try.f10.params.toList args.toList ds p := hA0
  rw [Try.params10] at hA hval
  obtain ⟨v0, vs0, d0, ds0, p0, q0, hargs, rfl, rfl, h0, r0⟩ := trodAll_cons hA
  obtain ⟨v1, vs1, d1, ds1, p1, q1, rfl, rfl, rfl, h1, r1⟩ := trodAll_cons r0
  obtain ⟨rfl, rfl, rfl⟩ := trodAll_nil r1
  obtain rfl : args = #[v0, v1] := by cases args; simp_all
  obtain ⟨rfl, rfl⟩ := trodVars_none hV
  rw [Try.params10] at hsz
  have hszm := fun n hn => of_decide_eq_true (List.all_eq_true.1 hsz n hn)
  have light0 : Light Try.prog 103 d0 := fun n hn => hszm n (weightsEach_mem (i := 0) (t := 103) (d := d0) rfl rfl n hn)
  have light1 : Light Try.prog 3 d1 := fun n hn => hszm n (weightsEach_mem (i := 1) (t := 3) (d := d1) rfl rfl n hn)
  have lt0 : ∀ x ∈ p0, x.block < W.heap.size := by obtain ⟨m, hm⟩ := h0; exact DataW.trod_lt m _ _ _ hm
  obtain ⟨x0, s0, z0⟩ := arg_rep laidOut noEmp (by kernel_rfl) h0 (hval 0 103 v0 rfl rfl) light0
  obtain ⟨l0, e0, _, b0, g0⟩ := dec_Lpolyglotlaw23_News s0
  rw [e0] at z0
  have lt1 : ∀ x ∈ p1, x.block < W.heap.size := by obtain ⟨m, hm⟩ := h1; exact DataW.trod_lt m _ _ _ hm
  obtain ⟨x1, s1, z1⟩ := arg_rep laidOut noEmp (by kernel_rfl) h1 (hval 1 3 v1 rfl rfl) light1
  obtain ⟨n1, e1, _, g1⟩ := dec_int s1
  rw [e1] at z1
  clear hA0 hval0
  refine (law_calls (peersLearnLaw_ok l0 n1 noHeap) (reps_cons z0 (reps_cons z1 (reps_nil)))).mono fun e W' ⟨he, bel⟩ => ?_
  subst he
  exact ⟨_, rfl, _, _, _, [], _, [], hW', trodAll_mk1 (shut_bool Try.underlying4 _), (trodAll_cons_mk (Below.trod laidOut (by kernel_rfl) (of_decide_eq_true (by kernel_rfl)) h0 bel lt0) (trodAll_cons_mk (Below.trod laidOut (by kernel_rfl) (of_decide_eq_true (by kernel_rfl)) h1 bel lt1) (trodAll_mk0))), rfl, bel.frame _, fun h => by cases h⟩
theorem peersLearn_over : Rows.peersLearnRow.holds Try.pinned (OpenSpec.ofChange Rows.peersLearnSpec) :=
  OpenClaim.holds_of_wide 10 Try.f10 rfl rfl rfl rfl rfl rfl rfl ⟨rfl, rfl, rfl, rfl, rfl⟩ rfl rfl rfl rfl rfl (by kernel_rfl) Try.func10 (by kernel_rfl)
    (of_decide_eq_true (by kernel_rfl)) (by unfold Func.isWrapper; first | (rw [if_pos (by decide +kernel)]; kernel_rfl) | (rw [if_neg (by decide +kernel)]; exact ⟨rfl, rfl⟩))
    (fun os started H enc _ => peersLearn_lifted os started H enc)
theorem peersLearn_holds : Rows.PeersLearnSaid := peersLearn_over
#print axioms peersLearn_holds
end Go.Proofs.Ytobigfbgaiglkaa

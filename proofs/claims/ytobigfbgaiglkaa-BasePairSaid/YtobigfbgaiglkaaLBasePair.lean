import Derived.Test.YtobigfbgaiglkaaBaseP
import Derived.Test.YtobigfbgaiglkaaDecP
import Derived.Test.YtobigfbgaiglkaaRows
import Derived.Test.YtobigfbgaiglkaaAmB
import Derived.WalkKit
import Derived.ProofKit
import Derived.OpenShut
import Derived.ShutString
import Derived.ChangeOld
import Derived.Below
import Derived.SizedLaws
namespace Go.Proofs.Ytobigfbgaiglkaa
open Go Go.Proofs.Ytobigfbgaiglkaa.AM Go.ChangeShapes Go.WideShapes Go.ChangeAt Go.RowKit
set_option linter.unusedVariables false
set_option maxRecDepth 100000 in
theorem basePair_lifted (os : Os) (started : os.Started) (H : Type) (enc : TypeId × Value → H) :
    ReturnsInHanded {} Try.checked os 9 .any (Rows.basePairSpec.pre6 enc Try.prog Try.f9 Rows.basePairRow.domain false) (Rows.basePairSpec.post enc Try.prog Try.f9 false true false false) := by
  have own : ownKnob Try.prog.godebug = none := by kernel_rfl
  have laidOut : laidOutB Try.prog = true := by kernel_rfl
  have noEmp : noEmpty Try.prog = true := by kernel_rfl
  refine returnsInHanded_of_change_sized (C := Try.checked) own started (by kernel_rfl) Try.func9
    (ChangeSpec.witness6 (enc := enc) (C := Try.checked) false ⟨#[], #[(.slice none 0 0)], []⟩ 8 (by kernel_rfl) (by kernel_rfl) (by kernel_rfl) (by kernel_rfl)) ?_
  intro W base args ds gs before hval0 hW hcnd hsz _
  have hval : ∀ (j : Nat) t v, Try.f9.params[j]? = some t → args[j]? = some v → Value.okWide Try.prog W .any base t v := hval0
  have hW' := hW
  obtain ⟨p, q, hA0, hV, rfl, hfz, hnd⟩ := hW
  have hA : DataW.TrodAll enc Try.prog W 0 (fun _ => true) true Try.f9.params.toList args.toList ds p := hA0
  rw [Try.params9] at hA hval
  obtain ⟨v0, vs0, d0, ds0, p0, q0, hargs, rfl, rfl, h0, r0⟩ := trodAll_cons hA
  obtain ⟨rfl, rfl, rfl⟩ := trodAll_nil r0
  obtain rfl : args = #[v0] := by cases args; simp_all
  obtain ⟨rfl, rfl⟩ := trodVars_none hV
  rw [Try.params9] at hsz
  have hszm := fun n hn => of_decide_eq_true (List.all_eq_true.1 hsz n hn)
  have light0 : Light Try.prog 92 d0 := fun n hn => hszm n (weightsEach_mem (i := 0) (t := 92) (d := d0) rfl rfl n hn)
  have lt0 : ∀ x ∈ p0, x.block < W.heap.size := by obtain ⟨m, hm⟩ := h0; exact DataW.trod_lt m _ _ _ hm
  obtain ⟨x0, s0, z0⟩ := arg_rep laidOut noEmp (by kernel_rfl) h0 (hval 0 92 v0 rfl rfl) light0
  obtain ⟨l0, e0, _, b0, g0⟩ := dec_Lpolyglotlaw26_Play s0
  rw [e0] at z0
  clear hA0 hval0
  refine (law_calls (basePair_ok l0 (fun a ha r hr => ⟨by have := ((g0 a ha).2 r hr).2.2.2.2.1; omega, fun f hf => by have := (((g0 a ha).2 r hr).2.2.2.2.2 f hf).2.1; omega⟩) (fun a ha => by have := (g0 a ha).1; omega) noHeap) (reps_cons z0 (reps_nil))).mono fun e W' ⟨he, bel⟩ => ?_
  subst he
  exact ⟨_, rfl, _, _, _, [], _, [], hW', trodAll_mk1 (shut_bool Try.underlying4 _), (trodAll_cons_mk (Below.trod laidOut (by kernel_rfl) (of_decide_eq_true (by kernel_rfl)) h0 bel lt0) (trodAll_mk0)), rfl, bel.frame _, fun h => by cases h⟩
theorem basePair_over : Rows.basePairRow.holds Try.pinned (OpenSpec.ofChange Rows.basePairSpec) :=
  OpenClaim.holds_of_wide 9 Try.f9 rfl rfl rfl rfl rfl rfl rfl ⟨rfl, rfl, rfl, rfl, rfl⟩ rfl rfl rfl rfl rfl (by kernel_rfl) Try.func9 (by kernel_rfl)
    (of_decide_eq_true (by kernel_rfl)) (by unfold Func.isWrapper; first | (rw [if_pos (by decide +kernel)]; kernel_rfl) | (rw [if_neg (by decide +kernel)]; exact ⟨rfl, rfl⟩))
    (fun os started H enc _ => basePair_lifted os started H enc)
theorem basePair_holds : Rows.BasePairSaid := basePair_over
#print axioms basePair_holds
end Go.Proofs.Ytobigfbgaiglkaa

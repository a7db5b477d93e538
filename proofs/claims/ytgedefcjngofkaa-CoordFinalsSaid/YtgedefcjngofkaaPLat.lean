/- Plain: the join of two records. -/
import Derived.Test.YtgedefcjngofkaaPRec
set_option linter.unusedVariables false
namespace Go.Proofs.Ytgedefcjngofkaa
open Go.Proofs.Ytgedefcjngofkaa.AM
def withSt (r : Rc) (s : Int) : Rc := ⟨r.id, r.inc, s, r.sp, r.cut, r.bag⟩
def jn (a b : Rc) : Rc := if a.inc < b.inc then b else if a.inc = b.inc then withSt (if weigh a b < 0 then b else a) (max a.st b.st) else a
def jnAll (a b : Rc) : Rc := if a.id = b.id then jn a b else rzero
theorem weigh_neg (a b : Rc) : weigh b a = - weigh a b := by
  have h1 : ∀ x y, ordI y x = - ordI x y := fun x y => by unfold ordI; split <;> split <;> omega
  have h2 := cmpBag_neg a.bag b.bag
  have h3 := h1 a.sp.lo b.sp.lo
  have h4 := h1 a.sp.hi b.sp.hi
  unfold weigh
  cases a.cut <;> cases b.cut <;> simp only [if_true, Bool.false_eq_true, Bool.true_eq_false, if_false, reduceCtorEq]
  all_goals first | omega | (split <;> split <;> first | omega | (split <;> split <;> omega))
end Go.Proofs.Ytgedefcjngofkaa

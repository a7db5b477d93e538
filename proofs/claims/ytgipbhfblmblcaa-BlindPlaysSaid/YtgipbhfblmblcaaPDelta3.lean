/- Plain: what the laws of deltas ask. -/
import Derived.Test.YtgipbhfblmblcaaPDelta2
set_option linter.unusedVariables false
namespace Go.Proofs.Ytgipbhfblmblcaa
open Go.Proofs.Ytgipbhfblmblcaa.AM
def isGone (now : List Rc) (r : Rc) : Bool := (fnd now r.id).isNone
theorem find_put {l : List Rc} {s : Int} (h : incr s l) (r : Rc) (id : Int) : fnd (rput l r) id = if r.id = id then some r else fnd l id := by
  induction l generalizing s with
  | nil => rw [show rput [] r = [r] from rfl, fnd_cons]
  | cons x l ih =>
    rcases Int.lt_trichotomy x.id r.id with g | g | g
    · rw [rput_cons_lt g, fnd_cons, ih h.2, fnd_cons]
      by_cases h1 : x.id = id
      · rw [if_pos h1, if_neg (by omega), if_pos h1]
      · rw [if_neg h1, if_neg h1]
    · rw [rput_cons_eq g, fnd_cons, fnd_cons]
      by_cases h1 : r.id = id
      · rw [if_pos h1, if_pos h1]
      · rw [if_neg h1, if_neg h1, if_neg (by omega)]
    · rw [rput_cons_gt g (fun y hy => by have := incr_lt h.2 y hy; omega), fnd_cons]
end Go.Proofs.Ytgipbhfblmblcaa

/- Plain: two lists gone over side by side: what has changed, what is laid over, what is gone. -/
import Derived.Test.YtgipbhfblmblcaaPMerge
set_option linter.unusedVariables false
namespace Go.Proofs.Ytgipbhfblmblcaa
open Go.Proofs.Ytgipbhfblmblcaa.AM
def sideGo {β : Type} (f : Option Rc → Option Rc → Option β) : Nat → List Rc → List Rc → List β
  | 0, _, _ => []
  | _ + 1, [], [] => []
  | n + 1, x :: a, [] => (f (some x) none).toList ++ sideGo f n a []
  | n + 1, [], y :: b => (f none (some y)).toList ++ sideGo f n [] b
  | n + 1, x :: a, y :: b => if x.id < y.id then (f (some x) none).toList ++ sideGo f n a (y :: b) else if y.id < x.id then (f none (some y)).toList ++ sideGo f n (x :: a) b else (f (some x) (some y)).toList ++ sideGo f n a b
def sideL {β : Type} (f : Option Rc → Option Rc → Option β) (a b : List Rc) : List β := sideGo f (a.length + b.length) a b
/-- The three closures. -/
def fDiff (x y : Option Rc) : Option Rc := match y with
  | none => none
  | some v => if x = some v then none else some v
def fOver (x y : Option Rc) : Option Rc := match y with
  | none => x
  | some v => some v
def fGone (x y : Option Rc) : Option Int := match y with
  | some _ => none
  | none => x.map (·.id)
def diffL (a b : List Rc) : List Rc := sideL fDiff a b
def overL (a b : List Rc) : List Rc := sideL fOver a b
def goneL (a b : List Rc) : List Int := sideL fGone a b
def fnd (l : List Rc) (id : Int) : Option Rc := l.find? (fun y => decide (y.id = id))
theorem fnd_cons (x : Rc) (l : List Rc) (id : Int) : fnd (x :: l) id = if x.id = id then some x else fnd l id := by
  unfold fnd
  by_cases h : x.id = id
  · rw [List.find?_cons_of_pos (by simpa using h), if_pos h]
  · rw [List.find?_cons_of_neg (by simpa using h), if_neg h]
theorem fnd_id {l : List Rc} {id : Int} {x : Rc} (h : fnd l id = some x) : x.id = id := by simpa using List.find?_some h
theorem rfind_fst (l : List Rc) (id : Int) : (rfind l id) = ((fnd l id).getD rzero, (fnd l id).isSome) := by
  unfold rfind fnd
  cases l.find? (fun x => decide (x.id = id)) <;> rfl
/-- What is wanted of what is now. -/
def isNew (base : List Rc) (r : Rc) : Bool := decide (fnd base r.id ≠ some r)
end Go.Proofs.Ytgipbhfblmblcaa

/- Plain: the heads of two lists that are gone over side by side; what the laws of deltas ask. -/
import Derived.Test.YtgipbhfblmblcaaPDelta
set_option linter.unusedVariables false
namespace Go.Proofs.Ytgipbhfblmblcaa
open Go.Proofs.Ytgipbhfblmblcaa.AM
def headX (a b : List Rc) : Option Rc := match a, b with
  | [], _ => none
  | x :: _, [] => some x
  | x :: _, y :: _ => if x.id ≤ y.id then some x else none
def headY (a b : List Rc) : Option Rc := headX b a
def nextA (a b : List Rc) : List Rc := if (headX a b).isSome = true then a.tail else a
def nextB (a b : List Rc) : List Rc := nextA b a
def Hd (l : List Rc) (o : Option Rc) : Prop := ∀ x, o = some x → l[0]? = some x
end Go.Proofs.Ytgipbhfblmblcaa

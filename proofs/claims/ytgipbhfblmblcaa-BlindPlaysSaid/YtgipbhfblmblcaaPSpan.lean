/- Plain: spans. -/
import Derived.Test.YtgipbhfblmblcaaPDice
set_option linter.unusedVariables false
namespace Go.Proofs.Ytgipbhfblmblcaa
open Go.Proofs.Ytgipbhfblmblcaa.AM
structure Sp where
  lo : Int
  hi : Int
  deriving DecidableEq
def Sp.cells (s : Sp) : List AV := [.int .i64 s.lo, .int .i64 s.hi]
def encSp (s : Sp) : AV := .agg [.int .i64 s.lo, .int .i64 s.hi]
def spValid (s : Sp) : Bool := decide (1 ≤ s.lo ∧ s.lo ≤ s.hi ∧ s.hi ≤ 3)
def spCom : List Sp → Sp → Option Sp
  | [], acc => if spValid acc then some acc else none
  | s :: l, acc => if spValid s then spCom l ⟨max acc.lo s.lo, min acc.hi s.hi⟩ else none
def spCommon (l : List Sp) : Option Sp := spCom l ⟨1, 3⟩
def spBest (a b : Sp) : Int := ((spCommon [a, b]).getD ⟨0, 0⟩).hi
def spHas (s : Sp) (g : Int) : Bool := spValid s && decide (s.lo ≤ g ∧ g ≤ s.hi)
end Go.Proofs.Ytgipbhfblmblcaa

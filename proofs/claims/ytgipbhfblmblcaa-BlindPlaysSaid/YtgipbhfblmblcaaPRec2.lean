/- Plain: lists of records: what is under what, what is sorted. -/
import Derived.Test.YtgipbhfblmblcaaPLat3
set_option linter.unusedVariables false
namespace Go.Proofs.Ytgipbhfblmblcaa
open Go.Proofs.Ytgipbhfblmblcaa.AM
def idxZ (p : Rc → Bool) (l : List Rc) : Int := if idx p l < l.length then (idx p l : Int) else -1
def below (a b : Rc) : Bool := decide (a.id = b.id) && decide (jnAll a b = b)
theorem below_jn (a b : Rc) : below a b = (decide (a.id = b.id) && decide (jn a b = b)) := by
  unfold below jnAll
  by_cases h : a.id = b.id
  · rw [if_pos h]
  · simp [h]
def under (x y : List Rc) : Bool := x.all fun r => y.any (below r)
theorem all_snoc {α : Type} {p : α → Bool} {l : List α} {k : Nat} {x : α} (hx : l[k]? = some x) : (l.take (k + 1)).all p = ((l.take k).all p && p x) := by
  rw [List.take_add_one, hx, List.all_append]; simp
theorem all_stop {α : Type} {p : α → Bool} {l : List α} {k : Nat} {x : α} (hx : l[k]? = some x) (h : p x = false) : l.all p = false := List.all_eq_false.2 ⟨x, mem_get hx, by simp [h]⟩
theorem fewL_small {l : List Rc} (h : fewL l = true) : l.length ≤ 20 ∧ ∀ x ∈ l, Small x.bag := by
  simp only [fewL, Bool.and_eq_true, decide_eq_true_eq] at h
  exact ⟨h.1, fun x hx => (few_small (List.all_eq_true.1 h.2 x hx)).1⟩
/-- The place of the first that is bad, where what is bad hangs on the one ahead. -/
def idxS (q : Int → Rc → Bool) : Int → List Rc → Nat
  | _, [] => 0
  | s, x :: l => if q s x then 0 else idxS q x.id l + 1
def srtGo : Int → List Rc → Bool
  | _, [] => true
  | s, x :: l => recValid x && decide (s < x.id) && srtGo x.id l
def srt (l : List Rc) : Bool := srtGo (-1) l
def badS (s : Int) (x : Rc) : Bool := !recValid x || decide (x.id ≤ s)
end Go.Proofs.Ytgipbhfblmblcaa

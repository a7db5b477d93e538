/- Plain: what has happened from view to view, and how often; the names. -/
import Derived.Test.YtgipbhfblmblcaaPEvent2
set_option linter.unusedVariables false
namespace Go.Proofs.Ytgipbhfblmblcaa
open Go.Proofs.Ytgipbhfblmblcaa.AM
def stepE (ls : List (List Rc)) (i : Nat) : List Ev := if i = 0 then [] else evL ((ls[i - 1]?).getD []) ((ls[i]?).getD [])
def sinceT (ls : List (List Rc)) : Nat → List Ev
  | 0 => []
  | k + 1 => sinceT ls k ++ stepE ls k
theorem since_zero (ls : List (List Rc)) : sinceT ls 1 = [] := by simp [sinceT, stepE]
theorem since_step {ls : List (List Rc)} {k : Nat} {p l : List Rc} (h0 : 0 < k) (hp : ls[k - 1]? = some p) (hl : ls[k]? = some l) : sinceT ls (k + 1) = sinceT ls k ++ evL p l := by
  show sinceT ls k ++ stepE ls k = _
  rw [stepE, if_neg (by omega), hp, hl]; rfl
theorem since_first {ls : List (List Rc)} {k : Nat} (h0 : k = 0) : sinceT ls (k + 1) = sinceT ls k := by
  subst h0; simp [sinceT, stepE]
def sinceE (ls : List (List Rc)) : List Ev := if ls.all srt = true then sinceT ls ls.length else []
def cntE (k : Int) (e : Ev) : Bool := decide (e.k = k)
theorem cntE_yes {k : Int} {e : Ev} (h : e.k = k) : cntE k e = true := decide_eq_true h
theorem cntE_no {k : Int} {e : Ev} (h : ¬ e.k = k) : cntE k e = false := decide_eq_false h
def evNames : List ByteArray := [⟨#[99, 97, 109, 101]⟩, ⟨#[100, 111, 117, 98, 116, 101, 100]⟩, ⟨#[100, 105, 101, 100]⟩, ⟨#[119, 101, 110, 116]⟩, ⟨#[98, 97, 99, 107]⟩, ⟨#[109, 111, 118, 101, 100]⟩, ⟨#[97, 108, 116, 101, 114, 101, 100]⟩, ⟨#[114, 101, 110, 101, 119, 101, 100]⟩, ⟨#[108, 111, 115, 116]⟩]
def evName (k : Int) : ByteArray := if k < 1 ∨ 9 < k then ⟨#[]⟩ else (evNames[(k - 1).toNat]?).getD ⟨#[]⟩
theorem evName_get {k : Int} (h1 : 1 ≤ k) (h9 : k ≤ 9) : evNames[(k - 1).toNat]? = some (evName k) := by
  rw [evName, if_neg (by omega), List.getElem?_eq_getElem (by show (k - 1).toNat < 9; omega)]; rfl
theorem evName_no {k : Int} (h : k < 1 ∨ 9 < k) : evName k = ⟨#[]⟩ := if_pos h
theorem take_mem {α : Type} {l : List α} {n i : Nat} {p : α} (hp : l[i]? = some p) (h : i < n) : p ∈ l.take n := List.mem_of_getElem? (i := i) (by rw [List.getElem?_take, if_pos h]; exact hp)
theorem cnt_len {p : Ev → Bool} {l : List Ev} {k : Nat} : ((l.take k).filter p).length ≤ k := by
  have := List.length_filter_le p (l.take k)
  rw [List.length_take] at this; omega
end Go.Proofs.Ytgipbhfblmblcaa

/- Plain: what the laws of members ask. -/
import Derived.Test.YtgipbhfblmblcaaPMember2
set_option linter.unusedVariables false
namespace Go.Proofs.Ytgipbhfblmblcaa
open Go.Proofs.Ytgipbhfblmblcaa.AM
def fewA (own : Rc) (acts : List Ac) : Bool := decide (acts.length ≤ 30) && (few own.bag && acts.all fun a => few a.rc.bag)
theorem fewL_one (r : Rc) : fewL [r] = few r.bag := by simp [fewL]
theorem fewA_all {own : Rc} {acts : List Ac} (h : fewA own acts = true) : acts.length ≤ 30 ∧ Small own.bag ∧ ∀ a ∈ acts, Small a.rc.bag := by
  simp only [fewA, Bool.and_eq_true, decide_eq_true_eq, List.all_eq_true] at h
  exact ⟨h.1, (few_small h.2.1).1, fun a ha => (few_small (h.2.2 a ha)).1⟩
theorem begin_cases (own : Rc) (room : Int) : (recValid own = false ∨ own.st ≠ 0) ∨ (recValid own = true ∧ own.st = 0 ∧ (room < 1 ∨ 48 < room)) ∨ (recValid own = true ∧ own.st = 0 ∧ 1 ≤ room ∧ room ≤ 48) := by
  cases h : recValid own with
  | false => exact .inl (.inl rfl)
  | true =>
    by_cases c : own.st = 0
    · by_cases d : room < 1 ∨ 48 < room
      · exact .inr (.inl ⟨rfl, c, d⟩)
      · exact .inr (.inr ⟨rfl, c, by omega, by omega⟩)
    · exact .inl (.inr c)
theorem leftA_yes {a : Ac} (h : a.k < 0 ∨ 3 < a.k) : leftA a = true := decide_eq_true h
theorem leftA_no {a : Ac} (h : ¬ (a.k < 0 ∨ 3 < a.k)) : leftA a = false := decide_eq_false h
theorem left_st {s t : Int} {lf lf2 : Bool} {a : Ac} (h1 : t = if leftA a = true then 3 else s) (h2 : s = if lf = true then 3 else 0) (h3 : lf2 = (lf || leftA a)) : t = if lf2 = true then 3 else 0 := by
  subst h1; subst h2; subst h3
  cases lf <;> cases leftA a <;> rfl
end Go.Proofs.Ytgipbhfblmblcaa

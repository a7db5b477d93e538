/- Plain: how a list is put into a list. -/
import Derived.Test.YtgipbhfblmblcaaPDice
set_option linter.unusedVariables false
namespace Go.Proofs.Ytgipbhfblmblcaa
/-- The first place of a list at which something holds; the list's length: nowhere. -/
def fidx {α : Type} (p : α → Bool) : List α → Nat
  | [] => 0
  | x :: l => if p x then 0 else fidx p l + 1
theorem fidx_hit {α : Type} {p : α → Bool} {l : List α} {k : Nat} {x : α} (h : fidx p (l.drop k) + k = fidx p l) (hx : l[k]? = some x) (hp : p x = true) : fidx p l = k := by
  rw [drop_cons hx, fidx, if_pos hp] at h; omega
theorem fidx_miss {α : Type} {p : α → Bool} {l : List α} {k : Nat} {x : α} (h : fidx p (l.drop k) + k = fidx p l) (hx : l[k]? = some x) (hp : p x = false) : fidx p (l.drop (k + 1)) + (k + 1) = fidx p l := by
  rw [drop_cons hx, fidx, if_neg (by simp [hp])] at h; omega
theorem fidx_end {α : Type} {p : α → Bool} {l : List α} (h : fidx p (l.drop l.length) + l.length = fidx p l) : fidx p l = l.length := by
  rw [List.drop_length, fidx] at h; omega
def fidxZ {α : Type} (p : α → Bool) (l : List α) : Int := if fidx p l < l.length then (fidx p l : Int) else -1
theorem fidx_find {α : Type} (p : α → Bool) : ∀ l : List α, l[fidx p l]? = l.find? p
  | [] => rfl
  | x :: l => by
    have ih := fidx_find p l
    by_cases h : p x = true
    · simp [fidx, h]
    · simp [fidx, h, ih]
end Go.Proofs.Ytgipbhfblmblcaa

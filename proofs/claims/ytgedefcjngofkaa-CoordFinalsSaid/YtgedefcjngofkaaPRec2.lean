/- Plain: lists of records: what is under what, what is sorted. -/
import Derived.Test.YtgedefcjngofkaaPLat3
set_option linter.unusedVariables false
namespace Go.Proofs.Ytgedefcjngofkaa
open Go.Proofs.Ytgedefcjngofkaa.AM
theorem idx_lt_any (p : Rc → Bool) : ∀ l, decide (idx p l < l.length) = l.any p
  | [] => rfl
  | x :: l => by
    have ih := idx_lt_any p l
    simp only [idx, List.any_cons, List.length_cons]
    by_cases h : p x = true
    · simp [h]
    · simp [h, ← ih]
def idxZ (p : Rc → Bool) (l : List Rc) : Int := if idx p l < l.length then (idx p l : Int) else -1
theorem idxZ_any (p : Rc → Bool) (l : List Rc) : decide (0 ≤ idxZ p l) = l.any p := by
  rw [← idx_lt_any]
  unfold idxZ
  split
  · simp [*]
  · simp [*]
def below (a b : Rc) : Bool := decide (a.id = b.id) && decide (jnAll a b = b)
theorem below_jn (a b : Rc) : below a b = (decide (a.id = b.id) && decide (jn a b = b)) := by
  unfold below jnAll
  by_cases h : a.id = b.id
  · rw [if_pos h]
  · simp [h]
theorem jnAll_small {a b : Rc} (ha : Small a.bag) (hb : Small b.bag) : Small (jnAll a b).bag := by
  unfold jnAll
  split
  · exact jn_small ha hb
  · exact ⟨by simp [rzero], by simp [rzero, bsize]⟩
def under (x y : List Rc) : Bool := x.all fun r => y.any (below r)
theorem any_snoc {α : Type} {p : α → Bool} {l : List α} {k : Nat} {x : α} (hx : l[k]? = some x) : (l.take (k + 1)).any p = ((l.take k).any p || p x) := by
  rw [List.take_add_one, hx, List.any_append]; simp
theorem all_snoc {α : Type} {p : α → Bool} {l : List α} {k : Nat} {x : α} (hx : l[k]? = some x) : (l.take (k + 1)).all p = ((l.take k).all p && p x) := by
  rw [List.take_add_one, hx, List.all_append]; simp
theorem all_stop {α : Type} {p : α → Bool} {l : List α} {k : Nat} {x : α} (hx : l[k]? = some x) (h : p x = false) : l.all p = false := List.all_eq_false.2 ⟨x, mem_get hx, by simp [h]⟩
theorem any_stop {α : Type} {p : α → Bool} {l : List α} {k : Nat} {x : α} (hx : l[k]? = some x) (h : p x = true) : l.any p = true := List.any_eq_true.2 ⟨x, mem_get hx, h⟩
theorem fewL_small {l : List Rc} (h : fewL l = true) : l.length ≤ 20 ∧ ∀ x ∈ l, Small x.bag := by
  simp only [fewL, Bool.and_eq_true, decide_eq_true_eq] at h
  exact ⟨h.1, fun x hx => (few_small (List.all_eq_true.1 h.2 x hx)).1⟩
/-- The place of the first that is bad, where what is bad hangs on the one ahead. -/
def idxS (q : Int → Rc → Bool) : Int → List Rc → Nat
  | _, [] => 0
  | s, x :: l => if q s x then 0 else idxS q x.id l + 1
def srtGo : Int → List Rc → Bool
  | _, [] => true
  | s, x :: l => recValid x && decide (s < x.id) && srtGo x.id l
def srt (l : List Rc) : Bool := srtGo (-1) l
def badS (s : Int) (x : Rc) : Bool := !recValid x || decide (x.id ≤ s)
theorem idxS_srt : ∀ (l : List Rc) (s : Int), decide (idxS badS s l = l.length) = srtGo s l
  | [], s => rfl
  | x :: l, s => by
    have ih := idxS_srt l x.id
    simp only [idxS, srtGo, badS]
    by_cases hv : recValid x = true
    · by_cases h : x.id ≤ s
      · simp [hv, h, show ¬ s < x.id by omega]
      · simp [hv, h, show s < x.id by omega, ← ih]
    · simp [hv]
theorem idxS_le (q : Int → Rc → Bool) : ∀ (l : List Rc) (s : Int), idxS q s l ≤ l.length
  | [], _ => Nat.le_refl _
  | x :: l, s => by have := idxS_le q l x.id; simp only [idxS]; split <;> simp <;> omega
end Go.Proofs.Ytgedefcjngofkaa

/- Plain: how a list is put into a list. -/
import Derived.Test.YtgedefcjngofkaaPDice
set_option linter.unusedVariables false
namespace Go.Proofs.Ytgedefcjngofkaa
theorem take_l {α : Type} {a : List α} {n : Nat} (b : List α) (h : a.length = n) : (a ++ b).take n = a := List.take_left' h
theorem drop_l {α : Type} {a : List α} {n : Nat} (b : List α) (h : a.length = n) : (a ++ b).drop n = b := List.drop_left' h
theorem drop_lk {α : Type} {a : List α} {n : Nat} (k : Nat) (b : List α) (h : a.length = n) : (a ++ b).drop (n + k) = b.drop k := by rw [← List.drop_drop, drop_l b h]
theorem take_all {α : Type} {a : List α} {n : Nat} (h : a.length = n) : a.take n = a := List.take_of_length_le (by omega)
theorem drop_none {α : Type} {a : List α} {n : Nat} (h : a.length ≤ n) : a.drop n = [] := List.drop_of_length_le h
theorem ins_a {α β : Type} (f : α → β) (l m : List α) (z : β) (i : Nat) (h : i ≤ l.length) :
    (((l.take i).map f ++ List.replicate (l.length + m.length - i) z).take i ++ (m.map f).take m.length ++ ((l.take i).map f ++ List.replicate (l.length + m.length - i) z).drop (i + m.length)) = (l.take i).map f ++ m.map f ++ List.replicate (l.length - i) z := by
  have h1 : ((l.take i).map f).length = i := by rw [List.length_map, List.length_take]; omega
  rw [take_l _ h1, take_all (a := m.map f) (by rw [List.length_map]), drop_lk _ _ h1, List.drop_replicate]
  congr 2; omega
theorem ins_b {α β : Type} (f : α → β) (l m : List α) (z : β) (i : Nat) (h : i ≤ l.length) :
    (((l.take i).map f ++ m.map f ++ List.replicate (l.length - i) z).take (i + m.length) ++ ((l.drop i).map f).take (l.length - i) ++ ((l.take i).map f ++ m.map f ++ List.replicate (l.length - i) z).drop (i + m.length + (l.length - i))) = (l.take i ++ m ++ l.drop i).map f := by
  have h1 : ((l.take i).map f ++ m.map f).length = i + m.length := by rw [List.length_append, List.length_map, List.length_map, List.length_take]; omega
  rw [take_l _ h1, take_all (a := (l.drop i).map f) (by rw [List.length_map, List.length_drop]), drop_lk _ _ h1, drop_none (a := List.replicate (l.length - i) z) (by rw [List.length_replicate]; exact Nat.le_refl _), List.append_nil, List.map_append, List.map_append]
theorem ins_c {α β : Type} (f : α → β) (l : List α) (R : List β) (i k : Nat) (hR : R.length = k) (h : i ≤ l.length) :
    ((l.map f ++ R).take (i + k) ++ ((l.drop i).map f ++ R).take (l.length - i) ++ (l.map f ++ R).drop (i + k + (l.length - i))) = (l.map f ++ R).take (i + k) ++ (l.drop i).map f := by
  rw [take_l (a := (l.drop i).map f) R (by rw [List.length_map, List.length_drop]), drop_none (a := l.map f ++ R) (by rw [List.length_append, List.length_map]; omega), List.append_nil]
theorem ins_d {α β : Type} (f : α → β) (l m : List α) (R : List β) (i : Nat) (hR : R.length = m.length) (h : i ≤ l.length) :
    (((l.map f ++ R).take (i + m.length) ++ (l.drop i).map f).take i ++ (m.map f).take m.length ++ ((l.map f ++ R).take (i + m.length) ++ (l.drop i).map f).drop (i + m.length)) = (l.take i ++ m ++ l.drop i).map f := by
  have h1 : ((l.map f ++ R).take (i + m.length)).length = i + m.length := by rw [List.length_take, List.length_append, List.length_map]; omega
  have h2 : ((l.map f ++ R).take (i + m.length) ++ (l.drop i).map f).take i = (l.take i).map f := by
    rw [List.take_append_of_le_length (by omega), List.take_take, Nat.min_eq_left (by omega), List.take_append_of_le_length (by rw [List.length_map]; omega), List.map_take]
  rw [h2, take_all (a := m.map f) (by rw [List.length_map]), drop_l _ h1, List.map_append, List.map_append]
/-- The first place of a list at which something holds; the list's length: nowhere. -/
def fidx {α : Type} (p : α → Bool) : List α → Nat
  | [] => 0
  | x :: l => if p x then 0 else fidx p l + 1
theorem fidx_le {α : Type} (p : α → Bool) : ∀ l, fidx p l ≤ l.length
  | [] => Nat.le_refl _
  | x :: l => by have := fidx_le p l; simp only [fidx]; split <;> simp <;> omega
theorem fidx_hit {α : Type} {p : α → Bool} {l : List α} {k : Nat} {x : α} (h : fidx p (l.drop k) + k = fidx p l) (hx : l[k]? = some x) (hp : p x = true) : fidx p l = k := by
  rw [drop_cons hx, fidx, if_pos hp] at h; omega
theorem fidx_miss {α : Type} {p : α → Bool} {l : List α} {k : Nat} {x : α} (h : fidx p (l.drop k) + k = fidx p l) (hx : l[k]? = some x) (hp : p x = false) : fidx p (l.drop (k + 1)) + (k + 1) = fidx p l := by
  rw [drop_cons hx, fidx, if_neg (by simp [hp])] at h; omega
theorem fidx_end {α : Type} {p : α → Bool} {l : List α} (h : fidx p (l.drop l.length) + l.length = fidx p l) : fidx p l = l.length := by
  rw [List.drop_length, fidx] at h; omega
def fidxZ {α : Type} (p : α → Bool) (l : List α) : Int := if fidx p l < l.length then (fidx p l : Int) else -1
theorem fidx_lt_any {α : Type} (p : α → Bool) : ∀ l, decide (fidx p l < l.length) = l.any p
  | [] => rfl
  | x :: l => by
    have ih := fidx_lt_any p l
    simp only [fidx, List.any_cons, List.length_cons]
    by_cases h : p x = true
    · simp [h]
    · simp [h, ← ih]
theorem fidxZ_any {α : Type} (p : α → Bool) (l : List α) : decide (0 ≤ fidxZ p l) = l.any p := by
  rw [← fidx_lt_any]
  unfold fidxZ
  split
  · simp [*]
  · simp [*]
theorem fidx_find {α : Type} (p : α → Bool) : ∀ l : List α, l[fidx p l]? = l.find? p
  | [] => rfl
  | x :: l => by
    have ih := fidx_find p l
    by_cases h : p x = true
    · simp [fidx, h]
    · simp [fidx, h, ih]
theorem fidx_keep {α : Type} (p : α → Bool) : ∀ l : List α, (l.take (fidx p l + 1)).filter (fun x => !p x) = l.take (fidx p l)
  | [] => rfl
  | x :: l => by
    have ih := fidx_keep p l
    by_cases h : p x = true
    · simp [fidx, h]
    · simp only [fidx, h, Bool.false_eq_true, if_false, List.take_succ_cons, List.filter_cons, Bool.not_false, if_true]
      rw [ih]
theorem fidx_none {α : Type} (p : α → Bool) : ∀ l : List α, fidx p l = l.length → l.filter (fun x => !p x) = l
  | [], _ => rfl
  | x :: l, h => by
    by_cases hp : p x = true
    · simp [fidx, hp] at h
    · simp only [fidx, hp, Bool.false_eq_true, if_false, List.length_cons] at h
      have ih := fidx_none p l (by omega)
      simp [List.filter_cons, hp, ih]
theorem get_of_drop {α : Type} {R l : List α} {j : Nat} (h : R.drop j = l.drop j) : R[j]? = l[j]? := by
  have := congrArg (·[0]?) h
  simpa [List.getElem?_drop] using this
theorem filter_snoc {α : Type} {q : α → Bool} {l : List α} {k : Nat} {x : α} (hx : l[k]? = some x) : (l.take (k + 1)).filter q = (l.take k).filter q ++ (if q x then [x] else []) := by
  rw [List.take_add_one, hx, List.filter_append]
  by_cases h : q x = true <;> simp [h]
theorem filter_at {α : Type} {p : α → Bool} : ∀ {l : List α} {j : Nat} {x : α}, l[j]? = some x → p x = true → (l.filter p)[((l.take j).filter p).length]? = some x
  | [], j, x, h, _ => by simp at h
  | y :: l, 0, x, h, hp => by
    simp at h; subst h
    simp [hp]
  | y :: l, j + 1, x, h, hp => by
    have ih := filter_at (l := l) (j := j) (by simpa using h) hp
    rw [List.take_succ_cons]
    by_cases hy : p y = true
    · simp [hy, ih]
    · simp [hy, ih]
theorem keep_step {α : Type} {R l : List α} {i j : Nat} {x : α} {F : List α} (hR : R.length = l.length) (hij : i < j) (hj : j < l.length) (ht : R.take i = F) (hd : R.drop j = l.drop j) :
    (R.set i x).length = l.length ∧ i + 1 < j + 1 ∧ (R.set i x).take (i + 1) = F ++ [x] ∧ (R.set i x).drop (j + 1) = l.drop (j + 1) := by
  refine ⟨by rw [List.length_set]; exact hR, by omega, ?_, ?_⟩
  · rw [List.take_add_one, List.getElem?_set_self (by omega), List.take_set_of_le (by omega), ht]; rfl
  · rw [List.drop_set_of_lt (by omega), ← List.drop_drop, hd, List.drop_drop]
theorem keep_skip {α : Type} {R l : List α} {j : Nat} (hd : R.drop j = l.drop j) : R.drop (j + 1) = l.drop (j + 1) := by
  rw [← List.drop_drop, hd, List.drop_drop]
end Go.Proofs.Ytgedefcjngofkaa

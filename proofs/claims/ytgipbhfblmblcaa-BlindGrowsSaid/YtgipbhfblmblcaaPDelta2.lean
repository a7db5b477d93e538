/- Plain: the heads of two lists that are gone over side by side; what the laws of deltas ask. -/
import Derived.Test.YtgipbhfblmblcaaPDelta
set_option linter.unusedVariables false
namespace Go.Proofs.Ytgipbhfblmblcaa
open Go.Proofs.Ytgipbhfblmblcaa.AM
def headX (a b : List Rc) : Option Rc := match a, b with
  | [], _ => none
  | x :: _, [] => some x
  | x :: _, y :: _ => if x.id ≤ y.id then some x else none
def headY (a b : List Rc) : Option Rc := headX b a
def nextA (a b : List Rc) : List Rc := if (headX a b).isSome = true then a.tail else a
def nextB (a b : List Rc) : List Rc := nextA b a
def Hd (l : List Rc) (o : Option Rc) : Prop := ∀ x, o = some x → l[0]? = some x
theorem headX_hd (a b : List Rc) : Hd a (headX a b) := fun x h => by
  unfold headX at h
  split at h
  · cases h
  · simpa using h
  · split at h
    · simpa using h
    · cases h
theorem headY_hd (a b : List Rc) : Hd b (headY a b) := headX_hd b a
theorem Hd.mem {l : List Rc} {o : Option Rc} (h : Hd l o) {x : Rc} (hx : o = some x) : x ∈ l := List.mem_of_getElem? (h x hx)
theorem head_one {a b : List Rc} (h : ¬ (a = [] ∧ b = [])) : ¬ (headX a b = none ∧ headY a b = none) := by
  unfold headY headX
  cases a with
  | nil => cases b with
    | nil => simp at h
    | cons y b => simp
  | cons x a => cases b with
    | nil => simp
    | cons y b =>
      simp only
      rcases Int.le_total x.id y.id with h1 | h1
      · rw [if_pos h1]; simp
      · rw [if_pos h1]; simp
theorem hX1 {a b : List Rc} (hb : b.length = 0) (ha : 0 < a.length) : (headX a b).isSome = true := by
  cases a with
  | nil => simp at ha
  | cons x a => cases b with
    | nil => rfl
    | cons y b => simp at hb
theorem hX0 {a b : List Rc} (ha : a.length = 0) : (headX a b).isSome = false := by
  cases a with
  | nil => rfl
  | cons x a => simp at ha
theorem hX2 {a b : List Rc} {x y : Rc} (ha : a[0]? = some x) (hb : b[0]? = some y) : (headX a b).isSome = decide (x.id ≤ y.id) := by
  cases a with
  | nil => simp at ha
  | cons u a => cases b with
    | nil => simp at hb
    | cons v b =>
      simp at ha hb
      subst ha; subst hb
      simp only [headX]
      split
      · simp [*]
      · simp [*]
theorem nextA_sub (a b : List Rc) : ∀ x ∈ nextA a b, x ∈ a := fun x h => by
  unfold nextA at h
  split at h
  · exact List.mem_of_mem_tail h
  · exact h
theorem next_len {a b : List Rc} (h : ¬ (a = [] ∧ b = [])) : (nextA a b).length + (nextB a b).length < a.length + b.length := by
  have h1 := head_one h
  have hx : ∀ a b, (headX a b).isSome = true → (nextA a b).length < a.length := fun a b hs => by
    rw [nextA, if_pos hs]
    cases a with
    | nil => simp [headX] at hs
    | cons x a => simp
  have hl : ∀ a b, (nextA a b).length ≤ a.length := fun a b => by
    unfold nextA
    split
    · simp
    · exact Nat.le_refl _
  by_cases hs : (headX a b).isSome = true
  · have := hx a b hs; have := hl b a; unfold nextB; omega
  · have hy : (headX b a).isSome = true := by
      cases hb : headX b a with
      | none => exact absurd ⟨by simpa using hs, hb⟩ h1
      | some y => rfl
    have := hx b a hy; have := hl a b; unfold nextB; omega
theorem side_step {β : Type} (f : Option Rc → Option Rc → Option β) {a b : List Rc} (h : ¬ (a = [] ∧ b = [])) : sideL f a b = (f (headX a b) (headY a b)).toList ++ sideL f (nextA a b) (nextB a b) := by
  cases a with
  | nil => cases b with
    | nil => simp at h
    | cons y b => rw [sideL_right]; rfl
  | cons x a => cases b with
    | nil => rw [sideL_left]; rfl
    | cons y b =>
      rw [sideL_both]
      rcases Int.lt_trichotomy x.id y.id with h1 | h1 | h1
      · have e1 : headX (x :: a) (y :: b) = some x := if_pos (by omega)
        have e2 : headX (y :: b) (x :: a) = none := if_neg (by omega)
        rw [if_pos h1]; simp [nextB, nextA, headY, e1, e2]
      · have e1 : headX (x :: a) (y :: b) = some x := if_pos (by omega)
        have e2 : headX (y :: b) (x :: a) = some y := if_pos (by omega)
        rw [if_neg (by omega), if_neg (by omega)]; simp [nextB, nextA, headY, e1, e2]
      · have e1 : headX (x :: a) (y :: b) = none := if_neg (by omega)
        have e2 : headX (y :: b) (x :: a) = some y := if_pos (by omega)
        rw [if_neg (by omega), if_pos h1]; simp [nextB, nextA, headY, e1, e2]
theorem toList_some {β : Type} {o : Option β} (z : β) (h : o.isSome = true) : o.toList = [o.getD z] := by
  cases o with
  | none => cases h
  | some x => rfl
theorem toList_none {β : Type} {o : Option β} (h : o.isSome = false) : o.toList = [] := by
  cases o with
  | none => rfl
  | some x => cases h
theorem nil_or {a b : List Rc} (h : 0 < a.length ∨ 0 < b.length) : ¬ (a = [] ∧ b = []) := by
  rintro ⟨rfl, rfl⟩; simp at h
/-- What each step of the walk over both must show. -/
theorem side_keep {β : Type} {f : Option Rc → Option Rc → Option β} {a b a' b' : List Rc} {acc : List β} (h : 0 < a'.length ∨ 0 < b'.length) (h1 : acc ++ sideL f a' b' = sideL f a b) (h2 : ∀ x ∈ a', x ∈ a) (h3 : ∀ x ∈ b', x ∈ b) (h4 : acc.length + a'.length + b'.length ≤ a.length + b.length) :
    (nextA a' b').length + (nextB a' b').length < a'.length + b'.length ∧ (acc ++ (f (headX a' b') (headY a' b')).toList) ++ sideL f (nextA a' b') (nextB a' b') = sideL f a b ∧ (∀ x ∈ nextA a' b', x ∈ a) ∧ (∀ x ∈ nextB a' b', x ∈ b) ∧ (acc ++ (f (headX a' b') (headY a' b')).toList).length + (nextA a' b').length + (nextB a' b').length ≤ a.length + b.length := by
  have hn := nil_or h
  have hl := next_len hn
  refine ⟨hl, by rw [List.append_assoc, ← side_step f hn, h1], fun x hx => h2 x (nextA_sub a' b' x hx), fun x hx => h3 x (nextA_sub b' a' x hx), ?_⟩
  have : (f (headX a' b') (headY a' b')).toList.length ≤ 1 := by cases f (headX a' b') (headY a' b') <;> simp
  rw [List.length_append]; omega
theorem tail_eq {α : Type} (l : List α) (e : α → AV) : ((l.map e).take l.length).drop 1 = l.tail.map e := by
  rw [List.take_of_length_le (by simp), List.drop_one, List.map_tail]
theorem headX_pos {a b : List Rc} (h : (headX a b).isSome = true) : 1 ≤ a.length := by
  cases a with
  | nil => simp [headX] at h
  | cons x a => simp
end Go.Proofs.Ytgipbhfblmblcaa

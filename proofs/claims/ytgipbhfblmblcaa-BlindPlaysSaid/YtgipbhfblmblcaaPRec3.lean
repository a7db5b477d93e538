/- Plain: lists of records: found, put, named. -/
import Derived.Test.YtgipbhfblmblcaaPRec2
set_option linter.unusedVariables false
namespace Go.Proofs.Ytgipbhfblmblcaa
open Go.Proofs.Ytgipbhfblmblcaa.AM
theorem idx_find (p : Rc → Bool) : ∀ l : List Rc, l[idx p l]? = l.find? p
  | [] => rfl
  | x :: l => by
    have ih := idx_find p l
    by_cases h : p x = true
    · simp [idx, h]
    · simp [idx, h, ih]
def rfind (l : List Rc) (id : Int) : Rc × Bool := match l.find? (fun x => decide (x.id = id)) with
  | none => (rzero, false)
  | some x => (x, true)
theorem rfind_none {l : List Rc} {id : Int} (h : idx (fun x => decide (x.id = id)) l = l.length) : rfind l id = (rzero, false) := by
  unfold rfind
  rw [← idx_find, h, List.getElem?_eq_none (Nat.le_refl _)]
theorem rfind_some {l : List Rc} {id : Int} {x : Rc} (h : l[idx (fun x => decide (x.id = id)) l]? = some x) : rfind l id = (x, true) := by
  unfold rfind
  rw [← idx_find, h]
theorem rput_hit {l : List Rc} {r : Rc} (h : idx (fun x => decide (x.id = r.id)) l < l.length) : rput l r = l.set (idx (fun x => decide (x.id = r.id)) l) r := if_pos h
theorem rput_miss {l : List Rc} {r : Rc} (h : ¬ idx (fun x => decide (x.id = r.id)) l < l.length) : rput l r = l.take (idx (fun x => decide (r.id < x.id)) l) ++ r :: l.drop (idx (fun x => decide (r.id < x.id)) l) := if_neg h
def stNames : List ByteArray := [⟨#[97, 108, 105, 118, 101]⟩, ⟨#[115, 117, 115, 112, 101, 99, 116]⟩, ⟨#[100, 101, 97, 100]⟩, ⟨#[108, 101, 102, 116]⟩]
def stName (n : Int) : ByteArray := if n < 0 ∨ 3 < n then ⟨#[]⟩ else (stNames[n.toNat]?).getD ⟨#[]⟩
def nameIdx (l : List ByteArray) (s : ByteArray) (i : Int) : Int := match l with
  | [] => -1
  | x :: r => if x = s then i else nameIdx r s (i + 1)
def stOf (s : ByteArray) : Int := nameIdx stNames s 0
theorem ins_eq {α : Type} (l : List α) (z r : α) (i : Nat) (h : i ≤ l.length) : ((l ++ [z]).take (i + 1) ++ ((l ++ [z]).drop i).take (l.length - i) ++ (l ++ [z]).drop (l.length + 1)).set i r = l.take i ++ r :: l.drop i := by
  have e1 : (l ++ [z]).drop (l.length + 1) = [] := List.drop_of_length_le (by simp)
  have e2 : ((l ++ [z]).drop i).take (l.length - i) = l.drop i := by
    rw [List.drop_append_of_le_length h, List.take_append_of_le_length (by simp), List.take_of_length_le (by simp)]
  obtain ⟨w, hw⟩ : ∃ w, (l ++ [z])[i]? = some w := ⟨(l ++ [z])[i]'(by simp; omega), List.getElem?_eq_getElem _⟩
  have e3 : (l ++ [z]).take (i + 1) = l.take i ++ [w] := by
    rw [List.take_add_one, hw, List.take_append_of_le_length h]; rfl
  rw [e1, e2, e3, List.append_nil, List.append_assoc, List.set_append_right _ _ (by simp; omega)]
  simp [Nat.min_eq_left h]
theorem ins_end {α : Type} (l : List α) (z r : α) : (l ++ [z]).set l.length r = l.take l.length ++ r :: l.drop l.length := by
  rw [List.set_append_right _ _ (Nat.le_refl _)]; simp
def lastI : List ByteArray → Int → ByteArray → Int → Int
  | [], _, _, u => u
  | x :: r, i, s, u => lastI r (i + 1) s (if x = s then i else u)
def weighW (a b : Rc) : Int :=
  if (a.cut && !b.cut) = true then -1 else if (b.cut && !a.cut) = true then 1
  else if (decide (a.sp.lo < b.sp.lo) || decide (a.sp.lo = b.sp.lo) && decide (a.sp.hi < b.sp.hi)) = true then -1
  else if (decide (b.sp.lo < a.sp.lo) || decide (a.sp.lo = b.sp.lo) && decide (b.sp.hi < a.sp.hi)) = true then 1 else cmpBag a.bag b.bag
end Go.Proofs.Ytgipbhfblmblcaa

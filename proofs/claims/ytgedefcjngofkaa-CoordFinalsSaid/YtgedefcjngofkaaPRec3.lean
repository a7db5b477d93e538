/- Plain: lists of records: found, put, named. -/
import Derived.Test.YtgedefcjngofkaaPRec2
set_option linter.unusedVariables false
namespace Go.Proofs.Ytgedefcjngofkaa
open Go.Proofs.Ytgedefcjngofkaa.AM
theorem idxS_hit {q : Int → Rc → Bool} {l : List Rc} {k : Nat} {x : Rc} {s N : Int} {M : Nat} (h : idxS q s (l.drop k) + k = M) (hx : l[k]? = some x) (hp : q s x = true) : M = k := by
  rw [drop_cons hx, idxS, if_pos hp] at h; omega
theorem idxS_miss {q : Int → Rc → Bool} {l : List Rc} {k : Nat} {x : Rc} {s : Int} {M : Nat} (h : idxS q s (l.drop k) + k = M) (hx : l[k]? = some x) (hp : q s x = false) : idxS q x.id (l.drop (k + 1)) + (k + 1) = M := by
  rw [drop_cons hx, idxS, if_neg (by simp [hp])] at h; omega
theorem idxS_end {q : Int → Rc → Bool} {l : List Rc} {s : Int} {M : Nat} (h : idxS q s (l.drop l.length) + l.length = M) : M = l.length := by
  rw [List.drop_length, idxS] at h; omega
theorem idx_find (p : Rc → Bool) : ∀ l : List Rc, l[idx p l]? = l.find? p
  | [] => rfl
  | x :: l => by
    have ih := idx_find p l
    by_cases h : p x = true
    · simp [idx, h]
    · simp [idx, h, ih]
def rfind (l : List Rc) (id : Int) : Rc × Bool := match l.find? (fun x => decide (x.id = id)) with
  | none => (rzero, false)
  | some x => (x, true)
theorem rfind_none {l : List Rc} {id : Int} (h : idx (fun x => decide (x.id = id)) l = l.length) : rfind l id = (rzero, false) := by
  unfold rfind
  rw [← idx_find, h, List.getElem?_eq_none (Nat.le_refl _)]
theorem rfind_some {l : List Rc} {id : Int} {x : Rc} (h : l[idx (fun x => decide (x.id = id)) l]? = some x) : rfind l id = (x, true) := by
  unfold rfind
  rw [← idx_find, h]
theorem rput_hit {l : List Rc} {r : Rc} (h : idx (fun x => decide (x.id = r.id)) l < l.length) : rput l r = l.set (idx (fun x => decide (x.id = r.id)) l) r := if_pos h
theorem rput_miss {l : List Rc} {r : Rc} (h : ¬ idx (fun x => decide (x.id = r.id)) l < l.length) : rput l r = l.take (idx (fun x => decide (r.id < x.id)) l) ++ r :: l.drop (idx (fun x => decide (r.id < x.id)) l) := if_neg h
def stNames : List ByteArray := [⟨#[97, 108, 105, 118, 101]⟩, ⟨#[115, 117, 115, 112, 101, 99, 116]⟩, ⟨#[100, 101, 97, 100]⟩, ⟨#[108, 101, 102, 116]⟩]
def stName (n : Int) : ByteArray := if n < 0 ∨ 3 < n then ⟨#[]⟩ else (stNames[n.toNat]?).getD ⟨#[]⟩
theorem stName_get {n : Int} (h0 : ¬ n < 0) (h3 : n ≤ 3) : stNames[n.toNat]? = some (stName n) := by
  obtain h | h | h | h : n = 0 ∨ n = 1 ∨ n = 2 ∨ n = 3 := by omega
  all_goals (subst h; rfl)
def nameIdx (l : List ByteArray) (s : ByteArray) (i : Int) : Int := match l with
  | [] => -1
  | x :: r => if x = s then i else nameIdx r s (i + 1)
theorem nameIdx_lo : ∀ (l : List ByteArray) (s : ByteArray) (i : Int), 0 ≤ i → nameIdx l s i = -1 ∨ i ≤ nameIdx l s i
  | [], _, _, _ => .inl rfl
  | x :: r, s, i, h => by
    have ih := nameIdx_lo r s (i + 1) (by omega)
    simp only [nameIdx]
    split <;> omega
def stOf (s : ByteArray) : Int := nameIdx stNames s 0
theorem ins_eq {α : Type} (l : List α) (z r : α) (i : Nat) (h : i ≤ l.length) : ((l ++ [z]).take (i + 1) ++ ((l ++ [z]).drop i).take (l.length - i) ++ (l ++ [z]).drop (l.length + 1)).set i r = l.take i ++ r :: l.drop i := by
  have e1 : (l ++ [z]).drop (l.length + 1) = [] := List.drop_of_length_le (by simp)
  have e2 : ((l ++ [z]).drop i).take (l.length - i) = l.drop i := by
    rw [List.drop_append_of_le_length h, List.take_append_of_le_length (by simp), List.take_of_length_le (by simp)]
  obtain ⟨w, hw⟩ : ∃ w, (l ++ [z])[i]? = some w := ⟨(l ++ [z])[i]'(by simp; omega), List.getElem?_eq_getElem _⟩
  have e3 : (l ++ [z]).take (i + 1) = l.take i ++ [w] := by
    rw [List.take_add_one, hw, List.take_append_of_le_length h]; rfl
  rw [e1, e2, e3, List.append_nil, List.append_assoc, List.set_append_right _ _ (by simp; omega)]
  simp [Nat.min_eq_left h]
theorem ins_end {α : Type} (l : List α) (z r : α) : (l ++ [z]).set l.length r = l.take l.length ++ r :: l.drop l.length := by
  rw [List.set_append_right _ _ (Nat.le_refl _)]; simp
def lastI : List ByteArray → Int → ByteArray → Int → Int
  | [], _, _, u => u
  | x :: r, i, s, u => lastI r (i + 1) s (if x = s then i else u)
theorem lastI_eq (s : ByteArray) : lastI stNames 0 s (-1) = stOf s := by
  simp only [lastI, stOf, nameIdx, stNames]
  by_cases h0 : (⟨#[97, 108, 105, 118, 101]⟩ : ByteArray) = s
  · subst h0; decide
  by_cases h1 : (⟨#[115, 117, 115, 112, 101, 99, 116]⟩ : ByteArray) = s
  · subst h1; decide
  by_cases h2 : (⟨#[100, 101, 97, 100]⟩ : ByteArray) = s
  · subst h2; decide
  by_cases h3 : (⟨#[108, 101, 102, 116]⟩ : ByteArray) = s
  · subst h3; decide
  simp [h0, h1, h2, h3]
def weighW (a b : Rc) : Int :=
  if (a.cut && !b.cut) = true then -1 else if (b.cut && !a.cut) = true then 1
  else if (decide (a.sp.lo < b.sp.lo) || decide (a.sp.lo = b.sp.lo) && decide (a.sp.hi < b.sp.hi)) = true then -1
  else if (decide (b.sp.lo < a.sp.lo) || decide (a.sp.lo = b.sp.lo) && decide (b.sp.hi < a.sp.hi)) = true then 1 else cmpBag a.bag b.bag
theorem weighW_eq (a b : Rc) : weighW a b = weigh a b := by
  have ho : ∀ x y, (ordI x y = 0 ∧ x = y) ∨ (ordI x y = -1 ∧ x < y) ∨ (ordI x y = 1 ∧ y < x) := fun x y => by unfold ordI; split <;> (try split) <;> omega
  have key : (if (decide (a.sp.lo < b.sp.lo) || decide (a.sp.lo = b.sp.lo) && decide (a.sp.hi < b.sp.hi)) = true then -1
    else if (decide (b.sp.lo < a.sp.lo) || decide (a.sp.lo = b.sp.lo) && decide (b.sp.hi < a.sp.hi)) = true then 1 else cmpBag a.bag b.bag) =
      if ordI a.sp.lo b.sp.lo = 0 then (if ordI a.sp.hi b.sp.hi = 0 then cmpBag a.bag b.bag else ordI a.sp.hi b.sp.hi) else ordI a.sp.lo b.sp.lo := by
    rcases ho a.sp.lo b.sp.lo with ⟨e1, f1⟩ | ⟨e1, f1⟩ | ⟨e1, f1⟩ <;> rcases ho a.sp.hi b.sp.hi with ⟨e2, f2⟩ | ⟨e2, f2⟩ | ⟨e2, f2⟩ <;> simp only [e1, e2]
    all_goals simp only [Bool.or_eq_true, Bool.and_eq_true, decide_eq_true_eq]
    all_goals first
      | (rw [if_neg (by omega), if_neg (by omega)]; rfl)
      | (rw [if_pos (by omega)]; rfl)
      | (rw [if_neg (by omega), if_pos (by omega)]; rfl)
  unfold weighW weigh
  cases a.cut <;> cases b.cut <;> first | (simp; done) | (simp at key ⊢; exact key)
theorem cmpB_range : ∀ a b : List Int, -1 ≤ cmpB a b ∧ cmpB a b ≤ 1
  | [], [] => by simp [cmpB]
  | [], _ :: _ => by simp [cmpB]
  | _ :: _, [] => by simp [cmpB]
  | x :: a, y :: b => by
    have ih := cmpB_range a b
    simp only [cmpB]
    split
    · omega
    · split <;> omega
theorem signF_range (f g : Fd) : -1 ≤ signF f g ∧ signF f g ≤ 1 := by
  have := cmpB_range f.data g.data
  simp only [signF]
  split
  · exact this
  · split <;> omega
theorem cmpBag_range : ∀ a b : List Fd, -1 ≤ cmpBag a b ∧ cmpBag a b ≤ 1
  | [], [] => by simp [cmpBag]
  | [], _ :: _ => by simp [cmpBag]
  | _ :: _, [] => by simp [cmpBag]
  | f :: a, g :: b => by
    have ih := cmpBag_range a b
    have := signF_range f g
    simp only [cmpBag]
    split <;> omega
theorem weigh_range (a b : Rc) : -1 ≤ weigh a b ∧ weigh a b ≤ 1 := by
  have h1 : ∀ x y, -1 ≤ ordI x y ∧ ordI x y ≤ 1 := fun x y => by unfold ordI; split <;> (try split) <;> omega
  have h2 := cmpBag_range a.bag b.bag
  have h3 := h1 a.sp.lo b.sp.lo
  have h4 := h1 a.sp.hi b.sp.hi
  unfold weigh
  split
  · split
    · split <;> omega
    · omega
  · split <;> omega
theorem akin_core (a b : Rc) : akin a b = decide (core a = core b) := by
  obtain ⟨_, _, _, ⟨_, _⟩, _, _⟩ := a
  obtain ⟨_, _, _, ⟨_, _⟩, _, _⟩ := b
  simp [akin, core]
end Go.Proofs.Ytgedefcjngofkaa

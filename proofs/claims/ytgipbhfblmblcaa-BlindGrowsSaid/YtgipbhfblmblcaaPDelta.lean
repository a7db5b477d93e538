/- Plain: two lists gone over side by side: what has changed, what is laid over, what is gone. -/
import Derived.Test.YtgipbhfblmblcaaPMerge
set_option linter.unusedVariables false
namespace Go.Proofs.Ytgipbhfblmblcaa
open Go.Proofs.Ytgipbhfblmblcaa.AM
def sideGo {β : Type} (f : Option Rc → Option Rc → Option β) : Nat → List Rc → List Rc → List β
  | 0, _, _ => []
  | _ + 1, [], [] => []
  | n + 1, x :: a, [] => (f (some x) none).toList ++ sideGo f n a []
  | n + 1, [], y :: b => (f none (some y)).toList ++ sideGo f n [] b
  | n + 1, x :: a, y :: b => if x.id < y.id then (f (some x) none).toList ++ sideGo f n a (y :: b) else if y.id < x.id then (f none (some y)).toList ++ sideGo f n (x :: a) b else (f (some x) (some y)).toList ++ sideGo f n a b
def sideL {β : Type} (f : Option Rc → Option Rc → Option β) (a b : List Rc) : List β := sideGo f (a.length + b.length) a b
theorem sideGo_fuel {β : Type} (f : Option Rc → Option Rc → Option β) : ∀ (n m : Nat) (a b : List Rc), a.length + b.length ≤ n → a.length + b.length ≤ m → sideGo f n a b = sideGo f m a b
  | 0, 0, _, _, _, _ => rfl
  | 0, m + 1, [], [], _, _ => rfl
  | 0, _ + 1, _ :: _, _, h, _ => by simp at h
  | 0, _ + 1, [], _ :: _, h, _ => by simp at h
  | n + 1, 0, [], [], _, _ => rfl
  | _ + 1, 0, _ :: _, _, _, h => by simp at h
  | _ + 1, 0, [], _ :: _, _, h => by simp at h
  | n + 1, m + 1, [], [], _, _ => rfl
  | n + 1, m + 1, x :: a, [], h1, h2 => by
    have ih := sideGo_fuel f n m a [] (by simp at h1 ⊢; omega) (by simp at h2 ⊢; omega)
    simp only [sideGo, ih]
  | n + 1, m + 1, [], y :: b, h1, h2 => by
    have ih := sideGo_fuel f n m [] b (by simp at h1 ⊢; omega) (by simp at h2 ⊢; omega)
    simp only [sideGo, ih]
  | n + 1, m + 1, x :: a, y :: b, h1, h2 => by
    simp only [List.length_cons] at h1 h2
    have i1 := sideGo_fuel f n m a (y :: b) (by simp; omega) (by simp; omega)
    have i2 := sideGo_fuel f n m (x :: a) b (by simp; omega) (by simp; omega)
    have i3 := sideGo_fuel f n m a b (by omega) (by omega)
    simp only [sideGo, i1, i2, i3]
theorem sideL_nil {β : Type} (f : Option Rc → Option Rc → Option β) : sideL f [] [] = [] := rfl
theorem sideL_left {β : Type} (f : Option Rc → Option Rc → Option β) (x : Rc) (a : List Rc) : sideL f (x :: a) [] = (f (some x) none).toList ++ sideL f a [] := by
  show sideGo f (a.length + 1 + 0) (x :: a) [] = _
  rfl
theorem sideL_right {β : Type} (f : Option Rc → Option Rc → Option β) (y : Rc) (b : List Rc) : sideL f [] (y :: b) = (f none (some y)).toList ++ sideL f [] b := by
  show sideGo f (0 + (b.length + 1)) [] (y :: b) = _
  rw [← Nat.add_assoc]; rfl
theorem sideL_both {β : Type} (f : Option Rc → Option Rc → Option β) (x y : Rc) (a b : List Rc) : sideL f (x :: a) (y :: b) =
    if x.id < y.id then (f (some x) none).toList ++ sideL f a (y :: b) else if y.id < x.id then (f none (some y)).toList ++ sideL f (x :: a) b else (f (some x) (some y)).toList ++ sideL f a b := by
  show sideGo f (a.length + 1 + (b.length + 1)) (x :: a) (y :: b) = _
  rw [← Nat.add_assoc]
  simp only [sideGo, sideL]
  rw [sideGo_fuel f (a.length + 1 + b.length) (a.length + (y :: b).length) a (y :: b) (by simp; omega) (by simp), sideGo_fuel f (a.length + 1 + b.length) ((x :: a).length + b.length) (x :: a) b (by simp) (by simp), sideGo_fuel f (a.length + 1 + b.length) (a.length + b.length) a b (by omega) (by omega)]
theorem sideL_length {β : Type} (f : Option Rc → Option Rc → Option β) : ∀ (n : Nat) (a b : List Rc), (sideGo f n a b).length ≤ a.length + b.length
  | 0, _, _ => by simp [sideGo]
  | n + 1, [], [] => by simp [sideGo]
  | n + 1, x :: a, [] => by
    have ih := sideL_length f n a []
    cases h : f (some x) none <;> simp [sideGo, h] at ih ⊢ <;> omega
  | n + 1, [], y :: b => by
    have ih := sideL_length f n [] b
    cases h : f none (some y) <;> simp [sideGo, h] at ih ⊢ <;> omega
  | n + 1, x :: a, y :: b => by
    have i1 := sideL_length f n a (y :: b)
    have i2 := sideL_length f n (x :: a) b
    have i3 := sideL_length f n a b
    simp only [sideGo]
    split
    · cases h : f (some x) none <;> simp [h] at i1 ⊢ <;> omega
    · split
      · cases h : f none (some y) <;> simp [h] at i2 ⊢ <;> omega
      · cases h : f (some x) (some y) <;> simp [h] at i3 ⊢ <;> omega
theorem sideL_len {β : Type} (f : Option Rc → Option Rc → Option β) (a b : List Rc) : (sideL f a b).length ≤ a.length + b.length := sideL_length f _ a b
/-- The three closures. -/
def fDiff (x y : Option Rc) : Option Rc := match y with
  | none => none
  | some v => if x = some v then none else some v
def fOver (x y : Option Rc) : Option Rc := match y with
  | none => x
  | some v => some v
def fGone (x y : Option Rc) : Option Int := match y with
  | some _ => none
  | none => x.map (·.id)
def diffL (a b : List Rc) : List Rc := sideL fDiff a b
def overL (a b : List Rc) : List Rc := sideL fOver a b
def goneL (a b : List Rc) : List Int := sideL fGone a b
def fnd (l : List Rc) (id : Int) : Option Rc := l.find? (fun y => decide (y.id = id))
theorem fnd_cons (x : Rc) (l : List Rc) (id : Int) : fnd (x :: l) id = if x.id = id then some x else fnd l id := by
  unfold fnd
  by_cases h : x.id = id
  · rw [List.find?_cons_of_pos (by simpa using h), if_pos h]
  · rw [List.find?_cons_of_neg (by simpa using h), if_neg h]
theorem fnd_none {l : List Rc} {s id : Int} (h : incr s l) (hi : id ≤ s) : fnd l id = none := by
  unfold fnd
  rw [List.find?_eq_none]
  intro y hy
  have := incr_lt h y hy
  simp; omega
theorem fnd_id {l : List Rc} {id : Int} {x : Rc} (h : fnd l id = some x) : x.id = id := by simpa using List.find?_some h
theorem rfind_fst (l : List Rc) (id : Int) : (rfind l id) = ((fnd l id).getD rzero, (fnd l id).isSome) := by
  unfold rfind fnd
  cases l.find? (fun x => decide (x.id = id)) <;> rfl
/-- What is wanted of what is now. -/
def isNew (base : List Rc) (r : Rc) : Bool := decide (fnd base r.id ≠ some r)
theorem isNew_rfind (base : List Rc) (r : Rc) : isNew base r = (!(rfind base r.id).2 || !decide ((rfind base r.id).1 = r)) := by
  rw [rfind_fst, isNew]
  cases fnd base r.id <;> simp
theorem filter_congr' {α : Type} {p q : α → Bool} : ∀ {l : List α}, (∀ x ∈ l, p x = q x) → l.filter p = l.filter q
  | [], _ => rfl
  | x :: l, h => by
    rw [List.filter_cons, List.filter_cons, h x (by simp), filter_congr' fun y hy => h y (by simp [hy])]
theorem incr_mono {l : List Rc} {s t : Int} (h : incr s l) (ht : t ≤ s) : incr t l := by
  cases l with
  | nil => trivial
  | cons x l => exact ⟨by have := h.1; omega, h.2⟩
theorem diff_eq : ∀ (n : Nat) (a b : List Rc) (s : Int), a.length + b.length ≤ n → incr s a → incr s b → diffL a b = b.filter (isNew a)
  | _, [], [], _, _, _, _ => rfl
  | 0, _ :: _, _, _, h, _, _ => by simp at h
  | 0, [], _ :: _, _, h, _, _ => by simp at h
  | n + 1, x :: a, [], s, hn, ha, hb => by
    have ih := diff_eq n a [] x.id (by simp at hn ⊢; omega) ha.2 trivial
    unfold diffL at ih ⊢
    rw [sideL_left, ih]; rfl
  | n + 1, [], y :: b, s, hn, ha, hb => by
    have ih := diff_eq n [] b y.id (by simp at hn ⊢; omega) trivial hb.2
    unfold diffL at ih ⊢
    rw [sideL_right, ih]
    simp [fDiff, isNew, fnd]
  | n + 1, x :: a, y :: b, s, hn, ha, hb => by
    simp only [List.length_cons] at hn
    unfold diffL at *
    rw [sideL_both]
    have hlt := incr_lt hb.2
    rcases Int.lt_trichotomy x.id y.id with h | h | h
    · rw [if_pos h]
      have ih := diff_eq n a (y :: b) x.id (by simp; omega) ha.2 ⟨h, hb.2⟩
      unfold diffL at ih
      rw [ih]
      show [] ++ _ = _
      rw [List.nil_append]
      refine filter_congr' fun r hr => ?_
      have : x.id ≠ r.id := by
        rcases List.mem_cons.1 hr with rfl | hr
        · omega
        · have := hlt r hr; omega
      simp only [isNew, fnd_cons, if_neg this]
    · rw [if_neg (by omega), if_neg (by omega)]
      have ih := diff_eq n a b y.id (by omega) (h ▸ ha.2) hb.2
      unfold diffL at ih
      rw [ih, List.filter_cons]
      have e1 : b.filter (isNew (x :: a)) = b.filter (isNew a) := filter_congr' fun r hr => by
        have := hlt r hr
        simp only [isNew, fnd_cons, if_neg (show ¬ x.id = r.id by omega)]
      rw [e1]
      have e2 : isNew (x :: a) y = decide (x ≠ y) := by
        simp [isNew, fnd_cons, h]
      rw [e2]
      by_cases hxy : x = y
      · subst hxy; simp [fDiff]
      · simp [fDiff, hxy]
    · rw [if_neg (by omega), if_pos h]
      have ih := diff_eq n (x :: a) b y.id (by simp; omega) ⟨h, ha.2⟩ hb.2
      unfold diffL at ih
      rw [ih, List.filter_cons]
      have e : isNew (x :: a) y = true := by
        have : fnd (x :: a) y.id = none := fnd_none (s := y.id) ⟨h, ha.2⟩ (Int.le_refl _)
        simp [isNew, this]
      rw [if_pos e]; rfl
theorem gone_eq : ∀ (n : Nat) (a b : List Rc) (s : Int), a.length + b.length ≤ n → incr s a → incr s b → goneL a b = (a.filter fun r => (fnd b r.id).isNone).map (·.id)
  | _, [], [], _, _, _, _ => rfl
  | 0, _ :: _, _, _, h, _, _ => by simp at h
  | 0, [], _ :: _, _, h, _, _ => by simp at h
  | n + 1, x :: a, [], s, hn, ha, hb => by
    have ih := gone_eq n a [] x.id (by simp at hn ⊢; omega) ha.2 trivial
    unfold goneL at ih ⊢
    rw [sideL_left, ih]
    simp [fGone, fnd]
  | n + 1, [], y :: b, s, hn, ha, hb => by
    have ih := gone_eq n [] b y.id (by simp at hn ⊢; omega) trivial hb.2
    unfold goneL at ih ⊢
    rw [sideL_right, ih]; rfl
  | n + 1, x :: a, y :: b, s, hn, ha, hb => by
    simp only [List.length_cons] at hn
    unfold goneL at *
    rw [sideL_both]
    have hlt := incr_lt ha.2
    rcases Int.lt_trichotomy x.id y.id with h | h | h
    · rw [if_pos h]
      have ih := gone_eq n a (y :: b) x.id (by simp; omega) ha.2 ⟨h, hb.2⟩
      unfold goneL at ih
      have e : fnd (y :: b) x.id = none := fnd_none (s := x.id) ⟨h, hb.2⟩ (Int.le_refl _)
      rw [ih, List.filter_cons, if_pos (by simp [e])]; rfl
    · rw [if_neg (by omega), if_neg (by omega)]
      have ih := gone_eq n a b y.id (by omega) (h ▸ ha.2) hb.2
      unfold goneL at ih
      rw [ih, List.filter_cons, if_neg (by simp [fnd_cons, h])]
      have e1 : a.filter (fun r => (fnd (y :: b) r.id).isNone) = a.filter (fun r => (fnd b r.id).isNone) := filter_congr' fun r hr => by
        have := hlt r hr
        simp only [fnd_cons, if_neg (show ¬ y.id = r.id by omega)]
      rw [e1]; rfl
    · rw [if_neg (by omega), if_pos h]
      have ih := gone_eq n (x :: a) b y.id (by simp; omega) ⟨h, ha.2⟩ hb.2
      unfold goneL at ih
      rw [ih]
      have e1 : (x :: a).filter (fun r => (fnd (y :: b) r.id).isNone) = (x :: a).filter (fun r => (fnd b r.id).isNone) := filter_congr' fun r hr => by
        have : y.id ≠ r.id := by
          rcases List.mem_cons.1 hr with rfl | hr
          · omega
          · have := hlt r hr; omega
        simp only [fnd_cons, if_neg this]
      rw [e1]; rfl
theorem over_find : ∀ (n : Nat) (a b : List Rc) (s : Int), a.length + b.length ≤ n → incr s a → incr s b → incr s (overL a b) ∧ ∀ id, fnd (overL a b) id = (fnd b id).or (fnd a id)
  | _, [], [], _, _, _, _ => ⟨trivial, fun _ => rfl⟩
  | 0, _ :: _, _, _, h, _, _ => by simp at h
  | 0, [], _ :: _, _, h, _, _ => by simp at h
  | n + 1, x :: a, [], s, hn, ha, hb => by
    obtain ⟨h1, h2⟩ := over_find n a [] x.id (by simp at hn ⊢; omega) ha.2 trivial
    unfold overL at *
    rw [sideL_left]
    refine ⟨⟨ha.1, h1⟩, fun id => ?_⟩
    show fnd (x :: sideL fOver a []) id = _
    rw [fnd_cons, fnd_cons, h2]; rfl
  | n + 1, [], y :: b, s, hn, ha, hb => by
    obtain ⟨h1, h2⟩ := over_find n [] b y.id (by simp at hn ⊢; omega) trivial hb.2
    unfold overL at *
    rw [sideL_right]
    refine ⟨⟨hb.1, h1⟩, fun id => ?_⟩
    show fnd (y :: sideL fOver [] b) id = _
    rw [fnd_cons, fnd_cons, h2]
    by_cases h : y.id = id <;> simp [h]
  | n + 1, x :: a, y :: b, s, hn, ha, hb => by
    simp only [List.length_cons] at hn
    unfold overL at *
    rw [sideL_both]
    rcases Int.lt_trichotomy x.id y.id with h | h | h
    · rw [if_pos h]
      obtain ⟨h1, h2⟩ := over_find n a (y :: b) x.id (by simp; omega) ha.2 ⟨h, hb.2⟩
      refine ⟨⟨ha.1, h1⟩, fun id => ?_⟩
      show fnd (x :: sideL fOver a (y :: b)) id = _
      unfold overL at h2
      rw [fnd_cons, h2, fnd_cons x a]
      by_cases hi : x.id = id
      · have : fnd (y :: b) id = none := fnd_none (s := x.id) ⟨h, hb.2⟩ (by omega)
        simp [this, hi]
      · simp [hi]
    · rw [if_neg (by omega), if_neg (by omega)]
      obtain ⟨h1, h2⟩ := over_find n a b y.id (by omega) (h ▸ ha.2) hb.2
      refine ⟨⟨hb.1, h1⟩, fun id => ?_⟩
      show fnd (y :: sideL fOver a b) id = _
      unfold overL at h2
      rw [fnd_cons, h2, fnd_cons x a, fnd_cons y b, h]
      by_cases hi : y.id = id <;> simp [hi]
    · rw [if_neg (by omega), if_pos h]
      obtain ⟨h1, h2⟩ := over_find n (x :: a) b y.id (by simp; omega) ⟨h, ha.2⟩ hb.2
      refine ⟨⟨hb.1, h1⟩, fun id => ?_⟩
      show fnd (y :: sideL fOver (x :: a) b) id = _
      unfold overL at h2
      rw [fnd_cons, h2, fnd_cons y b]
      by_cases hi : y.id = id <;> simp [hi]
end Go.Proofs.Ytgipbhfblmblcaa

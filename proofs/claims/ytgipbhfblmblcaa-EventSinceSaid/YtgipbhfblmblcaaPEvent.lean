/- Plain: what has happened between two views. -/
import Derived.Test.YtgipbhfblmblcaaPDelta3
set_option linter.unusedVariables false
namespace Go.Proofs.Ytgipbhfblmblcaa
open Go.Proofs.Ytgipbhfblmblcaa.AM
structure Ev where
  k : Int
  id : Int
deriving DecidableEq
def encE (e : Ev) : AV := .agg [.int .i64 e.k, .int .i64 e.id]
def turned (s : Int) : Int := if s = 1 then 2 else if s = 2 then 3 else if s = 3 then 4 else 5
def evI (c : Bool) (k id : Int) : List Ev := if c = true then [⟨k, id⟩] else []
def ofL (a b : Rc) : List Ev := evI (decide (a.st ≠ b.st)) (turned b.st) a.id ++ evI (decide (a.sp ≠ b.sp)) 6 a.id ++ evI (decide (a.cut ≠ b.cut ∨ a.bag ≠ b.bag)) 7 a.id ++ evI (decide (a.inc ≠ b.inc)) 8 a.id
def fEv : Option Rc → Option Rc → List Ev
  | some x, some y => ofL x y
  | some x, none => [⟨9, x.id⟩]
  | none, some y => [⟨1, y.id⟩]
  | none, none => []
def evL (a b : List Rc) : List Ev := (sideL (fun x y => some (fEv x y)) a b).flatten
theorem ev_nil : evL [] [] = [] := rfl
theorem ev_left (x : Rc) (a : List Rc) : evL (x :: a) [] = ⟨9, x.id⟩ :: evL a [] := by rw [evL, sideL_left]; rfl
theorem ev_right (y : Rc) (b : List Rc) : evL [] (y :: b) = ⟨1, y.id⟩ :: evL [] b := by rw [evL, sideL_right]; rfl
theorem ev_lt {x y : Rc} (a b : List Rc) (h : x.id < y.id) : evL (x :: a) (y :: b) = ⟨9, x.id⟩ :: evL a (y :: b) := by rw [evL, sideL_both, if_pos h]; rfl
theorem ev_gt {x y : Rc} (a b : List Rc) (h : y.id < x.id) : evL (x :: a) (y :: b) = ⟨1, y.id⟩ :: evL (x :: a) b := by rw [evL, sideL_both, if_neg (by omega), if_pos h]; rfl
theorem ev_eq {x y : Rc} (a b : List Rc) (h : x.id = y.id) : evL (x :: a) (y :: b) = ofL x y ++ evL a b := by rw [evL, sideL_both, if_neg (by omega), if_neg (by omega)]; rfl
theorem ofL_len (x y : Rc) : (ofL x y).length ≤ 4 := by
  unfold ofL evI; repeat' split
  all_goals simp
theorem fEv_len (o p : Option Rc) : (fEv o p).length ≤ 4 := by
  rcases o with _ | x <;> rcases p with _ | y <;> simp [fEv]; exact ofL_len x y
theorem flat4 {β : Type} : ∀ (l : List (List β)), (∀ x ∈ l, x.length ≤ 4) → l.flatten.length ≤ 4 * l.length
  | [], _ => by simp
  | x :: l, h => by
    have h1 := h x (by simp); have h2 := flat4 l fun y hy => h y (by simp [hy])
    simp at h2 ⊢; omega
theorem ev_len (a b : List Rc) : (evL a b).length ≤ 4 * (a.length + b.length) := by
  have h1 := sideL_len (fun x y => some (fEv x y)) a b
  have h2 := flat4 (sideL (fun x y => some (fEv x y)) a b) (sideGo_all (f := fun x y => some (fEv x y)) (p := fun _ => True) (q := fun (l : List Ev) => l.length ≤ 4) (fun ox oy z _ _ h => by cases h; exact fEv_len _ _) _ a b (fun _ _ => trivial) (fun _ _ => trivial))
  unfold evL; omega
theorem ofL_nil {x y : Rc} (h : x.id = y.id) : ofL x y = [] ↔ x = y := by
  constructor
  · intro he
    unfold ofL evI at he
    simp only [List.append_eq_nil_iff] at he
    obtain ⟨⟨⟨h1, h2⟩, h3⟩, h4⟩ := he
    have e : ∀ {c : Bool} {k i : Int}, (if c = true then [(⟨k, i⟩ : Ev)] else []) = [] → c = false := fun {c k i} hh => by cases c with
      | false => rfl
      | true => simp at hh
    have g1 := of_decide_eq_false (e h1); have g2 := of_decide_eq_false (e h2); have g3 := of_decide_eq_false (e h3); have g4 := of_decide_eq_false (e h4)
    obtain ⟨i, n, s, p, c, g⟩ := x; obtain ⟨i', n', s', p', c', g'⟩ := y
    simp at g1 g2 g3 g4 h
    obtain ⟨g31, g32⟩ := g3
    subst g1; subst g2; subst g4; subst h; subst g31; subst g32; rfl
  · rintro rfl; simp [ofL, evI]
theorem ev_none : ∀ (n : Nat) (a b : List Rc) (s : Int), a.length + b.length ≤ n → incr s a → incr s b → (evL a b = [] ↔ a = b)
  | _, [], [], _, _, _, _ => by simp [ev_nil]
  | 0, _ :: _, _, _, h, _, _ => by simp at h
  | 0, [], _ :: _, _, h, _, _ => by simp at h
  | n + 1, x :: a, [], s, hn, ha, hb => by rw [ev_left]; simp
  | n + 1, [], y :: b, s, hn, ha, hb => by rw [ev_right]; simp
  | n + 1, x :: a, y :: b, s, hn, ha, hb => by
    simp only [List.length_cons] at hn
    rcases Int.lt_trichotomy x.id y.id with h | h | h
    · rw [ev_lt a b h]; simp; rintro rfl; omega
    · rw [ev_eq a b h, List.append_eq_nil_iff, ofL_nil h, ev_none n a b x.id (by omega) ha.2 (h ▸ hb.2)]; simp
    · rw [ev_gt a b h]; simp; rintro rfl; omega
theorem ev_same {a b : List Rc} (ha : srt a = true) (hb : srt b = true) : (evL a b = []) ↔ a = b := ev_none _ a b (-1) (Nat.le_refl _) (srt_incr ha).1 (srt_incr hb).1
/-- What the law looks for, of one kind and one id. -/
def happ (o p : Option Rc) (k : Int) : Bool := match o, p with
  | some a, some b => if 2 ≤ k ∧ k ≤ 4 then decide (a.st ≠ b.st ∧ b.st = k - 1) else if k = 5 then decide (a.st ≠ b.st ∧ b.st = 0) else if k = 6 then decide (a.sp ≠ b.sp) else if k = 7 then decide (a.cut ≠ b.cut ∨ a.bag ≠ b.bag) else decide (k = 8 ∧ a.inc ≠ b.inc)
  | some _, none => decide (k = 9)
  | none, some _ => decide (k = 1)
  | none, none => false
def happP (a b : List Rc) (id : Int) (k : Nat) : Bool := decide (1 ≤ k) && (decide (id < 5000) && happ (fnd a id) (fnd b id) (k : Int))
def happL (a b : List Rc) (id : Int) (k : Nat) : List Ev := ((List.range k).filter (happP a b id)).map fun (j : Nat) => (⟨(j : Int), id⟩ : Ev)
theorem happL_one (a b : List Rc) (id : Int) : happL a b id 1 = [] := by simp [happL, happP, List.range_succ]
theorem happL_yes {a b : List Rc} {id : Int} {k : Nat} (h1 : 1 ≤ k) (h2 : id < 5000) (h : happ (fnd a id) (fnd b id) (k : Int) = true) : happL a b id (k + 1) = happL a b id k ++ [⟨(k : Int), id⟩] := by
  unfold happL
  rw [List.range_succ, List.filter_append, List.map_append]
  simp [happP, h1, h2, h]
theorem happL_no {a b : List Rc} {id : Int} {k : Nat} (h : ¬ (id < 5000 ∧ happ (fnd a id) (fnd b id) (k : Int) = true)) : happL a b id (k + 1) = happL a b id k := by
  unfold happL
  rw [List.range_succ, List.filter_append, List.map_append]
  have : happP a b id k = false := by
    unfold happP
    rcases Decidable.em (id < 5000) with g | g
    · have : happ (fnd a id) (fnd b id) (k : Int) = false := by
        cases hh : happ (fnd a id) (fnd b id) (k : Int) with
        | false => rfl
        | true => exact absurd ⟨g, hh⟩ h
      rw [this]; simp
    · rw [decide_eq_false g]; simp
  simp [this]
theorem happL_all {a b : List Rc} {id : Int} (h : id < 5000) (hv : ∀ y, fnd b id = some y → 0 ≤ y.st ∧ y.st ≤ 3) : happL a b id 10 = fEv (fnd a id) (fnd b id) := by
  unfold happL
  cases ha : fnd a id with
  | none => cases hb : fnd b id with
    | none => simp [happP, happ, ha, hb, fEv, List.range_succ]
    | some y => simp [happP, happ, ha, hb, fEv, h, List.range_succ, fnd_id hb]
  | some x => cases hb : fnd b id with
    | none => simp [happP, happ, ha, hb, fEv, h, List.range_succ, fnd_id ha]
    | some y =>
      obtain ⟨h0, h3⟩ := hv y hb
      have hid := fnd_id ha
      have e : fEv (some x) (some y) = ofL x y := rfl
      rw [e, ofL, hid]
      have hs : y.st = 0 ∨ y.st = 1 ∨ y.st = 2 ∨ y.st = 3 := by omega
      by_cases c1 : x.st = y.st <;> by_cases c2 : x.sp = y.sp <;> by_cases c3 : (x.cut ≠ y.cut ∨ x.bag ≠ y.bag) <;> by_cases c4 : x.inc = y.inc <;> rcases hs with hs | hs | hs | hs <;> have c1' := c1 <;> rw [hs] at c1' <;> simp [happP, happ, ha, hb, h, List.range_succ, evI, turned, c1', c2, c3, c4, hs, List.filter_cons]
/-- The next id. -/
def nx (l : List Rc) (id m : Int) : Int := l.foldl (fun m r => if id < r.id ∧ r.id < m then r.id else m) m
theorem nx_snoc {l : List Rc} {k : Nat} {x : Rc} (hx : l[k]? = some x) (id m : Int) : nx (l.take (k + 1)) id m = if id < x.id ∧ x.id < nx (l.take k) id m then x.id else nx (l.take k) id m := by
  unfold nx; rw [List.take_add_one, hx, List.foldl_append]; rfl
theorem nx_same {id m : Int} : ∀ {l : List Rc}, (∀ r ∈ l, m ≤ r.id ∨ r.id ≤ id) → nx l id m = m
  | [], _ => rfl
  | x :: l, h => by
    have h1 := h x (by simp)
    show nx l id (if id < x.id ∧ x.id < m then x.id else m) = m
    rw [if_neg (by omega)]
    exact nx_same fun r hr => h r (by simp [hr])
def aft (l : List Rc) (id : Int) : List Rc := l.filter fun r => decide (id < r.id)
theorem aft_all {l : List Rc} {id : Int} (h : ∀ r ∈ l, id < r.id) : aft l id = l := List.filter_eq_self.2 fun r hr => by simpa using h r hr
def mn (l : List Rc) (m : Int) : Int := match l with
  | [] => m
  | r :: _ => if r.id < m then r.id else m
theorem nx_aft {id : Int} : ∀ {l : List Rc} {s m : Int}, incr s l → nx l id m = mn (aft l id) m
  | [], _, _, _ => rfl
  | x :: l, s, m, h => by
    have hlt := incr_lt h.2
    show nx l id (if id < x.id ∧ x.id < m then x.id else m) = _
    by_cases g : id < x.id
    · rw [show aft (x :: l) id = x :: aft l id from List.filter_cons_of_pos (by simpa using g)]
      unfold mn
      simp only
      by_cases g2 : x.id < m
      · rw [if_pos ⟨g, g2⟩, if_pos g2, nx_same fun r hr => by have := hlt r hr; omega]
      · rw [if_neg (by omega), if_neg g2, nx_same fun r hr => by have := hlt r hr; omega]
    · rw [show aft (x :: l) id = aft l id from List.filter_cons_of_neg (by simpa using g), if_neg (by omega)]
      exact nx_aft h.2
theorem aft_incr {id : Int} : ∀ {l : List Rc} {s : Int}, incr s l → incr id (aft l id)
  | [], _, _ => trivial
  | x :: l, s, h => by
    by_cases g : id < x.id
    · rw [aft, List.filter_cons_of_pos (by simpa using g)]
      refine ⟨g, ?_⟩
      have : aft l id = l := aft_all fun r hr => by have := incr_lt h.2 r hr; omega
      unfold aft at this; rw [this]; exact h.2
    · rw [aft, List.filter_cons_of_neg (by simpa using g)]; exact aft_incr h.2
theorem aft_aft {l : List Rc} {i j : Int} (h : i ≤ j) : aft (aft l i) j = aft l j := by
  unfold aft; rw [List.filter_filter]; refine List.filter_congr fun r _ => ?_
  by_cases g : j < r.id
  · simp [g]; omega
  · simp [g]
theorem aft_fnd {i j : Int} (h : i < j) : ∀ (l : List Rc), fnd (aft l i) j = fnd l j
  | [] => rfl
  | x :: l => by
    by_cases g : i < x.id
    · rw [show aft (x :: l) i = x :: aft l i from List.filter_cons_of_pos (by simpa using g), fnd_cons, fnd_cons, aft_fnd h l]
    · rw [show aft (x :: l) i = aft l i from List.filter_cons_of_neg (by simpa using g), fnd_cons, if_neg (by omega), aft_fnd h l]
theorem aft_cons_lt {x : Rc} {l : List Rc} {id : Int} (h : id < x.id) : aft (x :: l) id = x :: aft l id := List.filter_cons_of_pos (by simpa using h)
theorem aft_cons_ge {x : Rc} {l : List Rc} {id : Int} (h : x.id ≤ id) : aft (x :: l) id = aft l id := List.filter_cons_of_neg (by simp; omega)
/-- One round of the law's loop, over what is left. -/
theorem ev_round {A B : List Rc} {id n : Int} (hA : incr id A) (hB : incr id B) (ha : ∀ r ∈ A, r.id < 5000) (hb : ∀ r ∈ B, r.id < 5000) (hi : id ≤ 5000)
    (hn : n = mn B (mn A 5000)) :
    id ≤ n ∧ n ≤ 5000 ∧ (n < 5000 → id < n ∧ evL A B = fEv (fnd A n) (fnd B n) ++ evL (aft A n) (aft B n) ∧ (aft A n).length + (aft B n).length + 1 ≤ A.length + B.length) ∧ (¬ n < 5000 → A = [] ∧ B = []) := by
  unfold mn at hn
  have hall : ∀ {x : Rc} {l : List Rc}, incr x.id l → aft l x.id = l := fun {x l} h => aft_all fun r hr => incr_lt h r hr
  cases A with
  | nil => cases B with
    | nil => simp at hn; subst hn; simp; omega
    | cons y b =>
      have h1 := hb y (by simp); have h2 := hB.1
      simp [h1] at hn; subst hn
      refine ⟨by omega, by omega, fun _ => ⟨h2, ?_, ?_⟩, fun h => absurd h1 h⟩
      · rw [fnd_cons, if_pos rfl, aft_cons_ge (Int.le_refl _), hall hB.2, ev_right]; rfl
      · rw [aft_cons_ge (Int.le_refl _), hall hB.2]; simp [aft]
  | cons x a =>
    have g1 := ha x (by simp); have g2 := hA.1
    cases B with
    | nil =>
      simp [g1] at hn; subst hn
      refine ⟨by omega, by omega, fun _ => ⟨g2, ?_, ?_⟩, fun h => absurd g1 h⟩
      · rw [fnd_cons, if_pos rfl, aft_cons_ge (Int.le_refl _), hall hA.2, ev_left]; rfl
      · rw [aft_cons_ge (Int.le_refl _), hall hA.2]; simp [aft]
    | cons y b =>
      have h1 := hb y (by simp); have h2 := hB.1
      simp only [if_pos g1] at hn
      rcases Int.lt_trichotomy x.id y.id with h | h | h
      · rw [if_neg (by omega)] at hn; subst hn
        have hy : aft (y :: b) x.id = y :: b := aft_all fun r hr => incr_lt (l := y :: b) ⟨h, hB.2⟩ r hr
        refine ⟨by omega, by omega, fun _ => ⟨g2, ?_, ?_⟩, fun h => absurd g1 h⟩
        · rw [fnd_cons, if_pos rfl, fnd_none (l := y :: b) (s := x.id) ⟨h, hB.2⟩ (Int.le_refl _), aft_cons_ge (Int.le_refl _), hall hA.2, hy, ev_lt a b h]; rfl
        · rw [aft_cons_ge (Int.le_refl _), hall hA.2, hy]; simp; omega
      · rw [if_neg (by omega)] at hn; subst hn
        refine ⟨by omega, by omega, fun _ => ⟨g2, ?_, ?_⟩, fun h => absurd g1 h⟩
        · rw [fnd_cons, if_pos rfl, fnd_cons, if_pos h.symm, aft_cons_ge (Int.le_refl _), hall hA.2, aft_cons_ge (by omega), h, hall hB.2, ev_eq a b h]; rfl
        · rw [aft_cons_ge (Int.le_refl _), hall hA.2, aft_cons_ge (by omega), h, hall hB.2]; simp; omega
      · rw [if_pos h] at hn; subst hn
        have hx : aft (x :: a) y.id = x :: a := aft_all fun r hr => incr_lt (l := x :: a) ⟨h, hA.2⟩ r hr
        refine ⟨by omega, by omega, fun _ => ⟨h2, ?_, ?_⟩, fun h => absurd h1 h⟩
        · rw [fnd_cons (x := y), if_pos rfl, fnd_none (l := x :: a) (s := y.id) ⟨h, hA.2⟩ (Int.le_refl _), aft_cons_ge (x := y) (Int.le_refl _), hall hB.2, hx, ev_gt a b h]; rfl
        · rw [aft_cons_ge (x := y) (Int.le_refl _), hall hB.2, hx]; simp; omega
def nx2 (a b : List Rc) (id : Int) : Int := nx b id (nx a id 5000)
/-- What holds from round to round of the law's own list. -/
def EvSt (a b : List Rc) (n : Nat) (id : Int) (acc : List Ev) : Prop := -1 ≤ id ∧ id ≤ 5000 ∧ acc ++ evL (aft a id) (aft b id) = evL a b ∧ ((aft a id).length + (aft b id).length + n ≤ a.length + b.length ∨ (aft a id = [] ∧ aft b id = []))
theorem evSt_start {a b : List Rc} (ha : srt a = true) (hb : srt b = true) : EvSt a b 0 (-1) [] := by
  have h1 : aft a (-1) = a := aft_all fun r hr => incr_lt (srt_incr ha).1 r hr
  have h2 : aft b (-1) = b := aft_all fun r hr => incr_lt (srt_incr hb).1 r hr
  exact ⟨by omega, by omega, by rw [h1, h2]; rfl, by rw [h1, h2]; left; omega⟩
theorem srt_ids {a : List Rc} (ha : srt a = true) : ∀ r ∈ a, 0 ≤ r.id ∧ r.id ≤ 4095 ∧ 0 ≤ r.st ∧ r.st ≤ 3 := fun r hr => by
  have := (srt_incr ha).2 r hr
  simp [recValid] at this
  omega
theorem evSt_next {a b : List Rc} (ha : srt a = true) (hb : srt b = true) {n : Nat} {id : Int} {acc : List Ev} (h : EvSt a b n id acc) : EvSt a b (n + 1) (nx2 a b id) (acc ++ happL a b (nx2 a b id) 10) := by
  obtain ⟨h0, h5, he, hl⟩ := h
  have hid : ∀ {l : List Rc}, srt l = true → ∀ r ∈ aft l id, r.id < 5000 := fun {l} hl r hr => by
    have := srt_ids hl r (List.mem_filter.1 hr).1; omega
  obtain ⟨g1, g2, g3, g4⟩ := ev_round (n := nx2 a b id) (aft_incr (srt_incr ha).1) (aft_incr (srt_incr hb).1) (hid ha) (hid hb) h5 (by rw [nx2, nx_aft (srt_incr hb).1, nx_aft (srt_incr ha).1])
  by_cases c : nx2 a b id < 5000
  · obtain ⟨k1, k2, k3⟩ := g3 c
    rw [aft_aft (by omega), aft_aft (by omega), aft_fnd k1, aft_fnd k1] at k2
    rw [aft_aft (by omega), aft_aft (by omega)] at k3
    refine ⟨by omega, g2, ?_, ?_⟩
    · rw [happL_all c fun y hy => ?_, List.append_assoc, ← k2, he]
      have := srt_ids hb y (List.mem_of_find?_eq_some hy); omega
    · rcases hl with hl | ⟨e1, e2⟩
      · left; omega
      · rw [e1, e2] at k3; simp at k3
  · obtain ⟨e1, e2⟩ := g4 c
    have f1 : aft a (nx2 a b id) = [] := by rw [← aft_aft (l := a) g1, e1]; rfl
    have f2 : aft b (nx2 a b id) = [] := by rw [← aft_aft (l := b) g1, e2]; rfl
    have hh : happL a b (nx2 a b id) 10 = [] := by simp [happL, happP, c]
    refine ⟨by omega, g2, ?_, .inr ⟨f1, f2⟩⟩
    rw [hh, List.append_nil, f1, f2, ← he, e1, e2]
theorem evSt_end {a b : List Rc} {id : Int} {acc : List Ev} (h : EvSt a b (a.length + b.length) id acc) : acc = evL a b := by
  obtain ⟨h0, h5, he, hl⟩ := h
  have : aft a id = [] ∧ aft b id = [] := by
    rcases hl with hl | hl
    · exact ⟨List.eq_nil_of_length_eq_zero (by omega), List.eq_nil_of_length_eq_zero (by omega)⟩
    · exact hl
  rw [this.1, this.2, ev_nil, List.append_nil] at he; exact he
theorem nx_lo {id m : Int} : ∀ {l : List Rc}, id ≤ m → id ≤ nx l id m
  | [], h => h
  | x :: l, h => by
    show id ≤ nx l id (if id < x.id ∧ x.id < m then x.id else m)
    split
    · exact nx_lo (by omega)
    · exact nx_lo h
theorem nx_hi {id m : Int} : ∀ {l : List Rc}, nx l id m ≤ m
  | [] => Int.le_refl _
  | x :: l => by
    show nx l id (if id < x.id ∧ x.id < m then x.id else m) ≤ m
    split
    · exact Int.le_trans nx_hi (by omega)
    · exact nx_hi
end Go.Proofs.Ytgipbhfblmblcaa

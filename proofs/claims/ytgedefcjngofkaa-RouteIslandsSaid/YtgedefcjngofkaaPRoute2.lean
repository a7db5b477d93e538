/- Plain: how two walks find how far each place is. -/
import Derived.Test.YtgedefcjngofkaaPRoute
set_option linter.unusedVariables false
namespace Go.Proofs.Ytgedefcjngofkaa
open Go Go.Proofs.Ytgedefcjngofkaa.AM
theorem range_get {β : Type} {N k : Nat} (g : Nat → β) (h : k < N) : ((List.range N).map g)[k]? = some (g k) := by
  rw [List.getElem?_map, List.getElem?_range h]; rfl
theorem range_set {β : Type} {N k : Nat} (g : Nat → β) (v : β) (h : k < N) : ((List.range N).map g).set k v = (List.range N).map fun j => if j = k then v else g j := by
  refine List.ext_getElem? fun j => ?_
  rw [List.getElem?_set]
  rcases Nat.lt_or_ge j N with hj | hj
  · rw [range_get g hj, range_get (fun j => if j = k then v else g j) hj]
    by_cases e : k = j
    · subst e; rw [if_pos rfl, if_pos (by simpa using h), if_pos rfl]
    · rw [if_neg e, if_neg (Ne.symm e)]
  · have e1 : ((List.range N).map fun j => if j = k then v else g j)[j]? = none := List.getElem?_eq_none (by simpa using hj)
    have e2 : ((List.range N).map g)[j]? = none := List.getElem?_eq_none (by simpa using hj)
    rw [e1, e2, if_neg (by omega)]
theorem range_congr {β : Type} {N : Nat} {g h : Nat → β} (e : ∀ k, k < N → g k = h k) : (List.range N).map g = (List.range N).map h :=
  List.map_congr_left fun k hk => e k (List.mem_range.1 hk)
theorem flat_snoc {α : Type} {ls : List (List α)} {k : Nat} {m : List α} (h : ls[k]? = some m) : (ls.take (k + 1)).flatten = (ls.take k).flatten ++ m := by
  rw [List.take_add_one, h, List.flatten_append]; simp
theorem flat_len_le {α : Type} : ∀ {ls : List (List α)} {k : Nat} {m : List α}, ls[k]? = some m → (ls.take k).flatten.length + m.length ≤ ls.flatten.length
  | [], _, _, h => by simp at h
  | x :: ls, 0, m, h => by simp at h; subst h; simp
  | x :: ls, k + 1, m, h => by
    have := flat_len_le (ls := ls) (k := k) (by simpa using h)
    simp only [List.take_succ_cons, List.flatten_cons, List.length_append]; omega
section
variable (A : Nat → Nat → Bool) (N f : Nat)
/-! the law's walk: round by round over all pairs -/
structure Mid (r i0 k0 : Nat) (d : Nat → Int) : Prop where
  a : ∀ k, k < N → d k = 1000 ∨ (0 ≤ d k ∧ d k < 1000 ∧ 0 ≤ dist A N f k ∧ dist A N f k ≤ d k)
  b : ∀ k, k < N → 0 ≤ dv A N f r k → d k ≤ dv A N f r k
  c : ∀ i k, (i < i0 ∨ (i = i0 ∧ k < k0)) → i < N → k < N → A i k = true → dv A N f r i = (r : Int) → d k ≤ (r : Int) + 1
variable {A N f}
theorem mid_zero (hf : f < N) : Mid A N f 0 0 0 (fun k => if k = f then 0 else 1000) where
  a := fun k hk => by
    by_cases h : k = f
    · subst h; right; simp only [↓reduceIte]; rw [dist_self A N k hk]; simp
    · left; simp [h]
  b := fun k hk h => by
    simp only [dv] at h ⊢
    by_cases e : k = f
    · simp [e]
    · simp [e] at h
  c := fun i k h => by omega
theorem mid_miss {r i k : Nat} {d : Nat → Int} (h : Mid A N f r i k d) (hi : i < N) (hk : k < N) (hN : N ≤ 100) (hno : ¬ (d i + 1 < d k ∧ A i k = true)) : Mid A N f r i (k + 1) d where
  a := h.a
  b := h.b
  c := fun i' k' hik hi' hk' ha hd => by
    rcases hik with g | ⟨rfl, g⟩
    · exact h.c i' k' (.inl g) hi' hk' ha hd
    · rcases Nat.lt_or_ge k' k with g' | g'
      · exact h.c i' k' (.inr ⟨rfl, g'⟩) hi' hk' ha hd
      · obtain rfl : k' = k := by omega
        have := h.b i' hi' (by omega)
        have : ¬ d i' + 1 < d k' := fun h' => hno ⟨h', ha⟩
        omega
theorem mid_hit {r i k : Nat} {d : Nat → Int} (h : Mid A N f r i k d) (hf : f < N) (hi : i < N) (hk : k < N) (h1 : d i + 1 < d k) (h2 : A i k = true) : Mid A N f r i (k + 1) (fun j => if j = k then d i + 1 else d j) where
  a := fun j hj => by
    by_cases e : j = k
    · subst e
      simp only [↓reduceIte]
      have hk' := h.a j hj
      rcases h.a i hi with g | ⟨g1, g2, g3, g4⟩
      · omega
      · right
        have := dist_edge A N f hf hi hj g3 h2
        omega
    · simp only [e, ↓reduceIte]; exact h.a j hj
  b := fun j hj hd => by
    have := h.b j hj hd
    by_cases e : j = k
    · subst e; simp only [↓reduceIte]; omega
    · simp only [e, ↓reduceIte]; exact this
  c := fun i' k' hik hi' hk' ha hd => by
    by_cases e : k' = k
    · subst e
      simp only [↓reduceIte]
      rcases hik with g | ⟨rfl, g⟩
      · have := h.c i' k' (.inl g) hi' hk' ha hd; omega
      · have := h.b i' hi' (by omega); omega
    · simp only [e, ↓reduceIte]
      rcases hik with g | ⟨rfl, g⟩
      · exact h.c i' k' (.inl g) hi' hk' ha hd
      · exact h.c i' k' (.inr ⟨rfl, by omega⟩) hi' hk' ha hd
theorem mid_next {r i : Nat} {d : Nat → Int} (h : Mid A N f r i N d) : Mid A N f r (i + 1) 0 d where
  a := h.a
  b := h.b
  c := fun i' k' hik hi' hk' ha hd => h.c i' k' (by omega) hi' hk' ha hd
theorem mid_round {r : Nat} {d : Nat → Int} (h : Mid A N f r N 0 d) : Mid A N f (r + 1) 0 0 d where
  a := h.a
  b := fun k hk hd => by
    by_cases g : 0 ≤ dv A N f r k
    · rw [dv_keep A N f g (r + 1) (by omega)]; exact h.b k hk g
    · have hd2 := hd
      simp only [dv] at hd hd2 ⊢
      split at hd
      · rename_i hc
        rw [if_pos hc]
        obtain ⟨i, hi, h2⟩ := List.any_eq_true.1 hc.2
        simp only [Bool.and_eq_true, decide_eq_true_eq] at h2
        exact h.c i k (.inl (List.mem_range.1 hi)) (List.mem_range.1 hi) hk h2.2 h2.1
      · omega
  c := fun i k h => by omega
theorem mid_end {d : Nat → Int} (hN : N ≤ 100) (h : Mid A N f N 0 0 d) : ∀ k, k < N → d k = if 0 ≤ dist A N f k then dist A N f k else 1000 := fun k hk => by
  have h1 := h.a k hk
  have h2 := h.b k hk
  by_cases g : 0 ≤ dist A N f k
  · rw [if_pos g]
    have := h2 g
    unfold dist at *
    have := dv_rng A N f N k
    have hf : dist A N f k < 1000 ∨ 1000 ≤ dist A N f k := by omega
    unfold dist at hf
    omega
  · rw [if_neg g]; omega
/-! the program's walk: row by row -/
def nearF (A : Nat → Nat → Bool) (i : Nat) (F : Nat → Int) (k : Nat) : Int := if F k < 0 ∧ A i k = true then F i + 1 else F k
def nearP (A : Nat → Nat → Bool) (i : Nat) (F : Nat → Int) (k : Nat) : Bool := decide (F k < 0) && A i k
def negs (N : Nat) (F : Nat → Int) : Nat := ((List.range N).filter fun k => decide (F k < 0)).length
theorem filter_part {α : Type} (p q : α → Bool) : ∀ l : List α, (l.filter fun x => p x && q x).length + (l.filter fun x => p x && !q x).length = (l.filter p).length
  | [] => rfl
  | a :: l => by
    have ih := filter_part p q l
    simp only [List.filter_cons]
    cases hp : p a <;> cases hq : q a <;> simp [hp, hq] at ih ⊢ <;> omega
theorem near_negs {i : Nat} {F : Nat → Int} (hi : 0 ≤ F i) : ((List.range N).filter (nearP A i F)).length + negs N (nearF A i F) = negs N F := by
  unfold negs
  rw [← filter_part (fun k => decide (F k < 0)) (fun k => A i k)]
  have e1 : (List.range N).filter (nearP A i F) = (List.range N).filter fun x => decide (F x < 0) && A i x := rfl
  have e2 : (List.range N).filter (fun k => decide (nearF A i F k < 0)) = (List.range N).filter fun x => decide (F x < 0) && !A i x := by
    refine List.filter_congr fun k _ => ?_
    unfold nearF
    by_cases h : F k < 0 ∧ A i k = true
    · rw [if_pos h]; simp [h.2]; omega
    · rw [if_neg h]
      by_cases h2 : F k < 0
      · have : A i k = false := by
          cases ha : A i k with
          | false => rfl
          | true => exact absurd ⟨h2, ha⟩ h
        simp [this]
      · simp [h2]
  rw [e1, e2]
/-- Behind a part of a row. -/
def midF (A : Nat → Nat → Bool) (N f n : Nat) (p : List Nat) (k : Nat) : Int := if 0 ≤ dv A N f n k then dv A N f n k else if p.any (fun i => A i k) = true then (n : Int) + 1 else -1
theorem mid_nil (n k : Nat) : midF A N f n [] k = dv A N f n k := by
  unfold midF
  have := dv_rng A N f n k
  split
  · rfl
  · simp; omega
theorem mid_near {n i : Nat} {p : List Nat} (hi : dv A N f n i = (n : Int)) (k : Nat) : nearF A i (midF A N f n p) k = midF A N f n (p ++ [i]) k := by
  have hi' : midF A N f n p i = (n : Int) := by unfold midF; rw [if_pos (by omega), hi]
  unfold nearF
  rw [hi']
  unfold midF
  by_cases h : 0 ≤ dv A N f n k
  · rw [if_pos h, if_pos h, if_neg (fun h' => by omega)]
  · rw [if_neg h, if_neg h, List.any_append]
    by_cases hp : (p.any fun i => A i k) = true
    · rw [if_pos hp, hp, if_neg (fun h' => by omega)]; simp
    · rw [if_neg hp]
      have hp' : (p.any fun i => A i k) = false := by simpa using hp
      rw [hp', Bool.false_or]
      by_cases ha : A i k = true
      · rw [if_pos ⟨by omega, ha⟩, if_pos (by simpa using ha)]
      · rw [if_neg (fun h' => ha h'.2), if_neg (by simpa using ha)]
theorem mid_row {n : Nat} {row : List Nat} (hr : ∀ i, i ∈ row ↔ (i < N ∧ dv A N f n i = (n : Int))) (k : Nat) : midF A N f n row k = dv A N f (n + 1) k := by
  have := dv_rng A N f n k
  unfold midF
  simp only [dv]
  by_cases h : 0 ≤ dv A N f n k
  · rw [if_pos h, if_neg (fun h' => by omega)]
  · rw [if_neg h]
    by_cases ha : (row.any fun i => A i k) = true
    · rw [if_pos ha]
      obtain ⟨i, hi, h2⟩ := List.any_eq_true.1 ha
      obtain ⟨h3, h4⟩ := (hr i).1 hi
      rw [if_pos ⟨by omega, List.any_eq_true.2 ⟨i, List.mem_range.2 h3, by simp [h4, h2]⟩⟩]
    · rw [if_neg ha, if_neg]
      · omega
      · rintro ⟨_, h'⟩
        obtain ⟨i, hi, h2⟩ := List.any_eq_true.1 h'
        simp only [Bool.and_eq_true, decide_eq_true_eq] at h2
        exact ha (List.any_eq_true.2 ⟨i, (hr i).2 ⟨List.mem_range.1 hi, h2.1⟩, h2.2⟩)
/-- What is next, behind a part of a row. -/
def NextOk (A : Nat → Nat → Bool) (N f n : Nat) (p nx : List Nat) : Prop := ∀ k, k ∈ nx ↔ (k < N ∧ dv A N f n k < 0 ∧ (p.any fun i => A i k) = true)
theorem next_nil (n : Nat) : NextOk A N f n [] [] := fun k => by simp
theorem next_near {n i : Nat} {p nx : List Nat} (hi : dv A N f n i = (n : Int)) (h : NextOk A N f n p nx) : NextOk A N f n (p ++ [i]) (nx ++ (List.range N).filter (nearP A i (midF A N f n p))) := fun k => by
  rw [List.mem_append, h k, List.mem_filter, List.mem_range, nearP, List.any_append, midF]
  have := dv_rng A N f n k
  constructor
  · rintro (⟨h1, h2, h3⟩ | ⟨h1, h2⟩)
    · exact ⟨h1, h2, by rw [h3]; rfl⟩
    · simp only [Bool.and_eq_true, decide_eq_true_eq] at h2
      have h4 : dv A N f n k < 0 := by
        have := h2.1
        split at this
        · omega
        · omega
      exact ⟨h1, h4, by simp [h2.2]⟩
  · rintro ⟨h1, h2, h3⟩
    by_cases hp : (p.any fun i => A i k) = true
    · exact .inl ⟨h1, h2, hp⟩
    · right
      have hp' : (p.any fun i => A i k) = false := by simpa using hp
      rw [hp', Bool.false_or] at h3
      refine ⟨h1, ?_⟩
      rw [if_neg (by omega), if_neg hp]
      simpa using h3
theorem next_row {n : Nat} {row nx : List Nat} (hr : ∀ i, i ∈ row ↔ (i < N ∧ dv A N f n i = (n : Int))) (h : NextOk A N f n row nx) : ∀ k, k ∈ nx ↔ (k < N ∧ dv A N f (n + 1) k = ((n + 1 : Nat) : Int)) := fun k => by
  rw [h k]
  have hm := mid_row hr k
  have := dv_rng A N f n k
  unfold midF at hm
  constructor
  · rintro ⟨h1, h2, h3⟩
    rw [if_neg (by omega), if_pos h3] at hm
    exact ⟨h1, by rw [← hm]; push_cast; rfl⟩
  · rintro ⟨h1, h2⟩
    by_cases g : 0 ≤ dv A N f n k
    · rw [if_pos g] at hm; push_cast at h2; omega
    · rw [if_neg g] at hm
      refine ⟨h1, by omega, ?_⟩
      by_cases ha : (row.any fun i => A i k) = true
      · exact ha
      · rw [if_neg ha] at hm; push_cast at h2; omega
theorem near_hit {i k : Nat} {F : Nat → Int} {R : List Int} (hR : R = (List.range N).map fun j => if j < k then nearF A i F j else F j) (hk : k < N) (h : nearP A i F k = true) : R.set k (F i + 1) = (List.range N).map fun j => if j < k + 1 then nearF A i F j else F j := by
  rw [hR, range_set _ _ hk]
  refine range_congr fun j hj => ?_
  by_cases e : j = k
  · subst e
    rw [if_pos rfl, if_pos (by omega), nearF, if_pos (by simpa [nearP] using h)]
  · rw [if_neg e]
    by_cases g : j < k
    · rw [if_pos g, if_pos (by omega)]
    · rw [if_neg g, if_neg (by omega)]
theorem near_miss {i k : Nat} {F : Nat → Int} {R : List Int} (hR : R = (List.range N).map fun j => if j < k then nearF A i F j else F j) (hk : k < N) (h : nearP A i F k = false) : R = (List.range N).map fun j => if j < k + 1 then nearF A i F j else F j := by
  rw [hR]
  refine range_congr fun j hj => ?_
  by_cases e : j = k
  · subst e
    rw [if_neg (by omega), if_pos (by omega), nearF, if_neg]
    rintro ⟨h1, h2⟩
    rw [nearP, h2, decide_eq_true h1] at h; cases h
  · by_cases g : j < k
    · rw [if_pos g, if_pos (by omega)]
    · rw [if_neg g, if_neg (by omega)]
theorem row_zero (hf : f < N) : ∀ i, i ∈ [f] ↔ (i < N ∧ dv A N f 0 i = ((0 : Nat) : Int)) := fun i => by
  simp only [List.mem_singleton, dv]
  constructor
  · rintro rfl; exact ⟨hf, by simp⟩
  · rintro ⟨_, h⟩
    by_cases e : i = f
    · exact e
    · rw [if_neg e] at h; simp at h
theorem rows_end {n : Nat} (hf : f < N) (hr : ∀ i, i ∈ ([] : List Nat) ↔ (i < N ∧ dv A N f n i = (n : Int))) {k : Nat} (hk : k < N) : dv A N f n k = dist A N f k := by
  have he : ∀ i, i < N → dv A N f n i ≠ (n : Int) := fun i hi e => by have := (hr i).2 ⟨hi, e⟩; cases this
  have h1 := dv_empty A N f he (max n N) (by omega) k
  have h2 := dv_final A N f (n := max n N) hf hk (by omega)
  unfold dist; omega
end
end Go.Proofs.Ytgedefcjngofkaa

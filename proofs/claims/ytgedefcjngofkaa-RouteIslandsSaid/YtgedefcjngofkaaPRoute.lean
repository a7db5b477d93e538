/- Plain: how far each place is from a place. -/
import Derived.Test.YtgedefcjngofkaaPPlan2
set_option linter.unusedVariables false
namespace Go.Proofs.Ytgedefcjngofkaa
open Go Go.Proofs.Ytgedefcjngofkaa.AM
section
variable (A : Nat → Nat → Bool) (N f : Nat)
/-- How many hops each place is from f, as far as n hops go; -1: it was not reached. -/
def dv : Nat → Nat → Int
  | 0, k => if k = f then 0 else -1
  | n + 1, k => if dv n k < 0 ∧ ((List.range N).any fun i => decide (dv n i = (n : Int)) && A i k) = true then (n : Int) + 1 else dv n k
theorem dv_rng : ∀ n k, -1 ≤ dv A N f n k ∧ dv A N f n k ≤ n
  | 0, k => by simp only [dv]; split <;> simp
  | n + 1, k => by
    have := dv_rng n k
    simp only [dv]; split <;> omega
theorem dv_keep {n k : Nat} (h : 0 ≤ dv A N f n k) : ∀ m, n ≤ m → dv A N f m k = dv A N f n k
  | 0, hm => by obtain rfl : n = 0 := by omega
                rfl
  | m + 1, hm => by
    rcases Nat.lt_or_ge m n with g | g
    · obtain rfl : n = m + 1 := by omega
      rfl
    · have ih := dv_keep h m g
      simp only [dv]
      rw [if_neg (by omega), ih]
/-- Found at its own level. -/
theorem dv_own : ∀ {n k m : Nat}, dv A N f n k = (m : Int) → dv A N f m k = (m : Int)
  | 0, k, m, h => by
    have := dv_rng A N f 0 k
    have : m = 0 := by omega
    subst this; exact h
  | n + 1, k, m, h => by
    by_cases hc : dv A N f n k < 0 ∧ ((List.range N).any fun i => decide (dv A N f n i = (n : Int)) && A i k) = true
    · have h2 := h
      simp only [dv] at h2
      rw [if_pos hc] at h2
      have : m = n + 1 := by omega
      subst this; exact h
    · simp only [dv] at h
      rw [if_neg hc] at h
      exact dv_own h
theorem dv_edge {n i k m : Nat} (hi : i < N) (h : dv A N f n i = (m : Int)) (ha : A i k = true) : 0 ≤ dv A N f (m + 1) k ∧ dv A N f (m + 1) k ≤ (m : Int) + 1 := by
  have hm := dv_own A N f h
  have hr := dv_rng A N f m k
  by_cases hk : dv A N f m k < 0
  · simp only [dv]
    rw [if_pos ⟨hk, List.any_eq_true.2 ⟨i, List.mem_range.2 hi, by simp [hm, ha]⟩⟩]
    omega
  · simp only [dv]
    rw [if_neg (fun h' => hk h'.1)]
    omega
theorem dv_back {n k m : Nat} (h : dv A N f n k = ((m + 1 : Nat) : Int)) : ∃ i, i < N ∧ dv A N f m i = (m : Int) ∧ A i k = true := by
  have h1 := dv_own A N f h
  have hr := dv_rng A N f m k
  simp only [dv] at h1
  split at h1
  · rename_i hc
    obtain ⟨i, hi, h2⟩ := List.any_eq_true.1 hc.2
    simp only [Bool.and_eq_true, decide_eq_true_eq] at h2
    exact ⟨i, List.mem_range.1 hi, h2⟩
  · omega
theorem dv_zero {n k : Nat} (h : dv A N f n k = 0) : k = f := by
  have := dv_own A N f (m := 0) h
  simp only [dv] at this
  split at this
  · assumption
  · omega
/-- How many were reached. -/
def seenN (n : Nat) : Nat := ((List.range N).filter fun k => decide (0 ≤ dv A N f n k)).length
theorem filter_more {α : Type} {p q : α → Bool} : ∀ {l : List α}, (∀ x ∈ l, p x = true → q x = true) → (l.filter p).length ≤ (l.filter q).length ∧ ((∃ x ∈ l, p x = false ∧ q x = true) → (l.filter p).length < (l.filter q).length)
  | [], _ => ⟨Nat.le_refl _, fun ⟨x, hx, _⟩ => by cases hx⟩
  | a :: l, h => by
    obtain ⟨h1, h2⟩ := filter_more (l := l) (p := p) (q := q) fun x hx => h x (List.mem_cons_of_mem _ hx)
    have ha := h a List.mem_cons_self
    rw [List.filter_cons, List.filter_cons]
    by_cases hp : p a = true
    · rw [if_pos hp, if_pos (ha hp)]
      refine ⟨by simp; omega, fun ⟨x, hx, hpx, hqx⟩ => ?_⟩
      rcases List.mem_cons.1 hx with rfl | hx
      · rw [hp] at hpx; cases hpx
      · have := h2 ⟨x, hx, hpx, hqx⟩; simp; omega
    · rw [if_neg hp]
      by_cases hq : q a = true
      · rw [if_pos hq]
        exact ⟨by simp; omega, fun _ => by simp; omega⟩
      · rw [if_neg hq]
        refine ⟨h1, fun ⟨x, hx, hpx, hqx⟩ => ?_⟩
        rcases List.mem_cons.1 hx with rfl | hx
        · exact absurd hqx hq
        · exact h2 ⟨x, hx, hpx, hqx⟩
theorem seen_grow : ∀ (n k : Nat), f < N → k < N → dv A N f n k = (n : Int) → n + 1 ≤ seenN A N f n
  | 0, k, hf, hk, h => by
    unfold seenN
    have : f ∈ (List.range N).filter fun k => decide (0 ≤ dv A N f 0 k) := List.mem_filter.2 ⟨List.mem_range.2 hf, by simp [dv]⟩
    have := List.length_pos_of_mem this
    omega
  | n + 1, k, hf, hk, h => by
    obtain ⟨i, hi, h1, h2⟩ := dv_back A N f h
    have ih := seen_grow n i hf hi h1
    have h3 : dv A N f n k < 0 := by
      by_cases hc : dv A N f n k < 0
      · exact hc
      · have := dv_keep A N f (n := n) (k := k) (by omega) (n + 1) (by omega)
        have := dv_rng A N f n k
        omega
    have := (filter_more (l := List.range N) (p := fun k => decide (0 ≤ dv A N f n k)) (q := fun k => decide (0 ≤ dv A N f (n + 1) k)) (fun x _ hx => by
      simp only [decide_eq_true_eq] at hx ⊢
      rw [dv_keep A N f hx (n + 1) (by omega)]; exact hx)).2 ⟨k, List.mem_range.2 hk, by simpa using h3, by rw [h]; simp; omega⟩
    unfold seenN at *
    omega
theorem dv_small {n k m : Nat} (hf : f < N) (hk : k < N) (h : dv A N f n k = (m : Int)) : m < N := by
  have h1 := seen_grow A N f m k hf hk (dv_own A N f h)
  have h2 : seenN A N f m ≤ N := by
    unfold seenN
    have := List.length_filter_le (fun k => decide (0 ≤ dv A N f m k)) (List.range N)
    rw [List.length_range] at this; exact this
  omega
/-- What is reached at all is reached in N hops. -/
theorem dv_final {n k : Nat} (hf : f < N) (hk : k < N) (hn : N ≤ n) : dv A N f n k = dv A N f N k := by
  by_cases h : 0 ≤ dv A N f N k
  · exact dv_keep A N f h n hn
  · by_cases h2 : 0 ≤ dv A N f n k
    · obtain ⟨m, hm⟩ := Int.eq_ofNat_of_zero_le h2
      have h3 := dv_small A N f hf hk hm
      have h4 := dv_own A N f hm
      have := dv_keep A N f (n := m) (k := k) (by omega) N (by omega)
      omega
    · have := dv_rng A N f n k
      have := dv_rng A N f N k
      omega
/-- If nobody is at a level, nobody is behind it. -/
theorem dv_empty {n : Nat} (h : ∀ i, i < N → dv A N f n i ≠ (n : Int)) : ∀ m, n ≤ m → ∀ k, dv A N f m k = dv A N f n k
  | 0, hm, k => by obtain rfl : n = 0 := by omega
                   rfl
  | m + 1, hm, k => by
    rcases Nat.lt_or_ge m n with g | g
    · obtain rfl : n = m + 1 := by omega
      rfl
    · have ih := dv_empty h m g
      have : dv A N f (m + 1) k = dv A N f m k := by
        simp only [dv]
        refine if_neg fun hc => ?_
        obtain ⟨i, hi, h2⟩ := List.any_eq_true.1 hc.2
        simp only [Bool.and_eq_true, decide_eq_true_eq] at h2
        rw [ih i] at h2
        have := dv_rng A N f n i
        have : m = n := by omega
        subst this
        exact h i (List.mem_range.1 hi) h2.1
      rw [this, ih k]
/-- All of it. -/
def dist (k : Nat) : Int := dv A N f N k
theorem dist_edge {i k : Nat} (hf : f < N) (hi : i < N) (hk : k < N) (h : 0 ≤ dist A N f i) (ha : A i k = true) : 0 ≤ dist A N f k ∧ dist A N f k ≤ dist A N f i + 1 := by
  unfold dist at *
  obtain ⟨m, hm⟩ := Int.eq_ofNat_of_zero_le h
  have h1 := dv_edge A N f hi hm ha
  have h2 := dv_small A N f hf hi hm
  have h3 := dv_keep A N f (n := m + 1) (k := k) h1.1 N (by omega)
  omega
theorem dist_back {k : Nat} (hf : f < N) (hk : k < N) (h : 0 < dist A N f k) : ∃ i, i < N ∧ dist A N f i = dist A N f k - 1 ∧ A i k = true := by
  unfold dist at *
  obtain ⟨m, hm⟩ := Int.eq_ofNat_of_zero_le (show 0 ≤ dv A N f N k - 1 by omega)
  obtain ⟨i, hi, h1, h2⟩ := dv_back A N f (n := N) (k := k) (m := m) (by push_cast; omega)
  have h3 := dv_small A N f hf hk (n := N) (m := m + 1) (by push_cast; omega)
  refine ⟨i, hi, ?_, h2⟩
  rw [dv_keep A N f (n := m) (k := i) (by omega) N (by omega), h1]; omega
theorem dist_zero {k : Nat} (h : dist A N f k = 0) : k = f := dv_zero A N f h
theorem dist_self (hf : f < N) : dist A N f f = 0 := by
  unfold dist
  rw [dv_keep A N f (n := 0) (k := f) (by simp [dv]) N (Nat.zero_le _)]
  simp [dv]
theorem dist_lt {k : Nat} (hf : f < N) (hk : k < N) : dist A N f k < N := by
  unfold dist
  by_cases h : 0 ≤ dv A N f N k
  · obtain ⟨m, hm⟩ := Int.eq_ofNat_of_zero_le h
    have := dv_small A N f hf hk hm
    omega
  · omega
end
end Go.Proofs.Ytgedefcjngofkaa

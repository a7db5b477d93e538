/- Plain: maps as lists of keys and values; what is collected of them. -/
import Derived.Test.YtgedefcjngofkaaPIns
import Derived.Test.YtgedefcjngofkaaPPeers
set_option linter.unusedVariables false
namespace Go.Proofs.Ytgedefcjngofkaa
open Go.Proofs.Ytgedefcjngofkaa.AM
section
variable {α : Type}
theorem pput_keys : ∀ (m : List (Int × α)) (n : Int) (v : α), (pput m n v).map (·.1) = if (pget m n).isSome then m.map (·.1) else m.map (·.1) ++ [n]
  | [], _, _ => rfl
  | (a, u) :: m, n, v => by
    have ih := pput_keys m n v
    by_cases h : n = a
    · subst h; simp [pput, pget]
    · simp only [pput, if_neg h, pget, List.map_cons, ih]
      split <;> rfl
theorem pget_mem : ∀ {m : List (Int × α)} {n : Int} {v : α}, pget m n = some v → (n, v) ∈ m
  | [], _, _, h => by cases h
  | (a, u) :: m, n, v, h => by
    simp only [pget] at h
    split at h
    · rename_i e; injection h with h; subst h; subst e; exact List.mem_cons_self
    · exact List.mem_cons_of_mem _ (pget_mem h)
theorem pget_none : ∀ {m : List (Int × α)} {n : Int}, pget m n = none ↔ n ∉ m.map (·.1)
  | [], _ => by simp [pget]
  | (a, u) :: m, n => by
    have ih := @pget_none m n
    simp only [pget, List.map_cons, List.mem_cons, not_or]
    by_cases h : n = a
    · simp [h]
    · simp [h, ih]
theorem pput_nodup {m : List (Int × α)} (h : (m.map (·.1)).Nodup) (n : Int) (v : α) : ((pput m n v).map (·.1)).Nodup := by
  rw [pput_keys]
  split
  · exact h
  · rename_i hs
    have : pget m n = none := by cases hp : pget m n <;> simp_all
    rw [List.nodup_append]
    refine ⟨h, by simp, fun a ha b hb => ?_⟩
    have : n ∉ m.map (·.1) := pget_none.1 this
    simp at hb; subst hb
    exact fun e => this (e ▸ ha)
theorem pput_mem {m : List (Int × α)} {n : Int} {v : α} {p : Int × α} (h : p ∈ pput m n v) : p = (n, v) ∨ p ∈ m := by
  induction m with
  | nil => simp [pput] at h; exact .inl h
  | cons q m ih =>
    obtain ⟨a, u⟩ := q
    simp only [pput] at h
    split at h
    · rcases List.mem_cons.1 h with h | h
      · exact .inl h
      · exact .inr (List.mem_cons_of_mem _ h)
    · rcases List.mem_cons.1 h with h | h
      · exact .inr (h ▸ List.mem_cons_self)
      · rcases ih h with h | h
        · exact .inl h
        · exact .inr (List.mem_cons_of_mem _ h)
theorem pput_length (m : List (Int × α)) (n : Int) (v : α) : (pput m n v).length ≤ m.length + 1 := by
  have h := congrArg List.length (pput_keys m n v)
  simp only [List.length_map] at h
  rw [h]
  split <;> simp
/-- A list of places without doubles that has all of them: what is collected at them is a permutation of all. -/
theorem all_places {J : List Nat} {n : Nat} (hn : J.Nodup) (hb : ∀ j ∈ J, j < n) (ha : ∀ j, j < n → j ∈ J) : J.Perm (List.range n) :=
  (List.perm_ext_iff_of_nodup hn List.nodup_range).2 fun j => ⟨fun h => List.mem_range.2 (hb j h), fun h => ha j (List.mem_range.1 h)⟩
theorem places_le {J : List Nat} {n : Nat} (hn : J.Nodup) (hb : ∀ j ∈ J, j < n) : J.length ≤ n := by
  have h : J.Perm ((List.range n).filter fun j => decide (j ∈ J)) := (List.perm_ext_iff_of_nodup hn (List.nodup_range.filter _)).2 fun j => by
    rw [List.mem_filter, List.mem_range]
    exact ⟨fun h => ⟨hb j h, by simpa using h⟩, fun h => by simpa using h.2⟩
  have h2 := List.length_filter_le (fun j => decide (j ∈ J)) (List.range n)
  rw [h.length_eq]
  simpa using h2
/-- What is collected at all places of a list. -/
def atOr {α : Type} (M : List (Int × α)) (j : Nat) : Int := ((M[j]?).map (·.1)).getD 0
theorem range_at {α : Type} (M : List (Int × α)) : (List.range M.length).map (atOr M) = M.map (·.1) := by
  refine List.ext_getElem (by simp) fun i h1 h2 => ?_
  have hi : i < M.length := by simpa using h2
  simp [atOr, hi]
theorem collected {α : Type} {M : List (Int × α)} {bs J : List Nat} (hl : bs.length = M.length) (hp : bs.Pairwise (· < ·)) (hn : J.Nodup) (hb : ∀ j ∈ J, j < M.length) (ha : ∀ x ∈ bs, x ∈ J.map fun j => (bs[j]?).getD 0) : (J.map (atOr M)).Perm (M.map (·.1)) := by
  rw [← range_at M]
  refine (all_places hn hb fun j hj => ?_).map _
  have hj' : j < bs.length := by omega
  obtain ⟨i, hi, he⟩ := List.mem_map.1 (ha bs[j] (List.getElem_mem hj'))
  have hi' : i < bs.length := by have := hb i hi; omega
  rw [List.getElem?_eq_getElem hi'] at he
  have he : bs[i] = bs[j] := he
  rcases Nat.lt_trichotomy i j with g | g | g
  · have := List.pairwise_iff_getElem.1 hp i j hi' hj' g; omega
  · rw [← g]; exact hi
  · have := List.pairwise_iff_getElem.1 hp j i hj' hi' g; omega
theorem mergeSort_perm {a b : List Int} (h : a.Perm b) : (a.mergeSort fun x y => decide (x ≤ y)) = b.mergeSort fun x y => decide (x ≤ y) := by
  have tr : ∀ a b c : Int, decide (a ≤ b) = true → decide (b ≤ c) = true → decide (a ≤ c) = true := fun a b c h1 h2 => by simp at *; omega
  have tt : ∀ a b : Int, (decide (a ≤ b) || decide (b ≤ a)) = true := fun a b => by simp; omega
  refine List.Perm.eq_of_pairwise (le := fun x y : Int => decide (x ≤ y) = true) (fun x y _ _ h1 h2 => by simp at h1 h2; omega) (List.pairwise_mergeSort tr tt _) (List.pairwise_mergeSort tr tt _) ?_
  exact (List.mergeSort_perm _ _).trans (h.trans (List.mergeSort_perm _ _).symm)
theorem notin_map {bs J : List Nat} {i : Nat} (hi : i < bs.length) (h : bs[i] ∉ J.map fun j => (bs[j]?).getD 0) : i ∉ J := fun hm => h (List.mem_map.2 ⟨i, hm, by simp [hi]⟩)
end
end Go.Proofs.Ytgedefcjngofkaa

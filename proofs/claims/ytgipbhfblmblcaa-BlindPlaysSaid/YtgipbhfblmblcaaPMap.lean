/- Plain: maps as lists of keys and values; what is collected of them. -/
import Derived.Test.YtgipbhfblmblcaaPIns
import Derived.Test.YtgipbhfblmblcaaPPeers
set_option linter.unusedVariables false
namespace Go.Proofs.Ytgipbhfblmblcaa
open Go.Proofs.Ytgipbhfblmblcaa.AM
section
variable {α : Type}
theorem pget_mem : ∀ {m : List (Int × α)} {n : Int} {v : α}, pget m n = some v → (n, v) ∈ m
  | [], _, _, h => by cases h
  | (a, u) :: m, n, v, h => by
    simp only [pget] at h
    split at h
    · rename_i e; injection h with h; subst h; subst e; exact List.mem_cons_self
    · exact List.mem_cons_of_mem _ (pget_mem h)
/-- A list of places without doubles that has all of them: what is collected at them is a permutation of all. -/
theorem all_places {J : List Nat} {n : Nat} (hn : J.Nodup) (hb : ∀ j ∈ J, j < n) (ha : ∀ j, j < n → j ∈ J) : J.Perm (List.range n) :=
  (List.perm_ext_iff_of_nodup hn List.nodup_range).2 fun j => ⟨fun h => List.mem_range.2 (hb j h), fun h => ha j (List.mem_range.1 h)⟩
/-- What is collected at all places of a list. -/
def atOr {α : Type} (M : List (Int × α)) (j : Nat) : Int := ((M[j]?).map (·.1)).getD 0
theorem range_at {α : Type} (M : List (Int × α)) : (List.range M.length).map (atOr M) = M.map (·.1) := by
  refine List.ext_getElem (by simp) fun i h1 h2 => ?_
  have hi : i < M.length := by simpa using h2
  simp [atOr, hi]
theorem collected {α : Type} {M : List (Int × α)} {bs J : List Nat} (hl : bs.length = M.length) (hp : bs.Pairwise (· < ·)) (hn : J.Nodup) (hb : ∀ j ∈ J, j < M.length) (ha : ∀ x ∈ bs, x ∈ J.map fun j => (bs[j]?).getD 0) : (J.map (atOr M)).Perm (M.map (·.1)) := by
  rw [← range_at M]
  refine (all_places hn hb fun j hj => ?_).map _
  have hj' : j < bs.length := by omega
  obtain ⟨i, hi, he⟩ := List.mem_map.1 (ha bs[j] (List.getElem_mem hj'))
  have hi' : i < bs.length := by have := hb i hi; omega
  rw [List.getElem?_eq_getElem hi'] at he
  have he : bs[i] = bs[j] := he
  rcases Nat.lt_trichotomy i j with g | g | g
  · have := List.pairwise_iff_getElem.1 hp i j hi' hj' g; omega
  · rw [← g]; exact hi
  · have := List.pairwise_iff_getElem.1 hp j i hj' hi' g; omega
end
end Go.Proofs.Ytgipbhfblmblcaa

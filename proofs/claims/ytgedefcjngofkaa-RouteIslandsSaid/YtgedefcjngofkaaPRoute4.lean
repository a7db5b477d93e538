/- Plain: islands; a record handed on. -/
import Derived.Test.YtgedefcjngofkaaPRoute3
import Derived.Test.YtgedefcjngofkaaPCarry
set_option linter.unusedVariables false
namespace Go.Proofs.Ytgedefcjngofkaa
open Go Go.Proofs.Ytgedefcjngofkaa.AM
def on (l : List Rc) (i k : Nat) : Bool := decide (0 ≤ ds l 1 i k)
def seenB (l : List Rc) (st : List Nat) (k : Nat) : Bool := st.any fun i => on l i k
def starts (l : List Rc) : Nat → List Nat
  | 0 => []
  | n + 1 => if (cnt (rat l n) && !seenB l (starts l n) n) = true then starts l n ++ [n] else starts l n
def islandOf (l : List Rc) (i : Nat) : List Int := ((List.range l.length).filter (on l i)).map fun k => (rat l k).id
def encIL (m : List Int) : AV := .imm (m.map (.int .i64))
def islandsL (l : List Rc) : List (List Int) := if srt l = true then (starts l l.length).map (islandOf l) else []
theorem starts_yes {l : List Rc} {n : Nat} {x : Rc} (hx : l[n]? = some x) (hc : cnt x = true) (hs : seenB l (starts l n) n = false) : starts l (n + 1) = starts l n ++ [n] := by
  rw [starts, if_pos (by rw [rat_eq hx, hc, hs]; rfl)]
theorem starts_no {l : List Rc} {n : Nat} {x : Rc} (hx : l[n]? = some x) (h : cnt x = false ∨ seenB l (starts l n) n = true) : starts l (n + 1) = starts l n := by
  rw [starts, if_neg (by rw [rat_eq hx]; rcases h with h | h <;> rw [h] <;> simp)]
theorem starts_lt (l : List Rc) : ∀ n, ∀ i ∈ starts l n, i < n
  | 0, i, h => by simp [starts] at h
  | n + 1, i, h => by
    have ih := starts_lt l n
    rw [starts] at h
    split at h
    · rcases List.mem_append.1 h with h | h
      · have := ih i h; omega
      · simp at h; omega
    · have := ih i h; omega
theorem starts_len (l : List Rc) : ∀ n, (starts l n).length ≤ n
  | 0 => by simp [starts]
  | n + 1 => by
    have := starts_len l n
    rw [starts]; split
    · simp; omega
    · omega
theorem islandOf_len (l : List Rc) (i : Nat) : (islandOf l i).length ≤ l.length := by
  have := List.length_filter_le (on l i) (List.range l.length)
  rw [List.length_range] at this
  rw [islandOf, List.length_map]; exact this
theorem rep_false (N : Nat) (l : List Rc) : (List.replicate N (AV.bool false)) = (((List.range N).map fun k => seenB l (starts l 0) k).map .bool) := by
  refine List.ext_getElem (by simp) fun i h1 h2 => by simp [starts, seenB]
theorem fillB_set {N k : Nat} (F F' : Nat → Bool) (hk : k < N) : ((List.range N).map fun j => if j < k then F j else F' j).set k (F k) = (List.range N).map fun j => if j < k + 1 then F j else F' j := by
  rw [range_set _ _ hk]
  refine range_congr fun j hj => ?_
  by_cases e : j = k
  · subst e
    rw [if_pos rfl, if_pos (by omega)]
  · rw [if_neg e]
    by_cases g : j < k
    · rw [if_pos g, if_pos (by omega)]
    · rw [if_neg g, if_neg (by omega)]
theorem fillB_same {N k : Nat} (F F' : Nat → Bool) (h : F k = F' k) : ((List.range N).map fun j => if j < k then F j else F' j) = (List.range N).map fun j => if j < k + 1 then F j else F' j := by
  refine range_congr fun j hj => ?_
  by_cases e : j = k
  · subst e
    rw [if_neg (by omega), if_pos (by omega), h]
  · by_cases g : j < k
    · rw [if_pos g, if_pos (by omega)]
    · rw [if_neg g, if_neg (by omega)]
theorem seen_app (l : List Rc) (st : List Nat) (i k : Nat) : seenB l (st ++ [i]) k = (seenB l st k || on l i k) := by simp [seenB]
/-! a record handed on -/
def handP (l : List Rc) (a b : Int) : List Hop × Bool := if (pathR l a b 2).2 = true then pathR l a b 2 else pathR l a b 1
def gens (hs : List Hop) : List Int := hs.map (·.gen)
def handR (l : List Rc) (a b : Int) (r : Rc) : Rc × Bool := if (handP l a b).2 = true then cpath r (gens (handP l a b).1) else (rzero, false)
theorem handR_small {l : List Rc} {a b : Int} {r : Rc} (h : Small r.bag) : Small (handR l a b r).1.bag := by
  unfold handR
  split
  · exact cpath_small h
  · exact rzero_small
theorem walk_gens {l : List Rc} {least : Int} {f : Nat} : ∀ (n i : Nat), ∀ g ∈ gens (walk l least f n i), least ≤ g ∧ g ≤ 3
  | 0, i, g, h => by simp [walk, gens] at h
  | n + 1, i, g, h => by
    rw [walk] at h
    cases hn : nextP l least f i with
    | none => rw [hn] at h; simp [gens] at h
    | some k =>
      rw [hn] at h
      simp only [gens, List.map_cons, List.mem_cons] at h
      rcases h with rfl | h
      · have h1 := List.find?_some hn
        simp only [nearer, Bool.and_eq_true] at h1
        have h2 : least ≤ lnk (rat l i) (rat l k) := of_decide_eq_true h1.1
        exact ⟨h2, (lnk_rng _ _).2⟩
      · exact walk_gens n k g h
theorem path_gens (l : List Rc) (a b least : Int) : ∀ g ∈ gens (pathR l a b least).1, least ≤ g ∧ g ≤ 3 := by
  intro g h
  unfold pathR at h
  split at h
  · simp [gens] at h
  · split at h
    · simp [gens] at h
    · exact walk_gens _ _ g h
theorem path_len (l : List Rc) (a b least : Int) : (pathR l a b least).1.length ≤ l.length := by
  by_cases h : (!srt l || decide (atZ l a < 0) || decide (atZ l b < 0)) = true
  · rw [pathR_out h]; simp
  · simp only [Bool.or_eq_true, not_or, Bool.not_eq_true', decide_eq_true_eq] at h
    obtain ⟨ia, xa, ha, ha2, _⟩ := atZ_some (l := l) (a := a) h.1.2
    obtain ⟨ib, xb, hb, hb2, _⟩ := atZ_some (l := l) (a := b) h.2
    have hs : srt l = true := by simpa using h.1.1
    by_cases hd : ds l least ib ia < 0
    · rw [pathR_no hs ha hb hd]; simp
    · obtain ⟨D, hD⟩ := Int.eq_ofNat_of_zero_le (show 0 ≤ ds l least ib ia by omega)
      have := ds_lt (least := least) hb2 ha2
      rw [pathR_yes hs ha hb hD, walk_len hb2 D ia ha2 hD]; omega
theorem hand_keeps {l : List Rc} {a b : Int} {r : Rc} (hw : (pathR l a b 2).2 = true) (hl : bsize r.bag ≤ 1024) (hi : r.inc ≤ 4294967295) : handR l a b r = (r, true) := by
  have e : handP l a b = pathR l a b 2 := if_pos hw
  have hg := path_gens l a b 2
  rw [handR, e, if_pos hw, cpath_eq, if_pos, chops_light _ _ hl]
  · rw [List.any_eq_false]
    intro g h
    have := hg g h
    simp; omega
  · rw [List.all_eq_true]
    intro g h
    have := hg g h
    exact sent_yes (by omega)
end Go.Proofs.Ytgedefcjngofkaa

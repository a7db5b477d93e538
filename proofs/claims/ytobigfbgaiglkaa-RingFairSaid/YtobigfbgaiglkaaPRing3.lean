/- Plain: the law's own account of a ring. -/
import Derived.Test.YtobigfbgaiglkaaPRing2
import Derived.Test.YtobigfbgaiglkaaPPair
set_option linter.unusedVariables false
namespace Go.Proofs.Ytobigfbgaiglkaa
open Go.Proofs.Ytobigfbgaiglkaa.AM
theorem rise_in {out : List Int} {x : Int} {i : Nat} (h : out.Pairwise (· < ·)) (h1 : ∀ z ∈ out.take i, z < x) (h2 : ∀ z ∈ out.drop i, x ≤ z) (hn : x ∉ out) : (insAt out i x).Pairwise (· < ·) ∧ ∀ y, y ∈ insAt out i x ↔ y ∈ out ∨ y = x := by
  have h' : ((out.take i) ++ out.drop i).Pairwise (· < ·) := by rw [List.take_append_drop]; exact h
  rw [List.pairwise_append] at h'
  refine ⟨?_, fun y => ?_⟩
  · unfold insAt
    rw [List.pairwise_append, List.pairwise_append]
    refine ⟨⟨h'.1, by simp, fun a ha b hb => by simp at hb; subst hb; exact h1 a ha⟩, h'.2.1, fun a ha b hb => ?_⟩
    rcases List.mem_append.1 ha with ha | ha
    · exact h'.2.2 a ha b hb
    · simp at ha; subst ha
      have g := h2 b hb
      have g2 : b ≠ a := fun e => hn (e ▸ List.mem_of_mem_drop hb)
      omega
  · have hm : y ∈ out ↔ y ∈ out.take i ∨ y ∈ out.drop i := by rw [← List.mem_append, List.take_append_drop]
    rw [hm]
    unfold insAt
    rw [List.mem_append, List.mem_append, List.mem_singleton]
    constructor
    · rintro ((g | g) | g)
      · exact .inl (.inl g)
      · exact .inr g
      · exact .inl (.inr g)
    · rintro ((g | g) | g)
      · exact .inl (.inl g)
      · exact .inr g
      · exact .inl (.inr g)
theorem setOf_in {l : List Int} {k : Nat} {x : Int} (hx : l[k]? = some x) (h : x ∈ setOf (l.take k)) : setOf (l.take (k + 1)) = setOf (l.take k) :=
  strict_ext (setOf_rise _).1 (setOf_rise _).1 fun y => by
    rw [(setOf_rise _).2, (setOf_rise _).2, List.take_add_one, hx, List.mem_append]
    constructor
    · rintro (g | g)
      · exact g
      · simp at g; rw [g]; exact ((setOf_rise _).2 x).1 h
    · exact .inl
theorem setOf_new {l : List Int} {k i : Nat} {x : Int} (hx : l[k]? = some x) (h : x ∉ setOf (l.take k)) (h1 : ∀ z ∈ (setOf (l.take k)).take i, z < x) (h2 : ∀ z ∈ (setOf (l.take k)).drop i, x ≤ z) : setOf (l.take (k + 1)) = insAt (setOf (l.take k)) i x := by
  obtain ⟨g1, g2⟩ := rise_in (setOf_rise _).1 h1 h2 h
  refine strict_ext (setOf_rise _).1 g1 fun y => ?_
  rw [g2, (setOf_rise _).2, (setOf_rise _).2, List.take_add_one, hx, List.mem_append]
  simp
theorem setOf_nil : setOf ([] : List Int) = [] := List.eq_nil_iff_forall_not_mem.2 fun y h => by simpa using ((setOf_rise []).2 y).1 h
theorem take_all_len {l : List Int} {k : Nat} : (setOf (l.take k)).length ≤ l.length := Nat.le_trans (setOf_len _) (by rw [List.length_take]; omega)
theorem stay_set (t l : List Int) : stay (setOf t) l = stay t l := by
  unfold stay; congr 1; funext x; congr 1; exact propext ((setOf_rise t).2 x)
theorem stay_snoc {t l : List Int} {k : Nat} {x : Int} (hx : l[k]? = some x) : stay t (l.take (k + 1)) = stay t (l.take k) ++ (if x ∈ t then [x] else []) := by
  unfold stay; rw [List.take_add_one, hx, List.filter_append]; congr 1
  by_cases h : x ∈ t <;> simp [h]
theorem stay_len (t l : List Int) : (stay t l).length ≤ l.length := List.length_filter_le _ _
theorem has_miss {l : List Int} {k : Nat} {x y : Int} (h : x ∉ l.take k) (hy : l[k]? = some y) (hne : ¬ y = x) : x ∉ l.take (k + 1) := by
  rw [List.take_add_one, hy, List.mem_append]
  rintro (g | g)
  · exact h g
  · simp at g; exact hne g.symm
theorem allT_lt {l : List Int} {k : Nat} {x y : Int} (h : ∀ z ∈ l.take k, z < x) (hy : l[k]? = some y) (hlt : y < x) : ∀ z ∈ l.take (k + 1), z < x := by
  intro z hz
  rw [List.take_add_one, hy, List.mem_append] at hz
  rcases hz with g | g
  · exact h z g
  · simp at g; omega
theorem drop_ge {l : List Int} {k : Nat} {x : Int} (hs : l.Pairwise (· < ·)) (h : ∀ y, l[k]? = some y → x ≤ y) : ∀ z ∈ l.drop k, x ≤ z := by
  cases hd : l.drop k with
  | nil => intro z hz; simp at hz
  | cons y t =>
    have hy : l[k]? = some y := by have := congrArg (·[0]?) hd; simpa using this
    have hp : (y :: t).Pairwise (· < ·) := by rw [← hd]; exact hs.sublist (List.drop_sublist _ _)
    intro z hz
    rcases List.mem_cons.1 hz with rfl | hz
    · exact h _ hy
    · have := (List.pairwise_cons.1 hp).1 z hz; have := h y hy; omega
theorem take_same {l m : List Int} {k : Nat} {x y : Int} (h : l.take k = m.take k) (hx : l[k]? = some x) (hy : m[k]? = some y) (e : x = y) : l.take (k + 1) = m.take (k + 1) := by
  rw [List.take_add_one, List.take_add_one, h, hx, hy, e]
theorem ne_at {l m : List Int} {k : Nat} {x y : Int} (hx : l[k]? = some x) (hy : m[k]? = some y) (e : ¬ x = y) : decide (l = m) = false := decide_eq_false fun h => by rw [h, hy] at hx; exact e (by injection hx with h; exact h.symm)
/-- A fresh own slice is a part. -/
theorem ownR_part {n sz : Nat} {v : AV} {l : List AV} {effs : List (Nat × ARow)} (h : OwnR n sz v l effs) : ∃ h', EffTo noH h' n effs ∧ SV h' sz v l := by
  rcases h with ⟨rfl, rfl, rfl⟩ | ⟨p, h1, rfl, rfl⟩
  · exact ⟨noH, EffTo.refl _ _, .inl ⟨rfl, rfl⟩⟩
  · exact ⟨AHeap.set noH p (.row sz l), ⟨fun q hq => by simp at hq; subst hq; exact .inr h1, AHeap.sub_refl _⟩, .inr ⟨p, rfl, AHeap.get_set _ _ _⟩⟩
theorem rAdd_left (s : Rg) (there : List Int) : (rAdd s there).left = (addUpTo s there (setOf there).length).1 := rfl
theorem rSize (s : Rg) (there : List Int) : (rNext s there).1.left.length + (rNext s there).1.done.length ≤ s.left.length + s.done.length + there.length := by
  have h1 := addUpTo_len s there (setOf there).length
  have h2 := setOf_len there
  have h3 : (stay (setOf there) s.done).length ≤ s.done.length := stay_len _ _
  have h4 : (rTurn (rAdd s there)).left.length + (rTurn (rAdd s there)).done.length ≤ s.left.length + s.done.length + there.length := by
    have hT := rTurn_len s there
    unfold rTurn
    split
    · rename_i h
      show (shuffled _ _).length + 0 ≤ _
      rw [shuffled, shuf_length]
      show (stay (setOf there) s.done).length + 0 ≤ _
      omega
    · show (addUpTo s there (setOf there).length).1.length + (stay (setOf there) s.done).length ≤ _
      omega
  unfold rNext
  cases h : (rTurn (rAdd s there)).left with
  | nil => rw [rOut_nil h]; exact h4
  | cons x l => rw [rOut_cons h]; rw [h] at h4; simp at h4 ⊢; omega
theorem h123 : setOf [1, 2, 3] = [1, 2, 3] := strict_ext (setOf_rise _).1 (by decide) fun y => (setOf_rise _).2 y
def aw (k : Nat) : Rg := match k with
  | 0 => ⟨[], [], []⟩
  | k + 1 => (rNext (aw k) [1, 2, 3]).1
def want : List Int := [3, 2, 1, 2, 1, 3]
theorem aw1 : rNext ⟨[], [], []⟩ [1, 2, 3] = (⟨[2, 1], [3], []⟩, 3, true) := by rw [rNext, rAdd, addUpTo, h123]; rfl
theorem aw2 : rNext ⟨[2, 1], [3], []⟩ [1, 2, 3] = (⟨[1], [3, 2], []⟩, 2, true) := by rw [rNext, rAdd, addUpTo, h123]; rfl
theorem aw3 : rNext ⟨[1], [3, 2], []⟩ [1, 2, 3] = (⟨[], [3, 2, 1], []⟩, 1, true) := by rw [rNext, rAdd, addUpTo, h123]; rfl
theorem aw4 : rNext ⟨[], [3, 2, 1], []⟩ [1, 2, 3] = (⟨[1, 3], [2], []⟩, 2, true) := by rw [rNext, rAdd, addUpTo, h123]; rfl
theorem aw5 : rNext ⟨[1, 3], [2], []⟩ [1, 2, 3] = (⟨[3], [2, 1], []⟩, 1, true) := by rw [rNext, rAdd, addUpTo, h123]; rfl
theorem aw6 : rNext ⟨[3], [2, 1], []⟩ [1, 2, 3] = (⟨[], [2, 1, 3], []⟩, 3, true) := by rw [rNext, rAdd, addUpTo, h123]; rfl
theorem aw_all {k : Nat} {x : Int} (hx : want[k]? = some x) : (rNext (aw k) [1, 2, 3]).2 = (x, true) ∧ (aw k).left.length ≤ 3 ∧ (aw k).done.length ≤ 3 := by
  have hk : k < 6 := (List.getElem?_eq_some_iff.1 hx).1
  have e1 : aw 1 = ⟨[2, 1], [3], []⟩ := congrArg Prod.fst aw1
  have e2 : aw 2 = ⟨[1], [3, 2], []⟩ := by show (rNext (aw 1) _).1 = _; rw [e1, aw2]
  have e3 : aw 3 = ⟨[], [3, 2, 1], []⟩ := by show (rNext (aw 2) _).1 = _; rw [e2, aw3]
  have e4 : aw 4 = ⟨[1, 3], [2], []⟩ := by show (rNext (aw 3) _).1 = _; rw [e3, aw4]
  have e5 : aw 5 = ⟨[3], [2, 1], []⟩ := by show (rNext (aw 4) _).1 = _; rw [e4, aw5]
  obtain rfl | rfl | rfl | rfl | rfl | rfl : k = 0 ∨ k = 1 ∨ k = 2 ∨ k = 3 ∨ k = 4 ∨ k = 5 := by omega
  all_goals simp [want] at hx; subst hx
  · exact ⟨congrArg Prod.snd aw1, by decide, by decide⟩
  · rw [e1]; exact ⟨congrArg Prod.snd aw2, by decide, by decide⟩
  · rw [e2]; exact ⟨congrArg Prod.snd aw3, by decide, by decide⟩
  · rw [e3]; exact ⟨congrArg Prod.snd aw4, by decide, by decide⟩
  · rw [e4]; exact ⟨congrArg Prod.snd aw5, by decide, by decide⟩
  · rw [e5]; exact ⟨congrArg Prod.snd aw6, by decide, by decide⟩
end Go.Proofs.Ytobigfbgaiglkaa

/- Plain: whose turn it is. -/
import Derived.Test.YtobigfbgaiglkaaPTimer
import Derived.Test.YtobigfbgaiglkaaPEff
import Derived.Test.YtobigfbgaiglkaaPDel
set_option linter.unusedVariables false
namespace Go.Proofs.Ytobigfbgaiglkaa
open Go.Proofs.Ytobigfbgaiglkaa.AM
theorem wrapu64_id {n : Int} (h : 0 ≤ n ∧ n < 18446744073709551616) : Go.IntKind.u64.wrap n = n := by
  unfold Go.IntKind.wrap
  simp only [Go.IntKind.bits, Go.IntKind.signed]
  simp
  omega
theorem half_wrap {m : Nat} (h : m ≤ 4000000) : Go.IntKind.i64.wrap ((m : Int).fdiv (2 ^ min (1 : Int).toNat Go.IntKind.u64.bits)) = ((m / 2 : Nat) : Int) := by
  have e : ((2 : Int) ^ min (1 : Int).toNat Go.IntKind.u64.bits) = 2 := by decide
  rw [e]
  have e2 : (m : Int).fdiv 2 = ((m / 2 : Nat) : Int) := by
    rw [Int.fdiv_eq_ediv_of_nonneg _ (by decide)]; omega
  rw [e2]
  exact wrap64_id (by omega)
/-- Numbers without neighbours that are the same. -/
def cptGo (p : Int) : List Int → List Int
  | [] => []
  | x :: l => if x = p then cptGo p l else x :: cptGo x l
def cpt : List Int → List Int
  | [] => []
  | x :: l => x :: cptGo x l
theorem cptGo_snoc : ∀ (l : List Int) (p x : Int), cptGo p (l ++ [x]) = cptGo p l ++ (if x = (l.getLast?).getD p then [] else [x])
  | [], p, x => by by_cases h : x = p <;> simp [cptGo, h]
  | y :: l, p, x => by
    have ih := cptGo_snoc l
    have hl : ((y :: l).getLast?).getD p = (l.getLast?).getD y := by
      cases l with
      | nil => rfl
      | cons z l => rw [List.getLast?_cons_cons]; cases h : (z :: l).getLast? with
        | none => simp at h
        | some w => rfl
    rw [hl]
    simp only [List.cons_append, cptGo]
    by_cases h : y = p
    · subst h; rw [if_pos rfl, if_pos rfl]; exact ih _ _
    · rw [if_neg h, if_neg h, ih, List.cons_append]
theorem cpt_snoc {l : List Int} {k : Nat} {x y : Int} (hk : 0 < k) (hx : l[k]? = some x) (hy : l[k - 1]? = some y) : cpt (l.take (k + 1)) = cpt (l.take k) ++ (if x = y then [] else [x]) := by
  cases l with
  | nil => simp at hx
  | cons z l =>
    obtain ⟨j, rfl⟩ : ∃ j, k = j + 1 := ⟨k - 1, by omega⟩
    have hx : l[j]? = some x := by simpa using hx
    simp only [List.take_succ_cons, cpt]
    rw [List.take_add_one, hx]
    show z :: cptGo z (l.take j ++ [x]) = _
    rw [cptGo_snoc, List.cons_append]
    have e : ((l.take j).getLast?).getD z = y := by
      cases j with
      | zero => simp at hy; simp [hy]
      | succ j =>
        have hy : l[j]? = some y := by simpa using hy
        rw [List.take_add_one, hy]; simp
    rw [e]
theorem cpt_len (l : List Int) : (cpt l).length ≤ l.length := by
  have key : ∀ (l : List Int) (p : Int), (cptGo p l).length ≤ l.length := by
    intro l
    induction l with
    | nil => intro p; simp [cptGo]
    | cons x l ih => intro p; simp only [cptGo]; split; have := ih p; simp; omega; have := ih x; simp; omega
  cases l with
  | nil => simp [cpt]
  | cons x l => have := key l x; simp [cpt]; omega
theorem cptGo_mem : ∀ (l : List Int) (p : Int), l.Pairwise (· ≤ ·) → (∀ y ∈ l, p ≤ y) → (cptGo p l).Pairwise (· < ·) ∧ (∀ y ∈ cptGo p l, p < y) ∧ ∀ y, (y ∈ cptGo p l ∨ y = p) ↔ (y ∈ l ∨ y = p)
  | [], p, _, _ => ⟨by simp [cptGo], fun y h => by simp [cptGo] at h, fun y => by simp [cptGo]⟩
  | x :: l, p, h, hp => by
    have h' := List.pairwise_cons.1 h
    by_cases e : x = p
    · subst e
      obtain ⟨h1, h2, h3⟩ := cptGo_mem l x h'.2 (fun y hy => h'.1 y hy)
      simp only [cptGo, if_true]
      exact ⟨h1, h2, fun y => by rw [h3 y]; simp only [List.mem_cons]; constructor; rintro (g | g); exact .inl (.inr g); exact .inr g; rintro ((g | g) | g); exact .inr g; exact .inl g; exact .inr g⟩
    · obtain ⟨h1, h2, h3⟩ := cptGo_mem l x h'.2 (fun y hy => h'.1 y hy)
      have hpx : p < x := by have := hp x (by simp); omega
      simp only [cptGo, if_neg e]
      refine ⟨List.pairwise_cons.2 ⟨h2, h1⟩, fun y hy => ?_, fun y => ?_⟩
      · rcases List.mem_cons.1 hy with rfl | hy
        · exact hpx
        · have := h2 y hy; omega
      · simp only [List.mem_cons]
        have := h3 y
        constructor
        · rintro ((g | g) | g)
          · exact .inl (.inl g)
          · rcases this.1 (.inl g) with g | g
            · exact .inl (.inr g)
            · exact .inl (.inl g)
          · exact .inr g
        · rintro ((g | g) | g)
          · exact .inl (.inl g)
          · rcases this.2 (.inl g) with g | g
            · exact .inl (.inr g)
            · exact .inl (.inl g)
          · exact .inr g
/-- The numbers of a list, rising, each once. -/
def setOf (l : List Int) : List Int := cpt (l.mergeSort fun x y => decide (x ≤ y))
theorem setOf_rise (l : List Int) : (setOf l).Pairwise (· < ·) ∧ ∀ y, y ∈ setOf l ↔ y ∈ l := by
  have hs : (l.mergeSort fun x y => decide (x ≤ y)).Pairwise (· ≤ ·) :=
    (List.pairwise_mergeSort (fun a b c h1 h2 => by simp at *; omega) (fun a b => by simp; omega) l).imp fun {a b} h => by simpa using h
  have hm : ∀ y, y ∈ (l.mergeSort fun x y => decide (x ≤ y)) ↔ y ∈ l := fun y => List.mem_mergeSort
  unfold setOf
  cases h : (l.mergeSort fun x y => decide (x ≤ y)) with
  | nil => rw [h] at hm; exact ⟨by simp [cpt], fun y => by rw [← hm y]; simp [cpt]⟩
  | cons x t =>
    rw [h] at hm hs
    have hs' := List.pairwise_cons.1 hs
    obtain ⟨h1, h2, h3⟩ := cptGo_mem t x hs'.2 hs'.1
    refine ⟨List.pairwise_cons.2 ⟨h2, h1⟩, fun y => ?_⟩
    rw [← hm y]
    simp only [cpt, List.mem_cons]
    have := h3 y
    constructor
    · rintro (g | g)
      · exact .inl g
      · rcases this.1 (.inl g) with g | g
        · exact .inr g
        · exact .inl g
    · rintro (g | g)
      · exact .inl g
      · rcases this.2 (.inl g) with g | g
        · exact .inr g
        · exact .inl g
theorem setOf_len (l : List Int) : (setOf l).length ≤ l.length := by
  unfold setOf; exact Nat.le_trans (cpt_len _) (by rw [List.length_mergeSort]; exact Nat.le_refl _)
theorem strict_ext {a b : List Int} (ha : a.Pairwise (· < ·)) (hb : b.Pairwise (· < ·)) (h : ∀ x, x ∈ a ↔ x ∈ b) : a = b :=
  ((List.perm_ext_iff_of_nodup (ha.imp fun {a b} h e => by omega) (hb.imp fun {a b} h e => by omega)).2 h).eq_of_pairwise (le := fun x y : Int => x < y) (fun x y _ _ h1 h2 => absurd h1 (by omega)) ha hb
/-- What compacting leaves of a row behind j elements: the first kept, the rest as it was. -/
theorem bs_found {l : List Int} {x : Int} {i : Nat} (hs : l.Pairwise (· < ·)) (h1 : ∀ y ∈ l.take i, y < x) (h2 : ∀ y ∈ l.drop i, x ≤ y) : (x ∈ l) ↔ l[i]? = some x := by
  constructor
  · intro hx
    rw [← List.take_append_drop i l] at hx
    rcases List.mem_append.1 hx with hx | hx
    · have := h1 x hx; omega
    · have hlt : i < l.length := by
        rcases Nat.lt_or_ge i l.length with g | g
        · exact g
        · rw [List.drop_of_length_le g] at hx; cases hx
      rw [List.drop_eq_getElem_cons hlt] at hx h2
      have hy := h2 l[i] List.mem_cons_self
      rcases List.mem_cons.1 hx with g | g
      · rw [List.getElem?_eq_getElem hlt, g]
      · have hp := hs.sublist (List.drop_sublist i l)
        rw [List.drop_eq_getElem_cons hlt] at hp
        have := (List.pairwise_cons.1 hp).1 x g
        omega
  · exact fun h => List.mem_of_getElem? h
theorem any_mem (l : List Int) (v : Int) : l.any (fun x => decide (x = v)) = decide (v ∈ l) := by
  induction l with
  | nil => simp
  | cons x l ih =>
    rw [List.any_cons, ih]
    by_cases h : x = v
    · simp [h]
    · simp [h, Ne.symm h]
theorem rise_take {l : List Int} {k : Nat} {z x : Int} (hs : l.Pairwise (· < ·)) (hz : l[k]? = some z) (h : z < x) : ∀ y ∈ l.take k, y < x := fun y hy => by
  have hlt := (List.getElem?_eq_some_iff.1 hz).1
  have e := (List.getElem?_eq_some_iff.1 hz).2
  have hp := hs
  rw [← List.take_append_drop k l, List.pairwise_append] at hp
  have := hp.2.2 y hy z (by rw [List.drop_eq_getElem_cons hlt, e]; simp)
  omega
theorem rise_drop' {l : List Int} {k : Nat} {z x : Int} (hs : l.Pairwise (· < ·)) (hz : l[k]? = some z) (h : x ≤ z) : ∀ y ∈ l.drop k, x ≤ y := fun y hy => by
  have hlt := (List.getElem?_eq_some_iff.1 hz).1
  have e := (List.getElem?_eq_some_iff.1 hz).2
  rw [List.drop_eq_getElem_cons hlt, e] at hy
  have hp := hs.sublist (List.drop_sublist k l)
  rw [List.drop_eq_getElem_cons hlt, e] at hp
  rcases List.mem_cons.1 hy with rfl | hy
  · exact h
  · have := (List.pairwise_cons.1 hp).1 y hy; omega
theorem cpt_short {l : List Int} (h : l.length < 2) : cpt l = l := by
  match l, h with
  | [], _ => rfl
  | [x], _ => rfl
theorem cpt_one (l : List Int) : cpt (l.take 1) = l.take 1 := cpt_short (by rw [List.length_take]; omega)
theorem drop_next {R l : List Int} {m : Nat} (h : R.drop m = l.drop m) : R.drop (m + 1) = l.drop (m + 1) := by
  rw [← List.drop_drop, h, List.drop_drop]
theorem cp_step {R l : List Int} {i m : Nat} {u : Int} {c : List Int} (hl : R.length = l.length) (hi : i < m) (hm : m < l.length) (ht : R.take i = c) (hd : R.drop (m - 1) = l.drop (m - 1)) :
    (R.set i u).length = l.length ∧ (R.set i u).take (i + 1) = c ++ [u] ∧ (R.set i u).drop m = l.drop m := by
  refine ⟨by rw [List.length_set]; exact hl, ?_, ?_⟩
  · have e : (R.set i u)[i]? = some u := by rw [List.getElem?_set_self (by omega)]
    rw [List.take_add_one, e, List.take_set_of_le (Nat.le_refl _), ht]; rfl
  · rw [List.drop_set_of_lt hi]
    have := drop_next hd
    rw [show m - 1 + 1 = m by omega] at this; exact this
theorem get_dropped {R l : List Int} {m j : Nat} (hd : R.drop m = l.drop m) (hj : m ≤ j) : R[j]? = l[j]? := by
  have h1 : (R.drop m)[j - m]? = R[j]? := by rw [List.getElem?_drop]; congr 1; omega
  have h2 : (l.drop m)[j - m]? = l[j]? := by rw [List.getElem?_drop]; congr 1; omega
  rw [← h1, ← h2, hd]
theorem view_part {G : AHeap} {r k n : Nat} {R : List Int} (h : G r = some (.row 1 (R.map (.int .i64)))) (hn : k + n = R.length) : (AV.own r 1 (0 + k) n).view G = some ((R.drop k).map (.int .i64)) := by
  rw [AV.view_own h (by rw [List.length_map]; omega), Nat.zero_add, List.map_drop, List.take_of_length_le (by rw [List.length_drop, List.length_map]; omega)]
end Go.Proofs.Ytobigfbgaiglkaa

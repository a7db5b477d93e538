/- Plain: whoever is there all the time comes. -/
import Derived.Test.YtobigfbgaiglkaaPRing4
set_option linter.unusedVariables false
namespace Go.Proofs.Ytobigfbgaiglkaa
open Go.Proofs.Ytobigfbgaiglkaa.AM
theorem nodup_len : ∀ {l m : List Int}, l.Nodup → (∀ y ∈ l, y ∈ m) → l.length ≤ m.length
  | [], m, _, _ => by simp
  | a :: l, m, h, hs => by
    have h' := List.nodup_cons.1 h
    have ha := hs a (by simp)
    have := nodup_len (m := m.erase a) h'.2 fun y hy => (List.mem_erase_of_ne (fun e => h'.1 (by rw [← e]; exact hy))).2 (hs y (by simp [hy]))
    rw [List.length_erase_of_mem ha] at this
    have : 0 < m.length := List.length_pos_of_mem ha
    simp; omega
theorem shuffled_perm (l ds : List Int) : (shuffled l ds).Perm l := List.perm_iff_count.2 fun x => shuf_count x _ _ _ (by
  cases l with
  | nil => exact .inr rfl
  | cons a l => exact .inl (by simp))
def Nd (s : Rg) : Prop := (s.left ++ s.done).Nodup
def AllR (s : Rg) (t : List Int) : Prop := ∀ y, (y ∈ s.left ∨ y ∈ s.done) ↔ y ∈ t
theorem insAt_perm (l : List Int) (k : Nat) (x : Int) : (insAt l k x).Perm (x :: l) := by
  unfold insAt
  rw [List.append_assoc]
  have h : (l.take k ++ x :: l.drop k).Perm (x :: (l.take k ++ l.drop k)) := List.perm_middle
  rw [List.take_append_drop] at h; exact h
theorem add_inv {s : Rg} {there : List Int} (hn : Nd s) : ∀ k, k ≤ (setOf there).length → ((addUpTo s there k).1 ++ stay (setOf there) s.done).Nodup ∧ ∀ y, y ∈ (addUpTo s there k).1 ↔ y ∈ stay (setOf there) s.left ∨ (y ∈ (setOf there).take k ∧ y ∉ stay (setOf there) s.done)
  | 0, _ => by
    refine ⟨?_, fun y => ?_⟩
    · show (stay (setOf there) s.left ++ stay (setOf there) s.done).Nodup
      unfold stay
      rw [← List.filter_append]
      exact List.Pairwise.filter _ hn
    · show y ∈ stay (setOf there) s.left ↔ _
      simp
  | k + 1, hk => by
    obtain ⟨h1, h2⟩ := add_inv (there := there) hn k (by omega)
    obtain ⟨x, hx⟩ := get_some (l := setOf there) (k := k) (by omega)
    rw [addUpTo_snoc hx, addOne]
    have hnd := List.nodup_append.1 h1
    split
    · rename_i h9
      refine ⟨h1, fun y => ?_⟩
      rw [h2 y, List.take_add_one, hx, List.mem_append]
      constructor
      · rintro (g | ⟨g, g2⟩)
        · exact .inl g
        · exact .inr ⟨.inl g, g2⟩
      · rintro (g | ⟨g | g, g2⟩)
        · exact .inl g
        · exact .inr ⟨g, g2⟩
        · simp at g; subst g
          rcases h9 with h9 | h9
          · exact (h2 y).1 h9
          · exact absurd h9 g2
    · rename_i h9
      have hp := insAt_perm (addUpTo s there k).1 (dNext (addUpTo s there k).2 (((addUpTo s there k).1.length : Int) + 1)).toNat x
      refine ⟨?_, fun y => ?_⟩
      · refine (List.Perm.nodup_iff (hp.append_right _)).2 ?_
        rw [List.cons_append, List.nodup_cons]
        exact ⟨fun g => h9 (List.mem_append.1 g), h1⟩
      · show y ∈ insAt _ _ _ ↔ _
        rw [hp.mem_iff, List.mem_cons, h2 y, List.take_add_one, hx, List.mem_append]
        have hxd : x ∉ stay (setOf there) s.done := fun g => h9 (.inr g)
        constructor
        · rintro (g | g | ⟨g, g2⟩)
          · subst g; exact .inr ⟨.inr (by simp), hxd⟩
          · exact .inl g
          · exact .inr ⟨.inl g, g2⟩
        · rintro (g | ⟨g | g, g2⟩)
          · exact .inr (.inl g)
          · exact .inr (.inr ⟨g, g2⟩)
          · simp at g; exact .inl g
theorem rAdd_all {s : Rg} {t : List Int} (hn : Nd s) : Nd (rAdd s t) ∧ AllR (rAdd s t) t := by
  obtain ⟨h1, h2⟩ := add_inv (there := t) hn (setOf t).length (Nat.le_refl _)
  refine ⟨h1, fun y => ?_⟩
  show (y ∈ (addUpTo s t (setOf t).length).1 ∨ y ∈ stay (setOf t) s.done) ↔ _
  rw [h2 y, List.take_length, (setOf_rise t).2 y]
  have hin : ∀ l, y ∈ stay (setOf t) l → y ∈ t := fun l h => by
    rw [stay_set] at h; simpa [stay] using (List.mem_filter.1 h).2
  constructor
  · rintro ((g | g) | g)
    · exact hin _ g
    · exact g.1
    · exact hin _ g
  · intro g
    by_cases hd : y ∈ stay (setOf t) s.done
    · exact .inr hd
    · exact .inl (.inr ⟨g, hd⟩)
def fp (first : Int) (n : Nat) (s : Rg) : Nat := s.done.length + (if first ∈ s.left then n else 0)
theorem out_step {T : Rg} {t : List Int} {x : Int} {l : List Int} (hn : Nd T) (ha : AllR T t) (hl : T.left = x :: l) : Nd ⟨l, T.done ++ [x], T.ds⟩ ∧ AllR ⟨l, T.done ++ [x], T.ds⟩ t := by
  refine ⟨?_, fun y => ?_⟩
  · show (l ++ (T.done ++ [x])).Nodup
    have hn : (T.left ++ T.done).Nodup := hn
    rw [hl] at hn
    rw [← List.append_assoc]
    exact (List.Perm.nodup_iff (List.perm_append_comm (l₁ := l ++ T.done) (l₂ := [x]))).2 hn
  · rw [← ha y, hl]
    show (y ∈ l ∨ y ∈ T.done ++ [x]) ↔ _
    rw [List.mem_append, List.mem_singleton, List.mem_cons]
    constructor
    · rintro (g | g | g)
      · exact .inl (.inr g)
      · exact .inr g
      · exact .inl (.inl g)
    · rintro ((g | g) | g)
      · exact .inr (.inr g)
      · exact .inl g
      · exact .inr (.inl g)
theorem turn_step {P : Rg} {t all : List Int} {first : Int} (hn : Nd P) (ha : AllR P t) (hf : first ∈ t) (hall : ∀ y ∈ t, y ∈ all) :
    ∃ y, (rOut (rTurn P)).2 = (y, true) ∧ y ∈ t ∧ Nd (rOut (rTurn P)).1 ∧ AllR (rOut (rTurn P)).1 t ∧ (y ≠ first → fp first all.length P + 1 ≤ fp first all.length (rOut (rTurn P)).1) := by
  by_cases h0 : P.left = []
  · have hTe : rTurn P = ⟨shuffled P.done P.ds, [], shufRest P.done P.ds⟩ := by rw [rTurn, if_pos h0]
    have hp := shuffled_perm P.done P.ds
    have hfd : first ∈ P.done := by
      rcases (ha first).2 hf with g | g
      · rw [h0] at g; cases g
      · exact g
    have hnd : P.done.Nodup := by have h : (P.left ++ P.done).Nodup := hn; rw [h0] at h; exact h
    have hTn : Nd (rTurn P) := by
      rw [hTe]; show (shuffled P.done P.ds ++ []).Nodup
      rw [List.append_nil]; exact hp.nodup_iff.2 hnd
    have hTa : AllR (rTurn P) t := fun y => by
      rw [hTe, ← ha y, h0]
      show (y ∈ shuffled P.done P.ds ∨ y ∈ []) ↔ _
      rw [hp.mem_iff]; simp
    cases hl : (rTurn P).left with
    | nil =>
      rw [hTe] at hl
      have hl : shuffled P.done P.ds = [] := hl
      rw [← hp.mem_iff, hl] at hfd; cases hfd
    | cons x l =>
      obtain ⟨g1, g2⟩ := out_step hTn hTa hl
      rw [rOut_cons hl]
      refine ⟨x, rfl, (hTa x).1 (.inl (by rw [hl]; simp)), g1, g2, fun hne => ?_⟩
      have hfl : first ∈ l := by
        have h : first ∈ (rTurn P).left := by rw [hTe]; exact hp.mem_iff.2 hfd
        rw [hl] at h
        rcases List.mem_cons.1 h with g | g
        · exact absurd g.symm hne
        · exact g
      have hlen : P.done.length ≤ all.length := nodup_len hnd fun y hy => hall y ((ha y).1 (.inr hy))
      unfold fp
      rw [if_neg (by rw [h0]; simp)]
      show P.done.length + 0 + 1 ≤ ((rTurn P).done ++ [x]).length + (if first ∈ l then all.length else 0)
      rw [if_pos hfl]; simp; omega
  · have hTe : rTurn P = P := by rw [rTurn, if_neg h0]
    rw [hTe]
    cases hl : P.left with
    | nil => exact absurd hl h0
    | cons x l =>
      obtain ⟨g1, g2⟩ := out_step hn ha hl
      rw [rOut_cons hl]
      refine ⟨x, rfl, (ha x).1 (.inl (by rw [hl]; simp)), g1, g2, fun hne => ?_⟩
      unfold fp
      show P.done.length + (if first ∈ P.left then all.length else 0) + 1 ≤ (P.done ++ [x]).length + (if first ∈ l then all.length else 0)
      rw [hl]
      have : (first ∈ x :: l) ↔ first ∈ l := by rw [List.mem_cons]; constructor; rintro (g | g); exact absurd g.symm hne; exact g; exact .inr
      simp only [this]
      simp; omega
theorem turn_nd {P : Rg} (hn : Nd P) : Nd (rOut (rTurn P)).1 := by
  have hT : Nd (rTurn P) := by
    by_cases h0 : P.left = []
    · have hTe : rTurn P = ⟨shuffled P.done P.ds, [], shufRest P.done P.ds⟩ := by rw [rTurn, if_pos h0]
      rw [hTe]; show (shuffled P.done P.ds ++ []).Nodup
      rw [List.append_nil]
      have h : (P.left ++ P.done).Nodup := hn
      rw [h0] at h; exact (shuffled_perm P.done P.ds).nodup_iff.2 h
    · rw [rTurn, if_neg h0]; exact hn
  cases hl : (rTurn P).left with
  | nil => rw [rOut_nil hl]; exact hT
  | cons x l => rw [rOut_cons hl]; exact (out_step hT (show AllR (rTurn P) ((rTurn P).left ++ (rTurn P).done) from fun y => List.mem_append.symm) hl).1
theorem next_nd {s : Rg} {t : List Int} (hn : Nd s) : Nd (rNext s t).1 := turn_nd (rAdd_all hn).1
/-- Who has not come though there all the time. -/
structure FairR (first : Int) (all : List Int) (i : Nat) (t : List Int) (s : Rg) (seen : Bool) : Prop where
  nd : Nd s
  al : 0 < i → AllR s t
  cnt : seen = false → 0 < i → i + 1 ≤ fp first all.length s
theorem FairR.next {first : Int} {all t t' : List Int} {i : Nat} {s : Rg} {seen : Bool} (h : FairR first all i t s seen) (hf : first ∈ t') (hsub : 0 < i → ∀ y ∈ t, y ∈ t') (hall : ∀ y ∈ t', y ∈ all) :
    ∃ y, (rNext s t').2 = (y, true) ∧ y ∈ t' ∧ FairR first all (i + 1) t' (rNext s t').1 (seen || decide (y = first)) := by
  obtain ⟨h1, h2⟩ := rAdd_all (t := t') h.nd
  obtain ⟨y, g1, g2, g3, g4, g5⟩ := turn_step h1 h2 hf hall
  refine ⟨y, g1, g2, g3, fun _ => g4, fun hs _ => ?_⟩
  simp only [Bool.or_eq_false_iff, decide_eq_false_iff_not] at hs
  have hc := g5 hs.2
  refine Nat.le_trans (Nat.succ_le_succ ?_) hc
  by_cases hi : 0 < i
  · have e1 := h.cnt hs.1 hi
    have hal := h.al hi
    have hst : ∀ l : List Int, (∀ y ∈ l, y ∈ t) → stay (setOf t') l = l := fun l hl => by
      rw [stay_set]; exact List.filter_eq_self.2 fun y hy => by simpa using hsub hi y (hl y hy)
    have ed : (rAdd s t').done = s.done := hst _ fun y hy => (hal y).1 (.inr hy)
    have el : first ∈ s.left → first ∈ (rAdd s t').left := fun g => ((add_inv (there := t') h.nd _ (Nat.le_refl _)).2 first).2 (.inl (by rw [hst _ fun y hy => (hal y).1 (.inl hy)]; exact g))
    unfold fp at e1 ⊢
    rw [ed]
    by_cases g : first ∈ s.left
    · rw [if_pos g] at e1; rw [if_pos (el g)]; exact e1
    · rw [if_neg g] at e1; omega
  · obtain rfl : i = 0 := by omega
    unfold fp
    rcases (h2 first).2 hf with g | g
    · rw [if_pos g]; have := List.length_pos_of_mem (hall first hf); omega
    · have := List.length_pos_of_mem g; omega
theorem FairR.done {first : Int} {all t : List Int} {i : Nat} {s : Rg} {seen : Bool} (h : FairR first all i t s seen) (hf : first ∈ t) (hall : ∀ y ∈ t, y ∈ all) (hi : (i : Int) = 2 * (all.length : Int) - 1) : seen = true := by
  cases hs : seen with
  | true => rfl
  | false =>
    have hp := List.length_pos_of_mem (hall first hf)
    have hi0 : 0 < i := by omega
    have hc := h.cnt hs hi0
    have hal := h.al hi0
    have hnd := List.nodup_append.1 (show (s.left ++ s.done).Nodup from h.nd)
    have hlen : s.done.length ≤ all.length := nodup_len hnd.2.1 fun y hy => hall y ((hal y).1 (.inr hy))
    unfold fp at hc
    by_cases g : first ∈ s.left
    · rw [if_pos g] at hc
      have : (first :: s.done).length ≤ all.length := nodup_len (List.nodup_cons.2 ⟨fun g2 => hnd.2.2 _ g _ g2 rfl, hnd.2.1⟩) fun y hy => by
        rcases List.mem_cons.1 hy with rfl | hy
        · exact hall y hf
        · exact hall y ((hal y).1 (.inr hy))
      simp at this; omega
    · rw [if_neg g] at hc; omega
/-- Who is there at turn i, of the first k who come. -/
def hereUpTo (first : Int) (come at' : List Int) (i : Nat) : Nat → List Int
  | 0 => [first]
  | k + 1 => hereUpTo first come at' i k ++ (match come[k]?, at'[k]? with
    | some c, some a => if a ≤ (i : Int) then [c] else []
    | _, _ => [])
section
variable {first : Int} {come at' : List Int} {i k : Nat} {c a : Int}
theorem here_hit (hc : come[k]? = some c) (ha : at'[k]? = some a) (h : a ≤ (i : Int)) : hereUpTo first come at' i (k + 1) = hereUpTo first come at' i k ++ [c] := by
  rw [hereUpTo, hc, ha]; simp only; rw [if_pos h]
theorem here_miss (hc : come[k]? = some c) (ha : at'[k]? = some a) (h : ¬ a ≤ (i : Int)) : hereUpTo first come at' i (k + 1) = hereUpTo first come at' i k := by
  rw [hereUpTo, hc, ha]; simp only; rw [if_neg h, List.append_nil]
theorem here_len : ∀ k, (hereUpTo first come at' i k).length ≤ k + 1
  | 0 => by simp [hereUpTo]
  | k + 1 => by
    have ih := here_len k
    rw [hereUpTo, List.length_append]
    have : (match come[k]?, at'[k]? with | some c, some a => if a ≤ (i : Int) then [c] else [] | _, _ => []).length ≤ 1 := by
      split
      · split <;> simp
      · simp
    omega
theorem here_first : ∀ k, first ∈ hereUpTo first come at' i k
  | 0 => by simp [hereUpTo]
  | k + 1 => by rw [hereUpTo]; exact List.mem_append_left _ (here_first k)
theorem here_all : ∀ k, ∀ y ∈ hereUpTo first come at' i k, y ∈ first :: come
  | 0, y, hy => by simp [hereUpTo] at hy; simp [hy]
  | k + 1, y, hy => by
    rw [hereUpTo] at hy
    rcases List.mem_append.1 hy with hy | hy
    · exact here_all k y hy
    · split at hy
      · rename_i c a hc ha
        split at hy
        · simp at hy; rw [hy]; exact List.mem_cons_of_mem _ (mem_get hc)
        · cases hy
      · cases hy
theorem here_mono {j : Nat} (hij : j ≤ i) : ∀ k, ∀ y ∈ hereUpTo first come at' j k, y ∈ hereUpTo first come at' i k
  | 0, y, hy => hy
  | k + 1, y, hy => by
    rw [hereUpTo] at hy ⊢
    rcases List.mem_append.1 hy with hy | hy
    · exact List.mem_append_left _ (here_mono hij k y hy)
    · refine List.mem_append_right _ ?_
      split at hy
      · rename_i c a hc ha
        split at hy
        · rename_i h; rw [if_pos (by omega)]; exact hy
        · cases hy
      · cases hy
theorem here_set : ∀ y ∈ hereUpTo first come at' i k, y ∈ setOf (first :: come) := fun y hy => ((setOf_rise _).2 y).2 (here_all k y hy)
end
end Go.Proofs.Ytobigfbgaiglkaa

/- Plain: what a member knows of all; how its table lies in memory. -/
import Derived.Test.YtgipbhfblmblcaaPDelta3
set_option linter.unusedVariables false
namespace Go.Proofs.Ytgipbhfblmblcaa
open Go.Proofs.Ytgipbhfblmblcaa.AM
theorem fidx_idx (p : Rc → Bool) : ∀ l : List Rc, fidx p l = idx p l
  | [] => rfl
  | x :: l => by unfold fidx idx; rw [fidx_idx p l]
def hasId (id : Int) (x : Rc) : Bool := decide (x.id = id)
theorem fnd_has (l : List Rc) (id : Int) : fnd l id = l.find? (hasId id) := rfl
theorem at_some {l : List Rc} {id : Int} (h : ¬ fidxZ (hasId id) l < 0) : ∃ (i : Nat) (y : Rc), fidxZ (hasId id) l = (i : Int) ∧ l[i]? = some y ∧ fidx (hasId id) l = i ∧ y.id = id ∧ fnd l id = some y := by
  unfold fidxZ at h ⊢
  split at h
  · rename_i hlt
    rw [if_pos hlt]
    obtain ⟨y, hy⟩ := get_some hlt
    have hf := fidx_find (hasId id) l
    rw [hy] at hf
    exact ⟨_, y, rfl, hy, rfl, by simpa [hasId] using List.find?_some hf.symm, by rw [fnd_has, ← hf]⟩
  · omega
theorem at_none {l : List Rc} {id : Int} (h : fidxZ (hasId id) l < 0) : fnd l id = none := by
  unfold fidxZ at h
  split at h
  · omega
  · rename_i hlt
    rw [fnd_has, ← fidx_find, List.getElem?_eq_none (by omega)]
theorem at_idx {l : List Rc} {id : Int} {y : Rc} (h : fnd l id = some y) : ∃ i : Nat, l[i]? = some y ∧ fidx (hasId id) l = i ∧ fidxZ (hasId id) l = (i : Int) := by
  rw [fnd_has, ← fidx_find] at h
  exact ⟨_, h, rfl, by rw [fidxZ, if_pos (List.getElem?_eq_some_iff.1 h).1]⟩
theorem set_rput {l : List Rc} {i : Nat} {y y' : Rc} {id : Int} (hi : l[i]? = some y) (hf : fidx (hasId id) l = i) (hid : y'.id = id) : l.set i y' = rput l y' := by
  have hlt := (List.getElem?_eq_some_iff.1 hi).1
  have e : idx (fun x => decide (x.id = y'.id)) l = i := by rw [← hf, fidx_idx, hid]; rfl
  rw [rput_hit (by omega), e]
theorem rput_len_hit {l : List Rc} {i : Nat} {y y' : Rc} {id : Int} (hi : l[i]? = some y) (hf : fidx (hasId id) l = i) (hid : y'.id = id) : (rput l y').length = l.length := by rw [← set_rput hi hf hid, List.length_set]
theorem rput_pos (l : List Rc) (r : Rc) : 0 < (rput l r).length := by
  unfold rput
  split
  · rw [List.length_set]; omega
  · simp; omega
def wthInc (r : Rc) (i : Int) : Rc := ⟨r.id, i, r.st, r.sp, r.cut, r.bag⟩
def wthBag (r : Rc) (b : List Fd) : Rc := ⟨r.id, r.inc + 1, r.st, r.sp, false, b⟩
def refT (me : Int) (l : List Rc) (x : Rc) : List Rc × Int := match fnd l me with
  | none => (l, 0)
  | some o => if ¬ (o.inc < x.inc ∨ (x.inc = o.inc ∧ x.st ≠ 0)) ∨ o.st = 3 ∨ 281474976710655 ≤ x.inc then (l, 0) else (rput l (wthInc o (x.inc + 1)), 4)
def joinT (me room : Int) (l : List Rc) (x : Rc) : List Rc × Int := if recValid x = false then (l, 0) else if x.id = me then refT me l x else match fnd l x.id with
  | none => if room ≤ (l.length : Int) then (l, 3) else (rput l x, 1)
  | some y => if jn y x = y then (l, 0) else (rput l (jn y x), 2)
def moveT (me : Int) (l : List Rc) (id inc s s' : Int) : List Rc × Bool := match fnd l id with
  | none => (l, false)
  | some y => if id = me ∨ y.inc ≠ inc ∨ y.st ≠ s then (l, false) else (rput l (withSt y s'), true)
def changeT (me : Int) (l : List Rc) (b : List Fd) : List Rc × Int := if bagValid b = false then (l, 1) else match fnd l me with
  | none => (l, 15)
  | some o => if o.st = 3 then (l, 15) else if 281474976710655 ≤ o.inc then (l, 6) else (rput l (wthBag o b), 0)
def leaveT (me : Int) (l : List Rc) : List Rc × Bool := match fnd l me with
  | none => (l, false)
  | some o => if o.st = 3 then (l, false) else (rput l (withSt o 3), true)
/-- A table as it lies in memory. -/
def tabA (me room : Int) (r n : Nat) : AV := .agg [.int .i64 me, .int .i64 room, .own r 7 0 n]
structure Tb (G : AHeap) (p r : Nat) (me room : Int) (l : List Rc) : Prop where
  tp : G p = some (.box (tabA me room r l.length))
  tr : G r = some (.row 7 (l.map encR))
theorem Tb.mono {G H : AHeap} {p r : Nat} {me room : Int} {l : List Rc} (h : Tb G p r me room l) (hs : G.sub H) : Tb H p r me room l := ⟨hs _ _ h.tp, hs _ _ h.tr⟩
theorem Tb.ne {G : AHeap} {p r : Nat} {me room : Int} {l : List Rc} (h : Tb G p r me room l) : p ≠ r := fun e => by
  have h1 := h.tp; rw [e, h.tr] at h1; cases h1
theorem Tb.view {G : AHeap} {p r : Nat} {me room : Int} {l : List Rc} (h : Tb G p r me room l) : (AV.own r 7 0 l.length).view G = some (l.map encR) := AV.view_own_all h.tr (by simp)
/-- What an act leaves behind. -/
def TE (n p r : Nat) (me room : Int) (l l' : List Rc) (effs : List (Nat × ARow)) : Prop :=
  (effs = [] ∧ l' = l) ∨ ∃ r', (r' = r ∨ n ≤ r') ∧ effs = [(p, .box (tabA me room r' l'.length)), (r', .row 7 (l'.map encR))]
theorem TE.mono {n m p r : Nat} {me room : Int} {l l' : List Rc} {effs : List (Nat × ARow)} (h : TE m p r me room l l' effs) (hn : n ≤ m) : TE n p r me room l l' effs := h.imp id fun ⟨r', h1, h2⟩ => ⟨r', h1.imp id (fun h => Nat.le_trans hn h), h2⟩
theorem TE.dom {n p r : Nat} {me room : Int} {l l' : List Rc} {effs : List (Nat × ARow)} (h : TE n p r me room l l' effs) : ∀ q ∈ effs, q.1 = p ∨ q.1 = r ∨ n ≤ q.1 := fun q hq => by
  rcases h with ⟨rfl, _⟩ | ⟨r', h1, rfl⟩
  · cases hq
  · simp at hq
    rcases hq with rfl | rfl
    · exact .inl rfl
    · exact .inr h1
theorem Tb.step {G : AHeap} {n p r : Nat} {me room : Int} {l l' : List Rc} {effs : List (Nat × ARow)} (h : Tb G p r me room l) (hdom : ∀ b, n ≤ b → G b = none) (he : TE n p r me room l l' effs) :
    ∃ r', (r' = r ∨ n ≤ r') ∧ Tb (setAll G effs) p r' me room l' := by
  rcases he with ⟨rfl, rfl⟩ | ⟨r', h1, rfl⟩
  · exact ⟨r, .inl rfl, h⟩
  · refine ⟨r', h1, ?_⟩
    have hpr : p ≠ r' := fun e => by
      subst e
      rcases h1 with h1 | h1
      · exact h.ne h1
      · have := h.tp; rw [hdom _ h1] at this; cases this
    have eG : setAll G [(p, .box (tabA me room r' l'.length)), (r', .row 7 (l'.map encR))] = (G.set r' (.row 7 (l'.map encR))).set p (.box (tabA me room r' l'.length)) := rfl
    rw [eG]
    exact ⟨AHeap.get_set _ _ _, by rw [AHeap.get_set_ne _ _ (Ne.symm hpr)]; exact AHeap.get_set _ _ _⟩
/-- Where the table's own words stay, they may be told again. -/
theorem Tb.keepbox {G : AHeap} {p r : Nat} {me room : Int} {l l' : List Rc} (h : Tb G p r me room l) (hl : l'.length = l.length) : setAll G [(p, .box (tabA me room r l'.length)), (r, .row 7 (l'.map encR))] = G.set r (.row 7 (l'.map encR)) := by
  have eG : setAll G [(p, .box (tabA me room r l'.length)), (r, .row 7 (l'.map encR))] = (G.set r (.row 7 (l'.map encR))).set p (.box (tabA me room r l'.length)) := rfl
  rw [eG, hl]
  exact AHeap.set_same _ _ _ (by rw [AHeap.get_set_ne _ _ h.ne]; exact h.tp)
theorem setAll_mono {H G : AHeap} (h : H.sub G) : ∀ (e : List (Nat × ARow)), (setAll H e).sub (setAll G e)
  | [] => h
  | (b, x) :: e => sub_set_set (setAll_mono h e) b x
/-- The table of a call's own. -/
def MSt (n0 p : Nat) (H G : AHeap) (me room : Int) (l : List Rc) : Prop := ∃ r, Tb G p r me room l ∧ n0 ≤ p ∧ n0 ≤ r ∧ H.sub G
theorem sub_setAll {H G : AHeap} {n0 : Nat} (hz : ∀ b, n0 ≤ b → H b = none) (h : H.sub G) : ∀ (effs : List (Nat × ARow)), (∀ q ∈ effs, n0 ≤ q.1) → H.sub (setAll G effs)
  | [], _ => h
  | (b, x) :: effs, hq => by
    have e : setAll G ((b, x) :: effs) = (setAll G effs).set b x := rfl
    rw [e]
    exact sub_set_free _ (sub_setAll hz h effs fun q hq' => hq q (by simp [hq'])) (hz _ (hq (b, x) (by simp)))
theorem MSt.step {n0 n p r : Nat} {H G : AHeap} {me room : Int} {l l' : List Rc} {effs : List (Nat × ARow)} (hz : ∀ b, n0 ≤ b → H b = none) (h : Tb G p r me room l) (hp : n0 ≤ p) (hr : n0 ≤ r) (hs : H.sub G) (hn : n0 ≤ n) (hdom : ∀ b, n ≤ b → G b = none) (he : TE n p r me room l l' effs) : MSt n0 p H (setAll G effs) me room l' := by
  obtain ⟨r', h1, h2⟩ := h.step hdom he
  refine ⟨r', h2, hp, ?_, sub_setAll hz hs _ fun q hq => ?_⟩
  · rcases h1 with rfl | h1 <;> omega
  · rcases he.dom q hq with h3 | h3 | h3 <;> omega
theorem recValid_ids {a : Rc} (h : recValid a = true) : 0 ≤ a.id ∧ a.id ≤ 4095 ∧ 0 ≤ a.inc ∧ a.inc ≤ 281474976710655 ∧ 0 ≤ a.st ∧ a.st ≤ 3 := by
  simp only [recValid, Bool.and_eq_true, decide_eq_true_eq] at h
  exact h.1.1.1
theorem fnd_one (a : Rc) : fnd [a] a.id = some a := by simp [fnd]
end Go.Proofs.Ytgipbhfblmblcaa

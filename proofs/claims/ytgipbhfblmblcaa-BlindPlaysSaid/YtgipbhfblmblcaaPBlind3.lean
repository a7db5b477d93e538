/- Plain: what holds of a world stays so. -/
import Derived.Test.YtgipbhfblmblcaaPBlind2
set_option linter.unusedVariables false
namespace Go.Proofs.Ytgipbhfblmblcaa
open Go.Proofs.Ytgipbhfblmblcaa.AM
section
variable {room : Int} {s : Wd}
theorem WOk.setS (h : WOk room s) (i : Nat) {l : List Rc} (hl : MInv (i : Int) room l) : WOk room (setT s i (some l)) := by
  refine ⟨?_, ?_, fun j m hm => ?_, h.lsz, h.bag⟩
  · show s.cells.length = (s.tl.set i (some l)).length
    rw [List.length_set]; exact h.len
  · show (s.tl.set i (some l)).length ≤ 32
    rw [List.length_set]; exact h.n32
  · have hm : (s.tl.set i (some l))[j]? = some (some m) := hm
    rw [List.getElem?_set] at hm
    by_cases e : i = j
    · subst e
      rw [if_pos rfl] at hm
      split at hm
      · injection hm with hm; injection hm with hm; subst hm; exact hl
      · cases hm
    · rw [if_neg e] at hm; exact h.inv j m hm
theorem WOk.setN (h : WOk room s) (i : Nat) : WOk room (setT s i none) := by
  refine ⟨?_, ?_, fun j m hm => ?_, h.lsz, h.bag⟩
  · show s.cells.length = (s.tl.set i none).length
    rw [List.length_set]; exact h.len
  · show (s.tl.set i none).length ≤ 32
    rw [List.length_set]; exact h.n32
  · have hm : (s.tl.set i none)[j]? = some (some m) := hm
    rw [List.getElem?_set] at hm
    by_cases e : i = j
    · subst e
      rw [if_pos rfl] at hm
      split at hm
      · injection hm with hm; cases hm
      · cases hm
    · rw [if_neg e] at hm; exact h.inv j m hm
theorem WOk.put (h : WOk room s) (k : Int) {l : List Rc} (hn : l.length ≤ 1000) (hb : ∀ x ∈ l, Small x.bag) : WOk room ⟨s.tl, s.cells, pput s.post k l⟩ := by
  have key : ∀ (j : Int) (m : List Rc), pget (pput s.post k l) j = some m → m = l ∨ pget s.post j = some m := fun j m hm => by
    rw [pget_pput] at hm
    split at hm
    · injection hm with hm; exact .inl hm.symm
    · exact .inr hm
  refine ⟨h.len, h.n32, h.inv, fun j m hm => ?_, fun j m hm => ?_⟩
  · rcases key j m hm with rfl | g
    · exact hn
    · exact h.lsz j m g
  · rcases key j m hm with rfl | g
    · exact hb
    · exact h.bag j m g
theorem lOf_inv (h : WOk room s) {i : Nat} {l : List Rc} (hl : lOf s i = some l) : MInv (i : Int) room l := by
  unfold lOf at hl
  cases hi : s.tl[i]? with
  | none => rw [hi] at hl; cases hl
  | some o => rw [hi] at hl; have : o = some l := hl; subst this; exact h.inv i l hi
theorem joinAll_inv (me : Int) : ∀ (m : List Rc) {l : List Rc}, MInv me room l → (∀ x ∈ m, Small x.bag) → MInv me room (joinAll me room l m)
  | [], l, hl, _ => hl
  | x :: m, l, hl, hb => by
    obtain ⟨o, ho⟩ := hl.o
    exact joinAll_inv me m ((join_step hl ho (hb x (by simp))).inv hl) fun y hy => hb y (by simp [hy])
theorem againW_ok (h : WOk room s) (x : Mv) : WOk room (againW s x).1 := by
  rcases again_cases s x with ⟨e, _⟩ | ⟨l, hl, ho, e⟩
  · rw [e]; exact h
  · rw [e]; exact h.put _ (h.lsz _ _ hl) (h.bag _ _ hl)
theorem hearW_ok (h : WOk room s) {i : Nat} {l : List Rc} (hl : MInv (i : Int) room l) (x : Mv) : WOk room (hearW room s i l x).1 := by
  unfold hearW
  split
  · exact h
  · rename_i m hm
    split
    · exact h
    · exact h.setS i (joinAll_inv _ m hl (h.bag _ _ hm))
theorem sendW_ok (h : WOk room s) (l : List Rc) (x : Mv) (hx : x.recs.length ≤ 1000) : WOk room (sendW s l x).1 := by
  unfold sendW
  split
  · exact h
  · refine h.put _ (by unfold coresOf; rw [List.length_map]; exact hx) fun y hy => ?_
    unfold coresOf at hy
    obtain ⟨z, _, rfl⟩ := List.mem_map.1 hy
    show Small []
    simp [Small, bsize]
theorem small0 : Small [] := by simp [Small, bsize]
theorem doW_ok (h : WOk room s) {i : Nat} (x : Mv) (hx : x.recs.length ≤ 1000) (hboot : WOk room (bootW s i x).1) : WOk room (doW room s i x).1 := by
  unfold doW
  split
  · exact hboot
  · split
    · exact againW_ok h x
    · cases hl : lOf s i with
      | none => exact h
      | some l =>
        have hM := lOf_inv h hl
        obtain ⟨o, ho⟩ := hM.o
        show WOk room (if x.kind = 2 then _ else _ : Wd × Bool).1
        split
        · exact h.setN i
        · split
          · exact sendW_ok h l x hx
          · split
            · exact hearW_ok h hM x
            · split
              · exact h.setS i ((move_step hM (by decide) (by decide) (by decide)).inv hM)
              · split
                · exact h.setS i ((move_step hM (by decide) (by decide) (by decide)).inv hM)
                · split
                  · exact h.setS i ((change_step hM ho small0).inv hM)
                  · exact h.setS i ((leave_step hM ho).inv hM)
theorem valid_core {r : Rc} (h : recValid r = true) : recValid (core r) = true := by
  have h9 := recValid_ids h
  simp only [recValid, core, Bool.and_eq_true] at h ⊢
  obtain ⟨⟨⟨h1, h2⟩, h3⟩, h4⟩ := h
  exact ⟨⟨⟨decide_eq_true (by omega), h2⟩, rfl⟩, rfl⟩
theorem bootW_ok (h : WOk room s) (h1 : 1 ≤ room) (h48 : room ≤ 48) (i : Nat) (x : Mv) : WOk room (bootW s i x).1 := by
  unfold bootW
  split
  · rename_i r _ _
    split
    · rename_i hc
      have := begin_inv (room := room) (valid_core hc.1) small0 h1 h48
      rw [show (core r).id = (i : Int) from hc.2.1] at this
      exact h.setS i this
    · exact h
  · exact h
theorem cellW_ok (h : WOk room s) (i : Nat) : WOk room (cellW s i) := by
  unfold cellW
  split
  · exact h
  · exact ⟨by show (s.cells.set i _).length = _; rw [List.length_set]; exact h.len, h.n32, h.inv, h.lsz, h.bag⟩
end
end Go.Proofs.Ytgipbhfblmblcaa

/- Plain: moves in a row; what grows; that what is known has been had. -/
import Derived.Test.YtgipbhfblmblcaaPBlind3
set_option linter.unusedVariables false
namespace Go.Proofs.Ytgipbhfblmblcaa
open Go.Proofs.Ytgipbhfblmblcaa.AM
/-- A move, as it is answered. -/
def DoW (room : Int) (s : Wd) (x : Mv) : Wd × Int :=
  if x.kind < 1 ∨ 9 < x.kind ∨ x.node < 0 ∨ (s.tl.length : Int) ≤ x.node then (s, 1)
  else if (doW room s x.node.toNat x).2 = false then ((doW room s x.node.toNat x).1, 17)
  else (cellW (doW room s x.node.toNat x).1 x.node.toNat, 0)
def Had (had : List Rc) (y : Rc) : Prop := ∃ h ∈ had, h.id = y.id ∧ h.inc = y.inc ∧ h.sp = y.sp
theorem Had.mono {a b : List Rc} {y : Rc} (h : Had a y) (hs : ∀ x ∈ a, x ∈ b) : Had b y := by
  obtain ⟨x, h1, h2⟩ := h; exact ⟨x, hs x h1, h2⟩
theorem Had.as {a : List Rc} {y z : Rc} (h : Had a y) (h1 : y.id = z.id) (h2 : y.inc = z.inc) (h3 : y.sp = z.sp) : Had a z := by
  obtain ⟨x, g0, g1, g2, g3⟩ := h; exact ⟨x, g0, g1.trans h1, g2.trans h2, g3.trans h3⟩
def Near (had : List Rc) (me : Int) (l : List Rc) : Prop := ∀ y ∈ l, y.id = me ∨ Had had y
section
variable {had : List Rc} {me room : Int} {l : List Rc}
theorem Near.put {y' : Rc} (h : Near had me l) (hy : y'.id = me ∨ Had had y') : Near had me (rput l y') := fun z hz => by
  rcases rput_mem hz with rfl | hz
  · exact hy
  · exact h z hz
theorem jn_had {a b : Rc} (hab : a.id = b.id) (ha : Had had a) (hb : Had had b) : Had had (jn a b) := by
  rw [jn]
  split
  · exact hb
  · split
    · split
      · exact hb.as rfl rfl rfl
      · exact ha.as rfl rfl rfl
    · exact ha
theorem near_ref {x : Rc} (h : Near had me l) : Near had me (refT me l x).1 := by
  rw [refT]
  cases ho : fnd l me with
  | none => exact h
  | some o =>
    show Near had me (if _ then (l, (0 : Int)) else _).1
    split
    · exact h
    · exact h.put (.inl (show o.id = me from fnd_id ho))
theorem near_join {x : Rc} (h : Near had me l) (hx : Had had x) : Near had me (joinT me room l x).1 := by
  rw [joinT]
  split
  · exact h
  · split
    · exact near_ref h
    · cases hf : fnd l x.id with
      | none =>
        show Near had me (if _ then (l, (3 : Int)) else _).1
        split
        · exact h
        · exact h.put (.inr hx)
      | some y =>
        show Near had me (if _ then (l, (0 : Int)) else _).1
        split
        · exact h
        · rename_i hne _
          have hid := fnd_id hf
          refine h.put (.inr (jn_had hid ?_ hx))
          rcases h y (fnd_in hf) with e | g
          · exact absurd (hid.symm.trans e) hne
          · exact g
theorem near_joinAll : ∀ (m : List Rc) {l : List Rc}, Near had me l → (∀ x ∈ m, Had had x) → Near had me (joinAll me room l m)
  | [], l, hl, _ => hl
  | x :: m, l, hl, hb => near_joinAll m (near_join hl (hb x (by simp))) fun y hy => hb y (by simp [hy])
theorem near_move {id inc s s' : Int} (h : Near had me l) : Near had me (moveT me l id inc s s').1 := by
  rw [moveT]
  cases hf : fnd l id with
  | none => exact h
  | some y =>
    show Near had me (if _ then (l, false) else _).1
    split
    · exact h
    · exact h.put ((h y (fnd_in hf)).imp (fun g => g) fun g => g.as rfl rfl rfl)
theorem near_change {b : List Fd} (h : Near had me l) : Near had me (changeT me l b).1 := by
  rw [changeT]
  split
  · exact h
  · cases ho : fnd l me with
    | none => exact h
    | some o =>
      show Near had me (if _ then (l, (15 : Int)) else if _ then _ else _).1
      split
      · exact h
      · split
        · exact h
        · exact h.put (.inl (show o.id = me from fnd_id ho))
theorem near_leave (h : Near had me l) : Near had me (leaveT me l).1 := by
  rw [leaveT]
  cases ho : fnd l me with
  | none => exact h
  | some o =>
    show Near had me (if _ then (l, false) else _).1
    split
    · exact h
    · exact h.put (.inl (show o.id = me from fnd_id ho))
theorem near_own (hm : MInv me room l) (h : Near had me l) : ∀ y ∈ l, Had (had ++ [(rfind l me).1]) y := fun y hy => by
  rcases h y hy with e | g
  · have hf := mem_find (srt_incr hm.s).1 hy
    rw [e] at hf
    refine ⟨(rfind l me).1, by simp, ?_⟩
    rw [rfind_fst, show fnd l me = some y from hf]
    exact ⟨rfl, rfl, rfl⟩
  · exact g.mono fun x hx => by simp [hx]
end
section
variable {room : Int} {s : Wd}
theorem lOf_setS {i : Nat} {o : Option (List Rc)} (hi : i < s.tl.length) : lOf (setT s i o) i = o := by
  unfold lOf setT; simp [hi]
theorem lOf_setT_ne {i j : Nat} {o : Option (List Rc)} (h : j ≠ i) : lOf (setT s i o) j = lOf s j := by
  unfold lOf setT; rw [List.getElem?_set, if_neg (Ne.symm h)]
theorem lOf_lt {i : Nat} {l : List Rc} (h : lOf s i = some l) : i < s.tl.length := by
  unfold lOf at h
  rcases Nat.lt_or_ge i s.tl.length with g | g
  · exact g
  · rw [List.getElem?_eq_none g] at h; cases h
theorem setT_self {i : Nat} {l : List Rc} (h : lOf s i = some l) : setT s i (some l) = s := by
  have hi := lOf_lt h
  have h2 : s.tl[i]? = some (some l) := by
    unfold lOf at h
    cases hx : s.tl[i]? with
    | none => rw [hx] at h; cases h
    | some o => rw [hx] at h; have : o = some l := h; rw [this]
  have h3 : s.tl.set i (some l) = s.tl := by
    refine List.ext_getElem? fun j => ?_
    rw [List.getElem?_set]
    by_cases e : i = j
    · subst e; rw [if_pos rfl, if_pos hi, h2]
    · rw [if_neg e]
  unfold setT; rw [h3]
theorem again_no {x : Mv} (h : (againW s x).2 = false) : (againW s x).1 = s := by
  rcases again_cases s x with ⟨e, _⟩ | ⟨_, _, _, e⟩
  · rw [e]
  · rw [e] at h; cases h
theorem moveT_no {me : Int} {l : List Rc} {id inc a b : Int} (h : (moveT me l id inc a b).2 = false) : (moveT me l id inc a b).1 = l := by
  rw [moveT] at h ⊢
  cases hf : fnd l id with
  | none => rfl
  | some y =>
    rw [hf] at h
    have h : (if id = me ∨ y.inc ≠ inc ∨ y.st ≠ a then (l, false) else (rput l (withSt y b), true)).2 = false := h
    show (if id = me ∨ y.inc ≠ inc ∨ y.st ≠ a then (l, false) else (rput l (withSt y b), true)).1 = l
    split at h
    · rw [if_pos (by assumption)]
    · cases h
theorem changeT_no {me : Int} {l : List Rc} {b : List Fd} (h : (changeT me l b).2 ≠ 0) : (changeT me l b).1 = l := by
  rw [changeT] at h ⊢
  split at h
  · rw [if_pos (by assumption)]
  · rw [if_neg (by assumption)]
    cases ho : fnd l me with
    | none => rfl
    | some o =>
      rw [ho] at h
      have h : (if o.st = 3 then (l, (15 : Int)) else if 281474976710655 ≤ o.inc then (l, 6) else (rput l (wthBag o b), 0)).2 ≠ 0 := h
      show (if o.st = 3 then (l, (15 : Int)) else if 281474976710655 ≤ o.inc then (l, 6) else (rput l (wthBag o b), 0)).1 = l
      by_cases c : o.st = 3
      · rw [if_pos c]
      · rw [if_neg c] at h ⊢
        by_cases d : 281474976710655 ≤ o.inc
        · rw [if_pos d]
        · rw [if_neg d] at h; exact absurd rfl h
theorem leaveT_no {me : Int} {l : List Rc} (h : (leaveT me l).2 = false) : (leaveT me l).1 = l := by
  rw [leaveT] at h ⊢
  cases ho : fnd l me with
  | none => rfl
  | some o =>
    rw [ho] at h
    have h : (if o.st = 3 then (l, false) else (rput l (withSt o 3), true)).2 = false := h
    show (if o.st = 3 then (l, false) else (rput l (withSt o 3), true)).1 = l
    split at h
    · rw [if_pos (by assumption)]
    · cases h
/-- What is no move changes nothing. -/
theorem doW_no {i : Nat} {x : Mv} (h : (doW room s i x).2 = false) : (doW room s i x).1 = s := by
  unfold doW at h ⊢
  by_cases k1 : x.kind = 1
  · rw [if_pos k1] at h ⊢
    unfold bootW at h ⊢
    split at h
    · split at h
      · cases h
      · rw [if_neg (by assumption)]
    · rfl
  · rw [if_neg k1] at h ⊢
    by_cases k4 : x.kind = 4
    · rw [if_pos k4] at h ⊢; exact again_no h
    · rw [if_neg k4] at h ⊢
      cases hl : lOf s i with
      | none => rfl
      | some l =>
        rw [hl] at h
        simp only at h ⊢
        by_cases k2 : x.kind = 2
        · rw [if_pos k2] at h; cases h
        · rw [if_neg k2] at h ⊢
          by_cases k3 : x.kind = 3
          · rw [if_pos k3] at h ⊢
            unfold sendW at h ⊢
            split at h
            · rw [if_pos (by assumption)]
            · cases h
          · rw [if_neg k3] at h ⊢
            by_cases k5 : x.kind = 5
            · rw [if_pos k5] at h ⊢
              unfold hearW at h ⊢
              split at h
              · rfl
              · split at h
                · rw [if_pos (by assumption)]
                · cases h
            · rw [if_neg k5] at h ⊢
              by_cases k6 : x.kind = 6
              · rw [if_pos k6] at h ⊢; rw [moveT_no h]; exact setT_self hl
              · rw [if_neg k6] at h ⊢
                by_cases k7 : x.kind = 7
                · rw [if_pos k7] at h ⊢; rw [moveT_no h]; exact setT_self hl
                · rw [if_neg k7] at h ⊢
                  by_cases k8 : x.kind = 8
                  · rw [if_pos k8] at h ⊢; rw [changeT_no (by simpa using h)]; exact setT_self hl
                  · rw [if_neg k8] at h ⊢; rw [leaveT_no h]; exact setT_self hl
structure GInv (s : Wd) (had : List Rc) : Prop where
  tb : ∀ (i : Nat) (l : List Rc), lOf s i = some l → ∀ y ∈ l, Had had y
  lt : ∀ (k : Int) (l : List Rc), pget s.post k = some l → ∀ y ∈ l, Had had y
def hadN (had : List Rc) (s : Wd) (i : Nat) : List Rc := match lOf s i with
  | none => had
  | some l => had ++ [(rfind l (i : Int)).1]
theorem hadN_mono (had : List Rc) (s : Wd) (i : Nat) : ∀ x ∈ had, x ∈ hadN had s i := fun x hx => by
  unfold hadN; split
  · exact hx
  · simp [hx]
theorem GInv.mono {a b : List Rc} (h : GInv s a) (hs : ∀ x ∈ a, x ∈ b) : GInv s b := ⟨fun i l hl y hy => (h.tb i l hl y hy).mono hs, fun k l hl y hy => (h.lt k l hl y hy).mono hs⟩
/-- A table that is turned. -/
theorem GInv.put {had : List Rc} (h : GInv s had) {i : Nat} {l : List Rc} (hi : i < s.tl.length) (hM : MInv (i : Int) room l) (hn : Near had (i : Int) l) : GInv (setT s i (some l)) (hadN had (setT s i (some l)) i) := by
  refine ⟨fun j m hm y hy => ?_, fun k m hm y hy => (h.lt k m hm y hy).mono (hadN_mono _ _ _)⟩
  by_cases e : j = i
  · subst e
    rw [lOf_setS hi] at hm; cases hm
    unfold hadN; rw [lOf_setS hi]
    exact near_own hM hn y hy
  · rw [lOf_setT_ne e] at hm
    exact (h.tb j m hm y hy).mono (hadN_mono _ _ _)
theorem GInv.letter {had : List Rc} (h : GInv s had) {k : Int} {l : List Rc} (hl : ∀ y ∈ l, Had had y) : GInv ⟨s.tl, s.cells, pput s.post k l⟩ had := by
  refine ⟨h.tb, fun j m hm => ?_⟩
  have hm : pget (pput s.post k l) j = some m := hm
  rw [pget_pput] at hm
  split at hm
  · cases hm; exact hl
  · exact h.lt j m hm
theorem GInv.step {had : List Rc} (hok : WOk room s) (h : GInv s had) {i : Nat} {x : Mv} (hi : i < s.tl.length) (hok2 : WOk room (doW room s i x).1) : GInv (doW room s i x).1 (hadN had (doW room s i x).1 i) := by
  have same : ∀ {t : Wd}, GInv t had → GInv t (hadN had t i) := fun g => g.mono (hadN_mono _ _ _)
  unfold doW at hok2 ⊢
  by_cases k1 : x.kind = 1
  · rw [if_pos k1] at hok2 ⊢
    unfold bootW at hok2 ⊢
    split
    · rename_i r e1 e2
      rw [e1, e2] at hok2
      simp only at hok2
      split
      · rename_i hc
        rw [if_pos hc] at hok2
        exact h.put (room := room) hi (lOf_inv hok2 (lOf_setS hi)) fun y hy => .inl (by rw [List.mem_singleton.1 hy]; exact hc.2.1)
      · exact same h
    · exact same h
  · rw [if_neg k1] at hok2 ⊢
    by_cases k4 : x.kind = 4
    · rw [if_pos k4] at hok2 ⊢
      rcases again_cases s x with ⟨e, _⟩ | ⟨l, hl, ho, e⟩ <;> rw [e]
      · exact same h
      · exact same (h.letter (h.lt _ _ hl))
    · rw [if_neg k4] at hok2 ⊢
      cases hl : lOf s i with
      | none => exact same h
      | some l =>
        rw [hl] at hok2
        simp only at hok2 ⊢
        have hN : Near had (i : Int) l := fun y hy => .inr (h.tb i l hl y hy)
        by_cases k2 : x.kind = 2
        · rw [if_pos k2]
          refine same ⟨fun j m hm => ?_, h.lt⟩
          by_cases e : j = i
          · subst e; rw [lOf_setS hi] at hm; cases hm
          · rw [lOf_setT_ne e] at hm; exact h.tb j m hm
        · rw [if_neg k2] at hok2 ⊢
          by_cases k3 : x.kind = 3
          · rw [if_pos k3] at hok2 ⊢
            unfold sendW
            split
            · exact same h
            · rename_i hc
              refine same (h.letter fun y hy => ?_)
              unfold coresOf at hy
              obtain ⟨z, hz, rfl⟩ := List.mem_map.1 hy
              have hall : (x.recs.all fun r => (rfind l r.id).2 && akin (rfind l r.id).1 r) = true := by
                cases hx : (x.recs.all fun r => (rfind l r.id).2 && akin (rfind l r.id).1 r) with
                | true => rfl
                | false => exact absurd (.inr hx) hc
              have hz2 := List.all_eq_true.1 hall z hz
              rw [Bool.and_eq_true] at hz2
              have hak := hz2.2
              unfold akin at hak
              have hak := of_decide_eq_true hak
              exact (h.tb i l hl _ (fnd_in (rfind_yes hz2.1))).as hak.1 hak.2.1 hak.2.2.2
          · rw [if_neg k3] at hok2 ⊢
            by_cases k5 : x.kind = 5
            · rw [if_pos k5] at hok2 ⊢
              unfold hearW at hok2 ⊢
              split
              · exact same h
              · rename_i m hm
                rw [hm] at hok2
                simp only at hok2
                split
                · exact same h
                · rename_i hc
                  rw [if_neg hc] at hok2
                  exact h.put hi (lOf_inv hok2 (lOf_setS hi)) (near_joinAll m hN (h.lt _ _ hm))
            · rw [if_neg k5] at hok2 ⊢
              by_cases k6 : x.kind = 6
              · rw [if_pos k6] at hok2 ⊢; exact h.put hi (lOf_inv hok2 (lOf_setS hi)) (near_move hN)
              · rw [if_neg k6] at hok2 ⊢
                by_cases k7 : x.kind = 7
                · rw [if_pos k7] at hok2 ⊢; exact h.put hi (lOf_inv hok2 (lOf_setS hi)) (near_move hN)
                · rw [if_neg k7] at hok2 ⊢
                  by_cases k8 : x.kind = 8
                  · rw [if_pos k8] at hok2 ⊢; exact h.put hi (lOf_inv hok2 (lOf_setS hi)) (near_change hN)
                  · rw [if_neg k8] at hok2 ⊢; exact h.put hi (lOf_inv hok2 (lOf_setS hi)) (near_leave hN)
end
end Go.Proofs.Ytgipbhfblmblcaa

/- Plain: the plain world goes as the world goes. -/
import Derived.Test.YtgipbhfblmblcaaPBlind7
set_option linter.unusedVariables false
namespace Go.Proofs.Ytgipbhfblmblcaa
open Go.Proofs.Ytgipbhfblmblcaa.AM
theorem rg_cases (n room : Int) : (n < 1 ∨ 32 < n ∨ room < 1 ∨ 48 < room) ∨ ∃ nn : Nat, n = (nn : Int) ∧ 1 ≤ nn ∧ nn ≤ 32 ∧ 1 ≤ room ∧ room ≤ 48 := by
  by_cases h : n < 1 ∨ 32 < n ∨ room < 1 ∨ 48 < room
  · exact .inl h
  · obtain ⟨j, rfl⟩ := Int.eq_ofNat_of_zero_le (a := n) (by omega)
    exact .inr ⟨j, rfl, by omega⟩
/-- A part in which a block is written. -/
theorem Sep.write {n0 b : Nat} {G h : AHeap} {l1 l2 : List AHeap} (x : ARow) (hS : Sep n0 G (l1 ++ h :: l2)) (hb : h b ≠ none) : Sep n0 (G.set b x) (l1 ++ h.set b x :: l2) := by
  have hh := hS.1 h (by simp)
  refine hS.repl (sub_set_set hh.1 b x) (fun c hc => ?_) fun a ha => ?_
  · by_cases e : c = b
    · subst e; exact hh.2 _ hb
    · rw [AHeap.get_set_ne _ _ e] at hc; exact hh.2 c hc
  · have hab : a b = none := hS.apart ha b hb
    have has : a.sub G := (hS.1 a (by rcases ha with ha | ha <;> simp [ha])).1
    refine ⟨fun c y hc => ?_, fun c hc => ?_⟩
    · rw [AHeap.get_set_ne _ _ (fun e => by rw [e, hab] at hc; cases hc)]; exact has c y hc
    · by_cases e : c = b
      · rw [e]; exact hab
      · rw [AHeap.get_set_ne _ _ e] at hc; exact hS.apart ha c hc
/-- Where the plain world starts. -/
theorem newM {N n ur hr cr : Nat} {G0 G' h1 : AHeap} (hS : Sep N G0 [h1, noH]) (hs0 : ∀ b, b ≠ ur → b ≠ hr → b ≠ cr → G' b = G0 b) (hu : G' ur = some (.row 1 (List.replicate n (.bool false)))) (hh : G' hr = some (.row 3 (List.replicate n (mdl 0 0 [])))) (hc : G' cr = some (.row 1 (List.replicate n (.int .i64 0))))
    (nu : N ≤ ur) (nh : N ≤ hr) (nc : N ≤ cr) (fu : G0 ur = none) (fh : G0 hr = none) (fc : G0 cr = none) (huc : ur ≠ cr) :
    ∃ h2, Sep N G' [h1, h2] ∧ LA h2 ur hr cr .nil0 ⟨List.replicate n false, List.replicate n (0, 0, []), List.replicate n 0, []⟩ := by
  have hs : G0.sub G' := fun b y hb => by rw [hs0 b (fun e => by rw [e, fu] at hb; cases hb) (fun e => by rw [e, fh] at hb; cases hb) (fun e => by rw [e, fc] at hb; cases hb)]; exact hb
  have huh : ur ≠ hr := row_ne hu hh (by decide)
  have hch : cr ≠ hr := row_ne hc hh (by decide)
  have e1 : (List.replicate n false).map AV.bool = List.replicate n (AV.bool false) := by rw [List.map_replicate]
  have e2 : (List.replicate n ((0 : Int), (0 : Int), ([] : List Rc))).map encMl = List.replicate n (mdl 0 0 []) := by rw [List.map_replicate]; rfl
  have e3 : (List.replicate n (0 : Int)).map (AV.int .i64) = List.replicate n (AV.int .i64 0) := by rw [List.map_replicate]
  let h2 : AHeap := fun b => if b = ur then G' ur else if b = hr then G' hr else if b = cr then G' cr else none
  have k1 : h2 ur = G' ur := if_pos rfl
  have k2 : h2 hr = G' hr := by show (if hr = ur then _ else _) = _; rw [if_neg (Ne.symm huh), if_pos rfl]
  have k3 : h2 cr = G' cr := by show (if cr = ur then _ else _) = _; rw [if_neg (Ne.symm huc), if_neg hch, if_pos rfl]
  have kd : ∀ b, h2 b ≠ none → b = ur ∨ b = hr ∨ b = cr := fun b hb => by
    by_cases c1 : b = ur
    · exact .inl c1
    · by_cases c2 : b = hr
      · exact .inr (.inl c2)
      · by_cases c3 : b = cr
        · exact .inr (.inr c3)
        · exact absurd (show (if b = ur then _ else _) = none by rw [if_neg c1, if_neg c2, if_neg c3]) hb
  refine ⟨h2, Sep.repl (l1 := [h1]) (l2 := []) (G := G0) (h := noH) (G' := G') hS (fun b x hb => ?_) (fun b hb => ?_) (fun a ha => ?_), ⟨?_, ?_, ?_, .inl ⟨rfl, rfl⟩, huc⟩⟩
  · rcases kd b (by rw [hb]; simp) with e | e | e
    · rw [e, k1] at hb; rw [e]; exact hb
    · rw [e, k2] at hb; rw [e]; exact hb
    · rw [e, k3] at hb; rw [e]; exact hb
  · rcases kd b hb with e | e | e <;> rw [e] <;> assumption
  · rcases ha with ha | ha
    · have ha : a = h1 := List.mem_singleton.1 ha
      subst ha
      have hsub := (hS.1 a (by simp)).1
      refine ⟨AHeap.sub_trans hsub hs, fun b hb => ?_⟩
      rcases kd b hb with e | e | e <;> rw [e] <;> refine sub_none hsub ?_ <;> assumption
    · cases ha
  · rw [k1, hu, e1]
  · rw [k2, hh, e2]
  · rw [k3, hc, e3]
section
variable {room : Int} {s s1 : Wd} {m m2 : LM} {j : Nat} {x : Mv} {q2 : Int × Int × List Rc} {c : Int}
theorem MRel.own (hR : MRel room s1 m2) (hq : m2.has[j]? = some q2) (hu : (lOf s1 j).isSome = true) : lOf s1 j = some q2.2.2 := by
  obtain ⟨l, hl⟩ := Option.isSome_iff_exists.1 hu
  have := hR.has j l hl
  rw [hq] at this; cases this; exact hl
theorem MRel.own_inc (hR : MRel room s1 m2) (hok : WOk room s1) (hq : m2.has[j]? = some q2) (hu : (lOf s1 j).isSome = true) : 0 ≤ (rfind q2.2.2 (j : Int)).1.inc ∧ (rfind q2.2.2 (j : Int)).1.inc ≤ 281474976710655 := by
  have hM := lOf_inv hok (hR.own hq hu)
  obtain ⟨o, ho⟩ := hM.o
  have := recValid_ids (hM.valid ho)
  rw [rfind_fst, ho]
  exact ⟨this.2.2.1, this.2.2.2.1⟩
theorem MRel.cellC (hR : MRel room s1 m2) (hq : m2.has[j]? = some q2) (hc : m2.cells[j]? = some c) (hu : (lOf s1 j).isSome = true) (hle : c ≤ (rfind q2.2.2 (j : Int)).1.inc) : MRel room (cellW s1 j) ⟨m2.ups, m2.has, m2.cells.set j ((rfind q2.2.2 (j : Int)).1.inc + 1), m2.post⟩ := by
  rw [cellW_up (hR.own hq hu) (by rw [← hR.nc]; exact hc), Int.max_eq_right (by omega), ← hR.nc]
  exact hR.cell _
theorem MRel.cellD (hR : MRel room s1 m2) (hq : m2.has[j]? = some q2) (hc : m2.cells[j]? = some c) (hu : (lOf s1 j).isSome = true) (hle : (rfind q2.2.2 (j : Int)).1.inc < c) : MRel room (cellW s1 j) m2 := by
  rw [cellW_up (hR.own hq hu) (by rw [← hR.nc]; exact hc), Int.max_eq_left (by omega), ← hR.nc]
  have e : m2.cells.set j c = m2.cells := by
    refine List.ext_getElem? fun i => ?_
    rw [List.getElem?_set]
    by_cases e : j = i
    · subst e; rw [if_pos rfl, if_pos (List.getElem?_eq_some_iff.1 hc).1, hc]
    · rw [if_neg e]
  rw [e]
  have := hR.cell m2.cells
  exact this
theorem MRel.cellN (hR : MRel room s1 m2) (hu : (lOf s1 j).isSome = false) : MRel room (cellW s1 j) m2 := by
  rw [cellW_dn (by cases h : lOf s1 j with | none => rfl | some l => rw [h] at hu; cases hu)]; exact hR
theorem upW_at {i : Int} (hi : i = (j : Int)) (hj : j < s.tl.length) : upW s i = (lOf s j).isSome := by
  subst hi
  rw [upW, decide_eq_true ⟨by omega, by omega⟩, Bool.true_and, Int.toNat_natCast]
theorem viewW_at {i : Int} (hi : i = (j : Int)) (hj : j < s.tl.length) : viewW s i = (lOf s j).getD [] := by
  subst hi
  rw [viewW, if_pos ⟨by omega, by omega⟩, Int.toNat_natCast]
theorem cell_at {i : Int} (hi : i = (j : Int)) (hj : j < s.tl.length) (hc : s.cells[j]? = some c) : (if 0 ≤ i ∧ i < (s.tl.length : Int) then (s.cells[i.toNat]?).getD 0 else 0) = c := by
  subst hi
  rw [if_pos ⟨by omega, by omega⟩, Int.toNat_natCast, hc]; rfl
theorem MRel.lix_cases (hR : MRel room s m) (no : Int) : (lix m.post no < 0 ∧ pget s.post no = none) ∨ ∃ (j : Nat) (q : Int × List Rc), lix m.post no = (j : Int) ∧ m.post[j]? = some q ∧ pget s.post no = some q.2 := by
  by_cases h : lix m.post no < 0
  · exact .inl ⟨h, by rw [← hR.post]; exact lix_neg h⟩
  · obtain ⟨j, q, h1, h2, h3⟩ := lix_pos h
    exact .inr ⟨j, q, h1, h2, by rw [← hR.post]; exact h3⟩
end
end Go.Proofs.Ytgipbhfblmblcaa

/- Plain: what the walks of the moves lean on. -/
import Derived.Test.YtgipbhfblmblcaaPBlind4
import Derived.Test.YtgipbhfblmblcaaPSep
set_option linter.unusedVariables false
namespace Go.Proofs.Ytgipbhfblmblcaa
open Go.Proofs.Ytgipbhfblmblcaa.AM
theorem set_none {G : AHeap} {a b : Nat} {x : ARow} (h : (G.set a x) b = none) : a ≠ b ∧ G b = none := by
  by_cases e : b = a
  · subst e; rw [AHeap.get_set] at h; cases h
  · rw [AHeap.get_set_ne _ _ e] at h; exact ⟨fun g => e g.symm, h⟩
theorem hset_comm {G : AHeap} {a b : Nat} {x y : ARow} (h : a ≠ b) : (G.set a x).set b y = (G.set b y).set a x := AHeap.ext fun c => by
  by_cases e : c = b
  · subst e; rw [AHeap.get_set, AHeap.get_set_ne _ _ (Ne.symm h), AHeap.get_set]
  · rw [AHeap.get_set_ne _ _ e]
    by_cases e2 : c = a
    · subst e2; rw [AHeap.get_set, AHeap.get_set]
    · rw [AHeap.get_set_ne _ _ e2, AHeap.get_set_ne _ _ e2, AHeap.get_set_ne _ _ e]
theorem updN_updN {α : Type} (f : Nat → α) (i : Nat) (x y : α) : updN (updN f i x) i y = updN f i y := funext fun j => by unfold updN; split <;> rfl
theorem joinAll_snoc {me room : Int} {l m : List Rc} {k : Nat} {x : Rc} (h : m[k]? = some x) : joinAll me room l (m.take (k + 1)) = (joinT me room (joinAll me room l (m.take k)) x).1 := by
  unfold joinAll; rw [List.take_add_one, h, List.foldl_append]; rfl
theorem hear_cases (room : Int) (s : Wd) (i : Nat) (l : List Rc) (x : Mv) : (hearW room s i l x = (s, false) ∧ ((pget s.post x.letter).isSome = false ∨ (rfind l (i : Int)).1.st = 3)) ∨ ∃ m, pget s.post x.letter = some m ∧ (rfind l (i : Int)).1.st ≠ 3 ∧ hearW room s i l x = (setT s i (some (joinAll i room l m)), true) := by
  unfold hearW
  cases h1 : pget s.post x.letter with
  | none => exact .inl ⟨rfl, .inl rfl⟩
  | some m =>
    by_cases h2 : (rfind l (i : Int)).1.st = 3
    · exact .inl ⟨if_pos h2, .inr h2⟩
    · exact .inr ⟨m, rfl, h2, if_neg h2⟩
/-- A new world. -/
theorem newW {k n a b c d : Nat} {room : Int} (ha : k ≤ a) (hb : k ≤ b) (hc : k ≤ c) (hd : k ≤ d) (ab : a ≠ b) (ac : a ≠ c) (ad : a ≠ d) (bc : b ≠ c) (bd : b ≠ d) (cd : c ≠ d) :
    ∃ h', EffTo noH h' k [(d, .box (wdA room a b c n)), (c, lmRow []), (b, .row 1 (List.replicate n (.int .i64 0))), (a, .row 1 (List.replicate n .nilp))] ∧ WIs lmRow h' d room ⟨List.replicate n none, List.replicate n 0, []⟩ := by
  have h1 : (List.replicate n (none : Option Nat)).map tptr = List.replicate n AV.nilp := by rw [List.map_replicate]; rfl
  have h2 : (List.replicate n (0 : Int)).map (AV.int .i64) = List.replicate n (AV.int .i64 0) := by rw [List.map_replicate]
  have no : ∀ (i p : Nat), (List.replicate n (none : Option Nat))[i]? = some (some p) → False := fun i p h => by
    rw [List.getElem?_replicate] at h; split at h <;> simp at h
  refine ⟨_, ⟨fun q hq => .inr ?_, AHeap.sub_refl _⟩, a, b, c, List.replicate n none, fun _ => 0, fun _ => [], ⟨?_, ?_, ?_, ?_, ?_, ab, ⟨cd, Ne.symm ac, Ne.symm bc⟩, fun i p h => (no i p h).elim, fun i p h => (no i p h).elim, fun i j p h => (no i p h).elim, fun i j p p' h => (no i p h).elim⟩, ?_⟩
  · simp only [List.mem_cons, List.not_mem_nil, or_false] at hq
    rcases hq with rfl | rfl | rfl | rfl <;> assumption
  · rw [List.length_replicate]; exact AHeap.get_set _ _ _
  · show AHeap.set _ d _ a = _
    rw [AHeap.get_set_ne _ _ ad]
    show AHeap.set _ c _ a = _
    rw [AHeap.get_set_ne _ _ ac]
    show AHeap.set _ b _ a = _
    rw [AHeap.get_set_ne _ _ ab, h1]; exact AHeap.get_set _ _ _
  · show AHeap.set _ d _ b = _
    rw [AHeap.get_set_ne _ _ bd]
    show AHeap.set _ c _ b = _
    rw [AHeap.get_set_ne _ _ bc]
    show AHeap.set _ b _ b = some (.row 1 ((List.replicate n (0 : Int)).map (AV.int .i64)))
    rw [h2]; exact AHeap.get_set _ _ _
  · show AHeap.set _ d _ c = _
    rw [AHeap.get_set_ne _ _ cd]; exact AHeap.get_set _ _ _
  · show (List.replicate n (0 : Int)).length = _
    rw [List.length_replicate, List.length_replicate]
  · refine List.ext_getElem? fun j => ?_
    show (List.replicate n (none : Option (List Rc)))[j]? = _
    rw [tlOf_at, List.getElem?_replicate, List.getElem?_replicate]
    split <;> rfl
theorem newW_ok (room : Int) {n : Nat} (hn : n ≤ 32) : WOk room ⟨List.replicate n none, List.replicate n 0, []⟩ := by
  refine ⟨by show (List.replicate n (0 : Int)).length = (List.replicate n _).length; rw [List.length_replicate, List.length_replicate], by show (List.replicate n _).length ≤ 32; rw [List.length_replicate]; exact hn, fun i l h => ?_, fun k l h => (by cases h), fun k l h => (by cases h)⟩
  have h : (List.replicate n (none : Option (List Rc)))[i]? = some (some l) := h
  rw [List.getElem?_replicate] at h; split at h <;> simp at h
theorem bootW_is {s : Wd} {i : Nat} {x : Mv} {r : Rc} {c : Int} (h : lOf s i = none) (hr : x.recs = [r]) (hc : s.cells[i]? = some c) : bootW s i x = if recValid r = true ∧ r.id = (i : Int) ∧ c ≤ r.inc ∧ r.st = 0 then (setT s i (some [core r]), true) else (s, false) := by
  unfold bootW; rw [h, hr, hc]; rfl
theorem bootW_up {s : Wd} {i : Nat} {x : Mv} {l : List Rc} (h : lOf s i = some l) : bootW s i x = (s, false) := by
  unfold bootW; rw [h]
theorem bootW_n {s : Wd} {i : Nat} {x : Mv} (h : x.recs.length ≠ 1) : bootW s i x = (s, false) := by
  unfold bootW
  split
  · rename_i r _ e; rw [e] at h; exact absurd rfl h
  · rfl
theorem list_one {α : Type} {l : List α} (h : l.length = 1) : ∃ r, l = [r] := List.length_eq_one_iff.1 h
theorem lOf_of {pt : List (Option Nat)} {ls : Nat → List Rc} {s : Wd} (htl : s.tl = tlOf pt ls) {j : Nat} {o : Option Nat} (ho : pt[j]? = some o) : lOf s j = o.map fun _ => ls j := by
  rw [lOf, htl, tlOf_at, ho]; cases o <;> rfl
theorem doW_len (room : Int) (s : Wd) (i : Nat) (x : Mv) : (doW room s i x).1.tl.length = s.tl.length ∧ (doW room s i x).1.cells = s.cells := by
  have hs : ∀ (j : Nat) (o : Option (List Rc)), (setT s j o).tl.length = s.tl.length := fun j o => by unfold setT; exact List.length_set ..
  unfold doW
  split
  · unfold bootW
    split
    · split
      · exact ⟨hs _ _, rfl⟩
      · exact ⟨rfl, rfl⟩
    · exact ⟨rfl, rfl⟩
  · split
    · rcases again_cases s x with ⟨e, _⟩ | ⟨_, _, _, e⟩ <;> rw [e] <;> exact ⟨rfl, rfl⟩
    · cases hl : lOf s i with
      | none => exact ⟨rfl, rfl⟩
      | some l =>
        simp only
        split
        · exact ⟨hs _ _, rfl⟩
        · split
          · unfold sendW; split <;> exact ⟨rfl, rfl⟩
          · split
            · unfold hearW
              split
              · exact ⟨rfl, rfl⟩
              · split
                · exact ⟨rfl, rfl⟩
                · exact ⟨hs _ _, rfl⟩
            · split
              · exact ⟨hs _ _, rfl⟩
              · split
                · exact ⟨hs _ _, rfl⟩
                · split
                  · exact ⟨hs _ _, rfl⟩
                  · exact ⟨hs _ _, rfl⟩
theorem set_map_t (pt : List (Option Nat)) (i q : Nat) : (pt.map tptr).set i (.box q 0) = (pt.set i (some q)).map tptr := by rw [List.map_set]; rfl
theorem set_map_n (pt : List (Option Nat)) (i : Nat) : (pt.map tptr).set i .nilp = (pt.set i none).map tptr := by rw [List.map_set]; rfl
/-- A table that has begun. -/
theorem boot_new {M : ARow} {h : AHeap} {w tr cr mr : Nat} {room : Int} {pt : List (Option Nat)} {rs : Nat → Nat} {ls : Nat → List Rc} {cells : List Int} (hA : WA M h w tr cr mr room pt rs ls cells) {i q qr n : Nat} {r : Rc} (hi : i < pt.length) (ho : pt[i]? = some none) (hdom : ∀ b, n ≤ b → h b = none) (hq : n ≤ q) (hqr : n ≤ qr) (hne : q ≠ qr) (hid : r.id = (i : Int)) :
    ∃ h1, EffTo h h1 n [(q, .box (tabA r.id room qr 1)), (qr, .row 7 ([r].map encR))] ∧ h1 tr = some (.row 1 (pt.map tptr)) ∧ h1 w = some (.box (wdA room tr cr mr pt.length)) ∧ WA M (h1.set tr (.row 1 ((pt.set i (some q)).map tptr))) w tr cr mr room (pt.set i (some q)) (updN rs i qr) (updN ls i [r]) cells := by
  have hq0 := hdom q hq
  have hr0 := hdom qr hqr
  have hold : h.sub (setAll h [(q, .box (tabA r.id room qr 1)), (qr, .row 7 ([r].map encR))]) := AHeap.sub_set (AHeap.sub_set (AHeap.sub_refl _) hr0) (by show AHeap.set h qr _ q = none; rw [AHeap.get_set_ne _ _ hne]; exact hq0)
  refine ⟨_, ⟨fun z hz => .inr ?_, AHeap.sub_refl _⟩, hold _ _ hA.tt, hold _ _ hA.ww, hA.boot hi ho ⟨?_, ?_⟩ hold hq0 hr0⟩
  · simp only [List.mem_cons, List.not_mem_nil, or_false] at hz
    rcases hz with rfl | rfl <;> assumption
  · show AHeap.set _ q _ q = _
    rw [AHeap.get_set, hid]; rfl
  · show AHeap.set _ q _ qr = _
    rw [AHeap.get_set_ne _ _ (Ne.symm hne)]; exact AHeap.get_set _ _ _
theorem set_map_c (cells : List Int) (i : Nat) (v : Int) : (cells.map (AV.int .i64)).set i (.int .i64 v) = (cells.set i v).map (.int .i64) := by rw [List.map_set]
theorem pt_cases (pt : List (Option Nat)) {j : Nat} (h : j < pt.length) : pt[j]? = some none ∨ ∃ q, pt[j]? = some (some q) := by
  obtain ⟨o, ho⟩ := get_some h
  cases o with
  | none => exact .inl ho
  | some q => exact .inr ⟨q, ho⟩
section
variable {room : Int} {s : Wd} {i : Nat} {x : Mv} {l : List Rc}
theorem doW_1 (h : x.kind = 1) : doW room s i x = bootW s i x := if_pos h
theorem doW_4 (h : x.kind = 4) : doW room s i x = againW s x := by unfold doW; rw [if_neg (by omega), if_pos h]
theorem doW_dn (h1 : x.kind ≠ 1) (h4 : x.kind ≠ 4) (hl : lOf s i = none) : doW room s i x = (s, false) := by unfold doW; rw [if_neg h1, if_neg h4, hl]
theorem doW_up (h1 : x.kind ≠ 1) (h4 : x.kind ≠ 4) (hl : lOf s i = some l) : doW room s i x = if x.kind = 2 then (setT s i none, true)
      else if x.kind = 3 then sendW s l x
      else if x.kind = 5 then hearW room s i l x
      else if x.kind = 6 then (setT s i (some (moveT i l x.other x.inc 0 1).1), (moveT i l x.other x.inc 0 1).2)
      else if x.kind = 7 then (setT s i (some (moveT i l x.other x.inc 1 2).1), (moveT i l x.other x.inc 1 2).2)
      else if x.kind = 8 then (setT s i (some (changeT i l []).1), decide ((changeT i l []).2 = 0))
      else (setT s i (some (leaveT i l).1), (leaveT i l).2) := by unfold doW; rw [if_neg h1, if_neg h4, hl]
theorem DoW_bad (h : x.kind < 1 ∨ 9 < x.kind ∨ x.node < 0 ∨ (s.tl.length : Int) ≤ x.node) : DoW room s x = (s, 1) := if_pos h
theorem DoW_no (h : ¬ (x.kind < 1 ∨ 9 < x.kind ∨ x.node < 0 ∨ (s.tl.length : Int) ≤ x.node)) (hi : x.node = (i : Int)) (hd : (doW room s i x).2 = false) : DoW room s x = ((doW room s i x).1, 17) := by
  unfold DoW; rw [if_neg h, hi, Int.toNat_natCast, if_pos hd]
theorem DoW_yes (h : ¬ (x.kind < 1 ∨ 9 < x.kind ∨ x.node < 0 ∨ (s.tl.length : Int) ≤ x.node)) (hi : x.node = (i : Int)) (hd : (doW room s i x).2 = true) : DoW room s x = (cellW (doW room s i x).1 i, 0) := by
  unfold DoW; rw [if_neg h, hi, Int.toNat_natCast, if_neg (by rw [hd]; simp)]
theorem cellW_dn (h : lOf s i = none) : cellW s i = s := by unfold cellW; rw [h]
theorem cellW_up (h : lOf s i = some l) {c : Int} (hc : s.cells[i]? = some c) : cellW s i = ⟨s.tl, s.cells.set i (max c ((rfind l (i : Int)).1.inc + 1)), s.post⟩ := by unfold cellW; rw [h, hc]; rfl
end
end Go.Proofs.Ytgipbhfblmblcaa

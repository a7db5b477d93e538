/- Plain: a world told plainly, beside the world. -/
import Derived.Test.YtgipbhfblmblcaaPBlind6
set_option linter.unusedVariables false
namespace Go.Proofs.Ytgipbhfblmblcaa
open Go.Proofs.Ytgipbhfblmblcaa.AM
structure LM where
  ups : List Bool
  has : List (Int × Int × List Rc)
  cells : List Int
  post : List (Int × List Rc)
def encMl (q : Int × Int × List Rc) : AV := mdl q.1 q.2.1 q.2.2
def encPo (q : Int × List Rc) : AV := .agg [.int .i64 q.1, encRs q.2]
def mdA (ur hr cr n : Nat) (av : AV) : AV := .agg [.own ur 1 0 n, .own hr 3 0 n, .own cr 1 0 n, av]
def hasNo (no : Int) (q : Int × List Rc) : Bool := decide (q.1 = no)
def lix (post : List (Int × List Rc)) (no : Int) : Int := fidxZ (hasNo no) post
def lfind (post : List (Int × List Rc)) (no : Int) : Option (List Rc) := (post.find? (hasNo no)).map (·.2)
theorem lix_neg {post : List (Int × List Rc)} {no : Int} (h : lix post no < 0) : lfind post no = none := by
  have h1 : ¬ fidx (hasNo no) post < post.length := fun hlt => by rw [lix, fidxZ, if_pos hlt] at h; omega
  have h2 : post.find? (hasNo no) = none := by rw [← fidx_find]; exact List.getElem?_eq_none (by omega)
  rw [lfind, h2]; rfl
theorem lix_pos {post : List (Int × List Rc)} {no : Int} (h : ¬ lix post no < 0) : ∃ (j : Nat) (q : Int × List Rc), lix post no = (j : Int) ∧ post[j]? = some q ∧ lfind post no = some q.2 := by
  have h1 : fidx (hasNo no) post < post.length := by
    unfold lix fidxZ at h; split at h
    · assumption
    · omega
  obtain ⟨q, hq⟩ := get_some h1
  refine ⟨_, q, by rw [lix, fidxZ, if_pos h1], hq, ?_⟩
  rw [lfind, ← fidx_find, hq]; rfl
theorem lfind_snoc {post : List (Int × List Rc)} {no : Int} (l : List Rc) (h : lfind post no = none) (k : Int) : lfind (post ++ [(no, l)]) k = if k = no then some l else lfind post k := by
  unfold lfind at h ⊢
  rw [List.find?_append]
  by_cases e : k = no
  · subst e
    have h0 : post.find? (hasNo k) = none := by
      cases hf : post.find? (hasNo k) with
      | none => rfl
      | some q => rw [hf] at h; cases h
    rw [if_pos rfl, h0]; simp [hasNo]
  · rw [if_neg e]
    have h1 : [(no, l)].find? (hasNo k) = none := by simp [hasNo]; exact fun h9 => e h9.symm
    rw [h1]; simp
/-- The plain world as it lies in memory. -/
structure LA (h : AHeap) (ur hr cr : Nat) (av : AV) (m : LM) : Prop where
  uu : h ur = some (.row 1 (m.ups.map .bool))
  hh : h hr = some (.row 3 (m.has.map encMl))
  cc : h cr = some (.row 1 (m.cells.map (.int .i64)))
  pp : SV h 2 av (m.post.map encPo)
  uc : ur ≠ cr
section
variable {h : AHeap} {ur hr cr : Nat} {av : AV} {m : LM}
theorem row_ne {G : AHeap} {a b sa sb : Nat} {l l' : List AV} (ha : G a = some (.row sa l)) (hb : G b = some (.row sb l')) (hs : sa ≠ sb) : a ≠ b := fun e => by
  rw [e, hb] at ha; injection ha with ha; injection ha with h1 _; exact hs h1.symm
theorem sv_setne {G : AHeap} {sz s2 b : Nat} {av : AV} {l l2 : List AV} {x : ARow} (h : SV G sz av l) (hb : G b = some (.row s2 l2)) (hs : s2 ≠ sz) : SV (G.set b x) sz av l := h.imp id fun ⟨r, h1, h2⟩ => ⟨r, h1, by rw [AHeap.get_set_ne _ _ (row_ne h2 hb (Ne.symm hs))]; exact h2⟩
theorem LA.setU (hL : LA h ur hr cr av m) (u : List Bool) : LA (h.set ur (.row 1 (u.map .bool))) ur hr cr av ⟨u, m.has, m.cells, m.post⟩ :=
  ⟨AHeap.get_set _ _ _, by rw [AHeap.get_set_ne _ _ (row_ne hL.hh hL.uu (by decide))]; exact hL.hh, by rw [AHeap.get_set_ne _ _ (Ne.symm hL.uc)]; exact hL.cc, sv_setne hL.pp hL.uu (by decide), hL.uc⟩
theorem LA.setH (hL : LA h ur hr cr av m) (q : List (Int × Int × List Rc)) : LA (h.set hr (.row 3 (q.map encMl))) ur hr cr av ⟨m.ups, q, m.cells, m.post⟩ :=
  ⟨by rw [AHeap.get_set_ne _ _ (row_ne hL.uu hL.hh (by decide))]; exact hL.uu, AHeap.get_set _ _ _, by rw [AHeap.get_set_ne _ _ (row_ne hL.cc hL.hh (by decide))]; exact hL.cc, sv_setne hL.pp hL.hh (by decide), hL.uc⟩
theorem LA.setC (hL : LA h ur hr cr av m) (q : List Int) : LA (h.set cr (.row 1 (q.map (.int .i64)))) ur hr cr av ⟨m.ups, m.has, q, m.post⟩ :=
  ⟨by rw [AHeap.get_set_ne _ _ hL.uc]; exact hL.uu, by rw [AHeap.get_set_ne _ _ (row_ne hL.hh hL.cc (by decide))]; exact hL.hh, AHeap.get_set _ _ _, sv_setne hL.pp hL.cc (by decide), hL.uc⟩
theorem LA.setP (hL : LA h ur hr cr av m) {r' : Nat} (hr' : h r' = none ∨ av = .own r' 2 0 (m.post.map encPo).length) (q : List (Int × List Rc)) : LA (h.set r' (.row 2 (q.map encPo))) ur hr cr (.own r' 2 0 (q.map encPo).length) ⟨m.ups, m.has, m.cells, q⟩ := by
  have hne : ∀ {b sb : Nat} {l : List AV}, h b = some (.row sb l) → sb ≠ 2 → b ≠ r' := fun {b sb l} hb hs e => by
    rcases hr' with g | g
    · rw [e, g] at hb; cases hb
    · rcases hL.pp with ⟨g2, _⟩ | ⟨r, g2, g3⟩
      · rw [g] at g2; cases g2
      · rw [g] at g2; cases g2; rw [e, g3] at hb; injection hb with hb; injection hb with h1 _; exact hs h1.symm
  exact ⟨by rw [AHeap.get_set_ne _ _ (hne hL.uu (by decide))]; exact hL.uu, by rw [AHeap.get_set_ne _ _ (hne hL.hh (by decide))]; exact hL.hh, by rw [AHeap.get_set_ne _ _ (hne hL.cc (by decide))]; exact hL.cc, .inr ⟨r', rfl, AHeap.get_set _ _ _⟩, hL.uc⟩
theorem LA.mono {G : AHeap} (hL : LA h ur hr cr av m) (hs : h.sub G) : LA G ur hr cr av m := ⟨hs _ _ hL.uu, hs _ _ hL.hh, hs _ _ hL.cc, hL.pp.mono hs, hL.uc⟩
end
/-- What the plain world has to do with the world. -/
structure MRel (room : Int) (s : Wd) (m : LM) : Prop where
  nu : m.ups.length = s.tl.length
  nh : m.has.length = s.tl.length
  nc : m.cells = s.cells
  up : ∀ i : Nat, i < s.tl.length → m.ups[i]? = some (lOf s i).isSome
  has : ∀ (i : Nat) (l : List Rc), lOf s i = some l → m.has[i]? = some ((i : Int), room, l)
  ok : ∀ q ∈ m.has, q.2.2.length ≤ 1000 ∧ ∀ y ∈ q.2.2, Small y.bag
  post : ∀ no : Int, lfind m.post no = pget s.post no
section
variable {room : Int} {s : Wd} {m : LM}
theorem setT_len (s : Wd) (i : Nat) (o : Option (List Rc)) : (setT s i o).tl.length = s.tl.length := by unfold setT; exact List.length_set ..
theorem mem_set_or {α : Type} {l : List α} {i : Nat} {a x : α} (h : x ∈ l.set i a) : x = a ∨ x ∈ l := by
  rcases List.mem_or_eq_of_mem_set h with h | h
  · exact .inr h
  · exact .inl h
theorem MRel.boot (hR : MRel room s m) {i : Nat} (hi : i < s.tl.length) {l : List Rc} (hl : l.length ≤ 1000 ∧ ∀ y ∈ l, Small y.bag) : MRel room (setT s i (some l)) ⟨m.ups.set i true, m.has.set i ((i : Int), room, l), m.cells, m.post⟩ := by
  refine ⟨by rw [setT_len, List.length_set]; exact hR.nu, by rw [setT_len, List.length_set]; exact hR.nh, hR.nc, fun j hj => ?_, fun j l' hl' => ?_, fun q hq => ?_, hR.post⟩
  · rw [setT_len] at hj
    rw [List.getElem?_set]
    by_cases e : i = j
    · subst e; rw [if_pos rfl, if_pos (by rw [hR.nu]; exact hi), lOf_setS hi]; rfl
    · rw [if_neg e, lOf_setT_ne (Ne.symm e)]; exact hR.up j hj
  · rw [List.getElem?_set]
    by_cases e : i = j
    · subst e; rw [lOf_setS hi] at hl'; cases hl'; rw [if_pos rfl, if_pos (by rw [hR.nh]; exact hi)]
    · rw [if_neg e]; rw [lOf_setT_ne (Ne.symm e)] at hl'; exact hR.has j l' hl'
  · rcases mem_set_or hq with rfl | hq
    · exact hl
    · exact hR.ok q hq
theorem MRel.halt (hR : MRel room s m) {i : Nat} (hi : i < s.tl.length) : MRel room (setT s i none) ⟨m.ups.set i false, m.has, m.cells, m.post⟩ := by
  refine ⟨by rw [setT_len, List.length_set]; exact hR.nu, by rw [setT_len]; exact hR.nh, hR.nc, fun j hj => ?_, fun j l' hl' => ?_, hR.ok, hR.post⟩
  · rw [setT_len] at hj
    rw [List.getElem?_set]
    by_cases e : i = j
    · subst e; rw [if_pos rfl, if_pos (by rw [hR.nu]; exact hi), lOf_setS hi]; rfl
    · rw [if_neg e, lOf_setT_ne (Ne.symm e)]; exact hR.up j hj
  · by_cases e : i = j
    · subst e; rw [lOf_setS hi] at hl'; cases hl'
    · rw [lOf_setT_ne (Ne.symm e)] at hl'; exact hR.has j l' hl'
theorem set_same {l : List Bool} {i : Nat} {b : Bool} (h : l[i]? = some b) : l.set i b = l := by
  refine List.ext_getElem? fun j => ?_
  rw [List.getElem?_set]
  by_cases e : i = j
  · subst e
    have := (List.getElem?_eq_some_iff.1 h).1
    rw [if_pos rfl, if_pos this, h]
  · rw [if_neg e]
theorem MRel.act (hR : MRel room s m) {i : Nat} {l0 l : List Rc} (h0 : lOf s i = some l0) (hl : l.length ≤ 1000 ∧ ∀ y ∈ l, Small y.bag) : MRel room (setT s i (some l)) ⟨m.ups, m.has.set i ((i : Int), room, l), m.cells, m.post⟩ := by
  have hi := lOf_lt h0
  have := hR.boot hi hl
  rw [set_same (by rw [hR.up i hi, h0]; rfl)] at this
  exact this
theorem MRel.letter (hR : MRel room s m) {no : Int} (l : List Rc) (hn : pget s.post no = none) : MRel room ⟨s.tl, s.cells, pput s.post no l⟩ ⟨m.ups, m.has, m.cells, m.post ++ [(no, l)]⟩ :=
  ⟨hR.nu, hR.nh, hR.nc, hR.up, hR.has, hR.ok, fun k => by
    show lfind (m.post ++ [(no, l)]) k = pget (pput s.post no l) k
    rw [lfind_snoc l (by rw [hR.post]; exact hn), pget_pput, hR.post]⟩
theorem MRel.cell (hR : MRel room s m) (c : List Int) : MRel room ⟨s.tl, c, s.post⟩ ⟨m.ups, m.has, c, m.post⟩ := ⟨hR.nu, hR.nh, rfl, hR.up, hR.has, hR.ok, hR.post⟩
theorem setT_setT (s : Wd) (i : Nat) (a b : Option (List Rc)) : setT (setT s i a) i b = setT s i b := by unfold setT; simp
theorem MRel.zero (room : Int) (n : Nat) : MRel room ⟨List.replicate n none, List.replicate n 0, []⟩ ⟨List.replicate n false, List.replicate n (0, 0, []), List.replicate n 0, []⟩ := by
  refine ⟨by simp, by simp, rfl, fun i hi => ?_, fun i l hl => ?_, fun q hq => ?_, fun no => rfl⟩
  · have hi : i < n := by simpa using hi
    simp [lOf, hi]
  · unfold lOf at hl
    simp only [List.getElem?_replicate] at hl
    split at hl <;> cases hl
  · rw [List.eq_of_mem_replicate hq]; exact ⟨by simp, fun y hy => by cases hy⟩
end
theorem set_map_b (q : List Bool) (i : Nat) (b : Bool) : (q.map AV.bool).set i (.bool b) = (q.set i b).map AV.bool := by rw [List.map_set]
theorem set_map_h (q : List (Int × Int × List Rc)) (i : Nat) (a b : Int) (l : List Rc) : (q.map encMl).set i (mdl a b l) = (q.set i (a, b, l)).map encMl := by rw [List.map_set]; rfl
theorem LA.sv {h H : AHeap} {ur hr cr : Nat} {av : AV} {m : LM} (hL : LA h ur hr cr av m) (hs : h.sub H) (n0 : Nat) : (av = .nil0 ∧ m.post.map encPo = []) ∨ ∃ r, av = .own r 2 0 (m.post.map encPo).length ∧ H r = some (.row 2 (m.post.map encPo)) ∧ (h r ≠ none ∨ n0 ≤ r) := by
  rcases hL.pp with hV | ⟨r, h1, h2⟩
  · exact .inl hV
  · exact .inr ⟨r, h1, hs _ _ h2, .inl (by rw [h2]; simp)⟩
/-- A letter laid down: what is written. -/
theorem LA.put {h H : AHeap} {ur hr cr r' n : Nat} {av : AV} {m : LM} (hL : LA h ur hr cr av m) (hs : h.sub H) (hr' : (H r' = none ∧ n ≤ r') ∨ av = .own r' 2 0 (m.post.map encPo).length) (q : List (Int × List Rc)) :
    EffTo h (h.set r' (.row 2 (q.map encPo))) n [(r', .row 2 (q.map encPo))] ∧ LA (h.set r' (.row 2 (q.map encPo))) ur hr cr (.own r' 2 0 (q.map encPo).length) ⟨m.ups, m.has, m.cells, q⟩ := by
  refine ⟨(EffTo.refl h n).write _ ?_, hL.setP (hr'.imp (fun g => sub_none hs g.1) id) q⟩
  rcases hr' with g | g
  · exact .inr g.2
  · rcases hL.pp with ⟨g2, _⟩ | ⟨r, g2, g3⟩
    · rw [g] at g2; cases g2
    · rw [g] at g2; cases g2; exact .inl (by rw [g3]; simp)
section
variable {room : Int} {s : Wd} {m : LM} {i : Nat} {x : Mv} {l : List Rc}
theorem MRel.again_no (hR : MRel room s m) (h : lix m.post x.letter < 0 ∨ ¬ lix m.post x.other < 0) : againW s x = (s, false) := by
  rcases again_cases s x with ⟨e, _⟩ | ⟨l, h1, h2, _⟩
  · exact e
  · rcases h with h | h
    · have := lix_neg h; rw [hR.post, h1] at this; cases this
    · obtain ⟨_, _, _, _, h3⟩ := lix_pos h; rw [hR.post, h2] at h3; cases h3
theorem MRel.again_yes (hR : MRel room s m) (h : ¬ lix m.post x.letter < 0) (h' : lix m.post x.other < 0) : ∃ (j : Nat) (q : Int × List Rc), lix m.post x.letter = (j : Int) ∧ m.post[j]? = some q ∧ againW s x = (⟨s.tl, s.cells, pput s.post x.other q.2⟩, true) ∧ MRel room ⟨s.tl, s.cells, pput s.post x.other q.2⟩ ⟨m.ups, m.has, m.cells, m.post ++ [(x.other, q.2)]⟩ := by
  obtain ⟨j, q, h1, h2, h3⟩ := lix_pos h
  have h4 := lix_neg h'
  rw [hR.post] at h3 h4
  exact ⟨j, q, h1, h2, by unfold againW; rw [h3, h4], hR.letter q.2 h4⟩
theorem MRel.letter_of (hR : MRel room s m) (h : ¬ lix m.post x.letter < 0) : ∃ (j : Nat) (q : Int × List Rc), lix m.post x.letter = (j : Int) ∧ m.post[j]? = some q ∧ pget s.post x.letter = some q.2 := by
  obtain ⟨j, q, h1, h2, h3⟩ := lix_pos h
  exact ⟨j, q, h1, h2, by rw [← hR.post]; exact h3⟩
theorem MRel.none_of (hR : MRel room s m) {no : Int} (h : lix m.post no < 0) : pget s.post no = none := by rw [← hR.post]; exact lix_neg h
def acM (x : Mv) : Ac := ⟨x.kind - 5, ⟨x.other, x.inc, 0, ⟨0, 0⟩, false, []⟩⟩
def acK (k : Int) : Ac := ⟨k, ⟨0, 0, 0, ⟨0, 0⟩, false, []⟩⟩
theorem oneI_dec (b : Bool) : decide (oneI b = 1) = b := by cases b <;> rfl
theorem lg_6 (hk : x.kind = 6 ∨ x.kind = 7) (hl : lOf s i = some l) : doW room s i x = (setT s i (some (doL i room l (acM x)).1), decide ((doL i room l (acM x)).2 = 1)) := by
  rw [doW_up (by omega) (by omega) hl, if_neg (by omega), if_neg (by omega), if_neg (by omega)]
  have hd : doL i room l (acM x) = ((moveT i l x.other x.inc (x.kind - 5 - 1) (x.kind - 5)).1, oneI (moveT i l x.other x.inc (x.kind - 5 - 1) (x.kind - 5)).2) := by
    rw [doL, if_neg (by show ¬ (x.kind - 5 = 0); omega), if_pos (by show x.kind - 5 = 1 ∨ x.kind - 5 = 2; omega)]; rfl
  rw [hd, oneI_dec]
  rcases hk with k | k
  · rw [if_pos k, k]; rfl
  · rw [if_neg (by omega), if_pos k, k]; rfl
theorem lg_8 (hk : x.kind = 8) (hl : lOf s i = some l) : doW room s i x = (setT s i (some (doL i room l (acK 3)).1), decide ((doL i room l (acK 3)).2 = 0)) := by
  rw [doW_up (by omega) (by omega) hl, if_neg (by omega), if_neg (by omega), if_neg (by omega), if_neg (by omega), if_neg (by omega), if_pos hk]; rfl
theorem lg_9 (h1 : x.kind ≠ 1) (h2 : x.kind ≠ 2) (h3 : x.kind ≠ 3) (h4 : x.kind ≠ 4) (h5 : x.kind ≠ 5) (h6 : ¬ (x.kind = 6 ∨ x.kind = 7)) (h8 : x.kind ≠ 8) (hl : lOf s i = some l) : doW room s i x = (setT s i (some (doL i room l (acK 4)).1), decide ((doL i room l (acK 4)).2 = 1)) := by
  rw [doW_up h1 h4 hl, if_neg h2, if_neg h3, if_neg h5, if_neg (fun e => h6 (.inl e)), if_neg (fun e => h6 (.inr e)), if_neg h8]
  have hd : doL i room l (acK 4) = ((leaveT i l).1, oneI (leaveT i l).2) := rfl
  rw [hd, oneI_dec]
theorem MInv.fine {me : Int} (hM : MInv me room l) : l.length ≤ 1000 ∧ ∀ y ∈ l, Small y.bag := ⟨by have := hM.len; omega, hM.b⟩
theorem MRel.acted (hR : MRel room s m) (h0 : lOf s i = some l) (hM : MInv (i : Int) room l) {a : Ac} {want : Int} (hb : Small a.rc.bag) (hD : doW room s i x = (setT s i (some (doL i room l a).1), decide ((doL i room l a).2 = want))) :
    MRel room (doW room s i x).1 (if (doL i room l a).2 = want then ⟨m.ups, m.has.set i ((i : Int), room, (doL i room l a).1), m.cells, m.post⟩ else m) := by
  by_cases hw : (doL i room l a).2 = want
  · rw [if_pos hw, hD]
    obtain ⟨o, ho⟩ := hM.o
    exact hR.act h0 (do_step hM ho hb).1.fine
  · rw [if_neg hw, doW_no (by rw [hD]; exact decide_eq_false hw)]; exact hR
theorem cores_fine {l : List Rc} (h : l.length ≤ 1000) : (coresOf l).length ≤ 1000 ∧ ∀ y ∈ coresOf l, Small y.bag := by
  refine ⟨by unfold coresOf; rw [List.length_map]; exact h, fun y hy => ?_⟩
  unfold coresOf at hy
  obtain ⟨z, _, rfl⟩ := List.mem_map.1 hy
  exact small0
theorem lg_hear_no (hk : x.kind = 5) (hl : lOf s i = some l) (h : pget s.post x.letter = none ∨ (rfind l (i : Int)).1.st = 3) : doW room s i x = (s, false) := by
  rw [doW_up (by omega) (by omega) hl, if_neg (by omega), if_neg (by omega), if_pos hk]
  unfold hearW
  rcases h with h | h
  · rw [h]
  · split
    · rfl
    · rw [if_pos h]
theorem lg_hear (hk : x.kind = 5) (hl : lOf s i = some l) {q : List Rc} (h : pget s.post x.letter = some q) (h3 : (rfind l (i : Int)).1.st ≠ 3) : doW room s i x = (setT s i (some (joinAll i room l q)), true) := by
  rw [doW_up (by omega) (by omega) hl, if_neg (by omega), if_neg (by omega), if_pos hk]
  unfold hearW
  rw [h]
  exact if_neg h3
theorem lg_send_no (hk : x.kind = 3) (hl : lOf s i = some l) (h : (pget s.post x.letter).isSome = true ∨ (x.recs.all fun r => (rfind l r.id).2 && akin (rfind l r.id).1 r) = false) : doW room s i x = (s, false) := by
  rw [doW_up (by omega) (by omega) hl, if_neg (by omega), if_pos hk]
  exact if_pos h
theorem lg_send (hk : x.kind = 3) (hl : lOf s i = some l) (hno : pget s.post x.letter = none) (h : (x.recs.all fun r => (rfind l r.id).2 && akin (rfind l r.id).1 r) = true) : doW room s i x = (⟨s.tl, s.cells, pput s.post x.letter (coresOf x.recs)⟩, true) := by
  rw [doW_up (by omega) (by omega) hl, if_neg (by omega), if_pos hk]
  exact if_neg (by rw [hno, h]; simp)
theorem lg_halt (hk : x.kind = 2) (hl : lOf s i = some l) : doW room s i x = (setT s i none, true) := by
  rw [doW_up (by omega) (by omega) hl, if_pos hk]
theorem lg_boot (hk : x.kind = 1) (hl : lOf s i = none) {r : Rc} {c : Int} (hr : x.recs = [r]) (hc : s.cells[i]? = some c) (h : recValid r = true ∧ r.id = (i : Int) ∧ c ≤ r.inc ∧ r.st = 0) : doW room s i x = (setT s i (some (coresOf x.recs)), true) := by
  rw [doW_1 hk, bootW_is hl hr hc, if_pos h, hr]; rfl
end
end Go.Proofs.Ytgipbhfblmblcaa

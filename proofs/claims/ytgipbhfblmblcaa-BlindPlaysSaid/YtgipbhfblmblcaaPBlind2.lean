/- Plain: what a move does to a world; that it lies in memory behind it. -/
import Derived.Test.YtgipbhfblmblcaaPBlind
set_option linter.unusedVariables false
namespace Go.Proofs.Ytgipbhfblmblcaa
open Go.Proofs.Ytgipbhfblmblcaa.AM
structure Mv where
  kind : Int
  node : Int
  other : Int
  inc : Int
  letter : Int
  recs : List Rc
def encMv (x : Mv) : AV := .agg [.int .i64 x.kind, .int .i64 x.node, .int .i64 x.other, .int .i64 x.inc, .int .i64 x.letter, encRs x.recs]
structure Wd where
  tl : List (Option (List Rc))
  cells : List Int
  post : List (Int × List Rc)
def coresOf (l : List Rc) : List Rc := l.map core
def lOf (s : Wd) (i : Nat) : Option (List Rc) := (s.tl[i]?).join
def setT (s : Wd) (i : Nat) (o : Option (List Rc)) : Wd := ⟨s.tl.set i o, s.cells, s.post⟩
def bootW (s : Wd) (i : Nat) (x : Mv) : Wd × Bool := match lOf s i, x.recs with
  | none, [r] => if recValid r = true ∧ r.id = (i : Int) ∧ (s.cells[i]?).getD 0 ≤ r.inc ∧ r.st = 0 then (setT s i (some [core r]), true) else (s, false)
  | _, _ => (s, false)
def againW (s : Wd) (x : Mv) : Wd × Bool := match pget s.post x.letter, pget s.post x.other with
  | some l, none => (⟨s.tl, s.cells, pput s.post x.other l⟩, true)
  | _, _ => (s, false)
def sendW (s : Wd) (l : List Rc) (x : Mv) : Wd × Bool :=
  if (pget s.post x.letter).isSome = true ∨ (x.recs.all fun r => (rfind l r.id).2 && akin (rfind l r.id).1 r) = false then (s, false)
  else (⟨s.tl, s.cells, pput s.post x.letter (coresOf x.recs)⟩, true)
def joinAll (me room : Int) (l : List Rc) (m : List Rc) : List Rc := m.foldl (fun l x => (joinT me room l x).1) l
def hearW (room : Int) (s : Wd) (i : Nat) (l : List Rc) (x : Mv) : Wd × Bool := match pget s.post x.letter with
  | none => (s, false)
  | some m => if (rfind l (i : Int)).1.st = 3 then (s, false) else (setT s i (some (joinAll i room l m)), true)
def doW (room : Int) (s : Wd) (i : Nat) (x : Mv) : Wd × Bool :=
  if x.kind = 1 then bootW s i x
  else if x.kind = 4 then againW s x
  else match lOf s i with
    | none => (s, false)
    | some l =>
      if x.kind = 2 then (setT s i none, true)
      else if x.kind = 3 then sendW s l x
      else if x.kind = 5 then hearW room s i l x
      else if x.kind = 6 then (setT s i (some (moveT i l x.other x.inc 0 1).1), (moveT i l x.other x.inc 0 1).2)
      else if x.kind = 7 then (setT s i (some (moveT i l x.other x.inc 1 2).1), (moveT i l x.other x.inc 1 2).2)
      else if x.kind = 8 then (setT s i (some (changeT i l []).1), decide ((changeT i l []).2 = 0))
      else (setT s i (some (leaveT i l).1), (leaveT i l).2)
def cellW (s : Wd) (i : Nat) : Wd := match lOf s i with
  | none => s
  | some l => ⟨s.tl, s.cells.set i (max ((s.cells[i]?).getD 0) ((rfind l (i : Int)).1.inc + 1)), s.post⟩
/-- The letters' row. -/
def lmRow (m : List (Int × List Rc)) : ARow := mrow .i64 (mmap encRs m)
/-- What a look-up among the letters gives. -/
def lval : Option (List Rc) → AV
  | none => .nil0
  | some l => encRs l
theorem llook (m : List (Int × List Rc)) (k : Int) : (mget (mmap encRs m) k).getD .nil0 = lval (pget m k) := by rw [mget_mmap]; cases pget m k <;> rfl
theorem llook_is (m : List (Int × List Rc)) (k : Int) : (mget (mmap encRs m) k).isSome = (pget m k).isSome := by rw [mget_mmap]; cases pget m k <;> rfl
theorem lval_view (o : Option (List Rc)) (G : AHeap) : (lval o).view G = some ((o.getD []).map encR) := by cases o <;> rfl
/-- What holds of a world. -/
structure WOk (room : Int) (s : Wd) : Prop where
  len : s.cells.length = s.tl.length
  n32 : s.tl.length ≤ 32
  inv : ∀ (i : Nat) (l : List Rc), s.tl[i]? = some (some l) → MInv (i : Int) room l
  lsz : ∀ (k : Int) (l : List Rc), pget s.post k = some l → l.length ≤ 1000
  bag : ∀ (k : Int) (l : List Rc), pget s.post k = some l → ∀ x ∈ l, Small x.bag
/-- The tables that pt and ls tell. -/
def tlOf (pt : List (Option Nat)) (ls : Nat → List Rc) : List (Option (List Rc)) := pt.mapIdx fun i o => o.map fun _ => ls i
theorem tlOf_at (pt : List (Option Nat)) (ls : Nat → List Rc) (i : Nat) : (tlOf pt ls)[i]? = (pt[i]?).map fun o => o.map fun _ => ls i := by
  unfold tlOf; rw [List.getElem?_mapIdx]
theorem tlOf_len (pt : List (Option Nat)) (ls : Nat → List Rc) : (tlOf pt ls).length = pt.length := by unfold tlOf; rw [List.length_mapIdx]
theorem tlOf_act {pt : List (Option Nat)} {ls : Nat → List Rc} {i p : Nat} {l : List Rc} (hi : pt[i]? = some (some p)) : tlOf pt (updN ls i l) = (tlOf pt ls).set i (some l) := by
  have hlt := (List.getElem?_eq_some_iff.1 hi).1
  refine List.ext_getElem? fun j => ?_
  rw [List.getElem?_set, tlOf_at, tlOf_at, tlOf_len]
  by_cases e : i = j
  · subst e; rw [if_pos rfl, if_pos hlt, hi, updN_at]; rfl
  · rw [if_neg e, updN_ne _ _ (fun g => e g.symm)]
theorem tlOf_halt {pt : List (Option Nat)} {ls : Nat → List Rc} {i : Nat} (hi : i < pt.length) : tlOf (pt.set i none) ls = (tlOf pt ls).set i none := by
  refine List.ext_getElem? fun j => ?_
  rw [List.getElem?_set, tlOf_at, tlOf_at, tlOf_len, List.getElem?_set]
  by_cases e : i = j
  · subst e; rw [if_pos rfl, if_pos rfl]; simp [hi]
  · rw [if_neg e, if_neg e]
theorem tlOf_boot {pt : List (Option Nat)} {ls : Nat → List Rc} {i p : Nat} {l : List Rc} (hi : i < pt.length) : tlOf (pt.set i (some p)) (updN ls i l) = (tlOf pt ls).set i (some l) := by
  refine List.ext_getElem? fun j => ?_
  rw [List.getElem?_set, tlOf_at, tlOf_at, tlOf_len, List.getElem?_set]
  by_cases e : i = j
  · subst e; rw [if_pos rfl, if_pos rfl, if_pos hi, if_pos hi]; simp [updN_at]
  · rw [if_neg e, if_neg e, updN_ne _ _ (fun g => e g.symm)]
theorem tl_cases (pt : List (Option Nat)) (ls : Nat → List Rc) {s : Wd} (htl : s.tl = tlOf pt ls) (i : Int) :
    ¬ (0 ≤ i ∧ i < (s.tl.length : Int)) ∨ (∃ j : Nat, i = (j : Int) ∧ pt[j]? = some none ∧ lOf s j = none ∧ j < s.tl.length) ∨ ∃ j p : Nat, i = (j : Int) ∧ pt[j]? = some (some p) ∧ lOf s j = some (ls j) ∧ j < s.tl.length := by
  by_cases h : 0 ≤ i ∧ i < (s.tl.length : Int)
  · obtain ⟨j, rfl⟩ := Int.eq_ofNat_of_zero_le h.1
    have hj : j < s.tl.length := by omega
    have hj2 : j < pt.length := by rw [htl, tlOf_len] at hj; exact hj
    obtain ⟨o, ho⟩ := get_some (l := pt) (k := j) hj2
    have hl : lOf s j = o.map fun _ => ls j := by rw [lOf, htl, tlOf_at, ho]; cases o <;> rfl
    cases o with
    | none => exact .inr (.inl ⟨j, rfl, ho, hl, hj⟩)
    | some p => exact .inr (.inr ⟨j, p, rfl, ho, hl, hj⟩)
  · exact .inl h
theorem WOk.letter {room : Int} {s : Wd} (h : WOk room s) (k : Int) : ((pget s.post k).getD []).length ≤ 1000 ∧ ∀ x ∈ (pget s.post k).getD [], Small x.bag := by
  cases hk : pget s.post k with
  | none => exact ⟨by simp, fun x hx => by simp at hx⟩
  | some l => exact ⟨h.lsz k l hk, h.bag k l hk⟩
theorem again_cases (s : Wd) (x : Mv) : (againW s x = (s, false) ∧ ((pget s.post x.letter).isSome = false ∨ (pget s.post x.other).isSome = true)) ∨ ∃ l, pget s.post x.letter = some l ∧ pget s.post x.other = none ∧ againW s x = (⟨s.tl, s.cells, pput s.post x.other l⟩, true) := by
  unfold againW
  cases h1 : pget s.post x.letter with
  | none => exact .inl ⟨rfl, .inl rfl⟩
  | some l =>
    cases h2 : pget s.post x.other with
    | none => exact .inr ⟨l, rfl, rfl, rfl⟩
    | some m => exact .inl ⟨rfl, .inr rfl⟩
/-- A world as it lies in memory; row tells the letters' row. -/
def WIs (row : List (Int × List Rc) → ARow) (h : AHeap) (w : Nat) (room : Int) (s : Wd) : Prop :=
  ∃ tr cr mr pt rs ls, WA (row s.post) h w tr cr mr room pt rs ls s.cells ∧ s.tl = tlOf pt ls
end Go.Proofs.Ytgipbhfblmblcaa

/- Plain: gates and plans. -/
import Derived.Test.YtgedefcjngofkaaPRec4
import Derived.Test.YtgedefcjngofkaaPIns
import Derived.Test.YtgedefcjngofkaaAmB
set_option linter.unusedVariables false
namespace Go.Proofs.Ytgedefcjngofkaa
open Go Go.Proofs.Ytgedefcjngofkaa.AM
structure Mv where
  id : Int
  sp : Sp
  deriving DecidableEq
def encMv (m : Mv) : AV := .agg [.int .i64 m.id, .int .i64 m.sp.lo, .int .i64 m.sp.hi]
def cnt (r : Rc) : Bool := !decide (r.st = 2) && !decide (r.st = 3)
def toMv (r : Rc) : Mv := ⟨r.id, r.sp⟩
def membs (l : List Rc) : List Mv := (l.filter cnt).map toMv
def apartP (id : Int) (s : Sp) (r : Rc) : Bool := cnt r && !decide (r.id = id) && decide (spBest r.sp s = 0)
def apartL (l : List Rc) (id : Int) (s : Sp) : List Int := (l.filter (apartP id s)).map (·.id)
def spans (l : List Rc) : List Sp := (membs l).map (·.sp)
def speakB (l : List Rc) : Bool := (spCommon (spans l)).isSome
def isGate (g : Int) : Bool := decide (1 ≤ g ∧ g ≤ 3)
def barsP (g : Int) (r : Rc) : Bool := isGate g && cnt r && decide (r.sp.hi < g)
def barsL (l : List Rc) (g : Int) : List Int := (l.filter (barsP g)).map (·.id)
def openB (l : List Rc) (g : Int) : Bool := isGate g && decide ((barsL l g).length = 0)
def overP (t : Sp) (m : Mv) : Bool := decide (t.lo < m.sp.lo) || decide (t.hi < m.sp.hi)
def mayE (l : List Rc) (t : Sp) (w : Int) : Int :=
  if (!srt l || !spValid t) = true then 1 else if w < 1 ∨ 3 < w ∨ w ≤ t.hi - t.lo then 5 else if speakB l = false then 13
  else if (membs l).any (overP t) = true then 15 else if w = 1 ∧ openB l t.hi = false then 7 else 0
/-- One move of a pass. -/
def upSp (w c : Int) (s : Sp) : Sp := ⟨max s.lo (c + 2 - w), c + 1⟩
def upMv (w c : Int) (m : Mv) : Mv := ⟨m.id, upSp w c m.sp⟩
def atP (c : Int) (m : Mv) : Bool := decide (m.sp.hi = c)
def passN (w c : Int) (now : List Mv) : List Mv := now.map fun m => if atP c m then upMv w c m else m
def passO (w c : Int) (now : List Mv) : List Mv := (now.filter (atP c)).map (upMv w c)
def passes (w : Int) : Nat → List Mv → List Mv × List Mv
  | 0, now => (now, [])
  | k + 1, now => (passN w (k + 1) (passes w k now).1, (passes w k now).2 ++ passO w (k + 1) (passes w k now).1)
def endP (t : Sp) (m : Mv) : Bool := !decide (m.sp = t)
def toT (t : Sp) (m : Mv) : Mv := ⟨m.id, t⟩
def endO (t : Sp) (now : List Mv) : List Mv := (now.filter (endP t)).map (toT t)
def planL (l : List Rc) (t : Sp) (w : Int) : List Mv := (passes w (t.hi - 1).toNat (membs l)).2 ++ endO t (passes w (t.hi - 1).toNat (membs l)).1
/-- A part of a pass over the places. -/
def putAll {α : Type} (p : α → Bool) (f : α → α) (k : Nat) (now : List α) : List α := ((now.take k).map fun m => if p m then f m else m) ++ now.drop k
theorem putAll_zero {α : Type} (p : α → Bool) (f : α → α) (now : List α) : putAll p f 0 now = now := rfl
theorem putAll_all {α : Type} (p : α → Bool) (f : α → α) (now : List α) : putAll p f now.length now = now.map fun m => if p m then f m else m := by
  rw [putAll, List.take_length, List.drop_length, List.append_nil]
theorem putAll_length {α : Type} (p : α → Bool) (f : α → α) (k : Nat) (now : List α) : (putAll p f k now).length = now.length := by
  simp [putAll]; omega
theorem putAll_get {α : Type} {p : α → Bool} {f : α → α} {k : Nat} {now : List α} {m : α} (h : now[k]? = some m) : (putAll p f k now)[k]? = some m := by
  obtain ⟨hk, _⟩ := List.getElem?_eq_some_iff.1 h
  rw [putAll, List.getElem?_append_right (by simp; omega)]
  simp only [List.length_map, List.length_take, Nat.min_eq_left (Nat.le_of_lt hk), Nat.sub_self, List.getElem?_drop, Nat.add_zero]
  exact h
theorem putAll_hit {α : Type} {p : α → Bool} {f : α → α} {k : Nat} {now : List α} {m : α} (h : now[k]? = some m) (hp : p m = true) : (putAll p f k now).set k (f m) = putAll p f (k + 1) now := by
  obtain ⟨hk, _⟩ := List.getElem?_eq_some_iff.1 h
  have hl : ((now.take k).map fun m => if p m then f m else m).length = k := by simp; omega
  rw [putAll, List.set_append_right _ _ (by omega), hl, Nat.sub_self, drop_cons h, List.set_cons_zero, putAll, List.take_add_one, h, List.map_append]
  simp [hp]
theorem putAll_miss {α : Type} {p : α → Bool} {f : α → α} {k : Nat} {now : List α} {m : α} (h : now[k]? = some m) (hp : p m = false) : putAll p f k now = putAll p f (k + 1) now := by
  rw [putAll, drop_cons h, putAll, List.take_add_one, h, List.map_append]
  simp [hp]
/-- The two variables of a plan, and their rows. -/
structure PlanSt (n0 p q : Nat) (an : AV) (H G : AHeap) (now out : List Mv) : Prop where
  box : G p = some (.box an)
  now : SV G 3 an (now.map encMv)
  out : ∃ ao, G q = some (.box ao) ∧ SV G 3 ao (out.map encMv) ∧ ∀ ro k, ao = .own ro 3 0 k → n0 ≤ ro ∧ ∀ rn j, an = .own rn 3 0 j → ro ≠ rn
  sub : H.sub G
  fp : n0 ≤ p
  fq : n0 ≤ q
  fn : ∀ rn j, an = .own rn 3 0 j → n0 ≤ rn
  ne : p ≠ q
theorem PlanSt.step {n0 n p q rn nn i r' : Nat} {an ao : AV} {H G : AHeap} {now out : List Mv} (m' : Mv) (hz : ∀ b, n0 ≤ b → H b = none) (h : PlanSt n0 p q an H G now out) (han : an = .own rn 3 0 nn) (hrn : G rn = some (.row 3 (now.map encMv))) (hnn : nn = (now.map encMv).length) (hn : n0 ≤ n) (hdom : ∀ b, n ≤ b → G b = none)
    (hq : G q = some (.box ao)) (ho : SV G 3 ao (out.map encMv)) (hof : ∀ ro k, ao = .own ro 3 0 k → n0 ≤ ro ∧ ∀ rn j, an = .own rn 3 0 j → ro ≠ rn) (hr' : n ≤ r' ∨ ∃ k, ao = .own r' 3 0 k) :
    PlanSt n0 p q an H (setAll G [(q, .box (.own r' 3 0 ((out ++ [m']).map encMv).length)), (r', .row 3 ((out ++ [m']).map encMv)), (rn, .row 3 ((now.set i m').map encMv))]) (now.set i m') (out ++ [m']) := by
  have hqrn : q ≠ rn := fun e => by rw [e, hrn] at hq; cases hq
  have hprn : p ≠ rn := fun e => by have := h.box; rw [e, hrn] at this; cases this
  have key : ∀ (x : ARow), (∀ sz l, x ≠ .row sz l) → ∀ b, G b = some x → b ≠ r' := fun x hx b hb e => by
    subst e
    rcases hr' with h1 | ⟨k, rfl⟩
    · rw [hdom _ h1] at hb; cases hb
    · rcases ho with ⟨h2, _⟩ | ⟨r, h2, h3⟩
      · cases h2
      · cases h2; rw [h3] at hb; cases hb; exact hx _ _ rfl
  have hqr : q ≠ r' := key _ (fun _ _ e => by cases e) q hq
  have hpr : p ≠ r' := key _ (fun _ _ e => by cases e) p h.box
  have hrr : rn ≠ r' := fun e => by
    subst e
    rcases hr' with h1 | ⟨k, rfl⟩
    · rw [hdom _ h1] at hrn; cases hrn
    · exact (hof _ _ rfl).2 _ _ han rfl
  have hr0 : n0 ≤ r' := by
    rcases hr' with h1 | ⟨k, rfl⟩
    · omega
    · exact (hof _ _ rfl).1
  have eG : setAll G [(q, .box (.own r' 3 0 ((out ++ [m']).map encMv).length)), (r', .row 3 ((out ++ [m']).map encMv)), (rn, .row 3 ((now.set i m').map encMv))] = ((G.set rn (.row 3 ((now.set i m').map encMv))).set r' (.row 3 ((out ++ [m']).map encMv))).set q (.box (.own r' 3 0 ((out ++ [m']).map encMv).length)) := rfl
  rw [eG]
  refine ⟨?_, ?_, ?_, ?_, h.fp, h.fq, h.fn, h.ne⟩
  · rw [AHeap.get_set_ne _ _ h.ne, AHeap.get_set_ne _ _ hpr, AHeap.get_set_ne _ _ hprn]; exact h.box
  · refine .inr ⟨rn, by rw [han, hnn]; simp, ?_⟩
    rw [AHeap.get_set_ne _ _ (Ne.symm hqrn), AHeap.get_set_ne _ _ hrr, AHeap.get_set]
  · refine ⟨_, AHeap.get_set _ _ _, .inr ⟨r', rfl, by rw [AHeap.get_set_ne _ _ (Ne.symm hqr), AHeap.get_set]⟩, fun ro k e => ?_⟩
    cases e
    exact ⟨hr0, fun rn2 j e2 => by rw [han] at e2; cases e2; exact Ne.symm hrr⟩
  · exact sub_set_free _ (sub_set_free _ (sub_set_free _ h.sub (hz _ (h.fn _ _ han))) (hz _ hr0)) (hz _ h.fq)
theorem may_zero {l : List Rc} {t : Sp} {w : Int} (h : mayE l t w = 0) : srt l = true ∧ spValid t = true ∧ (1 ≤ w ∧ w ≤ 3 ∧ t.hi - t.lo < w) ∧ speakB l = true ∧ (membs l).any (overP t) = false ∧ (w = 1 → openB l t.hi = true) := by
  unfold mayE at h
  split at h
  · cases h
  · rename_i h1
    split at h
    · cases h
    · split at h
      · cases h
      · split at h
        · cases h
        · split at h
          · cases h
          · rename_i h2 h3 h4 h5
            refine ⟨by simp_all, by simp_all, by omega, by simpa using h3, by simpa using h4, fun hw => ?_⟩
            cases ho : openB l t.hi with
            | true => rfl
            | false => exact absurd ⟨hw, ho⟩ h5
theorem sp_list (a b : Sp) : ([a.lo, a.hi] = [b.lo, b.hi]) ↔ a = b := by
  obtain ⟨_, _⟩ := a
  obtain ⟨_, _⟩ := b
  simp
end Go.Proofs.Ytgedefcjngofkaa

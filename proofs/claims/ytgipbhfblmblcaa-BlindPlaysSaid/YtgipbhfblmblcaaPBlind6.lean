/- Plain: what the laws of the moves lean on. -/
import Derived.Test.YtgipbhfblmblcaaPBlind5
set_option linter.unusedVariables false
namespace Go.Proofs.Ytgipbhfblmblcaa
open Go.Proofs.Ytgipbhfblmblcaa.AM
def viewW (s : Wd) (i : Int) : List Rc := if 0 ≤ i ∧ i < (s.tl.length : Int) then (lOf s i.toNat).getD [] else []
def upW (s : Wd) (i : Int) : Bool := decide (0 ≤ i ∧ i < (s.tl.length : Int)) && (lOf s i.toNat).isSome
def fewMv (l : List Mv) : Bool := decide (l.length ≤ 30) && l.all fun x => fewL x.recs
def hadB (y h : Rc) : Bool := decide (h.id = y.id) && decide (h.inc = y.inc) && decide (h.sp.lo = y.sp.lo) && decide (h.sp.hi = y.sp.hi)
def hadG (had : List Rc) (s : Wd) (i : Int) : List Rc := if upW s i = true then had ++ [(rfind (viewW s i) i).1] else had
section
variable {room : Int} {s : Wd} {x : Mv} {i : Int}
theorem upW_is (h : upW s i = true) : ∃ (j : Nat) (l : List Rc), i = (j : Int) ∧ lOf s j = some l ∧ viewW s i = l := by
  unfold upW at h
  rw [Bool.and_eq_true, decide_eq_true_eq] at h
  obtain ⟨j, rfl⟩ := Int.eq_ofNat_of_zero_le h.1.1
  obtain ⟨l, hl⟩ := Option.isSome_iff_exists.1 h.2
  rw [Int.toNat_natCast] at hl
  refine ⟨j, l, rfl, hl, ?_⟩
  rw [viewW, if_pos h.1, Int.toNat_natCast, hl]; rfl
theorem upW_no (h : upW s i = false) : viewW s i = [] := by
  unfold upW at h
  unfold viewW
  split
  · rename_i hc
    rw [decide_eq_true hc, Bool.true_and] at h
    cases hl : lOf s i.toNat with
    | none => rfl
    | some l => rw [hl] at h; cases h
  · rfl
theorem view_ok (hok : WOk room s) (i : Int) : (viewW s i).length ≤ 48 ∧ ∀ y ∈ viewW s i, Small y.bag := by
  cases h : upW s i with
  | false => rw [upW_no h]; exact ⟨by simp, fun y hy => by cases hy⟩
  | true =>
    obtain ⟨j, l, rfl, hl, hv⟩ := upW_is h
    have hM := lOf_inv hok hl
    rw [hv]; exact ⟨hM.len, hM.b⟩
theorem GInv.view {had : List Rc} (h : GInv s had) (i : Int) : ∀ y ∈ viewW s i, Had had y := by
  cases hu : upW s i with
  | false => rw [upW_no hu]; exact fun y hy => by cases hy
  | true =>
    obtain ⟨j, l, rfl, hl, hv⟩ := upW_is hu
    rw [hv]; exact h.tb j l hl
theorem hadG_is {had : List Rc} {j : Nat} (hj : j < s.tl.length) : hadG had s (j : Int) = hadN had s j := by
  have hc : 0 ≤ (j : Int) ∧ (j : Int) < (s.tl.length : Int) := ⟨by omega, by omega⟩
  unfold hadG hadN upW viewW
  rw [if_pos hc, decide_eq_true hc, Bool.true_and, Int.toNat_natCast]
  cases lOf s j with
  | none => rfl
  | some l => rfl
/-- A move that may be. -/
theorem DoW_cases (room : Int) (s : Wd) (x : Mv) : DoW room s x = (s, 1) ∨ ∃ j : Nat, x.node = (j : Int) ∧ j < s.tl.length ∧ ((doW room s j x).2 = false ∧ DoW room s x = (s, 17) ∨ (doW room s j x).2 = true ∧ DoW room s x = (cellW (doW room s j x).1 j, 0)) := by
  by_cases hb : x.kind < 1 ∨ 9 < x.kind ∨ x.node < 0 ∨ (s.tl.length : Int) ≤ x.node
  · exact .inl (DoW_bad hb)
  · obtain ⟨j, hj⟩ := Int.eq_ofNat_of_zero_le (a := x.node) (by omega)
    refine .inr ⟨j, hj, by omega, ?_⟩
    cases hd : (doW room s j x).2 with
    | false => exact .inl ⟨rfl, by rw [DoW_no hb hj hd, doW_no hd]⟩
    | true => exact .inr ⟨rfl, DoW_yes hb hj hd⟩
theorem cellW_tl (s : Wd) (i : Nat) : (cellW s i).tl = s.tl ∧ (cellW s i).post = s.post := by unfold cellW; split <;> exact ⟨rfl, rfl⟩
theorem DoW_ok (hok : WOk room s) (h1 : 1 ≤ room) (h48 : room ≤ 48) (hx : x.recs.length ≤ 1000) : WOk room (DoW room s x).1 := by
  rcases DoW_cases room s x with e | ⟨j, _, _, ⟨_, e⟩ | ⟨_, e⟩⟩ <;> rw [e]
  · exact hok
  · exact hok
  · exact cellW_ok (doW_ok hok x hx (bootW_ok hok h1 h48 j x)) j
theorem lOf_cell (s : Wd) (i j : Nat) : lOf (cellW s i) j = lOf s j := by unfold lOf; rw [(cellW_tl s i).1]
theorem GInv.move {had : List Rc} (hok : WOk room s) (h1 : 1 ≤ room) (h48 : room ≤ 48) (hx : x.recs.length ≤ 1000) (h : GInv s had) : GInv (DoW room s x).1 (hadG had (DoW room s x).1 x.node) := by
  have same : GInv s (hadG had s x.node) := h.mono fun z hz => by unfold hadG; split <;> simp [hz]
  rcases DoW_cases room s x with e | ⟨j, hj, hlt, ⟨_, e⟩ | ⟨_, e⟩⟩ <;> rw [e]
  · exact same
  · exact same
  · have hg := h.step hok hlt (doW_ok hok x hx (bootW_ok hok h1 h48 j x))
    have hlen : j < (cellW (doW room s j x).1 j).tl.length := by rw [(cellW_tl _ _).1, (doW_len room s j x).1]; exact hlt
    show GInv (cellW (doW room s j x).1 j) (hadG had (cellW (doW room s j x).1 j) x.node)
    rw [hj, hadG_is hlen]
    have e2 : hadN had (cellW (doW room s j x).1 j) j = hadN had (doW room s j x).1 j := by unfold hadN; rw [lOf_cell]
    rw [e2]
    exact ⟨fun i l hl => hg.tb i l (by rw [lOf_cell] at hl; exact hl), fun k l hl => hg.lt k l (by rw [(cellW_tl _ _).2] at hl; exact hl)⟩
theorem GInv.zero (n : Nat) : GInv ⟨List.replicate n none, List.replicate n 0, []⟩ [] := by
  refine ⟨fun i l h => ?_, fun k l h => (by cases h)⟩
  unfold lOf at h
  simp only [List.getElem?_replicate] at h
  split at h <;> cases h
end
theorem fewMv_all {l : List Mv} (h : fewMv l = true) : l.length ≤ 30 ∧ ∀ x ∈ l, x.recs.length ≤ 20 ∧ ∀ r ∈ x.recs, Small r.bag := by
  unfold fewMv at h
  rw [Bool.and_eq_true, decide_eq_true_eq] at h
  refine ⟨h.1, fun x hx => ?_⟩
  have hf := List.all_eq_true.1 h.2 x hx
  exact fewL_small hf
def awR (i c t : Int) : Rc := ⟨i, c, t, ⟨1, 1⟩, false, []⟩
def awM1 : Mv := ⟨1, 0, 0, 0, 0, [awR 0 0 0]⟩
def awM2 : Mv := ⟨1, 1, 0, 0, 0, [awR 1 0 0]⟩
def awM3 : Mv := ⟨3, 0, 0, 0, 1, [awR 0 0 0]⟩
def awM4 : Mv := ⟨5, 1, 0, 0, 1, []⟩
def awM5 : Mv := ⟨6, 1, 0, 0, 0, []⟩
def awM6 : Mv := ⟨3, 1, 0, 0, 2, [awR 0 0 1, awR 1 0 0]⟩
def awM7 : Mv := ⟨5, 0, 0, 0, 2, []⟩
def awS0 : Wd := ⟨[none, none], [0, 0], []⟩
def awS1 : Wd := ⟨[some [awR 0 0 0], none], [1, 0], []⟩
def awS2 : Wd := ⟨[some [awR 0 0 0], some [awR 1 0 0]], [1, 1], []⟩
def awS3 : Wd := ⟨[some [awR 0 0 0], some [awR 1 0 0]], [1, 1], [(1, [awR 0 0 0])]⟩
def awS4 : Wd := ⟨[some [awR 0 0 0], some [awR 0 0 0, awR 1 0 0]], [1, 1], [(1, [awR 0 0 0])]⟩
def awS5 : Wd := ⟨[some [awR 0 0 0], some [awR 0 0 1, awR 1 0 0]], [1, 1], [(1, [awR 0 0 0])]⟩
def awS6 : Wd := ⟨[some [awR 0 0 0], some [awR 0 0 1, awR 1 0 0]], [1, 1], [(1, [awR 0 0 0]), (2, [awR 0 0 1, awR 1 0 0])]⟩
def awS7 : Wd := ⟨[some [awR 0 1 0, awR 1 0 0], some [awR 0 0 1, awR 1 0 0]], [2, 1], [(1, [awR 0 0 0]), (2, [awR 0 0 1, awR 1 0 0])]⟩
theorem awD1 : DoW 4 awS0 awM1 = (awS1, 0) := rfl
theorem awD2 : DoW 4 awS1 awM2 = (awS2, 0) := rfl
theorem awD3 : DoW 4 awS2 awM3 = (awS3, 0) := rfl
theorem awD4 : DoW 4 awS3 awM4 = (awS4, 0) := rfl
theorem awD5 : DoW 4 awS4 awM5 = (awS5, 0) := rfl
theorem awD6 : DoW 4 awS5 awM6 = (awS6, 0) := rfl
theorem awD7 : DoW 4 awS6 awM7 = (awS7, 0) := rfl
theorem awS0_ok : WOk 4 awS0 := newW_ok 4 (n := 2) (by decide)
end Go.Proofs.Ytgipbhfblmblcaa

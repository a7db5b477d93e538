/- Plain: what lists of records come to when they are merged. -/
import Derived.Test.YtgipbhfblmblcaaPMap
import Derived.Test.YtgipbhfblmblcaaPRec4
set_option linter.unusedVariables false
namespace Go.Proofs.Ytgipbhfblmblcaa
open Go.Proofs.Ytgipbhfblmblcaa.AM
def mval (m : List (Int × Rc)) (r : Rc) : Rc := match pget m r.id with
  | none => r
  | some old => jnAll old r
def mstep (m : List (Int × Rc)) (r : Rc) : List (Int × Rc) := pput m r.id (mval m r)
def mrows (l : List Rc) : List (Int × Rc) := l.foldl mstep []
def mkeys (l : List Rc) : List Int := ((mrows l).map (·.1)).mergeSort fun x y => decide (x ≤ y)
def mergeL (l : List Rc) : List Rc := (mkeys l).map fun k => (pget (mrows l) k).getD rzero
def mergeAll (ls : List (List Rc)) : List Rc × Bool := if ls.all srt then (mergeL ls.flatten, true) else ([], false)
def ojn : Option Rc → Rc → Option Rc
  | none, r => some r
  | some a, r => some (jn a r)
def accId (l : List Rc) (id : Int) : Option Rc := (l.filter fun r => decide (r.id = id)).foldl ojn none
/-- A map of records, each under its own id. -/
structure Keyed (m : List (Int × Rc)) : Prop where
  ids : ∀ p ∈ m, p.2.id = p.1
  nodup : (m.map (·.1)).Nodup
theorem Keyed.get {m : List (Int × Rc)} (h : Keyed m) {k : Int} {v : Rc} (hg : pget m k = some v) : v.id = k := h.ids _ (pget_mem hg)
/-- Ids that rise. -/
def incr : Int → List Rc → Prop
  | _, [] => True
  | s, x :: l => s < x.id ∧ incr x.id l
theorem incr_lt : ∀ {l : List Rc} {s : Int}, incr s l → ∀ y ∈ l, s < y.id
  | [], _, _, _, h => by cases h
  | x :: l, s, h, y, hy => by
    rcases List.mem_cons.1 hy with rfl | hy
    · exact h.1
    · have := incr_lt h.2 y hy; have := h.1; omega
def ojn2 : Option Rc → Option Rc → Option Rc
  | o, none => o
  | none, o => o
  | some a, some b => some (jn a b)
theorem jn_valid {a b : Rc} (ha : recValid a = true) (hb : recValid b = true) : recValid (jn a b) = true := by
  rcases Int.lt_trichotomy a.inc b.inc with e | e | e
  · rw [jn_lt e]; exact hb
  · rw [jn_eq e]
    have h1 : ∀ r s, recValid r = true → 0 ≤ s → s ≤ 3 → recValid (withSt r s) = true := by
      intro r s hr h0 h3
      have e : recValid (withSt r s) = (decide (0 ≤ r.id ∧ r.id ≤ 4095 ∧ 0 ≤ r.inc ∧ r.inc ≤ 281474976710655 ∧ 0 ≤ s ∧ s ≤ 3) && spValid r.sp && bagValid r.bag && !(r.cut && decide (0 < r.bag.length))) := rfl
      rw [e]
      simp only [recValid, Bool.and_eq_true, decide_eq_true_eq] at hr ⊢
      exact ⟨⟨⟨⟨hr.1.1.1.1, hr.1.1.1.2.1, hr.1.1.1.2.2.1, hr.1.1.1.2.2.2.1, h0, h3⟩, hr.1.1.2⟩, hr.1.2⟩, hr.2⟩
    have h2 : ∀ r, recValid r = true → 0 ≤ r.st ∧ r.st ≤ 3 := by
      intro r hr
      simp only [recValid, Bool.and_eq_true, decide_eq_true_eq] at hr
      exact ⟨hr.1.1.1.2.2.2.2.1, hr.1.1.1.2.2.2.2.2⟩
    have ga := h2 a ha
    have gb := h2 b hb
    split
    · exact h1 b _ hb (by omega) (by omega)
    · exact h1 a _ ha (by omega) (by omega)
  · rw [jn_gt e]; exact ha
theorem srtGo_incr : ∀ {l : List Rc} {s : Int}, srtGo s l = true → incr s l ∧ ∀ r ∈ l, recValid r = true
  | [], _, _ => ⟨trivial, fun _ h => (by cases h)⟩
  | x :: l, s, h => by
    simp only [srtGo, Bool.and_eq_true, decide_eq_true_eq] at h
    obtain ⟨h1, h2⟩ := srtGo_incr h.2
    refine ⟨⟨h.1.2, h1⟩, fun r hr => ?_⟩
    rcases List.mem_cons.1 hr with rfl | hr
    · exact h.1.1
    · exact h2 r hr
theorem incr_srtGo : ∀ {l : List Rc} {s : Int}, incr s l → (∀ r ∈ l, recValid r = true) → srtGo s l = true
  | [], _, _, _ => rfl
  | x :: l, s, h, hv => by
    simp only [srtGo, Bool.and_eq_true, decide_eq_true_eq]
    exact ⟨⟨hv x (by simp), h.1⟩, incr_srtGo h.2 (fun r hr => hv r (by simp [hr]))⟩
theorem srt_incr {l : List Rc} (h : srt l = true) : incr (-1) l ∧ ∀ r ∈ l, recValid r = true := srtGo_incr h
theorem mem_find {x : List Rc} {s : Int} (hs : incr s x) {r : Rc} (hr : r ∈ x) : x.find? (fun y => decide (y.id = r.id)) = some r := by
  induction x generalizing s with
  | nil => cases hr
  | cons y x ih =>
    rcases List.mem_cons.1 hr with rfl | hr
    · rw [List.find?_cons_of_pos (by simp)]
    · have := incr_lt hs.2 r hr
      rw [List.find?_cons_of_neg (by simp; omega)]
      exact ih hs.2 hr
def zrA : AV := .agg [.int .i64 0, .int .i64 0, .int .i64 0, .int .i64 0, .int .i64 0, .bool false, .nil0]
end Go.Proofs.Ytgipbhfblmblcaa

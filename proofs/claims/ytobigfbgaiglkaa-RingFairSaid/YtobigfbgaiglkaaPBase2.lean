/- Plain: what is acknowledged, what is kept. -/
import Derived.Test.YtobigfbgaiglkaaPBase
set_option linter.unusedVariables false
namespace Go.Proofs.Ytobigfbgaiglkaa
open Go.Proofs.Ytobigfbgaiglkaa.AM
section
variable {h : AHeap} {p r : Nat} {P0 : AV} {ml : BMap} {f : Int → Snt} {aw : Int → AV} {life life' peer : Int} {s : Snt} {e : Int}
theorem of_some {b : Nat} (hk : (if life' = life then pget ml peer else none) = some b) : life' = life ∧ pget ml peer = some b := by
  split at hk
  · exact ⟨by assumption, hk⟩
  · cases hk
theorem of_none (hP : OA h p P0 r ml f aw) (hk : (if life' = life then pget ml peer else none) = none) (hl : life' = life) : f peer = s0 := by
  rw [if_pos hl] at hk; exact hP.df peer hk
theorem ack_none (hP : OA h p P0 r ml f aw) (hk : (if life' = life then pget ml peer else none) = none) (e : Int) : (decide (life' = life) && ackB (f peer) e) = false ∧ (if life' = life then ackF (f peer) e else f peer) = f peer := by
  by_cases hl : life' = life
  · rw [of_none hP hk hl, if_pos hl]; simp [ackB, ackF, s0, fidx]
  · simp [hl]
theorem lack_none (hP : OA h p P0 r ml f aw) (hk : (if life' = life then pget ml peer else none) = none) (e : Int) : (decide (life' = life) && lackB (f peer) e) = false ∧ (if life' = life then lackF (f peer) e else f peer) = f peer := by
  by_cases hl : life' = life
  · rw [of_none hP hk hl, if_pos hl]
    have : lackB s0 e = false := by simp [lackB, s0, b0]
    simp [lackF, this]
  · simp [hl]
theorem ack_neg (h : fidxZ (hasEp e) s.waits < 0) : ackB s e = false ∧ ackF s e = s := by
  have h1 : ¬ fidx (hasEp e) s.waits < s.waits.length := fun hlt => by rw [fidxZ, if_pos hlt] at h; omega
  have h2 : s.waits[fidx (hasEp e) s.waits]? = none := List.getElem?_eq_none (by omega)
  rw [ackB, ackF, h2]
  exact ⟨decide_eq_false h1, rfl⟩
theorem ack_pos (h : ¬ fidxZ (hasEp e) s.waits < 0) : ∃ (i : Nat) (w : BRow), fidxZ (hasEp e) s.waits = (i : Int) ∧ s.waits[i]? = some w ∧ ackB s e = true ∧ ackF s e = ⟨s.last, w, s.waits.drop (i + 1)⟩ := by
  have h1 : fidx (hasEp e) s.waits < s.waits.length := by
    unfold fidxZ at h; split at h
    · assumption
    · omega
  obtain ⟨w, hw⟩ := get_some h1
  exact ⟨_, w, by rw [fidxZ, if_pos h1], hw, decide_eq_true h1, by rw [ackF, hw]⟩
theorem lack_no (h : e < 1 ∨ s.last < e ∨ s.base.epoch = 0) : lackB s e = false ∧ lackF s e = s := by
  have h1 : lackB s e = false := by
    unfold lackB
    rcases h with h | h | h
    · rw [decide_eq_false (show ¬ 1 ≤ e by omega)]; rfl
    · rw [decide_eq_false (show ¬ e ≤ s.last by omega)]; simp
    · simp [h]
  exact ⟨h1, by rw [lackF, if_neg (by simp [h1])]⟩
theorem lack_yes (h1 : 1 ≤ e) (h2 : e ≤ s.last) (h3 : s.base.epoch ≠ 0) : lackB s e = true ∧ lackF s e = ⟨s.last, b0, s.waits⟩ := by
  have h : lackB s e = true := by simp [lackB, h1, h2, h3]
  exact ⟨h, by rw [lackF, if_pos h]⟩
end
section
variable {α : Type}
theorem split_whileG {l : List α} {p : α → Bool} {k : Nat} (hk : k ≤ l.length) (hall : (l.take k).all p = true) (hstop : ∀ y, l[k]? = some y → p y = false) : k ≤ l.length ∧ l.take k = l.takeWhile p ∧ l.drop k = l.dropWhile p := by
  refine ⟨hk, ?_⟩
  induction k generalizing l with
  | zero =>
    cases l with
    | nil => exact ⟨rfl, rfl⟩
    | cons y l => have := hstop y rfl; simp [this]
  | succ k ih =>
    cases l with
    | nil => simp at hk
    | cons y l =>
      simp only [List.take_succ_cons, List.all_cons, Bool.and_eq_true] at hall
      obtain ⟨h1, h2⟩ := ih (by simpa using hk) hall.2 (fun z hz => hstop z (by simpa using hz))
      rw [List.takeWhile_cons_of_pos hall.1, List.dropWhile_cons_of_pos hall.1]
      exact ⟨by simp [h1], by simpa using h2⟩
theorem allG_snoc {p : α → Bool} {l : List α} {k : Nat} {x : α} (hx : l[k]? = some x) : (l.take (k + 1)).all p = ((l.take k).all p && p x) := by
  rw [List.take_add_one, hx]; simp [List.all_append]
end
/-! What is kept of a peer -/
def gFind (o : Option Gt) (life e : Int) : Option (List Rc) := match o with
  | none => none
  | some g => if g.life = life then (g.rows[fidx (hasEp e) g.rows]?).map BRow.recs else none
def isUnder (e : Int) (x : BRow) : Bool := decide (x.epoch < e)
def insRow (l : List BRow) (x : BRow) : List BRow := l.takeWhile (isUnder x.epoch) ++ [x] ++ l.dropWhile (isUnder x.epoch)
def notEp (e : Int) (x : BRow) : Bool := !decide (x.epoch = e)
def trimR (base : Int) (l : List BRow) : List BRow := if 4 < l.length then l.take (fidx (notEp base) l) ++ l.drop (fidx (notEp base) l + 1) else l
def keepB (o : Option Gt) (life e : Int) (l : List Rc) : Bool := decide (1 ≤ e) && srt l && match o with
  | none => true
  | some g => decide (g.life < life) || (decide (g.life = life) && !decide (fidx (hasEp e) g.rows < g.rows.length))
def rows0 (o : Option Gt) (life base : Int) : List BRow := match o with
  | none => []
  | some g => if g.life < life then [] else g.rows.filter fun x => !isUnder base x
def keepF (o : Option Gt) (life e base : Int) (l : List Rc) : Option Gt := if keepB o life e l then some ⟨life, trimR base (insRow (rows0 o life base) ⟨l, e⟩)⟩ else o
structure GOk (g : Gt) : Prop where
  len : g.rows.length ≤ 4
  rows : ∀ x ∈ g.rows, RowOk x
  rise : g.rows.Pairwise (fun a b => a.epoch < b.epoch)
end Go.Proofs.Ytobigfbgaiglkaa

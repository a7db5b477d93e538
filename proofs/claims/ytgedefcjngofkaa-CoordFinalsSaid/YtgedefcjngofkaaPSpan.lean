/- Plain: spans. -/
import Derived.Test.YtgedefcjngofkaaPDice
set_option linter.unusedVariables false
namespace Go.Proofs.Ytgedefcjngofkaa
open Go.Proofs.Ytgedefcjngofkaa.AM
structure Sp where
  lo : Int
  hi : Int
  deriving DecidableEq
def Sp.cells (s : Sp) : List AV := [.int .i64 s.lo, .int .i64 s.hi]
def encSp (s : Sp) : AV := .agg [.int .i64 s.lo, .int .i64 s.hi]
def spValid (s : Sp) : Bool := decide (1 ≤ s.lo ∧ s.lo ≤ s.hi ∧ s.hi ≤ 3)
def spCom : List Sp → Sp → Option Sp
  | [], acc => if spValid acc then some acc else none
  | s :: l, acc => if spValid s then spCom l ⟨max acc.lo s.lo, min acc.hi s.hi⟩ else none
def spCommon (l : List Sp) : Option Sp := spCom l ⟨1, 3⟩
def spBest (a b : Sp) : Int := ((spCommon [a, b]).getD ⟨0, 0⟩).hi
def spHas (s : Sp) (g : Int) : Bool := spValid s && decide (s.lo ≤ g ∧ g ≤ s.hi)
theorem spBest_val (a b : Sp) : spBest a b = if spValid a = true ∧ spValid b = true ∧ spValid ⟨max (max 1 a.lo) b.lo, min (min 3 a.hi) b.hi⟩ = true then min (min 3 a.hi) b.hi else 0 := by
  unfold spBest spCommon
  simp only [spCom]
  by_cases ha : spValid a = true
  · by_cases hb : spValid b = true
    · by_cases hc : spValid ⟨max (max 1 a.lo) b.lo, min (min 3 a.hi) b.hi⟩ = true
      · rw [if_pos ha, if_pos hb, if_pos hc, if_pos ⟨ha, hb, hc⟩]; rfl
      · rw [if_pos ha, if_pos hb, if_neg hc, if_neg (fun h => hc h.2.2)]; rfl
    · simp [ha, hb]
  · simp [ha]
theorem min3 (x y z : Int) : min (min x y) z ≤ x ∧ min (min x y) z ≤ y ∧ min (min x y) z ≤ z ∧ (min (min x y) z = x ∨ min (min x y) z = y ∨ min (min x y) z = z) := by
  simp only [Int.min_def]; split <;> split <;> omega
theorem max3 (x y z : Int) : x ≤ max (max x y) z ∧ y ≤ max (max x y) z ∧ z ≤ max (max x y) z ∧ (max (max x y) z = x ∨ max (max x y) z = y ∨ max (max x y) z = z) := by
  simp only [Int.max_def]; split <;> split <;> omega
theorem spBest_cases (a b : Sp) : (spBest a b = 0 ∧ ∀ k : Int, ¬ (spHas a k = true ∧ spHas b k = true)) ∨ (spHas a (spBest a b) = true ∧ spHas b (spBest a b) = true ∧ 1 ≤ spBest a b ∧ spBest a b ≤ 3 ∧ ∀ k : Int, spHas a k = true → spHas b k = true → k ≤ spBest a b) := by
  rw [spBest_val]
  have h1 := min3 3 a.hi b.hi
  have h2 := max3 1 a.lo b.lo
  simp only [spHas, spValid, Bool.and_eq_true, decide_eq_true_eq]
  generalize min (min 3 a.hi) b.hi = m at *
  generalize max (max 1 a.lo) b.lo = M at *
  split
  · right; refine ⟨by omega, by omega, by omega, by omega, fun k h1 h2 => by omega⟩
  · left; refine ⟨rfl, fun k => by omega⟩
theorem spBest_comm (a b : Sp) : spBest a b = spBest b a := by
  rcases spBest_cases a b with ⟨h1, h2⟩ | ⟨h1, h2, h3, h4, h5⟩ <;> rcases spBest_cases b a with ⟨g1, g2⟩ | ⟨g1, g2, g3, g4, g5⟩
  · omega
  · exact absurd ⟨g2, g1⟩ (h2 _)
  · exact absurd ⟨h2, h1⟩ (g2 _)
  · have := h5 _ g2 g1; have := g5 _ h2 h1; omega
end Go.Proofs.Ytgedefcjngofkaa

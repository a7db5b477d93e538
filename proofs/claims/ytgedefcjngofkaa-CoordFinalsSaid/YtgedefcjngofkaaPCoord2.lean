/- Plain: since when what is final, told beside a coordinator. -/
import Derived.Test.YtgedefcjngofkaaPCoord
set_option linter.unusedVariables false
namespace Go.Proofs.Ytgedefcjngofkaa
open Go Go.Proofs.Ytgedefcjngofkaa.AM
structure Wn where
  view : List Rc
  g : Int
  now : Int
def encWn (w : Wn) : AV := .agg [encRs w.view, .int .i64 w.g, .int .i64 w.now]
structure FR (k : Co) (sl : List Int) (L : Nat) : Prop where
  len : sl.length = 4
  le : L ≤ 3
  fin : ∀ i, i < 3 → k.fin i = if i < L then sl[i + 1]? else none
theorem Co.once_fin (k : Co) (now : Int) {i j : Nat} (hi : i < 3) (hj : j < 3) : (k.once i now).fin j = if j = i then some ((k.fin i).getD now) else k.fin j := by
  rcases (by omega : i = 0 ∨ i = 1 ∨ i = 2) with rfl | rfl | rfl <;> rcases (by omega : j = 0 ∨ j = 1 ∨ j = 2) with rfl | rfl | rfl <;> rfl
theorem Co.once_rest (k : Co) (now : Int) (i : Nat) : (k.once i now).ask = k.ask ∧ (k.once i now).t = k.t ∧ (k.once i now).wd = k.wd := by
  unfold Co.once; split <;> exact ⟨rfl, rfl, rfl⟩
theorem Co.run_fin (k : Co) (now : Int) {j : Nat} (hj : j < 3) : ∀ {n : Nat}, n ≤ 3 → (k.run now n).fin j = if j < n then some ((k.fin j).getD now) else k.fin j
  | 0, _ => rfl
  | n + 1, hn => by
    have ih := Co.run_fin k now hj (n := n) (by omega)
    rw [Co.run, Co.once_fin _ _ (by omega) hj]
    by_cases e : j = n
    · subst e
      rw [if_pos rfl, if_pos (by omega), ih, if_neg (by omega)]
    · rw [if_neg e, ih]
      by_cases c : j < n
      · rw [if_pos c, if_pos (by omega)]
      · rw [if_neg c, if_neg (by omega)]
theorem Co.run_rest (k : Co) (now : Int) : ∀ n : Nat, (k.run now n).ask = k.ask ∧ (k.run now n).t = k.t ∧ (k.run now n).wd = k.wd
  | 0 => ⟨rfl, rfl, rfl⟩
  | n + 1 => by
    obtain ⟨h1, h2, h3⟩ := Co.run_rest k now n
    obtain ⟨g1, g2, g3⟩ := Co.once_rest (k.run now n) now n
    exact ⟨g1.trans h1, g2.trans h2, g3.trans h3⟩
theorem Co.finK_ask (k : Co) (l : List Rc) (g now : Int) : (k.finK l g now).ask = k.ask + 1 := by
  unfold Co.finK; split
  · exact (Co.run_rest _ _ _).1
  · rfl
theorem Co.up_fin (k : Co) (i : Nat) : k.up.fin i = k.fin i := by unfold Co.fin; split <;> rfl
def setR (sl : List Int) (L : Nat) (now : Int) : Nat → List Int
  | 0 => sl
  | n + 1 => (setR sl L now n).set (L + 1 + n) now
theorem setR_len (sl : List Int) (L : Nat) (now : Int) : ∀ n, (setR sl L now n).length = sl.length
  | 0 => rfl
  | n + 1 => by rw [setR, List.length_set]; exact setR_len sl L now n
theorem setR_get (sl : List Int) (L : Nat) (now : Int) (i : Nat) (hi : i < sl.length) : ∀ n, (setR sl L now n)[i]? = if L < i ∧ i ≤ L + n then some now else sl[i]?
  | 0 => by rw [if_neg (by omega)]; rfl
  | n + 1 => by
    rw [setR, List.getElem?_set, setR_len]
    by_cases e : L + 1 + n = i
    · rw [if_pos e, if_pos (by omega), if_pos (by omega)]
    · rw [if_neg e, setR_get sl L now i hi n]
      by_cases c : L < i ∧ i ≤ L + n
      · rw [if_pos c, if_pos (by omega)]
      · rw [if_neg c, if_neg (by omega)]
section
variable {k : Co} {sl : List Int} {L : Nat}
theorem FR.up (h : FR k sl L) : FR k.up sl L := ⟨h.len, h.le, fun i hi => by rw [Co.up_fin]; exact h.fin i hi⟩
theorem FR.run (h : FR k sl L) (now : Int) {n : Nat} (hn : n ≤ 3) : FR (k.up.run now n) (setR sl L now (n - L)) (max L n) := by
  refine ⟨by rw [setR_len]; exact h.len, by have := h.le; omega, fun i hi => ?_⟩
  have hl := h.len
  rw [Co.run_fin _ _ hi hn, Co.up_fin, h.fin i hi, setR_get _ _ _ _ (by omega)]
  obtain ⟨x, hx⟩ := get_some (l := sl) (k := i + 1) (by omega)
  rw [hx]
  by_cases c : i < L
  · rw [if_pos c, if_pos (show i < max L n by omega), if_neg (show ¬ (L < i + 1 ∧ i + 1 ≤ L + (n - L)) by omega)]
    split <;> rfl
  · rw [if_neg c]
    by_cases d : i < n
    · rw [if_pos d, if_pos (show i < max L n by omega), if_pos (by omega)]; rfl
    · rw [if_neg d, if_neg (show ¬ i < max L n by omega)]
theorem FR.level (h : FR k sl L) : k.level = (L : Int) := by
  have hl := h.len
  obtain ⟨x1, h1⟩ := get_some (l := sl) (k := 1) (by omega)
  obtain ⟨x2, h2⟩ := get_some (l := sl) (k := 2) (by omega)
  obtain ⟨x3, h3⟩ := get_some (l := sl) (k := 3) (by omega)
  have f0 := h.fin 0 (by decide)
  have f1 := h.fin 1 (by decide)
  have f2 := h.fin 2 (by decide)
  have hle := h.le
  simp only [Nat.zero_add, Nat.reduceAdd, h1, h2, h3] at f0 f1 f2
  rcases (by omega : L = 0 ∨ L = 1 ∨ L = 2 ∨ L = 3) with rfl | rfl | rfl | rfl <;> simp at f0 f1 f2 <;> simp [Co.level, Co.lvTo, f0, f1, f2]
theorem FR.at_yes (h : FR k sl L) {v : Int} {q : Nat} (hv : v = (q : Int)) (h1 : 1 ≤ q) (h2 : q ≤ L) : ∃ x, sl[q]? = some x ∧ k.at v = some x := by
  have hl := h.len
  have hle := h.le
  obtain ⟨x, hx⟩ := get_some (l := sl) (k := q) (by omega)
  refine ⟨x, hx, ?_⟩
  rw [Co.at_is (i := q - 1) (by omega) (by omega), h.fin _ (by omega), if_pos (by omega), show q - 1 + 1 = q by omega, hx]
theorem FR.at_no (h : FR k sl L) {v : Int} (hv : ¬ (1 ≤ v ∧ v ≤ (L : Int))) : k.at v = none := by
  by_cases c : 1 ≤ v ∧ v ≤ 3
  · obtain ⟨i, hi⟩ := Int.eq_ofNat_of_zero_le (a := v - 1) (by omega)
    rw [Co.at_is hi (by omega), h.fin i (by omega), if_neg (by omega)]
  · exact Co.at_no (by omega)
theorem FR.zero : FR ⟨⟨1, 3⟩, 3, none, none, none, 0⟩ [0, 0, 0, 0] 0 := ⟨rfl, by decide, fun i hi => by
  rcases (by omega : i = 0 ∨ i = 1 ∨ i = 2) with rfl | rfl | rfl <;> rfl⟩
theorem bars_ne {l : List Rc} {g : Int} (h : openB l g = false) (h1 : 1 ≤ g) (h3 : g ≤ 3) : (barsL l g).length ≠ 0 := fun e => by
  rw [openB, e, show isGate g = true from decide_eq_true ⟨h1, h3⟩] at h; cases h
theorem set_map_s (q : List Int) (i : Nat) (v : Int) : (q.map (AV.int .i64)).set i (.int .i64 v) = (q.set i v).map (.int .i64) := by rw [List.map_set]
theorem FR.ok9 (h : FR k sl L) {l : List Rc} {g now : Int} (hE : k.finE l g ≠ 0) : FR (k.finK l g now) sl L := by
  rw [Co.finK, if_neg hE]; exact h.up
theorem FR.ok0 (h : FR k sl L) {l : List Rc} {now : Int} {n : Nat} (hn : n ≤ 3) (hE : k.finE l (n : Int) = 0) : FR (k.finK l (n : Int) now) (setR sl L now (n - L)) (max L n) := by
  rw [Co.finK, if_pos hE, Int.toNat_natCast]; exact h.run now hn
end
end Go.Proofs.Ytgedefcjngofkaa

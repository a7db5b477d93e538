/- Plain: what the law of joins asks. -/
import Derived.Test.YtgedefcjngofkaaPLat2
set_option linter.unusedVariables false
namespace Go.Proofs.Ytgedefcjngofkaa
open Go.Proofs.Ytgedefcjngofkaa.AM
def setId (r : Rc) (i : Int) : Rc := ⟨i, r.inc, r.st, r.sp, r.cut, r.bag⟩
theorem jn_id {a b : Rc} (h : a.id = b.id) : (jn a b).id = a.id := by
  rcases Int.lt_trichotomy a.inc b.inc with e | e | e
  · rw [jn_lt e]; exact h.symm
  · rw [jn_eq e]; simp only [withSt]; split <;> omega
  · rw [jn_gt e]
theorem jn_bag (a b : Rc) : (jn a b).bag = a.bag ∨ (jn a b).bag = b.bag := by
  rcases Int.lt_trichotomy a.inc b.inc with e | e | e
  · rw [jn_lt e]; exact .inr rfl
  · rw [jn_eq e]; simp only [withSt]; split
    · exact .inr rfl
    · exact .inl rfl
  · rw [jn_gt e]; exact .inl rfl
theorem jn_small {a b : Rc} (ha : Small a.bag) (hb : Small b.bag) : Small (jn a b).bag := by
  rcases jn_bag a b with h | h <;> rw [h] <;> assumption
theorem jnAll_same {a b : Rc} (h : a.id = b.id) : jnAll a b = jn a b := if_pos h
theorem jn_up_left (a b : Rc) : jn a (jn a b) = jn a b := by rw [← jn_assoc, jn_idem]
theorem jn_up_right {a b : Rc} (h : a.id = b.id) : jn b (jn a b) = jn a b := by rw [jn_comm h, jn_up_left]
theorem jn_least {a b c : Rc} (h1 : jn a c = c) (h2 : jn b c = c) : jn (jn a b) c = c := by rw [jn_assoc, h2, h1]
theorem jn_anti {a b : Rc} (h : a.id = b.id) (h1 : jn a b = b) (h2 : jn b a = a) : a = b := by rw [← h2, ← jn_comm h, h1]
end Go.Proofs.Ytgedefcjngofkaa

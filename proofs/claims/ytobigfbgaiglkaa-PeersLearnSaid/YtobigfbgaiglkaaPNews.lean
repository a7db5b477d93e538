/- Plain: what a book knows behind any news. -/
import Derived.Test.YtobigfbgaiglkaaPTimer
set_option linter.unusedVariables false
namespace Go.Proofs.Ytobigfbgaiglkaa
open Go.Proofs.Ytobigfbgaiglkaa.AM
theorem learn_keys (m : Book) (id inc : Int) (s : Sp) : (learn m id inc s).map (·.1) = if learnOk m id inc s = true ∧ (pget m id).isSome = false then m.map (·.1) ++ [id] else m.map (·.1) := by
  unfold learn
  cases h : learnOk m id inc s
  · simp
  · rw [if_pos rfl, pput_keys]
    cases h2 : (pget m id).isSome <;> simp
theorem learn_new {m : Book} {id inc : Int} {s : Sp} (h : learnOk m id inc s = true) : pget (learn m id inc s) id = some ⟨inc, s⟩ := by
  rw [learn, if_pos h, pget_pput, if_pos rfl]
theorem learn_old {m : Book} {id inc : Int} {s : Sp} (h : learnOk m id inc s = false) : learn m id inc s = m := by
  rw [learn, if_neg (by simp [h])]
theorem learn_other {m : Book} {id inc k : Int} {s : Sp} (h : k ≠ id) : pget (learn m id inc s) k = pget m k := by
  unfold learn; split
  · rw [pget_pput, if_neg h]
  · rfl
theorem learn_nodup {m : Book} (h : (m.map (·.1)).Nodup) (id inc : Int) (s : Sp) : ((learn m id inc s).map (·.1)).Nodup := by
  unfold learn; split
  · exact pput_nodup h _ _
  · exact h
theorem bookOf_nodup (l : List News) : ((bookOf l).map (·.1)).Nodup := by
  have key : ∀ (l : List News) (m : Book), (m.map (·.1)).Nodup → ((l.foldl (fun m x => learn m x.id x.inc x.sp) m).map (·.1)).Nodup := by
    intro l
    induction l with
    | nil => exact fun m h => h
    | cons x l ih => exact fun m h => ih _ (learn_nodup h _ _ _)
  exact key l [] List.nodup_nil
theorem learn_length (m : Book) (id inc : Int) (s : Sp) : (learn m id inc s).length ≤ m.length + 1 := by
  unfold learn; split
  · exact pput_length _ _ _
  · omega
theorem bookOf_length (l : List News) : (bookOf l).length ≤ l.length := by
  have key : ∀ (l : List News) (m : Book), (l.foldl (fun m x => learn m x.id x.inc x.sp) m).length ≤ m.length + l.length := by
    intro l
    induction l with
    | nil => exact fun m => Nat.le_refl _
    | cons x l ih =>
      intro m
      have h1 := ih (learn m x.id x.inc x.sp)
      have h2 := learn_length m x.id x.inc x.sp
      simp only [List.foldl_cons, List.length_cons]; omega
  have h := key l []
  rw [List.length_nil, Nat.zero_add] at h
  exact h
/-- Where the last news of an id stand. -/
def AtNews (l : List News) (m : Book) (id a : Int) : Prop := (a = -1 ∧ pget m id = none) ∨ ∃ (j : Nat) (y : News), a = (j : Int) ∧ l[j]? = some y ∧ pget m id = some ⟨y.inc, y.sp⟩
theorem AtNews.hit {l : List News} {m : Book} {id : Int} {k : Nat} {x : News} (hx : l[k]? = some x) (h : learnOk m x.id x.inc x.sp = true) (hid : x.id = id) : AtNews l (learn m x.id x.inc x.sp) id (k : Int) :=
  .inr ⟨k, x, rfl, hx, by rw [← hid]; exact learn_new h⟩
theorem AtNews.miss {l : List News} {m : Book} {id a : Int} {x : News} (h : AtNews l m id a) (hn : ¬ (learnOk m x.id x.inc x.sp = true ∧ x.id = id)) : AtNews l (learn m x.id x.inc x.sp) id a := by
  have e : pget (learn m x.id x.inc x.sp) id = pget m id := by
    by_cases hid : x.id = id
    · have : learnOk m x.id x.inc x.sp = false := by
        cases hh : learnOk m x.id x.inc x.sp
        · rfl
        · exact absurd ⟨hh, hid⟩ hn
      rw [learn_old this]
    · exact learn_other (Ne.symm hid)
  rcases h with ⟨h1, h2⟩ | ⟨j, y, h1, h2, h3⟩
  · exact .inl ⟨h1, e.trans h2⟩
  · exact .inr ⟨j, y, h1, h2, e.trans h3⟩
theorem pkeys_lt {m : Book} (h : (m.map (·.1)).Nodup) {k : Nat} {w z : Int} (hk : 0 < k) (hw : (pkeys m)[k - 1]? = some w) (hz : (pkeys m)[k]? = some z) : w < z := by
  obtain ⟨i1, e1⟩ := List.getElem?_eq_some_iff.1 hw
  obtain ⟨i2, e2⟩ := List.getElem?_eq_some_iff.1 hz
  have := List.pairwise_iff_getElem.1 (pkeys_rise h) (k - 1) k i1 i2 (by omega)
  rw [e1, e2] at this; exact this
theorem learnOk_may (m : Book) (id inc : Int) (s : Sp) : learnOk m id inc s = (decide (0 ≤ id) && decide (id ≤ 4095) && decide (0 ≤ inc) && decide (inc ≤ 281474976710655) && spValid s && (!(pget m id).isSome || decide ((lookPe m id).inc ≤ inc))) := by
  have e : decide (0 ≤ id ∧ id ≤ 4095 ∧ 0 ≤ inc ∧ inc ≤ 281474976710655) = (decide (0 ≤ id) && decide (id ≤ 4095) && decide (0 ≤ inc) && decide (inc ≤ 281474976710655)) := by
    simp only [Bool.decide_and, Bool.and_assoc]
  have e2 : decide (inc < (lookPe m id).inc) = !decide ((lookPe m id).inc ≤ inc) := by
    by_cases h : inc < (lookPe m id).inc
    · simp [h]
    · simp [h]; omega
  rw [learnOk, e, e2]
  cases (pget m id).isSome <;> simp
end Go.Proofs.Ytobigfbgaiglkaa

/- Plain: who can speak; records behind moves; why there is no plan. -/
import Derived.Test.YtgedefcjngofkaaPPlan
set_option linter.unusedVariables false
namespace Go.Proofs.Ytgedefcjngofkaa
open Go Go.Proofs.Ytgedefcjngofkaa.AM
theorem spCom_is : ∀ (l : List Sp) (acc : Sp), ∃ M m : Int, (acc.lo ≤ M ∧ (∀ a ∈ l, a.lo ≤ M) ∧ (M = acc.lo ∨ ∃ a ∈ l, M = a.lo)) ∧ (m ≤ acc.hi ∧ (∀ a ∈ l, m ≤ a.hi) ∧ (m = acc.hi ∨ ∃ a ∈ l, m = a.hi)) ∧ (spCom l acc).isSome = (l.all spValid && spValid ⟨M, m⟩)
  | [], acc => ⟨acc.lo, acc.hi, ⟨by omega, by simp, .inl rfl⟩, ⟨by omega, by simp, .inl rfl⟩, by simp only [spCom, List.all_nil, Bool.true_and]; split <;> simp_all⟩
  | s :: l, acc => by
    obtain ⟨M, m, ⟨h1, h2, h3⟩, ⟨h4, h5, h6⟩, h7⟩ := spCom_is l ⟨max acc.lo s.lo, min acc.hi s.hi⟩
    simp only at h1 h3 h4 h6
    have e1 := Int.le_max_left acc.lo s.lo
    have e2 := Int.le_max_right acc.lo s.lo
    have e3 := Int.min_le_left acc.hi s.hi
    have e4 := Int.min_le_right acc.hi s.hi
    refine ⟨M, m, ⟨by omega, fun a ha => ?_, ?_⟩, ⟨by omega, fun a ha => ?_, ?_⟩, ?_⟩
    · rcases List.mem_cons.1 ha with rfl | ha
      · omega
      · exact h2 a ha
    · rcases h3 with h3 | ⟨a, ha, h3⟩
      · have : max acc.lo s.lo = acc.lo ∨ max acc.lo s.lo = s.lo := by omega
        rcases this with h | h
        · exact .inl (by omega)
        · exact .inr ⟨s, by simp, by omega⟩
      · exact .inr ⟨a, by simp [ha], h3⟩
    · rcases List.mem_cons.1 ha with rfl | ha
      · omega
      · exact h5 a ha
    · rcases h6 with h6 | ⟨a, ha, h6⟩
      · have : min acc.hi s.hi = acc.hi ∨ min acc.hi s.hi = s.hi := by omega
        rcases this with h | h
        · exact .inl (by omega)
        · exact .inr ⟨s, by simp, by omega⟩
      · exact .inr ⟨a, by simp [ha], h6⟩
    · simp only [spCom, List.all_cons]
      by_cases hs : spValid s = true
      · rw [if_pos hs, h7, hs, Bool.true_and]
      · rw [if_neg hs]; simp [hs]
theorem best_self {a : Sp} (h : spBest a a ≠ 0) : spValid a = true := by
  rcases spBest_cases a a with ⟨h1, _⟩ | ⟨h1, _⟩
  · exact absurd h1 h
  · simp only [spHas, Bool.and_eq_true] at h1; exact h1.1
theorem best_meet {a b : Sp} (h : spBest a b ≠ 0) : a.lo ≤ b.hi ∧ b.lo ≤ a.hi := by
  rcases spBest_cases a b with ⟨h1, _⟩ | ⟨h1, h2, _⟩
  · exact absurd h1 h
  · simp only [spHas, Bool.and_eq_true, decide_eq_true_eq] at h1 h2; omega
theorem meet_best {a b : Sp} (k : Int) (h1 : spHas a k = true) (h2 : spHas b k = true) : spBest a b ≠ 0 := fun e => by
  rcases spBest_cases a b with ⟨_, h⟩ | ⟨_, _, h, _⟩
  · exact h k ⟨h1, h2⟩
  · omega
/-- All can speak just if each two can. -/
theorem common_pairs (l : List Sp) : (spCommon l).isSome = true ↔ ∀ a ∈ l, ∀ b ∈ l, spBest a b ≠ 0 := by
  obtain ⟨M, m, ⟨h1, h2, h3⟩, ⟨h4, h5, h6⟩, h7⟩ := spCom_is l ⟨1, 3⟩
  unfold spCommon
  rw [h7]
  constructor
  · intro h a ha b hb
    simp only [Bool.and_eq_true, List.all_eq_true] at h
    obtain ⟨hv, hM⟩ := h
    simp only [spValid, decide_eq_true_eq] at hM
    have ga := h2 a ha
    have gb := h2 b hb
    have fa := h5 a ha
    have fb := h5 b hb
    exact meet_best M (by simp only [spHas, hv a ha, Bool.true_and, decide_eq_true_eq]; omega) (by simp only [spHas, hv b hb, Bool.true_and, decide_eq_true_eq]; omega)
  · intro h
    simp only [Bool.and_eq_true, List.all_eq_true]
    have hv : ∀ a ∈ l, spValid a = true := fun a ha => best_self (h a ha a ha)
    refine ⟨hv, ?_⟩
    have hb : ∀ a ∈ l, 1 ≤ a.lo ∧ a.lo ≤ a.hi ∧ a.hi ≤ 3 := fun a ha => by have := hv a ha; simpa [spValid] using this
    simp only at h1 h3 h4 h6
    simp only [spValid, decide_eq_true_eq]
    rcases h3 with h3 | ⟨a, ha, h3⟩ <;> rcases h6 with h6 | ⟨b, hb', h6⟩
    · omega
    · have := hb b hb'; omega
    · have := hb a ha; omega
    · have := best_meet (h a ha b hb'); omega
theorem mem_spans {l : List Rc} {s : Sp} : s ∈ spans l ↔ ∃ r ∈ l, cnt r = true ∧ r.sp = s := by
  simp [spans, membs, toMv, and_assoc]
theorem speak_pairs (l : List Rc) : speakB l = true ↔ ∀ a ∈ l, ∀ b ∈ l, cnt a = true → cnt b = true → spBest a.sp b.sp ≠ 0 := by
  unfold speakB
  rw [common_pairs]
  constructor
  · intro h a ha b hb ca cb
    exact h _ (mem_spans.2 ⟨a, ha, ca, rfl⟩) _ (mem_spans.2 ⟨b, hb, cb, rfl⟩)
  · intro h a ha b hb
    obtain ⟨r, h1, h2, rfl⟩ := mem_spans.1 ha
    obtain ⟨q, h3, h4, rfl⟩ := mem_spans.1 hb
    exact h r h1 q h3 h2 h4
/-- As the law goes over the pairs. -/
def Pairs (l : List Rc) (i : Nat) : Prop := ∀ (i' k' : Nat) (a b : Rc), i' < i → k' ≤ i' → l[i']? = some a → l[k']? = some b → cnt a = true → cnt b = true → spBest a.sp b.sp ≠ 0
def Pairs1 (l : List Rc) (i k : Nat) : Prop := ∀ (k' : Nat) (a b : Rc), k' < k → l[i]? = some a → l[k']? = some b → cnt a = true → cnt b = true → spBest a.sp b.sp ≠ 0
theorem pairs_next {l : List Rc} {i : Nat} (h : Pairs l i) (h1 : Pairs1 l i (i + 1)) : Pairs l (i + 1) := fun i' k' a b hi hk ha hb => by
  rcases Nat.lt_or_ge i' i with g | g
  · exact h i' k' a b g hk ha hb
  · obtain rfl : i' = i := by omega
    exact h1 k' a b (by omega) ha hb
theorem pairs1_next {l : List Rc} {i j : Nat} {x y : Rc} (h : Pairs1 l i j) (hx : l[i]? = some x) (hy : l[j]? = some y) (hb : cnt x = false ∨ cnt y = false ∨ spBest x.sp y.sp ≠ 0) : Pairs1 l i (j + 1) := fun k' a b hk ha hb' ca cb => by
  rcases Nat.lt_or_ge k' j with g | g
  · exact h k' a b g ha hb' ca cb
  · obtain rfl : k' = j := by omega
    rw [hx] at ha; cases ha
    rw [hy] at hb'; cases hb'
    rcases hb with e | e | e
    · rw [ca] at e; cases e
    · rw [cb] at e; cases e
    · exact e
theorem apart_at {l : List Rc} {id : Int} {s : Sp} {k : Nat} {x : Rc} (h : l[k]? = some x) (hp : apartP id s x = true) : (apartL l id s)[((l.take k).filter (apartP id s)).length]? = some x.id := by
  rw [apartL, List.getElem?_map, filter_at h hp]; rfl
theorem pairs_all {l : List Rc} (h : Pairs l l.length) : speakB l = true := by
  rw [speak_pairs]
  intro a ha b hb ca cb
  obtain ⟨i, hi, rfl⟩ := List.getElem_of_mem ha
  obtain ⟨k, hk, rfl⟩ := List.getElem_of_mem hb
  rcases Nat.le_total k i with g | g
  · exact h i k _ _ hi g (List.getElem?_eq_getElem hi) (List.getElem?_eq_getElem hk) ca cb
  · rw [spBest_comm]
    exact h k i _ _ hk g (List.getElem?_eq_getElem hk) (List.getElem?_eq_getElem hi) cb ca
theorem pairs_bad {l : List Rc} {a b : Rc} (ha : a ∈ l) (hb : b ∈ l) (ca : cnt a = true) (cb : cnt b = true) (h : spBest a.sp b.sp = 0) : speakB l = false := by
  cases hs : speakB l with
  | false => rfl
  | true => exact absurd h ((speak_pairs l).1 hs a ha b hb ca cb)
theorem membs_any (p : Mv → Bool) : ∀ l : List Rc, (membs l).any p = l.any fun r => cnt r && p (toMv r)
  | [] => rfl
  | x :: l => by
    have ih := membs_any p l
    simp only [membs, List.filter_cons, List.any_cons] at ih ⊢
    by_cases h : cnt x = true
    · rw [if_pos h, List.map_cons, List.any_cons, ih, h]; simp
    · rw [if_neg h, ih]; simp [h]
theorem open_any {l : List Rc} {g : Int} (h : isGate g = true) : openB l g = !(l.any fun r => cnt r && decide (r.sp.hi < g)) := by
  unfold openB barsL barsP
  rw [h, Bool.true_and, List.length_map]
  induction l with
  | nil => rfl
  | cons x l ih =>
    rw [List.filter_cons, List.any_cons]
    by_cases hx : (cnt x && decide (x.sp.hi < g)) = true
    · rw [if_pos (by simpa using hx), hx]; simp
    · rw [if_neg (by simpa using hx), ih]; simp [hx]
theorem overP_no {t : Sp} {x : Rc} (h1 : x.sp.lo ≤ t.lo) (h2 : x.sp.hi ≤ t.hi) : overP t (toMv x) = false := by
  unfold overP toMv
  rw [decide_eq_false (by show ¬ t.lo < x.sp.lo; omega), decide_eq_false (by show ¬ t.hi < x.sp.hi; omega)]; rfl
theorem isGate_hi {t : Sp} (h : spValid t = true) : isGate t.hi = true := by
  simp only [spValid, decide_eq_true_eq] at h
  simp only [isGate, decide_eq_true_eq]; omega
/-- Records behind moves. -/
def setSp (r : Rc) (s : Sp) : Rc := ⟨r.id, r.inc, r.st, s, r.cut, r.bag⟩
def app1 (m : Mv) (r : Rc) : Rc := if r.id = m.id then setSp r m.sp else r
def applyR (ms : List Mv) (r : Rc) : Rc := ms.foldl (fun r m => app1 m r) r
def applyL (l : List Rc) (ms : List Mv) : List Rc := l.map (applyR ms)
theorem app1_id (m : Mv) (r : Rc) : (app1 m r).id = r.id := by unfold app1; split <;> rfl
theorem app1_bag (m : Mv) (r : Rc) : (app1 m r).bag = r.bag := by unfold app1; split <;> rfl
theorem app1_st (m : Mv) (r : Rc) : (app1 m r).st = r.st := by unfold app1; split <;> rfl
theorem applyR_keep : ∀ (ms : List Mv) (r : Rc), (applyR ms r).id = r.id ∧ (applyR ms r).bag = r.bag ∧ (applyR ms r).st = r.st
  | [], r => ⟨rfl, rfl, rfl⟩
  | m :: ms, r => by
    obtain ⟨h1, h2, h3⟩ := applyR_keep ms (app1 m r)
    exact ⟨h1.trans (app1_id m r), h2.trans (app1_bag m r), h3.trans (app1_st m r)⟩
theorem applyR_snoc {ms : List Mv} {k : Nat} {m : Mv} (h : ms[k]? = some m) (r : Rc) : applyR (ms.take (k + 1)) r = app1 m (applyR (ms.take k) r) := by
  rw [List.take_add_one, h, applyR, List.foldl_append]; rfl
theorem apply_pass {ms : List Mv} {k : Nat} {m : Mv} (h : ms[k]? = some m) (l : List Rc) : ((l.map (applyR (ms.take k))).map fun r => if decide (r.id = m.id) = true then setSp r m.sp else r) = l.map (applyR (ms.take (k + 1))) := by
  rw [List.map_map]
  refine List.map_congr_left fun r _ => ?_
  rw [applyR_snoc h]
  simp only [Function.comp_apply, decide_eq_true_eq]; rfl
theorem applyL_small {l : List Rc} {ms : List Mv} (h : ∀ x ∈ l, Small x.bag) : ∀ x ∈ applyL l ms, Small x.bag := fun x hx => by
  obtain ⟨r, hr, rfl⟩ := List.mem_map.1 hx
  rw [(applyR_keep ms r).2.1]; exact h r hr
end Go.Proofs.Ytgedefcjngofkaa

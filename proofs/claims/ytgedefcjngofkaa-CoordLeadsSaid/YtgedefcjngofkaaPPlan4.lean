/- Plain: a plan is safe: each of its moves may be, and behind each all can speak. -/
import Derived.Test.YtgedefcjngofkaaPPlan3
import Derived.Test.YtgedefcjngofkaaPMerge
set_option linter.unusedVariables false
namespace Go.Proofs.Ytgedefcjngofkaa
open Go Go.Proofs.Ytgedefcjngofkaa.AM
/-- Lists whose ids are all different. -/
def Uniq (Y : List Rc) : Prop := ∀ (i j : Nat) (a b : Rc), Y[i]? = some a → Y[j]? = some b → a.id = b.id → i = j
theorem uniq_srt {l : List Rc} (h : srt l = true) : Uniq l := fun i j a b ha hb e => by
  have key : ∀ (l : List Rc) (s : Int), incr s l → ∀ (i j : Nat) (a b : Rc), l[i]? = some a → l[j]? = some b → a.id = b.id → i = j := by
    intro l
    induction l with
    | nil => intro s _ i j a b ha; simp at ha
    | cons x l ih =>
      intro s hs i j a b ha hb e
      cases i with
      | zero => cases j with
        | zero => rfl
        | succ j =>
          simp at ha hb; subst ha
          have := incr_lt hs.2 b (mem_get hb); omega
      | succ i => cases j with
        | zero =>
          simp at ha hb; subst hb
          have := incr_lt hs.2 a (mem_get ha); omega
        | succ j => rw [ih x.id hs.2 i j a b (by simpa using ha) (by simpa using hb) e]
  exact key l (-1) (srt_incr h).1 i j a b ha hb e
theorem uniq_map {Y : List Rc} (h : Uniq Y) (f : Rc → Rc) (hf : ∀ r, (f r).id = r.id) : Uniq (Y.map f) := fun i j a b ha hb e => by
  rw [List.getElem?_map, Option.map_eq_some_iff] at ha hb
  obtain ⟨a', ha, rfl⟩ := ha
  obtain ⟨b', hb, rfl⟩ := hb
  rw [hf, hf] at e
  exact h i j a' b' ha hb e
theorem uniq_put {Y : List Rc} (h : Uniq Y) (p : Rc → Bool) (f : Rc → Rc) (hf : ∀ r, (f r).id = r.id) (k : Nat) : Uniq (putAll p f k Y) := fun i j a b ha hb e => by
  have key : ∀ (i : Nat) (a : Rc), (putAll p f k Y)[i]? = some a → ∃ a', Y[i]? = some a' ∧ a.id = a'.id := fun i a ha => by
    unfold putAll at ha
    rcases Nat.lt_or_ge i ((Y.take k).map fun m => if p m then f m else m).length with g | g
    · rw [List.getElem?_append_left g, List.getElem?_map, Option.map_eq_some_iff] at ha
      obtain ⟨a', h1, rfl⟩ := ha
      rw [List.getElem?_take] at h1
      split at h1
      · exact ⟨a', h1, by split <;> simp [hf]⟩
      · cases h1
    · rw [List.getElem?_append_right g] at ha
      simp only [List.length_map, List.length_take] at ha g
      rw [List.getElem?_drop] at ha
      have hl : i < Y.length ∨ Y.length ≤ i := Nat.lt_or_ge i Y.length
      rcases hl with hl | hl
      · rw [show k + (i - min k Y.length) = i by omega] at ha
        exact ⟨a, ha, rfl⟩
      · rw [List.getElem?_eq_none (by omega)] at ha; cases ha
  obtain ⟨a', h1, h2⟩ := key i a ha
  obtain ⟨b', h3, h4⟩ := key j b hb
  exact h i j a' b' h1 h3 (by omega)
theorem uniq_find {Y : List Rc} (h : Uniq Y) {i : Nat} {x : Rc} (hx : Y[i]? = some x) : rfind Y x.id = (x, true) := by
  have : Y.find? (fun y => decide (y.id = x.id)) = some x := by
    cases hf : Y.find? (fun y => decide (y.id = x.id)) with
    | none => rw [List.find?_eq_none] at hf; exact absurd (hf x (mem_get hx)) (by simp)
    | some y =>
      have h1 : y.id = x.id := by simpa using List.find?_some hf
      obtain ⟨j, hj, rfl⟩ := List.getElem_of_mem (List.mem_of_find?_eq_some hf)
      have := h j i _ x (List.getElem?_eq_getElem hj) hx h1
      subst this
      rw [List.getElem?_eq_getElem hj] at hx; exact hx
  unfold rfind; rw [this]
theorem uniq_idx {Y : List Rc} (h : Uniq Y) {i : Nat} {x : Rc} (hx : Y[i]? = some x) : idx (fun y => decide (y.id = x.id)) Y = i := by
  have h1 := idx_find (fun y => decide (y.id = x.id)) Y
  have h2 := uniq_find h hx
  unfold rfind at h2
  cases hf : Y.find? (fun y => decide (y.id = x.id)) with
  | none => rw [hf] at h2; cases h2
  | some y =>
    rw [hf] at h2 h1
    cases h2
    exact h _ _ _ _ h1 hx rfl
theorem uniq_rput {Y : List Rc} (h : Uniq Y) {i : Nat} {x : Rc} (hx : Y[i]? = some x) (s : Sp) : rput Y (setSp x s) = Y.set i (setSp x s) := by
  have e0 := uniq_idx h hx
  have e : idx (fun y => decide (y.id = (setSp x s).id)) Y = i := e0
  obtain ⟨hl, _⟩ := List.getElem?_eq_some_iff.1 hx
  rw [rput_hit (by rw [e]; exact hl), e]
theorem set_same {Y : List Rc} {i : Nat} {x : Rc} (hx : Y[i]? = some x) : Y.set i x = Y := by
  refine List.ext_getElem? fun j => ?_
  rw [List.getElem?_set]
  obtain ⟨hl, _⟩ := List.getElem?_eq_some_iff.1 hx
  by_cases hj : i = j
  · subst hj; rw [if_pos rfl, if_pos hl, hx]
  · rw [if_neg hj]
theorem uniq_app {Y : List Rc} (h : Uniq Y) {i : Nat} {x : Rc} (hx : Y[i]? = some x) (s : Sp) : Y.map (app1 ⟨x.id, s⟩) = Y.set i (setSp x s) := by
  refine List.ext_getElem? fun j => ?_
  rw [List.getElem?_map, List.getElem?_set]
  obtain ⟨hl, _⟩ := List.getElem?_eq_some_iff.1 hx
  by_cases hj : i = j
  · subst hj
    rw [if_pos rfl, if_pos hl, hx]
    simp [app1]
  · rw [if_neg hj]
    cases hy : Y[j]? with
    | none => rfl
    | some y =>
      have : y.id ≠ x.id := fun e => hj (h i j x y hx hy e.symm)
      simp [app1, this]
theorem lawF_id (t : Sp) (w c : Int) (r : Rc) : (lawF t w c r).id = r.id := rfl
theorem lawS_id (t : Sp) (w c : Int) (r : Rc) : (lawS t w c r).id = r.id := by unfold lawS; split <;> rfl
theorem nowS_uniq {l : List Rc} (h : Uniq l) (t : Sp) (w : Int) : ∀ k, Uniq (nowS t w l k)
  | 0 => h
  | k + 1 => uniq_map (nowS_uniq h t w k) _ (lawS_id t w _)
/-- The state behind some of the moves. -/
def stAt (t : Sp) (w : Int) (l : List Rc) (k i : Nat) : List Rc := putAll cnt (lawF t w ((k : Int) + 1)) i (nowS t w l k)
def preM (t : Sp) (w : Int) (l : List Rc) (k i : Nat) : List Mv := doneL t w l k ++ ((nowS t w l k).take i).filterMap (lawM t w ((k : Int) + 1))
theorem applyL_snoc (l : List Rc) (ms : List Mv) (m : Mv) : applyL l (ms ++ [m]) = (applyL l ms).map (app1 m) := by
  unfold applyL
  rw [List.map_map]
  refine List.map_congr_left fun r _ => ?_
  simp [applyR, List.foldl_append]
theorem st_step {l : List Rc} (hu : Uniq l) {t : Sp} {w : Int} {k i : Nat} {x : Rc} (hx : (nowS t w l k)[i]? = some x) (h : applyL l (preM t w l k i) = stAt t w l k i) : applyL l (preM t w l k (i + 1)) = stAt t w l k (i + 1) := by
  have hus := uniq_put (nowS_uniq hu t w k) cnt (lawF t w ((k : Int) + 1)) (lawF_id t w _) i
  have hpx := putAll_get (p := cnt) (f := lawF t w ((k : Int) + 1)) hx
  unfold preM stAt at *
  rw [filterMap_snoc hx, ← List.append_assoc]
  by_cases hc : cnt x = true
  · rw [← putAll_hit hx hc]
    by_cases hs : lawSp t w ((k : Int) + 1) x.sp = x.sp
    · rw [lawM_none (.inr hs), Option.toList_none, List.append_nil, h]
      have : lawF t w ((k : Int) + 1) x = x := by unfold lawF; rw [hs]; rfl
      rw [this]
      exact (set_same hpx).symm
    · rw [lawM_some hc hs]
      show applyL l (_ ++ [_]) = _
      rw [applyL_snoc, h, uniq_app hus hpx]; rfl
  · have hc' : cnt x = false := by simpa using hc
    rw [← putAll_miss hx hc', lawM_none (.inl hc'), Option.toList_none, List.append_nil, h]
theorem st_all {l : List Rc} (hu : Uniq l) (t : Sp) (w : Int) : ∀ (k i : Nat), i ≤ l.length → applyL l (preM t w l k i) = stAt t w l k i
  | 0, 0, _ => by
    show l.map (applyR []) = l
    rw [show (applyR [] : Rc → Rc) = id from rfl, List.map_id]
  | k + 1, 0, _ => by
    have h := st_all hu t w k l.length (Nat.le_refl _)
    have hl := nowS_length t w l k
    unfold preM stAt at *
    rw [← hl, List.take_length, putAll_all] at h
    show applyL l (doneL t w l (k + 1) ++ []) = nowS t w l (k + 1)
    rw [List.append_nil]; exact h
  | k, i + 1, hi => by
    obtain ⟨x, hx⟩ := get_some (l := nowS t w l k) (k := i) (by rw [nowS_length]; omega)
    exact st_step hu hx (st_all hu t w k i (by omega))
  termination_by k i => (k, i)
theorem done_now {l : List Rc} (hu : Uniq l) (t : Sp) (w : Int) (k : Nat) : applyL l (doneL t w l k) = nowS t w l k := by
  have h := st_all hu t w k 0 (Nat.zero_le _)
  unfold preM stAt at h
  simpa [putAll_zero] using h
theorem filterMap_loc {α β : Type} {f : α → Option β} : ∀ {l : List α} {j : Nat} {y : β}, (l.filterMap f)[j]? = some y → ∃ i x, l[i]? = some x ∧ f x = some y ∧ ((l.take i).filterMap f).length = j
  | [], j, y, h => by simp at h
  | a :: l, j, y, h => by
    rw [List.filterMap_cons] at h
    cases ha : f a with
    | none =>
      rw [ha] at h
      obtain ⟨i, x, h1, h2, h3⟩ := filterMap_loc h
      exact ⟨i + 1, x, h1, h2, by rw [List.take_succ_cons, List.filterMap_cons, ha]; exact h3⟩
    | some b =>
      rw [ha] at h
      cases j with
      | zero => exact ⟨0, a, rfl, by rw [ha]; simpa using h, rfl⟩
      | succ j =>
        obtain ⟨i, x, h1, h2, h3⟩ := filterMap_loc (l := l) (j := j) (by simpa using h)
        exact ⟨i + 1, x, h1, h2, by rw [List.take_succ_cons, List.filterMap_cons, ha]; simp [h3]⟩
theorem done_loc {t : Sp} {w : Int} {l : List Rc} : ∀ (n : Nat) {j : Nat} {m : Mv}, (doneL t w l n)[j]? = some m → ∃ k i x, k < n ∧ (nowS t w l k)[i]? = some x ∧ lawM t w ((k : Int) + 1) x = some m ∧ (preM t w l k i).length = j
  | 0, j, m, h => by simp [doneL] at h
  | n + 1, j, m, h => by
    rcases Nat.lt_or_ge j (doneL t w l n).length with g | g
    · rw [doneL, List.getElem?_append_left g] at h
      obtain ⟨k, i, x, h1, h2⟩ := done_loc n h
      exact ⟨k, i, x, by omega, h2⟩
    · rw [doneL, List.getElem?_append_right g] at h
      obtain ⟨i, x, h1, h2, h3⟩ := filterMap_loc h
      exact ⟨n, i, x, by omega, h1, h2, by rw [preM, List.length_append, h3]; omega⟩
theorem pre_take {t : Sp} {w : Int} {l : List Rc} {k i : Nat} {x : Rc} {m : Mv} (hk : k < 3) (hx : (nowS t w l k)[i]? = some x) (hm : lawM t w ((k : Int) + 1) x = some m) :
    (doneL t w l 3).take (preM t w l k i).length = preM t w l k i ∧ (doneL t w l 3).take ((preM t w l k i).length + 1) = preM t w l k (i + 1) := by
  obtain ⟨r, h1⟩ := doneL_pre t w l hk
  obtain ⟨r2, h2⟩ := filterMap_at hx hm
  have e : doneL t w l 3 = preM t w l k i ++ m :: (r2 ++ r) := by
    rw [h1, doneL, h2, preM]; simp
  have e2 : preM t w l k (i + 1) = preM t w l k i ++ [m] := by
    unfold preM
    rw [filterMap_snoc hx, hm, ← List.append_assoc]; rfl
  rw [e, e2]
  exact ⟨by simp, by rw [List.take_length_add_append]; rfl⟩
/-- What holds of all who count, behind k passes. -/
structure Fit (t : Sp) (w : Int) (k : Nat) (r : Rc) : Prop where
  v : 1 ≤ r.sp.lo ∧ r.sp.lo ≤ r.sp.hi ∧ r.sp.hi ≤ 3
  lo : r.sp.lo ≤ t.lo
  hi : r.sp.hi ≤ t.hi
  up : (k : Int) + 1 ≤ r.sp.hi ∨ t.hi ≤ r.sp.hi
  one : w = 1 → t.hi ≤ r.sp.hi
section
variable {l : List Rc} {t : Sp} {w : Int}
theorem may_fit (h : mayE l t w = 0) : ∀ r ∈ l, cnt r = true → Fit t w 0 r := fun r hr hc => by
  obtain ⟨z1, z2, z3, z4, z5, z6⟩ := may_zero h
  have hs := (speak_pairs l).1 z4 r hr r hr hc hc
  have hv := best_self hs
  have hv' : 1 ≤ r.sp.lo ∧ r.sp.lo ≤ r.sp.hi ∧ r.sp.hi ≤ 3 := by simpa [spValid] using hv
  rw [membs_any, List.any_eq_false] at z5
  have h5 := z5 r hr
  rw [hc, Bool.true_and] at h5
  have h6 : ¬ t.lo < r.sp.lo ∧ ¬ t.hi < r.sp.hi := by
    have h7 : overP t (toMv r) = false := by simpa using h5
    unfold overP toMv at h7
    rw [Bool.or_eq_false_iff, decide_eq_false_iff_not, decide_eq_false_iff_not] at h7
    exact h7
  refine ⟨hv', by omega, by omega, .inl (by show ((0 : Nat) : Int) + 1 ≤ _; omega), fun hw => ?_⟩
  have h7 := z6 hw
  rw [open_any (isGate_hi z2), Bool.not_eq_true', List.any_eq_false] at h7
  have := h7 r hr
  rw [hc, Bool.true_and] at this
  simpa using this
theorem fit_next (h : mayE l t w = 0) {k : Nat} (hk : k < 2) {r : Rc} (hc : cnt r = true) (hf : Fit t w k r) : Fit t w (k + 1) (lawS t w ((k : Int) + 1) r) := by
  obtain ⟨z1, z2, z3, z4, z5, z6⟩ := may_zero h
  have hv2 : 1 ≤ t.lo ∧ t.lo ≤ t.hi ∧ t.hi ≤ 3 := by simpa [spValid] using z2
  obtain ⟨h1, h2, h3, h4, h5⟩ := hf
  rw [lawS, if_pos hc]
  by_cases hm : (k : Int) + 1 < t.hi ∧ r.sp.hi = (k : Int) + 1
  · have e : (lawF t w ((k : Int) + 1) r).sp = upSp w ((k : Int) + 1) r.sp := lawSp_up hm.1 hm.2
    refine ⟨?_, ?_, ?_, ?_, ?_⟩ <;> rw [e] <;> simp only [upSp] <;> omega
  · have e : (lawF t w ((k : Int) + 1) r).sp = r.sp := lawSp_same hm (by omega)
    refine ⟨?_, ?_, ?_, ?_, ?_⟩ <;> rw [e] <;> omega
theorem now_fit (h : mayE l t w = 0) : ∀ (k : Nat), k ≤ 2 → ∀ r ∈ nowS t w l k, cnt r = true → Fit t w k r
  | 0, _, r, hr, hc => may_fit h r hr hc
  | k + 1, hk, r, hr, hc => by
    obtain ⟨q, hq, rfl⟩ := List.mem_map.1 hr
    rw [cnt_lawS] at hc
    exact fit_next h (by omega) hc (now_fit h k (by omega) q hq hc)
theorem put_mem {p : Rc → Bool} {f : Rc → Rc} {k : Nat} {Y : List Rc} {r : Rc} (h : r ∈ putAll p f k Y) : r ∈ Y ∨ ∃ q ∈ Y, p q = true ∧ r = f q := by
  rcases List.mem_append.1 h with h | h
  · obtain ⟨q, hq, rfl⟩ := List.mem_map.1 h
    have hq' := List.mem_of_mem_take hq
    split
    · exact .inr ⟨q, hq', by assumption, rfl⟩
    · exact .inl hq'
  · exact .inl (List.mem_of_mem_drop h)
theorem speak_at {X : List Rc} (g : Int) (h : ∀ r ∈ X, cnt r = true → spHas r.sp g = true) : speakB X = true := by
  rw [speak_pairs]
  exact fun a ha b hb ca cb => meet_best g (h a ha ca) (h b hb cb)
theorem has_of {s : Sp} {g : Int} (h : 1 ≤ s.lo ∧ s.lo ≤ g ∧ g ≤ s.hi ∧ s.hi ≤ 3) : spHas s g = true := by
  simp only [spHas, spValid, Bool.and_eq_true, decide_eq_true_eq]; omega
/-- All can speak in the midst of each pass. -/
theorem st_speak (h : mayE l t w = 0) {k i : Nat} (hk : k < 3) (hX : speakB (nowS t w l k) = true) : speakB (stAt t w l k i) = true := by
  obtain ⟨z1, z2, z3, z4, z5, z6⟩ := may_zero h
  have hv2 : 1 ≤ t.lo ∧ t.lo ≤ t.hi ∧ t.hi ≤ 3 := by simpa [spValid] using z2
  have hfit := now_fit h k (by omega)
  unfold stAt
  by_cases hc : (k : Int) + 1 < t.hi
  · by_cases he : ∃ q ∈ nowS t w l k, cnt q = true ∧ q.sp.hi = (k : Int) + 1
    · obtain ⟨q, hq, hcq, hqh⟩ := he
      have hw : w ≠ 1 := fun hw => by have := (hfit q hq hcq).one hw; omega
      have hlo : ∀ r ∈ nowS t w l k, cnt r = true → r.sp.lo ≤ (k : Int) + 1 := fun r hr hcr => by
        have := best_meet ((speak_pairs _).1 hX r hr q hq hcr hcq); omega
      refine speak_at ((k : Int) + 1) fun r hr hcr => ?_
      rcases put_mem hr with hr | ⟨q', hq', hcq', rfl⟩
      · have hf := hfit r hr hcr
        have h1 := hf.v
        have h2 := hlo r hr hcr
        have h3 := hf.up
        exact has_of (by omega)
      · have hf := hfit q' hq' hcq'
        have h1 := hf.v
        have h2 := hlo q' hq' hcq'
        have h3 := hf.up
        by_cases hm : q'.sp.hi = (k : Int) + 1
        · have e : (lawF t w ((k : Int) + 1) q').sp = upSp w ((k : Int) + 1) q'.sp := lawSp_up hc hm
          rw [e]
          exact has_of (by simp only [upSp]; omega)
        · have e : (lawF t w ((k : Int) + 1) q').sp = q'.sp := lawSp_same (fun h' => hm h'.2) (by omega)
          rw [e]
          exact has_of (by omega)
    · have hsame : putAll cnt (lawF t w ((k : Int) + 1)) i (nowS t w l k) = nowS t w l k := by
        unfold putAll
        have : ((nowS t w l k).take i).map (fun m => if cnt m = true then lawF t w ((k : Int) + 1) m else m) = (nowS t w l k).take i := by
          refine (List.map_congr_left fun r hr => ?_).trans (List.map_id' _)
          split
          · rename_i hcr
            have hr' := List.mem_of_mem_take hr
            have e : lawSp t w ((k : Int) + 1) r.sp = r.sp := lawSp_same (fun h' => he ⟨r, hr', hcr, h'.2⟩) (by omega)
            unfold lawF; rw [e]; rfl
          · rfl
        rw [this, List.take_append_drop]
      rw [hsame]; exact hX
  · refine speak_at t.hi fun r hr hcr => ?_
    have key : ∀ q ∈ nowS t w l k, cnt q = true → q.sp.hi = t.hi ∧ 1 ≤ q.sp.lo ∧ q.sp.lo ≤ t.lo := fun q hq hcq => by
      have hf := hfit q hq hcq
      have h1 := hf.v; have h2 := hf.hi; have h3 := hf.up; have h4 := hf.lo
      omega
    rcases put_mem hr with hr | ⟨q, hq, hcq, rfl⟩
    · have := key r hr hcr
      exact has_of (by omega)
    · have := key q hq hcq
      by_cases h3 : (k : Int) + 1 = 3
      · have e : (lawF t w ((k : Int) + 1) q).sp = t := lawSp_end (fun h' => hc h'.1) h3
        rw [e]; exact has_of (by omega)
      · have e : (lawF t w ((k : Int) + 1) q).sp = q.sp := lawSp_same (fun h' => hc h'.1) h3
        rw [e]; exact has_of (by omega)
theorem now_speak (h : mayE l t w = 0) : ∀ (k : Nat), k ≤ 3 → speakB (nowS t w l k) = true
  | 0, _ => (may_zero h).2.2.2.1
  | k + 1, hk => by
    have h1 := st_speak h (i := (nowS t w l k).length) (by omega) (now_speak h k (by omega))
    unfold stAt at h1
    rw [putAll_all] at h1
    exact h1
/-- Each move of a plan. -/
theorem plan_step (h : mayE l t w = 0) {i : Nat} {m : Mv} (hm : (planL l t w)[i]? = some m) : ∃ x, rfind (applyL l ((planL l t w).take i)) m.id = (x, true) ∧ cnt x = true ∧ spValid m.sp = true ∧ m.sp.hi - m.sp.lo + 1 ≤ w ∧ x.sp.lo ≤ m.sp.lo ∧ x.sp.hi ≤ m.sp.hi ∧ m.sp ≠ x.sp ∧
    rput (applyL l ((planL l t w).take i)) (setSp x m.sp) = applyL l ((planL l t w).take (i + 1)) ∧ speakB (applyL l ((planL l t w).take (i + 1))) = true := by
  obtain ⟨z1, z2, z3, z4, z5, z6⟩ := may_zero h
  have hv2 : 1 ≤ t.lo ∧ t.lo ≤ t.hi ∧ t.hi ≤ 3 := by simpa [spValid] using z2
  rw [plan_done z2] at hm ⊢
  obtain ⟨k, j, x, hk, hx, hlm, rfl⟩ := done_loc 3 hm
  obtain ⟨e1, e2⟩ := pre_take hk hx hlm
  have hu := uniq_srt z1
  obtain ⟨hj, _⟩ := List.getElem?_eq_some_iff.1 hx
  rw [nowS_length] at hj
  rw [e1, e2, st_all hu t w k j (by omega), st_all hu t w k (j + 1) hj]
  have hus := uniq_put (nowS_uniq hu t w k) cnt (lawF t w ((k : Int) + 1)) (lawF_id t w _) j
  have hpx := putAll_get (p := cnt) (f := lawF t w ((k : Int) + 1)) hx
  have hcx : cnt x = true ∧ lawSp t w ((k : Int) + 1) x.sp ≠ x.sp ∧ m = ⟨x.id, lawSp t w ((k : Int) + 1) x.sp⟩ := by
    unfold lawM at hlm
    split at hlm
    · rename_i hh
      simp only [Bool.and_eq_true, Bool.not_eq_true', decide_eq_false_iff_not] at hh
      exact ⟨hh.1, hh.2, (Option.some.inj hlm).symm⟩
    · cases hlm
  obtain ⟨hc, hne, rfl⟩ := hcx
  have hf := now_fit h k (by omega) x (mem_get hx) hc
  have f1 := hf.v; have f2 := hf.lo; have f3 := hf.hi; have f4 := hf.up; have f5 := hf.one
  have hsp : spValid (lawSp t w ((k : Int) + 1) x.sp) = true ∧ (lawSp t w ((k : Int) + 1) x.sp).hi - (lawSp t w ((k : Int) + 1) x.sp).lo + 1 ≤ w ∧ x.sp.lo ≤ (lawSp t w ((k : Int) + 1) x.sp).lo ∧ x.sp.hi ≤ (lawSp t w ((k : Int) + 1) x.sp).hi := by
    by_cases hmv : (k : Int) + 1 < t.hi ∧ x.sp.hi = (k : Int) + 1
    · rw [lawSp_up hmv.1 hmv.2]
      refine ⟨?_, ?_, ?_, ?_⟩
      · unfold spValid; exact decide_eq_true (by simp only [upSp]; omega)
      all_goals (simp only [upSp]; omega)
    · by_cases h3 : (k : Int) + 1 = 3
      · rw [lawSp_end hmv h3]
        exact ⟨z2, by omega, by omega, by omega⟩
      · exact absurd (lawSp_same hmv h3) hne
  refine ⟨x, uniq_find hus hpx, hc, hsp.1, hsp.2.1, hsp.2.2.1, hsp.2.2.2, hne, ?_, st_speak h hk (now_speak h k (by omega))⟩
  rw [show stAt t w l k j = putAll cnt (lawF t w ((k : Int) + 1)) j (nowS t w l k) from rfl, uniq_rput hus hpx, stAt, ← putAll_hit hx hc]; rfl
theorem plan_end (h : mayE l t w = 0) : applyL l (planL l t w) = nowS t w l 3 := by
  obtain ⟨z1, z2, _⟩ := may_zero h
  rw [plan_done z2]; exact done_now (uniq_srt z1) t w 3
theorem plan_final (h : mayE l t w = 0) : ∀ r ∈ applyL l (planL l t w), cnt r = true → r.sp = t := fun r hr hc => by
  obtain ⟨z1, z2, _⟩ := may_zero h
  have hv2 : 1 ≤ t.lo ∧ t.lo ≤ t.hi ∧ t.hi ≤ 3 := by simpa [spValid] using z2
  rw [plan_end h] at hr
  obtain ⟨q, hq, rfl⟩ := List.mem_map.1 hr
  rw [cnt_lawS] at hc
  rw [lawS, if_pos hc]
  exact lawSp_end (t := t) (w := w) (c := ((2 : Nat) : Int) + 1) (s := q.sp) (by omega) (by omega)
/-- Nobody is moved too often. -/
theorem count_pass (hu : Uniq l) {k j : Nat} {x : Rc} (hx : (nowS t w l k)[j]? = some x) : (((nowS t w l k).filterMap (lawM t w ((k : Int) + 1))).filter fun m => decide (m.id = x.id)).length = (lawM t w ((k : Int) + 1) x).toList.length := by
  have key : ∀ (Y : List Rc), Uniq Y → ∀ (j : Nat) (x : Rc), Y[j]? = some x → ((Y.filterMap (lawM t w ((k : Int) + 1))).filter fun m => decide (m.id = x.id)).length = (lawM t w ((k : Int) + 1) x).toList.length := by
    intro Y
    have hid : ∀ (r : Rc) (m : Mv), lawM t w ((k : Int) + 1) r = some m → m.id = r.id := fun r m hm => by
      unfold lawM at hm
      split at hm
      · cases hm; rfl
      · cases hm
    have none_ : ∀ (Y : List Rc) (i : Int), (∀ r ∈ Y, r.id ≠ i) → ((Y.filterMap (lawM t w ((k : Int) + 1))).filter fun m => decide (m.id = i)) = [] := fun Y i hY => by
      rw [List.filter_eq_nil_iff]
      intro m hm
      obtain ⟨r, hr, hrm⟩ := List.mem_filterMap.1 hm
      have := hid r m hrm
      have := hY r hr
      simp; omega
    induction Y with
    | nil => intro _ j x hx; simp at hx
    | cons y Y ih =>
      intro hu j x hx
      have hu' : Uniq Y := fun i j a b ha hb e => by have := hu (i + 1) (j + 1) a b ha hb e; omega
      cases j with
      | zero =>
        simp at hx; subst hx
        have hY : ∀ r ∈ Y, r.id ≠ y.id := fun r hr e => by
          obtain ⟨i, hi, rfl⟩ := List.getElem_of_mem hr
          have := hu (i + 1) 0 _ y (by rw [List.getElem?_cons_succ]; exact List.getElem?_eq_getElem hi) rfl e
          omega
        rw [List.filterMap_cons]
        cases hm : lawM t w ((k : Int) + 1) y with
        | none => simp only; rw [none_ Y y.id hY]; rfl
        | some m =>
          simp only
          rw [List.filter_cons, if_pos (by simp [hid y m hm]), none_ Y y.id hY]; rfl
      | succ j =>
        have hne : y.id ≠ x.id := fun e => by have := hu 0 (j + 1) y x rfl hx e; omega
        rw [List.filterMap_cons]
        cases hm : lawM t w ((k : Int) + 1) y with
        | none => simp only; exact ih hu' j x (by simpa using hx)
        | some m =>
          simp only
          rw [List.filter_cons, if_neg (by have := hid y m hm; simp; omega)]
          exact ih hu' j x (by simpa using hx)
  exact key _ (nowS_uniq hu t w k) j x hx
theorem plan_count (h : mayE l t w = 0) {j : Nat} {x : Rc} (hx : l[j]? = some x) (hc : cnt x = true) : ((((planL l t w).filter fun m => decide (m.id = x.id)).length : Nat) : Int) ≤ t.hi - x.sp.hi + 1 := by
  obtain ⟨z1, z2, _⟩ := may_zero h
  have hv2 : 1 ≤ t.lo ∧ t.lo ≤ t.hi ∧ t.hi ≤ 3 := by simpa [spValid] using z2
  have hu := uniq_srt z1
  rw [plan_done z2]
  have key : ∀ k : Nat, k ≤ 2 → ∃ y, (nowS t w l k)[j]? = some y ∧ y.id = x.id ∧ cnt y = true ∧ ((((doneL t w l k).filter fun m => decide (m.id = x.id)).length : Nat) : Int) = y.sp.hi - x.sp.hi := by
    intro k
    induction k with
    | zero => intro _; exact ⟨x, hx, rfl, hc, by simp [doneL]⟩
    | succ k ih =>
      intro hk
      obtain ⟨y, h1, h2, h3, h4⟩ := ih (by omega)
      refine ⟨lawS t w ((k : Int) + 1) y, by rw [nowS, List.getElem?_map, h1]; rfl, by rw [lawS_id, h2], by rw [cnt_lawS, h3], ?_⟩
      have hp := count_pass (w := w) (t := t) hu h1
      rw [h2] at hp
      rw [doneL, List.filter_append, List.length_append, hp, lawS, if_pos h3]
      by_cases hm : (k : Int) + 1 < t.hi ∧ y.sp.hi = (k : Int) + 1
      · have e : (lawF t w ((k : Int) + 1) y).sp = upSp w ((k : Int) + 1) y.sp := lawSp_up hm.1 hm.2
        rw [e, lawM_some h3 (by rw [lawSp_up hm.1 hm.2]; exact upSp_ne hm.2)]
        simp only [Option.toList_some, List.length_singleton, upSp]
        omega
      · have e : (lawF t w ((k : Int) + 1) y).sp = y.sp := lawSp_same hm (by omega)
        rw [e, lawM_none (.inr (lawSp_same hm (by omega)))]
        simp only [Option.toList_none, List.length_nil]
        omega
  obtain ⟨y, h1, h2, h3, h4⟩ := key 2 (Nat.le_refl _)
  have hf := (now_fit h 2 (Nat.le_refl _) y (mem_get h1) h3).hi
  have hp := count_pass (w := w) (t := t) hu h1
  rw [h2] at hp
  have hle : (lawM t w (((2 : Nat) : Int) + 1) y).toList.length ≤ 1 := by cases lawM t w (((2 : Nat) : Int) + 1) y <;> simp
  have e : doneL t w l 3 = doneL t w l 2 ++ (nowS t w l 2).filterMap (lawM t w (((2 : Nat) : Int) + 1)) := rfl
  rw [e, List.filter_append, List.length_append, hp]
  omega
theorem apply_get {ms : List Mv} {j : Nat} {y : Rc} (h : (applyL l ms)[j]? = some y) : ∃ x, l[j]? = some x ∧ y = applyR ms x := by
  rw [applyL, List.getElem?_map, Option.map_eq_some_iff] at h
  obtain ⟨x, h1, h2⟩ := h
  exact ⟨x, h1, h2.symm⟩
theorem valid_sp {r : Rc} (h : recValid r = true) : 1 ≤ r.sp.lo ∧ r.sp.lo ≤ r.sp.hi ∧ r.sp.hi ≤ 3 := by
  simp only [recValid, Bool.and_eq_true] at h
  have := h.1.1.2
  simpa [spValid] using this
theorem plan_len (h : mayE l t w = 0) : (planL l t w).length ≤ 3 * l.length := by
  rw [plan_done (may_zero h).2.1]; exact lawM_len 3
end
end Go.Proofs.Ytgedefcjngofkaa

/- Plain: behind the first move of a plan the plan is what is left of it. -/
import Derived.Test.YtgedefcjngofkaaPCoord2
import Derived.Test.YtgedefcjngofkaaPPlan4
set_option linter.unusedVariables false
namespace Go.Proofs.Ytgedefcjngofkaa
open Go Go.Proofs.Ytgedefcjngofkaa.AM
def planM (t : Sp) (w : Int) (M : List Mv) : List Mv := (passes w (t.hi - 1).toNat M).2 ++ endO t (passes w (t.hi - 1).toNat M).1
section
variable {w : Int} {t : Sp}
theorem pass_none {c : Int} {M : List Mv} (h : ∀ y ∈ M, y.sp.hi ≠ c) : passN w c M = M ∧ passO w c M = [] := by
  have hf : M.filter (atP c) = [] := List.filter_eq_nil_iff.2 fun y hy => by simp [atP, h y hy]
  refine ⟨?_, by rw [passO, hf]; rfl⟩
  unfold passN
  conv => rhs; rw [← List.map_id M]
  refine List.map_congr_left fun y hy => ?_
  rw [if_neg (by simp [atP, h y hy])]; rfl
theorem passO_nil {c : Int} {M : List Mv} (h : passO w c M = []) : ∀ y ∈ M, y.sp.hi ≠ c := fun y hy e => by
  have hf : M.filter (atP c) = [] := List.map_eq_nil_iff.1 h
  have := List.filter_eq_nil_iff.1 hf y hy
  simp [atP, e] at this
theorem passes_skip {M : List Mv} : ∀ (k : Nat), (∀ y ∈ M, ¬ (1 ≤ y.sp.hi ∧ y.sp.hi ≤ (k : Int))) → passes w k M = (M, [])
  | 0, _ => rfl
  | k + 1, h => by
    rw [passes, passes_skip k fun y hy c => h y hy (by omega)]
    obtain ⟨h1, h2⟩ := pass_none (w := w) (c := (k : Int) + 1) (M := M) fun y hy e => h y hy (by omega)
    simp only [h1, h2, List.append_nil]
theorem passes_nil {M : List Mv} : ∀ (k : Nat), (passes w k M).2 = [] → passes w k M = (M, []) ∧ ∀ y ∈ M, ¬ (1 ≤ y.sp.hi ∧ y.sp.hi ≤ (k : Int))
  | 0, _ => ⟨rfl, fun y _ => by omega⟩
  | k + 1, h => by
    rw [passes] at h
    obtain ⟨g1, g2⟩ := List.append_eq_nil_iff.1 h
    obtain ⟨e, hn⟩ := passes_nil k g1
    rw [e] at g2
    have hk := passO_nil g2
    have hall : ∀ y ∈ M, ¬ (1 ≤ y.sp.hi ∧ y.sp.hi ≤ ((k + 1 : Nat) : Int)) := fun y hy c => by
      have := hn y hy; have := hk y hy; omega
    exact ⟨passes_skip (k + 1) hall, hall⟩
theorem passes_first {M : List Mv} {m : Mv} : ∀ (k : Nat) {r : List Mv}, (passes w k M).2 = m :: r → ∃ c, c < k ∧ passes w c M = (M, []) ∧ (∀ y ∈ M, ¬ (1 ≤ y.sp.hi ∧ y.sp.hi ≤ (c : Int))) ∧ ∃ rest, passO w ((c : Int) + 1) M = m :: rest
  | 0, r, h => by cases h
  | k + 1, r, h => by
    rw [passes] at h
    cases hp : (passes w k M).2 with
    | nil =>
      obtain ⟨e, hn⟩ := passes_nil k hp
      rw [e] at h
      exact ⟨k, by omega, e, hn, r, h⟩
    | cons m' r' =>
      have h' : (passes w k M).2 ++ passO w ((k : Int) + 1) (passes w k M).1 = m :: r := h
      rw [hp, List.cons_append] at h'
      injection h' with h1 h2
      subst h1
      obtain ⟨c, hc, g⟩ := passes_first k hp
      exact ⟨c, by omega, g⟩
theorem passO_head {c : Int} {M rest : List Mv} {m : Mv} (h : passO w c M = m :: rest) : ∃ A x B, M = A ++ x :: B ∧ (∀ y ∈ A, y.sp.hi ≠ c) ∧ x.sp.hi = c ∧ m = upMv w c x ∧ passO w c B = rest := by
  unfold passO at h
  obtain ⟨x, F, hf, rfl, hr⟩ := List.map_eq_cons_iff.1 h
  obtain ⟨A, B, rfl, hA, hx, hB⟩ := List.filter_eq_cons_iff.1 hf
  refine ⟨A, x, B, rfl, fun y hy e => hA y hy (by simp [atP, e]), by simpa [atP] using hx, rfl, ?_⟩
  unfold passO; rw [hB, hr]
theorem pass_swap {c : Int} {A B : List Mv} {x m : Mv} (hA : ∀ y ∈ A, y.sp.hi ≠ c) (hx : x.sp.hi = c) (hm : m = upMv w c x) : passN w c (A ++ x :: B) = passN w c (A ++ m :: B) ∧ passO w c (A ++ x :: B) = m :: passO w c B ∧ passO w c (A ++ m :: B) = passO w c B := by
  have hmh : m.sp.hi = c + 1 := by rw [hm]; rfl
  have h1 : atP c x = true := by simp [atP, hx]
  have h2 : atP c m = false := by rw [atP, hmh]; exact decide_eq_false (by omega)
  have h3 : A.filter (atP c) = [] := List.filter_eq_nil_iff.2 fun y hy => by simp [atP, hA y hy]
  refine ⟨?_, ?_, ?_⟩
  · unfold passN; rw [List.map_append, List.map_append, List.map_cons, List.map_cons, if_pos h1, if_neg (by rw [h2]; simp), ← hm]
  · unfold passO; rw [List.filter_append, h3, List.filter_cons, if_pos h1, List.nil_append, List.map_cons, ← hm]
  · unfold passO; rw [List.filter_append, h3, List.filter_cons, if_neg (by rw [h2]; simp), List.nil_append]
theorem passes_tail {M M' : List Mv} {m : Mv} {c : Nat} (h1 : (passes w (c + 1) M).1 = (passes w (c + 1) M').1) (h2 : (passes w (c + 1) M).2 = m :: (passes w (c + 1) M').2) : ∀ d, (passes w (c + 1 + d) M).1 = (passes w (c + 1 + d) M').1 ∧ (passes w (c + 1 + d) M).2 = m :: (passes w (c + 1 + d) M').2
  | 0 => ⟨h1, h2⟩
  | d + 1 => by
    obtain ⟨g1, g2⟩ := passes_tail h1 h2 d
    show (passN w _ (passes w (c + 1 + d) M).1 = passN w _ (passes w (c + 1 + d) M').1) ∧ ((passes w (c + 1 + d) M).2 ++ passO w _ (passes w (c + 1 + d) M).1 = m :: ((passes w (c + 1 + d) M').2 ++ passO w _ (passes w (c + 1 + d) M').1))
    rw [g1, g2]; exact ⟨rfl, rfl⟩
/-- The plan behind its first move. -/
theorem plan_tail {M r : List Mv} {m : Mv} (h : planM t w M = m :: r) : ∃ A x B, M = A ++ x :: B ∧ m.id = x.id ∧ planM t w (A ++ m :: B) = r ∧ (m.sp = t ∨ ∃ c : Nat, (c : Int) + 1 < t.hi ∧ x.sp.hi = (c : Int) + 1 ∧ m.sp = upSp w ((c : Int) + 1) x.sp) := by
  unfold planM at h
  cases hp : (passes w (t.hi - 1).toNat M).2 with
  | nil =>
    obtain ⟨e, hn⟩ := passes_nil _ hp
    rw [e] at h
    have h : endO t M = m :: r := h
    unfold endO at h
    obtain ⟨x, F, hf, hm, hr⟩ := List.map_eq_cons_iff.1 h
    obtain ⟨A, B, rfl, hA, hx, hB⟩ := List.filter_eq_cons_iff.1 hf
    subst hm
    refine ⟨A, x, B, rfl, rfl, ?_, .inl rfl⟩
    have hs : passes w (t.hi - 1).toNat (A ++ toT t x :: B) = (A ++ toT t x :: B, []) := passes_skip _ fun y hy c => by
      rcases List.mem_append.1 hy with g | g
      · exact hn y (by simp [g]) c
      · rcases List.mem_cons.1 g with rfl | g
        · have h9 : (toT t x).sp.hi = t.hi := rfl
          rw [h9] at c; omega
        · exact hn y (by simp [g]) c
    unfold planM
    rw [hs]
    show [] ++ endO t (A ++ toT t x :: B) = r
    unfold endO
    have hA' : A.filter (endP t) = [] := List.filter_eq_nil_iff.2 fun y hy => hA y hy
    have hm' : endP t (toT t x) = false := by simp [endP, toT]
    rw [List.nil_append, List.filter_append, hA', List.filter_cons, if_neg (by rw [hm']; simp), List.nil_append, hB, hr]
  | cons m' r' =>
    rw [hp, List.cons_append] at h
    injection h with h1 h2
    subst h1
    obtain ⟨c, hc, hpc, hn, rest, hO⟩ := passes_first _ hp
    obtain ⟨A, x, B, rfl, hA, hx, hm, hB⟩ := passO_head hO
    have hmh : m'.sp.hi = (c : Int) + 1 + 1 := by rw [hm]; rfl
    have hpc' : passes w c (A ++ m' :: B) = (A ++ m' :: B, []) := passes_skip _ fun y hy d => by
      rcases List.mem_append.1 hy with g | g
      · exact hn y (by simp [g]) d
      · rcases List.mem_cons.1 g with rfl | g
        · omega
        · exact hn y (by simp [g]) d
    obtain ⟨s1, s2, s3⟩ := pass_swap (w := w) (B := B) hA hx hm
    have q1 : (passes w (c + 1) (A ++ x :: B)).1 = (passes w (c + 1) (A ++ m' :: B)).1 := by
      show passN w ((c : Int) + 1) (passes w c (A ++ x :: B)).1 = passN w ((c : Int) + 1) (passes w c (A ++ m' :: B)).1
      rw [hpc, hpc']; exact s1
    have q2 : (passes w (c + 1) (A ++ x :: B)).2 = m' :: (passes w (c + 1) (A ++ m' :: B)).2 := by
      show (passes w c (A ++ x :: B)).2 ++ passO w ((c : Int) + 1) (passes w c (A ++ x :: B)).1 = m' :: ((passes w c (A ++ m' :: B)).2 ++ passO w ((c : Int) + 1) (passes w c (A ++ m' :: B)).1)
      rw [hpc, hpc']
      show [] ++ passO w ((c : Int) + 1) (A ++ x :: B) = m' :: ([] ++ passO w ((c : Int) + 1) (A ++ m' :: B))
      rw [List.nil_append, List.nil_append, s2, s3]
    obtain ⟨d, hd⟩ : ∃ d, (t.hi - 1).toNat = c + 1 + d := ⟨(t.hi - 1).toNat - (c + 1), by omega⟩
    obtain ⟨g1, g2⟩ := passes_tail q1 q2 d
    refine ⟨A, x, B, rfl, by rw [hm]; rfl, ?_, .inr ⟨c, by omega, hx, by rw [hm]; rfl⟩⟩
    unfold planM
    rw [hd] at hp h2 ⊢
    rw [← g1]
    rw [hp] at g2
    injection g2 with _ g3
    rw [← g3]; exact h2
end
theorem incr_pw : ∀ {l : List Rc} {s : Int}, incr s l → l.Pairwise fun a b => a.id < b.id
  | [], _, _ => .nil
  | x :: l, s, h => .cons (fun y hy => incr_lt h.2 y hy) (incr_pw h.2)
theorem membs_pw {l : List Rc} (h : srt l = true) : (membs l).Pairwise fun a b => a.id < b.id := by
  unfold membs
  rw [List.pairwise_map]
  exact ((incr_pw (srt_incr h).1).filter cnt).imp fun h => h
def updM (m y : Mv) : Mv := if y.id = m.id then m else y
theorem membs_app (l : List Rc) (m : Mv) : membs (applyL l [m]) = (membs l).map (updM m) := by
  refine membs_map (app1 m) (updM m) (fun r => by unfold app1; split <;> rfl) (fun r _ => ?_) l
  unfold app1 updM
  by_cases e : r.id = m.id
  · rw [if_pos e, if_pos (show (toMv r).id = m.id from e)]
    show (⟨r.id, m.sp⟩ : Mv) = m
    rw [e]
  · rw [if_neg e, if_neg (show ¬ (toMv r).id = m.id from e)]
theorem map_one {A B : List Mv} {x m : Mv} (hp : (A ++ x :: B).Pairwise fun a b => a.id < b.id) (hid : m.id = x.id) : (A ++ x :: B).map (updM m) = A ++ m :: B := by
  rw [List.pairwise_append, List.pairwise_cons] at hp
  obtain ⟨_, ⟨h2, _⟩, h3⟩ := hp
  have key : ∀ (Z : List Mv), (∀ y ∈ Z, y.id ≠ m.id) → Z.map (updM m) = Z := fun Z hZ => by
    conv => rhs; rw [← List.map_id Z]
    exact List.map_congr_left fun y hy => by unfold updM; rw [if_neg (hZ y hy)]; rfl
  rw [List.map_append, List.map_cons, key A fun y hy => by have := h3 y hy x (by simp); omega, key B fun y hy => by have := h2 y hy; omega]
  unfold updM
  rw [if_pos hid.symm]
theorem valid_setSp {r : Rc} {s : Sp} (h : recValid r = true) (hs : spValid s = true) : recValid (setSp r s) = true := by
  simp only [recValid, setSp, Bool.and_eq_true] at h ⊢
  exact ⟨⟨⟨h.1.1.1, hs⟩, h.1.2⟩, h.2⟩
theorem rfind_in {l : List Rc} {id : Int} {x : Rc} (h : rfind l id = (x, true)) : x ∈ l := by
  unfold rfind at h
  cases hf : l.find? (fun x => decide (x.id = id)) with
  | none => rw [hf] at h; cases h
  | some y => rw [hf] at h; cases h; exact List.mem_of_find?_eq_some hf
section
variable {l : List Rc} {t : Sp} {w : Int} {m : Mv} {r : List Mv}
theorem open_sp (hv : spValid t = true) (h : ∀ x ∈ membs l, t.hi ≤ x.sp.hi) : openB l t.hi = true := by
  rw [open_any (isGate_hi hv), Bool.not_eq_true', List.any_eq_false]
  intro y hy
  cases hc : cnt y with
  | false => simp
  | true =>
    have h9 := h (toMv y) (List.mem_map.2 ⟨y, List.mem_filter.2 ⟨hy, hc⟩, rfl⟩)
    have h9 : t.hi ≤ y.sp.hi := h9
    simp; omega
/-- Behind its first move a plan stays a plan. -/
theorem lead_step (hm : mayE l t w = 0) (hp : planL l t w = m :: r) : mayE (applyL l [m]) t w = 0 ∧ planL (applyL l [m]) t w = r ∧ speakB (applyL l [m]) = true := by
  obtain ⟨z1, z2, z3, z4, z5, z6⟩ := may_zero hm
  have hv2 := spValid_is z2
  have h0 : (planL l t w)[0]? = some m := by rw [hp]; rfl
  obtain ⟨x, g1, g2, g3, g4, g5, g6, g7, g8, g9⟩ := plan_step hm h0
  have e0 : (planL l t w).take 0 = [] := rfl
  have e1 : (planL l t w).take (0 + 1) = [m] := by rw [hp]; rfl
  have e2 : applyL l [] = l := List.map_id l
  rw [e1] at g9
  rw [e0, e1, e2] at g8
  rw [e0, e2] at g1
  obtain ⟨A, y, B, hM, hid, hT, hsp⟩ := plan_tail (show planM t w (membs l) = m :: r from hp)
  have hmm : membs (applyL l [m]) = A ++ m :: B := by
    rw [membs_app, hM]
    exact map_one (by rw [← hM]; exact membs_pw z1) hid
  have hold : ∀ q ∈ membs l, q.sp.lo ≤ t.lo ∧ q.sp.hi ≤ t.hi ∧ (w = 1 → t.hi ≤ q.sp.hi) := fun q hq => by
    obtain ⟨a, ha, rfl⟩ := List.mem_map.1 hq
    obtain ⟨ha1, ha2⟩ := List.mem_filter.1 ha
    have hf := may_fit hm a ha1 ha2
    exact ⟨hf.lo, hf.hi, hf.one⟩
  have hnew : ∀ q ∈ A ++ m :: B, q.sp.lo ≤ t.lo ∧ q.sp.hi ≤ t.hi ∧ (w = 1 → t.hi ≤ q.sp.hi) := fun q hq => by
    have hy := hold y (by rw [hM]; simp)
    rcases List.mem_append.1 hq with g | g
    · exact hold q (by rw [hM]; simp [g])
    · rcases List.mem_cons.1 g with rfl | g
      · rcases hsp with e | ⟨c, c1, c2, e⟩
        · rw [e]; exact ⟨by omega, by omega, fun _ => by omega⟩
        · rw [e]; simp only [upSp]; exact ⟨by omega, by omega, fun hw => by have := hy.2.2 hw; omega⟩
      · exact hold q (by rw [hM]; simp [g])
  refine ⟨?_, ?_, g9⟩
  · have hs : srt (applyL l [m]) = true := by
      rw [← g8]
      exact srt_rput z1 (valid_setSp ((srt_incr z1).2 x (rfind_in g1)) g3)
    have ho : (membs (applyL l [m])).any (overP t) = false := by
      rw [hmm, List.any_eq_false]
      intro q hq
      have := hnew q hq
      simp [overP]; omega
    have hop : w = 1 → openB (applyL l [m]) t.hi = true := fun hw => open_sp z2 fun q hq => (hnew q (by rw [← hmm]; exact hq)).2.2 hw
    unfold mayE
    rw [hs, z2, if_neg (by simp), if_neg (by omega), if_neg (by rw [g9]; simp), if_neg (by rw [ho]; simp)]
    by_cases hw : w = 1
    · rw [if_neg (by rw [hop hw]; simp)]
    · rw [if_neg (fun h9 => hw h9.1)]
  · show planM t w (membs (applyL l [m])) = r
    rw [hmm]; exact hT
theorem lead_end (hm : mayE l t w = 0) (hp : planL l t w = []) : openB l t.hi = true := by
  obtain ⟨z1, z2, _⟩ := may_zero hm
  have hv2 := spValid_is z2
  have hf := plan_final hm
  rw [hp] at hf
  have e2 : applyL l [] = l := List.map_id l
  rw [e2] at hf
  refine open_sp z2 fun q hq => ?_
  obtain ⟨a, ha, rfl⟩ := List.mem_map.1 hq
  obtain ⟨ha1, ha2⟩ := List.mem_filter.1 ha
  have h9 : (toMv a).sp = t := hf a ha1 ha2
  rw [h9]; exact Int.le_refl _
end
end Go.Proofs.Ytgedefcjngofkaa

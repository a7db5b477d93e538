/- Plain: a list with a record put into it, as the law tells it. -/
import Derived.Test.YtgedefcjngofkaaPRec3
set_option linter.unusedVariables false
namespace Go.Proofs.Ytgedefcjngofkaa
open Go.Proofs.Ytgedefcjngofkaa.AM
theorem idx_snoc (p : Rc → Bool) (x : Rc) : ∀ a : List Rc, idx p (a ++ [x]) = if idx p a < a.length then idx p a else if p x then a.length else a.length + 1
  | [] => by simp [idx]
  | y :: a => by
    have ih := idx_snoc p x a
    by_cases h : p y = true
    · simp [idx, h]
    · simp only [List.cons_append, idx, h, Bool.false_eq_true, if_false, ih, List.length_cons]
      simp only [Nat.add_lt_add_iff_right]
      by_cases h2 : idx p a < a.length
      · simp only [h2, if_true]
      · by_cases h3 : p x = true
        · simp only [h2, h3, if_true, if_false]
        · simp only [h2, h3, if_false, Bool.false_eq_true]
theorem idxZ_snoc {p : Rc → Bool} {l : List Rc} {k : Nat} {x : Rc} (hx : l[k]? = some x) : idxZ p (l.take (k + 1)) = if idxZ p (l.take k) < 0 ∧ p x = true then (k : Int) else idxZ p (l.take k) := by
  have hk : k < l.length := by
    rcases Nat.lt_or_ge k l.length with h | h
    · exact h
    · rw [List.getElem?_eq_none h] at hx; cases hx
  have hl : (l.take k).length = k := by rw [List.length_take]; omega
  have h1 := idx_snoc p x (l.take k)
  have h2 := idx_le p (l.take k)
  have e : l.take (k + 1) = l.take k ++ [x] := by rw [List.take_add_one, hx]; rfl
  unfold idxZ
  rw [e, h1, List.length_append, hl]
  simp only [List.length_singleton]
  by_cases h3 : idx p (l.take k) < k
  · rw [if_pos h3, if_pos h3, if_pos (by omega), if_neg (by omega)]
  · rw [if_neg h3, if_neg h3]
    by_cases h4 : p x = true
    · rw [if_pos h4, if_pos (by omega), if_pos ⟨by omega, h4⟩]
    · rw [if_neg h4, if_neg (by omega), if_neg (by simp [h4])]
def lastId : Int → List Rc → Int
  | s, [] => s
  | _, x :: l => lastId x.id l
theorem srtGo_snoc : ∀ (a : List Rc) (s : Int) (x : Rc), srtGo s (a ++ [x]) = (srtGo s a && (recValid x && decide (lastId s a < x.id)))
  | [], s, x => by
    show (recValid x && decide (s < x.id) && true) = (true && (recValid x && decide (s < x.id)))
    simp
  | y :: a, s, x => by
    have ih := srtGo_snoc a y.id x
    show (recValid y && decide (s < y.id) && srtGo y.id (a ++ [x])) = (recValid y && decide (s < y.id) && srtGo y.id a && (recValid x && decide (lastId y.id a < x.id)))
    rw [ih, Bool.and_assoc (recValid y && decide (s < y.id))]
theorem srt_snoc {l : List Rc} {k : Nat} {x : Rc} (hx : l[k]? = some x) : srt (l.take (k + 1)) = (srt (l.take k) && (recValid x && decide (lastId (-1) (l.take k) < x.id))) := by
  rw [List.take_add_one, hx]; exact srtGo_snoc _ _ _
theorem lastId_take : ∀ (l : List Rc) (s : Int) (k : Nat) (y : Rc), l[k]? = some y → lastId s (l.take (k + 1)) = y.id
  | [], _, _, _, h => by simp at h
  | f :: l, s, 0, y, h => by simp at h; subst h; rfl
  | f :: l, s, k + 1, y, h => by simp only [List.take_succ_cons, lastId]; exact lastId_take l f.id k y (by simpa using h)
theorem recValid_id {r : Rc} (h : recValid r = true) : 0 ≤ r.id := by
  simp only [recValid, Bool.and_eq_true, decide_eq_true_eq] at h
  exact h.1.1.1.1
def piece (same above : Int) (r : Rc) (i : Nat) (x : Rc) : List Rc := (if (i : Int) = same ∨ (same < 0 ∧ (i : Int) = above) then [r] else []) ++ (if (i : Int) = same then [] else [x])
def wantGo (same above : Int) (r : Rc) : Nat → List Rc → List Rc
  | _, [] => []
  | i, x :: l => piece same above r i x ++ wantGo same above r (i + 1) l
theorem wantGo_snoc (same above : Int) (r x : Rc) : ∀ (a : List Rc) (i : Nat), wantGo same above r i (a ++ [x]) = wantGo same above r i a ++ piece same above r (i + a.length) x
  | [], i => by simp [wantGo]
  | y :: a, i => by
    have ih := wantGo_snoc same above r x a (i + 1)
    simp only [List.cons_append, wantGo, ih, List.length_cons, List.append_assoc]
    rw [show i + 1 + a.length = i + (a.length + 1) by omega]
theorem want_snoc {same above : Int} {r x : Rc} {l : List Rc} {k : Nat} (hx : l[k]? = some x) : wantGo same above r 0 (l.take (k + 1)) = wantGo same above r 0 (l.take k) ++ piece same above r k x := by
  have hk : k < l.length := by
    rcases Nat.lt_or_ge k l.length with h | h
    · exact h
    · rw [List.getElem?_eq_none h] at hx; cases hx
  rw [List.take_add_one, hx]
  have := wantGo_snoc same above r x (l.take k) 0
  rw [Nat.zero_add, List.length_take, Nat.min_eq_left (by omega)] at this
  exact this
theorem wantGo_far {same above : Int} {r : Rc} : ∀ (l : List Rc) (i : Nat), (same < 0 ∨ same < i) → (0 ≤ same ∨ above < i) → wantGo same above r i l = l
  | [], _, _, _ => rfl
  | x :: l, i, h1, h2 => by
    rw [wantGo, wantGo_far l (i + 1) (by omega) (by omega), piece, if_neg (by omega), if_neg (by omega)]; rfl
theorem wantGo_set {above : Int} {r : Rc} : ∀ (l : List Rc) (i j : Nat), j < l.length → wantGo ((i + j : Nat) : Int) above r i l = l.set j r
  | [], _, _, h => by simp at h
  | x :: l, i, 0, _ => by
    rw [wantGo, wantGo_far l (i + 1) (by omega) (by omega), piece, if_pos (by left; simp), if_pos (by simp)]; rfl
  | x :: l, i, j + 1, h => by
    have ih := wantGo_set (above := above) (r := r) l (i + 1) j (by simpa using h)
    rw [show i + 1 + j = i + (j + 1) by omega] at ih
    rw [wantGo, ih, piece, if_neg (by omega), if_neg (by omega)]; rfl
theorem wantGo_ins {same : Int} {r : Rc} (hs : same < 0) : ∀ (l : List Rc) (i j : Nat), j < l.length → wantGo same ((i + j : Nat) : Int) r i l = l.take j ++ r :: l.drop j
  | [], _, _, h => by simp at h
  | x :: l, i, 0, _ => by
    rw [wantGo, wantGo_far l (i + 1) (by omega) (by omega), piece, if_pos (by right; exact ⟨hs, by simp⟩), if_neg (by omega)]; rfl
  | x :: l, i, j + 1, h => by
    have ih := wantGo_ins (r := r) hs l (i + 1) j (by simpa using h)
    rw [show i + 1 + j = i + (j + 1) by omega] at ih
    rw [wantGo, ih, piece, if_neg (by omega), if_neg (by omega)]; rfl
theorem want_rput (l : List Rc) (r : Rc) : wantGo (idxZ (fun x => decide (x.id = r.id)) l) (idxZ (fun x => decide (r.id < x.id)) l) r 0 l ++ (if idxZ (fun x => decide (x.id = r.id)) l < 0 ∧ idxZ (fun x => decide (r.id < x.id)) l < 0 then [r] else []) = rput l r := by
  by_cases h1 : idx (fun x => decide (x.id = r.id)) l < l.length
  · have e1 : idxZ (fun x => decide (x.id = r.id)) l = ((0 + idx (fun x => decide (x.id = r.id)) l : Nat) : Int) := by rw [idxZ, if_pos h1]; simp
    rw [e1, wantGo_set l 0 _ h1, rput_hit h1, if_neg (by omega), List.append_nil]
  · have e1 : idxZ (fun x => decide (x.id = r.id)) l = -1 := by rw [idxZ, if_neg h1]
    rw [rput_miss h1, e1]
    by_cases h2 : idx (fun x => decide (r.id < x.id)) l < l.length
    · have e2 : idxZ (fun x => decide (r.id < x.id)) l = ((0 + idx (fun x => decide (r.id < x.id)) l : Nat) : Int) := by rw [idxZ, if_pos h2]; simp
      rw [e2, wantGo_ins (by omega) l 0 _ h2, if_neg (by omega), List.append_nil]
    · have e2 : idxZ (fun x => decide (r.id < x.id)) l = -1 := by rw [idxZ, if_neg h2]
      have h3 := idx_le (fun x => decide (r.id < x.id)) l
      have e3 : idx (fun x => decide (r.id < x.id)) l = l.length := by omega
      rw [e2, wantGo_far l 0 (by omega) (by omega), if_pos ⟨by omega, by omega⟩, e3, List.take_length, List.drop_length]
theorem srtGo_lt : ∀ {l : List Rc} {s : Int}, srtGo s l = true → ∀ y ∈ l, s < y.id
  | [], _, _, _, h => by cases h
  | x :: l, s, h, y, hy => by
    simp only [srtGo, Bool.and_eq_true, decide_eq_true_eq] at h
    rcases List.mem_cons.1 hy with rfl | hy
    · exact h.1.2
    · have := srtGo_lt h.2 y hy; omega
theorem idx_nobody {p : Rc → Bool} : ∀ {l : List Rc}, (∀ y ∈ l, p y = false) → idx p l = l.length
  | [], _ => rfl
  | x :: l, h => by
    rw [idx, if_neg (by simp [h x (by simp)]), idx_nobody (fun y hy => h y (by simp [hy]))]; rfl
theorem rput_cons_eq {x r : Rc} {l : List Rc} (h : x.id = r.id) : rput (x :: l) r = r :: l := by
  have e : idx (fun x => decide (x.id = r.id)) (x :: l) = 0 := by rw [idx, if_pos (by simpa using h)]
  rw [rput_hit (by rw [e]; simp), e]; rfl
theorem rput_cons_lt {x r : Rc} {l : List Rc} (h : x.id < r.id) : rput (x :: l) r = x :: rput l r := by
  have e1 : idx (fun x => decide (x.id = r.id)) (x :: l) = idx (fun x => decide (x.id = r.id)) l + 1 := by rw [idx, if_neg (by simp; omega)]
  have e2 : idx (fun x => decide (r.id < x.id)) (x :: l) = idx (fun x => decide (r.id < x.id)) l + 1 := by rw [idx, if_neg (by simp; omega)]
  unfold rput
  rw [e1, e2]
  by_cases h1 : idx (fun x => decide (x.id = r.id)) l < l.length
  · rw [if_pos h1, if_pos (by simp; omega)]; rfl
  · rw [if_neg h1, if_neg (by simp; omega)]; rfl
theorem rput_cons_gt {x r : Rc} {l : List Rc} (h : r.id < x.id) (hn : ∀ y ∈ l, r.id < y.id) : rput (x :: l) r = r :: x :: l := by
  have e1 : idx (fun x => decide (x.id = r.id)) (x :: l) = (x :: l).length := idx_nobody (fun y hy => by
    rcases List.mem_cons.1 hy with rfl | hy
    · simp; omega
    · have := hn y hy; simp; omega)
  have e2 : idx (fun x => decide (r.id < x.id)) (x :: l) = 0 := by rw [idx, if_pos (by simpa using h)]
  rw [rput_miss (by rw [e1]; omega), e2]; rfl
theorem srtGo_rput : ∀ {l : List Rc} {s : Int} {r : Rc}, srtGo s l = true → recValid r = true → s < r.id → srtGo s (rput l r) = true
  | [], s, r, _, hv, hs => by
    have : rput [] r = [r] := rfl
    rw [this]; simp [srtGo, hv, hs]
  | x :: l, s, r, h, hv, hs => by
    have h0 := h
    simp only [srtGo, Bool.and_eq_true, decide_eq_true_eq] at h
    rcases Int.lt_trichotomy x.id r.id with g | g | g
    · rw [rput_cons_lt g]
      simp only [srtGo, Bool.and_eq_true, decide_eq_true_eq]
      exact ⟨h.1, srtGo_rput h.2 hv g⟩
    · rw [rput_cons_eq g]
      simp only [srtGo, Bool.and_eq_true, decide_eq_true_eq]
      exact ⟨⟨hv, hs⟩, g ▸ h.2⟩
    · rw [rput_cons_gt g (fun y hy => by have := srtGo_lt h.2 y hy; omega)]
      simp only [srtGo, Bool.and_eq_true, decide_eq_true_eq]
      exact ⟨⟨hv, hs⟩, ⟨h.1.1, g⟩, h.2⟩
theorem srt_rput {l : List Rc} {r : Rc} (h : srt l = true) (hv : recValid r = true) : srt (rput l r) = true := srtGo_rput h hv (by have := recValid_id hv; omega)
theorem rput_mem {l : List Rc} {r x : Rc} (h : x ∈ rput l r) : x = r ∨ x ∈ l := by
  unfold rput at h
  split at h
  · rcases List.mem_or_eq_of_mem_set h with h | h
    · exact .inr h
    · exact .inl h
  · rcases List.mem_append.1 h with h | h
    · exact .inr (List.mem_of_mem_take h)
    · rcases List.mem_cons.1 h with h | h
      · exact .inl h
      · exact .inr (List.mem_of_mem_drop h)
theorem rput_len (l : List Rc) (r : Rc) : (rput l r).length ≤ l.length + 1 := by
  unfold rput
  split
  · simp
  · have := idx_le (fun x => decide (r.id < x.id)) l
    simp; omega
theorem rfind_flag (l : List Rc) (id : Int) : (rfind l id).2 = decide (0 ≤ idxZ (fun x => decide (x.id = id)) l) := by
  have h := idx_le (fun x => decide (x.id = id)) l
  by_cases h1 : idx (fun x => decide (x.id = id)) l < l.length
  · obtain ⟨x, hx⟩ := get_some h1
    rw [rfind_some hx, idxZ, if_pos h1]; simp
  · rw [rfind_none (by omega), idxZ, if_neg h1]; rfl
theorem rfind_at {l : List Rc} {id : Int} (h : 0 ≤ idxZ (fun x => decide (x.id = id)) l) : ∃ (j : Nat) (y : Rc), idxZ (fun x => decide (x.id = id)) l = (j : Int) ∧ l[j]? = some y ∧ (rfind l id).1 = y := by
  have h1 : idx (fun x => decide (x.id = id)) l < l.length := by
    unfold idxZ at h
    split at h
    · assumption
    · omega
  obtain ⟨x, hx⟩ := get_some h1
  exact ⟨_, x, by rw [idxZ, if_pos h1], hx, by rw [rfind_some hx]⟩
theorem rfind_not {l : List Rc} {id : Int} (h : idxZ (fun x => decide (x.id = id)) l < 0) : (rfind l id).1 = rzero := by
  have h1 := idx_le (fun x => decide (x.id = id)) l
  have h2 : ¬ idx (fun x => decide (x.id = id)) l < l.length := fun e => by rw [idxZ, if_pos e] at h; omega
  rw [rfind_none (by omega)]
theorem rfind_small {l : List Rc} {id : Int} (hl : ∀ x ∈ l, Small x.bag) : Small (rfind l id).1.bag := by
  rcases Int.lt_or_le (idxZ (fun x => decide (x.id = id)) l) 0 with h | h
  · rw [rfind_not h]; exact ⟨by simp [rzero], by simp [rzero, bsize]⟩
  · obtain ⟨j, y, _, h2, h3⟩ := rfind_at h
    rw [h3]; exact hl y (mem_get h2)
end Go.Proofs.Ytgedefcjngofkaa

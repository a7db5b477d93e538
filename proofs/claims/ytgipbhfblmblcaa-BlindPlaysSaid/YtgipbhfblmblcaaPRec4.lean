/- Plain: a list with a record put into it, as the law tells it. -/
import Derived.Test.YtgipbhfblmblcaaPRec3
set_option linter.unusedVariables false
namespace Go.Proofs.Ytgipbhfblmblcaa
open Go.Proofs.Ytgipbhfblmblcaa.AM
def lastId : Int → List Rc → Int
  | s, [] => s
  | _, x :: l => lastId x.id l
theorem recValid_id {r : Rc} (h : recValid r = true) : 0 ≤ r.id := by
  simp only [recValid, Bool.and_eq_true, decide_eq_true_eq] at h
  exact h.1.1.1.1
def piece (same above : Int) (r : Rc) (i : Nat) (x : Rc) : List Rc := (if (i : Int) = same ∨ (same < 0 ∧ (i : Int) = above) then [r] else []) ++ (if (i : Int) = same then [] else [x])
def wantGo (same above : Int) (r : Rc) : Nat → List Rc → List Rc
  | _, [] => []
  | i, x :: l => piece same above r i x ++ wantGo same above r (i + 1) l
theorem srtGo_lt : ∀ {l : List Rc} {s : Int}, srtGo s l = true → ∀ y ∈ l, s < y.id
  | [], _, _, _, h => by cases h
  | x :: l, s, h, y, hy => by
    simp only [srtGo, Bool.and_eq_true, decide_eq_true_eq] at h
    rcases List.mem_cons.1 hy with rfl | hy
    · exact h.1.2
    · have := srtGo_lt h.2 y hy; omega
theorem idx_nobody {p : Rc → Bool} : ∀ {l : List Rc}, (∀ y ∈ l, p y = false) → idx p l = l.length
  | [], _ => rfl
  | x :: l, h => by
    rw [idx, if_neg (by simp [h x (by simp)]), idx_nobody (fun y hy => h y (by simp [hy]))]; rfl
theorem rput_cons_eq {x r : Rc} {l : List Rc} (h : x.id = r.id) : rput (x :: l) r = r :: l := by
  have e : idx (fun x => decide (x.id = r.id)) (x :: l) = 0 := by rw [idx, if_pos (by simpa using h)]
  rw [rput_hit (by rw [e]; simp), e]; rfl
theorem rput_cons_lt {x r : Rc} {l : List Rc} (h : x.id < r.id) : rput (x :: l) r = x :: rput l r := by
  have e1 : idx (fun x => decide (x.id = r.id)) (x :: l) = idx (fun x => decide (x.id = r.id)) l + 1 := by rw [idx, if_neg (by simp; omega)]
  have e2 : idx (fun x => decide (r.id < x.id)) (x :: l) = idx (fun x => decide (r.id < x.id)) l + 1 := by rw [idx, if_neg (by simp; omega)]
  unfold rput
  rw [e1, e2]
  by_cases h1 : idx (fun x => decide (x.id = r.id)) l < l.length
  · rw [if_pos h1, if_pos (by simp; omega)]; rfl
  · rw [if_neg h1, if_neg (by simp; omega)]; rfl
theorem rput_cons_gt {x r : Rc} {l : List Rc} (h : r.id < x.id) (hn : ∀ y ∈ l, r.id < y.id) : rput (x :: l) r = r :: x :: l := by
  have e1 : idx (fun x => decide (x.id = r.id)) (x :: l) = (x :: l).length := idx_nobody (fun y hy => by
    rcases List.mem_cons.1 hy with rfl | hy
    · simp; omega
    · have := hn y hy; simp; omega)
  have e2 : idx (fun x => decide (r.id < x.id)) (x :: l) = 0 := by rw [idx, if_pos (by simpa using h)]
  rw [rput_miss (by rw [e1]; omega), e2]; rfl
theorem srtGo_rput : ∀ {l : List Rc} {s : Int} {r : Rc}, srtGo s l = true → recValid r = true → s < r.id → srtGo s (rput l r) = true
  | [], s, r, _, hv, hs => by
    have : rput [] r = [r] := rfl
    rw [this]; simp [srtGo, hv, hs]
  | x :: l, s, r, h, hv, hs => by
    have h0 := h
    simp only [srtGo, Bool.and_eq_true, decide_eq_true_eq] at h
    rcases Int.lt_trichotomy x.id r.id with g | g | g
    · rw [rput_cons_lt g]
      simp only [srtGo, Bool.and_eq_true, decide_eq_true_eq]
      exact ⟨h.1, srtGo_rput h.2 hv g⟩
    · rw [rput_cons_eq g]
      simp only [srtGo, Bool.and_eq_true, decide_eq_true_eq]
      exact ⟨⟨hv, hs⟩, g ▸ h.2⟩
    · rw [rput_cons_gt g (fun y hy => by have := srtGo_lt h.2 y hy; omega)]
      simp only [srtGo, Bool.and_eq_true, decide_eq_true_eq]
      exact ⟨⟨hv, hs⟩, ⟨h.1.1, g⟩, h.2⟩
theorem srt_rput {l : List Rc} {r : Rc} (h : srt l = true) (hv : recValid r = true) : srt (rput l r) = true := srtGo_rput h hv (by have := recValid_id hv; omega)
theorem rput_mem {l : List Rc} {r x : Rc} (h : x ∈ rput l r) : x = r ∨ x ∈ l := by
  unfold rput at h
  split at h
  · rcases List.mem_or_eq_of_mem_set h with h | h
    · exact .inr h
    · exact .inl h
  · rcases List.mem_append.1 h with h | h
    · exact .inr (List.mem_of_mem_take h)
    · rcases List.mem_cons.1 h with h | h
      · exact .inl h
      · exact .inr (List.mem_of_mem_drop h)
theorem rput_len (l : List Rc) (r : Rc) : (rput l r).length ≤ l.length + 1 := by
  unfold rput
  split
  · simp
  · have := idx_le (fun x => decide (r.id < x.id)) l
    simp; omega
theorem rfind_at {l : List Rc} {id : Int} (h : 0 ≤ idxZ (fun x => decide (x.id = id)) l) : ∃ (j : Nat) (y : Rc), idxZ (fun x => decide (x.id = id)) l = (j : Int) ∧ l[j]? = some y ∧ (rfind l id).1 = y := by
  have h1 : idx (fun x => decide (x.id = id)) l < l.length := by
    unfold idxZ at h
    split at h
    · assumption
    · omega
  obtain ⟨x, hx⟩ := get_some h1
  exact ⟨_, x, by rw [idxZ, if_pos h1], hx, by rw [rfind_some hx]⟩
theorem rfind_not {l : List Rc} {id : Int} (h : idxZ (fun x => decide (x.id = id)) l < 0) : (rfind l id).1 = rzero := by
  have h1 := idx_le (fun x => decide (x.id = id)) l
  have h2 : ¬ idx (fun x => decide (x.id = id)) l < l.length := fun e => by rw [idxZ, if_pos e] at h; omega
  rw [rfind_none (by omega)]
theorem rfind_small {l : List Rc} {id : Int} (hl : ∀ x ∈ l, Small x.bag) : Small (rfind l id).1.bag := by
  rcases Int.lt_or_le (idxZ (fun x => decide (x.id = id)) l) 0 with h | h
  · rw [rfind_not h]; exact ⟨by simp [rzero], by simp [rzero, bsize]⟩
  · obtain ⟨j, y, _, h2, h3⟩ := rfind_at h
    rw [h3]; exact hl y (mem_get h2)
end Go.Proofs.Ytgipbhfblmblcaa

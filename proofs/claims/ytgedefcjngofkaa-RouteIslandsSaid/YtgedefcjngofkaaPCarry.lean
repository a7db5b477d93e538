/- Plain: records that are handed on. -/
import Derived.Test.YtgedefcjngofkaaPRec3
set_option linter.unusedVariables false
namespace Go.Proofs.Ytgedefcjngofkaa
open Go.Proofs.Ytgedefcjngofkaa.AM
def csent (g : Int) (r : Rc) : Bool := decide (g = 1 ∧ r.inc ≤ 65535) || decide (g = 2 ∧ r.inc ≤ 4294967295) || decide (g = 3)
theorem sent_yes {g : Int} {r : Rc} (h : (g = 1 ∧ r.inc ≤ 65535) ∨ (g = 2 ∧ r.inc ≤ 4294967295) ∨ g = 3) : csent g r = true := by
  simp only [csent, Bool.or_eq_true, decide_eq_true_eq]; omega
theorem sent_no {g : Int} {r : Rc} (h : ¬ ((g = 1 ∧ r.inc ≤ 65535) ∨ (g = 2 ∧ r.inc ≤ 4294967295) ∨ g = 3)) : csent g r = false := by
  refine Bool.eq_false_iff.2 ?_
  simp only [csent, ne_eq, Bool.or_eq_true, decide_eq_true_eq]; omega
def csend (g : Int) (r : Rc) : Rc := if g = 1 then bare r else r
def chop (g : Int) (r : Rc) : Rc := if g = 1 ∨ 1024 < bsize r.bag then bare r else r
def ctake (r : Rc) : Rc := if bsize r.bag ≤ 1024 then r else bare r
theorem bare_bag (r : Rc) : (bare r).bag = [] := rfl
theorem bare_inc (r : Rc) : (bare r).inc = r.inc := rfl
theorem bare_small (r : Rc) : Small (bare r).bag := ⟨by simp [bare], by simp [bare, bsize]⟩
theorem bare_bare (r : Rc) : bare (bare r) = bare r := by simp [bare]
theorem rzero_small : Small rzero.bag := ⟨by simp [rzero], by simp [rzero, bsize]⟩
theorem ctake_csend (g : Int) (r : Rc) : ctake (csend g r) = chop g r := by
  unfold ctake csend chop
  by_cases h : g = 1
  · simp only [h, if_true, true_or, bare_bag, bsize]; rfl
  · simp only [h, if_false, false_or]
    by_cases h2 : bsize r.bag ≤ 1024
    · rw [if_pos h2, if_neg (by omega)]
    · rw [if_neg h2, if_pos (by omega)]
theorem chop_3 (r : Rc) : chop 3 r = ctake r := by
  unfold ctake chop
  by_cases h2 : bsize r.bag ≤ 1024
  · rw [if_pos h2, if_neg (by omega)]
  · rw [if_neg h2, if_pos (by omega)]
theorem chop_1 (r : Rc) : chop 1 r = bare r := if_pos (.inl rfl)
theorem chop_inc (g : Int) (r : Rc) : (chop g r).inc = r.inc := by unfold chop; split <;> rfl
theorem chop_small {g : Int} {r : Rc} (h : Small r.bag) : Small (chop g r).bag := by unfold chop; split; exact bare_small r; exact h
theorem ctake_small {r : Rc} (h : Small r.bag) : Small (ctake r).bag := by unfold ctake; split; exact h; exact bare_small r
theorem csend_small {g : Int} {r : Rc} (h : Small r.bag) : Small (csend g r).bag := by unfold csend; split; exact bare_small r; exact h
theorem csent_inc {g : Int} {a b : Rc} (h : a.inc = b.inc) : csent g a = csent g b := by unfold csent; rw [h]
theorem hopz_small {g : Int} {r : Rc} (h : Small r.bag) : Small (if csent g r = true then chop g r else rzero).bag := by split; exact chop_small h; exact rzero_small
def cpath (r : Rc) : List Int → Rc × Bool
  | [] => (r, true)
  | g :: l => if csent g r then cpath (chop g r) l else (rzero, false)
theorem cpath_cons (r : Rc) (g : Int) (l : List Int) : cpath r (g :: l) = if csent g r then cpath (chop g r) l else (rzero, false) := rfl
def chops (r : Rc) (l : List Int) : Rc := l.foldl (fun a g => chop g a) r
theorem cpath_eq : ∀ (l : List Int) (r : Rc), cpath r l = if l.all (fun g => csent g r) then (chops r l, true) else (rzero, false)
  | [], r => rfl
  | g :: l, r => by
    rw [cpath_cons]
    by_cases h : csent g r = true
    · rw [if_pos h, cpath_eq l (chop g r), List.all_cons, h, Bool.true_and]
      have e : (fun g' => csent g' (chop g r)) = (fun g' => csent g' r) := funext fun g' => csent_inc (chop_inc g r)
      rw [e]; rfl
    · have h' : csent g r = false := by simpa using h
      rw [if_neg h, List.all_cons, h', Bool.false_and]; rfl
theorem chops_small : ∀ (l : List Int) {r : Rc}, Small r.bag → Small (chops r l).bag
  | [], r, h => h
  | g :: l, r, h => chops_small l (chop_small h)
theorem cpath_small {l : List Int} {r : Rc} (h : Small r.bag) : Small (cpath r l).1.bag := by
  rw [cpath_eq]; split
  · exact chops_small l h
  · exact rzero_small
theorem chops_take {l : List Int} {k : Nat} {g : Int} {r : Rc} (h : l[k]? = some g) : chops r (l.take (k + 1)) = chop g (chops r (l.take k)) := by
  rw [List.take_add_one, h]; simp [chops]
theorem sentAll_take {l : List Int} {k : Nat} {g : Int} {r : Rc} (h : l[k]? = some g) : (l.take (k + 1)).all (fun g => csent g r) = ((l.take k).all (fun g => csent g r) && csent g r) := by
  rw [List.take_add_one, h]; simp
theorem chop_chop (g h : Int) (r : Rc) : chop g (chop h r) = chop h (chop g r) := by
  have e : ∀ x, chop x (bare r) = bare r := fun x => by unfold chop; split; exact bare_bare r; rfl
  by_cases hh : h = 1 ∨ 1024 < bsize r.bag <;> by_cases hg : g = 1 ∨ 1024 < bsize r.bag
  · have a : chop h r = bare r := if_pos hh
    have b : chop g r = bare r := if_pos hg
    rw [a, b, e, e]
  · have a : chop h r = bare r := if_pos hh
    have b : chop g r = r := if_neg hg
    rw [b, a, e]
  · have a : chop h r = r := if_neg hh
    have b : chop g r = bare r := if_pos hg
    rw [a, b, e]
  · have a : chop h r = r := if_neg hh
    have b : chop g r = r := if_neg hg
    rw [a, b, a]
theorem chops_chop : ∀ (l : List Int) (g : Int) (r : Rc), chops (chop g r) l = chop g (chops r l)
  | [], g, r => rfl
  | h :: l, g, r => by show chops (chop h (chop g r)) l = chop g (chops (chop h r) l); rw [chop_chop, chops_chop l]
theorem chops_app (a b : List Int) (r : Rc) : chops r (a ++ b) = chops (chops r a) b := List.foldl_append ..
theorem chops_comm : ∀ (a b : List Int) (r : Rc), chops r (a ++ b) = chops r (b ++ a)
  | [], b, r => by simp
  | g :: a, b, r => by
    show chops (chop g r) (a ++ b) = chops r (b ++ g :: a)
    rw [chops_comm a b, chops_app, chops_app, chops_chop]; rfl
theorem cpath_comm (a b : List Int) (r : Rc) : cpath r (a ++ b) = cpath r (b ++ a) := by
  rw [cpath_eq, cpath_eq, List.all_append, List.all_append, Bool.and_comm, chops_comm]
theorem chops_light : ∀ (l : List Int) {r : Rc}, l.any (fun g => decide (g = 1)) = false → bsize r.bag ≤ 1024 → chops r l = r
  | [], r, _, _ => rfl
  | g :: l, r, h, hl => by
    simp only [List.any_cons, Bool.or_eq_false_iff, decide_eq_false_iff_not] at h
    have e : chop g r = r := if_neg (by omega)
    show chops (chop g r) l = r
    rw [e]; exact chops_light l h.2 hl
theorem chops_bare : ∀ (l : List Int) (r : Rc), chops (bare r) l = bare r
  | [], r => rfl
  | g :: l, r => by
    have e : chop g (bare r) = bare r := by unfold chop; split; exact bare_bare r; rfl
    show chops (chop g (bare r)) l = bare r
    rw [e]; exact chops_bare l r
theorem chops_heavy : ∀ (l : List Int) {r : Rc}, (l.any (fun g => decide (g = 1)) = true ∨ (1024 < bsize r.bag ∧ l ≠ [])) → chops r l = bare r
  | [], r, h => by simp at h
  | g :: l, r, h => by
    show chops (chop g r) l = bare r
    by_cases hg : g = 1 ∨ 1024 < bsize r.bag
    · rw [show chop g r = bare r from if_pos hg]; exact chops_bare l r
    · rw [show chop g r = r from if_neg hg]
      refine chops_heavy l (.inl ?_)
      rcases h with h | h
      · simp only [List.any_cons, Bool.or_eq_true, decide_eq_true_eq] at h
        exact h.resolve_left (by omega)
      · omega
theorem chops_cases (l : List Int) (r : Rc) : chops r l = r ∨ chops r l = bare r := by
  by_cases h : l.any (fun g => decide (g = 1)) = true
  · exact .inr (chops_heavy l (.inl h))
  · by_cases h2 : bsize r.bag ≤ 1024
    · exact .inl (chops_light l (Bool.eq_false_iff.2 h) h2)
    · cases l with
      | nil => exact .inl rfl
      | cons g l => exact .inr (chops_heavy _ (.inr ⟨by omega, by simp⟩))
theorem bare_valid {r : Rc} (h : recValid r = true) : recValid (bare r) = true := by
  simp only [recValid, Bool.and_eq_true] at h ⊢
  refine ⟨⟨h.1.1, ?_⟩, ?_⟩
  · simp [bare, bagValid, bvGo]
  · simp [bare]
theorem chops_valid {l : List Int} {r : Rc} (h : recValid r = true) : recValid (chops r l) = true := by
  rcases chops_cases l r with e | e <;> rw [e]
  · exact h
  · exact bare_valid h
theorem chops_akin (l : List Int) (r : Rc) : akin (chops r l) r = true := by
  rcases chops_cases l r with e | e <;> rw [e] <;> simp [akin, bare]
theorem sent_all {l : List Int} {r : Rc} (hi : r.inc ≤ 65535) (h : ∀ g ∈ l, 1 ≤ g ∧ g ≤ 3) : l.all (fun g => csent g r) = true := by
  refine List.all_eq_true.2 fun g hg => ?_
  have := h g hg
  simp only [csent, Bool.or_eq_true, decide_eq_true_eq]
  omega
def downs (g : Int) (l : List Rc) : List Rc := (l.filter (fun r => csent g r)).map (csend g)
theorem downs_take {g : Int} {l : List Rc} {k : Nat} {x : Rc} (h : l[k]? = some x) : downs g (l.take (k + 1)) = if csent g x then downs g (l.take k) ++ [csend g x] else downs g (l.take k) := by
  rw [List.take_add_one, h]
  simp only [downs, Option.toList_some, List.filter_append, List.map_append]
  by_cases hc : csent g x = true
  · simp [hc]
  · simp [hc]
theorem downs_length (g : Int) (l : List Rc) : (downs g l).length ≤ l.length := by
  simp only [downs, List.length_map]; exact List.length_filter_le ..
theorem downs_small {g : Int} {l : List Rc} (h : ∀ x ∈ l, Small x.bag) : ∀ x ∈ downs g l, Small x.bag := by
  intro x hx
  simp only [downs, List.mem_map] at hx
  obtain ⟨y, hy, rfl⟩ := hx
  exact csend_small (h y (List.mem_filter.1 hy).1)
theorem chops_nil {l : List Int} {r : Rc} (h : l = []) : chops r l = r := by subst h; rfl
theorem any_take {l : List Int} {k : Nat} {g : Int} (h : l[k]? = some g) : (l.take (k + 1)).any (fun g => decide (g = 1)) = ((l.take k).any (fun g => decide (g = 1)) || decide (g = 1)) := by
  rw [List.take_add_one, h]; simp
theorem bound_take {l : List Int} {k : Nat} {g : Int} (h : l[k]? = some g) (hb : ∀ y ∈ l.take k, 1 ≤ y ∧ y ≤ 3) (hg : 1 ≤ g ∧ g ≤ 3) : ∀ y ∈ l.take (k + 1), 1 ≤ y ∧ y ≤ 3 := by
  intro y hy
  rw [List.take_add_one, h] at hy
  rcases List.mem_append.1 hy with hy | hy
  · exact hb y hy
  · simp at hy; subst hy; exact hg
end Go.Proofs.Ytgedefcjngofkaa

/- Plain: what the laws of deltas ask. -/
import Derived.Test.YtgipbhfblmblcaaPDelta2
set_option linter.unusedVariables false
namespace Go.Proofs.Ytgipbhfblmblcaa
open Go.Proofs.Ytgipbhfblmblcaa.AM
theorem sideGo_all {β : Type} {f : Option Rc → Option Rc → Option β} {p : Rc → Prop} {q : β → Prop} (hf : ∀ ox oy z, (∀ x, ox = some x → p x) → (∀ y, oy = some y → p y) → f ox oy = some z → q z) :
    ∀ (n : Nat) (a b : List Rc), (∀ x ∈ a, p x) → (∀ y ∈ b, p y) → ∀ z ∈ sideGo f n a b, q z
  | 0, _, _, _, _, z, h => by simp [sideGo] at h
  | n + 1, [], [], _, _, z, h => by simp [sideGo] at h
  | n + 1, x :: a, [], ha, hb, z, h => by
    simp only [sideGo] at h
    rcases List.mem_append.1 h with h | h
    · exact hf (some x) none z (fun _ e => by cases e; exact ha x (by simp)) (fun _ e => by cases e) (by simpa using h)
    · exact sideGo_all hf n a [] (fun y hy => ha y (by simp [hy])) hb z h
  | n + 1, [], y :: b, ha, hb, z, h => by
    simp only [sideGo] at h
    rcases List.mem_append.1 h with h | h
    · exact hf none (some y) z (fun _ e => by cases e) (fun _ e => by cases e; exact hb y (by simp)) (by simpa using h)
    · exact sideGo_all hf n [] b ha (fun x hx => hb x (by simp [hx])) z h
  | n + 1, x :: a, y :: b, ha, hb, z, h => by
    have ha' : ∀ w ∈ a, p w := fun w hw => ha w (by simp [hw])
    have hb' : ∀ w ∈ b, p w := fun w hw => hb w (by simp [hw])
    have hx : ∀ w, some x = some w → p w := fun _ e => by cases e; exact ha x (by simp)
    have hy : ∀ w, some y = some w → p w := fun _ e => by cases e; exact hb y (by simp)
    have hn : ∀ w, none = some w → p w := fun _ e => by cases e
    simp only [sideGo] at h
    split at h
    · rcases List.mem_append.1 h with h | h
      · exact hf (some x) none z hx hn (by simpa using h)
      · exact sideGo_all hf n a (y :: b) ha' hb z h
    · split at h
      · rcases List.mem_append.1 h with h | h
        · exact hf none (some y) z hn hy (by simpa using h)
        · exact sideGo_all hf n (x :: a) b ha hb' z h
      · rcases List.mem_append.1 h with h | h
        · exact hf (some x) (some y) z hx hy (by simpa using h)
        · exact sideGo_all hf n a b ha' hb' z h
theorem diff_small {a b : List Rc} (ha : ∀ x ∈ a, Small x.bag) (hb : ∀ x ∈ b, Small x.bag) : ∀ x ∈ diffL a b, Small x.bag := fun z h =>
  sideGo_all (p := fun r => Small r.bag) (q := fun r => Small r.bag) (fun ox oy z hx hy he => by
    cases oy with
    | none => simp [fDiff] at he
    | some y =>
      simp only [fDiff] at he
      split at he
      · cases he
      · cases he; exact hy _ rfl) _ a b ha hb z h
theorem over_small {a b : List Rc} (ha : ∀ x ∈ a, Small x.bag) (hb : ∀ x ∈ b, Small x.bag) : ∀ x ∈ overL a b, Small x.bag := fun z h =>
  sideGo_all (p := fun r => Small r.bag) (q := fun r => Small r.bag) (fun ox oy z hx hy he => by
    cases oy with
    | none => exact hx z he
    | some y => exact hy z he) _ a b ha hb z h
theorem over_valid {a b : List Rc} (ha : ∀ x ∈ a, recValid x = true) (hb : ∀ x ∈ b, recValid x = true) : ∀ x ∈ overL a b, recValid x = true := fun z h =>
  sideGo_all (p := fun r => recValid r = true) (q := fun r => recValid r = true) (fun ox oy z hx hy he => by
    cases oy with
    | none => exact hx z he
    | some y => exact hy z he) _ a b ha hb z h
theorem diff_srt {a b : List Rc} (ha : srt a = true) (hb : srt b = true) : diffL a b = b.filter (isNew a) := diff_eq _ a b (-1) (Nat.le_refl _) (srt_incr ha).1 (srt_incr hb).1
def isGone (now : List Rc) (r : Rc) : Bool := (fnd now r.id).isNone
theorem isGone_rfind (now : List Rc) (r : Rc) : isGone now r = !(rfind now r.id).2 := by
  rw [rfind_fst, isGone]; cases fnd now r.id <;> rfl
theorem gone_srt {a b : List Rc} (ha : srt a = true) (hb : srt b = true) : goneL a b = (a.filter (isGone b)).map (·.id) := gone_eq _ a b (-1) (Nat.le_refl _) (srt_incr ha).1 (srt_incr hb).1
theorem over_srt {a b : List Rc} (ha : srt a = true) (hb : srt b = true) : incr (-1) (overL a b) ∧ ∀ id, fnd (overL a b) id = (fnd b id).or (fnd a id) := over_find _ a b (-1) (Nat.le_refl _) (srt_incr ha).1 (srt_incr hb).1
theorem gone_at {a b : List Rc} (ha : srt a = true) (hb : srt b = true) {j : Nat} {r : Rc} (h : a[j]? = some r) (hp : isGone b r = true) : (goneL a b)[((a.take j).filter (isGone b)).length]? = some r.id := by
  rw [gone_srt ha hb, List.getElem?_map, filter_at h hp]; rfl
theorem find_put {l : List Rc} {s : Int} (h : incr s l) (r : Rc) (id : Int) : fnd (rput l r) id = if r.id = id then some r else fnd l id := by
  induction l generalizing s with
  | nil => rw [show rput [] r = [r] from rfl, fnd_cons]
  | cons x l ih =>
    rcases Int.lt_trichotomy x.id r.id with g | g | g
    · rw [rput_cons_lt g, fnd_cons, ih h.2, fnd_cons]
      by_cases h1 : x.id = id
      · rw [if_pos h1, if_neg (by omega), if_pos h1]
      · rw [if_neg h1, if_neg h1]
    · rw [rput_cons_eq g, fnd_cons, fnd_cons]
      by_cases h1 : r.id = id
      · rw [if_pos h1, if_pos h1]
      · rw [if_neg h1, if_neg h1, if_neg (by omega)]
    · rw [rput_cons_gt g (fun y hy => by have := incr_lt h.2 y hy; omega), fnd_cons]
theorem puts_find : ∀ (d base : List Rc) (s : Int), srt base = true → incr s d → (∀ r ∈ d, recValid r = true) → srt (d.foldl rput base) = true ∧ ∀ id, fnd (d.foldl rput base) id = (fnd d id).or (fnd base id)
  | [], base, s, h, _, _ => ⟨h, fun _ => rfl⟩
  | y :: d, base, s, h, hd, hv => by
    obtain ⟨h1, h2⟩ := puts_find d (rput base y) y.id (srt_rput h (hv y (by simp))) hd.2 (fun r hr => hv r (by simp [hr]))
    refine ⟨h1, fun id => ?_⟩
    rw [List.foldl_cons, h2, find_put (srt_incr h).1, fnd_cons]
    by_cases hi : y.id = id
    · rw [if_pos hi, if_pos hi, fnd_none hd.2 (by omega)]; rfl
    · rw [if_neg hi, if_neg hi]
theorem over_puts {base d : List Rc} (hb : srt base = true) (hd : srt d = true) : overL base d = d.foldl rput base := by
  obtain ⟨h1, h2⟩ := over_srt hb hd
  obtain ⟨h3, h4⟩ := puts_find d base (-1) hb (srt_incr hd).1 (srt_incr hd).2
  refine incr_unique h1 (srt_incr h3).1 fun id => ?_
  have := (h2 id).trans (h4 id).symm
  exact this
theorem incr_filter (p : Rc → Bool) : ∀ {l : List Rc} {s : Int}, incr s l → incr s (l.filter p)
  | [], _, _ => trivial
  | x :: l, s, h => by
    have ih := incr_filter p h.2
    rw [List.filter_cons]
    split
    · exact ⟨h.1, ih⟩
    · exact incr_mono ih (by have := h.1; omega)
theorem srt_filter (p : Rc → Bool) {l : List Rc} (h : srt l = true) : srt (l.filter p) = true := incr_srtGo (incr_filter p (srt_incr h).1) fun r hr => (srt_incr h).2 r (List.mem_filter.1 hr).1
theorem fnd_filter (p : Rc → Bool) : ∀ {l : List Rc} {s : Int} (id : Int), incr s l → fnd (l.filter p) id = (fnd l id).filter p
  | [], _, _, _ => rfl
  | x :: l, s, id, h => by
    have ih := fnd_filter p id h.2
    rw [List.filter_cons, fnd_cons]
    by_cases hi : x.id = id
    · rw [if_pos hi]
      by_cases hp : p x = true
      · rw [if_pos hp, fnd_cons, if_pos hi, Option.filter_some_pos hp]
      · rw [if_neg hp, ih, fnd_none h.2 (by omega), Option.filter_some_neg (by simpa using hp)]; rfl
    · rw [if_neg hi]
      by_cases hp : p x = true
      · rw [if_pos hp, fnd_cons, if_neg hi, ih]
      · rw [if_neg hp, ih]
theorem diff_sorted {a b : List Rc} (ha : srt a = true) (hb : srt b = true) : srt (diffL a b) = true := by rw [diff_srt ha hb]; exact srt_filter _ hb
theorem back_eq {a b : List Rc} (ha : srt a = true) (hb : srt b = true) (hg : goneL a b = []) : overL a (diffL a b) = b := by
  obtain ⟨h1, h2⟩ := over_srt ha (diff_sorted ha hb)
  refine incr_unique h1 (srt_incr hb).1 fun id => ?_
  have h3 := h2 id
  rw [diff_srt ha hb, fnd_filter _ id (srt_incr hb).1] at h3
  show fnd (overL a (diffL a b)) id = fnd b id
  rw [diff_srt ha hb]
  rw [diff_srt ha hb] at h2
  rw [h2 id, fnd_filter _ id (srt_incr hb).1]
  cases hbi : fnd b id with
  | some r =>
    have hid := fnd_id hbi
    by_cases hn : isNew a r = true
    · rw [Option.filter_some_pos hn]; rfl
    · have h9 : fnd a r.id = some r := by simpa [isNew] using hn
      rw [Option.filter_some_neg (by simpa using hn), ← hid, h9]; rfl
  | none =>
    cases hai : fnd a id with
    | none => rfl
    | some r =>
      have hid := fnd_id hai
      rw [gone_srt ha hb, List.map_eq_nil_iff, List.filter_eq_nil_iff] at hg
      have := hg r (List.mem_of_find?_eq_some hai)
      rw [isGone, hid, hbi] at this
      simp at this
theorem cut_at {α : Type} {l : List α} {N : Nat} {r : α} (h : l[N]? = some r) : l = l.take N ++ r :: l.drop (N + 1) := by
  rw [← drop_cons h]; exact (List.take_append_drop N l).symm
theorem incr_cut : ∀ {l m : List Rc} {r : Rc} {s : Int}, incr s (l ++ r :: m) → incr s (l ++ m) ∧ fnd (l ++ m) r.id = none
  | [], m, r, s, h => ⟨incr_mono h.2 (by have := h.1; omega), fnd_none h.2 (Int.le_refl _)⟩
  | x :: l, m, r, s, h => by
    obtain ⟨h1, h2⟩ := incr_cut (l := l) (s := x.id) h.2
    have h3 : x.id < r.id := incr_lt h.2 r (by simp)
    exact ⟨⟨h.1, h1⟩, by rw [List.cons_append, fnd_cons, if_neg (by omega)]; exact h2⟩
theorem fnd_mem {l : List Rc} {s : Int} (h : incr s l) {r : Rc} (hr : r ∈ l) : fnd l r.id = some r := mem_find h hr
theorem short_srt {d : List Rc} {N : Nat} (hd : srt d = true) (hN : N < d.length) : srt (d.take N ++ d.drop (N + 1)) = true := by
  obtain ⟨r, hr⟩ := get_some hN
  have h0 := srt_incr hd
  have hc := cut_at hr
  rw [hc] at h0
  refine incr_srtGo (incr_cut h0.1).1 fun x hx => h0.2 x ?_
  rcases List.mem_append.1 hx with h | h
  · exact List.mem_append_left _ h
  · exact List.mem_append_right _ (List.mem_cons_of_mem _ h)
/-- A delta with a record less does not do. -/
theorem short_ne {a b : List Rc} (ha : srt a = true) (hb : srt b = true) {N : Nat} (hN : N < (diffL a b).length) : overL a ((diffL a b).take N ++ (diffL a b).drop (N + 1)) ≠ b := fun e => by
  obtain ⟨r, hr⟩ := get_some hN
  have hd := diff_sorted ha hb
  have hc := cut_at hr
  have hi := (srt_incr hd).1
  have hm : r ∈ diffL a b := mem_get hr
  rw [hc] at hi
  obtain ⟨h1, h2⟩ := over_srt ha (short_srt hd hN)
  have h3 := h2 r.id
  rw [e, (incr_cut hi).2] at h3
  rw [diff_srt ha hb] at hm
  obtain ⟨g1, g2⟩ := List.mem_filter.1 hm
  rw [fnd_mem (srt_incr hb).1 g1] at h3
  have g3 : fnd a r.id ≠ some r := by simpa [isNew] using g2
  exact g3 h3.symm
theorem short_mem {d : List Rc} {N : Nat} {x : Rc} (h : x ∈ d.take N ++ d.drop (N + 1)) : x ∈ d := by
  rcases List.mem_append.1 h with h | h
  · exact List.mem_of_mem_take h
  · exact List.mem_of_mem_drop h
theorem over_len (a b : List Rc) : (overL a b).length ≤ a.length + b.length := sideL_len _ a b
theorem diff_len (a b : List Rc) : (diffL a b).length ≤ a.length + b.length := sideL_len _ a b
theorem gone_len (a b : List Rc) : (goneL a b).length ≤ a.length + b.length := sideL_len _ a b
end Go.Proofs.Ytgipbhfblmblcaa

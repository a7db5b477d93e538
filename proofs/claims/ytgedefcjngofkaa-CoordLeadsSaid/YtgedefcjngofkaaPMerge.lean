/- Plain: what lists of records come to when they are merged. -/
import Derived.Test.YtgedefcjngofkaaPMap
import Derived.Test.YtgedefcjngofkaaPRec4
set_option linter.unusedVariables false
namespace Go.Proofs.Ytgedefcjngofkaa
open Go.Proofs.Ytgedefcjngofkaa.AM
def mval (m : List (Int × Rc)) (r : Rc) : Rc := match pget m r.id with
  | none => r
  | some old => jnAll old r
def mstep (m : List (Int × Rc)) (r : Rc) : List (Int × Rc) := pput m r.id (mval m r)
def mrows (l : List Rc) : List (Int × Rc) := l.foldl mstep []
def mkeys (l : List Rc) : List Int := ((mrows l).map (·.1)).mergeSort fun x y => decide (x ≤ y)
def mergeL (l : List Rc) : List Rc := (mkeys l).map fun k => (pget (mrows l) k).getD rzero
def mergeAll (ls : List (List Rc)) : List Rc × Bool := if ls.all srt then (mergeL ls.flatten, true) else ([], false)
def ojn : Option Rc → Rc → Option Rc
  | none, r => some r
  | some a, r => some (jn a r)
def accId (l : List Rc) (id : Int) : Option Rc := (l.filter fun r => decide (r.id = id)).foldl ojn none
/-- A map of records, each under its own id. -/
structure Keyed (m : List (Int × Rc)) : Prop where
  ids : ∀ p ∈ m, p.2.id = p.1
  nodup : (m.map (·.1)).Nodup
theorem Keyed.get {m : List (Int × Rc)} (h : Keyed m) {k : Int} {v : Rc} (hg : pget m k = some v) : v.id = k := h.ids _ (pget_mem hg)
theorem mval_none {m : List (Int × Rc)} {r : Rc} (h : pget m r.id = none) : mval m r = r := by rw [mval, h]
theorem mval_some {m : List (Int × Rc)} {r old : Rc} (h : pget m r.id = some old) : mval m r = jnAll old r := by rw [mval, h]
theorem mstep_val {m : List (Int × Rc)} (h : Keyed m) (r : Rc) : (mval m r).id = r.id := by
  cases hg : pget m r.id with
  | none => rw [mval_none hg]
  | some old =>
    have := h.get hg
    rw [mval_some hg]
    rw [jnAll_same this, jn_id this, this]
theorem mstep_keyed {m : List (Int × Rc)} (h : Keyed m) (r : Rc) : Keyed (mstep m r) := ⟨fun p hp => by
    rcases pput_mem hp with rfl | hp
    · exact mstep_val h r
    · exact h.ids p hp, pput_nodup h.nodup _ _⟩
theorem mstep_get {m : List (Int × Rc)} (h : Keyed m) (r : Rc) (id : Int) : pget (mstep m r) id = if r.id = id then ojn (pget m id) r else pget m id := by
  unfold mstep
  rw [pget_pput]
  by_cases hi : id = r.id
  · subst hi
    rw [if_pos rfl, if_pos rfl]
    cases hg : pget m r.id with
    | none => rw [mval_none hg]; rfl
    | some old => rw [mval_some hg]; simp only [ojn]; rw [jnAll_same (h.get hg)]
  · rw [if_neg hi, if_neg (Ne.symm hi)]
theorem foldl_rows : ∀ (l : List Rc) (m : List (Int × Rc)), Keyed m → Keyed (l.foldl mstep m) ∧ ∀ id, pget (l.foldl mstep m) id = (l.filter fun r => decide (r.id = id)).foldl ojn (pget m id)
  | [], m, h => ⟨h, fun _ => rfl⟩
  | r :: l, m, h => by
    obtain ⟨h1, h2⟩ := foldl_rows l (mstep m r) (mstep_keyed h r)
    refine ⟨h1, fun id => ?_⟩
    rw [List.foldl_cons, h2 id, mstep_get h]
    by_cases hi : r.id = id
    · rw [if_pos hi, List.filter_cons_of_pos (by simpa using hi), List.foldl_cons]
    · rw [if_neg hi, List.filter_cons_of_neg (by simpa using hi)]
theorem keyed_nil : Keyed [] := ⟨fun _ h => (by cases h), List.nodup_nil⟩
theorem mrows_keyed (l : List Rc) : Keyed (mrows l) := (foldl_rows l [] keyed_nil).1
theorem mrows_get (l : List Rc) (id : Int) : pget (mrows l) id = accId l id := (foldl_rows l [] keyed_nil).2 id
/-- Ids that rise. -/
def incr : Int → List Rc → Prop
  | _, [] => True
  | s, x :: l => s < x.id ∧ incr x.id l
theorem incr_lt : ∀ {l : List Rc} {s : Int}, incr s l → ∀ y ∈ l, s < y.id
  | [], _, _, _, h => by cases h
  | x :: l, s, h, y, hy => by
    rcases List.mem_cons.1 hy with rfl | hy
    · exact h.1
    · have := incr_lt h.2 y hy; have := h.1; omega
theorem find_none_of_lt {l : List Rc} {s id : Int} (h : incr s l) (hid : id ≤ s) : l.find? (fun x => decide (x.id = id)) = none := by
  rw [List.find?_eq_none]
  intro x hx
  have := incr_lt h x hx
  simp; omega
theorem incr_unique : ∀ {l m : List Rc} {s t : Int}, incr s l → incr t m → (∀ id, l.find? (fun x => decide (x.id = id)) = m.find? (fun x => decide (x.id = id))) → l = m
  | [], [], _, _, _, _, _ => rfl
  | [], y :: m, _, _, _, _, h => by have := h y.id; simp at this
  | x :: l, [], _, _, _, _, h => by have := h x.id; simp at this
  | x :: l, y :: m, s, t, h1, h2, h => by
    have hxy : x.id = y.id := by
      rcases Int.lt_trichotomy x.id y.id with g | g | g
      · have e := h x.id
        rw [List.find?_cons_of_pos (by simp), List.find?_cons_of_neg (by simp; omega), find_none_of_lt h2.2 (by omega)] at e
        cases e
      · exact g
      · have e := h y.id
        rw [List.find?_cons_of_pos (l := m) (by simp), List.find?_cons_of_neg (by simp; omega), find_none_of_lt h1.2 (by omega)] at e
        cases e
    have hx : x = y := by
      have e := h x.id
      rw [List.find?_cons_of_pos (by simp), List.find?_cons_of_pos (by simp [hxy])] at e
      exact Option.some.inj e
    subst hx
    have : l = m := incr_unique h1.2 h2.2 fun id => by
      have e := h id
      by_cases hi : x.id = id
      · subst hi; rw [find_none_of_lt h1.2 (Int.le_refl _), find_none_of_lt h2.2 (Int.le_refl _)]
      · rw [List.find?_cons_of_neg (by simpa using hi), List.find?_cons_of_neg (by simpa using hi)] at e; exact e
    rw [this]
theorem incr_of_keys : ∀ (ks : List Int) (f : Int → Rc) (s : Int), (∀ k ∈ ks, (f k).id = k) → ks.Pairwise (· < ·) → (∀ k ∈ ks, s < k) → incr s (ks.map f)
  | [], _, _, _, _, _ => trivial
  | k :: ks, f, s, h1, h2, h3 => by
    have e := h1 k (by simp)
    refine ⟨by rw [e]; exact h3 k (by simp), ?_⟩
    rw [e]
    exact incr_of_keys ks f k (fun k' hk' => h1 k' (by simp [hk'])) (List.pairwise_cons.1 h2).2 (List.pairwise_cons.1 h2).1
theorem find_of_keys : ∀ (ks : List Int) (f : Int → Rc) (id : Int), (∀ k ∈ ks, (f k).id = k) → (ks.map f).find? (fun x => decide (x.id = id)) = if id ∈ ks then some (f id) else none
  | [], _, _, _ => rfl
  | k :: ks, f, id, h => by
    have e := h k (by simp)
    have ih := find_of_keys ks f id (fun k' hk' => h k' (by simp [hk']))
    by_cases hk : k = id
    · subst hk; rw [List.map_cons, List.find?_cons_of_pos (by simpa using e), if_pos (by simp)]
    · rw [List.map_cons, List.find?_cons_of_neg (by rw [e]; simpa using hk), ih]
      by_cases hm : id ∈ ks
      · rw [if_pos hm, if_pos (by simp [hm])]
      · rw [if_neg hm, if_neg (by simp [hm, Ne.symm hk])]
theorem mkeys_mem (l : List Rc) (k : Int) : k ∈ mkeys l ↔ (accId l k).isSome = true := by
  unfold mkeys
  rw [List.mem_mergeSort, ← mrows_get]
  cases h : pget (mrows l) k with
  | none => simp only [Option.isSome_none, Bool.false_eq_true, iff_false]; exact pget_none.1 h
  | some v => simp only [Option.isSome_some, iff_true]; exact List.mem_map.2 ⟨_, pget_mem h, rfl⟩
theorem mkeys_rise (l : List Rc) : (mkeys l).Pairwise (· < ·) := by
  have h1 : (mkeys l).Pairwise (fun x y => decide (x ≤ y) = true) := List.pairwise_mergeSort (fun a b c h1 h2 => by simp at *; omega) (fun a b => by simp; omega) _
  have h2 : (mkeys l).Nodup := (List.mergeSort_perm _ _).nodup_iff.2 (mrows_keyed l).nodup
  refine List.Pairwise.imp₂ (fun a b h3 h4 => ?_) h1 h2
  have h3 : a ≤ b := by simpa using h3
  have h4 : a ≠ b := h4
  omega
theorem mkeys_val {l : List Rc} {k : Int} (h : k ∈ mkeys l) : ((pget (mrows l) k).getD rzero).id = k := by
  rw [mkeys_mem, ← mrows_get] at h
  cases hg : pget (mrows l) k with
  | none => rw [hg] at h; cases h
  | some v => exact (mrows_keyed l).get hg
theorem mergeL_find (l : List Rc) (id : Int) : (mergeL l).find? (fun x => decide (x.id = id)) = accId l id := by
  rw [mergeL, find_of_keys (mkeys l) _ id (fun k hk => mkeys_val hk)]
  by_cases h : id ∈ mkeys l
  · rw [if_pos h, mrows_get]
    rw [mkeys_mem] at h
    cases hg : accId l id with
    | none => rw [hg] at h; cases h
    | some v => rfl
  · rw [if_neg h]
    rw [mkeys_mem] at h
    cases hg : accId l id with
    | none => rfl
    | some v => rw [hg] at h; exact absurd rfl h
theorem foldl_ojn_some : ∀ (l : List Rc) (a : Rc), ∃ b, l.foldl ojn (some a) = some b
  | [], a => ⟨a, rfl⟩
  | r :: l, a => foldl_ojn_some l (jn a r)
def ojn2 : Option Rc → Option Rc → Option Rc
  | o, none => o
  | none, o => o
  | some a, some b => some (jn a b)
theorem foldl_ojn : ∀ (l : List Rc) (o : Option Rc), l.foldl ojn o = ojn2 o (l.foldl ojn none)
  | [], o => by cases o <;> rfl
  | r :: l, o => by
    rw [List.foldl_cons, foldl_ojn l (ojn o r), List.foldl_cons, foldl_ojn l (ojn none r)]
    cases o with
    | none => cases l.foldl ojn none <;> rfl
    | some a =>
      cases l.foldl ojn none with
      | none => rfl
      | some b => simp only [ojn, ojn2, jn_assoc]
theorem acc_append (a b : List Rc) (id : Int) : accId (a ++ b) id = ojn2 (accId a id) (accId b id) := by
  unfold accId
  rw [List.filter_append, List.foldl_append, foldl_ojn]
theorem acc_nil (id : Int) : accId [] id = none := rfl
theorem ojn2_none (o : Option Rc) : ojn2 none o = o := by cases o <;> rfl
theorem ojn2_none' (o : Option Rc) : ojn2 o none = o := by cases o <;> rfl
theorem acc_id : ∀ {l : List Rc} {id : Int} {a : Rc}, accId l id = some a → a.id = id := by
  intro l id a h
  have h1 : pget (mrows l) id = some a := by rw [mrows_get]; exact h
  exact (mrows_keyed l).get h1
theorem ojn2_assoc (a b c : Option Rc) : ojn2 (ojn2 a b) c = ojn2 a (ojn2 b c) := by
  cases a <;> cases b <;> cases c <;> first | rfl | simp only [ojn2, jn_assoc]
theorem ojn2_comm {a b : Option Rc} {id : Int} (ha : ∀ x, a = some x → x.id = id) (hb : ∀ x, b = some x → x.id = id) : ojn2 a b = ojn2 b a := by
  cases a with
  | none => cases b <;> rfl
  | some x => cases b with
    | none => rfl
    | some y => simp only [ojn2]; rw [jn_comm ((ha x rfl).trans (hb y rfl).symm)]
theorem ojn2_idem (a : Option Rc) : ojn2 a a = a := by cases a <;> simp [ojn2, jn_idem]
theorem acc_incr : ∀ {l : List Rc} {s : Int} (id : Int), incr s l → accId l id = l.find? (fun x => decide (x.id = id))
  | [], _, _, _ => rfl
  | x :: l, s, id, h => by
    have ih := acc_incr id h.2
    unfold accId at ih ⊢
    by_cases hx : x.id = id
    · subst hx
      have hn := find_none_of_lt h.2 (Int.le_refl _)
      rw [hn] at ih
      have hf : l.filter (fun r => decide (r.id = x.id)) = [] := by
        rw [List.filter_eq_nil_iff]
        intro r hr
        have := List.find?_eq_none.1 hn r hr
        exact this
      rw [List.filter_cons_of_pos (by simp), List.find?_cons_of_pos (by simp), hf]; rfl
    · rw [List.filter_cons_of_neg (by simpa using hx), List.find?_cons_of_neg (by simpa using hx), ih]
theorem mergeL_incr (l : List Rc) (s : Int) (h : ∀ k ∈ mkeys l, s < k) : incr s (mergeL l) := incr_of_keys _ _ s (fun k hk => mkeys_val hk) (mkeys_rise l) h
theorem acc_mem {l : List Rc} {id : Int} (h : (accId l id).isSome = true) : ∃ r ∈ l, r.id = id := by
  unfold accId at h
  cases hf : l.filter (fun r => decide (r.id = id)) with
  | nil => rw [hf] at h; cases h
  | cons r t =>
    have : r ∈ l.filter (fun r => decide (r.id = id)) := by rw [hf]; simp
    rw [List.mem_filter] at this
    exact ⟨r, this.1, by simpa using this.2⟩
theorem acc_some {l : List Rc} {r : Rc} (h : r ∈ l) : ∃ a, accId l r.id = some a := by
  unfold accId
  have : r ∈ l.filter (fun x => decide (x.id = r.id)) := List.mem_filter.2 ⟨h, by simp⟩
  cases hf : l.filter (fun x => decide (x.id = r.id)) with
  | nil => rw [hf] at this; cases this
  | cons y t => exact foldl_ojn_some t y
/-- What holds of all records and of a join of two holds of what they come to. -/
theorem acc_ind {p : Rc → Prop} (hj : ∀ a b, p a → p b → p (jn a b)) {l : List Rc} (h : ∀ r ∈ l, p r) {id : Int} {a : Rc} (ha : accId l id = some a) : p a := by
  have key : ∀ (t : List Rc) (o : Option Rc), (∀ r ∈ t, p r) → (∀ x, o = some x → p x) → ∀ x, t.foldl ojn o = some x → p x := by
    intro t
    induction t with
    | nil => intro o _ ho x hx; exact ho x hx
    | cons r t ih =>
      intro o ht ho x hx
      refine ih (ojn o r) (fun y hy => ht y (by simp [hy])) (fun y hy => ?_) x hx
      cases o with
      | none => injection hy with hy; rw [← hy]; exact ht r (by simp)
      | some z => injection hy with hy; rw [← hy]; exact hj _ _ (ho z rfl) (ht r (by simp))
  exact key _ none (fun r hr => h r (List.mem_filter.1 hr).1) (fun x hx => by cases hx) a ha
theorem mergeL_mem {l : List Rc} {a : Rc} (h : a ∈ mergeL l) : accId l a.id = some a := by
  unfold mergeL at h
  obtain ⟨k, hk, rfl⟩ := List.mem_map.1 h
  have e := mkeys_val hk
  rw [e, ← mrows_get]
  rw [mkeys_mem, ← mrows_get] at hk
  cases hg : pget (mrows l) k with
  | none => rw [hg] at hk; cases hk
  | some v => rfl
theorem jn_valid {a b : Rc} (ha : recValid a = true) (hb : recValid b = true) : recValid (jn a b) = true := by
  rcases Int.lt_trichotomy a.inc b.inc with e | e | e
  · rw [jn_lt e]; exact hb
  · rw [jn_eq e]
    have h1 : ∀ r s, recValid r = true → 0 ≤ s → s ≤ 3 → recValid (withSt r s) = true := by
      intro r s hr h0 h3
      have e : recValid (withSt r s) = (decide (0 ≤ r.id ∧ r.id ≤ 4095 ∧ 0 ≤ r.inc ∧ r.inc ≤ 281474976710655 ∧ 0 ≤ s ∧ s ≤ 3) && spValid r.sp && bagValid r.bag && !(r.cut && decide (0 < r.bag.length))) := rfl
      rw [e]
      simp only [recValid, Bool.and_eq_true, decide_eq_true_eq] at hr ⊢
      exact ⟨⟨⟨⟨hr.1.1.1.1, hr.1.1.1.2.1, hr.1.1.1.2.2.1, hr.1.1.1.2.2.2.1, h0, h3⟩, hr.1.1.2⟩, hr.1.2⟩, hr.2⟩
    have h2 : ∀ r, recValid r = true → 0 ≤ r.st ∧ r.st ≤ 3 := by
      intro r hr
      simp only [recValid, Bool.and_eq_true, decide_eq_true_eq] at hr
      exact ⟨hr.1.1.1.2.2.2.2.1, hr.1.1.1.2.2.2.2.2⟩
    have ga := h2 a ha
    have gb := h2 b hb
    split
    · exact h1 b _ hb (by omega) (by omega)
    · exact h1 a _ ha (by omega) (by omega)
  · rw [jn_gt e]; exact ha
theorem srtGo_incr : ∀ {l : List Rc} {s : Int}, srtGo s l = true → incr s l ∧ ∀ r ∈ l, recValid r = true
  | [], _, _ => ⟨trivial, fun _ h => (by cases h)⟩
  | x :: l, s, h => by
    simp only [srtGo, Bool.and_eq_true, decide_eq_true_eq] at h
    obtain ⟨h1, h2⟩ := srtGo_incr h.2
    refine ⟨⟨h.1.2, h1⟩, fun r hr => ?_⟩
    rcases List.mem_cons.1 hr with rfl | hr
    · exact h.1.1
    · exact h2 r hr
theorem incr_srtGo : ∀ {l : List Rc} {s : Int}, incr s l → (∀ r ∈ l, recValid r = true) → srtGo s l = true
  | [], _, _, _ => rfl
  | x :: l, s, h, hv => by
    simp only [srtGo, Bool.and_eq_true, decide_eq_true_eq]
    exact ⟨⟨hv x (by simp), h.1⟩, incr_srtGo h.2 (fun r hr => hv r (by simp [hr]))⟩
theorem srt_incr {l : List Rc} (h : srt l = true) : incr (-1) l ∧ ∀ r ∈ l, recValid r = true := srtGo_incr h
theorem mergeL_valid {l : List Rc} (h : ∀ r ∈ l, recValid r = true) : ∀ r ∈ mergeL l, recValid r = true := fun r hr => acc_ind (fun _ _ => jn_valid) h (mergeL_mem hr)
theorem mergeL_srt {l : List Rc} (h : ∀ r ∈ l, recValid r = true) : srt (mergeL l) = true := by
  refine incr_srtGo (mergeL_incr l (-1) fun k hk => ?_) (mergeL_valid h)
  rw [mkeys_mem] at hk
  obtain ⟨r, hr, rfl⟩ := acc_mem hk
  have := recValid_id (h r hr); omega
theorem mergeL_small {l : List Rc} (h : ∀ r ∈ l, Small r.bag) : ∀ r ∈ mergeL l, Small r.bag := fun r hr => acc_ind (p := fun r => Small r.bag) (fun _ _ => jn_small) h (mergeL_mem hr)
theorem mrows_small {l : List Rc} (h : ∀ r ∈ l, Small r.bag) {k : Int} {a : Rc} (ha : pget (mrows l) k = some a) : Small a.bag := acc_ind (p := fun r => Small r.bag) (fun _ _ => jn_small) h (by rw [← mrows_get]; exact ha)
theorem mstep_length (m : List (Int × Rc)) (r : Rc) : (mstep m r).length ≤ m.length + 1 := pput_length _ _ _
theorem foldl_length : ∀ (l : List Rc) (m : List (Int × Rc)), (l.foldl mstep m).length ≤ m.length + l.length
  | [], m => by simp
  | r :: l, m => by
    have h1 := foldl_length l (mstep m r)
    have h2 := mstep_length m r
    simp only [List.foldl_cons, List.length_cons]
    omega
theorem mrows_length (l : List Rc) : (mrows l).length ≤ l.length := by
  have h : (l.foldl mstep []).length ≤ ([] : List (Int × Rc)).length + l.length := foldl_length l []
  rw [List.length_nil, Nat.zero_add] at h
  exact h
theorem mkeys_length (l : List Rc) : (mkeys l).length ≤ l.length := by
  rw [mkeys, List.length_mergeSort, List.length_map]; exact mrows_length l
theorem mergeL_length (l : List Rc) : (mergeL l).length ≤ l.length := by
  have := foldl_length l []
  simp only [mergeL, mkeys, List.length_map, List.length_mergeSort]
  show (l.foldl mstep []).length ≤ _
  simpa using this
/-- Two lists of the same joins are the same. -/
theorem mergeL_congr {l m : List Rc} (hl : ∀ r ∈ l, recValid r = true) (hm : ∀ r ∈ m, recValid r = true) (h : ∀ id, accId l id = accId m id) : mergeL l = mergeL m :=
  incr_unique (srt_incr (mergeL_srt hl)).1 (srt_incr (mergeL_srt hm)).1 fun id => by rw [mergeL_find, mergeL_find, h]
theorem under_merge {x l : List Rc} (hx : srt x = true) (hl : ∀ r ∈ l, recValid r = true) (h : ∀ id, ojn2 (accId x id) (accId l id) = accId l id) : under x (mergeL l) = true := by
  unfold under
  rw [List.all_eq_true]
  intro r hr
  have hxr : accId x r.id = some r := by
    rw [acc_incr r.id (srt_incr hx).1]
    have key : ∀ (x : List Rc) (s : Int), incr s x → r ∈ x → x.find? (fun y => decide (y.id = r.id)) = some r := by
      intro x
      induction x with
      | nil => intro _ _ h; cases h
      | cons y x ih =>
        intro s hs hm
        rcases List.mem_cons.1 hm with rfl | hm
        · rw [List.find?_cons_of_pos (by simp)]
        · have := incr_lt hs.2 r hm
          rw [List.find?_cons_of_neg (by simp; omega)]
          exact ih _ hs.2 hm
    exact key x _ (srt_incr hx).1 hr
  have h1 := h r.id
  rw [hxr] at h1
  cases ha : accId l r.id with
  | none => rw [ha] at h1; cases h1
  | some a =>
    rw [ha] at h1
    have h2 : jn r a = a := Option.some.inj h1
    have h3 := mergeL_find l r.id
    rw [ha] at h3
    rw [List.any_eq_true]
    refine ⟨a, List.mem_of_find?_eq_some h3, ?_⟩
    rw [below_jn]
    simp [acc_id ha, h2]
theorem mem_find {x : List Rc} {s : Int} (hs : incr s x) {r : Rc} (hr : r ∈ x) : x.find? (fun y => decide (y.id = r.id)) = some r := by
  induction x generalizing s with
  | nil => cases hr
  | cons y x ih =>
    rcases List.mem_cons.1 hr with rfl | hr
    · rw [List.find?_cons_of_pos (by simp)]
    · have := incr_lt hs.2 r hr
      rw [List.find?_cons_of_neg (by simp; omega)]
      exact ih hs.2 hr
theorem under_back {x m : List Rc} (hx : srt x = true) (hm : srt m = true) (h1 : under x m = true) (h2 : under m x = true) : m = x := by
  have ix := (srt_incr hx).1
  have im := (srt_incr hm).1
  have one : ∀ {x m : List Rc}, incr (-1) x → incr (-1) m → under x m = true → under m x = true → ∀ r ∈ x, r ∈ m := by
    intro x m ix im h1 h2 r hr
    obtain ⟨a, ha, hb⟩ := List.any_eq_true.1 (List.all_eq_true.1 h1 r hr)
    rw [below_jn, Bool.and_eq_true, decide_eq_true_eq, decide_eq_true_eq] at hb
    obtain ⟨r', hr', hb'⟩ := List.any_eq_true.1 (List.all_eq_true.1 h2 a ha)
    rw [below_jn, Bool.and_eq_true, decide_eq_true_eq, decide_eq_true_eq] at hb'
    have e : r' = r := by
      have f1 := mem_find ix hr
      have f2 := mem_find ix hr'
      rw [hb'.1.symm.trans hb.1.symm] at f2
      rw [f1] at f2
      exact (Option.some.inj f2).symm
    subst e
    rw [jn_anti hb.1 hb.2 hb'.2]; exact ha
  refine incr_unique im ix fun id => ?_
  cases hf : m.find? (fun y => decide (y.id = id)) with
  | some a =>
    have ha := List.mem_of_find?_eq_some hf
    have hid : a.id = id := by simpa using List.find?_some hf
    rw [← hid, mem_find ix (one im ix h2 h1 a ha)]
  | none =>
    symm
    rw [List.find?_eq_none] at hf ⊢
    exact fun y hy => hf y (one ix im h1 h2 y hy)
def zrA : AV := .agg [.int .i64 0, .int .i64 0, .int .i64 0, .int .i64 0, .int .i64 0, .bool false, .nil0]
theorem zr_sub : ASub zrA (encR rzero) := ASub.of_wk rfl
theorem look_sub (m : List (Int × Rc)) (n : Int) : ASub ((mget (mmap encR m) n).getD zrA) (encR ((pget m n).getD rzero)) := by
  rw [mget_mmap]
  cases pget m n with
  | none => exact zr_sub
  | some v => exact ASub.refl _
theorem look_sub2 (m : List (Int × Rc)) (n : Int) : ASub (.tup [(mget (mmap encR m) n).getD zrA, .bool (mget (mmap encR m) n).isSome]) (.tup [encR ((pget m n).getD rzero), .bool (pget m n).isSome]) := by
  refine ASub.tup ⟨look_sub m n, ?_, trivial⟩
  rw [mget_mmap]
  cases pget m n <;> exact ASub.refl _
theorem mrows_snoc {ls : List (List Rc)} {i : Nat} {l : List Rc} (h : ls[i]? = some l) : mrows (ls.take (i + 1)).flatten = l.foldl mstep (mrows (ls.take i).flatten) := by
  rw [List.take_add_one, h, List.flatten_append]
  simp [mrows, List.foldl_append]
theorem mstep_snoc {l : List Rc} {j : Nat} {r : Rc} {m : List (Int × Rc)} (h : l[j]? = some r) : (l.take (j + 1)).foldl mstep m = mstep ((l.take j).foldl mstep m) r := by
  rw [List.take_add_one, h]
  simp [List.foldl_append]
theorem len_flatten {ls : List (List Rc)} {l : List Rc} (h : l ∈ ls) : l.length ≤ ls.flatten.length := by
  induction ls with
  | nil => cases h
  | cons x ls ih =>
    rw [List.flatten_cons, List.length_append]
    rcases List.mem_cons.1 h with rfl | h
    · omega
    · have := ih h; omega
theorem rows_small : ∀ (l : List Rc) (m : List (Int × Rc)), (∀ k a, pget m k = some a → Small a.bag) → (∀ r ∈ l, Small r.bag) → ∀ k a, pget (l.foldl mstep m) k = some a → Small a.bag
  | [], m, hm, _, k, a, h => hm k a h
  | r :: l, m, hm, hl, k, a, h => by
    refine rows_small l (mstep m r) (fun k a h => ?_) (fun x hx => hl x (by simp [hx])) k a h
    unfold mstep at h
    rw [pget_pput] at h
    split at h
    · injection h with h
      subst h
      cases hg : pget m r.id with
      | none => rw [mval_none hg]; exact hl r (by simp)
      | some old => rw [mval_some hg]; exact jnAll_small (hm _ _ hg) (hl r (by simp))
    · exact hm k a h
theorem getD_small {o : Option Rc} (h : ∀ a, o = some a → Small a.bag) : Small (o.getD rzero).bag := by
  cases o with
  | none => exact ⟨by simp [rzero], by simp [rzero, bsize]⟩
  | some a => exact h a rfl
theorem foldl_keyed (l : List Rc) {m : List (Int × Rc)} (h : Keyed m) : Keyed (l.foldl mstep m) := (foldl_rows l m h).1
theorem acc_snoc {l : List Rc} {k : Nat} {x : Rc} {id : Int} (hx : l[k]? = some x) : accId (l.take (k + 1)) id = if x.id = id then ojn (accId (l.take k) id) x else accId (l.take k) id := by
  unfold accId
  rw [filter_snoc hx]
  by_cases h : x.id = id
  · rw [if_pos (by simpa using h), if_pos h, List.foldl_append]; rfl
  · rw [if_neg (by simpa using h), if_neg h, List.append_nil]
theorem acc_small {l : List Rc} (h : ∀ r ∈ l, Small r.bag) {id : Int} : Small ((accId l id).getD rzero).bag := getD_small fun a ha => acc_ind (p := fun r => Small r.bag) (fun _ _ => jn_small) h ha
end Go.Proofs.Ytgedefcjngofkaa

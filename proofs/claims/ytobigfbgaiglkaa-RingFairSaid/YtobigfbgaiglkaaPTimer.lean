/- Plain: alarms in a map, and as a list by rising ids. -/
import Derived.Test.YtobigfbgaiglkaaPMap
import Derived.Test.YtobigfbgaiglkaaAmC
set_option linter.unusedVariables false
namespace Go.Proofs.Ytobigfbgaiglkaa
open Go.Proofs.Ytobigfbgaiglkaa.AM
structure Al where
  id : Int
  inc : Int
  t : Int
  deriving DecidableEq
def encAl (a : Al) : AV := .agg [.int .i64 a.id, .int .i64 a.inc, .int .i64 a.t]
def alz : Al := ⟨0, 0, 0⟩
abbrev TM := List (Int × Al)
def tmRow (m : TM) : ARow := mrow .i64 (mmap encAl m)
section
variable {α : Type}
def pdel : List (Int × α) → Int → List (Int × α)
  | [], _ => []
  | (a, v) :: m, n => if n = a then m else (a, v) :: pdel m n
theorem mdel_mmap (f : α → AV) (n : Int) : ∀ m : List (Int × α), mdel (mmap f m) n = mmap f (pdel m n)
  | [] => rfl
  | (a, u) :: m => by
    have ih := mdel_mmap f n m
    simp only [mmap, List.map_cons, mdel, pdel] at ih ⊢
    split
    · rfl
    · simp only [List.map_cons, ih]
theorem pdel_mem {m : List (Int × α)} {n : Int} {p : Int × α} (h : p ∈ pdel m n) : p ∈ m := by
  induction m with
  | nil => exact h
  | cons q m ih =>
    obtain ⟨a, u⟩ := q
    simp only [pdel] at h
    split at h
    · exact List.mem_cons_of_mem _ h
    · rcases List.mem_cons.1 h with h | h
      · exact h ▸ List.mem_cons_self
      · exact List.mem_cons_of_mem _ (ih h)
theorem pdel_length (m : List (Int × α)) (n : Int) : (pdel m n).length ≤ m.length := by
  induction m with
  | nil => simp [pdel]
  | cons q m ih => obtain ⟨a, u⟩ := q; simp only [pdel]; split <;> simp <;> omega
theorem pdel_nodup {m : List (Int × α)} (h : (m.map (·.1)).Nodup) (n : Int) : ((pdel m n).map (·.1)).Nodup := by
  induction m with
  | nil => exact h
  | cons q m ih =>
    obtain ⟨a, u⟩ := q
    simp only [List.map_cons, List.nodup_cons] at h
    simp only [pdel]
    split
    · exact h.2
    · simp only [List.map_cons, List.nodup_cons]
      refine ⟨fun hm => h.1 ?_, ih h.2⟩
      obtain ⟨p, hp, e⟩ := List.mem_map.1 hm
      exact List.mem_map.2 ⟨p, pdel_mem hp, e⟩
theorem pget_pdel {m : List (Int × α)} (h : (m.map (·.1)).Nodup) (n k : Int) : pget (pdel m n) k = if k = n then none else pget m k := by
  induction m with
  | nil => simp [pdel, pget]
  | cons q m ih =>
    obtain ⟨a, u⟩ := q
    simp only [List.map_cons, List.nodup_cons] at h
    simp only [pdel]
    by_cases hn : n = a
    · subst hn
      rw [if_pos rfl]
      by_cases hk : k = n
      · subst hk; rw [if_pos rfl]; exact pget_none.2 h.1
      · rw [if_neg hk]; simp [pget, hk]
    · rw [if_neg hn]
      simp only [pget, ih h.2]
      by_cases hk : k = a
      · subst hk; simp [Ne.symm hn]
      · simp [hk]
def pkeys (m : List (Int × α)) : List Int := (m.map (·.1)).mergeSort fun x y => decide (x ≤ y)
theorem pkeys_mem (m : List (Int × α)) (k : Int) : k ∈ pkeys m ↔ (pget m k).isSome = true := by
  unfold pkeys
  rw [List.mem_mergeSort]
  cases h : pget m k with
  | none => simp only [Option.isSome_none, Bool.false_eq_true, iff_false]; exact pget_none.1 h
  | some v => simp only [Option.isSome_some, iff_true]; exact List.mem_map.2 ⟨_, pget_mem h, rfl⟩
theorem pkeys_rise {m : List (Int × α)} (h : (m.map (·.1)).Nodup) : (pkeys m).Pairwise (· < ·) := by
  have h1 : (pkeys m).Pairwise (fun x y => decide (x ≤ y) = true) := List.pairwise_mergeSort (fun a b c h1 h2 => by simp at *; omega) (fun a b => by simp; omega) _
  have h2 : (pkeys m).Nodup := (List.mergeSort_perm _ _).nodup_iff.2 h
  refine List.Pairwise.imp₂ (fun a b h3 h4 => ?_) h1 h2
  have h3 : a ≤ b := by simpa using h3
  have h4 : a ≠ b := h4
  omega
theorem pkeys_length (m : List (Int × α)) : (pkeys m).length = m.length := by simp [pkeys, List.length_mergeSort]
end
def alOf (m : TM) (k : Int) : Al := (pget m k).getD alz
theorem alook_eq (m : TM) (n : Int) : (mget (mmap encAl m) n).getD (.agg [.int .i64 0, .int .i64 0, .int .i64 0]) = encAl (alOf m n) := by
  rw [mget_mmap, alOf]; cases pget m n <;> rfl
theorem alook_is (m : TM) (n : Int) : (mget (mmap encAl m) n).isSome = (pget m n).isSome := by
  rw [mget_mmap]; cases pget m n <;> rfl
def tmAll (m : TM) : List Al := (pkeys m).map (alOf m)
/-- Each alarm lies under its own id, each id once. -/
structure TOk (m : TM) : Prop where
  ids : ∀ p ∈ m, p.2.id = p.1
  nodup : (m.map (·.1)).Nodup
theorem TOk.nil : TOk [] := ⟨fun _ h => (by cases h), List.nodup_nil⟩
theorem TOk.get {m : TM} (h : TOk m) {k : Int} {v : Al} (hg : pget m k = some v) : v.id = k := h.ids _ (pget_mem hg)
theorem TOk.put {m : TM} (h : TOk m) (a : Al) : TOk (pput m a.id a) := ⟨fun p hp => by
    rcases pput_mem hp with rfl | hp
    · rfl
    · exact h.ids p hp, pput_nodup h.nodup _ _⟩
theorem TOk.del {m : TM} (h : TOk m) (k : Int) : TOk (pdel m k) := ⟨fun p hp => h.ids p (pdel_mem hp), pdel_nodup h.nodup k⟩
theorem alOf_id {m : TM} (h : TOk m) {k : Int} (hk : k ∈ pkeys m) : (alOf m k).id = k := by
  rw [pkeys_mem] at hk
  cases hg : pget m k with
  | none => rw [hg] at hk; cases hk
  | some v => rw [alOf, hg]; exact h.get hg
theorem tmAll_mem {m : TM} (h : TOk m) (x : Al) : x ∈ tmAll m ↔ pget m x.id = some x := by
  unfold tmAll
  rw [List.mem_map]
  constructor
  · rintro ⟨k, hk, rfl⟩
    rw [alOf_id h hk]
    rw [pkeys_mem] at hk
    cases hg : pget m k with
    | none => rw [hg] at hk; cases hk
    | some v => rw [alOf, hg]; rfl
  · intro hg
    exact ⟨x.id, by rw [pkeys_mem, hg]; rfl, by rw [alOf, hg]; rfl⟩
def Rises (l : List Al) : Prop := l.Pairwise (fun a b => a.id < b.id)
theorem tmAll_rise {m : TM} (h : TOk m) : Rises (tmAll m) := by
  unfold tmAll Rises
  rw [List.pairwise_map]
  refine List.Pairwise.imp_of_mem (fun {a b} ha hb hab => ?_) (pkeys_rise h.nodup)
  rw [alOf_id h ha, alOf_id h hb]; exact hab
theorem rises_nodup {l : List Al} (h : Rises l) : l.Nodup := List.Pairwise.imp (fun {a b} hab e => by subst e; omega) h
theorem rises_ext {a b : List Al} (ha : Rises a) (hb : Rises b) (h : ∀ x, x ∈ a ↔ x ∈ b) : a = b :=
  ((List.perm_ext_iff_of_nodup (rises_nodup ha) (rises_nodup hb)).2 h).eq_of_pairwise (le := fun x y : Al => x.id < y.id) (fun x y _ _ h1 h2 => absurd h1 (by omega)) ha hb
theorem tmAll_length (m : TM) : (tmAll m).length = m.length := by rw [tmAll, List.length_map, pkeys_length]
/-- The law's own lists. -/
def aWithout (l : List Al) (id : Int) : List Al := l.filter fun x => !decide (x.id = id)
def aPut (l : List Al) (a : Al) : List Al := (aWithout l a.id).takeWhile (fun x => decide (x.id < a.id)) ++ [a] ++ (aWithout l a.id).dropWhile (fun x => decide (x.id < a.id))
theorem rises_filter {l : List Al} (h : Rises l) (p : Al → Bool) : Rises (l.filter p) := List.Pairwise.filter _ h
theorem without_all {m : TM} (h : TOk m) (k : Int) : aWithout (tmAll m) k = tmAll (pdel m k) := by
  refine rises_ext (rises_filter (tmAll_rise h) _) (tmAll_rise (h.del k)) fun x => ?_
  rw [aWithout, List.mem_filter, tmAll_mem h, tmAll_mem (h.del k), pget_pdel h.nodup]
  by_cases e : x.id = k
  · simp [e]
  · simp [e]
theorem aPut_mem (l : List Al) (a x : Al) : x ∈ aPut l a ↔ x = a ∨ (x ∈ l ∧ x.id ≠ a.id) := by
  unfold aPut
  have e : ∀ (p : Al → Bool) (w : List Al), (x ∈ w.takeWhile p ∨ x ∈ w.dropWhile p) ↔ x ∈ w := fun p w => by
    rw [← List.mem_append, List.takeWhile_append_dropWhile]
  have h1 := e (fun x => decide (x.id < a.id)) (aWithout l a.id)
  have h2 : x ∈ aWithout l a.id ↔ (x ∈ l ∧ x.id ≠ a.id) := by simp [aWithout, List.mem_filter]
  rw [← h2, ← h1]
  simp only [List.mem_append, List.mem_singleton]
  constructor
  · rintro ((h | h) | h)
    · exact .inr (.inl h)
    · exact .inl h
    · exact .inr (.inr h)
  · rintro (h | h | h)
    · exact .inl (.inr h)
    · exact .inl (.inl h)
    · exact .inr h
theorem rises_dropWhile : ∀ {l : List Al} {k : Int}, Rises l → ∀ x ∈ l.dropWhile (fun x => decide (x.id < k)), k ≤ x.id
  | [], _, _, _, h => by cases h
  | y :: l, k, h, x, hx => by
    have h := List.pairwise_cons.1 h
    by_cases hy : y.id < k
    · rw [List.dropWhile_cons_of_pos (by simpa using hy)] at hx
      exact rises_dropWhile h.2 x hx
    · rw [List.dropWhile_cons_of_neg (by simpa using hy)] at hx
      rcases List.mem_cons.1 hx with rfl | hx
      · omega
      · have := h.1 x hx; omega
theorem mem_takeWhile_al {l : List Al} {p : Al → Bool} {x : Al} (h : x ∈ l.takeWhile p) : p x = true := by
  induction l with
  | nil => cases h
  | cons y l ih =>
    by_cases hy : p y = true
    · rw [List.takeWhile_cons_of_pos hy] at h
      rcases List.mem_cons.1 h with rfl | h
      · exact hy
      · exact ih h
    · rw [List.takeWhile_cons_of_neg hy] at h; cases h
theorem aPut_rise {l : List Al} (h : Rises l) (a : Al) : Rises (aPut l a) := by
  have hw : Rises (aWithout l a.id) := rises_filter h _
  have hne : ∀ x ∈ aWithout l a.id, x.id ≠ a.id := fun x hx => by simpa using (List.mem_filter.1 hx).2
  unfold aPut Rises
  have hsplit := hw
  rw [Rises, ← List.takeWhile_append_dropWhile (p := fun x => decide (x.id < a.id)) (l := aWithout l a.id), List.pairwise_append] at hsplit
  obtain ⟨h1, h2, h3⟩ := hsplit
  rw [List.append_assoc, List.pairwise_append]
  refine ⟨h1, ?_, ?_⟩
  · rw [List.singleton_append, List.pairwise_cons]
    refine ⟨fun x hx => ?_, h2⟩
    have := rises_dropWhile hw x hx
    have := hne x (List.Sublist.mem hx (List.dropWhile_sublist _)); omega
  · intro x hx y hy
    have hxl : x.id < a.id := by simpa using mem_takeWhile_al hx
    rw [List.singleton_append] at hy
    rcases List.mem_cons.1 hy with rfl | hy
    · exact hxl
    · have := rises_dropWhile hw y hy; omega
theorem put_all {m : TM} (h : TOk m) (a : Al) : aPut (tmAll m) a = tmAll (pput m a.id a) := by
  refine rises_ext (aPut_rise (tmAll_rise h) a) (tmAll_rise (h.put a)) fun x => ?_
  rw [aPut_mem, tmAll_mem h, tmAll_mem (h.put a), pget_pput]
  by_cases e : x.id = a.id
  · simp only [e, ne_eq, not_true_eq_false, and_false, or_false, if_true]
    exact ⟨fun h => by rw [h], fun h => (Option.some.inj h).symm⟩
  · simp only [e, ne_eq, not_false_eq_true, and_true, if_false]
    exact ⟨fun h => h.resolve_left fun h => e (by rw [h]), .inr⟩
/-- What is due, and what is left behind it. -/
def tmDue (m : TM) (now : Int) : List Al := (tmAll m).filter fun a => decide (a.t ≤ now)
def tmRest (m : TM) (now : Int) : TM := (tmDue m now).foldl (fun m a => pdel m a.id) m
theorem foldl_del_ok : ∀ (l : List Al) {m : TM}, TOk m → TOk (l.foldl (fun m a => pdel m a.id) m)
  | [], _, h => h
  | a :: l, m, h => foldl_del_ok l (h.del a.id)
theorem foldl_del_get : ∀ (l : List Al) {m : TM}, TOk m → ∀ k, pget (l.foldl (fun m a => pdel m a.id) m) k = if (∃ a ∈ l, a.id = k) then none else pget m k
  | [], m, h, k => by simp
  | a :: l, m, h, k => by
    rw [List.foldl_cons, foldl_del_get l (h.del a.id), pget_pdel h.nodup]
    by_cases e : a.id = k
    · subst e; simp
    · by_cases e2 : ∃ b ∈ l, b.id = k
      · rw [if_pos e2, if_pos (by obtain ⟨b, h1, h2⟩ := e2; exact ⟨b, by simp [h1], h2⟩)]
      · rw [if_neg e2, if_neg (Ne.symm e), if_neg]
        rintro ⟨b, h1, h2⟩
        rcases List.mem_cons.1 h1 with rfl | h1
        · exact e h2
        · exact e2 ⟨b, h1, h2⟩
theorem tmRest_ok {m : TM} (h : TOk m) (now : Int) : TOk (tmRest m now) := foldl_del_ok _ h
theorem rest_all {m : TM} (h : TOk m) (now : Int) : tmAll (tmRest m now) = (tmAll m).filter fun a => !decide (a.t ≤ now) := by
  refine rises_ext (tmAll_rise (tmRest_ok h now)) (rises_filter (tmAll_rise h) _) fun x => ?_
  rw [tmAll_mem (tmRest_ok h now), List.mem_filter, tmAll_mem h, tmRest, foldl_del_get _ h]
  by_cases hx : pget m x.id = some x
  · by_cases ht : x.t ≤ now
    · rw [if_pos ⟨x, by rw [tmDue, List.mem_filter, tmAll_mem h]; exact ⟨hx, by simpa using ht⟩, rfl⟩]; simp [ht]
    · rw [if_neg]
      · simp [hx]; omega
      · rintro ⟨a, h1, h2⟩
        rw [tmDue, List.mem_filter, tmAll_mem h, h2, hx] at h1
        obtain ⟨e, h3⟩ := h1
        rw [← Option.some.inj e] at h3
        exact ht (by simpa using h3)
  · constructor
    · intro h1
      split at h1
      · cases h1
      · exact absurd h1 hx
    · exact fun h1 => absurd h1.1 hx
theorem foldl_del_length : ∀ (l : List Al) (m : TM), (l.foldl (fun m a => pdel m a.id) m).length ≤ m.length
  | [], m => Nat.le_refl _
  | a :: l, m => Nat.le_trans (foldl_del_length l _) (pdel_length _ _)
theorem tmRest_length (m : TM) (now : Int) : (tmRest m now).length ≤ m.length := foldl_del_length _ _
/-- What the first of the alarms leave. -/
def delN (m : TM) (now : Int) (k : Nat) : TM := (((tmAll m).take k).filter fun a => decide (a.t ≤ now)).foldl (fun m a => pdel m a.id) m
theorem delN_hit {m : TM} {now : Int} {k : Nat} {x : Al} (hx : (tmAll m)[k]? = some x) (h : x.t ≤ now) : pdel (delN m now k) x.id = delN m now (k + 1) := by
  rw [delN, delN, filter_snoc hx, if_pos (by simpa using h), List.foldl_append]; rfl
theorem delN_miss {m : TM} {now : Int} {k : Nat} {x : Al} (hx : (tmAll m)[k]? = some x) (h : ¬ x.t ≤ now) : delN m now (k + 1) = delN m now k := by
  rw [delN, delN, filter_snoc hx, if_neg (by simpa using h), List.append_nil]
theorem delN_end (m : TM) (now : Int) : delN m now (tmAll m).length = tmRest m now := by rw [delN, List.take_length]; rfl
theorem sub_ranged {H : AHeap} {r bi : Nat} {x y z : ARow} (hR : H r = some x) (hbi : (H.set r y) bi = none) : H.sub (((H.set r y).set bi z).set r x) := fun b v hb => by
  by_cases h1 : b = r
  · subst h1; rw [hR] at hb; injection hb with hb; subst hb; exact AHeap.get_set _ _ _
  · rw [AHeap.get_set_ne _ _ h1]
    by_cases h2 : b = bi
    · subst h2; rw [AHeap.get_set_ne _ _ h1] at hbi; rw [hbi] at hb; cases hb
    · rw [AHeap.get_set_ne _ _ h2, AHeap.get_set_ne _ _ h1]; exact hb
/-- The acts of the law. -/
structure TAct where
  kind : Int
  id : Int
  inc : Int
  t : Int
def encTA (a : TAct) : AV := .agg [.int .i64 a.kind, .int .i64 a.id, .int .i64 a.inc, .int .i64 a.t]
theorem tmAll_nil : tmAll [] = [] := by simp [tmAll, pkeys]
theorem tm_awake : tmDue (pput (pput [] 4 ⟨4, 1, 10⟩) 2 ⟨2, 0, 9⟩) 10 = [⟨2, 0, 9⟩, ⟨4, 1, 10⟩] ∧ tmAll (tmRest (pput (pput [] 4 ⟨4, 1, 10⟩) 2 ⟨2, 0, 9⟩) 10) = [] := by
  have h1 : TOk (pput [] 4 ⟨4, 1, 10⟩) := TOk.nil.put ⟨4, 1, 10⟩
  have h2 : TOk (pput (pput [] 4 ⟨4, 1, 10⟩) 2 ⟨2, 0, 9⟩) := h1.put ⟨2, 0, 9⟩
  have e : tmAll (pput (pput [] 4 ⟨4, 1, 10⟩) 2 ⟨2, 0, 9⟩) = [⟨2, 0, 9⟩, ⟨4, 1, 10⟩] := by
    have e1 := put_all h1 ⟨2, 0, 9⟩
    have e2 := put_all TOk.nil ⟨4, 1, 10⟩
    rw [tmAll_nil] at e2
    have e3 : tmAll (pput (pput [] 4 ⟨4, 1, 10⟩) 2 ⟨2, 0, 9⟩) = aPut (tmAll (pput [] 4 ⟨4, 1, 10⟩)) ⟨2, 0, 9⟩ := e1.symm
    have e4 : tmAll (pput [] 4 ⟨4, 1, 10⟩) = aPut [] ⟨4, 1, 10⟩ := e2.symm
    rw [e3, e4]; decide
  refine ⟨by rw [tmDue, e]; decide, ?_⟩
  rw [rest_all h2, e]; decide
/-- The one alarm of the second law. -/
def oneM (a : Al) (c : Bool) : TM := if c then [] else [(a.id, a)]
theorem oneM_ok (a : Al) (c : Bool) : TOk (oneM a c) := by
  cases c
  · exact ⟨fun p hp => by simp [oneM] at hp; subst hp; rfl, by simp [oneM]⟩
  · exact TOk.nil
theorem oneM_all (a : Al) (c : Bool) : tmAll (oneM a c) = if c then [] else [a] := by
  cases c
  · simp [tmAll, pkeys, oneM, alOf, pget]
  · exact tmAll_nil
theorem oneM_due (a : Al) (c : Bool) (t : Int) : tmDue (oneM a c) t = if c = false ∧ a.t ≤ t then [a] else [] := by
  rw [tmDue, oneM_all]; cases c <;> simp [List.filter_cons]
theorem oneM_rest (a : Al) (c : Bool) (t : Int) : tmRest (oneM a c) t = oneM a (c || decide (a.t ≤ t)) := by
  rw [tmRest, oneM_due]
  cases c
  · by_cases h : a.t ≤ t
    · simp [h, oneM, pdel]
    · simp [h, oneM]
  · simp [oneM]
theorem oneM_get (a : Al) (c : Bool) : (pget (oneM a c) a.id).isSome = !c := by cases c <;> simp [oneM, pget]
theorem oneM_len (a : Al) (c : Bool) : (oneM a c).length ≤ 1 := by cases c <;> simp [oneM]
theorem take_one {α : Type} {l : List α} {i : Nat} {x : α} (h : l[i]? = some x) : (l.drop i).take 1 = [x] := by
  have hlt := (List.getElem?_eq_some_iff.1 h).1
  rw [List.drop_eq_getElem_cons hlt]
  have e := (List.getElem?_eq_some_iff.1 h).2
  rw [e]; rfl
theorem tm_none {m : TM} {id : Int} (hok : TOk m) (h : ∀ a ∈ tmAll m, a.id ≠ id) : pget m id = none := by
  cases hg : pget m id with
  | none => rfl
  | some v =>
    have e := hok.get hg
    exact absurd e (h v ((tmAll_mem hok v).2 (by rw [e]; exact hg)))
theorem tm_some {m : TM} {a : Al} (hok : TOk m) (h : a ∈ tmAll m) : pget m a.id = some a := (tmAll_mem hok a).1 h
theorem split_while {l : List Al} {p : Al → Bool} {k : Nat} (hk : k ≤ l.length) (hall : (l.take k).all p = true) (hstop : ∀ y, l[k]? = some y → p y = false) : k ≤ l.length ∧ l.take k = l.takeWhile p ∧ l.drop k = l.dropWhile p := by
  refine ⟨hk, ?_⟩
  induction k generalizing l with
  | zero =>
    cases l with
    | nil => exact ⟨rfl, rfl⟩
    | cons y l => have := hstop y rfl; simp [this]
  | succ k ih =>
    cases l with
    | nil => simp at hk
    | cons y l =>
      simp only [List.take_succ_cons, List.all_cons, Bool.and_eq_true] at hall
      obtain ⟨h1, h2⟩ := ih (by simpa using hk) hall.2 (fun z hz => hstop z (by simpa using hz))
      rw [List.takeWhile_cons_of_pos hall.1, List.dropWhile_cons_of_pos hall.1]
      exact ⟨by simp [h1], by simpa using h2⟩
theorem al_ne {l m : List Al} {k : Nat} {x y : Al} (hx : l[k]? = some x) (hy : m[k]? = some y) (h : x ≠ y) : decide (l = m) = false := by
  refine decide_eq_false fun e => h ?_
  subst e; rw [hx] at hy; exact Option.some.inj hy
theorem take_both {l m : List Al} {k : Nat} {x y : Al} (ht : l.take k = m.take k) (hx : l[k]? = some x) (hy : m[k]? = some y) (h : x = y) : l.take (k + 1) = m.take (k + 1) := by
  rw [List.take_add_one, List.take_add_one, hx, hy, ht, h]
theorem allT_snoc {p : Al → Bool} {l : List Al} {k : Nat} {x : Al} (hx : l[k]? = some x) : (l.take (k + 1)).all p = ((l.take k).all p && p x) := by
  rw [List.take_add_one, hx]; simp [List.all_append]
theorem drop_take_one {α : Type} {l : List α} {i : Nat} {x : α} (h : l[i]? = some x) : (l.take (i + 1)).drop i = [x] := by
  have hlt := (List.getElem?_eq_some_iff.1 h).1
  rw [List.take_add_one, h, List.drop_append_of_le_length (by simp; omega), List.drop_of_length_le (by simp; omega)]; rfl
end Go.Proofs.Ytobigfbgaiglkaa

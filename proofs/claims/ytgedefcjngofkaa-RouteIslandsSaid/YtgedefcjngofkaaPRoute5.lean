/- Plain: what the law of islands asks. -/
import Derived.Test.YtgedefcjngofkaaPRoute4
import Derived.Test.YtgedefcjngofkaaPPlan4
set_option linter.unusedVariables false
namespace Go.Proofs.Ytgedefcjngofkaa
open Go Go.Proofs.Ytgedefcjngofkaa.AM
section
variable {l : List Rc}
theorem on_ge {i k : Nat} : on l i k = true ↔ 0 ≤ ds l 1 i k := decide_eq_true_iff
theorem on_refl {i : Nat} (hi : i < l.length) : on l i i = true := by
  rw [on_ge]; unfold ds; rw [dist_self _ _ _ hi]; exact Int.le_refl _
theorem on_edge {i j k : Nat} (hi : i < l.length) (hj : j < l.length) (hk : k < l.length) (h : on l i j = true) (ha : adj l 1 j k = true) : on l i k = true := by
  rw [on_ge] at h ⊢
  exact (dist_edge (adj l 1) l.length i hi hj hk h ha).1
theorem on_trans {i j k : Nat} (hi : i < l.length) (hj : j < l.length) (hk : k < l.length) (h1 : on l i j = true) (h2 : on l j k = true) : on l i k = true := by
  have key : ∀ (n k : Nat), k < l.length → ds l 1 j k = (n : Int) → on l i k = true := by
    intro n
    induction n with
    | zero => intro k hk h; rw [ds_zero h]; exact h1
    | succ n ih =>
      intro k hk h
      obtain ⟨m, hm, h3, h4⟩ := dist_back (adj l 1) l.length j hj hk (show 0 < dist (adj l 1) l.length j k from by unfold ds at h; rw [h]; push_cast; omega)
      have h5 : ds l 1 j m = (n : Int) := by unfold ds at h ⊢; rw [h3, h]; push_cast; omega
      exact on_edge hi hm hk (ih m hm h5) h4
  rw [on_ge] at h2
  obtain ⟨n, hn⟩ := Int.eq_ofNat_of_zero_le h2
  exact key n k hk hn
theorem on_symm {i k : Nat} (hi : i < l.length) (hk : k < l.length) (h : on l i k = true) : on l k i = true := by
  have key : ∀ (n k : Nat), k < l.length → ds l 1 i k = (n : Int) → on l k i = true := by
    intro n
    induction n with
    | zero => intro k hk h; rw [ds_zero h]; exact on_refl hi
    | succ n ih =>
      intro k hk h
      obtain ⟨m, hm, h3, h4⟩ := dist_back (adj l 1) l.length i hi hk (show 0 < dist (adj l 1) l.length i k from by unfold ds at h; rw [h]; push_cast; omega)
      have h5 : ds l 1 i m = (n : Int) := by unfold ds at h ⊢; rw [h3, h]; push_cast; omega
      exact on_trans hk hm hi (on_edge hk hk hm (on_refl hk) (by rw [adj_comm]; exact h4)) (ih m hm h5)
  rw [on_ge] at h
  obtain ⟨n, hn⟩ := Int.eq_ofNat_of_zero_le h
  exact key n k hk hn
theorem adj_cnt {i k : Nat} (h : adj l 1 i k = true) : cnt (rat l i) = true ∧ cnt (rat l k) = true := by
  have h1 : 1 ≤ lnk (rat l i) (rat l k) := of_decide_eq_true h
  unfold lnk at h1
  split at h1
  · rename_i h2
    simp only [Bool.and_eq_true] at h2
    exact h2.1
  · omega
theorem on_cnt {i k : Nat} (hi : i < l.length) (hk : k < l.length) (hc : cnt (rat l i) = true) (h : on l i k = true) : cnt (rat l k) = true := by
  rw [on_ge] at h
  rcases Int.lt_or_eq_of_le h with g | g
  · obtain ⟨m, hm, _, h4⟩ := dist_back (adj l 1) l.length i hi hk g
    exact (adj_cnt h4).2
  · rw [ds_zero g.symm]; exact hc
/-! the starts -/
theorem starts_cnt : ∀ n, ∀ i ∈ starts l n, cnt (rat l i) = true
  | 0, i, h => by simp [starts] at h
  | n + 1, i, h => by
    have ih := starts_cnt n
    rw [starts] at h
    split at h
    · rename_i hc
      rcases List.mem_append.1 h with h | h
      · exact ih i h
      · simp at h; subst h
        simp only [Bool.and_eq_true] at hc
        exact hc.1
    · exact ih i h
theorem starts_pair : ∀ n, (starts l n).Pairwise fun i j => i < j ∧ on l i j = false
  | 0 => by simp [starts]
  | n + 1 => by
    have ih := starts_pair n
    rw [starts]
    split
    · rename_i hc
      refine List.pairwise_append.2 ⟨ih, by simp, fun i hi j hj => ?_⟩
      simp at hj; subst hj
      refine ⟨starts_lt l j i hi, ?_⟩
      simp only [Bool.and_eq_true, Bool.not_eq_true', seenB, List.any_eq_false] at hc
      simpa using hc.2 i hi
    · exact ih
theorem starts_all : ∀ n, n ≤ l.length → ∀ k, k < n → cnt (rat l k) = true → seenB l (starts l n) k = true
  | 0, _, k, h, _ => by omega
  | n + 1, hn, k, h, hc => by
    have ih := starts_all n (by omega)
    rw [starts]
    rcases Nat.lt_or_ge k n with g | g
    · have h1 := ih k g hc
      split
      · rw [seen_app, h1]; rfl
      · exact h1
    · obtain rfl : k = n := by omega
      split
      · rw [seen_app, on_refl (by omega)]; simp
      · rename_i h2
        rw [hc] at h2
        simpa using h2
theorem seen_cnt {k : Nat} (hk : k < l.length) : seenB l (starts l l.length) k = cnt (rat l k) := by
  cases hc : cnt (rat l k) with
  | true => exact starts_all l.length (Nat.le_refl _) k hk hc
  | false =>
    unfold seenB
    rw [List.any_eq_false]
    intro i hi h
    have := on_cnt (starts_lt l _ i hi) hk (starts_cnt _ i hi) h
    rw [hc] at this; cases this
theorem starts_new {s : Nat} : ∀ n, s ∈ starts l n → seenB l (starts l s) s = false
  | 0, h => by simp [starts] at h
  | n + 1, h => by
    have ih := starts_new (s := s) n
    rw [starts] at h
    split at h
    · rename_i hc
      rcases List.mem_append.1 h with h | h
      · exact ih h
      · simp at h; subst h
        simp only [Bool.and_eq_true, Bool.not_eq_true'] at hc
        exact hc.2
    · exact ih h
theorem starts_first {s k : Nat} (hs : s ∈ starts l l.length) (hk : k < l.length) (h : on l s k = true) : s ≤ k := by
  have hsl := starts_lt l _ s hs
  have hc := on_cnt hsl hk (starts_cnt _ s hs) h
  rcases Nat.lt_or_ge k s with g | g
  · have h1 := starts_all s (by omega) k g hc
    obtain ⟨i, hi, h2⟩ := List.any_eq_true.1 h1
    have hil := starts_lt l _ i hi
    have h3 := on_trans (by omega) hk hsl h2 (on_symm hsl hk h)
    have h4 := starts_new _ hs
    unfold seenB at h4
    rw [List.any_eq_false] at h4
    exact absurd h3 (by simpa using h4 i hi)
  · exact g
theorem starts_apart {i j a b : Nat} (ha : (starts l l.length)[i]? = some a) (hb : (starts l l.length)[j]? = some b) (h : on l a b = true) : i = j := by
  have hp := starts_pair (l := l) l.length
  rw [List.pairwise_iff_getElem] at hp
  obtain ⟨hi, rfl⟩ := List.getElem?_eq_some_iff.1 ha
  obtain ⟨hj, rfl⟩ := List.getElem?_eq_some_iff.1 hb
  have hal := starts_lt l _ _ (List.getElem_mem hi)
  have hbl := starts_lt l _ _ (List.getElem_mem hj)
  rcases Nat.lt_trichotomy i j with g | g | g
  · rw [(hp i j hi hj g).2] at h; cases h
  · exact g
  · have := (hp j i hj hi g).2
    rw [on_symm hal hbl h] at this; cases this
theorem starts_rise {i j a b : Nat} (ha : (starts l l.length)[i]? = some a) (hb : (starts l l.length)[j]? = some b) (h : i < j) : a < b := by
  have hp := starts_pair (l := l) l.length
  rw [List.pairwise_iff_getElem] at hp
  obtain ⟨hi, rfl⟩ := List.getElem?_eq_some_iff.1 ha
  obtain ⟨hj, rfl⟩ := List.getElem?_eq_some_iff.1 hb
  exact (hp i j hi hj h).1
theorem isl_get (h : srt l = true) {i : Nat} {m : List Int} (hm : (islandsL l)[i]? = some m) : ∃ s, (starts l l.length)[i]? = some s ∧ m = islandOf l s := by
  rw [islandsL, if_pos h, List.getElem?_map, Option.map_eq_some_iff] at hm
  obtain ⟨s, h1, h2⟩ := hm
  exact ⟨s, h1, h2.symm⟩
/-! an island's members -/
theorem island_get {s q : Nat} {v : Int} (h : (islandOf l s)[q]? = some v) : ∃ u, u < l.length ∧ on l s u = true ∧ v = (rat l u).id ∧ ((List.range l.length).filter (on l s))[q]? = some u := by
  rw [islandOf, List.getElem?_map, Option.map_eq_some_iff] at h
  obtain ⟨u, hu, rfl⟩ := h
  have hm := List.mem_of_getElem? hu
  rw [List.mem_filter, List.mem_range] at hm
  exact ⟨u, hm.1, hm.2, rfl, hu⟩
theorem filter_range_rise {p : Nat → Bool} {N q r a b : Nat} (ha : ((List.range N).filter p)[q]? = some a) (hb : ((List.range N).filter p)[r]? = some b) (h : q < r) : a < b := by
  have hp : ((List.range N).filter p).Pairwise (· < ·) := List.Pairwise.filter p List.pairwise_lt_range
  rw [List.pairwise_iff_getElem] at hp
  obtain ⟨hi, rfl⟩ := List.getElem?_eq_some_iff.1 ha
  obtain ⟨hj, rfl⟩ := List.getElem?_eq_some_iff.1 hb
  exact hp q r hi hj h
theorem island_zero {s : Nat} (hs : s ∈ starts l l.length) : (islandOf l s)[0]? = some (rat l s).id := by
  have hsl := starts_lt l _ s hs
  have hm : s ∈ (List.range l.length).filter (on l s) := List.mem_filter.2 ⟨List.mem_range.2 hsl, on_refl hsl⟩
  obtain ⟨j, hj, hjs⟩ := List.getElem_of_mem hm
  have h0 : 0 < ((List.range l.length).filter (on l s)).length := by omega
  obtain ⟨u, hu⟩ := get_some h0
  have hum := List.mem_of_getElem? hu
  rw [List.mem_filter, List.mem_range] at hum
  have h1 := starts_first hs hum.1 hum.2
  have : u = s := by
    rcases Nat.eq_zero_or_pos j with e | e
    · subst e
      rw [List.getElem?_eq_getElem hj, hjs] at hu
      exact (Option.some.inj hu).symm
    · have := filter_range_rise hu (show _ = some s from by rw [List.getElem?_eq_getElem hj, hjs]) e
      omega
  subst this
  rw [islandOf, List.getElem?_map, hu]; rfl
theorem ids_rise (h : srt l = true) {i j : Nat} (hij : i < j) (hj : j < l.length) : (rat l i).id < (rat l j).id := by
  have key : ∀ (l : List Rc) (s : Int), incr s l → ∀ (i j : Nat) (x y : Rc), i < j → l[i]? = some x → l[j]? = some y → x.id < y.id := by
    intro l
    induction l with
    | nil => intro s _ i j x y _ hx; simp at hx
    | cons z l ih =>
      intro s hs i j x y hij hx hy
      obtain ⟨j, rfl⟩ : ∃ j', j = j' + 1 := ⟨j - 1, by omega⟩
      rw [List.getElem?_cons_succ] at hy
      cases i with
      | zero => simp at hx; subst hx; exact incr_lt hs.2 y (mem_get hy)
      | succ i => rw [List.getElem?_cons_succ] at hx; exact ih _ hs.2 i j x y (by omega) hx hy
  obtain ⟨x, hx⟩ := get_some (show i < l.length by omega)
  obtain ⟨y, hy⟩ := get_some hj
  rw [rat_eq hx, rat_eq hy]
  exact key l (-1) (srt_incr h).1 i j x y hij hx hy
theorem at_cnt (h : srt l = true) {u : Nat} {x : Rc} (hx : l[u]? = some x) (hc : cnt x = true) : atZ l x.id = (u : Int) := by
  have hu := uniq_srt h
  have hp : (fun r : Rc => decide (r.id = x.id) && cnt r) x = true := by simp [hc]
  have hany : idx (fun r : Rc => decide (r.id = x.id) && cnt r) l < l.length := by
    have := idx_lt_any (fun r : Rc => decide (r.id = x.id) && cnt r) l
    rw [List.any_eq_true.2 ⟨x, mem_get hx, hp⟩] at this
    simpa using this
  obtain ⟨y, hy⟩ := get_some hany
  have h1 := idx_find (fun r : Rc => decide (r.id = x.id) && cnt r) l
  rw [hy] at h1
  have h2 := List.find?_some h1.symm
  simp only [Bool.and_eq_true, decide_eq_true_eq] at h2
  have := hu _ _ y x hy hx h2.1
  unfold atZ idxZ
  rw [if_pos hany, this]
theorem at_no (h : srt l = true) {u : Nat} {x : Rc} (hx : l[u]? = some x) (hc : cnt x = false) : atZ l x.id = -1 := by
  rcases Int.lt_or_le (atZ l x.id) 0 with g | g
  · have := (atZ_rng l x.id).1; omega
  · obtain ⟨i, y, h1, h2, h3, h4, h5⟩ := atZ_some (l := l) (a := x.id) (by omega)
    have := uniq_srt h _ _ y x h3 hx h4
    subst this
    rw [h3] at hx; cases hx
    rw [hc] at h5; cases h5
theorem path_on (h : srt l = true) {u s : Nat} {x y : Rc} (hu : l[u]? = some x) (hs : l[s]? = some y) (cx : cnt x = true) (cy : cnt y = true) : (pathR l x.id y.id 1).2 = on l s u := by
  have h1 := at_cnt h hu cx
  have h2 := at_cnt h hs cy
  by_cases hd : ds l 1 s u < 0
  · rw [pathR_no h h1 h2 hd]
    symm; exact decide_eq_false (by omega)
  · obtain ⟨D, hD⟩ := Int.eq_ofNat_of_zero_le (show 0 ≤ ds l 1 s u by omega)
    rw [pathR_yes h h1 h2 hD]
    symm; exact decide_eq_true (by omega)
/-! how many there are -/
theorem filter_or {α : Type} {p q : α → Bool} : ∀ {l : List α}, (∀ x ∈ l, p x = true → q x = false) → (l.filter fun x => p x || q x).length = (l.filter p).length + (l.filter q).length
  | [], _ => rfl
  | a :: l, h => by
    have ih := filter_or (l := l) fun x hx => h x (List.mem_cons_of_mem _ hx)
    have ha := h a List.mem_cons_self
    simp only [List.filter_cons]
    by_cases hp : p a = true
    · rw [hp, ha hp]; simp [ih]; omega
    · by_cases hq : q a = true
      · simp [hp, hq, ih]; omega
      · simp [hp, hq, ih]
theorem sum_islands : ∀ st : List Nat, (∀ s ∈ st, s < l.length) → st.Pairwise (fun i j => i < j ∧ on l i j = false) → ((st.map (islandOf l)).flatten).length = ((List.range l.length).filter (seenB l st)).length
  | [], _, _ => by
    rw [List.filter_eq_nil_iff.2 (fun k _ => by simp [seenB])]; rfl
  | s :: st, hl, hp => by
    have hp' := List.pairwise_cons.1 hp
    have ih := sum_islands st (fun i hi => hl i (List.mem_cons_of_mem _ hi)) hp'.2
    have hs := hl s List.mem_cons_self
    rw [List.map_cons, List.flatten_cons, List.length_append, ih]
    have e : seenB l (s :: st) = fun k => on l s k || seenB l st k := by funext k; simp [seenB]
    rw [e, filter_or, islandOf, List.length_map]
    intro k hk h
    unfold seenB
    rw [List.any_eq_false]
    intro t ht h2
    have htl := hl t (List.mem_cons_of_mem _ ht)
    have := on_trans hs (List.mem_range.1 hk) htl h (on_symm htl (List.mem_range.1 hk) h2)
    rw [(hp'.1 t ht).2] at this; cases this
theorem count_rat : ∀ l : List Rc, ((List.range l.length).filter fun k => cnt (rat l k)).length = (l.filter cnt).length := fun l => by
  have e : l = (List.range l.length).map (rat l) := by
    refine List.ext_getElem? fun k => ?_
    rcases Nat.lt_or_ge k l.length with h | h
    · obtain ⟨x, hx⟩ := get_some h
      rw [range_get _ h, rat_eq hx, hx]
    · rw [List.getElem?_eq_none h, List.getElem?_eq_none (by simpa using h)]
  have h2 : (l.filter cnt).length = (((List.range l.length).map (rat l)).filter cnt).length := by rw [← e]
  rw [h2, List.filter_map, List.length_map]; rfl
theorem islands_total (h : srt l = true) : ((islandsL l).flatten).length = (l.filter cnt).length := by
  rw [islandsL, if_pos h, sum_islands _ (fun s hs => starts_lt l _ s hs) (starts_pair _), ← count_rat]
  congr 1
  exact List.filter_congr fun k hk => seen_cnt (List.mem_range.1 hk)
theorem islands_speak (h : srt l = true) (hs : speakB l = true) : (islandsL l).length ≤ 1 := by
  rw [islandsL, if_pos h, List.length_map]
  rcases Nat.lt_or_ge 1 (starts l l.length).length with g | g
  · obtain ⟨a, ha⟩ := get_some (show 0 < (starts l l.length).length by omega)
    obtain ⟨b, hb⟩ := get_some g
    have hab := starts_rise ha hb (by omega)
    have hal := starts_lt l _ a (mem_get ha)
    have hbl := starts_lt l _ b (mem_get hb)
    obtain ⟨x, hx⟩ := get_some hal
    obtain ⟨y, hy⟩ := get_some hbl
    have cx := starts_cnt _ a (mem_get ha)
    have cy := starts_cnt _ b (mem_get hb)
    have hid := ids_rise h hab hbl
    rw [rat_eq hx] at cx hid
    rw [rat_eq hy] at cy hid
    have h1 := (speak_pairs l).1 hs x (mem_get hx) y (mem_get hy) cx cy
    have h2 : adj l 1 a b = true := by
      rw [adj_eq hx hy, lnk, if_pos (by simp [cx, cy]; omega)]
      have := best_rng x.sp y.sp
      exact decide_eq_true (by omega)
    have := starts_apart ha hb (on_edge hal hal hbl (on_refl hal) h2)
    omega
  · exact g
theorem on_same {i j s s2 u : Nat} (hs : (starts l l.length)[i]? = some s) (hs2 : (starts l l.length)[j]? = some s2) (hu : u < l.length) (h : on l s u = true) : on l s2 u = decide ((i : Int) = (j : Int)) := by
  have h1 := starts_lt l _ s (mem_get hs)
  have h2 := starts_lt l _ s2 (mem_get hs2)
  by_cases e : i = j
  · subst e
    rw [hs] at hs2; cases hs2
    rw [h]; simp
  · rw [decide_eq_false (by omega)]
    cases ho : on l s2 u with
    | false => rfl
    | true => exact absurd (starts_apart hs2 hs (on_trans h2 hu h1 ho (on_symm h1 hu h))) (by omega)
end
end Go.Proofs.Ytgedefcjngofkaa

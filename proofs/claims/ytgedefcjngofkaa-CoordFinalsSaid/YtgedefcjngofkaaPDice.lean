/- Plain: draws and shuffles of integers. -/
import Derived.Test.YtgedefcjngofkaaAmB
set_option linter.unusedVariables false
namespace Go.Proofs.Ytgedefcjngofkaa
open Go.Proofs.Ytgedefcjngofkaa.AM
def encI (l : List Int) : AV := .imm (l.map (.int .i64))
@[simp] theorem constAV_int (k : Go.IntKind) (n : Int) : constAV (.int k n) = .int k n := rfl
@[simp] theorem constAV_bool (b : Bool) : constAV (.bool b) = .bool b := rfl
@[simp] theorem constAV_str (s : ByteArray) : constAV (.string s) = .str s := rfl
def I64 (x : Int) : Prop := -9223372036854775808 ≤ x ∧ x ≤ 9223372036854775807
theorem map_get {α β : Type} {f : α → β} {l : List α} {i : Nat} {x : α} (h : l[i]? = some x) : (l.map f)[i]? = some (f x) := by simp [h]
theorem cell_map {α : Type} {f : α → AV} (hf : ∀ x, (f x).cells.all AV.isCell = true) (l : List α) : ∀ x ∈ l.map f, x.cells.all AV.isCell = true := fun x hx => by
  obtain ⟨y, _, rfl⟩ := List.mem_map.1 hx; exact hf y
theorem get_some {α : Type} {l : List α} {k : Nat} (h : k < l.length) : ∃ x, l[k]? = some x := ⟨l[k], List.getElem?_eq_getElem h⟩
theorem mem_get {α : Type} {l : List α} {k : Nat} {x : α} (h : l[k]? = some x) : x ∈ l := List.mem_of_getElem? h
theorem view_row {G : AHeap} {r sz n : Nat} {l : List AV} (h : G r = some (.row sz l)) (hn : n = l.length) : (AV.own r sz 0 n).view G = some l := by
  subst hn; simp [AV.view, h]
def U8 (x : Int) : Prop := 0 ≤ x ∧ x ≤ 255
def lowI (x n : Int) : Int := if x.tmod n < 0 then x.tmod n + n else x.tmod n
theorem tmod_range (x n : Int) (h : 1 ≤ n) : -n < x.tmod n ∧ x.tmod n < n := by
  have h1 := Int.tmod_lt_of_pos x (show 0 < n by omega)
  have h2 := Int.lt_tmod_of_pos x (show 0 < n by omega)
  omega
theorem lowI_range (x n : Int) (h : 1 ≤ n) : 0 ≤ lowI x n ∧ lowI x n < n := by
  have := tmod_range x n h
  unfold lowI; split <;> omega
def dNext (ds : List Int) (n : Int) : Int := if n < 1 then 0 else lowI (ds.headD 0) n
def dRest (ds : List Int) (n : Int) : List Int := if n < 1 then ds else ds.tail
def swp (l : List Int) (i k : Nat) : List Int := (l.set i (l.getD k 0)).set k (l.getD i 0)
theorem swp_row (l : List Int) (i k : Nat) (hi : i < l.length) (hk : k < l.length) : ((l.map (AV.int .i64)).set (0 + i) (.int .i64 l[k])).set (0 + k) (.int .i64 l[i]) = (swp l i k).map (.int .i64) := by
  simp [swp, List.map_set, List.getD, hi, hk]
theorem set_comm {G : AHeap} {r p : Nat} {x y : ARow} (h : r ≠ p) : (G.set r x).set p y = (G.set p y).set r x := AHeap.ext fun b => by
  by_cases h1 : b = r
  · subst h1; rw [AHeap.get_set_ne _ _ h, AHeap.get_set, AHeap.get_set]
  · rw [AHeap.get_set_ne _ _ h1]
    by_cases h2 : b = p
    · subst h2; rw [AHeap.get_set, AHeap.get_set]
    · rw [AHeap.get_set_ne _ _ h2, AHeap.get_set_ne _ _ h2, AHeap.get_set_ne _ _ h1]
theorem sub_set' {H G : AHeap} {r : Nat} {x : ARow} (h : H.sub G) (hr : H r = none) : H.sub (G.set r x) := fun b y hb => by
  have : b ≠ r := fun e => by subst e; rw [hr] at hb; cases hb
  rw [AHeap.get_set_ne _ _ this]; exact h b y hb
theorem set_three {H : AHeap} {r p : Nat} {b x y : ARow} (h : r ≠ p) : ((H.set p b).set r x).set p y = (H.set p y).set r x := by
  rw [set_comm h, AHeap.set_set]
theorem setAll_append (G : AHeap) : ∀ e f : List (Nat × ARow), setAll G (e ++ f) = setAll (setAll G f) e
  | [], f => rfl
  | (r, x) :: e, f => by simp only [List.cons_append, setAll, setAll_append G e f]
theorem dRest_pos (ds : List Int) {n : Int} (h : 1 ≤ n) : dRest ds n = ds.tail := by rw [dRest, if_neg (by omega)]
theorem dNext_pos (ds : List Int) {n : Int} (h : 1 ≤ n) : dNext ds n = lowI (ds.headD 0) n := by rw [dNext, if_neg (by omega)]
theorem swp_mid (l : List Int) (i k : Nat) (hk : k < l.length) : ∃ z : Int, ((l.map (AV.int .i64)).set (0 + i) (.int .i64 l[k]))[0 + k]? = some (.int .i64 z) ∧ ((l.map (AV.int .i64)).set (0 + i) (.int .i64 l[k]))[k]? = some (.int .i64 z) :=
  ⟨(l.set i l[k])[k]'(by simpa using hk), by
    have e : (l.map (AV.int .i64)).set (0 + i) (.int .i64 l[k]) = (l.set i l[k]).map (AV.int .i64) := by rw [Nat.zero_add, List.map_set]
    rw [e, Nat.zero_add]; exact ⟨map_get (List.getElem?_eq_getElem _), map_get (List.getElem?_eq_getElem _)⟩⟩
theorem swp_length (l : List Int) (i k : Nat) : (swp l i k).length = l.length := by simp [swp]
theorem swp_count (l : List Int) (i k : Nat) (hi : i < l.length) (hk : k < l.length) (x : Int) : (swp l i k).count x = l.count x := by
  have e : ∀ (j : Nat) (hj : j < l.length), l.getD j 0 = l[j] := fun j hj => by simp [List.getD, hj]
  unfold swp
  rw [e k hk, e i hi, List.count_set (by simpa using hk), List.count_set hi, List.getElem_set]
  have hp : ∀ (j : Nat) (hj : j < l.length), l[j] = x → 0 < l.count x := fun j hj e => List.count_pos_iff.2 (e ▸ List.getElem_mem hj)
  have hpi := hp i hi
  have hpk := hp k hk
  by_cases hik : i = k
  · subst hik
    simp only [if_true]
    by_cases h1 : l[i] = x
    · have := hpi h1; simp [h1]; omega
    · simp [h1]
  · simp only [hik, if_false]
    by_cases h1 : l[i] = x
    · have := hpi h1
      by_cases h2 : l[k] = x
      · simp [h1, h2]; omega
      · simp [h1, h2]; omega
    · by_cases h2 : l[k] = x
      · have := hpk h2
        simp [h1, h2]
      · simp [h1, h2]
def shuf : Nat → List Int → List Int → List Int × List Int
  | 0, out, ds => (out, ds)
  | i + 1, out, ds => shuf i (swp out (i + 1) (lowI (ds.headD 0) ((i : Int) + 2)).toNat) ds.tail
theorem count_take {l : List Int} {k : Nat} {x y : Int} (h : l[k]? = some y) : (l.take (k + 1)).count x = (l.take k).count x + if y = x then 1 else 0 := by
  rw [List.take_add_one, h]; simp [List.count_append, List.count_cons]
theorem shuf_length : ∀ (i : Nat) (out ds : List Int), (shuf i out ds).1.length = out.length
  | 0, out, ds => rfl
  | i + 1, out, ds => by simp only [shuf]; rw [shuf_length i]; exact swp_length ..
theorem shuf_count (x : Int) : ∀ (i : Nat) (out ds : List Int), i < out.length ∨ out = [] → (shuf i out ds).1.count x = out.count x
  | 0, out, ds, _ => rfl
  | i + 1, out, ds, h => by
    simp only [shuf]
    rcases h with h | rfl
    · have hr := lowI_range (ds.headD 0) ((i : Int) + 2) (by omega)
      rw [shuf_count x i _ _ (.inl (by rw [swp_length]; omega)), swp_count _ _ _ h (by omega)]
    · rw [shuf_count x i _ _ (.inr (by simp [swp]))]; simp [swp]
theorem shuf_mem (P : Int → Prop) (i : Nat) (out ds : List Int) (h : i < out.length ∨ out = []) (hP : ∀ x ∈ out, P x) : ∀ x ∈ (shuf i out ds).1, P x := fun x hx => by
  have h1 : 0 < (shuf i out ds).1.count x := List.count_pos_iff.2 hx
  rw [shuf_count x i out ds h] at h1
  exact hP x (List.count_pos_iff.1 h1)
def shuffled (l ds : List Int) : List Int := (shuf (l.length - 1) l ds).1
def shufRest (l ds : List Int) : List Int := (shuf (l.length - 1) l ds).2
theorem lowI_zero (n : Int) : lowI 0 n = 0 := by simp [lowI]
theorem shuf_rest : ∀ (i : Nat) (out ds : List Int), (shuf i out ds).2 = ds.drop i
  | 0, out, ds => rfl
  | i + 1, out, ds => by simp only [shuf]; rw [shuf_rest i]; simp [List.drop_tail]
theorem shufRest_eq (l ds : List Int) : shufRest l ds = ds.drop (l.length - 1) := shuf_rest _ _ _
theorem drop_cons {α : Type} {l : List α} {k : Nat} {x : α} (h : l[k]? = some x) : l.drop k = x :: l.drop (k + 1) := by
  have hk : k < l.length := by
    rcases Nat.lt_or_ge k l.length with h' | h'
    · exact h'
    · rw [List.getElem?_eq_none h'] at h; cases h
  rw [List.drop_eq_getElem_cons hk]
  rw [List.getElem?_eq_getElem hk] at h; cases h; rfl
def someI (l ds : List Int) (k : Int) : List Int := if k < 1 then [] else (shuffled l ds).take (min k.toNat l.length)
def someRest (l ds : List Int) (k : Int) : List Int := if k < 1 then ds else shufRest l ds
end Go.Proofs.Ytgedefcjngofkaa

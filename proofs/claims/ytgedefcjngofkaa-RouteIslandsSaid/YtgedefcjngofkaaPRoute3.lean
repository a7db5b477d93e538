/- Plain: links, and the path from place to place. -/
import Derived.Test.YtgedefcjngofkaaPRoute2
set_option linter.unusedVariables false
namespace Go.Proofs.Ytgedefcjngofkaa
open Go Go.Proofs.Ytgedefcjngofkaa.AM
def lnk (a b : Rc) : Int := if (cnt a && cnt b && !decide (a.id = b.id)) = true then spBest a.sp b.sp else 0
theorem lnk_comm (a b : Rc) : lnk a b = lnk b a := by
  unfold lnk
  rw [spBest_comm a.sp b.sp]
  have : (cnt a && cnt b && !decide (a.id = b.id)) = (cnt b && cnt a && !decide (b.id = a.id)) := by
    rw [Bool.and_comm (cnt a), decide_eq_decide.2 (show (a.id = b.id) ↔ (b.id = a.id) from eq_comm)]
  rw [this]
theorem best_rng (a b : Sp) : 0 ≤ spBest a b ∧ spBest a b ≤ 3 := by
  rcases spBest_cases a b with ⟨h, _⟩ | ⟨_, _, h1, h2, _⟩ <;> omega
theorem lnk_rng (a b : Rc) : 0 ≤ lnk a b ∧ lnk a b ≤ 3 := by
  have := best_rng a.sp b.sp
  unfold lnk
  split <;> omega
def rat (l : List Rc) (i : Nat) : Rc := (l[i]?).getD rzero
theorem rat_eq {l : List Rc} {i : Nat} {x : Rc} (h : l[i]? = some x) : rat l i = x := by rw [rat, h]; rfl
def adj (l : List Rc) (least : Int) (i k : Nat) : Bool := decide (least ≤ lnk (rat l i) (rat l k))
theorem adj_eq {l : List Rc} {least : Int} {i k : Nat} {x y : Rc} (hx : l[i]? = some x) (hy : l[k]? = some y) : adj l least i k = decide (least ≤ lnk x y) := by rw [adj, rat_eq hx, rat_eq hy]
theorem adj_comm (l : List Rc) (least : Int) (i k : Nat) : adj l least i k = adj l least k i := by rw [adj, adj, lnk_comm]
def ds (l : List Rc) (least : Int) (f k : Nat) : Int := dist (adj l least) l.length f k
def farP (l : List Rc) (f : Nat) (least : Int) : List Int := (List.range l.length).map (ds l least f)
def farL (l : List Rc) (f : Nat) (least : Int) : List Int := (List.range l.length).map fun k => if 0 ≤ ds l least f k then ds l least f k else 1000
structure Hop where
  to : Int
  gen : Int
  deriving DecidableEq
def encH (h : Hop) : AV := .agg [.int .i64 h.to, .int .i64 h.gen]
/-- The first place that is a hop nearer. -/
def nearer (l : List Rc) (least : Int) (f i k : Nat) : Bool := adj l least i k && decide (ds l least f k = ds l least f i - 1)
def nextP (l : List Rc) (least : Int) (f i : Nat) : Option Nat := (List.range l.length).find? (nearer l least f i)
def walk (l : List Rc) (least : Int) (f : Nat) : Nat → Nat → List Hop
  | 0, _ => []
  | n + 1, i => match nextP l least f i with
    | none => []
    | some k => ⟨(rat l k).id, lnk (rat l i) (rat l k)⟩ :: walk l least f n k
def atZ (l : List Rc) (id : Int) : Int := idxZ (fun r => decide (r.id = id) && cnt r) l
def pathR (l : List Rc) (a b least : Int) : List Hop × Bool :=
  if (!srt l || decide (atZ l a < 0) || decide (atZ l b < 0)) = true then ([], false)
  else if ds l least (atZ l b).toNat (atZ l a).toNat < 0 then ([], false)
  else (walk l least (atZ l b).toNat (ds l least (atZ l b).toNat (atZ l a).toNat).toNat (atZ l a).toNat, true)
section
variable {l : List Rc} {least : Int} {f : Nat}
theorem next_some {i : Nat} (hf : f < l.length) (hi : i < l.length) (h : 0 < ds l least f i) : ∃ k, nextP l least f i = some k ∧ k < l.length ∧ adj l least i k = true ∧ ds l least f k = ds l least f i - 1 ∧ ∀ j, j < k → nearer l least f i j = false := by
  obtain ⟨k0, h1, h2, h3⟩ := dist_back (adj l least) l.length f hf hi h
  unfold nextP
  cases hn : (List.range l.length).find? (nearer l least f i) with
  | none =>
    rw [List.find?_eq_none] at hn
    have := hn k0 (List.mem_range.2 h1)
    rw [nearer, adj_comm, h3] at this
    simp only [Bool.true_and, decide_eq_true_eq] at this
    exact absurd h2 this
  | some k =>
    have hp := List.find?_some hn
    simp only [nearer, Bool.and_eq_true, decide_eq_true_eq] at hp
    refine ⟨k, rfl, List.mem_range.1 (List.mem_of_find?_eq_some hn), hp.1, hp.2, fun j hj => ?_⟩
    have h4 := List.mem_range.1 (List.mem_of_find?_eq_some hn)
    rw [List.find?_eq_some_iff_append] at hn
    obtain ⟨_, us, bs, e, h5⟩ := hn
    have e1 : us.length = k := by
      have h6 : (List.range l.length)[us.length]? = some k := by rw [e]; simp
      rw [List.getElem?_range (by
        have := congrArg List.length e
        simp at this; omega)] at h6
      exact Option.some.inj h6
    have h7 : us[j]? = some j := by
      have h8 : (List.range l.length)[j]? = some j := List.getElem?_range (by omega)
      rw [e, List.getElem?_append_left (by omega)] at h8
      exact h8
    have := h5 j (List.mem_of_getElem? h7)
    simpa using this
theorem walk_len (hf : f < l.length) : ∀ (n i : Nat), i < l.length → ds l least f i = (n : Int) → (walk l least f n i).length = n
  | 0, i, _, _ => rfl
  | n + 1, i, hi, h => by
    obtain ⟨k, h1, h2, h3, h4, _⟩ := next_some hf hi (least := least) (by rw [h]; push_cast; omega)
    rw [walk, h1]
    have := walk_len hf n k h2 (by rw [h4, h]; push_cast; omega)
    simp [this]
theorem walk_next {n i k : Nat} (h : nextP l least f i = some k) : walk l least f (n + 1) i = ⟨(rat l k).id, lnk (rat l i) (rat l k)⟩ :: walk l least f n k := by rw [walk, h]
theorem ds_lt {k : Nat} (hf : f < l.length) (hk : k < l.length) : ds l least f k < l.length := dist_lt (adj l least) l.length f hf hk
theorem ds_rng {k : Nat} : -1 ≤ ds l least f k := (dv_rng (adj l least) l.length f l.length k).1
theorem ds_zero {k : Nat} (h : ds l least f k = 0) : k = f := dist_zero (adj l least) l.length f h
end
theorem atZ_some {l : List Rc} {a : Int} (h : ¬ atZ l a < 0) : ∃ (i : Nat) (x : Rc), atZ l a = (i : Int) ∧ i < l.length ∧ l[i]? = some x ∧ x.id = a ∧ cnt x = true := by
  unfold atZ idxZ at *
  split at h
  · rename_i hl
    rw [if_pos hl]
    obtain ⟨x, hx⟩ := get_some hl
    have h1 := idx_find (fun r => decide (r.id = a) && cnt r) l
    rw [hx] at h1
    have h2 := List.find?_some h1.symm
    simp only [Bool.and_eq_true, decide_eq_true_eq] at h2
    exact ⟨_, x, rfl, hl, hx, h2.1, h2.2⟩
  · omega
theorem atZ_rng (l : List Rc) (a : Int) : -1 ≤ atZ l a ∧ atZ l a < l.length := by
  have := idx_le (fun r => decide (r.id = a) && cnt r) l
  unfold atZ idxZ
  split <;> omega
theorem pathR_out {l : List Rc} {a b least : Int} (h : (!srt l || decide (atZ l a < 0) || decide (atZ l b < 0)) = true) : pathR l a b least = ([], false) := by rw [pathR, if_pos h]
theorem pathR_no {l : List Rc} {a b least : Int} {ia ib : Nat} (hs : srt l = true) (ha : atZ l a = (ia : Int)) (hb : atZ l b = (ib : Int)) (h : ds l least ib ia < 0) : pathR l a b least = ([], false) := by
  rw [pathR, if_neg (by rw [hs, ha, hb]; simp), ha, hb, Int.toNat_natCast, Int.toNat_natCast, if_pos h]
theorem pathR_yes {l : List Rc} {a b least : Int} {ia ib D : Nat} (hs : srt l = true) (ha : atZ l a = (ia : Int)) (hb : atZ l b = (ib : Int)) (h : ds l least ib ia = (D : Int)) : pathR l a b least = (walk l least ib D ia, true) := by
  rw [pathR, if_neg (by rw [hs, ha, hb]; simp), ha, hb, Int.toNat_natCast, Int.toNat_natCast, h, if_neg (by omega), Int.toNat_natCast]
theorem nearer_eq {l : List Rc} {least : Int} {f i k : Nat} {x y : Rc} (hx : l[i]? = some x) (hy : l[k]? = some y) : nearer l least f i k = (decide (least ≤ lnk x y) && decide (ds l least f k = ds l least f i - 1)) := by rw [nearer, adj_eq hx hy]
/-- What the law's own walk down the places finds. -/
structure Down (l : List Rc) (least : Int) (f i j : Nat) (nx : Int) : Prop where
  le : ∀ k, l.length - j ≤ k → k < l.length → nearer l least f i k = true → 0 ≤ nx ∧ nx ≤ (k : Int)
  is : nx = -1 ∨ ∃ k : Nat, nx = (k : Int) ∧ k < l.length ∧ nearer l least f i k = true
theorem down_zero (l : List Rc) (least : Int) (f i : Nat) : Down l least f i 0 (-1) := ⟨fun k h1 h2 _ => by omega, .inl rfl⟩
theorem down_hit {l : List Rc} {least : Int} {f i j k0 : Nat} {nx : Int} (h : Down l least f i j nx) (hj : j < l.length) (hk : k0 = l.length - 1 - j) (hn : nearer l least f i k0 = true) : Down l least f i (j + 1) (k0 : Int) :=
  ⟨fun k h1 h2 _ => by omega, .inr ⟨k0, rfl, by omega, hn⟩⟩
theorem down_miss {l : List Rc} {least : Int} {f i j k0 : Nat} {nx : Int} (h : Down l least f i j nx) (hj : j < l.length) (hk : k0 = l.length - 1 - j) (hn : nearer l least f i k0 = false) : Down l least f i (j + 1) nx :=
  ⟨fun k h1 h2 h3 => by
    rcases Nat.lt_or_ge k (l.length - j) with g | g
    · obtain rfl : k = k0 := by omega
      rw [hn] at h3; cases h3
    · exact h.le k g h2 h3, h.is⟩
theorem down_end {l : List Rc} {least : Int} {f i kn : Nat} {nx : Int} (h : Down l least f i l.length nx) (hk : kn < l.length) (hn : nearer l least f i kn = true) (hm : ∀ j, j < kn → nearer l least f i j = false) : nx = (kn : Int) := by
  have h1 := h.le kn (by omega) hk hn
  rcases h.is with h2 | ⟨k, h2, h3, h4⟩
  · omega
  · rcases Nat.lt_or_ge k kn with g | g
    · rw [hm k g] at h4; cases h4
    · omega
theorem far_eq {l : List Rc} {least : Int} {f i k : Nat} (h : 0 < ds l least f i) (h2 : ds l least f i ≤ 900) : ((if 0 ≤ ds l least f k then ds l least f k else 1000) = (if 0 ≤ ds l least f i then ds l least f i else 1000) - 1) ↔ ds l least f k = ds l least f i - 1 := by
  rw [if_pos (by omega : 0 ≤ ds l least f i)]
  split <;> omega
/-- The variables of the walk row by row. -/
structure FarSt (r3 r7 r5 rn : Nat) (l : List Rc) (least : Int) (H G : AHeap) (R : List Int) : Prop where
  bl : G r3 = some (.box (encRs l))
  bo : G r7 = some (.box (.own rn 1 0 l.length))
  bc : G r5 = some (.box (.int .i64 least))
  row : G rn = some (.row 1 (R.map (.int .i64)))
  sub : H.sub G
  len : R.length = l.length
theorem FarSt.put {r3 r7 r5 rn : Nat} {l : List Rc} {least : Int} {H G : AHeap} {R R' : List Int} (h : FarSt r3 r7 r5 rn l least H G R) (hz : H rn = none) (hl : R'.length = l.length) : FarSt r3 r7 r5 rn l least H (G.set rn (.row 1 (R'.map (.int .i64)))) R' := by
  have key : ∀ b v, G b = some (.box v) → b ≠ rn := fun b v hb e => by rw [e, h.row] at hb; cases hb
  exact ⟨by rw [AHeap.get_set_ne _ _ (key _ _ h.bl)]; exact h.bl, by rw [AHeap.get_set_ne _ _ (key _ _ h.bo)]; exact h.bo, by rw [AHeap.get_set_ne _ _ (key _ _ h.bc)]; exact h.bc, AHeap.get_set _ _ _, sub_set_free _ h.sub hz, hl⟩
theorem rep_range (N : Nat) : (List.replicate N (AV.int .i64 0)) = (((List.range N).map fun j => if j < 0 then (-1 : Int) else 0).map (.int .i64)) := by
  refine List.ext_getElem (by simp) fun i h1 h2 => by simp
theorem fill_set {N k : Nat} (F F' : Nat → Int) (hk : k < N) : ((List.range N).map fun j => if j < k then F j else F' j).set k (F k) = (List.range N).map fun j => if j < k + 1 then F j else F' j := by
  rw [range_set _ _ hk]
  refine range_congr fun j hj => ?_
  by_cases e : j = k
  · subst e
    rw [if_pos rfl, if_pos (by omega)]
  · rw [if_neg e]
    by_cases g : j < k
    · rw [if_pos g, if_pos (by omega)]
    · rw [if_neg g, if_neg (by omega)]
theorem negs_le (N : Nat) (F : Nat → Int) : negs N F ≤ N := by
  have := List.length_filter_le (fun k => decide (F k < 0)) (List.range N)
  rw [List.length_range] at this; exact this
theorem farP_length (l : List Rc) (f : Nat) (least : Int) : (farP l f least).length = l.length := by simp [farP]
theorem farL_length (l : List Rc) (f : Nat) (least : Int) : (farL l f least).length = l.length := by simp [farL]
theorem farP_get {l : List Rc} {f k : Nat} {least : Int} (h : k < l.length) : (farP l f least)[k]? = some (ds l least f k) := range_get _ h
theorem farL_get {l : List Rc} {f k : Nat} {least : Int} (h : k < l.length) : (farL l f least)[k]? = some (if 0 ≤ ds l least f k then ds l least f k else 1000) := range_get (fun k => if 0 ≤ ds l least f k then ds l least f k else 1000) h
end Go.Proofs.Ytgedefcjngofkaa

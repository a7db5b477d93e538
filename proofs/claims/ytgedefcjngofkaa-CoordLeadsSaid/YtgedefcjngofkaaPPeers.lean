/- Plain: a book of peers. -/
import Derived.Test.YtgedefcjngofkaaPSpan
import Derived.Test.YtgedefcjngofkaaAmB
set_option linter.unusedVariables false
namespace Go.Proofs.Ytgedefcjngofkaa
open Go.Proofs.Ytgedefcjngofkaa.AM
def pget {α : Type} : List (Int × α) → Int → Option α
  | [], _ => none
  | (a, v) :: m, n => if n = a then some v else pget m n
def pput {α : Type} : List (Int × α) → Int → α → List (Int × α)
  | [], n, v => [(n, v)]
  | (a, u) :: m, n, v => if n = a then (n, v) :: m else (a, u) :: pput m n v
def mmap {α : Type} (f : α → AV) (m : List (Int × α)) : MRow := m.map fun p => (p.1, f p.2)
theorem mget_mmap {α : Type} (f : α → AV) (n : Int) : ∀ m : List (Int × α), mget (mmap f m) n = (pget m n).map f
  | [] => rfl
  | (a, v) :: m => by
    have ih := mget_mmap f n m
    simp only [mmap, List.map_cons, mget, pget] at ih ⊢
    split
    · rfl
    · exact ih
theorem mput_mmap {α : Type} (f : α → AV) (n : Int) (v : α) : ∀ m : List (Int × α), mput (mmap f m) n (f v) = mmap f (pput m n v)
  | [] => rfl
  | (a, u) :: m => by
    have ih := mput_mmap f n v m
    simp only [mmap, List.map_cons, mput, pput] at ih ⊢
    split
    · rfl
    · simp only [List.map_cons, ih]
theorem pget_pput {α : Type} (n k : Int) (v : α) : ∀ m : List (Int × α), pget (pput m n v) k = if k = n then some v else pget m k
  | [] => by simp only [pput, pget]
  | (a, u) :: m => by
    have ih := pget_pput n k v m
    by_cases h : n = a
    · subst h; simp only [pput, if_true, pget]; split <;> rfl
    · simp only [pput, if_neg h, pget, ih]
      by_cases hk : k = a
      · subst hk; simp [Ne.symm h]
      · simp [hk]
structure Pe where
  inc : Int
  sp : Sp
def encPe (p : Pe) : AV := .agg [.int .i64 p.inc, .int .i64 p.sp.lo, .int .i64 p.sp.hi]
structure News where
  id : Int
  inc : Int
  sp : Sp
def encN (p : News) : AV := .agg [.int .i64 p.id, .int .i64 p.inc, .int .i64 p.sp.lo, .int .i64 p.sp.hi]
abbrev Book := List (Int × Pe)
def bookRow (m : Book) : ARow := mrow .i64 (mmap encPe m)
def lookPe (m : Book) (n : Int) : Pe := (pget m n).getD ⟨0, ⟨0, 0⟩⟩
theorem look_eq (m : Book) (n : Int) : (mget (mmap encPe m) n).getD (.agg [.int .i64 0, .int .i64 0, .int .i64 0]) = encPe (lookPe m n) := by
  rw [mget_mmap, lookPe]; cases pget m n <;> rfl
theorem look_is (m : Book) (n : Int) : (mget (mmap encPe m) n).isSome = (pget m n).isSome := by
  rw [mget_mmap]; cases pget m n <;> rfl
def learnOk (m : Book) (id inc : Int) (s : Sp) : Bool := decide (0 ≤ id ∧ id ≤ 4095 ∧ 0 ≤ inc ∧ inc ≤ 281474976710655) && spValid s && !((pget m id).isSome && decide (inc < (lookPe m id).inc))
def learn (m : Book) (id inc : Int) (s : Sp) : Book := if learnOk m id inc s then pput m id ⟨inc, s⟩ else m
def chooseP (m : Book) (own : Sp) (id : Int) : Int × Int := match pget m id with
  | none => (0, 0)
  | some p => if spBest own p.sp = 0 then (0, 1) else (spBest own p.sp, 2)
def Both (own q : Sp) (j : Int) : Prop := spHas own j = true ∧ q.lo ≤ j ∧ j ≤ q.hi
theorem both_has {own q : Sp} (hv : spValid q = true) (j : Int) : Both own q j ↔ (spHas own j = true ∧ spHas q j = true) := by
  unfold Both; simp [spHas, hv]
theorem has_range {s : Sp} {j : Int} (h : spHas s j = true) : 1 ≤ j ∧ j ≤ 3 := by
  simp only [spHas, spValid, Bool.and_eq_true, decide_eq_true_eq] at h; omega
theorem choose_hit {m : Book} {own : Sp} {id k : Int} {q : Pe} (hq : pget m id = some q) (hv : spValid q.sp = true) (hk : Both own q.sp k) (hno : ∀ j : Int, k < j → j ≤ 3 → ¬ Both own q.sp j) : chooseP m own id = (k, 2) := by
  have hk' := (both_has hv k).1 hk
  have e : spBest own q.sp = k := by
    rcases spBest_cases own q.sp with ⟨h1, h2⟩ | ⟨h1, h2, h3, h4, h5⟩
    · exact absurd hk' (h2 k)
    · have h6 := h5 k hk'.1 hk'.2
      rcases Int.lt_or_le k (spBest own q.sp) with h7 | h7
      · exact absurd ((both_has hv _).2 ⟨h1, h2⟩) (hno _ h7 h4)
      · omega
  have h3 := has_range hk'.1
  simp only [chooseP, hq, e]
  rw [if_neg (by omega)]
theorem choose_miss {m : Book} {own : Sp} {id : Int} {q : Pe} (hq : pget m id = some q) (hv : spValid q.sp = true) (hno : ∀ j : Int, 0 < j → j ≤ 3 → ¬ Both own q.sp j) : chooseP m own id = (0, 1) := by
  have e : spBest own q.sp = 0 := by
    rcases spBest_cases own q.sp with ⟨h1, h2⟩ | ⟨h1, h2, h3, h4, h5⟩
    · exact h1
    · exact absurd ((both_has hv _).2 ⟨h1, h2⟩) (hno _ (by omega) h4)
  simp only [chooseP, hq, e, if_true]
def bookOf (l : List News) : Book := l.foldl (fun m x => learn m x.id x.inc x.sp) []
theorem bookOf_take {l : List News} {k : Nat} {x : News} (h : l[k]? = some x) : bookOf (l.take (k + 1)) = learn (bookOf (l.take k)) x.id x.inc x.sp := by
  rw [List.take_add_one, h]; simp [bookOf, List.foldl_append]
theorem learn_valid {m : Book} {id inc : Int} {s : Sp} (h : ∀ n q, pget m n = some q → spValid q.sp = true) : ∀ n q, pget (learn m id inc s) n = some q → spValid q.sp = true := fun n q hq => by
  unfold learn at hq
  split at hq
  · rename_i hl
    rw [pget_pput] at hq
    split at hq
    · cases hq; simp only [learnOk, Bool.and_eq_true] at hl; exact hl.1.2
    · exact h n q hq
  · exact h n q hq
theorem bookOf_valid (l : List News) : ∀ n q, pget (bookOf l) n = some q → spValid q.sp = true := by
  have key : ∀ (l : List News) (m : Book), (∀ n q, pget m n = some q → spValid q.sp = true) → ∀ n q, pget (l.foldl (fun m x => learn m x.id x.inc x.sp) m) n = some q → spValid q.sp = true := by
    intro l
    induction l with
    | nil => exact fun m h => h
    | cons x l ih => exact fun m h => ih _ (learn_valid h)
  exact key l [] (fun n q h => by simp [pget] at h)
theorem choose_new {id inc : Int} {s own : Sp} (h : learnOk [] id inc s = true) : chooseP (learn [] id inc s) own id = (spBest own s, if spBest own s = 0 then 1 else 2) := by
  rw [learn, if_pos h]
  simp only [pput, chooseP, pget, if_true]
  split
  · rename_i h0; rw [h0]
  · rfl
theorem learnOk_new (id inc : Int) (s : Sp) (hid : 0 ≤ id ∧ id ≤ 4095) : learnOk [] id inc s = (decide (0 ≤ inc ∧ inc ≤ 281474976710655) && spValid s) := by
  simp [learnOk, pget, hid]
end Go.Proofs.Ytgedefcjngofkaa

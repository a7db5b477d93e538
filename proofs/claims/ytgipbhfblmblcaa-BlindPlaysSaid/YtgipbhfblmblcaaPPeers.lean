/- Plain: a book of peers. -/
import Derived.Test.YtgipbhfblmblcaaPSpan
import Derived.Test.YtgipbhfblmblcaaAmB
set_option linter.unusedVariables false
namespace Go.Proofs.Ytgipbhfblmblcaa
open Go.Proofs.Ytgipbhfblmblcaa.AM
def pget {α : Type} : List (Int × α) → Int → Option α
  | [], _ => none
  | (a, v) :: m, n => if n = a then some v else pget m n
def pput {α : Type} : List (Int × α) → Int → α → List (Int × α)
  | [], n, v => [(n, v)]
  | (a, u) :: m, n, v => if n = a then (n, v) :: m else (a, u) :: pput m n v
def mmap {α : Type} (f : α → AV) (m : List (Int × α)) : MRow := m.map fun p => (p.1, f p.2)
theorem mget_mmap {α : Type} (f : α → AV) (n : Int) : ∀ m : List (Int × α), mget (mmap f m) n = (pget m n).map f
  | [] => rfl
  | (a, v) :: m => by
    have ih := mget_mmap f n m
    simp only [mmap, List.map_cons, mget, pget] at ih ⊢
    split
    · rfl
    · exact ih
theorem mput_mmap {α : Type} (f : α → AV) (n : Int) (v : α) : ∀ m : List (Int × α), mput (mmap f m) n (f v) = mmap f (pput m n v)
  | [] => rfl
  | (a, u) :: m => by
    have ih := mput_mmap f n v m
    simp only [mmap, List.map_cons, mput, pput] at ih ⊢
    split
    · rfl
    · simp only [List.map_cons, ih]
theorem pget_pput {α : Type} (n k : Int) (v : α) : ∀ m : List (Int × α), pget (pput m n v) k = if k = n then some v else pget m k
  | [] => by simp only [pput, pget]
  | (a, u) :: m => by
    have ih := pget_pput n k v m
    by_cases h : n = a
    · subst h; simp only [pput, if_true, pget]; split <;> rfl
    · simp only [pput, if_neg h, pget, ih]
      by_cases hk : k = a
      · subst hk; simp [Ne.symm h]
      · simp [hk]
structure Pe where
  inc : Int
  sp : Sp
def encPe (p : Pe) : AV := .agg [.int .i64 p.inc, .int .i64 p.sp.lo, .int .i64 p.sp.hi]
structure News where
  id : Int
  inc : Int
  sp : Sp
def encN (p : News) : AV := .agg [.int .i64 p.id, .int .i64 p.inc, .int .i64 p.sp.lo, .int .i64 p.sp.hi]
abbrev Book := List (Int × Pe)
def bookRow (m : Book) : ARow := mrow .i64 (mmap encPe m)
def lookPe (m : Book) (n : Int) : Pe := (pget m n).getD ⟨0, ⟨0, 0⟩⟩
def learnOk (m : Book) (id inc : Int) (s : Sp) : Bool := decide (0 ≤ id ∧ id ≤ 4095 ∧ 0 ≤ inc ∧ inc ≤ 281474976710655) && spValid s && !((pget m id).isSome && decide (inc < (lookPe m id).inc))
def learn (m : Book) (id inc : Int) (s : Sp) : Book := if learnOk m id inc s then pput m id ⟨inc, s⟩ else m
def chooseP (m : Book) (own : Sp) (id : Int) : Int × Int := match pget m id with
  | none => (0, 0)
  | some p => if spBest own p.sp = 0 then (0, 1) else (spBest own p.sp, 2)
def Both (own q : Sp) (j : Int) : Prop := spHas own j = true ∧ q.lo ≤ j ∧ j ≤ q.hi
def bookOf (l : List News) : Book := l.foldl (fun m x => learn m x.id x.inc x.sp) []
end Go.Proofs.Ytgipbhfblmblcaa

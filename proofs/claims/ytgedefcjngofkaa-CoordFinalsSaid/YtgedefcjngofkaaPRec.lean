/- Plain: records. -/
import Derived.Test.YtgedefcjngofkaaPBag
set_option linter.unusedVariables false
namespace Go.Proofs.Ytgedefcjngofkaa
open Go.Proofs.Ytgedefcjngofkaa.AM
structure Rc where
  id : Int
  inc : Int
  st : Int
  sp : Sp
  cut : Bool
  bag : List Fd
  deriving DecidableEq
def encR (r : Rc) : AV := .agg [.int .i64 r.id, .int .i64 r.inc, .int .i64 r.st, .int .i64 r.sp.lo, .int .i64 r.sp.hi, .bool r.cut, encBag r.bag]
def encRs (l : List Rc) : AV := .imm (l.map encR)
def rzero : Rc := ⟨0, 0, 0, ⟨0, 0⟩, false, []⟩
def core (r : Rc) : Rc := ⟨r.id, r.inc, r.st, r.sp, false, []⟩
def bare (r : Rc) : Rc := ⟨r.id, r.inc, r.st, r.sp, r.cut || decide (0 < r.bag.length), []⟩
def akin (a b : Rc) : Bool := decide (a.id = b.id ∧ a.inc = b.inc ∧ a.st = b.st ∧ a.sp = b.sp)
def recValid (r : Rc) : Bool := decide (0 ≤ r.id ∧ r.id ≤ 4095 ∧ 0 ≤ r.inc ∧ r.inc ≤ 281474976710655 ∧ 0 ≤ r.st ∧ r.st ≤ 3) && spValid r.sp && bagValid r.bag && !(r.cut && decide (0 < r.bag.length))
def ordI (a b : Int) : Int := if a < b then -1 else if b < a then 1 else 0
def weigh (a b : Rc) : Int := if a.cut = b.cut then (if ordI a.sp.lo b.sp.lo = 0 then (if ordI a.sp.hi b.sp.hi = 0 then cmpBag a.bag b.bag else ordI a.sp.hi b.sp.hi) else ordI a.sp.lo b.sp.lo) else if a.cut then -1 else 1
def idx (p : Rc → Bool) : List Rc → Nat
  | [] => 0
  | x :: l => if p x then 0 else idx p l + 1
theorem idx_le (p : Rc → Bool) : ∀ l, idx p l ≤ l.length
  | [] => Nat.le_refl _
  | x :: l => by have := idx_le p l; simp only [idx]; split <;> simp <;> omega
theorem idx_hit {p : Rc → Bool} : ∀ {l : List Rc} {k : Nat} {x : Rc}, idx p (l.drop k) + k = idx p l → l[k]? = some x → p x = true → idx p l = k := fun {l k x} h hx hp => by
  rw [drop_cons hx, idx, if_pos hp] at h; omega
theorem idx_miss {p : Rc → Bool} {l : List Rc} {k : Nat} {x : Rc} (h : idx p (l.drop k) + k = idx p l) (hx : l[k]? = some x) (hp : p x = false) : idx p (l.drop (k + 1)) + (k + 1) = idx p l := by
  rw [drop_cons hx, idx, if_neg (by simp [hp])] at h; omega
theorem idx_end {p : Rc → Bool} {l : List Rc} (h : idx p (l.drop l.length) + l.length = idx p l) : idx p l = l.length := by
  rw [List.drop_length, idx] at h; omega
def rput (l : List Rc) (r : Rc) : List Rc :=
  if idx (fun x => decide (x.id = r.id)) l < l.length then l.set (idx (fun x => decide (x.id = r.id)) l) r
  else l.take (idx (fun x => decide (r.id < x.id)) l) ++ r :: l.drop (idx (fun x => decide (r.id < x.id)) l)
def SmallL (l : List Rc) : Prop := l.length ≤ 1000000 ∧ ∀ x ∈ l, Small x.bag
def fewGo : List Fd → Int → Bool
  | [], _ => true
  | f :: l, n => if 5000 < n + f.data.length then false else fewGo l (n + f.data.length)
def few (b : List Fd) : Bool := if 40 < b.length then false else fewGo b 0
theorem fewGo_size : ∀ (b : List Fd) (n : Int), fewGo b n = true → b = [] ∨ n + bsize b ≤ 5000
  | [], n, _ => .inl rfl
  | f :: l, n, h => by
    simp only [fewGo] at h
    split at h
    · cases h
    · rcases fewGo_size l _ h with rfl | h2
      · right; simp [bsize]; omega
      · right; simp only [bsize]; omega
theorem few_small {b : List Fd} (h : few b = true) : Small b ∧ b.length ≤ 40 ∧ bsize b ≤ 5000 := by
  unfold few at h
  split at h
  · cases h
  · have hb : bsize b ≤ 5000 := by
      rcases fewGo_size b 0 h with rfl | h2
      · simp [bsize]
      · omega
    exact ⟨⟨by omega, by omega⟩, by omega, hb⟩
def Held (b : List Fd) : Prop := b.length ≤ 140737488351232 ∧ ∀ f ∈ b, f.data.length ≤ 140737488351232
def fewL (l : List Rc) : Bool := decide (l.length ≤ 20) && l.all fun r => few r.bag
end Go.Proofs.Ytgedefcjngofkaa

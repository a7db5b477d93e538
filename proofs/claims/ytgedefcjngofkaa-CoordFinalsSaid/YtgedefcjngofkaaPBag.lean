/- Plain: bags. -/
import Derived.Test.YtgedefcjngofkaaPSpan
set_option linter.unusedVariables false
namespace Go.Proofs.Ytgedefcjngofkaa
open Go.Proofs.Ytgedefcjngofkaa.AM
structure Fd where
  tag : Int
  data : List Int
  deriving DecidableEq
def encD (l : List Int) : AV := .imm (l.map (.int .u8))
def encFd (f : Fd) : AV := .agg [.int .i64 f.tag, encD f.data]
def encBag (b : List Fd) : AV := .imm (b.map encFd)
def bsize : List Fd → Int
  | [] => 0
  | f :: l => f.data.length + bsize l
theorem bsize_nonneg : ∀ l, 0 ≤ bsize l
  | [] => by simp [bsize]
  | f :: l => by have := bsize_nonneg l; simp [bsize]; omega
theorem bsize_take {l : List Fd} {k : Nat} {x : Fd} (h : l[k]? = some x) : bsize (l.take (k + 1)) = bsize (l.take k) + x.data.length := by
  induction l generalizing k with
  | nil => simp at h
  | cons f l ih =>
    cases k with
    | zero => simp at h; subst h; simp [bsize]
    | succ k => simp at h; simp [bsize, ih h]; omega
theorem bsize_le : ∀ (l : List Fd) (k : Nat), bsize (l.take k) ≤ bsize l
  | [], k => by simp
  | f :: l, 0 => by simp [bsize]; have := bsize_nonneg l; omega
  | f :: l, k + 1 => by have := bsize_le l k; simp [bsize]; omega
theorem bsize_mem {l : List Fd} {x : Fd} (h : x ∈ l) : (x.data.length : Int) ≤ bsize l := by
  induction l with
  | nil => cases h
  | cons f l ih =>
    simp only [bsize]
    rcases List.mem_cons.1 h with rfl | h
    · have := bsize_nonneg l; omega
    · have := ih h; omega
/-- Small enough for every sum and every row. -/
def Small (b : List Fd) : Prop := b.length ≤ 1000000 ∧ bsize b ≤ 1000000
def bvGo : List Fd → Int → Int → Bool
  | [], _, _ => true
  | f :: l, last, size => if f.tag < last ∨ 255 < f.tag then false else if 4096 < size + f.data.length then false else bvGo l f.tag (size + f.data.length)
def bagValid (b : List Fd) : Bool := if 32 < b.length then false else bvGo b 32 0
def cmpB : List Int → List Int → Int
  | [], [] => 0
  | [], _ :: _ => -1
  | _ :: _, [] => 1
  | x :: xs, y :: ys => if x < y then -1 else if y < x then 1 else cmpB xs ys
def cmpI (x y : Int) : Int := if x < y then -1 else if y < x then 1 else 0
def signF (f g : Fd) : Int := if f.tag = g.tag then cmpB f.data g.data else if f.tag < g.tag then -1 else 1
def cmpBag : List Fd → List Fd → Int
  | [], [] => 0
  | [], _ :: _ => -1
  | _ :: _, [] => 1
  | f :: a, g :: b => if signF f g = 0 then cmpBag a b else signF f g
theorem cmpB_zero : ∀ a b, cmpB a b = 0 ↔ a = b
  | [], [] => by simp [cmpB]
  | [], _ :: _ => by simp [cmpB]
  | _ :: _, [] => by simp [cmpB]
  | x :: xs, y :: ys => by
    have ih := cmpB_zero xs ys
    simp only [cmpB, List.cons.injEq]
    split
    · constructor
      · intro h; omega
      · rintro ⟨h, _⟩; omega
    · split
      · constructor
        · intro h; omega
        · rintro ⟨h, _⟩; omega
      · rw [ih]; constructor
        · intro h; exact ⟨by omega, h⟩
        · exact fun h => h.2
theorem cmpB_neg : ∀ a b, cmpB b a = - cmpB a b
  | [], [] => by simp [cmpB]
  | [], _ :: _ => by simp [cmpB]
  | _ :: _, [] => by simp [cmpB]
  | x :: xs, y :: ys => by
    have ih := cmpB_neg xs ys
    simp only [cmpB]
    split <;> split <;> first | omega | (split <;> omega) | exact ih
theorem signF_zero (f g : Fd) : signF f g = 0 ↔ f = g := by
  obtain ⟨a, b⟩ := f
  obtain ⟨a', b'⟩ := g
  simp only [signF, Fd.mk.injEq]
  split
  · rw [cmpB_zero]; constructor
    · intro h; exact ⟨by assumption, h⟩
    · exact fun h => h.2
  · split
    · constructor
      · intro h; omega
      · rintro ⟨h, _⟩; omega
    · constructor
      · intro h; omega
      · rintro ⟨h, _⟩; omega
theorem signF_neg (f g : Fd) : signF g f = - signF f g := by
  simp only [signF]
  by_cases h : f.tag = g.tag
  · rw [if_pos h, if_pos h.symm]; exact cmpB_neg _ _
  · rw [if_neg h, if_neg (Ne.symm h)]; split <;> split <;> omega
theorem cmpBag_zero : ∀ a b, cmpBag a b = 0 ↔ a = b
  | [], [] => by simp [cmpBag]
  | [], _ :: _ => by simp [cmpBag]
  | _ :: _, [] => by simp [cmpBag]
  | f :: a, g :: b => by
    have ih := cmpBag_zero a b
    simp only [cmpBag, List.cons.injEq]
    have hs := signF_zero f g
    split
    · rw [ih]; constructor
      · intro h; exact ⟨hs.1 (by assumption), h⟩
      · exact fun h => h.2
    · constructor
      · intro h; contradiction
      · rintro ⟨h, _⟩; exact absurd (hs.2 h) (by assumption)
theorem cmpBag_neg : ∀ a b, cmpBag b a = - cmpBag a b
  | [], [] => by simp [cmpBag]
  | [], _ :: _ => by simp [cmpBag]
  | _ :: _, [] => by simp [cmpBag]
  | f :: a, g :: b => by
    have ih := cmpBag_neg a b
    have hs := signF_neg f g
    simp only [cmpBag]
    split <;> split <;> omega
end Go.Proofs.Ytgedefcjngofkaa

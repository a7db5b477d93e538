/- Plain: draws and shuffles of integers. -/
import Derived.Test.YtgipbhfblmblcaaAmB
set_option linter.unusedVariables false
namespace Go.Proofs.Ytgipbhfblmblcaa
open Go.Proofs.Ytgipbhfblmblcaa.AM
def encI (l : List Int) : AV := .imm (l.map (.int .i64))
@[simp] theorem constAV_int (k : Go.IntKind) (n : Int) : constAV (.int k n) = .int k n := rfl
@[simp] theorem constAV_bool (b : Bool) : constAV (.bool b) = .bool b := rfl
@[simp] theorem constAV_str (s : ByteArray) : constAV (.string s) = .str s := rfl
def I64 (x : Int) : Prop := -9223372036854775808 ≤ x ∧ x ≤ 9223372036854775807
theorem map_get {α β : Type} {f : α → β} {l : List α} {i : Nat} {x : α} (h : l[i]? = some x) : (l.map f)[i]? = some (f x) := by simp [h]
theorem get_some {α : Type} {l : List α} {k : Nat} (h : k < l.length) : ∃ x, l[k]? = some x := ⟨l[k], List.getElem?_eq_getElem h⟩
theorem mem_get {α : Type} {l : List α} {k : Nat} {x : α} (h : l[k]? = some x) : x ∈ l := List.mem_of_getElem? h
def U8 (x : Int) : Prop := 0 ≤ x ∧ x ≤ 255
def lowI (x n : Int) : Int := if x.tmod n < 0 then x.tmod n + n else x.tmod n
def dNext (ds : List Int) (n : Int) : Int := if n < 1 then 0 else lowI (ds.headD 0) n
def dRest (ds : List Int) (n : Int) : List Int := if n < 1 then ds else ds.tail
def swp (l : List Int) (i k : Nat) : List Int := (l.set i (l.getD k 0)).set k (l.getD i 0)
theorem sub_set' {H G : AHeap} {r : Nat} {x : ARow} (h : H.sub G) (hr : H r = none) : H.sub (G.set r x) := fun b y hb => by
  have : b ≠ r := fun e => by subst e; rw [hr] at hb; cases hb
  rw [AHeap.get_set_ne _ _ this]; exact h b y hb
theorem setAll_append (G : AHeap) : ∀ e f : List (Nat × ARow), setAll G (e ++ f) = setAll (setAll G f) e
  | [], f => rfl
  | (r, x) :: e, f => by simp only [List.cons_append, setAll, setAll_append G e f]
def shuf : Nat → List Int → List Int → List Int × List Int
  | 0, out, ds => (out, ds)
  | i + 1, out, ds => shuf i (swp out (i + 1) (lowI (ds.headD 0) ((i : Int) + 2)).toNat) ds.tail
def shuffled (l ds : List Int) : List Int := (shuf (l.length - 1) l ds).1
def shufRest (l ds : List Int) : List Int := (shuf (l.length - 1) l ds).2
theorem drop_cons {α : Type} {l : List α} {k : Nat} {x : α} (h : l[k]? = some x) : l.drop k = x :: l.drop (k + 1) := by
  have hk : k < l.length := by
    rcases Nat.lt_or_ge k l.length with h' | h'
    · exact h'
    · rw [List.getElem?_eq_none h'] at h; cases h
  rw [List.drop_eq_getElem_cons hk]
  rw [List.getElem?_eq_getElem hk] at h; cases h; rfl
def someI (l ds : List Int) (k : Int) : List Int := if k < 1 then [] else (shuffled l ds).take (min k.toNat l.length)
def someRest (l ds : List Int) (k : Int) : List Int := if k < 1 then ds else shufRest l ds
end Go.Proofs.Ytgipbhfblmblcaa

/- Plain: the ids of all others. -/
import Derived.Test.YtgipbhfblmblcaaPMember3
set_option linter.unusedVariables false
namespace Go.Proofs.Ytgipbhfblmblcaa
open Go.Proofs.Ytgipbhfblmblcaa.AM
def eqI (v : Int) (x : Int) : Bool := decide (v = x)
def othP (me : Int) (ss : List Int) (r : Rc) : Bool := decide (r.id ≠ me) && (decide (ss.length = 0) || ss.any (eqI r.st))
def othQ (me : Int) (l : List Rc) (ss : List Int) : List Int := (l.filter (othP me ss)).map (·.id)
def othR (me s : Int) (r : Rc) : Bool := decide (r.id ≠ me) && (decide (s < 0) || decide (r.st = s))
def othT (me : Int) (l : List Rc) (s : Int) : List Int := (l.filter (othR me s)).map (·.id)
theorem oth_all (me : Int) (l : List Rc) : othQ me l [] = othT me l (-1) := by
  unfold othQ othT
  congr 1
theorem oth_one {me s : Int} (l : List Rc) (h : ¬ s < 0) : othQ me l [s] = othT me l s := by
  unfold othQ othT
  congr 1
  refine List.filter_congr fun r _ => ?_
  simp [othP, othR, eqI, h]
theorem oth_len {p : Rc → Bool} {l : List Rc} {k : Nat} : (((l.take k).filter p).map (·.id)).length ≤ k := by
  rw [List.length_map]
  have := List.length_filter_le p (l.take k)
  rw [List.length_take] at this; omega
theorem oth_len2 {p : Rc → Bool} {l : List Rc} {k : Nat} : ((l.take k).filter p).length ≤ k := by
  have := List.length_filter_le p (l.take k)
  rw [List.length_take] at this; omega
end Go.Proofs.Ytgipbhfblmblcaa

/- slices.Sort at integers, as it lies in this program, is the library's: the table of numbers, and what its contract asks of the program's tables; and the contract over it. -/
import Derived.Test.YtgipbhfblmblcaaFacts
import Derived.Test.YtgipbhfblmblcaaAmB
import Derived.Test.YtgipbhfblmblcaaPDice
set_option maxRecDepth 100000
namespace Go.Proofs.Ytgipbhfblmblcaa
open Go Go.Proofs.Ytgipbhfblmblcaa.AM
def sortRen : Go.Shelf.Ren where
  f := fun x => match x with
    | 189 => 54
    | 125 => 83
    | 257 => 82
    | 128 => 110
    | 129 => 111
    | 294 => 101
    | 295 => 102
    | 296 => 103
    | 297 => 104
    | 298 => 105
    | 299 => 106
    | 216 => 107
    | 300 => 108
    | 301 => 109
    | 328 => 115
    | 329 => 116
    | 330 => 117
    | 331 => 118
    | 332 => 119
    | 215 => 120
    | 343 => 122
    | n => n
  t := fun x => match x with
    | 28 => 71
    | 3 => 3
    | 46 => 135
    | 0 => 0
    | 51 => 154
    | 53 => 156
    | 4 => 4
    | 183 => 147
    | 182 => 146
    | 131 => 151
    | 5 => 5
    | 9 => 9
    | 218 => 158
    | 222 => 162
    | 228 => 165
    | 229 => 166
    | n => n
  g := fun x => x
theorem sortLay : Go.Proofs.Lays.n189 Try.prog sortRen where
  mixed := by kernel_rfl
  f125 := by kernel_rfl
  f128 := by kernel_rfl
  f129 := by kernel_rfl
  f189 := by kernel_rfl
  f215 := by kernel_rfl
  f216 := by kernel_rfl
  f257 := by kernel_rfl
  f294 := by kernel_rfl
  f295 := by kernel_rfl
  f296 := by kernel_rfl
  f297 := by kernel_rfl
  f298 := by kernel_rfl
  f299 := by kernel_rfl
  f300 := by kernel_rfl
  f301 := by kernel_rfl
  f328 := by kernel_rfl
  f329 := by kernel_rfl
  f330 := by kernel_rfl
  f331 := by kernel_rfl
  f332 := by kernel_rfl
  f343 := by kernel_rfl
  t0 := by kernel_rfl
  a0 := fun w => by kernel_rfl
  z0 := fun w => by kernel_rfl
  v0 := fun w => by kernel_rfl
  t3 := by kernel_rfl
  a3 := fun w => by kernel_rfl
  z3 := fun w => by kernel_rfl
  v3 := fun w => by kernel_rfl
  t4 := by kernel_rfl
  a4 := fun w => by kernel_rfl
  z4 := fun w => by kernel_rfl
  v4 := fun w => by kernel_rfl
  t5 := by kernel_rfl
  a5 := fun w => by kernel_rfl
  z5 := fun w => by kernel_rfl
  v5 := fun w => by kernel_rfl
  t9 := by kernel_rfl
  a9 := fun w => by kernel_rfl
  z9 := fun w => by kernel_rfl
  v9 := fun w => by kernel_rfl
  t28 := by kernel_rfl
  a28 := fun w => by kernel_rfl
  z28 := fun w => by kernel_rfl
  v28 := fun w => by kernel_rfl
  t46 := by kernel_rfl
  a46 := fun w => by kernel_rfl
  z46 := fun w => by kernel_rfl
  v46 := fun w => by kernel_rfl
  t51 := by kernel_rfl
  a51 := fun w => by kernel_rfl
  z51 := fun w => by kernel_rfl
  v51 := fun w => by kernel_rfl
  t53 := by kernel_rfl
  a53 := fun w => by kernel_rfl
  z53 := fun w => by kernel_rfl
  v53 := fun w => by kernel_rfl
  t131 := by kernel_rfl
  a131 := fun w => by kernel_rfl
  z131 := fun w => by kernel_rfl
  v131 := fun w => by kernel_rfl
  t182 := by kernel_rfl
  a182 := fun w => by kernel_rfl
  z182 := fun w => by kernel_rfl
  v182 := fun w => by kernel_rfl
  t183 := by kernel_rfl
  a183 := fun w => by kernel_rfl
  z183 := fun w => by kernel_rfl
  v183 := fun w => by kernel_rfl
  t218 := by kernel_rfl
  a218 := fun w => by kernel_rfl
  z218 := fun w => by kernel_rfl
  v218 := fun w => by kernel_rfl
  t222 := by kernel_rfl
  a222 := fun w => by kernel_rfl
  z222 := fun w => by kernel_rfl
  v222 := fun w => by kernel_rfl
  t228 := by kernel_rfl
  a228 := fun w => by kernel_rfl
  z228 := fun w => by kernel_rfl
  v228 := fun w => by kernel_rfl
  t229 := by kernel_rfl
  a229 := fun w => by kernel_rfl
  z229 := fun w => by kernel_rfl
  v229 := fun w => by kernel_rfl
theorem sortInts_ok (r : Nat) (l : List Int) (G : AHeap) (hG : G r = some (.row 1 (l.map (.int .i64)))) (hl : l.length ≤ 1000000) : LCalls Try.prog 54 [.own r 1 0 l.length] G (· = r) (fun n v effs => v = .tup [] ∧ effs = [(r, .row 1 ((l.mergeSort fun x y => decide (x ≤ y)).map (.int .i64)))]) := sort_calls sortLay fi54 r l hG hl
end Go.Proofs.Ytgipbhfblmblcaa

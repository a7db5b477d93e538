/- Plain: what is left of a row when a part of it is cut out. -/
import Derived.Test.YtobigfbgaiglkaaPIns
import Derived.Test.YtobigfbgaiglkaaAmD
set_option linter.unusedVariables false
namespace Go.Proofs.Ytobigfbgaiglkaa
open Go.Proofs.Ytobigfbgaiglkaa.AM
section
variable {α : Type}
theorem del_a (enc : α → AV) (l : List α) {i j : Nat} (hij : i ≤ j) (hj : j ≤ l.length) :
    (l.map enc).take (0 + 0 + (i - 0)) ++ (l.drop j).map enc ++ (l.map enc).drop (0 + 0 + (i - 0) + ((l.drop j).map enc).length) = (l.take i ++ l.drop j).map enc ++ (l.drop (i + (l.length - j))).map enc := by
  rw [List.map_append, List.map_take, List.map_drop (i := i + (l.length - j)), List.length_map, List.length_drop]
  simp
theorem del_b (enc : α → AV) (z : AV) (l : List α) {i j : Nat} (hij : i ≤ j) (hj : j ≤ l.length) :
    ((l.take i ++ l.drop j).map enc ++ (l.drop (i + (l.length - j))).map enc).take (0 + 0 + (i + (l.length - j))) ++ List.replicate (l.length - (i + (l.length - j))) z ++ ((l.take i ++ l.drop j).map enc ++ (l.drop (i + (l.length - j))).map enc).drop (0 + 0 + (i + (l.length - j)) + (l.length - (i + (l.length - j)))) = (l.take i ++ l.drop j).map enc ++ List.replicate (j - i) z := by
  have h1 : ((l.take i ++ l.drop j).map enc).length = i + (l.length - j) := by simp; omega
  have h2 : l.length - (i + (l.length - j)) = j - i := by omega
  rw [Nat.zero_add, List.take_append_of_le_length (by omega), List.take_of_length_le (l := (l.take i ++ l.drop j).map enc) (by omega), h2, List.drop_of_length_le (l := (l.take i ++ l.drop j).map enc ++ (l.drop (i + (l.length - j))).map enc) (by rw [List.length_append, h1, List.length_map, List.length_drop]; omega), List.append_nil]
end
end Go.Proofs.Ytobigfbgaiglkaa

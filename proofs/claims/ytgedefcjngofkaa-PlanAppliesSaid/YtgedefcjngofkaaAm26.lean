/- The abstract machine, part 26: pointers to a slice's first element, or to nothing. -/
import Derived.Test.YtgedefcjngofkaaAm25
set_option linter.unusedVariables false
set_option linter.unusedSimpArgs false
namespace Go.Proofs.Ytgedefcjngofkaa.AM
open Go
def ptrO (b : AV) : Bool → AV
  | true => .elp b 0 0
  | false => .nilp
section
variable {md : Bool} {P : Program} {c : Ctx} {env B : Env} {L : LPtr} {G : AHeap} {dst : Option Tmp} {ty : TypeId} {pos : String} {af : Array Edge} {gd : Option (Nat × Bool)} {T T' E : TypeId} {s b' : Nat} {z : Option Value} {x y : Operand} {b : AV} {o : Bool}
theorem v_ptrO_neq (hT : TyI P T (.pointer E) s z b') (hx : ev env L x = some (ptrO b o)) (hy : ev env L y = some .nilp) : ValLM md P c ⟨dst, .binOp .neq T x y T', ty, pos, af, gd⟩ env L B G (.bool o) := by
  cases o
  · exact v_nil_neq_nil hT hx hy
  · exact v_ptr_neq_nil hT hx rfl hy
theorem v_ptrO_eql (hT : TyI P T (.pointer E) s z b') (hx : ev env L x = some (ptrO b o)) (hy : ev env L y = some .nilp) : ValLM md P c ⟨dst, .binOp .eql T x y T', ty, pos, af, gd⟩ env L B G (.bool (!o)) := by
  cases o
  · exact v_nil_eql_nil hT hx hy
  · exact v_ptr_eql_nil hT hx rfl hy
end
end Go.Proofs.Ytgedefcjngofkaa.AM

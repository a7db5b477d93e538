/- The abstract machine, part 25: shifts and bits. -/
import Derived.Test.YtgedefcjngofkaaAm24
set_option linter.unusedVariables false
set_option linter.unusedSimpArgs false
namespace Go.Proofs.Ytgedefcjngofkaa.AM
open Go
section
variable {md : Bool} {P : Program} {c : Ctx} {env B : Env} {L : LPtr} {G : AHeap} {dst : Option Tmp} {ty : TypeId} {pos : String} {af : Array Edge} {gd : Option (Nat × Bool)} {T T' : TypeId} {x y : Operand} {k k' : IntKind} {m n : Int}
theorem v_shr (hx : ev env L x = some (.int k m)) (hy : ev env L y = some (.int k' n)) (h : 0 ≤ n) : ValLM md P c ⟨dst, .binOp .shr T x y T', ty, pos, af, gd⟩ env L B G (.int k (m.fdiv (2 ^ (min n.toNat k.bits)))) := fun ρ hρ =>
  val_int (ev_full hx) (ev_full hy) fun w => ⟨_, .int .., fun w' => by simp [binOp, Op.shift, Int.not_lt.2 h]⟩
theorem v_and (hx : ev env L x = some (.int k m)) (hy : ev env L y = some (.int k n)) : ValLM md P c ⟨dst, .binOp .and T x y T', ty, pos, af, gd⟩ env L B G (.int k (k.wrap (BitVec.ofInt k.bits m &&& BitVec.ofInt k.bits n).toNat)) := fun ρ hρ =>
  val_int (ev_full hx) (ev_full hy) fun w => ⟨_, .int .., fun w' => by simp [binOp, Op.intBits]⟩
end
end Go.Proofs.Ytgedefcjngofkaa.AM

/- The abstract machine, part 19: arrays built; slices whose room is known. -/
import Derived.Test.YtgedefcjngofkaaAm18
set_option linter.unusedVariables false
set_option linter.unusedSimpArgs false
namespace Go.Proofs.Ytgedefcjngofkaa.AM
open Go
section
variable {md : Bool} {P : Program} {c : Ctx} {env : Env} {G : AHeap} {dst : Option Tmp} {ty : TypeId} {pos : String} {af : Array Edge} {gd : Option (Nat × Bool)} {Q : Exit → Act → World → Prop} {K : Act → World → Prop}
theorem val_build_arr {T E n : Nat} {de : TypeDesc} {sz b' szE byE : Nat} {zE : Option Value} {zv : Value} {parts : Array (Nat × Operand)} {vs : List (Nat × AV)} {zs cells : List AV}
    (hT : TyI P T (.array n E) sz (some zv) b') (hE : TyI P E de szE zE byE) (hz : zAV zv = .agg zs) (hvs : parts.toList.mapM (fun x => (aeval env x.2).map fun v => (x.1, v)) = some vs)
    (hf : afill (fun i => some (i * szE, szE)) zs vs = some cells) : ValM md P c ⟨dst, .build T parts, ty, pos, af, gd⟩ env G (.agg cells) := fun a w hs => by
  obtain ⟨h1, h2⟩ := eval_list hs _ _ hvs
  have hzr := zAV_rep G w zv
  rw [hz] at hzr
  have hzc := hzr.cells' rfl
  obtain ⟨vo, h3, h4⟩ := afill_rep (fun i => some (i * szE, szE)) vs _ zs cells zv.cells h1 h2 hzc hf
  refine ⟨.agg vo, by have := Rep.agg cells vo.toList h4.1 h4.2; simpa using this, fun w' _ => ?_⟩
  simp only [execOp, Instr.build, Sem.run_bind, hT.run_zero, Result.andThen_ok, hT.run_und, hE.run_size]
  have e : (parts.map fun x => (x.1, a.eval x.2)).toList = parts.toList.map fun x => (x.1, a.eval x.2) := by simp
  simp only [e, h3]
  rfl
end
section
variable {md : Bool} {P : Program} {c : Ctx} {env B : Env} {L : LPtr} {G : AHeap} {dst : Option Tmp} {ty : TypeId} {pos : String} {af : Array Edge} {gd : Option (Nat × Bool)} {Q : Exit → Act → World → Prop} {K : Act → World → Prop}
theorem v_build_arr {T E n : Nat} {de : TypeDesc} {sz b' szE byE : Nat} {zE : Option Value} {zv : Value} {parts : Array (Nat × Operand)} {vs : List (Nat × AV)} {zs cells : List AV}
    (hT : TyI P T (.array n E) sz (some zv) b') (hE : TyI P E de szE zE byE) (hz : zAV zv = .agg zs) (hvs : parts.toList.mapM (fun x => (ev env L x.2).map fun v => (x.1, v)) = some vs)
    (hf : afill (fun i => some (i * szE, szE)) zs vs = some cells) : ValLM md P c ⟨dst, .build T parts, ty, pos, af, gd⟩ env L B G (.agg cells) := fun ρ hρ => val_build_arr hT hE hz (evp_full hvs) hf
theorem bytes_beq (m n : ByteArray) : (m.toList == n.toList) = decide (m = n) := by
  have : m.toList = n.toList ↔ m = n := by
    rw [ByteArray.toList_eq, ByteArray.toList_eq]
    constructor
    · intro h; cases m; cases n; simp at h; simp [h]
    · intro h; rw [h]
  by_cases h : m = n
  · subst h; simp
  · simp [h, this]
theorem v_seq {T T' : TypeId} {x y : Operand} {m n : ByteArray} (hx : ev env L x = some (.str m)) (hy : ev env L y = some (.str n)) : ValLM md P c ⟨dst, .binOp .eql T x y T', ty, pos, af, gd⟩ env L B G (.bool (decide (m = n))) := by
  rw [← bytes_beq]; exact v_str_eql hx hy
theorem v_sne {T T' : TypeId} {x y : Operand} {m n : ByteArray} (hx : ev env L x = some (.str m)) (hy : ev env L y = some (.str n)) : ValLM md P c ⟨dst, .binOp .neq T x y T', ty, pos, af, gd⟩ env L B G (.bool (!decide (m = n))) := by
  rw [← bytes_beq]; exact v_str_neq hx hy
end
end Go.Proofs.Ytgedefcjngofkaa.AM

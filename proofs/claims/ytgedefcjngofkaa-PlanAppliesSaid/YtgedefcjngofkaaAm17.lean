/- The abstract machine, part 17: parts of values, equality of structs of integers, copy. -/
import Derived.Test.YtgedefcjngofkaaAm16
import Derived.Laws.StructEq
set_option linter.unusedVariables false
set_option linter.unusedSimpArgs false
namespace Go.Proofs.Ytgedefcjngofkaa.AM
open Go

/-- A struct whose fields are all integers. -/
def intFields (P : Program) (T : TypeId) : Bool := match P.underlying T with
  | some (.struct fs) => ((List.range fs.toList.length).all fun i => match fs.toList[i]? with
      | some f => f.offset == i && f.name != "_" && (match P.underlying f.type with
        | some (.int _) => true
        | _ => false)
      | none => false) && !P.stoodInHeld T && !P.eqGuardType P.depth T
  | _ => false

section
variable {md : Bool} {P : Program} {c : Ctx} {env : Env} {G : AHeap} {dst : Option Tmp} {ty : TypeId} {pos : String} {af : Array Edge} {gd : Option (Nat × Bool)} {Q : Exit → Act → World → Prop} {K : Act → World → Prop}

theorem rep_ints {w : World} {k : IntKind} {l : List Int} {v : Value} (h : Rep G w (.agg (l.map (.int k))) v) : ∃ xs : Array Value, v = .agg xs ∧ xs.toList = l.map (.int k) := by
  cases h with
  | agg cs vs hl hr =>
    refine ⟨vs.toArray, rfl, ?_⟩
    refine List.ext_getElem (by simpa using hl.symm) fun i h1 h2 => ?_
    have := hr i (by simpa using h2) (by simpa using h1)
    simp only [List.getElem_map] at this
    simp only [List.getElem_map]
    generalize hx : vs[i]'(by simpa using h1) = x at this
    cases this
    simp [hx]
theorem eqFields_ints {d : Nat} {k : IntKind} {xs ys : Array Value} {l m : List Int} (hx : xs.toList = l.map (.int k)) (hy : ys.toList = m.map (.int k)) (w : World) : ∀ (fs : List Field) (i : Nat),
    (∀ j f, fs[j]? = some f → f.offset = i + j ∧ f.name ≠ "_" ∧ ∃ k', P.underlying f.type = some (.int k')) → i + fs.length = l.length → l.length = m.length →
    (Op.eqFields (d + 1) xs ys fs).run P w = .ok (decide (l.drop i = m.drop i)) w
  | [], i, _, h1, h2 => by
    simp only [List.length_nil, Nat.add_zero] at h1
    have e1 : l.drop i = [] := List.drop_of_length_le (by omega)
    have e2 : m.drop i = [] := List.drop_of_length_le (by omega)
    simp [Op.eqFields, e1, e2]
  | f :: fs, i, h, h1, h2 => by
    obtain ⟨g1, g2, k', g3⟩ := h 0 f rfl
    simp only [Nat.add_zero] at g1
    have hil : i < l.length := by simp at h1; omega
    have him : i < m.length := by omega
    have hpx : (part f.type xs f.offset).run P w = .ok (.int k l[i]) w := by
      have : xs[f.offset]? = some (.int k l[i]) := by rw [← Array.getElem?_toList, hx, g1]; simp [hil]
      simp [part, isAgg, run_underlying g3, this]
    have hpy : (part f.type ys f.offset).run P w = .ok (.int k m[i]) w := by
      have : ys[f.offset]? = some (.int k m[i]) := by rw [← Array.getElem?_toList, hy, g1]; simp [him]
      simp [part, isAgg, run_underlying g3, this]
    have ih := eqFields_ints (d := d) hx hy w fs (i + 1) (fun j f hf => by have := h (j + 1) f (by simpa using hf); simpa [Nat.add_assoc, Nat.add_comm 1 j] using this) (by simp at h1; omega) h2
    simp only [Op.eqFields]
    rw [if_pos g2]
    simp only [Sem.run_bind, hpx, hpy, Result.andThen_ok, run_equalIn_int w d f.type k k' _ _ g3]
    have e0 : (l.drop i = m.drop i) ↔ (l[i] = m[i] ∧ l.drop (i + 1) = m.drop (i + 1)) := by
      rw [List.drop_eq_getElem_cons hil, List.drop_eq_getElem_cons him]; exact List.cons_eq_cons
    by_cases he : l[i] = m[i]
    · have hb : (l[i] == m[i]) = true := by simpa using he
      have hd : decide (l.drop i = m.drop i) = decide (l.drop (i + 1) = m.drop (i + 1)) := decide_eq_decide.2 (by rw [e0]; exact ⟨fun h => h.2, fun h => ⟨he, h⟩⟩)
      rw [hd]
      simp only [hb, Bool.not_true, Bool.false_eq_true, if_false]
      exact ih
    · have hb : (l[i] == m[i]) = false := by simpa using he
      rw [decide_eq_false (fun h => he (e0.1 h).1)]
      simp only [hb, Bool.not_false, if_true, Sem.run_pure]
theorem equal_ints {T s b' : Nat} {z : Option Value} {fs : Array Field} {k : IntKind} {l m : List Int} {xs ys : Array Value} (hT : TyI P T (.struct fs) s z b') (hst : intFields P T = true) (hx : xs.toList = l.map (.int k)) (hy : ys.toList = m.map (.int k))
    (h1 : fs.toList.length = l.length) (h2 : l.length = m.length) (w : World) : (Op.equal T (.agg xs) (.agg ys)).run P w = .ok (decide (l = m)) w := by
  unfold intFields at hst
  rw [hT.und] at hst
  simp only [Bool.and_eq_true, List.all_eq_true, List.mem_range, Bool.not_eq_true'] at hst
  have hf : P.fieldsOf T = fs := by simp [Program.fieldsOf, hT.und]
  have := run_equalIn_struct w 9999 T xs ys (by rw [hf]; exact hT.und) hst.1.2
  have e : Op.equal T (.agg xs) (.agg ys) = Op.equalIn (9999 + 1) T (.agg xs) (.agg ys) := rfl
  rw [e, this, hf]
  have h3 := eqFields_ints (P := P) (d := 9998) hx hy w fs.toList 0 (fun j f hj => ?_) (by omega) h2
  · simpa using h3
  · have hlt : j < fs.toList.length := by
      rcases Nat.lt_or_ge j fs.toList.length with h' | h'
      · exact h'
      · rw [List.getElem?_eq_none h'] at hj; cases hj
    have h4 := hst.1.1 j hlt
    rw [hj] at h4
    simp only [Bool.and_eq_true, beq_iff_eq, bne_iff_ne] at h4
    refine ⟨by omega, h4.1.2, ?_⟩
    have h5 := h4.2
    split at h5
    · rename_i k' hk; exact ⟨k', hk⟩
    · cases h5
theorem eqGuard_ints {T s b' : Nat} {z : Option Value} {fs : Array Field} {op : BinOp} {x y : Operand} {xs ys : Array Value} (hT : TyI P T (.struct fs) s z b') (hst : intFields P T = true) (w : World) : (eqGuard op T x y (.agg xs) (.agg ys)).run P w = .ok () w := by
  unfold intFields at hst
  rw [hT.und] at hst
  simp only [Bool.and_eq_true, Bool.not_eq_true'] at hst
  unfold eqGuard
  cases op <;> simp [hst.2]
theorem val_st_eql {T T' : TypeId} {s b' : Nat} {z : Option Value} {fs : Array Field} {k : IntKind} {l m : List Int} {x y : Operand} {a b : AV} (hT : TyI P T (.struct fs) s z b') (hst : intFields P T = true) (hx : aeval env x = some a) (hy : aeval env y = some b)
    (ha : a = .agg (l.map (.int k))) (hb : b = .agg (m.map (.int k))) (h1 : fs.toList.length = l.length) (h2 : l.length = m.length) : ValM md P c ⟨dst, .binOp .eql T x y T', ty, pos, af, gd⟩ env G (.bool (decide (l = m))) := fun u w hs => by
  subst ha hb
  obtain ⟨xs, e1, e2⟩ := rep_ints (hs.eval hx)
  obtain ⟨ys, e3, e4⟩ := rep_ints (hs.eval hy)
  refine ⟨_, .bool _, fun w' _ => ?_⟩
  have e : binOp .eql T (.agg xs) (.agg ys) = (do pure (.bool (← Op.equal T (.agg xs) (.agg ys)))) := rfl
  simp only [execOp, e1, e3, Sem.run_bind, eqGuard_ints hT hst, Result.andThen_ok, e, equal_ints hT hst e2 e4 h1 h2, Sem.run_pure]
theorem val_st_neq {T T' : TypeId} {s b' : Nat} {z : Option Value} {fs : Array Field} {k : IntKind} {l m : List Int} {x y : Operand} {a b : AV} (hT : TyI P T (.struct fs) s z b') (hst : intFields P T = true) (hx : aeval env x = some a) (hy : aeval env y = some b)
    (ha : a = .agg (l.map (.int k))) (hb : b = .agg (m.map (.int k))) (h1 : fs.toList.length = l.length) (h2 : l.length = m.length) : ValM md P c ⟨dst, .binOp .neq T x y T', ty, pos, af, gd⟩ env G (.bool (!decide (l = m))) := fun u w hs => by
  subst ha hb
  obtain ⟨xs, e1, e2⟩ := rep_ints (hs.eval hx)
  obtain ⟨ys, e3, e4⟩ := rep_ints (hs.eval hy)
  refine ⟨_, .bool _, fun w' _ => ?_⟩
  have e : binOp .neq T (.agg xs) (.agg ys) = (do pure (.bool (!(← Op.equal T (.agg xs) (.agg ys))))) := rfl
  simp only [execOp, e1, e3, Sem.run_bind, eqGuard_ints hT hst, Result.andThen_ok, e, equal_ints hT hst e2 e4 h1 h2, Sem.run_pure]

/-- A part of an aggregate. -/
theorem run_part_one {T : TypeId} {d : TypeDesc} {sz b' off : Nat} {z : Option Value} {l : List AV} {a : AV} {w : World} {v : Value} (hT : TyI P T d sz z b') (hd : aggDesc d = false) (h : Rep G w (.agg l) v) (hc : l[off]? = some a) :
    ∃ xs u, v = .agg xs ∧ Rep G w a u ∧ ∀ w', (part T xs off).run P w' = .ok u w' := by
  cases h with
  | agg _ vs hl hr =>
    have hlt : off < l.length := by
      rcases Nat.lt_or_ge off l.length with h' | h'
      · exact h'
      · rw [List.getElem?_eq_none h'] at hc; cases hc
    have hlv : off < vs.length := by omega
    have e : l[off] = a := by rw [List.getElem?_eq_getElem hlt] at hc; exact Option.some.inj hc
    refine ⟨vs.toArray, vs[off], rfl, by rw [← e]; exact hr off hlt hlv, fun w' => ?_⟩
    simp [part, hT.run_isAgg, hd, hlv]
theorem run_part_agg {T : TypeId} {d : TypeDesc} {sz b' off : Nat} {z : Option Value} {l : List AV} {w : World} {v : Value} (hT : TyI P T d sz z b') (hd : aggDesc d = true) (h : Rep G w (.agg l) v) :
    ∃ xs u, v = .agg xs ∧ Rep G w (.agg ((l.drop off).take sz)) u ∧ ∀ w', (part T xs off).run P w' = .ok u w' := by
  cases h with
  | agg _ vs hl hr =>
    have hreps : Reps G w ((l.drop off).take sz) ((vs.drop off).take sz) := (Reps.drop ⟨hl, hr⟩ off).take sz
    refine ⟨vs.toArray, .agg ((vs.drop off).take sz).toArray, rfl, .agg _ _ hreps.1 hreps.2, fun w' => ?_⟩
    have e : vs.toArray.extract off (off + sz) = ((vs.drop off).take sz).toArray := by
      apply Array.ext'
      simp [List.extract_eq_take_drop]
    simp [part, hT.run_isAgg, hd, hT.run_size, e]
theorem val_index_arr {T E : TypeId} {d : TypeDesc} {n sz by_ s b' i : Nat} {z z' : Option Value} {x y : Operand} {l : List AV} {a : AV} {kd : IntKind} {m : Int} (hT : TyI P T (.array n E) s z' b') (hE : TyI P E d sz z by_) (hd : aggDesc d = false) (h1 : sz = 1)
    (hx : aeval env x = some (.agg l)) (hy : aeval env y = some (.int kd m)) (hm : m = (i : Int)) (hi : i < n) (hc : l[i]? = some a) : ValM md P c ⟨dst, .index T x y, ty, pos, af, gd⟩ env G a := fun u w hs => by
  subst h1 hm
  obtain ⟨xs, v, e1, e2, e3⟩ := run_part_one (off := i) hE hd (hs.eval hx) hc
  refine ⟨v, e2, fun w' _ => ?_⟩
  have h0 : (0 : Int) ≤ (i : Int) ∧ (i : Int) < (n : Int) := by omega
  simp only [execOp, e1, rep_int (hs.eval hy), Instr.index, asIntOf, Sem.run_bind, Sem.run_pure, Result.andThen_ok, hT.run_und]
  rw [if_pos h0]
  simp [hE.run_size, e3]
theorem val_index_arr_agg {T E : TypeId} {d : TypeDesc} {n sz by_ s b' i : Nat} {z z' : Option Value} {x y : Operand} {l : List AV} {kd : IntKind} {m : Int} (hT : TyI P T (.array n E) s z' b') (hE : TyI P E d sz z by_) (hd : aggDesc d = true)
    (hx : aeval env x = some (.agg l)) (hy : aeval env y = some (.int kd m)) (hm : m = (i : Int)) (hi : i < n) : ValM md P c ⟨dst, .index T x y, ty, pos, af, gd⟩ env G (.agg ((l.drop (i * sz)).take sz)) := fun u w hs => by
  subst hm
  obtain ⟨xs, v, e1, e2, e3⟩ := run_part_agg (off := i * sz) hE hd (hs.eval hx)
  refine ⟨v, e2, fun w' _ => ?_⟩
  have h0 : (0 : Int) ≤ (i : Int) ∧ (i : Int) < (n : Int) := by omega
  simp only [execOp, e1, rep_int (hs.eval hy), Instr.index, asIntOf, Sem.run_bind, Sem.run_pure, Result.andThen_ok, hT.run_und]
  rw [if_pos h0]
  simp [hE.run_size, e3]
theorem run_field {S f o FT : Nat} {fs : Array Go.Field} {s b' : Nat} {z' : Option Value} {xs : Array Value} (hS : TyI P S (.struct fs) s z' b') (hf : (fs[f]?).map (fun x => (x.offset, x.type)) = some (o, FT)) (w : World) :
    (Instr.field S (.agg xs) f).run P w = (part FT xs o).run P w := by
  cases hx : fs[f]? with
  | none => rw [hx] at hf; cases hf
  | some fld =>
    rw [hx] at hf
    simp only [Option.map_some, Option.some.injEq, Prod.mk.injEq] at hf
    obtain ⟨rfl, rfl⟩ := hf
    simp [Instr.field, hS.run_und, hx, asAgg]
theorem val_field {S f o FT : Nat} {fs : Array Go.Field} {d : TypeDesc} {sz by_ s b' : Nat} {z z' : Option Value} {x : Operand} {l : List AV} {a : AV} (hS : TyI P S (.struct fs) s z' b') (hf : (fs[f]?).map (fun x => (x.offset, x.type)) = some (o, FT)) (hF : TyI P FT d sz z by_) (hd : aggDesc d = false)
    (hx : aeval env x = some (.agg l)) (hc : l[o]? = some a) : ValM md P c ⟨dst, .field S x f, ty, pos, af, gd⟩ env G a := fun u w hs => by
  obtain ⟨xs, v, e1, e2, e3⟩ := run_part_one (off := o) hF hd (hs.eval hx) hc
  refine ⟨v, e2, fun w' _ => ?_⟩
  simp only [execOp, e1, Sem.run_bind, run_field hS hf, e3, Result.andThen_ok, Sem.run_pure]
theorem val_field_agg {S f o FT : Nat} {fs : Array Go.Field} {d : TypeDesc} {sz by_ s b' : Nat} {z z' : Option Value} {x : Operand} {l : List AV} (hS : TyI P S (.struct fs) s z' b') (hf : (fs[f]?).map (fun x => (x.offset, x.type)) = some (o, FT)) (hF : TyI P FT d sz z by_) (hd : aggDesc d = true)
    (hx : aeval env x = some (.agg l)) : ValM md P c ⟨dst, .field S x f, ty, pos, af, gd⟩ env G (.agg ((l.drop o).take sz)) := fun u w hs => by
  obtain ⟨xs, v, e1, e2, e3⟩ := run_part_agg (off := o) hF hd (hs.eval hx)
  refine ⟨v, e2, fun w' _ => ?_⟩
  simp only [execOp, e1, Sem.run_bind, run_field hS hf, e3, Result.andThen_ok, Sem.run_pure]
end

section
variable {md : Bool} {P : Program} {c : Ctx} {env B : Env} {L : LPtr} {G : AHeap} {dst : Option Tmp} {ty : TypeId} {pos : String} {af : Array Edge} {gd : Option (Nat × Bool)} {Q : Exit → Act → World → Prop} {K : Act → World → Prop}
theorem v_st_eql {T T' : TypeId} {s b' : Nat} {z : Option Value} {fs : Array Field} {k : IntKind} {l m : List Int} {x y : Operand} {a b : AV} (hT : TyI P T (.struct fs) s z b') (hst : intFields P T = true) (hx : ev env L x = some a) (hy : ev env L y = some b)
    (ha : a = .agg (l.map (.int k))) (hb : b = .agg (m.map (.int k))) (h1 : fs.toList.length = l.length) (h2 : l.length = m.length) : ValLM md P c ⟨dst, .binOp .eql T x y T', ty, pos, af, gd⟩ env L B G (.bool (decide (l = m))) := fun ρ hρ => val_st_eql hT hst (ev_full hx) (ev_full hy) ha hb h1 h2
theorem v_st_neq {T T' : TypeId} {s b' : Nat} {z : Option Value} {fs : Array Field} {k : IntKind} {l m : List Int} {x y : Operand} {a b : AV} (hT : TyI P T (.struct fs) s z b') (hst : intFields P T = true) (hx : ev env L x = some a) (hy : ev env L y = some b)
    (ha : a = .agg (l.map (.int k))) (hb : b = .agg (m.map (.int k))) (h1 : fs.toList.length = l.length) (h2 : l.length = m.length) : ValLM md P c ⟨dst, .binOp .neq T x y T', ty, pos, af, gd⟩ env L B G (.bool (!decide (l = m))) := fun ρ hρ => val_st_neq hT hst (ev_full hx) (ev_full hy) ha hb h1 h2
theorem v_index_arr {T E : TypeId} {d : TypeDesc} {n sz by_ s b' i : Nat} {z z' : Option Value} {x y : Operand} {l : List AV} {a : AV} {kd : IntKind} {m : Int} (hT : TyI P T (.array n E) s z' b') (hE : TyI P E d sz z by_) (hd : aggDesc d = false) (h1 : sz = 1)
    (hx : ev env L x = some (.agg l)) (hy : ev env L y = some (.int kd m)) (hm : m = (i : Int)) (hi : i < n) (hc : l[i]? = some a) : ValLM md P c ⟨dst, .index T x y, ty, pos, af, gd⟩ env L B G a := fun ρ hρ => val_index_arr hT hE hd h1 (ev_full hx) (ev_full hy) hm hi hc
theorem v_index_arr_agg {T E : TypeId} {d : TypeDesc} {n sz by_ s b' i : Nat} {z z' : Option Value} {x y : Operand} {l cs : List AV} {kd : IntKind} {m : Int} (hT : TyI P T (.array n E) s z' b') (hE : TyI P E d sz z by_) (hd : aggDesc d = true)
    (hx : ev env L x = some (.agg l)) (hy : ev env L y = some (.int kd m)) (hm : m = (i : Int)) (hi : i < n) (hc : (l.drop (i * sz)).take sz = cs) : ValLM md P c ⟨dst, .index T x y, ty, pos, af, gd⟩ env L B G (.agg cs) := fun ρ hρ => hc ▸ val_index_arr_agg hT hE hd (ev_full hx) (ev_full hy) hm hi
theorem v_field {S f o FT : Nat} {fs : Array Go.Field} {d : TypeDesc} {sz by_ s b' : Nat} {z z' : Option Value} {x : Operand} {l : List AV} {a : AV} (hS : TyI P S (.struct fs) s z' b') (hf : (fs[f]?).map (fun x => (x.offset, x.type)) = some (o, FT)) (hF : TyI P FT d sz z by_) (hd : aggDesc d = false)
    (hx : ev env L x = some (.agg l)) (hc : l[o]? = some a) : ValLM md P c ⟨dst, .field S x f, ty, pos, af, gd⟩ env L B G a := fun ρ hρ => val_field hS hf hF hd (ev_full hx) hc
theorem v_field_agg {S f o FT : Nat} {fs : Array Go.Field} {d : TypeDesc} {sz by_ s b' : Nat} {z z' : Option Value} {x : Operand} {l cs : List AV} (hS : TyI P S (.struct fs) s z' b') (hf : (fs[f]?).map (fun x => (x.offset, x.type)) = some (o, FT)) (hF : TyI P FT d sz z by_) (hd : aggDesc d = true)
    (hx : ev env L x = some (.agg l)) (hc : (l.drop o).take sz = cs) : ValLM md P c ⟨dst, .field S x f, ty, pos, af, gd⟩ env L B G (.agg cs) := fun ρ hρ => hc ▸ val_field_agg hS hf hF hd (ev_full hx)
end
end Go.Proofs.Ytgedefcjngofkaa.AM

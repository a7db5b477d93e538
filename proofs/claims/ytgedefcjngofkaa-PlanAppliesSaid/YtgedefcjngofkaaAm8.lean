/- The abstract machine, part 8: the operations, over a call's own variables. -/
import Derived.Test.YtgedefcjngofkaaAm7
set_option linter.unusedVariables false
set_option linter.unusedSimpArgs false
namespace Go.Proofs.Ytgedefcjngofkaa.AM
open Go

section
variable {md : Bool} {P : Program} {c : Ctx} {env B : Env} {L : LPtr} {G : AHeap} {dst : Option Tmp} {ty : TypeId} {pos : String} {af : Array Edge} {gd : Option (Nat × Bool)} {Q : Exit → Act → World → Prop} {K : Act → World → Prop}

theorem v_move {x : Operand} {av : AV} (hx : ev env L x = some av) : ValLM md P c ⟨dst, .move x, ty, pos, af, gd⟩ env L B G av := fun ρ hρ => val_move (ev_full hx)
theorem v_assign {x : Operand} {av : AV} (hx : ev env L x = some av) : ValLM md P c ⟨dst, .assign x, ty, pos, af, gd⟩ env L B G av := fun ρ hρ => val_assign (ev_full hx)
theorem v_pick_t {x y z : Operand} {av : AV} (hx : ev env L x = some (.bool true)) (hy : ev env L y = some av) : ValLM md P c ⟨dst, .pick x y z, ty, pos, af, gd⟩ env L B G av := fun ρ hρ => val_pick_t (ev_full hx) (ev_full hy)
theorem v_pick_f {x y z : Operand} {av : AV} (hx : ev env L x = some (.bool false)) (hz : ev env L z = some av) : ValLM md P c ⟨dst, .pick x y z, ty, pos, af, gd⟩ env L B G av := fun ρ hρ => val_pick_f (ev_full hx) (ev_full hz)

/-! reads through a pointer that is a value -/
theorem pcells_sub {H : AHeap} (h : G.sub H) {p : AV} {l : List AV} (hv : p.pcells G = some l) : p.pcells H = some l := by
  unfold AV.pcells at *
  split at hv
  · rename_i r off
    split at hv
    · rename_i v hr
      simp only [h _ _ hr]; exact hv
    · cases hv
  · rename_i b k off
    split at hv
    · rename_i l0 hl
      simp only [view_sub h hl]; exact hv
    · cases hv
  · cases hv
theorem v_load {T : TypeId} {d : TypeDesc} {sz by_ : Nat} {z : Option Value} {x : Operand} {b e av : AV} {k off : Nat} {l : List AV} (hT : TyI P T d sz z by_) (hd : aggDesc d = false) (hx : ev env L x = some (.elp b k off))
    (hv : b.view G = some l) (he : l[k]? = some e) (hc : e.cells[off]? = some av) : ValL P c ⟨dst, .load T x, ty, pos, af, gd⟩ env L B G av := fun ρ hρ => by
  have hlt : off < e.cells.length := by
    rcases Nat.lt_or_ge off e.cells.length with h | h
    · exact h
    · rw [List.getElem?_eq_none h] at hc; cases hc
  refine val_load hT hd (ev_full hx) (cs := e.cells.drop (off + 1)) ?_
  simp only [AV.pcells, view_sub (boxes_sub hρ) hv, he, Nat.le_of_lt hlt, if_true]
  rw [List.drop_eq_getElem_cons hlt]
  rw [List.getElem?_eq_getElem hlt] at hc
  rw [Option.some.inj hc]
theorem v_load_elt {T : TypeId} {d : TypeDesc} {sz by_ : Nat} {z : Option Value} {x : Operand} {b e : AV} {k : Nat} {l : List AV} (hT : TyI P T d sz z by_) (hd : aggDesc d = true) (hx : ev env L x = some (.elp b k 0))
    (hv : b.view G = some l) (he : l[k]? = some e) (ha : e.isAgg = true) (hl : e.cells.length = sz) : ValL P c ⟨dst, .load T x, ty, pos, af, gd⟩ env L B G e := fun ρ hρ =>
  val_load_elt hT hd (ev_full hx) (view_sub (boxes_sub hρ) hv) he ha hl
theorem v_load_part {T : TypeId} {d : TypeDesc} {sz by_ : Nat} {z : Option Value} {x : Operand} {b e : AV} {k off : Nat} {l cs : List AV} (hT : TyI P T d sz z by_) (hd : aggDesc d = true) (hx : ev env L x = some (.elp b k off))
    (hv : b.view G = some l) (he : l[k]? = some e) (hb : Nat.ble off e.cells.length = true) (hc : (e.cells.drop off).take sz = cs) (hl : cs.length = sz) : ValL P c ⟨dst, .load T x, ty, pos, af, gd⟩ env L B G (.agg cs) := fun ρ hρ =>
  val_load_agg hT hd (ev_full hx) (by simp only [AV.pcells, view_sub (boxes_sub hρ) hv, he, Nat.le_of_ble_eq_true hb, if_true]) hc hl
/-- A read of a listed variable. -/
theorem v_load_box {T : TypeId} {d : TypeDesc} {sz by_ : Nat} {z : Option Value} {x : Operand} {r off : Nat} {v av : AV} (hT : TyI P T d sz z by_) (hd : aggDesc d = false) (hx : ev env L x = some (.box r off))
    (hG : G r = some (.box v)) (hc : v.cells[off]? = some av) : ValL P c ⟨dst, .load T x, ty, pos, af, gd⟩ env L B G av := fun ρ hρ => by
  have hlt : off < v.cells.length := by
    rcases Nat.lt_or_ge off v.cells.length with h | h
    · exact h
    · rw [List.getElem?_eq_none h] at hc; cases hc
  refine val_load hT hd (ev_full hx) (cs := v.cells.drop (off + 1)) ?_
  simp only [AV.pcells, boxes_sub hρ _ _ hG, Nat.le_of_lt hlt, if_true]
  rw [List.drop_eq_getElem_cons hlt]
  rw [List.getElem?_eq_getElem hlt] at hc
  rw [Option.some.inj hc]
theorem v_load_box_all {T : TypeId} {d : TypeDesc} {sz by_ : Nat} {z : Option Value} {x : Operand} {r : Nat} {e : AV} (hT : TyI P T d sz z by_) (hd : aggDesc d = true) (hx : ev env L x = some (.box r 0))
    (hG : G r = some (.box e)) (ha : e.isAgg = true) (hl : e.cells.length = sz) : ValL P c ⟨dst, .load T x, ty, pos, af, gd⟩ env L B G e := fun ρ hρ => val_load_box hT hd (ev_full hx) (boxes_sub hρ _ _ hG) ha hl
theorem v_load_box_part {T : TypeId} {d : TypeDesc} {sz by_ : Nat} {z : Option Value} {x : Operand} {r off : Nat} {v : AV} {cs : List AV} (hT : TyI P T d sz z by_) (hd : aggDesc d = true) (hx : ev env L x = some (.box r off))
    (hG : G r = some (.box v)) (hb : Nat.ble off v.cells.length = true) (hc : (v.cells.drop off).take sz = cs) (hl : cs.length = sz) : ValL P c ⟨dst, .load T x, ty, pos, af, gd⟩ env L B G (.agg cs) := fun ρ hρ =>
  val_load_agg hT hd (ev_full hx) (by simp only [AV.pcells, boxes_sub hρ _ _ hG, Nat.le_of_ble_eq_true hb, if_true]) hc hl

/-! reads of a variable of the call's own -/
theorem v_loadl {T : TypeId} {d : TypeDesc} {sz by_ : Nat} {z : Option Value} {x : Operand} {s off : Nat} {v av : AV} (hT : TyI P T d sz z by_) (hd : aggDesc d = false) (hx : evl L x = some (s, off))
    (hB : B.get s = some v) (hc : v.cells[off]? = some av) : ValL P c ⟨dst, .load T x, ty, pos, af, gd⟩ env L B G av := fun ρ hρ => by
  have hlt : off < v.cells.length := by
    rcases Nat.lt_or_ge off v.cells.length with h | h
    · exact h
    · rw [List.getElem?_eq_none h] at hc; cases hc
  refine val_load hT hd (evl_full hx) (cs := v.cells.drop (off + 1)) ?_
  simp only [AV.pcells, boxes_get hρ hB, Nat.le_of_lt hlt, if_true]
  rw [List.drop_eq_getElem_cons hlt]
  rw [List.getElem?_eq_getElem hlt] at hc
  rw [Option.some.inj hc]
theorem v_loadl_all {T : TypeId} {d : TypeDesc} {sz by_ : Nat} {z : Option Value} {x : Operand} {s : Nat} {e : AV} (hT : TyI P T d sz z by_) (hd : aggDesc d = true) (hx : evl L x = some (s, 0))
    (hB : B.get s = some e) (ha : e.isAgg = true) (hl : e.cells.length = sz) : ValL P c ⟨dst, .load T x, ty, pos, af, gd⟩ env L B G e := fun ρ hρ => val_load_box hT hd (evl_full hx) (boxes_get hρ hB) ha hl
theorem v_loadl_part {T : TypeId} {d : TypeDesc} {sz by_ : Nat} {z : Option Value} {x : Operand} {s off : Nat} {v : AV} {cs : List AV} (hT : TyI P T d sz z by_) (hd : aggDesc d = true) (hx : evl L x = some (s, off))
    (hB : B.get s = some v) (hb : Nat.ble off v.cells.length = true) (hc : (v.cells.drop off).take sz = cs) (hl : cs.length = sz) : ValL P c ⟨dst, .load T x, ty, pos, af, gd⟩ env L B G (.agg cs) := fun ρ hρ =>
  val_load_agg hT hd (evl_full hx) (by simp only [AV.pcells, boxes_get hρ hB, Nat.le_of_ble_eq_true hb, if_true]) hc hl

/-! addresses -/
theorem v_indexAddr {T E : TypeId} {d : TypeDesc} {sz by_ s b' : Nat} {z z' : Option Value} {x y : Operand} {b e : AV} {l : List AV} {kd : IntKind} {n : Int} {k : Nat} (hT : TyI P T (.slice E) s z' b') (hE : TyI P E d sz z by_)
    (hx : ev env L x = some b) (hy : ev env L y = some (.int kd n)) (hv : b.view G = some l) (hn : n = (k : Int)) (he : l[k]? = some e) (hl : e.cells.length = sz) :
    ValLM md P c ⟨dst, .indexAddr T x y, ty, pos, af, gd⟩ env L B G (.elp b k 0) := fun ρ hρ => val_indexAddr hT hE (ev_full hx) (ev_full hy) (view_sub (boxes_sub hρ) hv) hn he hl
theorem v_fieldAddr_box {S : TypeId} {fs : Array Go.Field} {sz by_ s b' : Nat} {z z' : Option Value} {x : Operand} {r off f o FT : Nat} {d : TypeDesc} (hS : TyI P S (.struct fs) s z' b') (hf : (fs[f]?).map (fun x => (x.offset, x.type)) = some (o, FT))
    (hF : TyI P FT d (sz + 1) z by_) (hx : ev env L x = some (.box r off)) : ValLM md P c ⟨dst, .fieldAddr S x f, ty, pos, af, gd⟩ env L B G (.box r (off + o)) := fun ρ hρ => val_fieldAddr_box hS hf hF (ev_full hx)
theorem v_fieldAddr {S : TypeId} {fs : Array Go.Field} {sz by_ s b' : Nat} {z z' : Option Value} {x : Operand} {b : AV} {k off f o FT : Nat} {d : TypeDesc} (hS : TyI P S (.struct fs) s z' b') (hf : (fs[f]?).map (fun x => (x.offset, x.type)) = some (o, FT))
    (hF : TyI P FT d (sz + 1) z by_) (hx : ev env L x = some (.elp b k off)) : ValLM md P c ⟨dst, .fieldAddr S x f, ty, pos, af, gd⟩ env L B G (.elp b k (off + o)) := fun ρ hρ => val_fieldAddr_elp hS hf hF (ev_full hx)

/-! arithmetic -/
section
variable {T T' : TypeId} {x y : Operand} {k : IntKind} {m n : Int}
theorem v_add (hx : ev env L x = some (.int .i64 m)) (hy : ev env L y = some (.int .i64 n)) (h : -9223372036854775808 ≤ m + n ∧ m + n ≤ 9223372036854775807) : ValLM md P c ⟨dst, .binOp .add T x y T', ty, pos, af, gd⟩ env L B G (.int .i64 (m + n)) := fun ρ hρ => val_add (ev_full hx) (ev_full hy) h
theorem v_sub_ (hx : ev env L x = some (.int .i64 m)) (hy : ev env L y = some (.int .i64 n)) (h : -9223372036854775808 ≤ m - n ∧ m - n ≤ 9223372036854775807) : ValLM md P c ⟨dst, .binOp .sub T x y T', ty, pos, af, gd⟩ env L B G (.int .i64 (m - n)) := fun ρ hρ => val_sub (ev_full hx) (ev_full hy) h
theorem v_mul (hx : ev env L x = some (.int .i64 m)) (hy : ev env L y = some (.int .i64 n)) (h : -9223372036854775808 ≤ m * n ∧ m * n ≤ 9223372036854775807) : ValLM md P c ⟨dst, .binOp .mul T x y T', ty, pos, af, gd⟩ env L B G (.int .i64 (m * n)) := fun ρ hρ => val_mul (ev_full hx) (ev_full hy) h
theorem v_add_w (hx : ev env L x = some (.int k m)) (hy : ev env L y = some (.int k n)) : ValLM md P c ⟨dst, .binOp .add T x y T', ty, pos, af, gd⟩ env L B G (.int k (k.wrap (m + n))) := fun ρ hρ => val_add_w (ev_full hx) (ev_full hy)
theorem v_sub_w (hx : ev env L x = some (.int k m)) (hy : ev env L y = some (.int k n)) : ValLM md P c ⟨dst, .binOp .sub T x y T', ty, pos, af, gd⟩ env L B G (.int k (k.wrap (m - n))) := fun ρ hρ => val_sub_w (ev_full hx) (ev_full hy)
theorem v_rem (hx : ev env L x = some (.int k m)) (hy : ev env L y = some (.int k n)) (h : n ≠ 0) : ValLM md P c ⟨dst, .binOp .rem T x y T', ty, pos, af, gd⟩ env L B G (.int k (m.tmod n)) := fun ρ hρ => val_rem (ev_full hx) (ev_full hy) h
theorem v_quo (hx : ev env L x = some (.int k m)) (hy : ev env L y = some (.int k n)) (h : n ≠ 0) : ValLM md P c ⟨dst, .binOp .quo T x y T', ty, pos, af, gd⟩ env L B G (.int k (k.wrap (m.tdiv n))) := fun ρ hρ => val_quo (ev_full hx) (ev_full hy) h
theorem v_lss (hx : ev env L x = some (.int k m)) (hy : ev env L y = some (.int k n)) : ValLM md P c ⟨dst, .binOp .lss T x y T', ty, pos, af, gd⟩ env L B G (.bool (decide (m < n))) := fun ρ hρ => val_lss (ev_full hx) (ev_full hy)
theorem v_leq (hx : ev env L x = some (.int k m)) (hy : ev env L y = some (.int k n)) : ValLM md P c ⟨dst, .binOp .leq T x y T', ty, pos, af, gd⟩ env L B G (.bool (decide (m ≤ n))) := fun ρ hρ => val_leq (ev_full hx) (ev_full hy)
theorem v_gtr (hx : ev env L x = some (.int k m)) (hy : ev env L y = some (.int k n)) : ValLM md P c ⟨dst, .binOp .gtr T x y T', ty, pos, af, gd⟩ env L B G (.bool (decide (n < m))) := fun ρ hρ => val_gtr (ev_full hx) (ev_full hy)
theorem v_geq (hx : ev env L x = some (.int k m)) (hy : ev env L y = some (.int k n)) : ValLM md P c ⟨dst, .binOp .geq T x y T', ty, pos, af, gd⟩ env L B G (.bool (decide (n ≤ m))) := fun ρ hρ => val_geq (ev_full hx) (ev_full hy)
theorem v_eql (hx : ev env L x = some (.int k m)) (hy : ev env L y = some (.int k n)) : ValLM md P c ⟨dst, .binOp .eql T x y T', ty, pos, af, gd⟩ env L B G (.bool (decide (m = n))) := fun ρ hρ => val_eql (ev_full hx) (ev_full hy)
theorem v_neq (hx : ev env L x = some (.int k m)) (hy : ev env L y = some (.int k n)) : ValLM md P c ⟨dst, .binOp .neq T x y T', ty, pos, af, gd⟩ env L B G (.bool (!decide (m = n))) := fun ρ hρ => val_neq (ev_full hx) (ev_full hy)
theorem v_not {b : Bool} (hx : ev env L x = some (.bool b)) : ValLM md P c ⟨dst, .unOp .not T x, ty, pos, af, gd⟩ env L B G (.bool (!b)) := fun ρ hρ => val_not (ev_full hx)
theorem v_neg (hx : ev env L x = some (.int .i64 m)) (h : -9223372036854775808 ≤ -m ∧ -m ≤ 9223372036854775807) : ValLM md P c ⟨dst, .unOp .neg T x, ty, pos, af, gd⟩ env L B G (.int .i64 (-m)) := fun ρ hρ => val_neg (ev_full hx) h
theorem v_max {at_ : Array TypeId} (hx : ev env L x = some (.int k m)) (hy : ev env L y = some (.int k n)) : ValLM md P c ⟨dst, .call ⟨.builtin .max, #[x, y], at_⟩, ty, pos, af, gd⟩ env L B G (.int k (max m n)) := fun ρ hρ => val_max (ev_full hx) (ev_full hy)
theorem v_min {at_ : Array TypeId} (hx : ev env L x = some (.int k m)) (hy : ev env L y = some (.int k n)) : ValLM md P c ⟨dst, .call ⟨.builtin .min, #[x, y], at_⟩, ty, pos, af, gd⟩ env L B G (.int k (min m n)) := fun ρ hρ => val_min (ev_full hx) (ev_full hy)
end
section
variable {T T' : TypeId} {s b' : Nat} {z : Option Value} {x y : Operand}
theorem v_bool_eql {m n : Bool} (hT : TyI P T .bool s z b') (hx : ev env L x = some (.bool m)) (hy : ev env L y = some (.bool n)) : ValLM md P c ⟨dst, .binOp .eql T x y T', ty, pos, af, gd⟩ env L B G (.bool (m == n)) := fun ρ hρ => val_bool_eql hT (ev_full hx) (ev_full hy)
theorem v_bool_neq {m n : Bool} (hT : TyI P T .bool s z b') (hx : ev env L x = some (.bool m)) (hy : ev env L y = some (.bool n)) : ValLM md P c ⟨dst, .binOp .neq T x y T', ty, pos, af, gd⟩ env L B G (.bool (!(m == n))) := fun ρ hρ => val_bool_neq hT (ev_full hx) (ev_full hy)
theorem v_str_eql {m n : ByteArray} (hx : ev env L x = some (.str m)) (hy : ev env L y = some (.str n)) : ValLM md P c ⟨dst, .binOp .eql T x y T', ty, pos, af, gd⟩ env L B G (.bool (m.toList == n.toList)) := fun ρ hρ => val_str_eql (ev_full hx) (ev_full hy)
theorem v_str_neq {m n : ByteArray} (hx : ev env L x = some (.str m)) (hy : ev env L y = some (.str n)) : ValLM md P c ⟨dst, .binOp .neq T x y T', ty, pos, af, gd⟩ env L B G (.bool (!(m.toList == n.toList))) := fun ρ hρ => val_str_neq (ev_full hx) (ev_full hy)
theorem v_str_lss {m n : ByteArray} (hx : ev env L x = some (.str m)) (hy : ev env L y = some (.str n)) : ValLM md P c ⟨dst, .binOp .lss T x y T', ty, pos, af, gd⟩ env L B G (.bool (Op.bytesLess m.toList n.toList)) := fun ρ hρ => val_str_lss (ev_full hx) (ev_full hy)
theorem v_str_gtr {m n : ByteArray} (hx : ev env L x = some (.str m)) (hy : ev env L y = some (.str n)) : ValLM md P c ⟨dst, .binOp .gtr T x y T', ty, pos, af, gd⟩ env L B G (.bool (!(Op.bytesLess m.toList n.toList || m.toList == n.toList))) := fun ρ hρ => val_str_gtr (ev_full hx) (ev_full hy)
theorem v_ptr_eql_nil {E : TypeId} {p : AV} (hT : TyI P T (.pointer E) s z b') (hx : ev env L x = some p) (hp : p.isPtr = true) (hy : ev env L y = some .nilp) : ValLM md P c ⟨dst, .binOp .eql T x y T', ty, pos, af, gd⟩ env L B G (.bool false) := fun ρ hρ => val_ptr_eql_nil hT (ev_full hx) hp (ev_full hy)
theorem v_ptr_neq_nil {E : TypeId} {p : AV} (hT : TyI P T (.pointer E) s z b') (hx : ev env L x = some p) (hp : p.isPtr = true) (hy : ev env L y = some .nilp) : ValLM md P c ⟨dst, .binOp .neq T x y T', ty, pos, af, gd⟩ env L B G (.bool true) := fun ρ hρ => val_ptr_neq_nil hT (ev_full hx) hp (ev_full hy)
theorem v_nil_eql_nil {E : TypeId} (hT : TyI P T (.pointer E) s z b') (hx : ev env L x = some .nilp) (hy : ev env L y = some .nilp) : ValLM md P c ⟨dst, .binOp .eql T x y T', ty, pos, af, gd⟩ env L B G (.bool true) := fun ρ hρ => val_nil_eql_nil hT (ev_full hx) (ev_full hy)
theorem v_nil_neq_nil {E : TypeId} (hT : TyI P T (.pointer E) s z b') (hx : ev env L x = some .nilp) (hy : ev env L y = some .nilp) : ValLM md P c ⟨dst, .binOp .neq T x y T', ty, pos, af, gd⟩ env L B G (.bool false) := fun ρ hρ => val_nil_neq_nil hT (ev_full hx) (ev_full hy)
theorem v_nilCheck {p : AV} (hx : ev env L x = some p) (hp : p.isPtr = true) : ValLM md P c ⟨dst, .nilCheck x, ty, pos, af, gd⟩ env L B G p := fun ρ hρ => val_nilCheck (ev_full hx) hp
theorem v_len {E : TypeId} {b : AV} {l : List AV} {n : Nat} (hT : TyI P T (.slice E) s z b') (hx : ev env L x = some b) (hv : b.view G = some l) (hn : l.length = n) : ValLM md P c ⟨dst, .call ⟨.builtin .len, #[x], #[T]⟩, ty, pos, af, gd⟩ env L B G (.int .i64 (n : Int)) := fun ρ hρ => hn ▸ val_len (T' := T) hT (ev_full hx) (view_sub (boxes_sub hρ) hv)
theorem v_len_str {m : ByteArray} (hT : TyI P T .string s z b') (hx : ev env L x = some (.str m)) : ValLM md P c ⟨dst, .call ⟨.builtin .len, #[x], #[T]⟩, ty, pos, af, gd⟩ env L B G (.int .i64 (m.size : Int)) := fun ρ hρ => val_len_str hT (ev_full hx)
theorem v_extract {l : List AV} {i : Nat} {av : AV} (hx : ev env L x = some (.tup l)) (hi : l[i]? = some av) : ValLM md P c ⟨dst, .extract x i, ty, pos, af, gd⟩ env L B G av := fun ρ hρ => val_extract (ev_full hx) hi
theorem v_makeFunc {f : Fn} {xs : Array Operand} {caps : List AV} (hx : xs.toList.mapM (ev env L) = some caps) : ValLM md P c ⟨dst, .makeFunc f #[] xs, ty, pos, af, gd⟩ env L B G (.fn f caps) := fun ρ hρ => val_makeFunc (evs_full hx)
theorem v_build {fs : Array Go.Field} {sz : Nat} {zv : Value} {parts : Array (Nat × Operand)} {pl : Array (Nat × Nat)} {vs : List (Nat × AV)} {zs cells : List AV}
    (hT : TyI P T (.struct fs) sz (some zv) b') (hpl : Places P fs pl) (hz : zAV zv = .agg zs) (hvs : parts.toList.mapM (fun x => (ev env L x.2).map fun v => (x.1, v)) = some vs)
    (hf : afill (pl[·]?) zs vs = some cells) : ValLM md P c ⟨dst, .build T parts, ty, pos, af, gd⟩ env L B G (.agg cells) := fun ρ hρ => val_build hT hpl hz (evp_full hvs) hf
end

/-! ### Variables of the call's own -/
theorem newVar_core {d r : Nat} {av : AV} {ρ : Nat → Nat} (hno : (L.all fun p => !Nat.beq p.2.1 d) = true) (hρ : Good c G B ρ) (hr : boxes ρ G B r = none) (hn : c.w0.heap.size ≤ r)
    (h : GoalL c env ((d, d, 0) :: L) ((d, av) :: edel B d) G K) : Goal c ((d, .box r 0) :: full ρ env L) ((boxes ρ G B).set r (.box av)) K := by
  let ρ' : Nat → Nat := fun s => if s = d then r else ρ s
  have hGr : G r = none := sub_none (boxes_sub hρ) hr
  have hget : ∀ s v, Env.get ((d, av) :: edel B d) s = some v → (s = d ∧ v = av) ∨ (s ≠ d ∧ B.get s = some v) := fun s v hv => by
    simp only [Env.get] at hv
    cases hb : Nat.beq d s with
    | true => rw [hb] at hv; injection hv with hv; exact .inl ⟨(Nat.eq_of_beq_eq_true hb).symm, hv.symm⟩
    | false =>
      rw [hb] at hv
      simp only [edel_get] at hv
      split at hv
      · cases hv
      · rename_i hne; exact .inr ⟨fun e => hne e.symm, hv⟩
  have hrne : ∀ s v, B.get s = some v → r ≠ ρ s := fun s v hv e => by rw [e, boxes_get hρ hv] at hr; cases hr
  have hg : Good c G ((d, av) :: edel B d) ρ' := ⟨fun s v hv => by
      rcases hget s v hv with ⟨rfl, rfl⟩ | ⟨h1, h2⟩
      · simp only [ρ', if_true]; exact ⟨hGr, hn⟩
      · simp only [ρ', h1, if_false]; exact hρ.fresh s v h2,
    fun s s' v v' hv hv' e => by
      rcases hget s v hv with ⟨rfl, rfl⟩ | ⟨h1, h2⟩
      · rcases hget s' v' hv' with ⟨rfl, rfl⟩ | ⟨h3, h4⟩
        · rfl
        · simp only [ρ', if_true, h3, if_false] at e; exact absurd e (hrne s' v' h4)
      · rcases hget s' v' hv' with ⟨rfl, rfl⟩ | ⟨h3, h4⟩
        · simp only [ρ', if_true, h1, if_false] at e; exact absurd e.symm (hrne s v h2)
        · simp only [ρ', h1, h3, if_false] at e; exact hρ.inj s s' v v' h2 h4 e⟩
  refine Goal.forget (G' := boxes ρ' G ((d, av) :: edel B d)) (fun b x hb => ?_) (Goal.env (fun t v hv => ?_) (h ρ' hg))
  · rcases boxes_cases hg b with ⟨s, v, h1, h2, h3⟩ | ⟨h1, h2⟩
    · rw [h3] at hb; injection hb with hb; subst hb
      rcases hget s v h1 with ⟨rfl, rfl⟩ | ⟨h4, h5⟩
      · simp only [ρ', if_true] at h2; rw [h2]; exact AHeap.get_set _ _ _
      · simp only [ρ', h4, if_false] at h2; rw [h2, AHeap.get_set_ne _ _ (fun e => hrne s v h5 e.symm)]; exact boxes_get hρ h5
    · rw [h2] at hb
      have : b ≠ r := fun e => by rw [e, hGr] at hb; cases hb
      rw [AHeap.get_set_ne _ _ this]; exact boxes_sub hρ b x hb
  · rw [full_get] at hv
    simp only [lget, Env.get] at hv ⊢
    cases hb : Nat.beq d t with
    | true => rw [hb] at hv; simpa [ρ'] using hv
    | false =>
      rw [hb] at hv
      simp only at hv ⊢
      rw [full_get]
      cases hl : lget L t with
      | none => rw [hl] at hv; exact hv
      | some x =>
        rw [hl] at hv
        obtain ⟨s, o'⟩ := x
        have hsd : s ≠ d := by
          have : ∀ (L : LPtr), (L.all fun p => !Nat.beq p.2.1 d) = true → ∀ {t : Nat} {s o' : Nat}, lget L t = some (s, o') → s ≠ d := by
            intro L
            induction L with
            | nil => intro _ t s o' h; cases h
            | cons p L ih =>
              intro hall t s o' h
              obtain ⟨k, s0, o0⟩ := p
              simp only [List.all_cons, Bool.and_eq_true] at hall
              simp only [lget] at h
              cases hkb : Nat.beq k t with
              | true =>
                rw [hkb] at h; simp only [Option.some.injEq, Prod.mk.injEq] at h
                obtain ⟨rfl, rfl⟩ := h
                intro e; subst e
                have := hall.1; rw [Nat.beq_refl] at this; cases this
              | false => rw [hkb] at h; exact ih hall.2 h
          exact this L hno hl
        simpa [ρ', hsd] using hv

theorem s_box {T : TypeId} {x : Operand} {d : Nat} {av : AV} (hd : Nat.blt d c.nt = true) (hx : ev env L x = some av) (hu : av.isUnk = false) (hno : (L.all fun p => !Nat.beq p.2.1 d) = true)
    (h : GoalL c env ((d, d, 0) :: L) ((d, av) :: edel B d) G K) : StepL P c ⟨some d, .box T x, ty, pos, af, gd⟩ Q env L B G K := fun ρ hρ =>
  (steps_box hd (ev_full hx) (by rintro rfl; cases hu) fun r hr hn => newVar_core hno hρ hr hn h).step
theorem s_alloc {T : TypeId} {dd : TypeDesc} {sz b' : Nat} {zv : Value} {d : Nat} {av : AV} (hT : TyI P T dd sz (some zv) b') (hd : Nat.blt d c.nt = true) (hz : zAV zv = av) (hu : av.isUnk = false) (hno : (L.all fun p => !Nat.beq p.2.1 d) = true)
    (h : GoalL c env ((d, d, 0) :: L) ((d, av) :: edel B d) G K) : StepL P c ⟨some d, .alloc T, ty, pos, af, gd⟩ Q env L B G K := fun ρ hρ =>
  (steps_alloc hT hd hz (by rintro rfl; cases hu) fun r hr hn => newVar_core hno hρ hr hn h).step

theorem s_fieldAddr {S : TypeId} {fs : Array Go.Field} {sz by_ s b' d : Nat} {z z' : Option Value} {x : Operand} {sl off f o FT : Nat} {dd : TypeDesc} (hS : TyI P S (.struct fs) s z' b') (hf : (fs[f]?).map (fun x => (x.offset, x.type)) = some (o, FT))
    (hF : TyI P FT dd (sz + 1) z by_) (hd : Nat.blt d c.nt = true) (hx : evl L x = some (sl, off)) (h : GoalL c env ((d, sl, off + o) :: L) B G K) : StepL P c ⟨some d, .fieldAddr S x f, ty, pos, af, gd⟩ Q env L B G K := fun ρ hρ =>
  Step.val (val_fieldAddr_box hS hf hF (evl_full hx)) rfl hd (Goal.env full_put_l (h ρ hρ))
theorem s_movel {x : Operand} {d sl off : Nat} (hd : Nat.blt d c.nt = true) (hx : evl L x = some (sl, off)) (h : GoalL c env ((d, sl, off) :: L) B G K) : StepL P c ⟨some d, .move x, ty, pos, af, gd⟩ Q env L B G K := fun ρ hρ =>
  Step.val (val_move (evl_full hx)) rfl hd (Goal.env full_put_l (h ρ hρ))
theorem s_nilCheckl {x : Operand} {d sl off : Nat} (hd : Nat.blt d c.nt = true) (hx : evl L x = some (sl, off)) (h : GoalL c env ((d, sl, off) :: L) B G K) : StepL P c ⟨some d, .nilCheck x, ty, pos, af, gd⟩ Q env L B G K := fun ρ hρ =>
  Step.val (val_nilCheck (evl_full hx) rfl) rfl hd (Goal.env full_put_l (h ρ hρ))

theorem boxes_set {ρ : Nat → Nat} (hρ : Good c G B ρ) {s : Nat} {old new : AV} (hB : B.get s = some old) : Good c G ((s, new) :: edel B s) ρ ∧ boxes ρ G ((s, new) :: edel B s) = (boxes ρ G B).set (ρ s) (.box new) := by
  have hget : ∀ t v, Env.get ((s, new) :: edel B s) t = some v → (t = s ∧ v = new) ∨ (t ≠ s ∧ B.get t = some v) := fun t v hv => by
    simp only [Env.get] at hv
    cases hb : Nat.beq s t with
    | true => rw [hb] at hv; injection hv with hv; exact .inl ⟨(Nat.eq_of_beq_eq_true hb).symm, hv.symm⟩
    | false =>
      rw [hb] at hv
      simp only [edel_get] at hv
      split at hv
      · cases hv
      · rename_i hne; exact .inr ⟨fun e => hne e.symm, hv⟩
  have hin : ∀ t v, Env.get ((s, new) :: edel B s) t = some v → ∃ v', B.get t = some v' := fun t v hv => by
    rcases hget t v hv with ⟨rfl, rfl⟩ | ⟨_, h⟩
    · exact ⟨old, hB⟩
    · exact ⟨v, h⟩
  have hg : Good c G ((s, new) :: edel B s) ρ := ⟨fun t v hv => by obtain ⟨v', h⟩ := hin t v hv; exact hρ.fresh t v' h,
    fun t t' v v' hv hv' e => by obtain ⟨_, h⟩ := hin t v hv; obtain ⟨_, h'⟩ := hin t' v' hv'; exact hρ.inj t t' _ _ h h' e⟩
  refine ⟨hg, AHeap.ext fun b => ?_⟩
  by_cases hbs : b = ρ s
  · rw [hbs, AHeap.get_set, boxes_get hg (get_cons_self s new _)]
  · rw [AHeap.get_set_ne _ _ hbs]
    rcases boxes_cases hρ b with ⟨t, v, h1, h2, h3⟩ | ⟨h1, h2⟩
    · have hts : t ≠ s := fun e => hbs (by rw [h2, e])
      have : Env.get ((s, new) :: edel B s) t = some v := by
        simp only [Env.get]
        have hb : Nat.beq s t = false := by
          cases hb : Nat.beq s t with
          | true => exact absurd (Nat.eq_of_beq_eq_true hb).symm hts
          | false => rfl
        rw [hb]
        simp only [edel_get, fun e : s = t => hts e.symm, if_false]
        rw [if_neg (fun e => hts e.symm)]; exact h1
      rw [h3, h2, boxes_get hg this]
    · rw [h2, boxes_other]
      intro t v hv
      obtain ⟨v', h⟩ := hin t v hv
      exact h1 t v' h

/-- A store into a variable of the call's own. -/
theorem s_store {T : TypeId} {d : TypeDesc} {sz b' s off : Nat} {z : Option Value} {x y : Operand} {av old new : AV} (hT : TyI P T d sz z b') (hy : evl L y = some (s, off)) (hx : ev env L x = some av)
    (hB : B.get s = some old) (hsz : av.cells.length = sz) (hc : av.cells.all AV.isCell = true) (hoff : Nat.ble (off + sz) old.cells.length = true) (hnew : new.cells = splice old.cells off av.cells)
    (h : GoalL c env L ((s, new) :: edel B s) G K) : StepL P c ⟨none, .store T y x, ty, pos, af, gd⟩ Q env L B G K := fun ρ hρ => by
  obtain ⟨h1, h2⟩ := boxes_set (new := new) hρ hB
  exact step_store hT (evl_full hy) (ev_full hx) (boxes_get hρ hB) hsz hc (Nat.le_of_ble_eq_true hoff) hnew (.inr (hρ.fresh s old hB).2) (by rw [← h2]; exact h ρ h1)
theorem s_store_all {T : TypeId} {d : TypeDesc} {sz b' s : Nat} {z : Option Value} {x y : Operand} {av old : AV} (hT : TyI P T d sz z b') (hy : evl L y = some (s, 0)) (hx : ev env L x = some av)
    (hB : B.get s = some old) (hsz : av.cells.length = sz) (hc : av.cells.all AV.isCell = true) (ho : old.cells.length = sz)
    (h : GoalL c env L ((s, av) :: edel B s) G K) : StepL P c ⟨none, .store T y x, ty, pos, af, gd⟩ Q env L B G K :=
  s_store hT hy hx hB hsz hc (by simp [ho]) (by simp [splice, hsz, ho]) h
/-- A store into a listed variable. -/
theorem s_store_box {T : TypeId} {d : TypeDesc} {sz b' r off : Nat} {z : Option Value} {x y : Operand} {av old new : AV} (hT : TyI P T d sz z b') (hy : ev env L y = some (.box r off)) (hx : ev env L x = some av)
    (hG : G r = some (.box old)) (hsz : av.cells.length = sz) (hc : av.cells.all AV.isCell = true) (hoff : Nat.ble (off + sz) old.cells.length = true) (hnew : new.cells = splice old.cells off av.cells)
    (hD : c.D r ∨ c.w0.heap.size ≤ r) (h : GoalL c env L B (G.set r (.box new)) K) : StepL P c ⟨none, .store T y x, ty, pos, af, gd⟩ Q env L B G K := fun ρ hρ => by
  have hne : ∀ s v, B.get s = some v → r ≠ ρ s := fun s v hv e => by rw [e, (hρ.fresh s v hv).1] at hG; cases hG
  have hg : Good c (G.set r (.box new)) B ρ := ⟨fun s v hv => ⟨by rw [AHeap.get_set_ne _ _ (fun e => hne s v hv e.symm)]; exact (hρ.fresh s v hv).1, (hρ.fresh s v hv).2⟩, hρ.inj⟩
  refine step_store hT (ev_full hy) (ev_full hx) (boxes_sub hρ _ _ hG) hsz hc (Nat.le_of_ble_eq_true hoff) hnew hD ?_
  have e : (boxes ρ G B).set r (.box new) = boxes ρ (G.set r (.box new)) B := AHeap.ext fun b => by
    by_cases hb : b = r
    · subst hb
      rw [AHeap.get_set, boxes_other hne, AHeap.get_set]
    · rw [AHeap.get_set_ne _ _ hb]
      rcases boxes_cases hρ b with ⟨t, v, h1, h2, h3⟩ | ⟨h1, h2⟩
      · rw [h3, h2, boxes_get hg h1]
      · rw [h2, boxes_other h1, AHeap.get_set_ne _ _ hb]
  rw [e]
  exact h ρ hg

theorem boxes_setG {ρ : Nat → Nat} (hρ : Good c G B ρ) {r : Nat} {x : ARow} (hne : ∀ s v, B.get s = some v → r ≠ ρ s) : Good c (G.set r x) B ρ ∧ (boxes ρ G B).set r x = boxes ρ (G.set r x) B := by
  have hg : Good c (G.set r x) B ρ := ⟨fun s v hv => ⟨by rw [AHeap.get_set_ne _ _ (fun e => hne s v hv e.symm)]; exact (hρ.fresh s v hv).1, (hρ.fresh s v hv).2⟩, hρ.inj⟩
  refine ⟨hg, AHeap.ext fun b => ?_⟩
  by_cases hb : b = r
  · subst hb
    rw [AHeap.get_set, boxes_other hne, AHeap.get_set]
  · rw [AHeap.get_set_ne _ _ hb]
    rcases boxes_cases hρ b with ⟨t, v, h1, h2, h3⟩ | ⟨h1, h2⟩
    · rw [h3, h2, boxes_get hg h1]
    · rw [h2, boxes_other h1, AHeap.get_set_ne _ _ hb]

/-- Some rows of the heap, set. -/
def setAll (G : AHeap) : List (Nat × ARow) → AHeap
  | [] => G
  | (r, x) :: l => (setAll G l).set r x
theorem boxes_setAll {ρ : Nat → Nat} : ∀ {effs : List (Nat × ARow)} (hρ : Good c G B ρ) (hne : ∀ p ∈ effs, ∀ s v, B.get s = some v → p.1 ≠ ρ s), Good c (setAll G effs) B ρ ∧ setAll (boxes ρ G B) effs = boxes ρ (setAll G effs) B
  | [], hρ, _ => ⟨hρ, rfl⟩
  | (r, x) :: effs, hρ, hne => by
    obtain ⟨h1, h2⟩ := boxes_setAll (effs := effs) hρ (fun p hp => hne p (List.mem_cons_of_mem _ hp))
    obtain ⟨h3, h4⟩ := boxes_setG (x := x) h1 (r := r) (hne (r, x) List.mem_cons_self)
    exact ⟨h3, by simp only [setAll]; rw [h2, h4]⟩

/-! ### Calls and ends -/
/-- What a call comes to in whatever heap that lists what G lists: the result and the rows that are set. -/
def LCalls (P : Program) (f : FuncId) (args : List AV) (G : AHeap) (D : Nat → Prop) (R : Nat → AV → List (Nat × ARow) → Prop) : Prop :=
  ∀ H, G.sub H → ACalls P f args H D fun n r H' => ∃ effs, R n r effs ∧ (∀ p ∈ effs, G p.1 ≠ none ∨ n ≤ p.1) ∧ H' = setAll H effs
def noD : Nat → Prop := fun _ => False
/-- A call that leaves all that was there as it is. -/
def PCalls (P : Program) (f : FuncId) (args : List AV) (G : AHeap) (R : AV → Prop) : Prop := LCalls P f args G noD fun _ r effs => effs = [] ∧ R r
theorem LCalls.sub {f : FuncId} {args : List AV} {D : Nat → Prop} {R : Nat → AV → List (Nat × ARow) → Prop} {H : AHeap} (h : LCalls P f args G D R) (hs : G.sub H) (hR : ∀ n r effs, R n r effs → ∀ p ∈ effs, G p.1 ≠ none → H p.1 ≠ none) : LCalls P f args H D R := fun H' hH' =>
  (h H' (AHeap.sub_trans hs hH')).mono fun n r G' _ ⟨effs, h1, h2, h3⟩ => ⟨effs, h1, fun p hp => (h2 p hp).imp (hR n r effs h1 p hp) id, h3⟩
theorem LCalls.args {f : FuncId} {args args' : List AV} {D : Nat → Prop} {R : Nat → AV → List (Nat × ARow) → Prop} (h : LCalls P f args' G D R) (hA : ASubs args args') : LCalls P f args G D R := fun H hH => (h H hH).args hA
theorem LCalls.mono {f : FuncId} {args : List AV} {D : Nat → Prop} {R R' : Nat → AV → List (Nat × ARow) → Prop} (h : LCalls P f args G D R) (hR : ∀ n r effs, R n r effs → R' n r effs) : LCalls P f args G D R' := fun H hH =>
  (h H hH).mono fun n r G' _ ⟨effs, h1, h2, h3⟩ => ⟨effs, hR _ _ _ h1, h2, h3⟩
theorem PCalls.args {f : FuncId} {args args' : List AV} {R : AV → Prop} (h : PCalls P f args' G R) (hA : ASubs args args') : PCalls P f args G R := LCalls.args h hA

theorem s_call {x : Operand} {xs : Array Operand} {at_ : Array TypeId} {f : FuncId} {caps avs : List AV} {D : Nat → Prop} {R : Nat → AV → List (Nat × ARow) → Prop} {d : Nat}
    (hx : ev env L x = some (.fn (.func f) caps)) (hxs : xs.toList.mapM (ev env L) = some avs) (hd : Nat.blt d c.nt = true) (h : LCalls P f (avs ++ caps) G D R)
    (hD : ∀ b, D b → c.D b ∨ c.w0.heap.size ≤ b)
    (hk : ∀ n r effs, c.w0.heap.size ≤ n → (∀ b, n ≤ b → G b = none) → R n r effs → (∀ p ∈ effs, G p.1 ≠ none ∨ n ≤ p.1) → GoalL c ((d, r) :: env) (ldel L d) B (setAll G effs) K) : StepL P c ⟨some d, .call ⟨.value x, xs, at_⟩, ty, pos, af, gd⟩ Q env L B G K := fun ρ hρ =>
  step_call (ev_full hx) (evs_full hxs) hd (h _ (boxes_sub hρ)) hD fun n r G' hn hdom ⟨effs, h1, h2, h3⟩ => by
    have hne : ∀ p ∈ effs, ∀ s v, B.get s = some v → p.1 ≠ ρ s := fun p hp s v hv e => by
      rcases h2 p hp with h | h
      · rw [e, (hρ.fresh s v hv).1] at h; exact h rfl
      · have := hdom p.1 h; rw [e, boxes_get hρ hv] at this; cases this
    obtain ⟨h4, h5⟩ := boxes_setAll hρ hne
    rw [h3, h5]
    exact Goal.env full_put (hk n r effs hn (fun b hb => sub_none (boxes_sub hρ) (hdom b hb)) h1 h2 ρ h4)
theorem s_callp {x : Operand} {xs : Array Operand} {at_ : Array TypeId} {f : FuncId} {caps avs : List AV} {R : AV → Prop} {d : Nat}
    (hx : ev env L x = some (.fn (.func f) caps)) (hxs : xs.toList.mapM (ev env L) = some avs) (hd : Nat.blt d c.nt = true) (h : PCalls P f (avs ++ caps) G R)
    (hk : ∀ r, R r → GoalL c ((d, r) :: env) (ldel L d) B G K) : StepL P c ⟨some d, .call ⟨.value x, xs, at_⟩, ty, pos, af, gd⟩ Q env L B G K :=
  s_call hx hxs hd h (fun b hb => hb.elim) fun n r effs _ _ ⟨he, hr⟩ _ => by subst he; exact hk r hr

/-- What the end of a call must show, at the level of the heap that came in. -/
def RetL (c : Ctx) (G H : AHeap) (R : Nat → AV → List (Nat × ARow) → Prop) : Ending → World → Prop := Ret c fun n r H' => ∃ effs, R n r effs ∧ (∀ p ∈ effs, G p.1 ≠ none ∨ n ≤ p.1) ∧ H' = setAll H effs
theorem LCalls.intro {f : FuncId} {fn : Func} {code : Code} {args : List AV} {D : Nat → Prop} {R : Nat → AV → List (Nat × ARow) → Prop} (nt : Nat) (hf : FnI P f fn) (hb : fn.body = some code) (hnt : fn.ntmps = nt) (hlen : Nat.ble args.length nt = true)
    (hD : ∀ b, D b → G b ≠ none) (h : ∀ H, G.sub H → ∀ w0 : World, (∀ b, w0.heap.size ≤ b → H b = none) → GoalL ⟨w0, H, D, nt⟩ (params args 0) [] [] H (code.wp P (bodyPost P fn (RetL ⟨w0, H, D, nt⟩ G H R)))) : LCalls P f args G D R := fun H hH =>
  ACalls.intro nt hf hb hnt hlen (fun b hb hn => hD b hb (sub_none hH hn)) fun w0 hw => h H hH w0 hw (fun _ => 0) ⟨fun s v h => (by cases h), fun s s' v v' h => (by cases h)⟩

/-- A result variable. -/
inductive LRes (P : Program) (env : Env) (L : LPtr) (B : Env) (G : AHeap) : ResultVar → AV → Prop
  | tmp {t : Nat} {v : AV} (h : ev env L (.tmp t) = some v) : LRes P env L B G (.tmp t) v
  | agg {t T sz b' s : Nat} {d : TypeDesc} {z : Option Value} {e : AV} (hT : TyI P T d sz z b') (hd : aggDesc d = true) (h : lget L t = some (s, 0)) (hB : B.get s = some e) (ha : e.isAgg = true) (hl : e.cells.length = sz) : LRes P env L B G (.cell t T) e
  | one {t T sz b' s : Nat} {d : TypeDesc} {z : Option Value} {e : AV} (hT : TyI P T d sz z b') (hd : aggDesc d = false) (h : lget L t = some (s, 0)) (hB : B.get s = some e) (hc : e.isCell = true) : LRes P env L B G (.cell t T) e
  | gagg {t T sz b' r : Nat} {d : TypeDesc} {z : Option Value} {e : AV} (hT : TyI P T d sz z b') (hd : aggDesc d = true) (h : ev env L (.tmp t) = some (.box r 0)) (hG : G r = some (.box e)) (ha : e.isAgg = true) (hl : e.cells.length = sz) : LRes P env L B G (.cell t T) e
  | gone {t T sz b' r : Nat} {d : TypeDesc} {z : Option Value} {e : AV} (hT : TyI P T d sz z b') (hd : aggDesc d = false) (h : ev env L (.tmp t) = some (.box r 0)) (hG : G r = some (.box e)) (hc : e.isCell = true) : LRes P env L B G (.cell t T) e
theorem LRes.ares {ρ : Nat → Nat} (hρ : Good c G B ρ) {rv : ResultVar} {r : AV} (h : LRes P env L B G rv r) : ARes P (full ρ env L) (boxes ρ G B) rv r := by
  cases h with
  | tmp h => exact .tmp (ev_full (x := .tmp _) h)
  | agg hT hd h hB ha hl => exact .agg hT hd (evl_full (x := .tmp _) h) (boxes_get hρ hB) ha hl
  | one hT hd h hB hc => exact .one hT hd (evl_full (x := .tmp _) h) (boxes_get hρ hB) hc
  | gagg hT hd h hG ha hl => exact .agg hT hd (ev_full (x := .tmp _) h) (boxes_sub hρ _ _ hG) ha hl
  | gone hT hd h hG hc => exact .one hT hd (ev_full (x := .tmp _) h) (boxes_sub hρ _ _ hG) hc

section
variable {fn : Func} {H G0 : AHeap} {R : Nat → AV → List (Nat × ARow) → Prop} {e : Exit} {r' : AV} {effs : List (Nat × ARow)}
theorem g_end (he : e = .ret ∨ e = .normal) {r : AV} (hres : ∀ ρ, Good c G B ρ → ∀ a w, St c (full ρ env L) (boxes ρ G B) a w → ∃ v, Rep (boxes ρ G B) w r v ∧ (results fn a.tmps).run P w = .ok v w)
    (effs : List (Nat × ARow)) (hA : ASub r r') (hs : (setAll H effs).sub G) (hok : ∀ p ∈ effs, G0 p.1 ≠ none ∨ c.w0.heap.size ≤ p.1) (hR : R c.w0.heap.size r' effs) :
    GoalL c env L B G (bodyPost P fn (RetL c G0 H R) e) := fun ρ hρ =>
  Goal.end_ he (hres ρ hρ) r' (AHeap.sub_trans hs (boxes_sub hρ)) (fun w v hs' hr => (hA _ _ _ hr).mono (Ext.forget w (AHeap.sub_trans hs (boxes_sub hρ)))) ⟨effs, hR, hok, rfl⟩
theorem g_end0 (he : e = .ret ∨ e = .normal) (hr : fn.results = #[]) (effs : List (Nat × ARow)) (hs : (setAll H effs).sub G) (hok : ∀ p ∈ effs, G0 p.1 ≠ none ∨ c.w0.heap.size ≤ p.1) (hR : R c.w0.heap.size (.tup []) effs) :
    GoalL c env L B G (bodyPost P fn (RetL c G0 H R) e) := g_end he (fun ρ hρ a w h => res0 hr a w h) effs (.refl _) hs hok hR
theorem g_end1 {v1 : ResultVar} {r1 : AV} (he : e = .ret ∨ e = .normal) (hr : fn.results = #[v1]) (h1 : LRes P env L B G v1 r1) (effs : List (Nat × ARow)) (hA : ASub r1 r') (hs : (setAll H effs).sub G) (hok : ∀ p ∈ effs, G0 p.1 ≠ none ∨ c.w0.heap.size ≤ p.1) (hR : R c.w0.heap.size r' effs) :
    GoalL c env L B G (bodyPost P fn (RetL c G0 H R) e) := g_end he (fun ρ hρ a w h => res1 hr (h1.ares hρ) a w h) effs hA hs hok hR
theorem g_end2 {v1 v2 : ResultVar} {r1 r2 : AV} (he : e = .ret ∨ e = .normal) (hr : fn.results = #[v1, v2]) (h1 : LRes P env L B G v1 r1) (h2 : LRes P env L B G v2 r2) (effs : List (Nat × ARow)) (hA : ASub (.tup [r1, r2]) r') (hs : (setAll H effs).sub G) (hok : ∀ p ∈ effs, G0 p.1 ≠ none ∨ c.w0.heap.size ≤ p.1) (hR : R c.w0.heap.size r' effs) :
    GoalL c env L B G (bodyPost P fn (RetL c G0 H R) e) := g_end he (fun ρ hρ a w h => res2 hr (h1.ares hρ) (h2.ares hρ) a w h) effs hA hs hok hR
theorem g_end3 {v1 v2 v3 : ResultVar} {r1 r2 r3 : AV} (he : e = .ret ∨ e = .normal) (hr : fn.results = #[v1, v2, v3]) (h1 : LRes P env L B G v1 r1) (h2 : LRes P env L B G v2 r2) (h3 : LRes P env L B G v3 r3) (effs : List (Nat × ARow)) (hA : ASub (.tup [r1, r2, r3]) r') (hs : (setAll H effs).sub G) (hok : ∀ p ∈ effs, G0 p.1 ≠ none ∨ c.w0.heap.size ≤ p.1) (hR : R c.w0.heap.size r' effs) :
    GoalL c env L B G (bodyPost P fn (RetL c G0 H R) e) := g_end he (fun ρ hρ a w h => res3 hr (h1.ares hρ) (h2.ares hρ) (h3.ares hρ) a w h) effs hA hs hok hR
end
end
end Go.Proofs.Ytgedefcjngofkaa.AM

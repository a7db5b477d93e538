/- The abstract machine, part 3: arithmetic, tests, lengths, slicing; new memory; stores. -/
import Derived.Test.YtgedefcjngofkaaAm2
import Derived.Laws.Append
import Derived.Laws.CopyRow
set_option linter.unusedVariables false
set_option linter.unusedSimpArgs false
namespace Go.Proofs.Ytgedefcjngofkaa.AM
open Go

/-- Whatever a stands for, b stands for. -/
def ASub (a b : AV) : Prop := ∀ G w v, Rep G w a v → Rep G w b v
theorem ASub.refl (a : AV) : ASub a a := fun _ _ _ h => h
theorem ASub.nil0 : ASub .nil0 (.imm []) := fun _ _ _ h => by cases h; exact .imm0 ..
theorem ASub.unk (a : AV) : ASub a .unk := fun _ _ _ h => .unk _
theorem ASub.trans {a b c : AV} (h : ASub a b) (h' : ASub b c) : ASub a c := fun G w v x => h' G w v (h G w v x)
def ASubs : List AV → List AV → Prop
  | [], [] => True
  | a :: as, b :: bs => ASub a b ∧ ASubs as bs
  | _, _ => False
theorem ASubs.refl : ∀ l, ASubs l l
  | [] => trivial
  | a :: l => ⟨.refl a, ASubs.refl l⟩
theorem ASubs.len : ∀ {l m : List AV}, ASubs l m → l.length = m.length
  | [], [], _ => rfl
  | _ :: _, _ :: _, h => by simp [h.2.len]
  | [], _ :: _, h => h.elim
  | _ :: _, [], h => h.elim
theorem ASubs.get : ∀ {l m : List AV}, ASubs l m → ∀ i (h : i < l.length) (h' : i < m.length), ASub l[i] m[i]
  | _ :: _, _ :: _, h, 0, _, _ => h.1
  | _ :: l, _ :: m, h, i + 1, h1, h2 => h.2.get i (by simpa using h1) (by simpa using h2)
theorem ASub.agg {l m : List AV} (h : ASubs l m) : ASub (.agg l) (.agg m) := fun G w v x => by
  cases x with
  | agg _ vs hl hr => exact .agg m vs (h.len ▸ hl) (fun i h1 h2 => h.get i (by rw [h.len]; exact h1) h1 _ _ _ (hr i _ h2))
theorem ASub.tup {l m : List AV} (h : ASubs l m) : ASub (.tup l) (.tup m) := fun G w v x => by
  cases x with
  | tup _ vs hl hr => exact .tup m vs (h.len ▸ hl) (fun i h1 h2 => h.get i (by rw [h.len]; exact h1) h1 _ _ _ (hr i _ h2))
/-- nil as a list without elements, one level down. -/
def AV.wk1 : AV → AV
  | .nil0 => .imm []
  | v => v
def AV.wk : AV → AV
  | .nil0 => .imm []
  | .agg cs => .agg (cs.map AV.wk1)
  | v => v
theorem ASub.wk1 (a : AV) : ASub a a.wk1 := by cases a <;> first | exact .nil0 | exact .refl _
theorem ASubs.wk1 : ∀ l : List AV, ASubs l (l.map AV.wk1)
  | [] => trivial
  | a :: l => ⟨.wk1 a, ASubs.wk1 l⟩
theorem ASub.wk (a : AV) : ASub a a.wk := by
  cases a <;> first | exact .nil0 | exact .refl _ | exact .agg (.wk1 _)
theorem ASub.of_wk {a b : AV} (h : a.wk = b) : ASub a b := h ▸ .wk a

section
variable {md : Bool} {P : Program} {c : Ctx} {env : Env} {G : AHeap} {dst : Option Tmp} {ty : TypeId} {pos : String} {af : Array Edge} {gd : Option (Nat × Bool)}

theorem ValM.sub {o : Oper} {a b : AV} (h : ValM md P c o env G a) (hs : ASub a b) : ValM md P c o env G b := fun x w h' =>
  let ⟨v, h1, h2⟩ := h x w h'; ⟨v, hs _ _ _ h1, h2⟩
theorem Goal.sub {K : Act → World → Prop} {a b : AV} (t : Nat) (ht : env.get t = some a) (hs : ASub a b) (h : Goal c ((t, b) :: env) G K) : Goal c env G K := fun x w h' =>
  h x w ⟨h'.sim, fun t' v hv => by
    simp only [Env.get] at hv
    cases hb : Nat.beq t t' with
    | true => rw [hb] at hv; injection hv with hv; rw [← hv, ← Nat.eq_of_beq_eq_true hb]; exact hs _ _ _ (h'.rep t a ht)
    | false => rw [hb] at hv; exact h'.rep t' v hv, h'.size, h'.dfr, h'.ext⟩

/-! ### Numbers and tests -/
theorem wrap64_id {n : Int} (h : -9223372036854775808 ≤ n ∧ n ≤ 9223372036854775807) : IntKind.i64.wrap n = n := by
  unfold IntKind.wrap
  simp only [IntKind.bits, IntKind.signed]
  simp
  omega

theorem eqGuard_int (op : BinOp) (T : TypeId) (x y : Operand) (k k' : IntKind) (m n : Int) (w : World) : (eqGuard op T x y (.int k m) (.int k' n)).run P w = .ok () w := by
  unfold eqGuard; split <;> rfl
theorem eqGuard_bool (op : BinOp) (T : TypeId) (x y : Operand) (m n : Bool) (w : World) : (eqGuard op T x y (.bool m) (.bool n)).run P w = .ok () w := by
  unfold eqGuard; split <;> rfl
theorem eqGuard_str (op : BinOp) (T : TypeId) (x y : Operand) (m n : ByteArray) (w : World) : (eqGuard op T x y (.string m) (.string n)).run P w = .ok () w := by
  unfold eqGuard; split <;> rfl
theorem eqGuard_ptr (op : BinOp) (T : TypeId) (x y : Operand) (m n : Option Addr) (w : World) : (eqGuard op T x y (.pointer m) (.pointer n)).run P w = .ok () w := by
  unfold eqGuard; split <;> rfl

/-- An operation of two whole numbers. -/
theorem val_int {op : BinOp} {T T' : TypeId} {x y : Operand} {k k' : IntKind} {m n : Int} {av : AV} (hx : aeval env x = some (.int k m)) (hy : aeval env y = some (.int k' n))
    (h : ∀ w, ∃ v, Rep G w av v ∧ ∀ w', (binOp op T (.int k m) (.int k' n)).run P w' = .ok v w') : ValM md P c ⟨dst, .binOp op T x y T', ty, pos, af, gd⟩ env G av := fun a w hs => by
  obtain ⟨v, h1, h2⟩ := h w
  refine ⟨v, h1, fun w' _ => ?_⟩
  simp [execOp, rep_int (hs.eval hx), rep_int (hs.eval hy), eqGuard_int, h2]

theorem val_add {T T' : TypeId} {x y : Operand} {m n : Int} (hx : aeval env x = some (.int .i64 m)) (hy : aeval env y = some (.int .i64 n))
    (h : -9223372036854775808 ≤ m + n ∧ m + n ≤ 9223372036854775807) : ValM md P c ⟨dst, .binOp .add T x y T', ty, pos, af, gd⟩ env G (.int .i64 (m + n)) :=
  val_int hx hy fun w => ⟨_, .int .., fun w' => by simp [binOp, Op.intArith, wrap64_id h]⟩
theorem val_sub {T T' : TypeId} {x y : Operand} {m n : Int} (hx : aeval env x = some (.int .i64 m)) (hy : aeval env y = some (.int .i64 n))
    (h : -9223372036854775808 ≤ m - n ∧ m - n ≤ 9223372036854775807) : ValM md P c ⟨dst, .binOp .sub T x y T', ty, pos, af, gd⟩ env G (.int .i64 (m - n)) :=
  val_int hx hy fun w => ⟨_, .int .., fun w' => by simp [binOp, Op.intArith, wrap64_id h]⟩
theorem val_mul {T T' : TypeId} {x y : Operand} {m n : Int} (hx : aeval env x = some (.int .i64 m)) (hy : aeval env y = some (.int .i64 n))
    (h : -9223372036854775808 ≤ m * n ∧ m * n ≤ 9223372036854775807) : ValM md P c ⟨dst, .binOp .mul T x y T', ty, pos, af, gd⟩ env G (.int .i64 (m * n)) :=
  val_int hx hy fun w => ⟨_, .int .., fun w' => by simp [binOp, Op.intArith, wrap64_id h]⟩
theorem val_add_w {T T' : TypeId} {x y : Operand} {k : IntKind} {m n : Int} (hx : aeval env x = some (.int k m)) (hy : aeval env y = some (.int k n)) :
    ValM md P c ⟨dst, .binOp .add T x y T', ty, pos, af, gd⟩ env G (.int k (k.wrap (m + n))) :=
  val_int hx hy fun w => ⟨_, .int .., fun w' => by simp [binOp, Op.intArith]⟩
theorem val_sub_w {T T' : TypeId} {x y : Operand} {k : IntKind} {m n : Int} (hx : aeval env x = some (.int k m)) (hy : aeval env y = some (.int k n)) :
    ValM md P c ⟨dst, .binOp .sub T x y T', ty, pos, af, gd⟩ env G (.int k (k.wrap (m - n))) :=
  val_int hx hy fun w => ⟨_, .int .., fun w' => by simp [binOp, Op.intArith]⟩
theorem val_rem {T T' : TypeId} {x y : Operand} {k : IntKind} {m n : Int} (hx : aeval env x = some (.int k m)) (hy : aeval env y = some (.int k n)) (h : n ≠ 0) :
    ValM md P c ⟨dst, .binOp .rem T x y T', ty, pos, af, gd⟩ env G (.int k (m.tmod n)) :=
  val_int hx hy fun w => ⟨_, .int .., fun w' => by simp [binOp, Op.intDiv, h]⟩
theorem val_quo {T T' : TypeId} {x y : Operand} {k : IntKind} {m n : Int} (hx : aeval env x = some (.int k m)) (hy : aeval env y = some (.int k n)) (h : n ≠ 0) :
    ValM md P c ⟨dst, .binOp .quo T x y T', ty, pos, af, gd⟩ env G (.int k (k.wrap (m.tdiv n))) :=
  val_int hx hy fun w => ⟨_, .int .., fun w' => by simp [binOp, Op.intDiv, h]⟩
theorem val_lss {T T' : TypeId} {x y : Operand} {k : IntKind} {m n : Int} (hx : aeval env x = some (.int k m)) (hy : aeval env y = some (.int k n)) :
    ValM md P c ⟨dst, .binOp .lss T x y T', ty, pos, af, gd⟩ env G (.bool (decide (m < n))) :=
  val_int hx hy fun w => ⟨_, .bool .., fun w' => by simp [binOp, Op.intCmp]⟩
theorem val_leq {T T' : TypeId} {x y : Operand} {k : IntKind} {m n : Int} (hx : aeval env x = some (.int k m)) (hy : aeval env y = some (.int k n)) :
    ValM md P c ⟨dst, .binOp .leq T x y T', ty, pos, af, gd⟩ env G (.bool (decide (m ≤ n))) :=
  val_int hx hy fun w => ⟨_, .bool .., fun w' => by simp [binOp, Op.intCmp]⟩
theorem val_gtr {T T' : TypeId} {x y : Operand} {k : IntKind} {m n : Int} (hx : aeval env x = some (.int k m)) (hy : aeval env y = some (.int k n)) :
    ValM md P c ⟨dst, .binOp .gtr T x y T', ty, pos, af, gd⟩ env G (.bool (decide (n < m))) :=
  val_int hx hy fun w => ⟨_, .bool .., fun w' => by simp [binOp, Op.intCmp]⟩
theorem val_geq {T T' : TypeId} {x y : Operand} {k : IntKind} {m n : Int} (hx : aeval env x = some (.int k m)) (hy : aeval env y = some (.int k n)) :
    ValM md P c ⟨dst, .binOp .geq T x y T', ty, pos, af, gd⟩ env G (.bool (decide (n ≤ m))) :=
  val_int hx hy fun w => ⟨_, .bool .., fun w' => by simp [binOp, Op.intCmp]⟩
theorem val_eql {T T' : TypeId} {x y : Operand} {k : IntKind} {m n : Int} (hx : aeval env x = some (.int k m)) (hy : aeval env y = some (.int k n)) :
    ValM md P c ⟨dst, .binOp .eql T x y T', ty, pos, af, gd⟩ env G (.bool (decide (m = n))) :=
  val_int hx hy fun w => ⟨_, .bool .., fun w' => by simp [binOp, Op.intCmp]; rfl⟩
theorem val_neq {T T' : TypeId} {x y : Operand} {k : IntKind} {m n : Int} (hx : aeval env x = some (.int k m)) (hy : aeval env y = some (.int k n)) :
    ValM md P c ⟨dst, .binOp .neq T x y T', ty, pos, af, gd⟩ env G (.bool (!decide (m = n))) :=
  val_int hx hy fun w => ⟨_, .bool .., fun w' => by simp [binOp, Op.intCmp]; rfl⟩

theorem equalIn_bool {T s b' : Nat} {z : Option Value} (hT : TyI P T .bool s z b') (d : Nat) (m n : Bool) (w : World) : (Op.equalIn (d + 1) T (.bool m) (.bool n)).run P w = .ok (m == n) w := by
  simp [Op.equalIn, hT.run_und]
theorem equal_bool {T s b' : Nat} {z : Option Value} (hT : TyI P T .bool s z b') (m n : Bool) (w : World) : (Op.equal T (.bool m) (.bool n)).run P w = .ok (m == n) w := equalIn_bool hT 9999 m n w
theorem equalIn_ptr_nil {T E s b' : Nat} {z : Option Value} (hT : TyI P T (.pointer E) s z b') (d : Nat) (p : Option Addr) (w : World) : (Op.equalIn (d + 1) T (.pointer p) (.pointer none)).run P w = .ok p.isNone w := by
  cases p <;> simp [Op.equalIn, hT.run_und]
theorem equal_ptr_nil {T E s b' : Nat} {z : Option Value} (hT : TyI P T (.pointer E) s z b') (p : Option Addr) (w : World) : (Op.equal T (.pointer p) (.pointer none)).run P w = .ok p.isNone w := equalIn_ptr_nil hT 9999 p w
theorem binOp_eql_bool (T : TypeId) (m n : Bool) : binOp .eql T (.bool m) (.bool n) = (do pure (.bool (← Op.equal T (.bool m) (.bool n)))) := rfl
theorem binOp_neq_bool (T : TypeId) (m n : Bool) : binOp .neq T (.bool m) (.bool n) = (do pure (.bool (!(← Op.equal T (.bool m) (.bool n))))) := rfl
theorem binOp_eql_ptr (T : TypeId) (m n : Option Addr) : binOp .eql T (.pointer m) (.pointer n) = (do pure (.bool (← Op.equal T (.pointer m) (.pointer n)))) := rfl
theorem binOp_neq_ptr (T : TypeId) (m n : Option Addr) : binOp .neq T (.pointer m) (.pointer n) = (do pure (.bool (!(← Op.equal T (.pointer m) (.pointer n))))) := rfl
theorem val_bool_eql {T T' : TypeId} {s b' : Nat} {z : Option Value} {x y : Operand} {m n : Bool} (hT : TyI P T .bool s z b') (hx : aeval env x = some (.bool m)) (hy : aeval env y = some (.bool n)) :
    ValM md P c ⟨dst, .binOp .eql T x y T', ty, pos, af, gd⟩ env G (.bool (m == n)) := fun a w hs => by
  refine ⟨_, .bool _, fun w' _ => ?_⟩
  simp [execOp, rep_bool (hs.eval hx), rep_bool (hs.eval hy), eqGuard_bool, binOp_eql_bool, binOp_neq_bool, equal_bool hT]
theorem val_bool_neq {T T' : TypeId} {s b' : Nat} {z : Option Value} {x y : Operand} {m n : Bool} (hT : TyI P T .bool s z b') (hx : aeval env x = some (.bool m)) (hy : aeval env y = some (.bool n)) :
    ValM md P c ⟨dst, .binOp .neq T x y T', ty, pos, af, gd⟩ env G (.bool (!(m == n))) := fun a w hs => by
  refine ⟨_, .bool _, fun w' _ => ?_⟩
  simp [execOp, rep_bool (hs.eval hx), rep_bool (hs.eval hy), eqGuard_bool, binOp_eql_bool, binOp_neq_bool, equal_bool hT]
theorem val_str_eql {T T' : TypeId} {x y : Operand} {m n : ByteArray} (hx : aeval env x = some (.str m)) (hy : aeval env y = some (.str n)) :
    ValM md P c ⟨dst, .binOp .eql T x y T', ty, pos, af, gd⟩ env G (.bool (m.toList == n.toList)) := fun a w hs => by
  refine ⟨_, .bool _, fun w' _ => ?_⟩
  simp [execOp, rep_str (hs.eval hx), rep_str (hs.eval hy), eqGuard_str, binOp, Op.stringOp]
theorem val_str_neq {T T' : TypeId} {x y : Operand} {m n : ByteArray} (hx : aeval env x = some (.str m)) (hy : aeval env y = some (.str n)) :
    ValM md P c ⟨dst, .binOp .neq T x y T', ty, pos, af, gd⟩ env G (.bool (!(m.toList == n.toList))) := fun a w hs => by
  refine ⟨_, .bool _, fun w' _ => ?_⟩
  simp [execOp, rep_str (hs.eval hx), rep_str (hs.eval hy), eqGuard_str, binOp, Op.stringOp]
theorem val_str_lss {T T' : TypeId} {x y : Operand} {m n : ByteArray} (hx : aeval env x = some (.str m)) (hy : aeval env y = some (.str n)) :
    ValM md P c ⟨dst, .binOp .lss T x y T', ty, pos, af, gd⟩ env G (.bool (Op.bytesLess m.toList n.toList)) := fun a w hs => by
  refine ⟨_, .bool _, fun w' _ => ?_⟩
  simp [execOp, rep_str (hs.eval hx), rep_str (hs.eval hy), eqGuard_str, binOp, Op.stringOp]
theorem val_str_gtr {T T' : TypeId} {x y : Operand} {m n : ByteArray} (hx : aeval env x = some (.str m)) (hy : aeval env y = some (.str n)) :
    ValM md P c ⟨dst, .binOp .gtr T x y T', ty, pos, af, gd⟩ env G (.bool (!(Op.bytesLess m.toList n.toList || m.toList == n.toList))) := fun a w hs => by
  refine ⟨_, .bool _, fun w' _ => ?_⟩
  simp [execOp, rep_str (hs.eval hx), rep_str (hs.eval hy), eqGuard_str, binOp, Op.stringOp]

/-- Is it nil? A pointer's place is enough. -/
def AV.isPtr : AV → Bool
  | .box .. | .elp .. => true
  | _ => false
theorem rep_ptr {w : World} {a : AV} {v : Value} (h : Rep G w a v) (hp : a.isPtr = true) : ∃ p, v = .pointer (some p) := by
  cases h <;> first | exact ⟨_, rfl⟩ | cases hp
theorem rep_nilp {w : World} {v : Value} (h : Rep G w .nilp v) : v = .pointer none := by cases h; rfl
theorem val_ptr_eql_nil {T T' E : TypeId} {s b' : Nat} {z : Option Value} {x y : Operand} {p : AV} (hT : TyI P T (.pointer E) s z b') (hx : aeval env x = some p) (hp : p.isPtr = true) (hy : aeval env y = some .nilp) :
    ValM md P c ⟨dst, .binOp .eql T x y T', ty, pos, af, gd⟩ env G (.bool false) := fun a w hs => by
  obtain ⟨q, hq⟩ := rep_ptr (hs.eval hx) hp
  refine ⟨_, .bool _, fun w' _ => ?_⟩
  simp [execOp, hq, rep_nilp (hs.eval hy), eqGuard_ptr, binOp_eql_ptr, binOp_neq_ptr, equal_ptr_nil hT]
theorem val_ptr_neq_nil {T T' E : TypeId} {s b' : Nat} {z : Option Value} {x y : Operand} {p : AV} (hT : TyI P T (.pointer E) s z b') (hx : aeval env x = some p) (hp : p.isPtr = true) (hy : aeval env y = some .nilp) :
    ValM md P c ⟨dst, .binOp .neq T x y T', ty, pos, af, gd⟩ env G (.bool true) := fun a w hs => by
  obtain ⟨q, hq⟩ := rep_ptr (hs.eval hx) hp
  refine ⟨_, .bool _, fun w' _ => ?_⟩
  simp [execOp, hq, rep_nilp (hs.eval hy), eqGuard_ptr, binOp_eql_ptr, binOp_neq_ptr, equal_ptr_nil hT]
theorem val_nil_eql_nil {T T' E : TypeId} {s b' : Nat} {z : Option Value} {x y : Operand} (hT : TyI P T (.pointer E) s z b') (hx : aeval env x = some .nilp) (hy : aeval env y = some .nilp) :
    ValM md P c ⟨dst, .binOp .eql T x y T', ty, pos, af, gd⟩ env G (.bool true) := fun a w hs => by
  refine ⟨_, .bool _, fun w' _ => ?_⟩
  simp [execOp, rep_nilp (hs.eval hx), rep_nilp (hs.eval hy), eqGuard_ptr, binOp_eql_ptr, binOp_neq_ptr, equal_ptr_nil hT]
theorem val_nil_neq_nil {T T' E : TypeId} {s b' : Nat} {z : Option Value} {x y : Operand} (hT : TyI P T (.pointer E) s z b') (hx : aeval env x = some .nilp) (hy : aeval env y = some .nilp) :
    ValM md P c ⟨dst, .binOp .neq T x y T', ty, pos, af, gd⟩ env G (.bool false) := fun a w hs => by
  refine ⟨_, .bool _, fun w' _ => ?_⟩
  simp [execOp, rep_nilp (hs.eval hx), rep_nilp (hs.eval hy), eqGuard_ptr, binOp_eql_ptr, binOp_neq_ptr, equal_ptr_nil hT]
theorem val_nilCheck {x : Operand} {p : AV} (hx : aeval env x = some p) (hp : p.isPtr = true) : ValM md P c ⟨dst, .nilCheck x, ty, pos, af, gd⟩ env G p := fun a w hs => by
  obtain ⟨q, hq⟩ := rep_ptr (hs.eval hx) hp
  refine ⟨_, hq ▸ hs.eval hx, fun w' _ => ?_⟩
  simp [execOp, hq]

theorem val_not {T : TypeId} {x : Operand} {m : Bool} (hx : aeval env x = some (.bool m)) : ValM md P c ⟨dst, .unOp .not T x, ty, pos, af, gd⟩ env G (.bool (!m)) := fun a w hs => by
  refine ⟨_, .bool _, fun w' _ => ?_⟩
  simp [execOp, rep_bool (hs.eval hx), Op.unary]
theorem val_neg {T : TypeId} {x : Operand} {m : Int} (hx : aeval env x = some (.int .i64 m)) (h : -9223372036854775808 ≤ -m ∧ -m ≤ 9223372036854775807) : ValM md P c ⟨dst, .unOp .neg T x, ty, pos, af, gd⟩ env G (.int .i64 (-m)) := fun a w hs => by
  refine ⟨_, .int .., fun w' _ => ?_⟩
  simp [execOp, rep_int (hs.eval hx), Op.unary, Op.intArith, wrap64_id h]

/-! ### Lengths, parts of tuples, the greater and the lesser of two -/
theorem val_len {T T' E : TypeId} {s b' : Nat} {z : Option Value} {x : Operand} {b : AV} {l : List AV} (hT : TyI P T (.slice E) s z b') (hx : aeval env x = some b) (hv : b.view G = some l) :
    ValM md P c ⟨dst, .call ⟨.builtin .len, #[x], #[T]⟩, ty, pos, af, gd⟩ env G (.int .i64 (l.length : Int)) := fun a w hs => by
  obtain ⟨A, cp, h⟩ := view_len hs.sim (hs.eval hx) hv
  refine ⟨_, .int .., fun w' _ => ?_⟩
  simp [execOp, resolve, invoke, builtin, Builtin.len_, h, hT.run_und, goInt]
theorem val_len_str {T : TypeId} {s b' : Nat} {z : Option Value} {x : Operand} {m : ByteArray} (hT : TyI P T .string s z b') (hx : aeval env x = some (.str m)) :
    ValM md P c ⟨dst, .call ⟨.builtin .len, #[x], #[T]⟩, ty, pos, af, gd⟩ env G (.int .i64 (m.size : Int)) := fun a w hs => by
  refine ⟨_, .int .., fun w' _ => ?_⟩
  simp [execOp, resolve, invoke, builtin, Builtin.len_, rep_str (hs.eval hx), hT.run_und, goInt]
theorem val_max {x y : Operand} {k : IntKind} {m n : Int} {at_ : Array TypeId} (hx : aeval env x = some (.int k m)) (hy : aeval env y = some (.int k n)) :
    ValM md P c ⟨dst, .call ⟨.builtin .max, #[x, y], at_⟩, ty, pos, af, gd⟩ env G (.int k (max m n)) := fun a w hs => by
  refine ⟨_, .int .., fun w' _ => ?_⟩
  simp [execOp, resolve, invoke, builtin, Builtin.max_, Builtin.max2, rep_int (hs.eval hx), rep_int (hs.eval hy)]
  omega
theorem val_min {x y : Operand} {k : IntKind} {m n : Int} {at_ : Array TypeId} (hx : aeval env x = some (.int k m)) (hy : aeval env y = some (.int k n)) :
    ValM md P c ⟨dst, .call ⟨.builtin .min, #[x, y], at_⟩, ty, pos, af, gd⟩ env G (.int k (min m n)) := fun a w hs => by
  refine ⟨_, .int .., fun w' _ => ?_⟩
  simp [execOp, resolve, invoke, builtin, Builtin.min_, Builtin.min2, rep_int (hs.eval hx), rep_int (hs.eval hy)]
  omega
theorem val_extract {x : Operand} {l : List AV} {i : Nat} {av : AV} (hx : aeval env x = some (.tup l)) (hi : l[i]? = some av) : ValM md P c ⟨dst, .extract x i, ty, pos, af, gd⟩ env G av := fun a w hs => by
  have hr := hs.eval hx
  generalize hu : a.eval x = u at hr
  cases hr with
  | tup _ vs hl h =>
    have hlt : i < l.length := by
      rcases Nat.lt_or_ge i l.length with h' | h'
      · exact h'
      · rw [List.getElem?_eq_none h'] at hi; cases hi
    have hav : l[i] = av := by rw [List.getElem?_eq_getElem hlt] at hi; exact Option.some.inj hi
    refine ⟨vs[i]'(by omega), hav ▸ h i hlt (by omega), fun w' _ => ?_⟩
    simp [execOp, hu, Instr.extract, List.getElem?_eq_getElem (show i < vs.length by omega)]

theorem val_makeFunc {f : Fn} {xs : Array Operand} {caps : List AV} (hx : xs.toList.mapM (aeval env) = some caps) : ValM md P c ⟨dst, .makeFunc f #[] xs, ty, pos, af, gd⟩ env G (.fn f caps) := fun a w hs => by
  have key : ∀ (l : List Operand) (caps : List AV), l.mapM (aeval env) = some caps → caps.length = (l.map a.eval).length ∧ ∀ i (h1 : i < caps.length) (h2 : i < (l.map a.eval).length), Rep G w caps[i] (l.map a.eval)[i] := by
    intro l
    induction l with
    | nil => intro caps h; simp at h; subst h; exact ⟨rfl, fun i h => by simp at h⟩
    | cons x l ih =>
      intro caps h
      simp only [List.mapM_cons, Option.bind_eq_bind, Option.bind_eq_some_iff, Option.pure_def, Option.some.injEq] at h
      obtain ⟨v, hv, vs, hvs, rfl⟩ := h
      obtain ⟨h1, h2⟩ := ih vs hvs
      refine ⟨by simpa using h1, fun i hi1 hi2 => ?_⟩
      cases i with
      | zero => exact hs.eval hv
      | succ i => exact h2 i (by simpa using hi1) (by simpa using hi2)
  obtain ⟨h1, h2⟩ := key _ _ hx
  refine ⟨.func f #[] (xs.toList.map a.eval).toArray, .fn f caps _ h1 h2, fun w' _ => ?_⟩
  have e : Array.map a.eval xs = (xs.toList.map a.eval).toArray := by apply Array.ext'; simp
  simp [execOp, Instr.makeFunc, e]
end
end Go.Proofs.Ytgedefcjngofkaa.AM

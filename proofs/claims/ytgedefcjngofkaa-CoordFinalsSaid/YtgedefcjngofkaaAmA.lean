/- The abstract machine: values, heaps, operations, calls, rows. -/
import Derived.Tactics
import Derived.OrdersHeld
import Derived.Laws.World
import Derived.Laws.Entries
import Derived.Laws.Cells
import Derived.Laws.Sem
import Derived.Laws.Append
import Derived.Laws.CopyRow
import Derived.Orders
import Derived.Laws.AppendOwn
import Derived.DeepKeys4
import Derived.Carry
/- The abstract machine, part 1: abstract values and heaps, what they say of a world, and how that is kept. -/
set_option linter.unusedVariables false
set_option linter.unusedSimpArgs false
namespace Go.Proofs.Ytgedefcjngofkaa.AM
open Go

/-- An abstract value. -/
inductive AV where
  | unk
  | int (k : IntKind) (n : Int)
  | bool (b : Bool)
  | str (s : ByteArray)
  | agg (cs : List AV)
  | tup (vs : List AV)
  | imm (l : List AV)
  | nil0
  | own (r sz o n : Nat)
  | ownc (r sz o n c : Nat)
  | nilp
  | box (r off : Nat)
  | elp (b : AV) (i off : Nat)
  | map (r : Nat)
  | nilm
  | fn (f : Fn) (caps : List AV)
  | nilf
  deriving Inhabited

def AV.cells : AV → List AV
  | .agg cs => cs
  | v => [v]

/-- What the abstract heap knows of a block: a variable, a row of elements, or a map. -/
inductive ARow where
  | box (v : AV)
  | row (sz : Nat) (l : List AV)
  | map (es : List (AV × AV))
  | mapb (es : List (AV × AV)) (bs : List Nat) (clk : Nat)
  | iter (m since : Nat) (seen : List Nat) (last : Nat)

def AHeap : Type := Nat → Option ARow
def AHeap.set (G : AHeap) (r : Nat) (x : ARow) : AHeap := fun b => if b = r then some x else G b
def AHeap.del (G : AHeap) (r : Nat) : AHeap := fun b => if b = r then none else G b
def AHeap.sub (H G : AHeap) : Prop := ∀ b x, H b = some x → G b = some x

theorem AHeap.get_set (G : AHeap) (r : Nat) (x : ARow) : (G.set r x) r = some x := by simp [AHeap.set]
theorem AHeap.get_set_ne (G : AHeap) {r b : Nat} (x : ARow) (h : b ≠ r) : (G.set r x) b = G b := by simp [AHeap.set, h]
theorem AHeap.get_del_ne (G : AHeap) {r b : Nat} (h : b ≠ r) : (G.del r) b = G b := by simp [AHeap.del, h]
theorem AHeap.sub_refl (G : AHeap) : G.sub G := fun _ _ h => h
theorem AHeap.sub_trans {G H K : AHeap} (h : G.sub H) (h' : H.sub K) : G.sub K := fun b x hx => h' b x (h b x hx)
theorem AHeap.sub_set {H G : AHeap} {r : Nat} {x : ARow} (h : H.sub G) (hr : G r = none) : H.sub (G.set r x) := fun b y hb => by
  have h1 := h b y hb
  have : b ≠ r := fun e => by subst e; rw [hr] at h1; cases h1
  rw [AHeap.get_set_ne _ _ this]; exact h1
theorem AHeap.del_sub (G : AHeap) (r : Nat) : (G.del r).sub G := fun b x h => by
  unfold AHeap.del at h; split at h
  · cases h
  · exact h
theorem AHeap.ext {G H : AHeap} (h : ∀ b, G b = H b) : G = H := funext h
theorem AHeap.set_set (G : AHeap) (r : Nat) (x y : ARow) : (G.set r x).set r y = G.set r y := AHeap.ext fun b => by
  unfold AHeap.set; split <;> rfl
theorem AHeap.set_same (G : AHeap) (r : Nat) (x : ARow) (h : G r = some x) : G.set r x = G := AHeap.ext fun b => by
  unfold AHeap.set; split
  · rename_i e; rw [e, h]
  · rfl

/-- An abstract value stands for a value. -/
inductive Rep (G : AHeap) (w : World) : AV → Value → Prop
  | unk (v : Value) : Rep G w .unk v
  | int (k : IntKind) (n : Int) : Rep G w (.int k n) (.int k n)
  | bool (b : Bool) : Rep G w (.bool b) (.bool b)
  | str (s : ByteArray) : Rep G w (.str s) (.string s)
  | agg (cs : List AV) (vs : List Value) (hl : cs.length = vs.length)
      (h : ∀ i (h1 : i < cs.length) (h2 : i < vs.length), Rep G w cs[i] vs[i]) : Rep G w (.agg cs) (.agg vs.toArray)
  | tup (cs : List AV) (vs : List Value) (hl : cs.length = vs.length)
      (h : ∀ i (h1 : i < cs.length) (h2 : i < vs.length), Rep G w cs[i] vs[i]) : Rep G w (.tup cs) (.tuple vs.toArray)
  | nil0 (A : Option Addr) : Rep G w .nil0 (.slice A 0 0)
  | imm0 (A : Option Addr) (c : Nat) : Rep G w (.imm []) (.slice A 0 c)
  | imm (l : List AV) (ad : Addr) (c sz : Nat) (u : Nat → Nat → Value) (hc : l.length ≤ c) (hG : G ad.block = none)
      (hb : ad.block < w.heap.size) (hsz : ∀ i (h : i < l.length), l[i].cells.length = sz)
      (hcell : ∀ i j, i < l.length → j < sz → w.cell? (ad.add (i * sz + j)) = some (u i j))
      (hrep : ∀ i (h : i < l.length) j (hj : j < l[i].cells.length), Rep G w (l[i].cells[j]) (u i j)) :
      Rep G w (.imm l) (.slice (some ad) l.length c)
  | own (r sz o n c : Nat) (hc : n ≤ c) (hs : ∃ T N, w.shape? r = some (T, N) ∧ (o + c) * sz ≤ N) :
      Rep G w (.own r sz o n) (.slice (some ⟨r, o * sz, none⟩) n c)
  | ownc (r sz o n c : Nat) (hc : n ≤ c) (hs : ∃ T N, w.shape? r = some (T, N) ∧ (o + c) * sz ≤ N) :
      Rep G w (.ownc r sz o n c) (.slice (some ⟨r, o * sz, none⟩) n c)
  | nilp : Rep G w .nilp (.pointer none)
  | box (r off : Nat) (hb : r < w.heap.size) : Rep G w (.box r off) (.pointer (some ⟨r, off, none⟩))
  | elpI (l : List AV) (k off : Nat) (p : Addr) (u : Nat → Value) (hG : G p.block = none) (hb : p.block < w.heap.size) (hk : k < l.length)
      (hcell : ∀ j, off + j < l[k].cells.length → w.cell? (p.add j) = some (u j))
      (hrep : ∀ j (hj : off + j < l[k].cells.length), Rep G w (l[k].cells[off + j]) (u j)) : Rep G w (.elp (.imm l) k off) (.pointer (some p))
  | elpO (r sz o n k off : Nat) (hb : r < w.heap.size) : Rep G w (.elp (.own r sz o n) k off) (.pointer (some ⟨r, (o + k) * sz + off, none⟩))
  | map (r : Nat) (hb : r < w.heap.size) : Rep G w (.map r) (.map (some r))
  | nilm : Rep G w .nilm (.map none)
  | fn (f : Fn) (cs : List AV) (vs : List Value) (hl : cs.length = vs.length)
      (h : ∀ i (h1 : i < cs.length) (h2 : i < vs.length), Rep G w cs[i] vs[i]) : Rep G w (.fn f cs) (.func f #[] vs.toArray)
  | nilf : Rep G w .nilf .nilFunc

/-- From (G, w) to (G', w') only the old blocks of D may have turned, and none that G does not list. -/
structure Ext (G : AHeap) (w : World) (D : Nat → Prop) (G' : AHeap) (w' : World) : Prop where
  os : w'.os = w.os
  tape : w'.tape = w.tape
  output : w'.output = w.output
  size : w.heap.size ≤ w'.heap.size
  same : ∀ b, b < w.heap.size → ¬ D b → w'.heap[b]? = w.heap[b]?
  shape : ∀ b, b < w.heap.size → w'.shape? b = w.shape? b
  dom : ∀ b, b < w.heap.size → G b = none → G' b = none
  lists : ∀ b, D b → G b ≠ none

theorem Ext.refl (G : AHeap) (w : World) : Ext G w (fun _ => False) G w :=
  ⟨rfl, rfl, rfl, Nat.le_refl _, fun _ _ _ => rfl, fun _ _ => rfl, fun _ _ h => h, fun _ h => h.elim⟩

theorem Ext.weaken {G G' : AHeap} {w w' : World} {D D' : Nat → Prop} (h : Ext G w D G' w') (hD : ∀ b, D b → D' b) (hl : ∀ b, D' b → G b ≠ none) : Ext G w D' G' w' :=
  ⟨h.os, h.tape, h.output, h.size, fun b hb hn => h.same b hb (fun hd => hn (hD b hd)), h.shape, h.dom, hl⟩

theorem Ext.trans {G0 G1 G2 : AHeap} {w0 w1 w2 : World} {D D' : Nat → Prop} (h : Ext G0 w0 D G1 w1) (h' : Ext G1 w1 D' G2 w2)
    (hD : ∀ b, b < w0.heap.size → D' b → D b) : Ext G0 w0 D G2 w2 where
  os := h'.os.trans h.os
  tape := h'.tape.trans h.tape
  output := h'.output.trans h.output
  size := Nat.le_trans h.size h'.size
  same := fun b hb hn => (h'.same b (Nat.lt_of_lt_of_le hb h.size) (fun hd => hn (hD b hb hd))).trans (h.same b hb hn)
  shape := fun b hb => (h'.shape b (Nat.lt_of_lt_of_le hb h.size)).trans (h.shape b hb)
  dom := fun b hb hg => h'.dom b (Nat.lt_of_lt_of_le hb h.size) (h.dom b hb hg)
  lists := h.lists

theorem cell_of_block {w w' : World} {a : Addr} (h : w'.heap[a.block]? = w.heap[a.block]?) : w'.cell? a = w.cell? a := by
  unfold World.cell?; rw [h]

theorem add_block (a : Addr) (n : Nat) : (a.add n).block = a.block := by unfold Addr.add; split <;> rfl
theorem add_add (a : Addr) (m n : Nat) : (a.add m).add n = a.add (m + n) := by
  unfold Addr.add
  by_cases hm : m = 0
  · subst hm; simp
  · by_cases hn : n = 0
    · subst hn; simp [hm]
    · simp [hm, hn, Nat.add_assoc]
theorem add_mk (r o n : Nat) : (⟨r, o, none⟩ : Addr).add n = ⟨r, o + n, none⟩ := by
  unfold Addr.add; split
  · rename_i h; subst h; rfl
  · rfl

theorem Ext.cell {G G' : AHeap} {w w' : World} {D : Nat → Prop} (h : Ext G w D G' w') {a : Addr} (hb : a.block < w.heap.size) (hG : G a.block = none) :
    w'.cell? a = w.cell? a := cell_of_block (h.same _ hb (fun hd => h.lists _ hd hG))

theorem shape_lt {w : World} {r : Nat} {x : TypeId × Nat} (h : w.shape? r = some x) : r < w.heap.size := by
  unfold World.shape? at h
  rcases Nat.lt_or_ge r w.heap.size with h' | h'
  · exact h'
  · simp [Array.getElem?_eq_none h'] at h

theorem Rep.mono {G G' : AHeap} {w w' : World} {D : Nat → Prop} (he : Ext G w D G' w') {a : AV} {v : Value} (h : Rep G w a v) : Rep G' w' a v := by
  induction h with
  | unk v => exact .unk v
  | int k n => exact .int k n
  | bool b => exact .bool b
  | str s => exact .str s
  | agg cs vs hl _ ih => exact .agg cs vs hl ih
  | tup cs vs hl _ ih => exact .tup cs vs hl ih
  | nil0 A => exact .nil0 A
  | imm0 A c => exact .imm0 A c
  | imm l ad c sz u hc hG hb hsz hcell _ ih =>
    refine .imm l ad c sz u hc (he.dom _ hb hG) (Nat.lt_of_lt_of_le hb he.size) hsz (fun i j hi hj => ?_) ih
    rw [he.cell (by rw [add_block]; exact hb) (by rw [add_block]; exact hG)]
    exact hcell i j hi hj
  | own r sz o n c hc hs =>
    obtain ⟨T, N, h1, h2⟩ := hs
    exact .own r sz o n c hc ⟨T, N, (he.shape r (shape_lt h1)).trans h1, h2⟩
  | ownc r sz o n c hc hs =>
    obtain ⟨T, N, h1, h2⟩ := hs
    exact .ownc r sz o n c hc ⟨T, N, (he.shape r (shape_lt h1)).trans h1, h2⟩
  | nilp => exact .nilp
  | box r off hb => exact .box r off (Nat.lt_of_lt_of_le hb he.size)
  | elpI l k off p u hG hb hk hcell _ ih =>
    refine .elpI l k off p u (he.dom _ hb hG) (Nat.lt_of_lt_of_le hb he.size) hk (fun j hj => ?_) ih
    rw [he.cell (by rw [add_block]; exact hb) (by rw [add_block]; exact hG)]
    exact hcell j hj
  | elpO r sz o n k off hb => exact .elpO r sz o n k off (Nat.lt_of_lt_of_le hb he.size)
  | map r hb => exact .map r (Nat.lt_of_lt_of_le hb he.size)
  | nilm => exact .nilm
  | fn f cs vs hl _ ih => exact .fn f cs vs hl ih
  | nilf => exact .nilf

/-- A value's cells stand for its abstract cells. -/
theorem Rep.cells {G : AHeap} {w : World} {a : AV} {v : Value} (h : Rep G w a v) (hu : a ≠ .unk) :
    a.cells.length = v.cells.size ∧ ∀ j (hj : j < a.cells.length) (hj' : j < v.cells.size), Rep G w a.cells[j] v.cells[j] := by
  have one : ∀ (a : AV) (v : Value), a.cells = [a] → v.cells = #[v] → Rep G w a v →
      a.cells.length = v.cells.size ∧ ∀ j (hj : j < a.cells.length) (hj' : j < v.cells.size), Rep G w a.cells[j] v.cells[j] := by
    intro a v ha hv h
    refine ⟨by rw [ha, hv]; rfl, fun j hj hj' => ?_⟩
    have h0 : j = 0 := by rw [ha] at hj; simpa using hj
    subst h0
    simpa [ha, hv] using h
  cases h with
  | unk v => exact absurd rfl hu
  | agg cs vs hl h =>
    refine ⟨by simpa [AV.cells, Value.cells] using hl, fun j hj hj' => ?_⟩
    have h2 : j < vs.length := by simpa [Value.cells] using hj'
    have h1 := h j hj h2
    show Rep G w cs[j] (vs.toArray[j]'(by simpa using h2))
    rw [List.getElem_toArray]
    exact h1
  | _ => exact one _ _ rfl rfl (by constructor <;> assumption)

/-- What is known of a block's row. -/
def RowRep (G : AHeap) (w : World) (b : Nat) : ARow → Prop
  | .box v => ∃ C T, w.heap[b]? = some (.cells C T (0, 0)) ∧ v.cells.length ≤ C.size ∧ ∀ j (h : j < v.cells.length), ∃ u, C[j]? = some u ∧ Rep G w v.cells[j] u
  | .row sz l => ∃ C T, w.heap[b]? = some (.cells C T (0, 0)) ∧ l.length * sz ≤ C.size ∧ (∀ i (h : i < l.length), l[i].cells.length = sz) ∧
      ∀ i (h : i < l.length) j (hj : j < l[i].cells.length), ∃ v, C[i * sz + j]? = some v ∧ Rep G w (l[i].cells[j]) v
  | .map es => ∃ (ents : Array MapEntry) (clock : Nat), w.heap[b]? = some (.map ents clock) ∧ ents.size = es.length ∧
      (∀ i (h : i < es.length) (h' : i < ents.size), Rep G w es[i].1 ents[i].key ∧ Rep G w es[i].2 ents[i].val) ∧
      (∀ i (h : i < ents.size), ents[i].born < clock) ∧ (∀ i j (h : i < ents.size) (h' : j < ents.size), i < j → ents[i].born < ents[j].born)
  | .mapb es bs clk => ∃ (ents : Array MapEntry), w.heap[b]? = some (.map ents clk) ∧ ents.size = es.length ∧
      (∀ i (h : i < es.length) (h' : i < ents.size), Rep G w es[i].1 ents[i].key ∧ Rep G w es[i].2 ents[i].val) ∧ ents.toList.map (·.born) = bs ∧ (∀ x ∈ bs, x < clk) ∧ bs.Pairwise (· < ·)
  | .iter m since seen last => w.heap[b]? = some (.mapIter (some m) since seen.toArray last)

def Sim (G : AHeap) (w : World) : Prop := ∀ b x, G b = some x → RowRep G w b x

theorem RowRep.lt {G : AHeap} {w : World} {b : Nat} {x : ARow} (h : RowRep G w b x) : b < w.heap.size := by
  rcases Nat.lt_or_ge b w.heap.size with h' | h'
  · exact h'
  · cases x with
    | iter m since seen last => exact absurd (show w.heap[b]? = some _ from h) (by rw [Array.getElem?_eq_none h']; simp)
    | mapb es bs clk => obtain ⟨_, h1, _⟩ := h; rw [Array.getElem?_eq_none h'] at h1; cases h1
    | _ => obtain ⟨_, _, h1, _⟩ := h; rw [Array.getElem?_eq_none h'] at h1; cases h1

theorem Sim.lt {G : AHeap} {w : World} (h : Sim G w) {b : Nat} {x : ARow} (hb : G b = some x) : b < w.heap.size := (h b x hb).lt
theorem Sim.none {G : AHeap} {w : World} (h : Sim G w) {b : Nat} (hb : w.heap.size ≤ b) : G b = none := by
  cases hx : G b with
  | none => rfl
  | some x => exact absurd (h.lt hx) (Nat.not_lt.2 hb)

/-- A row whose block has not turned is kept. -/
theorem RowRep.mono {G G' : AHeap} {w w' : World} {D : Nat → Prop} (he : Ext G w D G' w') {b : Nat} {x : ARow} (hb : w'.heap[b]? = w.heap[b]?)
    (h : RowRep G w b x) : RowRep G' w' b x := by
  cases x with
  | box cs =>
    obtain ⟨C, T, h1, h2, h3⟩ := h
    exact ⟨C, T, hb.trans h1, h2, fun j hj => (h3 j hj).imp fun v hv => ⟨hv.1, hv.2.mono he⟩⟩
  | row sz l =>
    obtain ⟨C, T, h1, h2, h3, h4⟩ := h
    exact ⟨C, T, hb.trans h1, h2, h3, fun i hi j hj => (h4 i hi j hj).imp fun v hv => ⟨hv.1, hv.2.mono he⟩⟩
  | map es =>
    obtain ⟨E, k, h1, h2, h3, h4, h5⟩ := h
    exact ⟨E, k, hb.trans h1, h2, fun i hi hi' => ⟨(h3 i hi hi').1.mono he, (h3 i hi hi').2.mono he⟩, h4, h5⟩
  | mapb es bs clk =>
    obtain ⟨E, h1, h2, h3, h4⟩ := h
    exact ⟨E, hb.trans h1, h2, fun i hi hi' => ⟨(h3 i hi hi').1.mono he, (h3 i hi hi').2.mono he⟩, h4⟩
  | iter m since seen last => exact hb.trans h

/-- What is listed may be forgotten. -/
theorem Ext.forget {G G' : AHeap} (w : World) (h : G'.sub G) : Ext G w (fun _ => False) G' w :=
  have key : ∀ b, G b = none → G' b = none := fun b hg => by
    cases hx : G' b with
    | none => rfl
    | some x => have := h b x hx; rw [hg] at this; cases this
  ⟨rfl, rfl, rfl, Nat.le_refl _, fun _ _ _ => rfl, fun _ _ => rfl, fun b _ hg => key b hg, fun _ h => h.elim⟩

theorem Sim.forget {G G' : AHeap} {w : World} (hs : Sim G w) (h : G'.sub G) : Sim G' w := fun b x hx =>
  (hs b x (h b x hx)).mono (Ext.forget w h) rfl

end Go.Proofs.Ytgedefcjngofkaa.AM

/- The abstract machine, part 2: the state of a call, and the operations that only compute or read. -/
set_option linter.unusedVariables false
set_option linter.unusedSimpArgs false
namespace Go.Proofs.Ytgedefcjngofkaa.AM
open Go

structure Ctx where
  w0 : World
  G0 : AHeap
  D : Nat → Prop
  nt : Nat

abbrev Env := List (Nat × AV)
def Env.get : Env → Nat → Option AV
  | [], _ => none
  | (k, v) :: r, t => match Nat.beq k t with
    | true => some v
    | false => Env.get r t

structure St (c : Ctx) (env : Env) (G : AHeap) (a : Act) (w : World) : Prop where
  sim : Sim G w
  rep : ∀ t v, env.get t = some v → Rep G w v (a.tmps.getD t undef)
  size : a.tmps.size = c.nt
  dfr : a.defers = []
  ext : Ext c.G0 c.w0 c.D G w

/-- Whatever stands for this abstract state has K. -/
def Goal (c : Ctx) (env : Env) (G : AHeap) (K : Act → World → Prop) : Prop := ∀ a w, St c env G a w → K a w

def constAV : Value → AV
  | .int k n => .int k n
  | .bool b => .bool b
  | .string s => .str s
  | .slice _ 0 0 => .nil0
  | .pointer none => .nilp
  | .map none => .nilm
  | .nilFunc => .nilf
  | _ => .unk

theorem constAV_rep (G : AHeap) (w : World) (v : Value) : Rep G w (constAV v) v := by
  cases v with
  | int k n => exact .int ..
  | bool b => exact .bool ..
  | string s => exact .str ..
  | slice A n c =>
    cases n with
    | zero => cases c with
      | zero => exact .nil0 ..
      | succ c => exact .unk _
    | succ n => exact .unk _
  | pointer a => cases a with
    | none => exact .nilp
    | some a => exact .unk _
  | map a => cases a with
    | none => exact .nilm
    | some a => exact .unk _
  | nilFunc => exact .nilf
  | _ => exact .unk _

def aeval (env : Env) : Operand → Option AV
  | .tmp t => env.get t
  | .const v => some (constAV v)
  | .func f => some (.fn (.func f) [])
  | .global _ => none

theorem St.eval {c : Ctx} {env : Env} {G : AHeap} {a : Act} {w : World} (h : St c env G a w) {x : Operand} {v : AV} (hx : aeval env x = some v) : Rep G w v (a.eval x) := by
  cases x with
  | tmp t => exact h.rep t v hx
  | const u => simp only [aeval, Option.some.injEq] at hx; subst hx; exact constAV_rep G w u
  | func f => simp only [aeval, Option.some.injEq] at hx; subst hx; exact .fn (.func f) [] [] rfl (fun i h1 => by simp at h1)
  | global g => simp [aeval] at hx

theorem St.put {c : Ctx} {env : Env} {G : AHeap} {a : Act} {w : World} (h : St c env G a w) {d : Nat} {av : AV} {v : Value} (hd : Nat.blt d c.nt = true) (hv : Rep G w av v) :
    St c ((d, av) :: env) G (a.put (some d) v) w where
  sim := h.sim
  rep := fun t u hu => by
    have hlt : d < a.tmps.size := by rw [h.size]; simpa [Nat.blt_eq] using hd
    simp only [Env.get] at hu
    cases hb : Nat.beq d t with
    | true =>
      have : d = t := Nat.eq_of_beq_eq_true hb
      subst this
      simp only [hb, Option.some.injEq] at hu
      subst hu
      simpa [Act.put, Array.getD, hlt] using hv
    | false =>
      simp only [hb] at hu
      have hne : d ≠ t := fun e => by subst e; rw [Nat.beq_refl] at hb; cases hb
      have := h.rep t u hu
      simpa [Act.put, Array.getElem?_setIfInBounds_ne hne] using this
  size := by simpa [Act.put] using h.size
  dfr := h.dfr
  ext := h.ext

theorem St.put_none {c : Ctx} {env : Env} {G : AHeap} {a : Act} {w : World} (h : St c env G a w) (v : Value) : St c env G (a.put none v) w := h

theorem St.env {c : Ctx} {env env' : Env} {G : AHeap} {a : Act} {w : World} (h : St c env G a w) (he : ∀ t v, env'.get t = some v → env.get t = some v) : St c env' G a w :=
  ⟨h.sim, fun t v hv => h.rep t v (he t v hv), h.size, h.dfr, h.ext⟩

/-- From one world to the next, the temporaries as they are. -/
theorem St.move {c : Ctx} {env : Env} {G G' : AHeap} {a : Act} {w w' : World} {D : Nat → Prop} (h : St c env G a w) (hs : Sim G' w') (he : Ext G w D G' w')
    (hD : ∀ b, b < c.w0.heap.size → D b → c.D b) : St c env G' a w' :=
  ⟨hs, fun t v hv => (h.rep t v hv).mono he, h.size, h.dfr, h.ext.trans he hD⟩

theorem St.forget {c : Ctx} {env : Env} {G G' : AHeap} {a : Act} {w : World} (h : St c env G a w) (hs : G'.sub G) : St c env G' a w :=
  h.move (h.sim.forget hs) (Ext.forget w hs) (fun _ _ h => h.elim)

/-- Only the temporaries of ts are kept in sight. -/
def Env.keep (env : Env) : List Nat → Env
  | [] => []
  | t :: ts => match env.get t with
    | some v => (t, v) :: Env.keep env ts
    | none => Env.keep env ts
theorem Env.keep_get (env : Env) (ts : List Nat) (t : Nat) (v : AV) (h : (env.keep ts).get t = some v) : env.get t = some v := by
  induction ts with
  | nil => simp [Env.keep, Env.get] at h
  | cons x xs ih =>
    simp only [Env.keep] at h
    cases hx : env.get x with
    | none => rw [hx] at h; exact ih h
    | some u =>
      rw [hx] at h
      simp only [Env.get] at h
      cases hb : Nat.beq x t with
      | true => rw [hb] at h; rw [← Nat.eq_of_beq_eq_true hb, hx]; exact h
      | false => rw [hb] at h; exact ih h
theorem Goal.keep {c : Ctx} {env env' : Env} {G : AHeap} {K : Act → World → Prop} (ts : List Nat) (he : env.keep ts = env') (h : Goal c env' G K) : Goal c env G K :=
  fun a w hs => h a w (hs.env fun t v hv => Env.keep_get env ts t v (he ▸ hv))
theorem Goal.forget {c : Ctx} {env : Env} {G G' : AHeap} {K : Act → World → Prop} (hs : G'.sub G) (h : Goal c env G' K) : Goal c env G K := fun a w h' => h a w (h'.forget hs)

/-- The worlds that hold all old blocks as they are. -/
def Same (w w' : World) : Prop := w.heap.size ≤ w'.heap.size ∧ ∀ b, b < w.heap.size → w'.heap[b]? = w.heap[b]?
theorem Same.refl (w : World) : Same w w := ⟨Nat.le_refl _, fun _ _ => rfl⟩
theorem Same.trans {w w' w'' : World} (h : Same w w') (h' : Same w' w'') : Same w w'' := ⟨Nat.le_trans h.1 h'.1, fun b hb => (h'.2 b (Nat.lt_of_lt_of_le hb h.1)).trans (h.2 b hb)⟩
theorem Same.cell {w w' : World} (h : Same w w') {a : Addr} {v : Value} (hc : w.cell? a = some v) : w'.cell? a = some v := by
  have hb : a.block < w.heap.size := by
    rcases Nat.lt_or_ge a.block w.heap.size with h' | h'
    · exact h'
    · unfold World.cell? at hc; simp [Array.getElem?_eq_none h'] at hc
  rw [cell_of_block (h.2 _ hb)]; exact hc

/-- An operation that yields a value that av stands for, whatever is done beside it (m: while the old blocks stay as they are), and changes nothing. -/
def ValM (m : Bool) (P : Program) (c : Ctx) (o : Oper) (env : Env) (G : AHeap) (av : AV) : Prop :=
  ∀ a w, St c env G a w → ∃ v, Rep G w av v ∧ ∀ w', (m = true → Same w w') → (execOp a.eval o).run P w' = .ok (.value v) w'
abbrev Val (P : Program) (c : Ctx) (o : Oper) (env : Env) (G : AHeap) (av : AV) : Prop := ValM true P c o env G av

/-- An operation behind which K holds. -/
def Step (P : Program) (c : Ctx) (o : Oper) (Q : Exit → Act → World → Prop) (env : Env) (G : AHeap) (K : Act → World → Prop) : Prop :=
  ∀ a w, St c env G a w → o.wp P a w K Q

theorem Step.val {P : Program} {c : Ctx} {o : Oper} {Q : Exit → Act → World → Prop} {env : Env} {G : AHeap} {K : Act → World → Prop} {d : Nat} {av : AV}
    (hv : Val P c o env G av) (ho : o.dst = some d) (hd : Nat.blt d c.nt = true) (h : Goal c ((d, av) :: env) G K) : Step P c o Q env G K := fun a w hs => by
  obtain ⟨v, hr, hrun⟩ := hv a w hs
  unfold Oper.wp
  rw [hrun w (fun _ => Same.refl w), Oper.upon_value, ho]
  exact h _ _ (hs.put hd hr)
theorem Step.val_none {P : Program} {c : Ctx} {o : Oper} {Q : Exit → Act → World → Prop} {env : Env} {G : AHeap} {K : Act → World → Prop} {av : AV}
    (hv : Val P c o env G av) (ho : o.dst = none) (h : Goal c env G K) : Step P c o Q env G K := fun a w hs => by
  obtain ⟨v, hr, hrun⟩ := hv a w hs
  unfold Oper.wp
  rw [hrun w (fun _ => Same.refl w), Oper.upon_value, ho]
  exact h _ _ hs

theorem Goal.step {P : Program} {c : Ctx} {ops : Array Oper} {o : Oper} {rest : List Oper} {Q : Exit → Act → World → Prop} {env : Env} {G : AHeap}
    (hg : o.guard = none) (h : Step P c o Q env G (wpList P ops Q rest)) : Goal c env G (wpList P ops Q (o :: rest)) := fun a w hs => by
  unfold wpList
  rw [if_pos (by simp [Region.wanted, hg])]
  exact .inl (h a w hs)

theorem yielded_of {c : Ctx} {ops : Array Oper} {env : Env} {G : AHeap} {a : Act} {w : World} (hs : St c env G a w) {j t : Nat} {b : Bool}
    (hj : (ops[j]?).bind (·.dst) = some t) (ht : env.get t = some (.bool b)) (hlt : Nat.blt t c.nt = true) : yielded ops a.tmps j = some b := by
  have h1 := hs.rep t _ ht
  have h2 : t < a.tmps.size := by rw [hs.size]; simpa [Nat.blt_eq] using hlt
  unfold yielded
  rw [hj]
  simp only [Option.bind_some]
  simp only [Array.getD, h2, dif_pos] at h1
  rw [Array.getElem?_eq_getElem h2]
  cases hv : a.tmps[t] <;> rw [Array.getInternal_eq_getElem, hv] at h1 <;> cases h1
  rfl

theorem rep_undef (G : AHeap) (w : World) : Rep G w (.tup []) undef := .tup [] [] rfl (fun i h => by simp at h)
theorem yielded_und {c : Ctx} {ops : Array Oper} {env : Env} {G : AHeap} {a : Act} {w : World} (hs : St c env G a w) {j t : Nat}
    (hj : (ops[j]?).bind (·.dst) = some t) (ht : env.get t = some (.tup [])) (hlt : Nat.blt t c.nt = true) : yielded ops a.tmps j = none := by
  have h1 := hs.rep t _ ht
  have h2 : t < a.tmps.size := by rw [hs.size]; simpa [Nat.blt_eq] using hlt
  unfold yielded
  rw [hj]
  simp only [Option.bind_some]
  simp only [Array.getD, h2, dif_pos] at h1
  rw [Array.getElem?_eq_getElem h2]
  cases hv : a.tmps[t] <;> rw [Array.getInternal_eq_getElem, hv] at h1 <;> cases h1
theorem Goal.step_und {P : Program} {c : Ctx} {ops : Array Oper} {o : Oper} {rest : List Oper} {Q : Exit → Act → World → Prop} {env : Env} {G : AHeap} {j t d : Nat} {b : Bool}
    (hg : o.guard = some (j, b)) (hj : (ops[j]?).bind (·.dst) = some t) (ht : env.get t = some (.tup [])) (hlt : Nat.blt t c.nt = true)
    (ho : o.dst = some d) (hd : Nat.blt d c.nt = true)
    (h : Goal c ((d, .tup []) :: env) G (wpList P ops Q rest)) : Goal c env G (wpList P ops Q (o :: rest)) := fun a w hs => by
  unfold wpList
  rw [if_neg (by simp [Region.wanted, hg, yielded_und hs hj ht hlt]), ho]
  exact h _ _ (hs.put hd (rep_undef _ _))
theorem Goal.step_yes {P : Program} {c : Ctx} {ops : Array Oper} {o : Oper} {rest : List Oper} {Q : Exit → Act → World → Prop} {env : Env} {G : AHeap} {j t : Nat} {b : Bool}
    (hg : o.guard = some (j, b)) (hj : (ops[j]?).bind (·.dst) = some t) (ht : env.get t = some (.bool b)) (hlt : Nat.blt t c.nt = true)
    (h : Step P c o Q env G (wpList P ops Q rest)) : Goal c env G (wpList P ops Q (o :: rest)) := fun a w hs => by
  unfold wpList
  rw [if_pos (by simp [Region.wanted, hg, yielded_of hs hj ht hlt])]
  exact .inl (h a w hs)
theorem Goal.step_no {P : Program} {c : Ctx} {ops : Array Oper} {o : Oper} {rest : List Oper} {Q : Exit → Act → World → Prop} {env : Env} {G : AHeap} {j t d : Nat} {b b' : Bool}
    (hg : o.guard = some (j, b)) (hj : (ops[j]?).bind (·.dst) = some t) (ht : env.get t = some (.bool b')) (hb : (b' == b) = false) (hlt : Nat.blt t c.nt = true)
    (ho : o.dst = some d) (hd : Nat.blt d c.nt = true)
    (h : Goal c ((d, .tup []) :: env) G (wpList P ops Q rest)) : Goal c env G (wpList P ops Q (o :: rest)) := fun a w hs => by
  unfold wpList
  rw [if_neg (by simp only [Region.wanted, hg, yielded_of hs hj ht hlt]; simpa using hb), ho]
  exact h _ _ (hs.put hd (rep_undef _ _))
theorem Goal.step_no_none {P : Program} {c : Ctx} {ops : Array Oper} {o : Oper} {rest : List Oper} {Q : Exit → Act → World → Prop} {env : Env} {G : AHeap} {j t : Nat} {b b' : Bool}
    (hg : o.guard = some (j, b)) (hj : (ops[j]?).bind (·.dst) = some t) (ht : env.get t = some (.bool b')) (hb : (b' == b) = false) (hlt : Nat.blt t c.nt = true)
    (ho : o.dst = none)
    (h : Goal c env G (wpList P ops Q rest)) : Goal c env G (wpList P ops Q (o :: rest)) := fun a w hs => by
  unfold wpList
  rw [if_neg (by simp only [Region.wanted, hg, yielded_of hs hj ht hlt]; simpa using hb), ho]
  exact h _ _ hs

/-- A Bool in a temporary: true, or false. -/
theorem Goal.split {c : Ctx} {env : Env} {G : AHeap} {K : Act → World → Prop} {b : Bool} (t : Nat) (ht : env.get t = some (.bool b))
    (h1 : b = true → Goal c ((t, .bool true) :: env) G K) (h2 : b = false → Goal c ((t, .bool false) :: env) G K) : Goal c env G K := fun a w hs => by
  have key : ∀ b', b = b' → St c ((t, .bool b') :: env) G a w := fun b' e => hs.env fun t' v hv => by
    simp only [Env.get] at hv
    cases hb : Nat.beq t t' with
    | true => rw [hb] at hv; rw [← Nat.eq_of_beq_eq_true hb, ht, e]; exact hv
    | false => rw [hb] at hv; exact hv
  cases b with
  | true => exact h1 rfl a w (key true rfl)
  | false => exact h2 rfl a w (key false rfl)

/-! ### What the program knows of a type -/
structure TyI (P : Program) (T : TypeId) (d : TypeDesc) (sz : Nat) (z : Option Value) (by_ : Nat) : Prop where
  und : P.underlying T = some d
  info : (P.info? T).map (fun i => (i.size, i.zero, i.bytes)) = some (sz, z, by_)

section
variable {P : Program} {T : TypeId} {d : TypeDesc} {sz by_ : Nat} {z : Option Value}
theorem TyI.run_und (h : TyI P T d sz z by_) (w : World) : (underlying T).run P w = .ok d w := run_underlying h.und w
theorem TyI.run_info (h : TyI P T d sz z by_) (w : World) : ∃ i, (typeInfo T).run P w = .ok i w ∧ P.info? T = some i ∧ i.size = sz ∧ i.zero = z ∧ i.bytes = by_ := by
  have h1 := h.info
  cases hi : P.info? T with
  | none => rw [hi] at h1; cases h1
  | some i =>
    rw [hi] at h1
    simp only [Option.map_some, Option.some.injEq, Prod.mk.injEq] at h1
    exact ⟨i, by simp [typeInfo, hi], rfl, h1.1, h1.2.1, h1.2.2⟩
theorem TyI.run_size (h : TyI P T d sz z by_) (w : World) : (sizeOf T).run P w = .ok sz w := by
  obtain ⟨i, h1, _, h2, _⟩ := h.run_info w
  simp [sizeOf, h1, h2]
theorem TyI.run_zero {zv : Value} (h : TyI P T d sz (some zv) by_) (w : World) : (zeroValue T).run P w = .ok zv w := by
  obtain ⟨i, h1, _, _, h2, _⟩ := h.run_info w
  simp [zeroValue, h1, h2]
def aggDesc : TypeDesc → Bool
  | .struct _ | .array _ _ => true
  | _ => false
theorem TyI.run_isAgg (h : TyI P T d sz z by_) (w : World) : (isAgg T).run P w = .ok (aggDesc d) w := by
  unfold isAgg aggDesc
  simp only [Sem.run_bind, h.run_und, Result.andThen_ok]
  cases d <;> rfl
theorem TyI.run_loadVar_agg (h : TyI P T d sz z by_) (hd : aggDesc d = true) {w : World} {p : Addr} (cs : List Value) (hl : cs.length = sz)
    (hc : ∀ j v, cs[j]? = some v → w.cell? (p.add j) = some v) : (loadVar T p).run P w = .ok (.agg cs.toArray) w := by
  have := run_loadCells_list (P := P) w p cs hc
  rw [hl] at this
  simp [loadVar, h.run_isAgg, hd, h.run_size, this]
theorem TyI.run_loadVar_one (h : TyI P T d sz z by_) (hd : aggDesc d = false) {w : World} {p : Addr} {v : Value} (hc : w.cell? p = some v) : (loadVar T p).run P w = .ok v w := by
  simp [loadVar, h.run_isAgg, hd, hc]
end

/-! ### What a slice shows, and the cells behind a pointer -/
def AV.view (G : AHeap) : AV → Option (List AV)
  | .imm l => some l
  | .nil0 => some []
  | .own r sz o n => match G r with
    | some (.row s l) => if s = sz ∧ o + n ≤ l.length then some ((l.drop o).take n) else none
    | _ => none
  | _ => none

theorem AV.view_own {G : AHeap} {r sz o n : Nat} {l : List AV} (h : G r = some (.row sz l)) (hl : o + n ≤ l.length) : (AV.own r sz o n).view G = some ((l.drop o).take n) := by
  simp [AV.view, h, hl]
theorem AV.view_own_all {G : AHeap} {r sz n : Nat} {l : List AV} (h : G r = some (.row sz l)) (hl : n = l.length) : (AV.own r sz 0 n).view G = some l := by
  subst hl; rw [AV.view_own h (by omega)]; simp

/-- A slice that shows l: a value of that length, whose cells are read at its address. -/
theorem view_rep {G : AHeap} {w : World} {av : AV} {v : Value} {l : List AV} (hs : Sim G w) (h : Rep G w av v) (hv : av.view G = some l) :
    ∃ A n c, v = .slice A n c ∧ n = l.length ∧ n ≤ c ∨ (v = .slice A 0 c ∧ l = [] ∧ n = 0) := by
  cases h with
  | nil0 A => simp only [AV.view, Option.some.injEq] at hv; exact ⟨A, 0, 0, .inr ⟨rfl, hv.symm, rfl⟩⟩
  | imm0 A c => simp only [AV.view, Option.some.injEq] at hv; exact ⟨A, 0, c, .inr ⟨rfl, hv.symm, rfl⟩⟩
  | imm l' ad c sz u hc hG hb hsz hcell hrep => simp only [AV.view, Option.some.injEq] at hv; subst hv; exact ⟨some ad, l'.length, c, .inl ⟨rfl, rfl, hc⟩⟩
  | own r sz o n c hc hsh =>
    simp only [AV.view] at hv
    split at hv
    · split at hv
      · rename_i h1
        injection hv with hv
        exact ⟨_, n, c, .inl ⟨rfl, by rw [← hv]; simp; omega, hc⟩⟩
      · cases hv
    · cases hv
  | _ => simp [AV.view] at hv

theorem view_len {G : AHeap} {w : World} {av : AV} {v : Value} {l : List AV} (hs : Sim G w) (h : Rep G w av v) (hv : av.view G = some l) :
    ∃ A c, v = .slice A l.length c := by
  obtain ⟨A, n, c, h | h⟩ := view_rep hs h hv
  · exact ⟨A, c, by rw [h.1, h.2.1]⟩
  · exact ⟨A, c, by rw [h.1, h.2.1]; rfl⟩

/-- The element k of a slice that shows l: where it lies. -/
theorem view_at {G : AHeap} {w : World} {av : AV} {v : Value} {l : List AV} (hs : Sim G w) (h : Rep G w av v) (hv : av.view G = some l) {k : Nat} (hk : k < l.length) :
    ∃ ad c, v = .slice (some ad) l.length c ∧ Rep G w (.elp av k 0) (.pointer (some (ad.add (k * l[k].cells.length)))) ∧
      ∀ j (hj : j < l[k].cells.length), ∃ u, w.cell? ((ad.add (k * l[k].cells.length)).add j) = some u ∧ Rep G w l[k].cells[j] u := by
  cases h with
  | nil0 A => simp only [AV.view, Option.some.injEq] at hv; subst hv; simp at hk
  | imm0 A c => simp only [AV.view, Option.some.injEq] at hv; subst hv; simp at hk
  | imm l' ad c sz u hc hG hb hsz hcell hrep =>
    simp only [AV.view, Option.some.injEq] at hv
    subst hv
    have e := hsz k hk
    refine ⟨ad, c, rfl, .elpI l' k 0 _ (u k) (by rw [add_block]; exact hG) (by rw [add_block]; exact hb) hk (fun j hj => ?_) (fun j hj => ?_), fun j hj => ⟨u k j, ?_, hrep k hk j hj⟩⟩
    · rw [add_add, e]; exact hcell k j hk (by omega)
    · have := hrep k hk j (by omega); simpa using this
    · rw [add_add, e]; exact hcell k j hk (by omega)
  | own r sz o n c hc hsh =>
    simp only [AV.view] at hv
    split at hv
    · rename_i s l0 hr
      split at hv
      · rename_i h1
        obtain ⟨h1, h2⟩ := h1
        subst h1
        injection hv with hv
        subst hv
        have hkn : k < n := by simp at hk; omega
        have hel : ((l0.drop o).take n)[k] = l0[o + k]'(by omega) := by simp
        obtain ⟨C, T, hb, hsz, hall, hc2⟩ := hs r _ hr
        have e : ((l0.drop o).take n)[k].cells.length = s := by rw [hel]; exact hall (o + k) (by omega)
        have ha : (⟨r, o * s, none⟩ : Addr).add (k * s) = ⟨r, (o + k) * s, none⟩ := by rw [add_mk, Nat.add_mul]
        refine ⟨⟨r, o * s, none⟩, c, ?_, ?_, fun j hj => ?_⟩
        · congr 1; simp; omega
        · rw [e, ha]; exact .elpO r s o n k 0 (by exact (shape_lt hsh.choose_spec.choose_spec.1))
        · have hj' : j < (l0[o + k]'(by omega)).cells.length := by rw [← hel]; exact hj
          obtain ⟨u, hu1, hu2⟩ := hc2 (o + k) (by omega) j hj'
          refine ⟨u, ?_, by simp only [hel]; exact hu2⟩
          rw [e, ha, add_mk]
          simp [World.cell?, hb, hu1]
      · cases hv
    · cases hv
  | _ => simp [AV.view] at hv

def AV.pcells (G : AHeap) : AV → Option (List AV)
  | .box r off => match G r with
    | some (.box v) => if off ≤ v.cells.length then some (v.cells.drop off) else none
    | _ => none
  | .elp b k off => match b.view G with
    | some l => match l[k]? with
      | some e => if off ≤ e.cells.length then some (e.cells.drop off) else none
      | none => none
    | none => none
  | _ => none

theorem pcells_rep {G : AHeap} {w : World} {av : AV} {v : Value} {cs : List AV} (hs : Sim G w) (h : Rep G w av v) (hv : av.pcells G = some cs) :
    ∃ p, v = .pointer (some p) ∧ ∀ j (hj : j < cs.length), ∃ u, w.cell? (p.add j) = some u ∧ Rep G w cs[j] u := by
  cases h with
  | box r off hb =>
    simp only [AV.pcells] at hv
    split at hv
    · rename_i x hr
      split at hv
      · injection hv with hv
        subst hv
        refine ⟨_, rfl, fun j hj => ?_⟩
        obtain ⟨C, T, h1, h2, h3⟩ := hs r _ hr
        have hj' : off + j < x.cells.length := by simp at hj; omega
        obtain ⟨u, hu, hr'⟩ := h3 (off + j) hj'
        refine ⟨u, ?_, by simpa using hr'⟩
        rw [add_mk]
        simp [World.cell?, h1, hu]
      · cases hv
    · cases hv
  | elpI l k off p u hG hb hk hcell hrep =>
    simp only [AV.pcells, AV.view] at hv
    rw [List.getElem?_eq_getElem hk] at hv
    simp only at hv
    split at hv
    · injection hv with hv
      subst hv
      refine ⟨p, rfl, fun j hj => ⟨u j, hcell j (by simp at hj; omega), ?_⟩⟩
      have := hrep j (by simp at hj; omega)
      simpa using this
    · cases hv
  | elpO r sz o n k off hb =>
    simp only [AV.pcells, AV.view] at hv
    split at hv
    · rename_i l hl
      split at hl
      · rename_i s l0 hr
        split at hl
        · rename_i h1
          obtain ⟨h1, h2⟩ := h1
          subst h1
          injection hl with hl
          subst hl
          split at hv
          · rename_i e he
            split at hv
            · injection hv with hv
              subst hv
              have hkn : k < n := by
                rcases Nat.lt_or_ge k n with h' | h'
                · exact h'
                · rw [List.getElem?_eq_none (by simp; omega)] at he; cases he
              have he' : l0[o + k]'(by omega) = e := by
                rw [List.getElem?_eq_getElem (by simp; omega)] at he
                injection he with he
                rw [← he]; simp
              obtain ⟨C, T, hb, hsz, hall, hc2⟩ := hs r _ hr
              refine ⟨_, rfl, fun j hj => ?_⟩
              have hj' : off + j < (l0[o + k]'(by omega)).cells.length := by rw [he']; simp at hj; omega
              obtain ⟨u, hu1, hu2⟩ := hc2 (o + k) (by omega) (off + j) hj'
              refine ⟨u, ?_, by simpa [he'] using hu2⟩
              rw [add_mk]
              simp [World.cell?, hb, Nat.add_assoc, hu1]
            · cases hv
          · cases hv
        · cases hl
      · cases hl
    · cases hv
  | _ => simp [AV.pcells] at hv

/-! ### The operations -/
section
variable {md : Bool} {P : Program} {c : Ctx} {env : Env} {G : AHeap} {dst : Option Tmp} {ty : TypeId} {pos : String} {af : Array Edge} {gd : Option (Nat × Bool)}

theorem val_move {x : Operand} {av : AV} (hx : aeval env x = some av) : ValM md P c ⟨dst, .move x, ty, pos, af, gd⟩ env G av := fun a w hs =>
  ⟨_, hs.eval hx, fun w' _ => rfl⟩
theorem val_assign {x : Operand} {av : AV} (hx : aeval env x = some av) : ValM md P c ⟨dst, .assign x, ty, pos, af, gd⟩ env G av := fun a w hs =>
  ⟨_, hs.eval hx, fun w' _ => rfl⟩

theorem rep_bool {w : World} {b : Bool} {v : Value} (h : Rep G w (.bool b) v) : v = .bool b := by cases h; rfl
theorem rep_int {w : World} {k : IntKind} {n : Int} {v : Value} (h : Rep G w (.int k n) v) : v = .int k n := by cases h; rfl
theorem rep_str {w : World} {s : ByteArray} {v : Value} (h : Rep G w (.str s) v) : v = .string s := by cases h; rfl

theorem val_pick_t {x y z : Operand} {av : AV} (hx : aeval env x = some (.bool true)) (hy : aeval env y = some av) : ValM md P c ⟨dst, .pick x y z, ty, pos, af, gd⟩ env G av := fun a w hs => by
  refine ⟨_, hs.eval hy, fun w' _ => ?_⟩
  simp [execOp, rep_bool (hs.eval hx), asBool]
theorem val_pick_f {x y z : Operand} {av : AV} (hx : aeval env x = some (.bool false)) (hz : aeval env z = some av) : ValM md P c ⟨dst, .pick x y z, ty, pos, af, gd⟩ env G av := fun a w hs => by
  refine ⟨_, hs.eval hz, fun w' _ => ?_⟩
  simp [execOp, rep_bool (hs.eval hx), asBool]

/-- A read of one cell. -/
theorem val_load {T : TypeId} {d : TypeDesc} {sz by_ : Nat} {z : Option Value} {x : Operand} {p av : AV} {cs : List AV} (hT : TyI P T d sz z by_) (hd : aggDesc d = false) (hx : aeval env x = some p)
    (hc : p.pcells G = some (av :: cs)) : Val P c ⟨dst, .load T x, ty, pos, af, gd⟩ env G av := fun a w hs => by
  obtain ⟨q, hq, hcell⟩ := pcells_rep hs.sim (hs.eval hx) hc
  obtain ⟨u, hu, hr⟩ := hcell 0 (by simp)
  refine ⟨u, hr, fun w' hw => ?_⟩
  have h0 : q.add 0 = q := rfl
  rw [h0] at hu
  simp [execOp, hq, Instr.loadAt, Instr.sureAddr, hT.run_loadVar_one hd ((hw rfl).cell hu)]

theorem load_agg {T : TypeId} {d : TypeDesc} {sz by_ : Nat} {z : Option Value} {x : Operand} {p : AV} {cs cs' : List AV} (hT : TyI P T d sz z by_) (hd : aggDesc d = true) (hx : aeval env x = some p)
    (hc : p.pcells G = some cs') (hl : cs.length = sz) (he : cs'.take sz = cs) : Val P c ⟨dst, .load T x, ty, pos, af, gd⟩ env G (.agg cs) := fun a w hs => by
  obtain ⟨q, hq, hcell⟩ := pcells_rep hs.sim (hs.eval hx) hc
  have hlen : sz ≤ cs'.length := by have := congrArg List.length he; simp at this; omega
  have hu : ∀ j, ∃ u, ∀ (hj : j < cs.length), w.cell? (q.add j) = some u ∧ Rep G w cs[j] u := fun j => by
    by_cases hj : j < cs.length
    · obtain ⟨u, h1, h2⟩ := hcell j (by omega)
      exact ⟨u, fun _ => ⟨h1, by simpa [← he] using h2⟩⟩
    · exact ⟨undef, fun h => absurd h hj⟩
  obtain ⟨u, hu⟩ := Classical.axiomOfChoice hu
  have hgl : ((List.range sz).map u).length = sz := by simp
  refine ⟨.agg ((List.range sz).map u).toArray, .agg cs _ (by rw [hgl, hl]) (fun i h1 h2 => by simpa using (hu i h1).2), fun w' hw => ?_⟩
  have := hT.run_loadVar_agg (w := w') hd (p := q) ((List.range sz).map u) hgl (fun j v hj => by
    have hj' : j < sz := by
      rcases Nat.lt_or_ge j sz with h' | h'
      · exact h'
      · rw [List.getElem?_eq_none (by simp; omega)] at hj; cases hj
    simp [hj'] at hj
    subst hj
    exact (hw rfl).cell (hu j (by omega)).1)
  simp [execOp, hq, Instr.loadAt, Instr.sureAddr, this]
/-- A read of some cells of a struct. -/
theorem val_load_agg {T : TypeId} {d : TypeDesc} {sz by_ : Nat} {z : Option Value} {x : Operand} {p : AV} {cs cs' : List AV} (hT : TyI P T d sz z by_) (hd : aggDesc d = true) (hx : aeval env x = some p)
    (hc : p.pcells G = some cs') (he : cs'.take sz = cs) (hl : cs.length = sz) : Val P c ⟨dst, .load T x, ty, pos, af, gd⟩ env G (.agg cs) := load_agg hT hd hx hc hl he

def AV.isAgg : AV → Bool
  | .agg _ => true
  | _ => false
theorem agg_of {e : AV} (h : e.isAgg = true) : ∃ cs, e = .agg cs := by cases e <;> first | exact ⟨_, rfl⟩ | cases h
/-- A read of a whole variable. -/
theorem val_load_box {T : TypeId} {d : TypeDesc} {sz by_ : Nat} {z : Option Value} {x : Operand} {r : Nat} {e : AV} (hT : TyI P T d sz z by_) (hd : aggDesc d = true) (hx : aeval env x = some (.box r 0))
    (hG : G r = some (.box e)) (ha : e.isAgg = true) (hl : e.cells.length = sz) : Val P c ⟨dst, .load T x, ty, pos, af, gd⟩ env G e := by
  obtain ⟨cs, rfl⟩ := agg_of ha
  exact load_agg hT hd hx (cs' := cs) (by simp [AV.pcells, hG, AV.cells]) hl (by rw [← hl]; simp [AV.cells])
/-- A read of a whole element. -/
theorem val_load_elt {T : TypeId} {d : TypeDesc} {sz by_ : Nat} {z : Option Value} {x : Operand} {b e : AV} {k : Nat} {l : List AV} (hT : TyI P T d sz z by_) (hd : aggDesc d = true) (hx : aeval env x = some (.elp b k 0))
    (hv : b.view G = some l) (he : l[k]? = some e) (ha : e.isAgg = true) (hl : e.cells.length = sz) : Val P c ⟨dst, .load T x, ty, pos, af, gd⟩ env G e := by
  obtain ⟨cs, rfl⟩ := agg_of ha
  exact load_agg hT hd hx (cs' := cs) (by simp [AV.pcells, hv, he, AV.cells]) hl (by rw [← hl]; simp [AV.cells])

/-- The element of a slice. -/
theorem val_indexAddr {T E : TypeId} {d : TypeDesc} {sz by_ s b' : Nat} {z z' : Option Value} {x y : Operand} {b e : AV} {l : List AV} {kd : IntKind} {n : Int} {k : Nat} (hT : TyI P T (.slice E) s z' b') (hE : TyI P E d sz z by_)
    (hx : aeval env x = some b) (hy : aeval env y = some (.int kd n)) (hv : b.view G = some l) (hn : n = (k : Int)) (he : l[k]? = some e) (hl : e.cells.length = sz) :
    ValM md P c ⟨dst, .indexAddr T x y, ty, pos, af, gd⟩ env G (.elp b k 0) := fun a w hs => by
  have hk : k < l.length := by
    rcases Nat.lt_or_ge k l.length with h' | h'
    · exact h'
    · rw [List.getElem?_eq_none h'] at he; cases he
  have hek : l[k] = e := by rw [List.getElem?_eq_getElem hk] at he; exact Option.some.inj he
  obtain ⟨ad, cp, h1, h2, _⟩ := view_at hs.sim (hs.eval hx) hv hk
  refine ⟨_, h2, fun w' _ => ?_⟩
  rw [hek, hl]
  simp only [execOp, h1, rep_int (hs.eval hy), Instr.indexAt, asIntOf, Sem.run_bind, Sem.run_pure, Result.andThen_ok, hT.run_und]
  subst hn
  have h0 : (0 : Int) ≤ (k : Int) ∧ (k : Int) < (l.length : Int) := by omega
  rw [if_pos h0]
  simp [hE.run_size]

theorem run_fieldPlace {fld : Go.Field} {d : TypeDesc} {sz by_ : Nat} {z : Option Value} (hF : TyI P fld.type d (sz + 1) z by_) (p : Addr) (w : World) : (fieldPlace p fld).run P w = .ok (p.add fld.offset) w := by
  simp [fieldPlace, hF.run_size]
theorem run_fieldAt {S f o FT : Nat} {fs : Array Go.Field} {d : TypeDesc} {sz by_ s b' : Nat} {z z' : Option Value} (hS : TyI P S (.struct fs) s z' b') (hf : (fs[f]?).map (fun x => (x.offset, x.type)) = some (o, FT)) (hF : TyI P FT d (sz + 1) z by_) (p : Addr) (w : World) :
    (Instr.fieldAt S (.pointer (some p)) f).run P w = .ok (.pointer (some (p.add o))) w := by
  cases hx : fs[f]? with
  | none => rw [hx] at hf; cases hf
  | some fld =>
    rw [hx] at hf
    simp only [Option.map_some, Option.some.injEq, Prod.mk.injEq] at hf
    obtain ⟨rfl, rfl⟩ := hf
    simp [Instr.fieldAt, hS.run_und, hx, Instr.sureAddr, run_fieldPlace hF]

theorem val_fieldAddr_box {S : TypeId} {fs : Array Go.Field} {sz by_ s b' : Nat} {z z' : Option Value} {x : Operand} {r off f o FT : Nat} {d : TypeDesc} (hS : TyI P S (.struct fs) s z' b') (hf : (fs[f]?).map (fun x => (x.offset, x.type)) = some (o, FT))
    (hF : TyI P FT d (sz + 1) z by_) (hx : aeval env x = some (.box r off)) :
    ValM md P c ⟨dst, .fieldAddr S x f, ty, pos, af, gd⟩ env G (.box r (off + o)) := fun a w hs => by
  have hr := hs.eval hx
  generalize hu : a.eval x = u at hr
  cases hr with
  | box _ _ hb =>
    refine ⟨.pointer (some ⟨r, off + o, none⟩), .box r _ hb, fun w' _ => ?_⟩
    simp [execOp, hu, run_fieldAt hS hf hF, add_mk]

theorem val_fieldAddr_elp {S : TypeId} {fs : Array Go.Field} {sz by_ s b' : Nat} {z z' : Option Value} {x : Operand} {b : AV} {k off f o FT : Nat} {d : TypeDesc} (hS : TyI P S (.struct fs) s z' b') (hf : (fs[f]?).map (fun x => (x.offset, x.type)) = some (o, FT))
    (hF : TyI P FT d (sz + 1) z by_) (hx : aeval env x = some (.elp b k off)) :
    ValM md P c ⟨dst, .fieldAddr S x f, ty, pos, af, gd⟩ env G (.elp b k (off + o)) := fun a w hs => by
  have hr := hs.eval hx
  generalize hu : a.eval x = u at hr
  cases hr with
  | elpI l _ _ p u' hG hb hk hcell hrep =>
    refine ⟨.pointer (some (p.add o)), .elpI l k _ _ (fun j => u' (o + j)) (by rw [add_block]; exact hG) (by rw [add_block]; exact hb) hk (fun j hj => ?_) (fun j hj => ?_), fun w' _ => ?_⟩
    · rw [add_add]; exact hcell _ (by omega)
    · have := hrep (o + j) (by omega)
      simpa [Nat.add_assoc] using this
    · simp [execOp, hu, run_fieldAt hS hf hF]
  | elpO r sz' o' n _ _ hb =>
    refine ⟨.pointer (some ⟨r, (o' + k) * sz' + (off + o), none⟩), .elpO r sz' o' n k _ hb, fun w' _ => ?_⟩
    simp [execOp, hu, run_fieldAt hS hf hF, add_mk, Nat.add_assoc]
end
end Go.Proofs.Ytgedefcjngofkaa.AM

/- The abstract machine, part 3: arithmetic, tests, lengths, slicing; new memory; stores. -/
set_option linter.unusedVariables false
set_option linter.unusedSimpArgs false
namespace Go.Proofs.Ytgedefcjngofkaa.AM
open Go

/-- Whatever a stands for, b stands for. -/
def ASub (a b : AV) : Prop := ∀ G w v, Rep G w a v → Rep G w b v
theorem ASub.refl (a : AV) : ASub a a := fun _ _ _ h => h
theorem ASub.nil0 : ASub .nil0 (.imm []) := fun _ _ _ h => by cases h; exact .imm0 ..
theorem ASub.unk (a : AV) : ASub a .unk := fun _ _ _ h => .unk _
theorem ASub.trans {a b c : AV} (h : ASub a b) (h' : ASub b c) : ASub a c := fun G w v x => h' G w v (h G w v x)
def ASubs : List AV → List AV → Prop
  | [], [] => True
  | a :: as, b :: bs => ASub a b ∧ ASubs as bs
  | _, _ => False
theorem ASubs.refl : ∀ l, ASubs l l
  | [] => trivial
  | a :: l => ⟨.refl a, ASubs.refl l⟩
theorem ASubs.len : ∀ {l m : List AV}, ASubs l m → l.length = m.length
  | [], [], _ => rfl
  | _ :: _, _ :: _, h => by simp [h.2.len]
  | [], _ :: _, h => h.elim
  | _ :: _, [], h => h.elim
theorem ASubs.get : ∀ {l m : List AV}, ASubs l m → ∀ i (h : i < l.length) (h' : i < m.length), ASub l[i] m[i]
  | _ :: _, _ :: _, h, 0, _, _ => h.1
  | _ :: l, _ :: m, h, i + 1, h1, h2 => h.2.get i (by simpa using h1) (by simpa using h2)
theorem ASub.agg {l m : List AV} (h : ASubs l m) : ASub (.agg l) (.agg m) := fun G w v x => by
  cases x with
  | agg _ vs hl hr => exact .agg m vs (h.len ▸ hl) (fun i h1 h2 => h.get i (by rw [h.len]; exact h1) h1 _ _ _ (hr i _ h2))
theorem ASub.tup {l m : List AV} (h : ASubs l m) : ASub (.tup l) (.tup m) := fun G w v x => by
  cases x with
  | tup _ vs hl hr => exact .tup m vs (h.len ▸ hl) (fun i h1 h2 => h.get i (by rw [h.len]; exact h1) h1 _ _ _ (hr i _ h2))
/-- nil as a list without elements, one level down. -/
def AV.wk1 : AV → AV
  | .nil0 => .imm []
  | v => v
def AV.wk : AV → AV
  | .nil0 => .imm []
  | .agg cs => .agg (cs.map AV.wk1)
  | v => v
theorem ASub.wk1 (a : AV) : ASub a a.wk1 := by cases a <;> first | exact .nil0 | exact .refl _
theorem ASubs.wk1 : ∀ l : List AV, ASubs l (l.map AV.wk1)
  | [] => trivial
  | a :: l => ⟨.wk1 a, ASubs.wk1 l⟩
theorem ASub.wk (a : AV) : ASub a a.wk := by
  cases a <;> first | exact .nil0 | exact .refl _ | exact .agg (.wk1 _)
theorem ASub.of_wk {a b : AV} (h : a.wk = b) : ASub a b := h ▸ .wk a

section
variable {md : Bool} {P : Program} {c : Ctx} {env : Env} {G : AHeap} {dst : Option Tmp} {ty : TypeId} {pos : String} {af : Array Edge} {gd : Option (Nat × Bool)}

theorem ValM.sub {o : Oper} {a b : AV} (h : ValM md P c o env G a) (hs : ASub a b) : ValM md P c o env G b := fun x w h' =>
  let ⟨v, h1, h2⟩ := h x w h'; ⟨v, hs _ _ _ h1, h2⟩
theorem Goal.sub {K : Act → World → Prop} {a b : AV} (t : Nat) (ht : env.get t = some a) (hs : ASub a b) (h : Goal c ((t, b) :: env) G K) : Goal c env G K := fun x w h' =>
  h x w ⟨h'.sim, fun t' v hv => by
    simp only [Env.get] at hv
    cases hb : Nat.beq t t' with
    | true => rw [hb] at hv; injection hv with hv; rw [← hv, ← Nat.eq_of_beq_eq_true hb]; exact hs _ _ _ (h'.rep t a ht)
    | false => rw [hb] at hv; exact h'.rep t' v hv, h'.size, h'.dfr, h'.ext⟩

/-! ### Numbers and tests -/
theorem wrap64_id {n : Int} (h : -9223372036854775808 ≤ n ∧ n ≤ 9223372036854775807) : IntKind.i64.wrap n = n := by
  unfold IntKind.wrap
  simp only [IntKind.bits, IntKind.signed]
  simp
  omega

theorem eqGuard_int (op : BinOp) (T : TypeId) (x y : Operand) (k k' : IntKind) (m n : Int) (w : World) : (eqGuard op T x y (.int k m) (.int k' n)).run P w = .ok () w := by
  unfold eqGuard; split <;> rfl
theorem eqGuard_bool (op : BinOp) (T : TypeId) (x y : Operand) (m n : Bool) (w : World) : (eqGuard op T x y (.bool m) (.bool n)).run P w = .ok () w := by
  unfold eqGuard; split <;> rfl
theorem eqGuard_str (op : BinOp) (T : TypeId) (x y : Operand) (m n : ByteArray) (w : World) : (eqGuard op T x y (.string m) (.string n)).run P w = .ok () w := by
  unfold eqGuard; split <;> rfl
theorem eqGuard_ptr (op : BinOp) (T : TypeId) (x y : Operand) (m n : Option Addr) (w : World) : (eqGuard op T x y (.pointer m) (.pointer n)).run P w = .ok () w := by
  unfold eqGuard; split <;> rfl

/-- An operation of two whole numbers. -/
theorem val_int {op : BinOp} {T T' : TypeId} {x y : Operand} {k k' : IntKind} {m n : Int} {av : AV} (hx : aeval env x = some (.int k m)) (hy : aeval env y = some (.int k' n))
    (h : ∀ w, ∃ v, Rep G w av v ∧ ∀ w', (binOp op T (.int k m) (.int k' n)).run P w' = .ok v w') : ValM md P c ⟨dst, .binOp op T x y T', ty, pos, af, gd⟩ env G av := fun a w hs => by
  obtain ⟨v, h1, h2⟩ := h w
  refine ⟨v, h1, fun w' _ => ?_⟩
  simp [execOp, rep_int (hs.eval hx), rep_int (hs.eval hy), eqGuard_int, h2]

theorem val_add {T T' : TypeId} {x y : Operand} {m n : Int} (hx : aeval env x = some (.int .i64 m)) (hy : aeval env y = some (.int .i64 n))
    (h : -9223372036854775808 ≤ m + n ∧ m + n ≤ 9223372036854775807) : ValM md P c ⟨dst, .binOp .add T x y T', ty, pos, af, gd⟩ env G (.int .i64 (m + n)) :=
  val_int hx hy fun w => ⟨_, .int .., fun w' => by simp [binOp, Op.intArith, wrap64_id h]⟩
theorem val_sub {T T' : TypeId} {x y : Operand} {m n : Int} (hx : aeval env x = some (.int .i64 m)) (hy : aeval env y = some (.int .i64 n))
    (h : -9223372036854775808 ≤ m - n ∧ m - n ≤ 9223372036854775807) : ValM md P c ⟨dst, .binOp .sub T x y T', ty, pos, af, gd⟩ env G (.int .i64 (m - n)) :=
  val_int hx hy fun w => ⟨_, .int .., fun w' => by simp [binOp, Op.intArith, wrap64_id h]⟩
theorem val_mul {T T' : TypeId} {x y : Operand} {m n : Int} (hx : aeval env x = some (.int .i64 m)) (hy : aeval env y = some (.int .i64 n))
    (h : -9223372036854775808 ≤ m * n ∧ m * n ≤ 9223372036854775807) : ValM md P c ⟨dst, .binOp .mul T x y T', ty, pos, af, gd⟩ env G (.int .i64 (m * n)) :=
  val_int hx hy fun w => ⟨_, .int .., fun w' => by simp [binOp, Op.intArith, wrap64_id h]⟩
theorem val_add_w {T T' : TypeId} {x y : Operand} {k : IntKind} {m n : Int} (hx : aeval env x = some (.int k m)) (hy : aeval env y = some (.int k n)) :
    ValM md P c ⟨dst, .binOp .add T x y T', ty, pos, af, gd⟩ env G (.int k (k.wrap (m + n))) :=
  val_int hx hy fun w => ⟨_, .int .., fun w' => by simp [binOp, Op.intArith]⟩
theorem val_sub_w {T T' : TypeId} {x y : Operand} {k : IntKind} {m n : Int} (hx : aeval env x = some (.int k m)) (hy : aeval env y = some (.int k n)) :
    ValM md P c ⟨dst, .binOp .sub T x y T', ty, pos, af, gd⟩ env G (.int k (k.wrap (m - n))) :=
  val_int hx hy fun w => ⟨_, .int .., fun w' => by simp [binOp, Op.intArith]⟩
theorem val_rem {T T' : TypeId} {x y : Operand} {k : IntKind} {m n : Int} (hx : aeval env x = some (.int k m)) (hy : aeval env y = some (.int k n)) (h : n ≠ 0) :
    ValM md P c ⟨dst, .binOp .rem T x y T', ty, pos, af, gd⟩ env G (.int k (m.tmod n)) :=
  val_int hx hy fun w => ⟨_, .int .., fun w' => by simp [binOp, Op.intDiv, h]⟩
theorem val_quo {T T' : TypeId} {x y : Operand} {k : IntKind} {m n : Int} (hx : aeval env x = some (.int k m)) (hy : aeval env y = some (.int k n)) (h : n ≠ 0) :
    ValM md P c ⟨dst, .binOp .quo T x y T', ty, pos, af, gd⟩ env G (.int k (k.wrap (m.tdiv n))) :=
  val_int hx hy fun w => ⟨_, .int .., fun w' => by simp [binOp, Op.intDiv, h]⟩
theorem val_lss {T T' : TypeId} {x y : Operand} {k : IntKind} {m n : Int} (hx : aeval env x = some (.int k m)) (hy : aeval env y = some (.int k n)) :
    ValM md P c ⟨dst, .binOp .lss T x y T', ty, pos, af, gd⟩ env G (.bool (decide (m < n))) :=
  val_int hx hy fun w => ⟨_, .bool .., fun w' => by simp [binOp, Op.intCmp]⟩
theorem val_leq {T T' : TypeId} {x y : Operand} {k : IntKind} {m n : Int} (hx : aeval env x = some (.int k m)) (hy : aeval env y = some (.int k n)) :
    ValM md P c ⟨dst, .binOp .leq T x y T', ty, pos, af, gd⟩ env G (.bool (decide (m ≤ n))) :=
  val_int hx hy fun w => ⟨_, .bool .., fun w' => by simp [binOp, Op.intCmp]⟩
theorem val_gtr {T T' : TypeId} {x y : Operand} {k : IntKind} {m n : Int} (hx : aeval env x = some (.int k m)) (hy : aeval env y = some (.int k n)) :
    ValM md P c ⟨dst, .binOp .gtr T x y T', ty, pos, af, gd⟩ env G (.bool (decide (n < m))) :=
  val_int hx hy fun w => ⟨_, .bool .., fun w' => by simp [binOp, Op.intCmp]⟩
theorem val_geq {T T' : TypeId} {x y : Operand} {k : IntKind} {m n : Int} (hx : aeval env x = some (.int k m)) (hy : aeval env y = some (.int k n)) :
    ValM md P c ⟨dst, .binOp .geq T x y T', ty, pos, af, gd⟩ env G (.bool (decide (n ≤ m))) :=
  val_int hx hy fun w => ⟨_, .bool .., fun w' => by simp [binOp, Op.intCmp]⟩
theorem val_eql {T T' : TypeId} {x y : Operand} {k : IntKind} {m n : Int} (hx : aeval env x = some (.int k m)) (hy : aeval env y = some (.int k n)) :
    ValM md P c ⟨dst, .binOp .eql T x y T', ty, pos, af, gd⟩ env G (.bool (decide (m = n))) :=
  val_int hx hy fun w => ⟨_, .bool .., fun w' => by simp [binOp, Op.intCmp]; rfl⟩
theorem val_neq {T T' : TypeId} {x y : Operand} {k : IntKind} {m n : Int} (hx : aeval env x = some (.int k m)) (hy : aeval env y = some (.int k n)) :
    ValM md P c ⟨dst, .binOp .neq T x y T', ty, pos, af, gd⟩ env G (.bool (!decide (m = n))) :=
  val_int hx hy fun w => ⟨_, .bool .., fun w' => by simp [binOp, Op.intCmp]; rfl⟩

theorem equalIn_bool {T s b' : Nat} {z : Option Value} (hT : TyI P T .bool s z b') (d : Nat) (m n : Bool) (w : World) : (Op.equalIn (d + 1) T (.bool m) (.bool n)).run P w = .ok (m == n) w := by
  simp [Op.equalIn, hT.run_und]
theorem equal_bool {T s b' : Nat} {z : Option Value} (hT : TyI P T .bool s z b') (m n : Bool) (w : World) : (Op.equal T (.bool m) (.bool n)).run P w = .ok (m == n) w := equalIn_bool hT 9999 m n w
theorem equalIn_ptr_nil {T E s b' : Nat} {z : Option Value} (hT : TyI P T (.pointer E) s z b') (d : Nat) (p : Option Addr) (w : World) : (Op.equalIn (d + 1) T (.pointer p) (.pointer none)).run P w = .ok p.isNone w := by
  cases p <;> simp [Op.equalIn, hT.run_und]
theorem equal_ptr_nil {T E s b' : Nat} {z : Option Value} (hT : TyI P T (.pointer E) s z b') (p : Option Addr) (w : World) : (Op.equal T (.pointer p) (.pointer none)).run P w = .ok p.isNone w := equalIn_ptr_nil hT 9999 p w
theorem binOp_eql_bool (T : TypeId) (m n : Bool) : binOp .eql T (.bool m) (.bool n) = (do pure (.bool (← Op.equal T (.bool m) (.bool n)))) := rfl
theorem binOp_neq_bool (T : TypeId) (m n : Bool) : binOp .neq T (.bool m) (.bool n) = (do pure (.bool (!(← Op.equal T (.bool m) (.bool n))))) := rfl
theorem binOp_eql_ptr (T : TypeId) (m n : Option Addr) : binOp .eql T (.pointer m) (.pointer n) = (do pure (.bool (← Op.equal T (.pointer m) (.pointer n)))) := rfl
theorem binOp_neq_ptr (T : TypeId) (m n : Option Addr) : binOp .neq T (.pointer m) (.pointer n) = (do pure (.bool (!(← Op.equal T (.pointer m) (.pointer n))))) := rfl
theorem val_bool_eql {T T' : TypeId} {s b' : Nat} {z : Option Value} {x y : Operand} {m n : Bool} (hT : TyI P T .bool s z b') (hx : aeval env x = some (.bool m)) (hy : aeval env y = some (.bool n)) :
    ValM md P c ⟨dst, .binOp .eql T x y T', ty, pos, af, gd⟩ env G (.bool (m == n)) := fun a w hs => by
  refine ⟨_, .bool _, fun w' _ => ?_⟩
  simp [execOp, rep_bool (hs.eval hx), rep_bool (hs.eval hy), eqGuard_bool, binOp_eql_bool, binOp_neq_bool, equal_bool hT]
theorem val_bool_neq {T T' : TypeId} {s b' : Nat} {z : Option Value} {x y : Operand} {m n : Bool} (hT : TyI P T .bool s z b') (hx : aeval env x = some (.bool m)) (hy : aeval env y = some (.bool n)) :
    ValM md P c ⟨dst, .binOp .neq T x y T', ty, pos, af, gd⟩ env G (.bool (!(m == n))) := fun a w hs => by
  refine ⟨_, .bool _, fun w' _ => ?_⟩
  simp [execOp, rep_bool (hs.eval hx), rep_bool (hs.eval hy), eqGuard_bool, binOp_eql_bool, binOp_neq_bool, equal_bool hT]
theorem val_str_eql {T T' : TypeId} {x y : Operand} {m n : ByteArray} (hx : aeval env x = some (.str m)) (hy : aeval env y = some (.str n)) :
    ValM md P c ⟨dst, .binOp .eql T x y T', ty, pos, af, gd⟩ env G (.bool (m.toList == n.toList)) := fun a w hs => by
  refine ⟨_, .bool _, fun w' _ => ?_⟩
  simp [execOp, rep_str (hs.eval hx), rep_str (hs.eval hy), eqGuard_str, binOp, Op.stringOp]
theorem val_str_neq {T T' : TypeId} {x y : Operand} {m n : ByteArray} (hx : aeval env x = some (.str m)) (hy : aeval env y = some (.str n)) :
    ValM md P c ⟨dst, .binOp .neq T x y T', ty, pos, af, gd⟩ env G (.bool (!(m.toList == n.toList))) := fun a w hs => by
  refine ⟨_, .bool _, fun w' _ => ?_⟩
  simp [execOp, rep_str (hs.eval hx), rep_str (hs.eval hy), eqGuard_str, binOp, Op.stringOp]
theorem val_str_lss {T T' : TypeId} {x y : Operand} {m n : ByteArray} (hx : aeval env x = some (.str m)) (hy : aeval env y = some (.str n)) :
    ValM md P c ⟨dst, .binOp .lss T x y T', ty, pos, af, gd⟩ env G (.bool (Op.bytesLess m.toList n.toList)) := fun a w hs => by
  refine ⟨_, .bool _, fun w' _ => ?_⟩
  simp [execOp, rep_str (hs.eval hx), rep_str (hs.eval hy), eqGuard_str, binOp, Op.stringOp]
theorem val_str_gtr {T T' : TypeId} {x y : Operand} {m n : ByteArray} (hx : aeval env x = some (.str m)) (hy : aeval env y = some (.str n)) :
    ValM md P c ⟨dst, .binOp .gtr T x y T', ty, pos, af, gd⟩ env G (.bool (!(Op.bytesLess m.toList n.toList || m.toList == n.toList))) := fun a w hs => by
  refine ⟨_, .bool _, fun w' _ => ?_⟩
  simp [execOp, rep_str (hs.eval hx), rep_str (hs.eval hy), eqGuard_str, binOp, Op.stringOp]

/-- Is it nil? A pointer's place is enough. -/
def AV.isPtr : AV → Bool
  | .box .. | .elp .. => true
  | _ => false
theorem rep_ptr {w : World} {a : AV} {v : Value} (h : Rep G w a v) (hp : a.isPtr = true) : ∃ p, v = .pointer (some p) := by
  cases h <;> first | exact ⟨_, rfl⟩ | cases hp
theorem rep_nilp {w : World} {v : Value} (h : Rep G w .nilp v) : v = .pointer none := by cases h; rfl
theorem val_ptr_eql_nil {T T' E : TypeId} {s b' : Nat} {z : Option Value} {x y : Operand} {p : AV} (hT : TyI P T (.pointer E) s z b') (hx : aeval env x = some p) (hp : p.isPtr = true) (hy : aeval env y = some .nilp) :
    ValM md P c ⟨dst, .binOp .eql T x y T', ty, pos, af, gd⟩ env G (.bool false) := fun a w hs => by
  obtain ⟨q, hq⟩ := rep_ptr (hs.eval hx) hp
  refine ⟨_, .bool _, fun w' _ => ?_⟩
  simp [execOp, hq, rep_nilp (hs.eval hy), eqGuard_ptr, binOp_eql_ptr, binOp_neq_ptr, equal_ptr_nil hT]
theorem val_ptr_neq_nil {T T' E : TypeId} {s b' : Nat} {z : Option Value} {x y : Operand} {p : AV} (hT : TyI P T (.pointer E) s z b') (hx : aeval env x = some p) (hp : p.isPtr = true) (hy : aeval env y = some .nilp) :
    ValM md P c ⟨dst, .binOp .neq T x y T', ty, pos, af, gd⟩ env G (.bool true) := fun a w hs => by
  obtain ⟨q, hq⟩ := rep_ptr (hs.eval hx) hp
  refine ⟨_, .bool _, fun w' _ => ?_⟩
  simp [execOp, hq, rep_nilp (hs.eval hy), eqGuard_ptr, binOp_eql_ptr, binOp_neq_ptr, equal_ptr_nil hT]
theorem val_nil_eql_nil {T T' E : TypeId} {s b' : Nat} {z : Option Value} {x y : Operand} (hT : TyI P T (.pointer E) s z b') (hx : aeval env x = some .nilp) (hy : aeval env y = some .nilp) :
    ValM md P c ⟨dst, .binOp .eql T x y T', ty, pos, af, gd⟩ env G (.bool true) := fun a w hs => by
  refine ⟨_, .bool _, fun w' _ => ?_⟩
  simp [execOp, rep_nilp (hs.eval hx), rep_nilp (hs.eval hy), eqGuard_ptr, binOp_eql_ptr, binOp_neq_ptr, equal_ptr_nil hT]
theorem val_nil_neq_nil {T T' E : TypeId} {s b' : Nat} {z : Option Value} {x y : Operand} (hT : TyI P T (.pointer E) s z b') (hx : aeval env x = some .nilp) (hy : aeval env y = some .nilp) :
    ValM md P c ⟨dst, .binOp .neq T x y T', ty, pos, af, gd⟩ env G (.bool false) := fun a w hs => by
  refine ⟨_, .bool _, fun w' _ => ?_⟩
  simp [execOp, rep_nilp (hs.eval hx), rep_nilp (hs.eval hy), eqGuard_ptr, binOp_eql_ptr, binOp_neq_ptr, equal_ptr_nil hT]
theorem val_nilCheck {x : Operand} {p : AV} (hx : aeval env x = some p) (hp : p.isPtr = true) : ValM md P c ⟨dst, .nilCheck x, ty, pos, af, gd⟩ env G p := fun a w hs => by
  obtain ⟨q, hq⟩ := rep_ptr (hs.eval hx) hp
  refine ⟨_, hq ▸ hs.eval hx, fun w' _ => ?_⟩
  simp [execOp, hq]

theorem val_not {T : TypeId} {x : Operand} {m : Bool} (hx : aeval env x = some (.bool m)) : ValM md P c ⟨dst, .unOp .not T x, ty, pos, af, gd⟩ env G (.bool (!m)) := fun a w hs => by
  refine ⟨_, .bool _, fun w' _ => ?_⟩
  simp [execOp, rep_bool (hs.eval hx), Op.unary]
theorem val_neg {T : TypeId} {x : Operand} {m : Int} (hx : aeval env x = some (.int .i64 m)) (h : -9223372036854775808 ≤ -m ∧ -m ≤ 9223372036854775807) : ValM md P c ⟨dst, .unOp .neg T x, ty, pos, af, gd⟩ env G (.int .i64 (-m)) := fun a w hs => by
  refine ⟨_, .int .., fun w' _ => ?_⟩
  simp [execOp, rep_int (hs.eval hx), Op.unary, Op.intArith, wrap64_id h]

/-! ### Lengths, parts of tuples, the greater and the lesser of two -/
theorem val_len {T T' E : TypeId} {s b' : Nat} {z : Option Value} {x : Operand} {b : AV} {l : List AV} (hT : TyI P T (.slice E) s z b') (hx : aeval env x = some b) (hv : b.view G = some l) :
    ValM md P c ⟨dst, .call ⟨.builtin .len, #[x], #[T]⟩, ty, pos, af, gd⟩ env G (.int .i64 (l.length : Int)) := fun a w hs => by
  obtain ⟨A, cp, h⟩ := view_len hs.sim (hs.eval hx) hv
  refine ⟨_, .int .., fun w' _ => ?_⟩
  simp [execOp, resolve, invoke, builtin, Builtin.len_, h, hT.run_und, goInt]
theorem val_len_str {T : TypeId} {s b' : Nat} {z : Option Value} {x : Operand} {m : ByteArray} (hT : TyI P T .string s z b') (hx : aeval env x = some (.str m)) :
    ValM md P c ⟨dst, .call ⟨.builtin .len, #[x], #[T]⟩, ty, pos, af, gd⟩ env G (.int .i64 (m.size : Int)) := fun a w hs => by
  refine ⟨_, .int .., fun w' _ => ?_⟩
  simp [execOp, resolve, invoke, builtin, Builtin.len_, rep_str (hs.eval hx), hT.run_und, goInt]
theorem val_max {x y : Operand} {k : IntKind} {m n : Int} {at_ : Array TypeId} (hx : aeval env x = some (.int k m)) (hy : aeval env y = some (.int k n)) :
    ValM md P c ⟨dst, .call ⟨.builtin .max, #[x, y], at_⟩, ty, pos, af, gd⟩ env G (.int k (max m n)) := fun a w hs => by
  refine ⟨_, .int .., fun w' _ => ?_⟩
  simp [execOp, resolve, invoke, builtin, Builtin.max_, Builtin.max2, rep_int (hs.eval hx), rep_int (hs.eval hy)]
  omega
theorem val_min {x y : Operand} {k : IntKind} {m n : Int} {at_ : Array TypeId} (hx : aeval env x = some (.int k m)) (hy : aeval env y = some (.int k n)) :
    ValM md P c ⟨dst, .call ⟨.builtin .min, #[x, y], at_⟩, ty, pos, af, gd⟩ env G (.int k (min m n)) := fun a w hs => by
  refine ⟨_, .int .., fun w' _ => ?_⟩
  simp [execOp, resolve, invoke, builtin, Builtin.min_, Builtin.min2, rep_int (hs.eval hx), rep_int (hs.eval hy)]
  omega
theorem val_extract {x : Operand} {l : List AV} {i : Nat} {av : AV} (hx : aeval env x = some (.tup l)) (hi : l[i]? = some av) : ValM md P c ⟨dst, .extract x i, ty, pos, af, gd⟩ env G av := fun a w hs => by
  have hr := hs.eval hx
  generalize hu : a.eval x = u at hr
  cases hr with
  | tup _ vs hl h =>
    have hlt : i < l.length := by
      rcases Nat.lt_or_ge i l.length with h' | h'
      · exact h'
      · rw [List.getElem?_eq_none h'] at hi; cases hi
    have hav : l[i] = av := by rw [List.getElem?_eq_getElem hlt] at hi; exact Option.some.inj hi
    refine ⟨vs[i]'(by omega), hav ▸ h i hlt (by omega), fun w' _ => ?_⟩
    simp [execOp, hu, Instr.extract, List.getElem?_eq_getElem (show i < vs.length by omega)]

theorem val_makeFunc {f : Fn} {xs : Array Operand} {caps : List AV} (hx : xs.toList.mapM (aeval env) = some caps) : ValM md P c ⟨dst, .makeFunc f #[] xs, ty, pos, af, gd⟩ env G (.fn f caps) := fun a w hs => by
  have key : ∀ (l : List Operand) (caps : List AV), l.mapM (aeval env) = some caps → caps.length = (l.map a.eval).length ∧ ∀ i (h1 : i < caps.length) (h2 : i < (l.map a.eval).length), Rep G w caps[i] (l.map a.eval)[i] := by
    intro l
    induction l with
    | nil => intro caps h; simp at h; subst h; exact ⟨rfl, fun i h => by simp at h⟩
    | cons x l ih =>
      intro caps h
      simp only [List.mapM_cons, Option.bind_eq_bind, Option.bind_eq_some_iff, Option.pure_def, Option.some.injEq] at h
      obtain ⟨v, hv, vs, hvs, rfl⟩ := h
      obtain ⟨h1, h2⟩ := ih vs hvs
      refine ⟨by simpa using h1, fun i hi1 hi2 => ?_⟩
      cases i with
      | zero => exact hs.eval hv
      | succ i => exact h2 i (by simpa using hi1) (by simpa using hi2)
  obtain ⟨h1, h2⟩ := key _ _ hx
  refine ⟨.func f #[] (xs.toList.map a.eval).toArray, .fn f caps _ h1 h2, fun w' _ => ?_⟩
  have e : Array.map a.eval xs = (xs.toList.map a.eval).toArray := by apply Array.ext'; simp
  simp [execOp, Instr.makeFunc, e]
end
end Go.Proofs.Ytgedefcjngofkaa.AM

/- The abstract machine, part 4: new memory, stores, calls. -/
set_option linter.unusedVariables false
set_option linter.unusedSimpArgs false
namespace Go.Proofs.Ytgedefcjngofkaa.AM
open Go

theorem heap_alloc_new' (w : World) (o : Obj) : (w.alloc o).heap[w.heap.size]? = some o := by unfold World.alloc; exact Array.getElem?_push_size
theorem heap_alloc_old' (w : World) (o : Obj) {b : Nat} (h : b < w.heap.size) : (w.alloc o).heap[b]? = w.heap[b]? := by
  unfold World.alloc
  show (w.heap.push o)[b]? = _
  rw [Array.getElem?_push, if_neg (Nat.ne_of_lt h)]
theorem shape_alloc_old (w : World) (o : Obj) {b : Nat} (h : b < w.heap.size) : (w.alloc o).shape? b = w.shape? b := by
  unfold World.shape?; rw [heap_alloc_old' w o h]

/-- A new block, listed. -/
theorem ext_alloc {G : AHeap} {w : World} (hs : Sim G w) (o : Obj) (x : ARow) : Ext G w (fun _ => False) (G.set w.heap.size x) (w.alloc o) where
  os := rfl
  tape := rfl
  output := rfl
  size := by simp
  same := fun b hb _ => heap_alloc_old' w o hb
  shape := fun b hb => shape_alloc_old w o hb
  dom := fun b hb hg => by rw [AHeap.get_set_ne _ _ (Nat.ne_of_lt hb)]; exact hg
  lists := fun _ h => h.elim
/-- A new block that is not listed. -/
theorem ext_alloc' {G : AHeap} {w : World} (o : Obj) : Ext G w (fun _ => False) G (w.alloc o) where
  os := rfl
  tape := rfl
  output := rfl
  size := by simp
  same := fun b hb _ => heap_alloc_old' w o hb
  shape := fun b hb => shape_alloc_old w o hb
  dom := fun b hb hg => hg
  lists := fun _ h => h.elim
theorem sim_alloc {G : AHeap} {w : World} (hs : Sim G w) (o : Obj) (x : ARow) (hx : RowRep (G.set w.heap.size x) (w.alloc o) w.heap.size x) : Sim (G.set w.heap.size x) (w.alloc o) := fun b y hb => by
  unfold AHeap.set at hb
  split at hb
  · rename_i e; subst e; injection hb with hb; subst hb; exact hx
  · exact (hs b y hb).mono (ext_alloc hs o x) (heap_alloc_old' w o (hs.lt hb))
theorem sim_alloc' {G : AHeap} {w : World} (hs : Sim G w) (o : Obj) : Sim G (w.alloc o) := fun b y hb =>
  (hs b y hb).mono (ext_alloc' o) (heap_alloc_old' w o (hs.lt hb))

theorem ext_drew {G : AHeap} {w : World} : Ext G w (fun _ => False) G w.drew :=
  ⟨rfl, rfl, rfl, Nat.le_refl _, fun _ _ _ => rfl, fun _ _ => rfl, fun _ _ h => h, fun _ h => h.elim⟩
theorem sim_drew {G : AHeap} {w : World} (hs : Sim G w) : Sim G w.drew := fun b y hb => (hs b y hb).mono ext_drew rfl

/-- A row of cells, put in another one's place. -/
theorem ext_setRow {G : AHeap} {w : World} {r : Nat} {C C' : Array Value} {T : TypeId} {y : ARow} (hh : w.heap[r]? = some (.cells C T (0, 0))) (hsz : C'.size = C.size) (hr : G r ≠ none) :
    Ext G w (fun b => b = r) (G.set r y) (w.setRow r C') where
  os := rfl
  tape := rfl
  output := rfl
  size := by simp
  same := fun b hb hn => setRow_other w r b C' hn
  shape := fun b hb => by
    by_cases e : b = r
    · subst e
      unfold World.shape?
      rw [setRow_heap w b C C' T (0, 0) hh, hh]
      simp [hsz]
    · unfold World.shape?
      rw [setRow_other w r b C' e]
  dom := fun b hb hg => by
    have : b ≠ r := fun e => hr (e ▸ hg)
    rw [AHeap.get_set_ne _ _ this]; exact hg
  lists := fun b e => by subst e; exact hr
theorem sim_setRow {G : AHeap} {w : World} {r : Nat} {C C' : Array Value} {T : TypeId} {y : ARow} (hs : Sim G w) (hh : w.heap[r]? = some (.cells C T (0, 0))) (hsz : C'.size = C.size) (hr : G r ≠ none)
    (hy : RowRep (G.set r y) (w.setRow r C') r y) : Sim (G.set r y) (w.setRow r C') := fun b x hb => by
  unfold AHeap.set at hb
  split at hb
  · rename_i e; subst e; injection hb with hb; subst hb; exact hy
  · rename_i e; exact (hs b x hb).mono (ext_setRow hh hsz hr) (setRow_other w r b C' e)

section
variable {md : Bool} {P : Program} {c : Ctx} {env : Env} {G : AHeap} {dst : Option Tmp} {ty : TypeId} {pos : String} {af : Array Edge} {gd : Option (Nat × Bool)} {Q : Exit → Act → World → Prop} {K : Act → World → Prop}

theorem St.fresh {a : Act} {w : World} (hs : St c env G a w) : c.w0.heap.size ≤ w.heap.size := hs.ext.size

/-- A step that leaves the old blocks as they are. -/
def StepS (P : Program) (c : Ctx) (o : Oper) (Q : Exit → Act → World → Prop) (env : Env) (G : AHeap) (K : Act → World → Prop) : Prop :=
  ∀ a w, St c env G a w → o.wp P a w (fun a' w' => Same w w' ∧ K a' w') Q
theorem owp_mono {o : Oper} {a : Act} {w : World} {K K' : Act → World → Prop} (h : ∀ a w, K a w → K' a w) (hh : o.wp P a w K Q) : o.wp P a w K' Q := Oper.wp_mono h hh
theorem StepS.step {o : Oper} (h : StepS P c o Q env G K) : Step P c o Q env G K := fun a w hs => Oper.wp_mono (fun _ _ h => h.2) (h a w hs)
theorem same_alloc (w : World) (o : Obj) : Same w (w.alloc o) := ⟨by simp, fun b hb => heap_alloc_old' w o hb⟩
/-- A new variable. -/
theorem steps_newVar {o : Oper} {d : Nat} {av : AV} (ho : o.dst = some d) (hd : Nat.blt d c.nt = true) (hu : av ≠ .unk)
    (hrun : ∀ a w, St c env G a w → ∃ v T, Rep G w av v ∧ (execOp a.eval o).run P w = .ok (.value (.pointer (some ⟨w.heap.size, 0, none⟩))) (w.alloc (.cells v.cells T)))
    (h : ∀ r, G r = none → c.w0.heap.size ≤ r → Goal c ((d, .box r 0) :: env) (G.set r (.box av)) K) : StepS P c o Q env G K := fun a w hs => by
  obtain ⟨v, T, hr, hrun⟩ := hrun a w hs
  unfold Oper.wp
  rw [hrun, Oper.upon_value, ho]
  have he := ext_alloc hs.sim (.cells v.cells T) (.box av)
  obtain ⟨h1, h2⟩ := hr.cells hu
  have hsim : Sim (G.set w.heap.size (.box av)) (w.alloc (.cells v.cells T)) := sim_alloc hs.sim _ _
    ⟨v.cells, T, heap_alloc_new' w _, by omega, fun j hj => ⟨v.cells[j]'(by omega), by rw [Array.getElem?_eq_getElem], (h2 j hj (by omega)).mono he⟩⟩
  exact ⟨same_alloc w _, h w.heap.size (hs.sim.none (Nat.le_refl _)) hs.fresh _ _ ((hs.move hsim he (fun _ _ h => h.elim)).put hd (.box _ _ (by simp)))⟩

theorem steps_box {T : TypeId} {x : Operand} {d : Nat} {av : AV} (hd : Nat.blt d c.nt = true) (hx : aeval env x = some av) (hu : av ≠ .unk)
    (h : ∀ r, G r = none → c.w0.heap.size ≤ r → Goal c ((d, .box r 0) :: env) (G.set r (.box av)) K) : StepS P c ⟨some d, .box T x, ty, pos, af, gd⟩ Q env G K :=
  steps_newVar rfl hd hu (fun a w hs => ⟨_, T, hs.eval hx, by simp [execOp, Instr.box, newVar, newRow]⟩) h
/-- A zero value, as an abstract one. -/
def zAV : Value → AV
  | .agg cs => .agg (cs.toList.map constAV)
  | v => constAV v
theorem zAV_rep (G : AHeap) (w : World) (v : Value) : Rep G w (zAV v) v := by
  unfold zAV
  split
  · rename_i cs
    have := Rep.agg (G := G) (w := w) (cs.toList.map constAV) cs.toList (by simp) (fun i h1 h2 => by simpa using constAV_rep G w _)
    simpa using this
  · exact constAV_rep ..
theorem steps_alloc {T : TypeId} {dd : TypeDesc} {sz b' : Nat} {zv : Value} {d : Nat} {av : AV} (hT : TyI P T dd sz (some zv) b') (hd : Nat.blt d c.nt = true) (hz : zAV zv = av) (hu : av ≠ .unk)
    (h : ∀ r, G r = none → c.w0.heap.size ≤ r → Goal c ((d, .box r 0) :: env) (G.set r (.box av)) K) : StepS P c ⟨some d, .alloc T, ty, pos, af, gd⟩ Q env G K :=
  steps_newVar rfl hd hu (fun a w hs => ⟨zv, T, hz ▸ zAV_rep G w zv, by simp [execOp, Instr.alloc, newVar, newRow, hT.run_zero]⟩) h

/-! ### A struct's value out of its parts -/
def AV.isUnk : AV → Bool
  | .unk => true
  | _ => false
def afill (place : Nat → Option (Nat × Nat)) (cells : List AV) : List (Nat × AV) → Option (List AV)
  | [] => some cells
  | (i, v) :: rest => match place i with
    | none => none
    | some (off, size) =>
      if v.cells.length = size ∧ off + size ≤ cells.length ∧ v.isUnk = false then afill place (cells.take off ++ v.cells ++ cells.drop (off + size)) rest else none

/-- A list of abstract values stands for a list of values. -/
def Reps (G : AHeap) (w : World) (l : List AV) (vs : List Value) : Prop := l.length = vs.length ∧ ∀ i (h1 : i < l.length) (h2 : i < vs.length), Rep G w l[i] vs[i]
theorem Reps.nil (G : AHeap) (w : World) : Reps G w [] [] := ⟨rfl, fun i h => by simp at h⟩
theorem Reps.cons {G : AHeap} {w : World} {a : AV} {v : Value} {l : List AV} {vs : List Value} (h : Rep G w a v) (hs : Reps G w l vs) : Reps G w (a :: l) (v :: vs) :=
  ⟨by simpa using hs.1, fun i h1 h2 => by
    cases i with
    | zero => exact h
    | succ i => exact hs.2 i (by simpa using h1) (by simpa using h2)⟩
theorem Reps.append {G : AHeap} {w : World} {l m : List AV} {vs us : List Value} (h : Reps G w l vs) (h' : Reps G w m us) : Reps G w (l ++ m) (vs ++ us) := by
  refine ⟨by simp [h.1, h'.1], fun i h1 h2 => ?_⟩
  have hl := h.1
  rcases Nat.lt_or_ge i l.length with hi | hi
  · rw [List.getElem_append_left hi, List.getElem_append_left (by omega)]
    exact h.2 i hi _
  · rw [List.getElem_append_right hi, List.getElem_append_right (by omega)]
    simp only [hl]
    exact h'.2 _ (by simp at h1; omega) (by simp at h2; omega)
theorem Reps.take {G : AHeap} {w : World} {l : List AV} {vs : List Value} (h : Reps G w l vs) (n : Nat) : Reps G w (l.take n) (vs.take n) :=
  ⟨by simp [h.1], fun i h1 h2 => by simpa using h.2 i (by simp at h1; omega) (by simp at h2; omega)⟩
theorem Reps.drop {G : AHeap} {w : World} {l : List AV} {vs : List Value} (h : Reps G w l vs) (n : Nat) : Reps G w (l.drop n) (vs.drop n) :=
  ⟨by simp [h.1], fun i h1 h2 => by simpa using h.2 (n + i) (by simp at h1; omega) (by simp at h2; omega)⟩
theorem Reps.mono {G G' : AHeap} {w w' : World} {D : Nat → Prop} (he : Ext G w D G' w') {l : List AV} {vs : List Value} (h : Reps G w l vs) : Reps G' w' l vs :=
  ⟨h.1, fun i h1 h2 => (h.2 i h1 h2).mono he⟩
theorem Rep.cells' {G : AHeap} {w : World} {a : AV} {v : Value} (h : Rep G w a v) (hu : a.isUnk = false) : Reps G w a.cells v.cells.toList := by
  obtain ⟨h1, h2⟩ := h.cells (by rintro rfl; cases hu)
  exact ⟨by simpa using h1, fun i hi1 hi2 => by simpa using h2 i hi1 (by simpa using hi2)⟩

theorem fold_set (l : List Value) : ∀ (off : Nat) (cs : Array Value), off + l.length ≤ cs.size →
    ((l.toArray.zipIdx).foldl (fun cs (x : Value × Nat) => cs.setIfInBounds (off + x.2) x.1) cs) = (cs.toList.take off ++ l ++ cs.toList.drop (off + l.length)).toArray := by
  have key : ∀ (l : List Value) (k off : Nat) (cs : Array Value), off + k + l.length ≤ cs.size →
      ((l.zipIdx k).foldl (fun cs (x : Value × Nat) => cs.setIfInBounds (off + x.2) x.1) cs) = (cs.toList.take (off + k) ++ l ++ cs.toList.drop (off + k + l.length)).toArray := by
    intro l
    induction l with
    | nil => intro k off cs h; apply Array.ext'; simp
    | cons x l ih =>
      intro k off cs h
      simp only [List.zipIdx_cons, List.foldl_cons]
      rw [ih (k + 1) off _ (by simp at h ⊢; omega)]
      apply Array.ext'
      simp only [Array.toList_setIfInBounds, List.length_cons] at h ⊢
      have h1 : off + k < cs.toList.length := by simp; omega
      have e1 : off + (k + 1) = off + k + 1 := by omega
      have e2 : off + k + 1 + l.length = off + k + (l.length + 1) := by omega
      rw [e1, List.take_set, List.drop_set, if_pos (by omega), List.take_succ_eq_append_getElem h1, e2, List.set_append_right _ _ (by simp; omega), List.append_assoc]
      have : off + k - (List.take (off + k) cs.toList).length = 0 := by simp; omega
      rw [this]
      simp
  intro off cs h
  have := key l 0 off cs (by omega)
  simpa using this

theorem afill_rep {G : AHeap} {w : World} (place : Nat → Option (Nat × Nat)) : ∀ (parts : List (Nat × AV)) (vals : List (Nat × Value)) (cells out : List AV) (vc : Array Value),
    parts.map (·.1) = vals.map (·.1) → Reps G w (parts.map (·.2)) (vals.map (·.2)) → Reps G w cells vc.toList → afill place cells parts = some out →
    ∃ vo, Instr.fill place vc vals = some vo ∧ Reps G w out vo.toList
  | [], [], cells, out, vc, _, _, hc, h => by
    simp only [afill, Option.some.injEq] at h
    subst h
    exact ⟨vc, rfl, hc⟩
  | (i, p) :: parts, (j, v) :: vals, cells, out, vc, hij, hp, hc, h => by
    simp only [List.map_cons, List.cons.injEq] at hij
    obtain ⟨rfl, hij⟩ := hij
    have hr : Rep G w p v := hp.2 0 (by simp) (by simp)
    have hp' : Reps G w (parts.map (·.2)) (vals.map (·.2)) := by simpa using hp.drop 1
    simp only [afill] at h
    cases hpl : place i with
    | none => rw [hpl] at h; cases h
    | some os =>
      obtain ⟨off, size⟩ := os
      rw [hpl] at h
      simp only at h
      split at h
      · rename_i hcond
        obtain ⟨h1, h2, h3⟩ := hcond
        have hcl := hr.cells' h3
        have hvl : v.cells.size = size := by have := hcl.1; simp at this; omega
        have hlc : cells.length = vc.size := by have := hc.1; simpa using this
        have hf := fold_set v.cells.toList off vc (by simp; omega)
        have hd : off + v.cells.toList.length = off + size := by simp; omega
        rw [hd] at hf
        obtain ⟨vo, h4, h5⟩ := afill_rep place parts vals (cells.take off ++ p.cells ++ cells.drop (off + size)) out
          (vc.toList.take off ++ v.cells.toList ++ vc.toList.drop (off + size)).toArray hij hp' (by simpa using ((hc.take off).append hcl).append (hc.drop (off + size))) h
        refine ⟨vo, ?_, h5⟩
        simp only [Instr.fill, hpl]
        rw [if_neg (by simp; omega), ← h4]
        congr 1
      · cases h
  | [], _ :: _, _, _, _, hl, _, _, _ => by simp at hl
  | _ :: _, [], _, _, _, hl, _, _, _ => by simp at hl

/-- The places of a struct's fields: their offsets and sizes. -/
def Places (P : Program) (fs : Array Go.Field) (pl : Array (Nat × Nat)) : Prop :=
  ∀ w, (fs.mapM (m := Sem) fun f => do pure (f.offset, ← sizeOf f.type)).run P w = .ok pl w

theorem eval_list {a : Act} {w : World} (hs : St c env G a w) : ∀ (l : List (Nat × Operand)) (vs : List (Nat × AV)), l.mapM (fun x => (aeval env x.2).map fun v => (x.1, v)) = some vs →
    vs.map (·.1) = (l.map fun x => (x.1, a.eval x.2)).map (·.1) ∧ Reps G w (vs.map (·.2)) ((l.map fun x => (x.1, a.eval x.2)).map (·.2))
  | [], vs, h => by simp at h; subst h; exact ⟨rfl, .nil _ _⟩
  | x :: l, vs, h => by
    simp only [List.mapM_cons, Option.bind_eq_bind, Option.bind_eq_some_iff, Option.pure_def, Option.some.injEq, Option.map_eq_some_iff] at h
    obtain ⟨_, ⟨v, hv, rfl⟩, vs, hvs, rfl⟩ := h
    obtain ⟨h1, h2⟩ := eval_list hs l vs hvs
    exact ⟨by simp [h1], .cons (hs.eval hv) h2⟩

theorem val_build {T : TypeId} {fs : Array Go.Field} {sz b' : Nat} {zv : Value} {parts : Array (Nat × Operand)} {pl : Array (Nat × Nat)} {vs : List (Nat × AV)} {zs cells : List AV}
    (hT : TyI P T (.struct fs) sz (some zv) b') (hpl : Places P fs pl) (hz : zAV zv = .agg zs) (hvs : parts.toList.mapM (fun x => (aeval env x.2).map fun v => (x.1, v)) = some vs)
    (hf : afill (pl[·]?) zs vs = some cells) : ValM md P c ⟨dst, .build T parts, ty, pos, af, gd⟩ env G (.agg cells) := fun a w hs => by
  obtain ⟨h1, h2⟩ := eval_list hs _ _ hvs
  have hzr := zAV_rep G w zv
  rw [hz] at hzr
  have hzc := hzr.cells' rfl
  obtain ⟨vo, h3, h4⟩ := afill_rep (pl[·]?) vs _ zs cells zv.cells h1 h2 hzc hf
  refine ⟨.agg vo, by have := Rep.agg cells vo.toList h4.1 h4.2; simpa using this, fun w' _ => ?_⟩
  have hpw := hpl w'
  simp only [execOp, Instr.build, Sem.run_bind, hT.run_zero, Result.andThen_ok, hT.run_und, hpw]
  have e : (parts.map fun x => (x.1, a.eval x.2)).toList = parts.toList.map fun x => (x.1, a.eval x.2) := by simp
  simp only [e, h3]
  rfl

end

/-! ### Rows as flat lists of cells -/
def flat (l : List AV) : List AV := l.flatMap AV.cells
def Even (sz : Nat) (l : List AV) : Prop := ∀ x ∈ l, x.cells.length = sz
theorem Even.nil (sz : Nat) : Even sz [] := fun x h => by simp at h
theorem Even.cons {sz : Nat} {x : AV} {l : List AV} (h : x.cells.length = sz) (h' : Even sz l) : Even sz (x :: l) := fun y hy => by
  rcases List.mem_cons.1 hy with rfl | hy
  · exact h
  · exact h' y hy
theorem Even.append {sz : Nat} {l m : List AV} (h : Even sz l) (h' : Even sz m) : Even sz (l ++ m) := fun y hy => by
  rcases List.mem_append.1 hy with hy | hy
  · exact h y hy
  · exact h' y hy
theorem Even.map {α : Type} {sz : Nat} (f : α → AV) (hf : ∀ x, (f x).cells.length = sz) (l : List α) : Even sz (l.map f) := fun y hy => by
  obtain ⟨x, _, rfl⟩ := List.mem_map.1 hy; exact hf x
theorem Even.take {sz : Nat} {l : List AV} (h : Even sz l) (n : Nat) : Even sz (l.take n) := fun y hy => h y (List.mem_of_mem_take hy)
theorem Even.drop {sz : Nat} {l : List AV} (h : Even sz l) (n : Nat) : Even sz (l.drop n) := fun y hy => h y (List.mem_of_mem_drop hy)
theorem Even.set {sz : Nat} {l : List AV} (h : Even sz l) (n : Nat) {x : AV} (hx : x.cells.length = sz) : Even sz (l.set n x) := fun y hy => by
  rcases List.mem_or_eq_of_mem_set hy with hy | rfl
  · exact h y hy
  · exact hx
theorem flat_nil : flat [] = [] := rfl
theorem flat_cons (x : AV) (l : List AV) : flat (x :: l) = x.cells ++ flat l := rfl
theorem flat_append (l m : List AV) : flat (l ++ m) = flat l ++ flat m := by simp [flat]
theorem flat_len {sz : Nat} : ∀ {l : List AV}, Even sz l → (flat l).length = l.length * sz
  | [], _ => by simp [flat]
  | x :: l, h => by
    rw [flat_cons, List.length_append, flat_len (fun y hy => h y (by simp [hy])), h x (by simp), List.length_cons, Nat.add_mul]; omega
theorem flat_bound {sz : Nat} {l : List AV} (h : Even sz l) {i : Nat} (hi : i < l.length) {j : Nat} (hj : j < l[i].cells.length) : i * sz + j < l.length * sz := by
  have hs : l[i].cells.length = sz := h _ (List.getElem_mem hi)
  have : (i + 1) * sz ≤ l.length * sz := Nat.mul_le_mul_right _ hi
  rw [Nat.add_mul] at this; omega
theorem flat_get {sz : Nat} : ∀ {l : List AV} (h : Even sz l) (i : Nat) (hi : i < l.length) (j : Nat) (hj : j < l[i].cells.length) (hb : i * sz + j < (flat l).length),
    (flat l)[i * sz + j] = l[i].cells[j]
  | x :: l, h, i, hi, j, hj, hb => by
    have hx : x.cells.length = sz := h x (by simp)
    cases i with
    | zero =>
      simp only [flat_cons, Nat.zero_mul, Nat.zero_add, List.getElem_cons_zero] at hj ⊢
      rw [List.getElem_append_left hj]
    | succ i =>
      have e : (i + 1) * sz + j = x.cells.length + (i * sz + j) := by rw [hx, Nat.add_mul]; omega
      simp only [flat_cons, List.getElem_cons_succ] at hj ⊢
      rw [List.getElem_append_right (by rw [e]; omega)]
      have e2 : (i + 1) * sz + j - x.cells.length = i * sz + j := by rw [e]; omega
      simp only [e2]
      exact flat_get (fun y hy => h y (by simp [hy])) i (by simpa using hi) j hj _
theorem flat_take {sz : Nat} : ∀ {l : List AV} (h : Even sz l) (n : Nat), flat (l.take n) = (flat l).take (n * sz)
  | [], _, n => by simp [flat]
  | x :: l, h, 0 => by simp [flat]
  | x :: l, h, n + 1 => by
    have hx : x.cells.length = sz := h x (by simp)
    rw [List.take_succ_cons, flat_cons, flat_cons, flat_take (fun y hy => h y (by simp [hy])) n, Nat.add_mul, Nat.one_mul, Nat.add_comm (n * sz), ← hx, List.take_length_add_append]
theorem flat_drop {sz : Nat} : ∀ {l : List AV} (h : Even sz l) (n : Nat), flat (l.drop n) = (flat l).drop (n * sz)
  | [], _, n => by simp [flat]
  | x :: l, h, 0 => by simp
  | x :: l, h, n + 1 => by
    have hx : x.cells.length = sz := h x (by simp)
    rw [List.drop_succ_cons, flat_cons, flat_drop (fun y hy => h y (by simp [hy])) n, Nat.add_mul, Nat.one_mul, Nat.add_comm (n * sz), ← hx, List.drop_length_add_append]

/-- A block whose first cells stand for a row's. -/
theorem row_mk {G : AHeap} {w : World} {b sz : Nat} {l : List AV} {C : Array Value} {T : TypeId} {vs rest : List Value} (hh : w.heap[b]? = some (.cells C T (0, 0))) (he : Even sz l)
    (hC : C.toList = vs ++ rest) (hr : Reps G w (flat l) vs) : RowRep G w b (.row sz l) := by
  have hl : vs.length = l.length * sz := by rw [← hr.1, flat_len he]
  have hCs : C.size = vs.length + rest.length := by rw [← Array.length_toList, hC]; simp
  refine ⟨C, T, hh, by omega, fun i h => he _ (List.getElem_mem h), fun i hi j hj => ?_⟩
  have hb := flat_bound he hi hj
  refine ⟨vs[i * sz + j]'(by omega), ?_, ?_⟩
  · rw [← Array.getElem?_toList, hC, List.getElem?_append_left (by omega), List.getElem?_eq_getElem]
  · have := hr.2 (i * sz + j) (by rw [flat_len he]; exact hb) (by omega)
    rwa [flat_get he i hi j hj] at this
theorem row_flat {G : AHeap} {w : World} {b sz : Nat} {l : List AV} (h : RowRep G w b (.row sz l)) : ∃ C T vs rest, w.heap[b]? = some (.cells C T (0, 0)) ∧ Even sz l ∧
    C.toList = vs ++ rest ∧ Reps G w (flat l) vs := by
  obtain ⟨C, T, hh, hl, hsz, hc⟩ := h
  have he : Even sz l := fun x hx => by obtain ⟨i, hi, rfl⟩ := List.getElem_of_mem hx; exact hsz i hi
  refine ⟨C, T, C.toList.take (l.length * sz), C.toList.drop (l.length * sz), hh, he, by simp, ?_, fun k h1 h2 => ?_⟩
  · rw [flat_len he]; simp; omega
  · have hk : k < l.length * sz := by rw [← flat_len he]; exact h1
    have hs0 : 0 < sz := by
      rcases Nat.eq_zero_or_pos sz with h0 | h0
      · subst h0; simp at hk
      · exact h0
    have hi : k / sz < l.length := (Nat.div_lt_iff_lt_mul hs0).2 hk
    have hj : k % sz < l[k / sz].cells.length := by rw [hsz _ hi]; exact Nat.mod_lt _ hs0
    have hkk : k / sz * sz + k % sz = k := by rw [Nat.mul_comm]; exact Nat.div_add_mod k sz
    obtain ⟨v, hv, hr⟩ := hc (k / sz) hi (k % sz) hj
    rw [hkk] at hv
    have h3 := flat_get he (k / sz) hi (k % sz) hj (by rw [hkk]; exact h1)
    simp only [hkk] at h3
    rw [h3]
    have : C.toList[k]? = some v := by rw [Array.getElem?_toList]; exact hv
    have h4 : (C.toList.take (l.length * sz))[k]? = some v := by rw [List.getElem?_take, if_pos hk]; exact this
    rw [List.getElem?_eq_getElem h2] at h4
    injection h4 with h4
    rw [h4]; exact hr

section
variable {md : Bool} {P : Program} {c : Ctx} {env : Env} {G : AHeap} {dst : Option Tmp} {ty : TypeId} {pos : String} {af : Array Edge} {gd : Option (Nat × Bool)} {Q : Exit → Act → World → Prop} {K : Act → World → Prop}

theorem St.newRow {a : Act} {w : World} {d : Nat} {l : List AV} {sz cap : Nat} {C : Array Value} {T : TypeId} {vs rest : List Value} (hs : St c env G a w) (hd : Nat.blt d c.nt = true) (he : Even sz l)
    (hC : C.toList = vs ++ rest) (hr : Reps G w (flat l) vs) (hcap : l.length ≤ cap) (hcs : cap * sz ≤ C.size) :
    St c ((d, .own w.heap.size sz 0 l.length) :: env) (G.set w.heap.size (.row sz l)) (a.put (some d) (.slice (some ⟨w.heap.size, 0, none⟩) l.length cap)) (w.alloc (.cells C T)) := by
  have hx := ext_alloc hs.sim (.cells C T) (.row sz l)
  have hsim : Sim (G.set w.heap.size (.row sz l)) (w.alloc (.cells C T)) := sim_alloc hs.sim _ _ (row_mk (heap_alloc_new' w _) he hC (hr.mono hx))
  refine (hs.move hsim hx (fun _ _ h => h.elim)).put hd ?_
  have := Rep.own (G := G.set w.heap.size (.row sz l)) (w := w.alloc (.cells C T)) w.heap.size sz 0 l.length cap hcap ⟨T, C.size, by unfold World.shape?; rw [heap_alloc_new'], by simpa using hcs⟩
  simpa using this

/-- A new row of elements. -/
theorem step_newRow {o : Oper} {d : Nat} {l : List AV} {sz : Nat} (ho : o.dst = some d) (hd : Nat.blt d c.nt = true) (he : Even sz l)
    (hrun : ∀ a w, St c env G a w → ∃ C T, Reps G w (flat l) C.toList ∧ (execOp a.eval o).run P w = .ok (.value (.slice (some ⟨w.heap.size, 0, none⟩) l.length l.length)) (w.alloc (.cells C T)))
    (h : ∀ r, G r = none → c.w0.heap.size ≤ r → Goal c ((d, .own r sz 0 l.length) :: env) (G.set r (.row sz l)) K) : Step P c o Q env G K := fun a w hs => by
  obtain ⟨C, T, hr, hrun⟩ := hrun a w hs
  unfold Oper.wp
  rw [hrun, Oper.upon_value, ho]
  have hC : C.size = l.length * sz := by have := hr.1; rw [flat_len he] at this; simpa using this.symm
  exact h w.heap.size (hs.sim.none (Nat.le_refl _)) hs.fresh _ _ (hs.newRow hd he (rest := []) (by simp) hr (Nat.le_refl _) (by omega))
end
end Go.Proofs.Ytgedefcjngofkaa.AM

/- The abstract machine, part 5: literals and made slices, stores, calls; code; a function's beginning and end. -/
set_option linter.unusedVariables false
set_option linter.unusedSimpArgs false
namespace Go.Proofs.Ytgedefcjngofkaa.AM
open Go

def AV.isCell : AV → Bool
  | .agg _ | .tup _ | .unk => false
  | _ => true
theorem Rep.oneCell {G : AHeap} {w : World} {a : AV} {v : Value} (h : Rep G w a v) (hc : a.isCell = true) : v.oneCell' = true := by
  cases h <;> first | rfl | cases hc
theorem Reps.oneCell {G : AHeap} {w : World} {l : List AV} {vs : List Value} (h : Reps G w l vs) (hc : l.all AV.isCell = true) : ∀ v ∈ vs, v.oneCell' = true := fun v hv => by
  obtain ⟨i, hi, rfl⟩ := List.getElem_of_mem hv
  have hi' : i < l.length := by rw [h.1]; exact hi
  exact (h.2 i hi' hi).oneCell (List.all_eq_true.1 hc _ (List.getElem_mem hi'))

section
variable {P : Program} {c : Ctx} {env : Env} {G : AHeap} {dst : Option Tmp} {ty : TypeId} {pos : String} {af : Array Edge} {gd : Option (Nat × Bool)} {Q : Exit → Act → World → Prop} {K : Act → World → Prop}

/-- A slice literal, all of whose elements are given. -/
theorem step_buildSlice {T E : TypeId} {de : TypeDesc} {s b' sz by_ n d : Nat} {z : Option Value} {zv : Value} {parts : Array (Nat × Operand)} {vs : List (Nat × AV)} {l : List AV}
    (hT : TyI P T (.slice E) s z b') (hE : TyI P E de sz (some zv) by_) (hd : Nat.blt d c.nt = true) (hvs : parts.toList.mapM (fun x => (aeval env x.2).map fun v => (x.1, v)) = some vs)
    (hf : afill (fun i => some (i * sz, sz)) (List.replicate (n * sz) .unk) vs = some (flat l)) (he : Even sz l) (hn : l.length = n) (hsm : n * sz ≤ 16777216)
    (h : ∀ r, G r = none → c.w0.heap.size ≤ r → Goal c ((d, .own r sz 0 l.length) :: env) (G.set r (.row sz l)) K) : Step P c ⟨some d, .buildSlice T n parts, ty, pos, af, gd⟩ Q env G K :=
  step_newRow rfl hd he (fun a w hs => by
    obtain ⟨h1, h2⟩ := eval_list hs _ _ hvs
    have hzr : ∀ C : Array Value, C.size = n * sz → Reps G w (List.replicate (n * sz) .unk) C.toList := fun C hC =>
      ⟨by simp [hC], fun i hi1 hi2 => by simpa using Rep.unk _⟩
    have e : (parts.map fun x => (x.1, a.eval x.2)).toList = parts.toList.map fun x => (x.1, a.eval x.2) := by simp
    have hsm' : ¬ (n * sz > 2 ^ 24) := by simp; omega
    by_cases h0 : n * sz = 0
    · obtain ⟨vo, h3, h4⟩ := afill_rep (fun i => some (i * sz, sz)) vs _ _ (flat l) #[] h1 h2 (by have := hzr #[] (by simp [h0]); exact this) hf
      refine ⟨vo, E, h4, ?_⟩
      simp only [execOp, Instr.buildSlice, Sem.run_bind, hT.run_und, Result.andThen_ok, hE.run_size, if_neg hsm', h0, e]
      have e0 : ∀ f : Nat → Value, Array.map f (Array.range 0) = #[] := fun f => Array.eq_empty_of_size_eq_zero (by simp)
      simp [h0, e0, h3, newRow, hn]
    · obtain ⟨vo, h3, h4⟩ := afill_rep (fun i => some (i * sz, sz)) vs _ _ (flat l) ((Array.range (n * sz)).map (zv.cells[· % zv.cells.size]!)) h1 h2 (hzr _ (by simp)) hf
      refine ⟨vo, E, h4, ?_⟩
      simp only [execOp, Instr.buildSlice, Sem.run_bind, hT.run_und, Result.andThen_ok, hE.run_size, if_neg hsm', h0, e]
      simp [h0, hE.run_zero, h3, newRow, hn]) h

theorem flat_replicate (n : Nat) (z : AV) : flat (List.replicate n z) = (List.replicate n z.cells).flatten := by
  simp [flat, List.flatMap_replicate]
/-- make([]T, n) -/
theorem step_makeSlice {T E : TypeId} {de : TypeDesc} {s b' sz by_ d n : Nat} {z : Option Value} {zv : Value} {x : Operand} {k : IntKind} {m : Int} {za : AV} (hT : TyI P T (.slice E) s z b') (hE : TyI P E de sz (some zv) by_) (hd : Nat.blt d c.nt = true)
    (hx : aeval env x = some (.int k m)) (hm : m = (n : Int)) (hz : zAV zv = za) (hzs : za.cells.length = sz) (hzu : za.isUnk = false) (hb : n * by_ ≤ 140737488355328) (hn : n ≤ 140737488355328)
    (h : ∀ r, G r = none → c.w0.heap.size ≤ r → Goal c ((d, .own r sz 0 (List.replicate n za).length) :: env) (G.set r (.row sz (List.replicate n za))) K) : Step P c ⟨some d, .makeSlice T x x, ty, pos, af, gd⟩ Q env G K :=
  step_newRow rfl hd (fun y hy => by rw [List.eq_of_mem_replicate hy]; exact hzs) (fun a w hs => by
    subst hm
    have hzr := (zAV_rep G w zv); rw [hz] at hzr
    have hzc := hzr.cells' hzu
    have hvz : zv.cells.size = sz := by have := hzc.1; simp at this; omega
    have hw : IntKind.i64.wrap (n : Int) = n := wrap64_id (by omega)
    refine ⟨(Array.range (n * sz)).map (zv.cells[· % zv.cells.size]!), E, ⟨?_, fun i h1 h2 => ?_⟩, ?_⟩
    · rw [flat_len (sz := sz) (fun y hy => by rw [List.eq_of_mem_replicate hy]; exact hzs)]; simp
    · have hsp : 0 < sz := by
        rcases Nat.eq_zero_or_pos sz with h0 | h0
        · subst h0; simp at h2
        · exact h0
      have hi : i < n * sz := by simpa using h2
      have hq : i / sz < (List.replicate n za).length := by simpa using (Nat.div_lt_iff_lt_mul hsp).2 hi
      have hr : i % sz < (List.replicate n za)[i / sz].cells.length := by simp only [List.getElem_replicate, hzs]; exact Nat.mod_lt _ hsp
      have hkk : i / sz * sz + i % sz = i := by rw [Nat.mul_comm]; exact Nat.div_add_mod i sz
      have h3 := flat_get (sz := sz) (l := List.replicate n za) (fun y hy => by rw [List.eq_of_mem_replicate hy]; exact hzs) (i / sz) hq (i % sz) hr (by rw [hkk]; exact h1)
      simp only [hkk, List.getElem_replicate] at h3
      rw [h3]
      have hlt : i % sz < zv.cells.toList.length := by simp [hvz]; exact Nat.mod_lt _ hsp
      have := hzc.2 (i % sz) (by rw [hzs]; exact Nat.mod_lt _ hsp) hlt
      have e2 : zv.cells.toList[i % sz] = zv.cells[i % zv.cells.size]! := by
        rw [hvz, getElem!_pos _ _ (by rw [hvz]; exact Nat.mod_lt _ hsp)]; simp
      rw [e2] at this
      simpa using this
    · obtain ⟨i0, g1, g2, g3, g4, g5⟩ := hE.run_info w
      have hby : ¬ ((by_ : Int) * (n : Int) > 2 ^ 48) := by
        have : ((n * by_ : Nat) : Int) ≤ ((140737488355328 : Nat) : Int) := Int.ofNat_le.2 hb
        rw [Int.natCast_mul, Int.mul_comm] at this
        have e48 : (2 : Int) ^ 48 = 281474976710656 := by decide
        rw [e48]
        omega
      simp only [execOp, Instr.makeSlice, Sem.run_bind, hT.run_und, Result.andThen_ok, rep_int (hs.eval hx), asInt, asIntOf, Sem.run_pure, g1, g5, hw]
      have c1 : (decide ((n : Int) < 0) || decide ((by_ : Int) * (n : Int) > 2 ^ 48) || decide ((n : Int) < 0) || decide ((n : Int) > (n : Int))) = false := by
        simp; omega
      simp only [c1, Bool.false_eq_true, if_false, Sem.run_bind, run_askRoom, Result.andThen_ok, hE.run_size, Int.toNat_natCast]
      by_cases h0 : n * sz = 0
      · have e0 : ∀ f : Nat → Value, Array.map f (Array.range 0) = #[] := fun f => Array.eq_empty_of_size_eq_zero (by simp)
        simp [h0, e0, newRow]
      · simp [h0, hE.run_zero, newRow]) h

/-! ### Stores -/
def splice (l : List AV) (off : Nat) (m : List AV) : List AV := l.take off ++ m ++ l.drop (off + m.length)

theorem store_at {a : Act} {w : World} {r off sz b' : Nat} {T : TypeId} {d : TypeDesc} {z : Option Value} {x y : Operand} {v : Value} {vs : List Value} {C : Array Value} {Tc : TypeId}
    (hT : TyI P T d sz z b') (hy : a.eval y = .pointer (some ⟨r, off, none⟩)) (hx : a.eval x = v) (hv : v.cells.toList = vs) (hl : vs.length = sz) (h1 : ∀ u ∈ vs, u.oneCell' = true)
    (hh : w.heap[r]? = some (.cells C Tc (0, 0))) (hb : off + vs.length ≤ C.size) :
    (execOp a.eval ⟨dst, .store T y x, ty, pos, af, gd⟩).run P w = .ok .skip (w.setRow r (C.toList.take off ++ vs ++ C.toList.drop (off + vs.length)).toArray) := by
  have hst := run_storeCells_at P r off Tc vs 0 C w hh (by simpa using hb) h1
  simp only [Nat.add_zero] at hst
  have hs : v.cells.size = sz := by rw [← hl, ← hv]; simp
  simp [execOp, hx, hy, Instr.storeAt, Instr.sureAddr, storeVar, hT.run_size, hs, hv, hst]

/-- A store into a variable. -/
theorem step_store {T : TypeId} {d : TypeDesc} {sz b' r off : Nat} {z : Option Value} {x y : Operand} {av old new : AV} (hT : TyI P T d sz z b') (hy : aeval env y = some (.box r off)) (hx : aeval env x = some av)
    (hG : G r = some (.box old)) (hsz : av.cells.length = sz) (hc : av.cells.all AV.isCell = true) (hoff : off + sz ≤ old.cells.length) (hnew : new.cells = splice old.cells off av.cells)
    (hD : c.D r ∨ c.w0.heap.size ≤ r) (h : Goal c env (G.set r (.box new)) K) : Step P c ⟨none, .store T y x, ty, pos, af, gd⟩ Q env G K := fun a w hs => by
  have hu : av.isUnk = false := by
    cases av <;> first | rfl | (simp [AV.cells, AV.isCell] at hc)
  have hr := (hs.eval hx).cells' hu
  obtain ⟨C, Tc, hh, hl, hcs⟩ := hs.sim r _ hG
  have hp : a.eval y = .pointer (some ⟨r, off, none⟩) := by
    have := hs.eval hy
    generalize a.eval y = u at this
    cases this; rfl
  have hvl : (a.eval x).cells.toList.length = sz := by rw [← hr.1]; exact hsz
  have hrun := store_at (dst := none) (ty := ty) (pos := pos) (af := af) (gd := gd) hT hp rfl rfl hvl (hr.oneCell hc) hh (by omega)
  unfold Oper.wp
  rw [hrun, Oper.upon_skip]
  have hsize : (C.toList.take off ++ (a.eval x).cells.toList ++ C.toList.drop (off + (a.eval x).cells.toList.length)).toArray.size = C.size := by simp at hvl ⊢; omega
  have hne : G r ≠ none := by rw [hG]; simp
  have he := ext_setRow (y := .box new) hh hsize hne
  refine h _ _ (hs.move (sim_setRow hs.sim hh hsize hne ⟨_, Tc, setRow_heap w r C _ Tc _ hh, ?_, fun j hj => ?_⟩) he (fun b hb hbr => ?_))
  · rw [hsize, hnew]; simp [splice]; omega
  · have hj' : j < (splice old.cells off av.cells).length := by rw [← hnew]; exact hj
    have hspl : (splice old.cells off av.cells).length = old.cells.length := by simp [splice]; omega
    have hcj : (C.toList.take off ++ (a.eval x).cells.toList ++ C.toList.drop (off + (a.eval x).cells.toList.length)).toArray[j]? = some ((C.toList.take off ++ (a.eval x).cells.toList ++ C.toList.drop (off + (a.eval x).cells.toList.length))[j]'(by
      have : j < C.size := by omega
      simp at hvl hsize ⊢; omega)) := by simp
    refine ⟨_, hcj, ?_⟩
    have hreps : Reps G w (splice old.cells off av.cells) ((C.toList.take off ++ (a.eval x).cells.toList ++ C.toList.drop (off + (a.eval x).cells.toList.length)).take old.cells.length) := by
      have hold : Reps G w old.cells (C.toList.take old.cells.length) := ⟨by simp; omega, fun i h1 h2 => by
        obtain ⟨u, hu1, hu2⟩ := hcs i h1
        have : C.toList[i]? = some u := by rw [Array.getElem?_toList]; exact hu1
        have h4 : (C.toList.take old.cells.length)[i]? = some u := by rw [List.getElem?_take, if_pos h1]; exact this
        rw [List.getElem?_eq_getElem h2] at h4
        injection h4 with h4
        rw [h4]; exact hu2⟩
      have h5 := ((hold.take off).append hr).append (hold.drop (off + av.cells.length))
      have e1 : (C.toList.take old.cells.length).take off = C.toList.take off := by rw [List.take_take]; congr 1; omega
      have e2 : (C.toList.take off ++ (a.eval x).cells.toList ++ C.toList.drop (off + (a.eval x).cells.toList.length)).take old.cells.length = C.toList.take off ++ (a.eval x).cells.toList ++ (C.toList.take old.cells.length).drop (off + av.cells.length) := by
        have hlt : (C.toList.take off ++ (a.eval x).cells.toList).length = off + av.cells.length := by simp at hvl ⊢; omega
        rw [List.take_append, List.take_of_length_le (by omega), hlt, List.take_drop, ← hr.1]
        rw [show off + av.cells.length + (old.cells.length - (off + av.cells.length)) = old.cells.length from by omega]
      rw [e1] at h5
      rw [e2]
      exact h5
    have := hreps.2 j hj' (by simp at hvl ⊢; omega)
    rw [List.getElem_take] at this
    have e : new.cells[j] = (splice old.cells off av.cells)[j] := by simp only [hnew]
    rw [e]
    exact this.mono he
  · subst hbr
    rcases hD with hD | hD
    · exact hD
    · omega
end
end Go.Proofs.Ytgedefcjngofkaa.AM

/- The abstract machine, part 6: calls, code, a function's beginning and end. -/
set_option linter.unusedVariables false
set_option linter.unusedSimpArgs false
namespace Go.Proofs.Ytgedefcjngofkaa.AM
open Go

/-- A function that can be called. -/
structure FnI (P : Program) (f : FuncId) (fn : Func) : Prop where
  at_ : P.funcs[f]? = some fn
  nm : (fn.name == "runtime.NumGoroutine") = false
  bd : fn.body.isNone = false

/-- What a call of f comes to, from abstract heap G: only old blocks of D may turn; R of the old heap's size, the result and the heap behind it. -/
def ACalls (P : Program) (f : FuncId) (args : List AV) (G : AHeap) (D : Nat → Prop) (R : Nat → AV → AHeap → Prop) : Prop :=
  (∃ fn, FnI P f fn) ∧ ∀ (w : World) (vs : List Value), Sim G w → Reps G w args vs →
    Calls P f vs.toArray w fun e w' => ∃ v r G', e = .returned v ∧ R w.heap.size r G' ∧ Rep G' w' r v ∧ Sim G' w' ∧ Ext G w D G' w'

theorem ACalls.mono {P : Program} {f : FuncId} {args : List AV} {G : AHeap} {D : Nat → Prop} {R R' : Nat → AV → AHeap → Prop} (h : ACalls P f args G D R)
    (hR : ∀ n r G', (∀ b, n ≤ b → G b = none) → R n r G' → R' n r G') : ACalls P f args G D R' :=
  ⟨h.1, fun w vs hs hr => (h.2 w vs hs hr).mono fun e w' ⟨v, r, G', h1, h2, h3, h4, h5⟩ => ⟨v, r, G', h1, hR _ _ _ (fun b hb => hs.none hb) h2, h3, h4, h5⟩⟩
/-- Behind a call some of what is listed may be forgotten, and the result said with less. -/
theorem ACalls.less {P : Program} {f : FuncId} {args : List AV} {G : AHeap} {D : Nat → Prop} {R R' : Nat → AV → AHeap → Prop} (h : ACalls P f args G D R)
    (hR : ∀ n r G' w' v, (∀ b, n ≤ b → G b = none) → R n r G' → Sim G' w' → Rep G' w' r v → ∃ r' G'', R' n r' G'' ∧ G''.sub G' ∧ Rep G'' w' r' v) : ACalls P f args G D R' :=
  ⟨h.1, fun w vs hs hr => (h.2 w vs hs hr).mono fun e w' ⟨v, r, G', h1, h2, h3, h4, h5⟩ => by
    obtain ⟨r', G'', g1, g2, g3⟩ := hR _ _ _ w' v (fun b hb => hs.none hb) h2 h4 h3
    exact ⟨v, r', G'', h1, g1, g3, h4.forget g2, h5.trans (Ext.forget w' g2) (fun _ _ h => h.elim)⟩⟩
theorem ACalls.args {P : Program} {f : FuncId} {args args' : List AV} {G : AHeap} {D : Nat → Prop} {R : Nat → AV → AHeap → Prop} (h : ACalls P f args' G D R) (hA : ASubs args args') : ACalls P f args G D R :=
  ⟨h.1, fun w vs hs hr => h.2 w vs hs ⟨hA.len ▸ hr.1, fun i h1 h2 => hA.get i (by rw [hA.len]; exact h1) h1 _ _ _ (hr.2 i _ h2)⟩⟩

section
variable {P : Program} {c : Ctx} {env : Env} {G : AHeap} {dst : Option Tmp} {ty : TypeId} {pos : String} {af : Array Edge} {gd : Option (Nat × Bool)} {Q : Exit → Act → World → Prop} {K : Act → World → Prop}

theorem eval_ops {a : Act} {w : World} (hs : St c env G a w) : ∀ (l : List Operand) (vs : List AV), l.mapM (aeval env) = some vs → Reps G w vs (l.map a.eval)
  | [], vs, h => by simp at h; subst h; exact .nil _ _
  | x :: l, vs, h => by
    simp only [List.mapM_cons, Option.bind_eq_bind, Option.bind_eq_some_iff, Option.pure_def, Option.some.injEq] at h
    obtain ⟨v, hv, vs, hvs, rfl⟩ := h
    exact .cons (hs.eval hv) (eval_ops hs l vs hvs)

/-- Behind a call. -/
def Behind (c : Ctx) (G : AHeap) (R : Nat → AV → AHeap → Prop) (k : AV → AHeap → Prop) : Prop :=
  ∀ n r G', c.w0.heap.size ≤ n → (∀ b, n ≤ b → G b = none) → R n r G' → k r G'

theorem run_callFunc {f : FuncId} {fn : Func} (hf : FnI P f fn) (args : Array Value) (w : World) : (callFunc f args).run P w = .ok (.enter f args) w := by
  have h1 := hf.nm
  have h2 := hf.bd
  simp only [callFunc, Sem.run_bind, run_program, Result.andThen_ok, hf.at_, h1, h2, Bool.false_eq_true, if_false]
  rfl

theorem step_call {x : Operand} {xs : Array Operand} {at_ : Array TypeId} {f : FuncId} {caps avs : List AV} {D : Nat → Prop} {R : Nat → AV → AHeap → Prop} {d : Nat}
    (hx : aeval env x = some (.fn (.func f) caps)) (hxs : xs.toList.mapM (aeval env) = some avs) (hd : Nat.blt d c.nt = true) (h : ACalls P f (avs ++ caps) G D R)
    (hD : ∀ b, D b → c.D b ∨ c.w0.heap.size ≤ b) (hk : Behind c G R fun r G' => Goal c ((d, r) :: env) G' K) : Step P c ⟨some d, .call ⟨.value x, xs, at_⟩, ty, pos, af, gd⟩ Q env G K := fun a w hs => by
  obtain ⟨⟨fn, hfn⟩, hcall⟩ := h
  have hr := hs.eval hx
  generalize hu : a.eval x = u at hr
  cases hr with
  | fn _ _ vs hl hcs =>
    have hargs := (eval_ops hs _ _ hxs).append ⟨hl, hcs⟩
    have hrun : (execOp a.eval ⟨some d, .call ⟨.value x, xs, at_⟩, ty, pos, af, gd⟩).run P w = .ok (.enter f ((xs.toList.map a.eval) ++ vs).toArray) w := by
      have e : xs.map a.eval ++ vs.toArray = ((xs.toList.map a.eval) ++ vs).toArray := by apply Array.ext'; simp
      simp [execOp, resolve, hu, Deferred.ofValue, invoke, run_callFunc hfn, e]
    unfold Oper.wp
    rw [hrun, Oper.upon_enter]
    refine (hcall w _ hs.sim hargs).mono ?_
    rintro e w' ⟨v, r, G', rfl, h2, h3, h4, h5⟩
    exact hk w.heap.size r G' hs.fresh (fun b hb => hs.sim.none hb) h2 _ _ ((hs.move h4 h5 (fun b hb hdb => (hD b hdb).resolve_right (by omega))).put hd h3)

/-! ### Code -/
theorem Goal.seq {x y : Code} (h : ∀ K : Act → World → Prop, (∀ a w, y.wp P Q a w → K a w) → Goal c env G (x.wp P (Exit.then K Q))) : Goal c env G ((Code.seq x y).wp P Q) := fun a w hs =>
  wp_seq_k fun K hK => h K hK a w hs
theorem Goal.next {x : Code} (hK : ∀ a w, x.wp P Q a w → K a w) (h : Goal c env G (x.wp P Q)) : Goal c env G (Exit.then K Q .normal) := fun a w hs => hK a w (h a w hs)
theorem Goal.region {id : Nat} {l : List Oper} (h : Goal c env G (wpList P l.toArray Q l)) : Goal c env G ((Code.region id l.toArray false).wp P Q) := fun a w hs => wp_region_lit (h a w hs)
theorem Goal.nil {ops : Array Oper} (h : Goal c env G (Q .normal)) : Goal c env G (wpList P ops Q []) := h
theorem Goal.cond {x : Operand} {t e : Code} {b : Bool} (hx : aeval env x = some (.bool b)) (ht : b = true → Goal c env G (t.wp P Q)) (he : b = false → Goal c env G (e.wp P Q)) : Goal c env G ((Code.cond x t e).wp P Q) := fun a w hs =>
  wp_cond_split (rep_bool (hs.eval hx)) (fun h => ht h a w hs) (fun h => he h a w hs)
theorem Goal.block {id : Nat} {x : Code} (h : Goal c env G (x.wp P (Exit.inBlock id Q))) : Goal c env G ((Code.block id x).wp P Q) := fun a w hs => wp_block (h a w hs)
theorem Goal.exit {id : Nat} (h : Goal c env G (Q (.exit id))) : Goal c env G ((Code.exit id).wp P Q) := fun a w hs => wp_exit (h a w hs)
theorem Goal.ret (h : Goal c env G (Q .ret)) : Goal c env G (Code.ret.wp P Q) := fun a w hs => wp_ret (h a w hs)
theorem Goal.skip (h : Goal c env G (Q .normal)) : Goal c env G (Code.skip.wp P Q) := fun a w hs => wp_skip (h a w hs)
theorem Goal.label {l : Nat} (h : Goal c env G (Q .normal)) : Goal c env G ((Code.label l).wp P Q) := fun a w hs => wp_label (h a w hs)
theorem Goal.inBlock_same {id : Nat} (h : Goal c env G (Q .normal)) : Goal c env G (Exit.inBlock id Q (.exit id)) := fun a w hs => by
  simp only [Exit.inBlock, if_true]; exact h a w hs
theorem Goal.inBlock_other {id id' : Nat} (hne : Nat.beq id' id = false) (h : Goal c env G (Q (.exit id'))) : Goal c env G (Exit.inBlock id Q (.exit id')) := fun a w hs => by
  have : id' ≠ id := fun e => by subst e; rw [Nat.beq_refl] at hne; cases hne
  simp only [Exit.inBlock, this, if_false]; exact h a w hs

/-- A loop: what holds at each round's beginning, with a number that falls. -/
theorem Goal.loop {x : Code} (I : Nat → Env → AHeap → Prop) (n : Nat) (h0 : I n env G)
    (round : ∀ n env G, I n env G → Goal c env G (x.wp P (Exit.then (fun a w => ∃ m env' G', m < n ∧ I m env' G' ∧ St c env' G' a w) Q))) : Goal c env G ((Code.loop x).wp P Q) := fun a w hs b k cs => by
  have key : ∀ n env G a w, I n env G → St c env G a w →
      ∃ e a' w', Q e a' w' ∧ Arrives P (lone (b.at a (.code x :: .inLoop x :: k)) cs w) b k cs e a' w' := by
    intro n
    induction n using Nat.strongRecOn with
    | _ n ih =>
      intro env G a w hI hs
      obtain ⟨e, a₁, w₁, hq, harr⟩ := round n env G hI a w hs b (.inLoop x :: k) cs
      cases e with
      | normal =>
        obtain ⟨m, env', G', hm, hI', hs'⟩ := hq
        obtain ⟨e₂, a₂, w₂, hq₂, harr₂⟩ := ih m hm env' G' a₁ w₁ hI' hs'
        exact ⟨e₂, a₂, w₂, hq₂, .of_steps (Steps.trans harr (.one step_inLoop)) harr₂⟩
      | exit id => exact ⟨_, a₁, w₁, hq, .pass (x := .inLoop x) rfl (fun _ _ => .inl (by simp)) harr⟩
      | goto l => exact ⟨_, a₁, w₁, hq, .pass (x := .inLoop x) rfl (fun _ _ => .inl (by simp)) harr⟩
      | ret => exact ⟨_, a₁, w₁, hq, .pass (x := .inLoop x) rfl (fun _ _ => .inl (by simp)) harr⟩
      | panic ch => exact ⟨_, a₁, w₁, hq, .pass (x := .inLoop x) rfl (fun _ _ => .inl (by simp)) harr⟩
      | outgrown => exact ⟨_, a₁, w₁, hq, .pass (x := .inLoop x) rfl (fun _ _ => .inl (by simp)) harr⟩
  obtain ⟨e, a', w', hq, harr⟩ := key n env G a w h0 hs
  exact ⟨e, a', w', hq, .of_steps (.one step_loop) harr⟩
theorem Goal.round {I : Nat → Env → AHeap → Prop} {n : Nat} (m : Nat) (env' : Env) (G' : AHeap) (ts : List Nat) (hm : m < n) (hk : env.keep ts = env') (hG : G'.sub G) (hI : I m env' G') :
    Goal c env G (Exit.then (fun a w => ∃ m env' G', m < n ∧ I m env' G' ∧ St c env' G' a w) Q .normal) := fun a w hs =>
  ⟨m, env', G', hm, hI, (hs.env fun t v hv => Env.keep_get env ts t v (hk ▸ hv)).forget hG⟩

/-! ### A function -/
/-- What a call's end must show. -/
def Ret (c : Ctx) (R : Nat → AV → AHeap → Prop) (e : Ending) (w' : World) : Prop :=
  ∃ v r G', e = .returned v ∧ R c.w0.heap.size r G' ∧ Rep G' w' r v ∧ Sim G' w' ∧ Ext c.G0 c.w0 c.D G' w'

/-- The parameters' temporaries. -/
def params : List AV → Nat → Env
  | [], _ => []
  | a :: l, i => (i, a) :: params l (i + 1)
theorem params_get : ∀ (l : List AV) (i t : Nat) (v : AV), (params l i).get t = some v → ∃ h : i ≤ t ∧ t - i < l.length, l[t - i]'h.2 = v
  | [], i, t, v, h => by simp [params, Env.get] at h
  | a :: l, i, t, v, h => by
    simp only [params, Env.get] at h
    cases hb : Nat.beq i t with
    | true =>
      rw [hb] at h
      have := Nat.eq_of_beq_eq_true hb
      subst this
      refine ⟨⟨Nat.le_refl _, by simp⟩, ?_⟩
      simpa using h
    | false =>
      rw [hb] at h
      obtain ⟨⟨h1, h2⟩, h3⟩ := params_get l (i + 1) t v h
      refine ⟨⟨by omega, by simp; omega⟩, ?_⟩
      have e : t - i = (t - (i + 1)) + 1 := by omega
      simp only [e, List.getElem_cons_succ]
      exact h3

theorem ACalls.intro {f : FuncId} {fn : Func} {code : Code} {args : List AV} {D : Nat → Prop} {R : Nat → AV → AHeap → Prop} (nt : Nat) (hf : FnI P f fn) (hb : fn.body = some code) (hnt : fn.ntmps = nt) (hlen : Nat.ble args.length nt = true)
    (hD : ∀ b, D b → G b ≠ none) (h : ∀ w0 : World, (∀ b, w0.heap.size ≤ b → G b = none) → Goal ⟨w0, G, D, nt⟩ (params args 0) G (code.wp P (bodyPost P fn (Ret ⟨w0, G, D, nt⟩ R)))) : ACalls P f args G D R :=
  ⟨⟨fn, hf⟩, fun w vs hs hr => by
    have hle : args.length ≤ nt := Nat.le_of_ble_eq_true hlen
    have hvl : vs.length = args.length := hr.1.symm
    refine calls_of_wp hf.at_ hb (h w (fun b hb => hs.none hb) _ _ ⟨hs, fun t v hv => ?_, ?_, rfl, (Ext.refl G w).weaken (fun _ h => h.elim) hD⟩)
    · obtain ⟨⟨h1, h2⟩, h3⟩ := params_get args 0 t v hv
      simp only [Nat.sub_zero] at h2 h3
      have ht : t < vs.length := by omega
      have := hr.2 t h2 ht
      rw [h3] at this
      have e : ((vs.toArray ++ Array.replicate (fn.ntmps - vs.toArray.size) undef).getD t undef) = vs[t] := by
        have hb : t < (vs.toArray ++ Array.replicate (fn.ntmps - vs.toArray.size) undef).size := by simp; omega
        simp only [Array.getD, hb, dif_pos, Array.getInternal_eq_getElem]
        rw [Array.getElem_append_left (by simpa using ht)]
        simp
      rw [e]
      exact this
    · simp; omega⟩

/-- A result variable's value. -/
inductive ARes (P : Program) (env : Env) (G : AHeap) : ResultVar → AV → Prop
  | tmp {t : Nat} {v : AV} (h : env.get t = some v) : ARes P env G (.tmp t) v
  | agg {t T sz b' r : Nat} {d : TypeDesc} {z : Option Value} {e : AV} (hT : TyI P T d sz z b') (hd : aggDesc d = true) (h : env.get t = some (.box r 0)) (hG : G r = some (.box e)) (ha : e.isAgg = true) (hl : e.cells.length = sz) : ARes P env G (.cell t T) e
  | one {t T sz b' r : Nat} {d : TypeDesc} {z : Option Value} {e : AV} (hT : TyI P T d sz z b') (hd : aggDesc d = false) (h : env.get t = some (.box r 0)) (hG : G r = some (.box e)) (hc : e.isCell = true) : ARes P env G (.cell t T) e

def resOf (tmps : Array Value) : ResultVar → Sem Value
  | .tmp t => pure (tmps.getD t undef)
  | .cell a t => do loadVar t (← asAddr (tmps.getD a undef))
theorem results_resOf (fn : Func) (tmps : Array Value) : results fn tmps = (do
    let vs ← fn.results.mapM (resOf tmps)
    pure (if h : vs.size = 1 then vs[0] else .tuple vs)) := rfl

theorem load_res {a : Act} {w : World} (hs : St c env G a w) {t T : Nat} {r : AV} (hl : Val P c ⟨some 0, .load T (.tmp t), 0, "", #[], none⟩ env G r) : ∃ v, Rep G w r v ∧ (resOf a.tmps (.cell t T)).run P w = .ok v w := by
  obtain ⟨v, h1, h2⟩ := hl a w hs
  refine ⟨v, h1, ?_⟩
  have h3 := h2 w (fun _ => Same.refl w)
  simp only [resOf]
  generalize hu : a.tmps.getD t undef = u
  have hu' : a.eval (.tmp t) = u := hu
  simp only [execOp, Instr.loadAt, hu', Sem.run_bind] at h3 ⊢
  unfold Instr.sureAddr at h3
  unfold asAddr
  split at h3
  · simp only [Sem.run_pure, Result.andThen_ok] at h3 ⊢
    rename_i p
    generalize hlv : (loadVar T p).run P w = res at h3
    cases res with
    | ok x w2 => simp at h3; obtain ⟨rfl, rfl⟩ := h3; rfl
    | halt x w2 => simp at h3
  · simp at h3
theorem ARes.run {a : Act} {w : World} (hs : St c env G a w) {rv : ResultVar} {r : AV} (h : ARes P env G rv r) : ∃ v, Rep G w r v ∧ (resOf a.tmps rv).run P w = .ok v w := by
  cases h with
  | tmp h => exact ⟨_, hs.rep _ _ h, rfl⟩
  | agg hT hd h hG ha hl => exact load_res hs (val_load_box hT hd (x := .tmp _) h hG ha hl)
  | one hT hd h hG hc =>
    have hcs : r.cells = [r] := by cases r <;> first | rfl | cases hc
    exact load_res hs (val_load hT hd (x := .tmp _) (cs := []) h (by simp [AV.pcells, hG, hcs]))

theorem Goal.end_ {fn : Func} {R : Nat → AV → AHeap → Prop} {r : AV} {G' : AHeap} {e : Exit} (he : e = .ret ∨ e = .normal)
    (hres : ∀ a w, St c env G a w → ∃ v, Rep G w r v ∧ (results fn a.tmps).run P w = .ok v w) (r' : AV) (hs : G'.sub G) (hr : ∀ w v, Sim G w → Rep G w r v → Rep G' w r' v) (hR : R c.w0.heap.size r' G') :
    Goal c env G (bodyPost P fn (Ret c R) e) := fun a w h => by
  obtain ⟨v, h1, h2⟩ := hres a w h
  have h' := h.forget hs
  have hend : Ret c R (.returned v) w := ⟨v, r', G', rfl, hR, hr w v h.sim h1, h'.sim, h'.ext⟩
  rcases he with rfl | rfl <;> exact ⟨h.dfr, v, h2, hend⟩

theorem res0 {fn : Func} (hr : fn.results = #[]) (a : Act) (w : World) (hs : St c env G a w) : ∃ v, Rep G w (.tup []) v ∧ (results fn a.tmps).run P w = .ok v w :=
  ⟨.tuple #[], by have := Rep.tup (G := G) (w := w) [] [] rfl (fun i h => by simp at h); exact this, by simp [results, hr]⟩
theorem res1 {fn : Func} {v1 : ResultVar} {r1 : AV} (hr : fn.results = #[v1]) (h1 : ARes P env G v1 r1) (a : Act) (w : World) (hs : St c env G a w) : ∃ v, Rep G w r1 v ∧ (results fn a.tmps).run P w = .ok v w := by
  obtain ⟨u1, g1, k1⟩ := h1.run hs
  refine ⟨u1, g1, ?_⟩
  simp [results_resOf, hr, k1]
theorem reps_tup {w : World} {l : List AV} {vs : List Value} (h : Reps G w l vs) : Rep G w (.tup l) (.tuple vs.toArray) := .tup l vs h.1 h.2
theorem res2 {fn : Func} {v1 v2 : ResultVar} {r1 r2 : AV} (hr : fn.results = #[v1, v2]) (h1 : ARes P env G v1 r1) (h2 : ARes P env G v2 r2) (a : Act) (w : World) (hs : St c env G a w) : ∃ v, Rep G w (.tup [r1, r2]) v ∧ (results fn a.tmps).run P w = .ok v w := by
  obtain ⟨u1, g1, k1⟩ := h1.run hs
  obtain ⟨u2, g2, k2⟩ := h2.run hs
  refine ⟨.tuple #[u1, u2], reps_tup (.cons g1 (.cons g2 (.nil _ _))), ?_⟩
  simp [results_resOf, hr, k1, k2]
theorem res3 {fn : Func} {v1 v2 v3 : ResultVar} {r1 r2 r3 : AV} (hr : fn.results = #[v1, v2, v3]) (h1 : ARes P env G v1 r1) (h2 : ARes P env G v2 r2) (h3 : ARes P env G v3 r3) (a : Act) (w : World) (hs : St c env G a w) : ∃ v, Rep G w (.tup [r1, r2, r3]) v ∧ (results fn a.tmps).run P w = .ok v w := by
  obtain ⟨u1, g1, k1⟩ := h1.run hs
  obtain ⟨u2, g2, k2⟩ := h2.run hs
  obtain ⟨u3, g3, k3⟩ := h3.run hs
  refine ⟨.tuple #[u1, u2, u3], reps_tup (.cons g1 (.cons g2 (.cons g3 (.nil _ _)))), ?_⟩
  simp [results_resOf, hr, k1, k2, k3]
end
end Go.Proofs.Ytgedefcjngofkaa.AM

/- The abstract machine, part 7: a call's own variables, told by their places in the frame. -/
set_option linter.unusedVariables false
set_option linter.unusedSimpArgs false
namespace Go.Proofs.Ytgedefcjngofkaa.AM
open Go

abbrev LPtr := List (Nat × Nat × Nat)
def lget : LPtr → Nat → Option (Nat × Nat)
  | [], _ => none
  | (k, v) :: r, t => match Nat.beq k t with
    | true => some v
    | false => lget r t
def ldel : LPtr → Nat → LPtr
  | [], _ => []
  | (k, v) :: r, t => match Nat.beq k t with
    | true => ldel r t
    | false => (k, v) :: ldel r t
def edel : Env → Nat → Env
  | [], _ => []
  | (k, v) :: r, t => match Nat.beq k t with
    | true => edel r t
    | false => (k, v) :: edel r t

theorem ldel_get : ∀ (L : LPtr) (d t : Nat), lget (ldel L d) t = if d = t then none else lget L t
  | [], d, t => by simp [ldel, lget]
  | (k, v) :: r, d, t => by
    have ih := ldel_get r d t
    simp only [ldel]
    cases h : Nat.beq k d with
    | true =>
      have := Nat.eq_of_beq_eq_true h; subst this
      simp only [ih, lget]
      split
      · rfl
      · rename_i hne
        have : Nat.beq k t = false := by
          cases hb : Nat.beq k t with
          | true => exact absurd (Nat.eq_of_beq_eq_true hb) hne
          | false => rfl
        rw [this]
    | false =>
      simp only [lget, ih]
      cases hb : Nat.beq k t with
      | true =>
        have := Nat.eq_of_beq_eq_true hb; subst this
        have : d ≠ k := fun e => by subst e; rw [Nat.beq_refl] at h; cases h
        simp [this]
      | false => rfl
theorem edel_get : ∀ (L : Env) (d t : Nat), (edel L d).get t = if d = t then none else L.get t
  | [], d, t => by simp [edel, Env.get]
  | (k, v) :: r, d, t => by
    have ih := edel_get r d t
    simp only [edel]
    cases h : Nat.beq k d with
    | true =>
      have := Nat.eq_of_beq_eq_true h; subst this
      simp only [ih, Env.get]
      split
      · rfl
      · rename_i hne
        have : Nat.beq k t = false := by
          cases hb : Nat.beq k t with
          | true => exact absurd (Nat.eq_of_beq_eq_true hb) hne
          | false => rfl
        rw [this]
    | false =>
      simp only [Env.get, ih]
      cases hb : Nat.beq k t with
      | true =>
        have := Nat.eq_of_beq_eq_true hb; subst this
        have : d ≠ k := fun e => by subst e; rw [Nat.beq_refl] at h; cases h
        simp [this]
      | false => rfl

def full (ρ : Nat → Nat) (env : Env) (L : LPtr) : Env := L.map (fun p => (p.1, AV.box (ρ p.2.1) p.2.2)) ++ env
theorem full_get (ρ : Nat → Nat) (env : Env) (t : Nat) : ∀ L : LPtr, (full ρ env L).get t = match lget L t with
    | some (s, o) => some (.box (ρ s) o)
    | none => env.get t
  | [] => rfl
  | (k, s, o) :: r => by
    have ih := full_get ρ env t r
    simp only [full, List.map_cons, List.cons_append, Env.get, lget]
    cases h : Nat.beq k t with
    | true => rfl
    | false => exact ih

def boxes (ρ : Nat → Nat) (G : AHeap) : Env → AHeap
  | [] => G
  | (s, v) :: r => (boxes ρ G r).set (ρ s) (.box v)

structure Good (c : Ctx) (G : AHeap) (B : Env) (ρ : Nat → Nat) : Prop where
  fresh : ∀ s v, B.get s = some v → G (ρ s) = none ∧ c.w0.heap.size ≤ ρ s
  inj : ∀ s s' v v', B.get s = some v → B.get s' = some v' → ρ s = ρ s' → s = s'

theorem get_cons_self (s : Nat) (v : AV) (B : Env) : Env.get ((s, v) :: B) s = some v := by simp [Env.get]
theorem get_tail {s t : Nat} {u v : AV} {B : Env} (h : B.get t = some v) : ∃ v', Env.get ((s, u) :: B) t = some v' := by
  simp only [Env.get]
  cases Nat.beq s t <;> exact ⟨_, by first | rfl | exact h⟩
theorem Good.tail {c : Ctx} {G : AHeap} {s : Nat} {u : AV} {B : Env} {ρ : Nat → Nat} (h : Good c G ((s, u) :: B) ρ) : Good c G B ρ where
  fresh := fun t v hv => by obtain ⟨v', hv'⟩ := get_tail (s := s) (u := u) hv; exact h.fresh t v' hv'
  inj := fun t t' v v' hv hv' e => by
    obtain ⟨_, h1⟩ := get_tail (s := s) (u := u) hv
    obtain ⟨_, h2⟩ := get_tail (s := s) (u := u) hv'
    exact h.inj t t' _ _ h1 h2 e
theorem boxes_get {c : Ctx} {G : AHeap} {ρ : Nat → Nat} : ∀ {B : Env} (h : Good c G B ρ) {s : Nat} {v : AV}, B.get s = some v → boxes ρ G B (ρ s) = some (.box v)
  | (k, u) :: B, h, s, v, hv => by
    simp only [boxes]
    by_cases hk : k = s
    · subst hk
      rw [get_cons_self] at hv
      injection hv with hv
      subst hv
      exact AHeap.get_set _ _ _
    · have hb : Nat.beq k s = false := by
        cases hb : Nat.beq k s with
        | true => exact absurd (Nat.eq_of_beq_eq_true hb) hk
        | false => rfl
      have hv0 := hv
      simp only [Env.get, hb] at hv
      rw [AHeap.get_set_ne _ _ (fun e => hk (h.inj k s _ _ (get_cons_self k u B) hv0 e.symm))]
      exact boxes_get h.tail hv
theorem boxes_other {ρ : Nat → Nat} {G : AHeap} {b : Nat} : ∀ {B : Env}, (∀ s v, B.get s = some v → b ≠ ρ s) → boxes ρ G B b = G b
  | [], _ => rfl
  | (k, u) :: B, h => by
    simp only [boxes]
    rw [AHeap.get_set_ne _ _ (h k u (get_cons_self k u B))]
    exact boxes_other fun s v hv => by obtain ⟨v', hv'⟩ := get_tail (s := k) (u := u) hv; exact h s v' hv'
theorem boxes_sub {c : Ctx} {G : AHeap} {B : Env} {ρ : Nat → Nat} (h : Good c G B ρ) : G.sub (boxes ρ G B) := fun b x hb => by
  rw [boxes_other fun s v hv e => by rw [e, (h.fresh s v hv).1] at hb; cases hb]; exact hb
theorem boxes_cases {c : Ctx} {G : AHeap} {B : Env} {ρ : Nat → Nat} (h : Good c G B ρ) (b : Nat) : (∃ s v, B.get s = some v ∧ b = ρ s ∧ boxes ρ G B b = some (.box v)) ∨ ((∀ s v, B.get s = some v → b ≠ ρ s) ∧ boxes ρ G B b = G b) := by
  by_cases hx : ∃ s v, B.get s = some v ∧ b = ρ s
  · obtain ⟨s, v, h1, h2⟩ := hx
    exact .inl ⟨s, v, h1, h2, by rw [h2]; exact boxes_get h h1⟩
  · have : ∀ s v, B.get s = some v → b ≠ ρ s := fun s v h1 h2 => hx ⟨s, v, h1, h2⟩
    exact .inr ⟨this, boxes_other this⟩

theorem view_sub {G H : AHeap} (h : G.sub H) {a : AV} {l : List AV} (hv : a.view G = some l) : a.view H = some l := by
  unfold AV.view at *
  split at hv <;> try exact hv
  rename_i r sz o n
  split at hv
  · rename_i s l0 hr
    simp only [h _ _ hr]
    exact hv
  · cases hv

/-- The state as it is worked with: plain temporaries, pointers to the call's own variables, these variables, the heap. -/
def GoalL (c : Ctx) (env : Env) (L : LPtr) (B : Env) (G : AHeap) (K : Act → World → Prop) : Prop := ∀ ρ, Good c G B ρ → Goal c (full ρ env L) (boxes ρ G B) K
def StepL (P : Program) (c : Ctx) (o : Oper) (Q : Exit → Act → World → Prop) (env : Env) (L : LPtr) (B : Env) (G : AHeap) (K : Act → World → Prop) : Prop := ∀ ρ, Good c G B ρ → Step P c o Q (full ρ env L) (boxes ρ G B) K
def ValLM (m : Bool) (P : Program) (c : Ctx) (o : Oper) (env : Env) (L : LPtr) (B : Env) (G : AHeap) (av : AV) : Prop := ∀ ρ, Good c G B ρ → ValM m P c o (full ρ env L) (boxes ρ G B) av
abbrev ValL (P : Program) (c : Ctx) (o : Oper) (env : Env) (L : LPtr) (B : Env) (G : AHeap) (av : AV) : Prop := ValLM true P c o env L B G av

def ev (env : Env) (L : LPtr) : Operand → Option AV
  | .tmp t => match lget L t with
    | some _ => none
    | none => env.get t
  | .const v => some (constAV v)
  | .func f => some (.fn (.func f) [])
  | .global _ => none
def evl (L : LPtr) : Operand → Option (Nat × Nat)
  | .tmp t => lget L t
  | _ => none
theorem ev_full {ρ : Nat → Nat} {env : Env} {L : LPtr} {x : Operand} {v : AV} (h : ev env L x = some v) : aeval (full ρ env L) x = some v := by
  cases x with
  | tmp t =>
    simp only [ev] at h
    simp only [aeval, full_get]
    cases hl : lget L t with
    | none => rw [hl] at h; exact h
    | some x => rw [hl] at h; cases h
  | _ => exact h
theorem evl_full {ρ : Nat → Nat} {env : Env} {L : LPtr} {x : Operand} {s o : Nat} (h : evl L x = some (s, o)) : aeval (full ρ env L) x = some (.box (ρ s) o) := by
  cases x with
  | tmp t => simp only [evl] at h; simp only [aeval, full_get, h]
  | _ => cases h
theorem evs_full {ρ : Nat → Nat} {env : Env} {L : LPtr} : ∀ {l : List Operand} {vs : List AV}, l.mapM (ev env L) = some vs → l.mapM (aeval (full ρ env L)) = some vs
  | [], vs, h => by simpa using h
  | x :: l, vs, h => by
    simp only [List.mapM_cons, Option.bind_eq_bind, Option.bind_eq_some_iff, Option.pure_def, Option.some.injEq] at h ⊢
    obtain ⟨v, hv, us, hus, rfl⟩ := h
    exact ⟨v, ev_full hv, us, evs_full hus, rfl⟩
theorem evp_full {ρ : Nat → Nat} {env : Env} {L : LPtr} : ∀ {l : List (Nat × Operand)} {vs : List (Nat × AV)}, l.mapM (fun x => (ev env L x.2).map fun v => (x.1, v)) = some vs →
    l.mapM (fun x => (aeval (full ρ env L) x.2).map fun v => (x.1, v)) = some vs
  | [], vs, h => by simpa using h
  | x :: l, vs, h => by
    simp only [List.mapM_cons, Option.bind_eq_bind, Option.bind_eq_some_iff, Option.pure_def, Option.some.injEq, Option.map_eq_some_iff] at h ⊢
    obtain ⟨_, ⟨v, hv, rfl⟩, us, hus, rfl⟩ := h
    exact ⟨_, ⟨v, ev_full hv, rfl⟩, us, evp_full hus, rfl⟩

/-- A plain value is written: what the temporary pointed to is out of sight. -/
theorem full_put {ρ : Nat → Nat} {env : Env} {L : LPtr} {d : Nat} {av : AV} (t : Nat) (v : AV) (h : (full ρ ((d, av) :: env) (ldel L d)).get t = some v) : Env.get ((d, av) :: full ρ env L) t = some v := by
  rw [full_get, ldel_get] at h
  simp only [Env.get]
  by_cases hd : d = t
  · subst hd
    simp only [if_true, Env.get, Nat.beq_refl] at h ⊢
    exact h
  · have hb : Nat.beq d t = false := by
      cases hb : Nat.beq d t with
      | true => exact absurd (Nat.eq_of_beq_eq_true hb) hd
      | false => rfl
    simp only [hd, if_false, Env.get, hb] at h ⊢
    rw [full_get]
    exact h
theorem full_put_l {ρ : Nat → Nat} {env : Env} {L : LPtr} {d s o : Nat} (t : Nat) (v : AV) (h : (full ρ env ((d, s, o) :: L)).get t = some v) : Env.get ((d, .box (ρ s) o) :: full ρ env L) t = some v := by
  rw [full_get] at h
  simp only [lget, Env.get] at h ⊢
  cases hb : Nat.beq d t with
  | true => rw [hb] at h; exact h
  | false => rw [hb] at h; rw [full_get]; exact h
theorem Goal.env {c : Ctx} {env env' : Env} {G : AHeap} {K : Act → World → Prop} (he : ∀ t v, env'.get t = some v → env.get t = some v) (h : Goal c env' G K) : Goal c env G K := fun a w hs => h a w (hs.env he)

section
variable {P : Program} {c : Ctx} {env B : Env} {L : LPtr} {G : AHeap} {dst : Option Tmp} {ty : TypeId} {pos : String} {af : Array Edge} {gd : Option (Nat × Bool)} {Q : Exit → Act → World → Prop} {K : Act → World → Prop}

theorem s_val {o : Oper} {d : Nat} {av : AV} (hv : ValL P c o env L B G av) (ho : o.dst = some d) (hd : Nat.blt d c.nt = true) (h : GoalL c ((d, av) :: env) (ldel L d) B G K) : StepL P c o Q env L B G K := fun ρ hρ =>
  Step.val (hv ρ hρ) ho hd (Goal.env full_put (h ρ hρ))
theorem s_val_none {o : Oper} {av : AV} (hv : ValL P c o env L B G av) (ho : o.dst = none) (h : GoalL c env L B G K) : StepL P c o Q env L B G K := fun ρ hρ => Step.val_none (hv ρ hρ) ho (h ρ hρ)
theorem v_sub {md : Bool} {o : Oper} {a b : AV} (h : ValLM md P c o env L B G a) (hs : ASub a b) : ValLM md P c o env L B G b := fun ρ hρ => (h ρ hρ).sub hs

/-! operations on operands -/
theorem g_step {ops : Array Oper} {o : Oper} {rest : List Oper} (hg : o.guard = none) (h : StepL P c o Q env L B G (wpList P ops Q rest)) : GoalL c env L B G (wpList P ops Q (o :: rest)) := fun ρ hρ => Goal.step hg (h ρ hρ)
theorem full_bool {ρ : Nat → Nat} {t : Nat} {b : Bool} (h : ev env L (.tmp t) = some (.bool b)) : (full ρ env L).get t = some (.bool b) := ev_full (x := .tmp t) h
theorem g_step_yes {ops : Array Oper} {o : Oper} {rest : List Oper} {j t : Nat} {b : Bool} (hg : o.guard = some (j, b)) (hj : (ops[j]?).bind (·.dst) = some t) (ht : ev env L (.tmp t) = some (.bool b)) (hlt : Nat.blt t c.nt = true)
    (h : StepL P c o Q env L B G (wpList P ops Q rest)) : GoalL c env L B G (wpList P ops Q (o :: rest)) := fun ρ hρ => Goal.step_yes hg hj (full_bool ht) hlt (h ρ hρ)
theorem g_step_no {ops : Array Oper} {o : Oper} {rest : List Oper} {j t d : Nat} {b b' : Bool} (hg : o.guard = some (j, b)) (hj : (ops[j]?).bind (·.dst) = some t) (ht : ev env L (.tmp t) = some (.bool b')) (hb : (b' == b) = false) (hlt : Nat.blt t c.nt = true)
    (ho : o.dst = some d) (hd : Nat.blt d c.nt = true) (h : GoalL c ((d, .tup []) :: env) (ldel L d) B G (wpList P ops Q rest)) : GoalL c env L B G (wpList P ops Q (o :: rest)) := fun ρ hρ =>
  Goal.step_no hg hj (full_bool ht) hb hlt ho hd (Goal.env full_put (h ρ hρ))
theorem g_step_und {ops : Array Oper} {o : Oper} {rest : List Oper} {j t d : Nat} {b : Bool} (hg : o.guard = some (j, b)) (hj : (ops[j]?).bind (·.dst) = some t) (ht : ev env L (.tmp t) = some (.tup [])) (hlt : Nat.blt t c.nt = true)
    (ho : o.dst = some d) (hd : Nat.blt d c.nt = true) (h : GoalL c ((d, .tup []) :: env) (ldel L d) B G (wpList P ops Q rest)) : GoalL c env L B G (wpList P ops Q (o :: rest)) := fun ρ hρ =>
  Goal.step_und hg hj (ev_full (x := .tmp t) ht) hlt ho hd (Goal.env full_put (h ρ hρ))
theorem g_step_no_none {ops : Array Oper} {o : Oper} {rest : List Oper} {j t : Nat} {b b' : Bool} (hg : o.guard = some (j, b)) (hj : (ops[j]?).bind (·.dst) = some t) (ht : ev env L (.tmp t) = some (.bool b')) (hb : (b' == b) = false) (hlt : Nat.blt t c.nt = true)
    (ho : o.dst = none) (h : GoalL c env L B G (wpList P ops Q rest)) : GoalL c env L B G (wpList P ops Q (o :: rest)) := fun ρ hρ => Goal.step_no_none hg hj (full_bool ht) hb hlt ho (h ρ hρ)
theorem g_split {b : Bool} (t : Nat) (ht : ev env L (.tmp t) = some (.bool b)) (h1 : b = true → GoalL c ((t, .bool true) :: env) (ldel L t) B G K) (h2 : b = false → GoalL c ((t, .bool false) :: env) (ldel L t) B G K) : GoalL c env L B G K := fun ρ hρ =>
  Goal.split t (full_bool ht) (fun e => Goal.env full_put (h1 e ρ hρ)) (fun e => Goal.env full_put (h2 e ρ hρ))

/-- What is kept in sight. -/
def lkeep (L : LPtr) : List Nat → LPtr
  | [] => []
  | t :: ts => match lget L t with
    | some v => (t, v) :: lkeep L ts
    | none => lkeep L ts
theorem lkeep_get (L : LPtr) : ∀ (ts : List Nat) (t : Nat) (v : Nat × Nat), lget (lkeep L ts) t = some v → lget L t = some v
  | [], t, v, h => by simp [lkeep, lget] at h
  | x :: xs, t, v, h => by
    simp only [lkeep] at h
    cases hx : lget L x with
    | none => rw [hx] at h; exact lkeep_get L xs t v h
    | some u =>
      rw [hx] at h
      simp only [lget] at h
      cases hb : Nat.beq x t with
      | true => rw [hb] at h; rw [← Nat.eq_of_beq_eq_true hb, hx]; exact h
      | false => rw [hb] at h; exact lkeep_get L xs t v h
def clear (L : LPtr) : List Nat → Bool
  | [] => true
  | t :: ts => match lget L t with
    | some _ => false
    | none => clear L ts
theorem clear_get {L : LPtr} : ∀ {ts : List Nat} (h : clear L ts = true) {t : Nat}, t ∈ ts → lget L t = none
  | x :: xs, h, t, ht => by
    simp only [clear] at h
    cases hx : lget L x with
    | some u => rw [hx] at h; cases h
    | none =>
      rw [hx] at h
      rcases List.mem_cons.1 ht with rfl | ht
      · exact hx
      · exact clear_get h ht
theorem keep_mem {env : Env} : ∀ {ts : List Nat} {t : Nat} {v : AV}, (env.keep ts).get t = some v → t ∈ ts
  | [], t, v, h => by simp [Env.keep, Env.get] at h
  | x :: xs, t, v, h => by
    simp only [Env.keep] at h
    cases hx : env.get x with
    | none => rw [hx] at h; exact List.mem_cons_of_mem _ (keep_mem h)
    | some u =>
      rw [hx] at h
      simp only [Env.get] at h
      cases hb : Nat.beq x t with
      | true => rw [← Nat.eq_of_beq_eq_true hb]; exact List.mem_cons_self
      | false => rw [hb] at h; exact List.mem_cons_of_mem _ (keep_mem h)
theorem boxes_keep {c : Ctx} {G : AHeap} {B : Env} {ρ : Nat → Nat} (h : Good c G B ρ) (ss : List Nat) : Good c G (B.keep ss) ρ ∧ (boxes ρ G (B.keep ss)).sub (boxes ρ G B) := by
  have hg : Good c G (B.keep ss) ρ := ⟨fun s v hv => h.fresh s v (Env.keep_get B ss s v hv), fun s s' v v' hv hv' => h.inj s s' v v' (Env.keep_get B ss s v hv) (Env.keep_get B ss s' v' hv')⟩
  refine ⟨hg, fun b x hb => ?_⟩
  rcases boxes_cases hg b with ⟨s, v, h1, h2, h3⟩ | ⟨h1, h2⟩
  · rw [h3] at hb; injection hb with hb; subst hb
    rw [h2]; exact boxes_get h (Env.keep_get B ss s v h1)
  · rw [h2] at hb; exact boxes_sub h b x hb
theorem g_keep {env' B' : Env} {L' : LPtr} (ts ls ss : List Nat) (he : env.keep ts = env') (hl : lkeep L ls = L') (hb : B.keep ss = B') (hc : clear L ts = true) (h : GoalL c env' L' B' G K) : GoalL c env L B G K := fun ρ hρ => by
  subst he; subst hl; subst hb
  obtain ⟨h1, h2⟩ := boxes_keep hρ ss
  refine Goal.forget h2 (Goal.env (fun t v hv => ?_) (h ρ h1))
  rw [full_get] at hv ⊢
  cases hx : lget (lkeep L ls) t with
  | some u => rw [hx] at hv; rw [lkeep_get L ls t u hx]; exact hv
  | none =>
    rw [hx] at hv
    rw [clear_get hc (keep_mem hv)]
    exact Env.keep_get env ts t v hv
theorem sub_none {G G' : AHeap} (hs : G'.sub G) {b : Nat} (h : G b = none) : G' b = none := by
  cases hx : G' b with
  | none => rfl
  | some x => have := hs _ _ hx; rw [h] at this; cases this
theorem g_forget {G' : AHeap} (hs : G'.sub G) (h : GoalL c env L B G' K) : GoalL c env L B G K := fun ρ hρ => by
  have hg : Good c G' B ρ := ⟨fun s v hv => ⟨sub_none hs (hρ.fresh s v hv).1, (hρ.fresh s v hv).2⟩, hρ.inj⟩
  refine Goal.forget (fun b x hb => ?_) (h ρ hg)
  rcases boxes_cases hg b with ⟨s, v, h1, h2, h3⟩ | ⟨h1, h2⟩
  · rw [h3] at hb; injection hb with hb; subst hb
    rw [h2]; exact boxes_get hρ h1
  · rw [h2] at hb
    rw [boxes_other h1]; exact hs b x hb
theorem g_sub {a b : AV} (t : Nat) (ht : ev env L (.tmp t) = some a) (hs : ASub a b) (h : GoalL c ((t, b) :: env) (ldel L t) B G K) : GoalL c env L B G K := fun ρ hρ =>
  Goal.sub t (ev_full (x := .tmp t) ht) hs (Goal.env full_put (h ρ hρ))

/-! ### Code -/
theorem g_seq {x y : Code} (h : ∀ K : Act → World → Prop, (∀ a w, y.wp P Q a w → K a w) → GoalL c env L B G (x.wp P (Exit.then K Q))) : GoalL c env L B G ((Code.seq x y).wp P Q) := fun ρ hρ => Goal.seq fun K hK => h K hK ρ hρ
theorem g_next {x : Code} (hK : ∀ a w, x.wp P Q a w → K a w) (h : GoalL c env L B G (x.wp P Q)) : GoalL c env L B G (Exit.then K Q .normal) := fun ρ hρ => Goal.next hK (h ρ hρ)
theorem g_region {id : Nat} {l : List Oper} (h : GoalL c env L B G (wpList P l.toArray Q l)) : GoalL c env L B G ((Code.region id l.toArray false).wp P Q) := fun ρ hρ => Goal.region (h ρ hρ)
theorem g_nil {ops : Array Oper} (h : GoalL c env L B G (Q .normal)) : GoalL c env L B G (wpList P ops Q []) := h
theorem g_cond {x : Operand} {t e : Code} {b : Bool} (hx : ev env L x = some (.bool b)) (ht : b = true → GoalL c env L B G (t.wp P Q)) (he : b = false → GoalL c env L B G (e.wp P Q)) : GoalL c env L B G ((Code.cond x t e).wp P Q) := fun ρ hρ =>
  Goal.cond (ev_full hx) (fun h => ht h ρ hρ) (fun h => he h ρ hρ)
theorem g_block {id : Nat} {x : Code} (h : GoalL c env L B G (x.wp P (Exit.inBlock id Q))) : GoalL c env L B G ((Code.block id x).wp P Q) := fun ρ hρ => Goal.block (h ρ hρ)
theorem g_exit {id : Nat} (h : GoalL c env L B G (Q (.exit id))) : GoalL c env L B G ((Code.exit id).wp P Q) := fun ρ hρ => Goal.exit (h ρ hρ)
theorem g_ret (h : GoalL c env L B G (Q .ret)) : GoalL c env L B G (Code.ret.wp P Q) := fun ρ hρ => Goal.ret (h ρ hρ)
theorem g_skip (h : GoalL c env L B G (Q .normal)) : GoalL c env L B G (Code.skip.wp P Q) := fun ρ hρ => Goal.skip (h ρ hρ)
theorem g_then_exit {id : Nat} (h : GoalL c env L B G (Q (.exit id))) : GoalL c env L B G (Exit.then K Q (.exit id)) := h
theorem g_then_ret (h : GoalL c env L B G (Q .ret)) : GoalL c env L B G (Exit.then K Q .ret) := h
theorem g_block_normal {id : Nat} (h : GoalL c env L B G (Q .normal)) : GoalL c env L B G (Exit.inBlock id Q .normal) := h
theorem g_block_ret {id : Nat} (h : GoalL c env L B G (Q .ret)) : GoalL c env L B G (Exit.inBlock id Q .ret) := h
theorem g_block_same {id : Nat} (h : GoalL c env L B G (Q .normal)) : GoalL c env L B G (Exit.inBlock id Q (.exit id)) := fun ρ hρ => Goal.inBlock_same (h ρ hρ)
theorem g_block_other {id id' : Nat} (hne : Nat.beq id' id = false) (h : GoalL c env L B G (Q (.exit id'))) : GoalL c env L B G (Exit.inBlock id Q (.exit id')) := fun ρ hρ => Goal.inBlock_other hne (h ρ hρ)

/-- What a loop's round must come to, or a piece of code: a state that has I. -/
def Has (c : Ctx) (I : Env → LPtr → Env → AHeap → Prop) (a : Act) (w : World) : Prop := ∃ env L B G ρ, I env L B G ∧ Good c G B ρ ∧ St c (full ρ env L) (boxes ρ G B) a w
theorem g_has {I : Env → LPtr → Env → AHeap → Prop} (hI : I env L B G) : GoalL c env L B G (Exit.then (Has c I) Q .normal) := fun ρ hρ a w hs => ⟨env, L, B, G, ρ, hI, hρ, hs⟩
theorem g_cut {x y : Code} (I : Env → LPtr → Env → AHeap → Prop) (hx : GoalL c env L B G (x.wp P (Exit.then (Has c I) Q))) (hy : ∀ env L B G, I env L B G → GoalL c env L B G (y.wp P Q)) : GoalL c env L B G ((Code.seq x y).wp P Q) := fun ρ hρ =>
  Goal.seq fun K hK a w hs => Code.wp_mono (fun e a' w' h => by
    cases e with
    | normal => obtain ⟨env', L', B', G', ρ', h1, h2, h3⟩ := h; exact hK a' w' (hy env' L' B' G' h1 ρ' h2 a' w' h3)
    | _ => exact h) (hx ρ hρ a w hs)
def Round (c : Ctx) (I : Nat → Env → LPtr → Env → AHeap → Prop) (n : Nat) (a : Act) (w : World) : Prop := ∃ m env L B G ρ, m < n ∧ I m env L B G ∧ Good c G B ρ ∧ St c (full ρ env L) (boxes ρ G B) a w
theorem g_loop {x : Code} (I : Nat → Env → LPtr → Env → AHeap → Prop) (n : Nat) (h0 : I n env L B G) (round : ∀ n env L B G, I n env L B G → GoalL c env L B G (x.wp P (Exit.then (Round c I n) Q))) : GoalL c env L B G ((Code.loop x).wp P Q) := fun ρ hρ a w hs b k cs => by
  have key : ∀ n env L B G ρ a w, I n env L B G → Good c G B ρ → St c (full ρ env L) (boxes ρ G B) a w →
      ∃ e a' w', Q e a' w' ∧ Arrives P (lone (b.at a (.code x :: .inLoop x :: k)) cs w) b k cs e a' w' := by
    intro n
    induction n using Nat.strongRecOn with
    | _ n ih =>
      intro env L B G ρ a w hI hg hs
      obtain ⟨e, a₁, w₁, hq, harr⟩ := round n env L B G hI ρ hg a w hs b (.inLoop x :: k) cs
      cases e with
      | normal =>
        obtain ⟨m, env', L', B', G', ρ', hm, hI', hg', hs'⟩ := hq
        obtain ⟨e₂, a₂, w₂, hq₂, harr₂⟩ := ih m hm env' L' B' G' ρ' a₁ w₁ hI' hg' hs'
        exact ⟨e₂, a₂, w₂, hq₂, .of_steps (Steps.trans harr (.one step_inLoop)) harr₂⟩
      | exit id => exact ⟨_, a₁, w₁, hq, .pass (x := .inLoop x) rfl (fun _ _ => .inl (by simp)) harr⟩
      | goto l => exact ⟨_, a₁, w₁, hq, .pass (x := .inLoop x) rfl (fun _ _ => .inl (by simp)) harr⟩
      | ret => exact ⟨_, a₁, w₁, hq, .pass (x := .inLoop x) rfl (fun _ _ => .inl (by simp)) harr⟩
      | panic ch => exact ⟨_, a₁, w₁, hq, .pass (x := .inLoop x) rfl (fun _ _ => .inl (by simp)) harr⟩
      | outgrown => exact ⟨_, a₁, w₁, hq, .pass (x := .inLoop x) rfl (fun _ _ => .inl (by simp)) harr⟩
  obtain ⟨e, a', w', hq, harr⟩ := key n env L B G ρ a w h0 hρ hs
  exact ⟨e, a', w', hq, .of_steps (.one step_loop) harr⟩
theorem g_round {I : Nat → Env → LPtr → Env → AHeap → Prop} {n : Nat} (m : Nat) (hm : m < n) (hI : I m env L B G) : GoalL c env L B G (Exit.then (Round c I n) Q .normal) := fun ρ hρ a w hs => ⟨m, env, L, B, G, ρ, hm, hI, hρ, hs⟩
end
end Go.Proofs.Ytgedefcjngofkaa.AM

/- The abstract machine, part 8: the operations, over a call's own variables. -/
set_option linter.unusedVariables false
set_option linter.unusedSimpArgs false
namespace Go.Proofs.Ytgedefcjngofkaa.AM
open Go

section
variable {md : Bool} {P : Program} {c : Ctx} {env B : Env} {L : LPtr} {G : AHeap} {dst : Option Tmp} {ty : TypeId} {pos : String} {af : Array Edge} {gd : Option (Nat × Bool)} {Q : Exit → Act → World → Prop} {K : Act → World → Prop}

theorem v_move {x : Operand} {av : AV} (hx : ev env L x = some av) : ValLM md P c ⟨dst, .move x, ty, pos, af, gd⟩ env L B G av := fun ρ hρ => val_move (ev_full hx)
theorem v_assign {x : Operand} {av : AV} (hx : ev env L x = some av) : ValLM md P c ⟨dst, .assign x, ty, pos, af, gd⟩ env L B G av := fun ρ hρ => val_assign (ev_full hx)
theorem v_pick_t {x y z : Operand} {av : AV} (hx : ev env L x = some (.bool true)) (hy : ev env L y = some av) : ValLM md P c ⟨dst, .pick x y z, ty, pos, af, gd⟩ env L B G av := fun ρ hρ => val_pick_t (ev_full hx) (ev_full hy)
theorem v_pick_f {x y z : Operand} {av : AV} (hx : ev env L x = some (.bool false)) (hz : ev env L z = some av) : ValLM md P c ⟨dst, .pick x y z, ty, pos, af, gd⟩ env L B G av := fun ρ hρ => val_pick_f (ev_full hx) (ev_full hz)

/-! reads through a pointer that is a value -/
theorem pcells_sub {H : AHeap} (h : G.sub H) {p : AV} {l : List AV} (hv : p.pcells G = some l) : p.pcells H = some l := by
  unfold AV.pcells at *
  split at hv
  · rename_i r off
    split at hv
    · rename_i v hr
      simp only [h _ _ hr]; exact hv
    · cases hv
  · rename_i b k off
    split at hv
    · rename_i l0 hl
      simp only [view_sub h hl]; exact hv
    · cases hv
  · cases hv
theorem v_load {T : TypeId} {d : TypeDesc} {sz by_ : Nat} {z : Option Value} {x : Operand} {b e av : AV} {k off : Nat} {l : List AV} (hT : TyI P T d sz z by_) (hd : aggDesc d = false) (hx : ev env L x = some (.elp b k off))
    (hv : b.view G = some l) (he : l[k]? = some e) (hc : e.cells[off]? = some av) : ValL P c ⟨dst, .load T x, ty, pos, af, gd⟩ env L B G av := fun ρ hρ => by
  have hlt : off < e.cells.length := by
    rcases Nat.lt_or_ge off e.cells.length with h | h
    · exact h
    · rw [List.getElem?_eq_none h] at hc; cases hc
  refine val_load hT hd (ev_full hx) (cs := e.cells.drop (off + 1)) ?_
  simp only [AV.pcells, view_sub (boxes_sub hρ) hv, he, Nat.le_of_lt hlt, if_true]
  rw [List.drop_eq_getElem_cons hlt]
  rw [List.getElem?_eq_getElem hlt] at hc
  rw [Option.some.inj hc]
theorem v_load_elt {T : TypeId} {d : TypeDesc} {sz by_ : Nat} {z : Option Value} {x : Operand} {b e : AV} {k : Nat} {l : List AV} (hT : TyI P T d sz z by_) (hd : aggDesc d = true) (hx : ev env L x = some (.elp b k 0))
    (hv : b.view G = some l) (he : l[k]? = some e) (ha : e.isAgg = true) (hl : e.cells.length = sz) : ValL P c ⟨dst, .load T x, ty, pos, af, gd⟩ env L B G e := fun ρ hρ =>
  val_load_elt hT hd (ev_full hx) (view_sub (boxes_sub hρ) hv) he ha hl
theorem v_load_part {T : TypeId} {d : TypeDesc} {sz by_ : Nat} {z : Option Value} {x : Operand} {b e : AV} {k off : Nat} {l cs : List AV} (hT : TyI P T d sz z by_) (hd : aggDesc d = true) (hx : ev env L x = some (.elp b k off))
    (hv : b.view G = some l) (he : l[k]? = some e) (hb : Nat.ble off e.cells.length = true) (hc : (e.cells.drop off).take sz = cs) (hl : cs.length = sz) : ValL P c ⟨dst, .load T x, ty, pos, af, gd⟩ env L B G (.agg cs) := fun ρ hρ =>
  val_load_agg hT hd (ev_full hx) (by simp only [AV.pcells, view_sub (boxes_sub hρ) hv, he, Nat.le_of_ble_eq_true hb, if_true]) hc hl
/-- A read of a listed variable. -/
theorem v_load_box {T : TypeId} {d : TypeDesc} {sz by_ : Nat} {z : Option Value} {x : Operand} {r off : Nat} {v av : AV} (hT : TyI P T d sz z by_) (hd : aggDesc d = false) (hx : ev env L x = some (.box r off))
    (hG : G r = some (.box v)) (hc : v.cells[off]? = some av) : ValL P c ⟨dst, .load T x, ty, pos, af, gd⟩ env L B G av := fun ρ hρ => by
  have hlt : off < v.cells.length := by
    rcases Nat.lt_or_ge off v.cells.length with h | h
    · exact h
    · rw [List.getElem?_eq_none h] at hc; cases hc
  refine val_load hT hd (ev_full hx) (cs := v.cells.drop (off + 1)) ?_
  simp only [AV.pcells, boxes_sub hρ _ _ hG, Nat.le_of_lt hlt, if_true]
  rw [List.drop_eq_getElem_cons hlt]
  rw [List.getElem?_eq_getElem hlt] at hc
  rw [Option.some.inj hc]
theorem v_load_box_all {T : TypeId} {d : TypeDesc} {sz by_ : Nat} {z : Option Value} {x : Operand} {r : Nat} {e : AV} (hT : TyI P T d sz z by_) (hd : aggDesc d = true) (hx : ev env L x = some (.box r 0))
    (hG : G r = some (.box e)) (ha : e.isAgg = true) (hl : e.cells.length = sz) : ValL P c ⟨dst, .load T x, ty, pos, af, gd⟩ env L B G e := fun ρ hρ => val_load_box hT hd (ev_full hx) (boxes_sub hρ _ _ hG) ha hl
theorem v_load_box_part {T : TypeId} {d : TypeDesc} {sz by_ : Nat} {z : Option Value} {x : Operand} {r off : Nat} {v : AV} {cs : List AV} (hT : TyI P T d sz z by_) (hd : aggDesc d = true) (hx : ev env L x = some (.box r off))
    (hG : G r = some (.box v)) (hb : Nat.ble off v.cells.length = true) (hc : (v.cells.drop off).take sz = cs) (hl : cs.length = sz) : ValL P c ⟨dst, .load T x, ty, pos, af, gd⟩ env L B G (.agg cs) := fun ρ hρ =>
  val_load_agg hT hd (ev_full hx) (by simp only [AV.pcells, boxes_sub hρ _ _ hG, Nat.le_of_ble_eq_true hb, if_true]) hc hl

/-! reads of a variable of the call's own -/
theorem v_loadl {T : TypeId} {d : TypeDesc} {sz by_ : Nat} {z : Option Value} {x : Operand} {s off : Nat} {v av : AV} (hT : TyI P T d sz z by_) (hd : aggDesc d = false) (hx : evl L x = some (s, off))
    (hB : B.get s = some v) (hc : v.cells[off]? = some av) : ValL P c ⟨dst, .load T x, ty, pos, af, gd⟩ env L B G av := fun ρ hρ => by
  have hlt : off < v.cells.length := by
    rcases Nat.lt_or_ge off v.cells.length with h | h
    · exact h
    · rw [List.getElem?_eq_none h] at hc; cases hc
  refine val_load hT hd (evl_full hx) (cs := v.cells.drop (off + 1)) ?_
  simp only [AV.pcells, boxes_get hρ hB, Nat.le_of_lt hlt, if_true]
  rw [List.drop_eq_getElem_cons hlt]
  rw [List.getElem?_eq_getElem hlt] at hc
  rw [Option.some.inj hc]
theorem v_loadl_all {T : TypeId} {d : TypeDesc} {sz by_ : Nat} {z : Option Value} {x : Operand} {s : Nat} {e : AV} (hT : TyI P T d sz z by_) (hd : aggDesc d = true) (hx : evl L x = some (s, 0))
    (hB : B.get s = some e) (ha : e.isAgg = true) (hl : e.cells.length = sz) : ValL P c ⟨dst, .load T x, ty, pos, af, gd⟩ env L B G e := fun ρ hρ => val_load_box hT hd (evl_full hx) (boxes_get hρ hB) ha hl
theorem v_loadl_part {T : TypeId} {d : TypeDesc} {sz by_ : Nat} {z : Option Value} {x : Operand} {s off : Nat} {v : AV} {cs : List AV} (hT : TyI P T d sz z by_) (hd : aggDesc d = true) (hx : evl L x = some (s, off))
    (hB : B.get s = some v) (hb : Nat.ble off v.cells.length = true) (hc : (v.cells.drop off).take sz = cs) (hl : cs.length = sz) : ValL P c ⟨dst, .load T x, ty, pos, af, gd⟩ env L B G (.agg cs) := fun ρ hρ =>
  val_load_agg hT hd (evl_full hx) (by simp only [AV.pcells, boxes_get hρ hB, Nat.le_of_ble_eq_true hb, if_true]) hc hl

/-! addresses -/
theorem v_indexAddr {T E : TypeId} {d : TypeDesc} {sz by_ s b' : Nat} {z z' : Option Value} {x y : Operand} {b e : AV} {l : List AV} {kd : IntKind} {n : Int} {k : Nat} (hT : TyI P T (.slice E) s z' b') (hE : TyI P E d sz z by_)
    (hx : ev env L x = some b) (hy : ev env L y = some (.int kd n)) (hv : b.view G = some l) (hn : n = (k : Int)) (he : l[k]? = some e) (hl : e.cells.length = sz) :
    ValLM md P c ⟨dst, .indexAddr T x y, ty, pos, af, gd⟩ env L B G (.elp b k 0) := fun ρ hρ => val_indexAddr hT hE (ev_full hx) (ev_full hy) (view_sub (boxes_sub hρ) hv) hn he hl
theorem v_fieldAddr_box {S : TypeId} {fs : Array Go.Field} {sz by_ s b' : Nat} {z z' : Option Value} {x : Operand} {r off f o FT : Nat} {d : TypeDesc} (hS : TyI P S (.struct fs) s z' b') (hf : (fs[f]?).map (fun x => (x.offset, x.type)) = some (o, FT))
    (hF : TyI P FT d (sz + 1) z by_) (hx : ev env L x = some (.box r off)) : ValLM md P c ⟨dst, .fieldAddr S x f, ty, pos, af, gd⟩ env L B G (.box r (off + o)) := fun ρ hρ => val_fieldAddr_box hS hf hF (ev_full hx)
theorem v_fieldAddr {S : TypeId} {fs : Array Go.Field} {sz by_ s b' : Nat} {z z' : Option Value} {x : Operand} {b : AV} {k off f o FT : Nat} {d : TypeDesc} (hS : TyI P S (.struct fs) s z' b') (hf : (fs[f]?).map (fun x => (x.offset, x.type)) = some (o, FT))
    (hF : TyI P FT d (sz + 1) z by_) (hx : ev env L x = some (.elp b k off)) : ValLM md P c ⟨dst, .fieldAddr S x f, ty, pos, af, gd⟩ env L B G (.elp b k (off + o)) := fun ρ hρ => val_fieldAddr_elp hS hf hF (ev_full hx)

/-! arithmetic -/
section
variable {T T' : TypeId} {x y : Operand} {k : IntKind} {m n : Int}
theorem v_add (hx : ev env L x = some (.int .i64 m)) (hy : ev env L y = some (.int .i64 n)) (h : -9223372036854775808 ≤ m + n ∧ m + n ≤ 9223372036854775807) : ValLM md P c ⟨dst, .binOp .add T x y T', ty, pos, af, gd⟩ env L B G (.int .i64 (m + n)) := fun ρ hρ => val_add (ev_full hx) (ev_full hy) h
theorem v_sub_ (hx : ev env L x = some (.int .i64 m)) (hy : ev env L y = some (.int .i64 n)) (h : -9223372036854775808 ≤ m - n ∧ m - n ≤ 9223372036854775807) : ValLM md P c ⟨dst, .binOp .sub T x y T', ty, pos, af, gd⟩ env L B G (.int .i64 (m - n)) := fun ρ hρ => val_sub (ev_full hx) (ev_full hy) h
theorem v_mul (hx : ev env L x = some (.int .i64 m)) (hy : ev env L y = some (.int .i64 n)) (h : -9223372036854775808 ≤ m * n ∧ m * n ≤ 9223372036854775807) : ValLM md P c ⟨dst, .binOp .mul T x y T', ty, pos, af, gd⟩ env L B G (.int .i64 (m * n)) := fun ρ hρ => val_mul (ev_full hx) (ev_full hy) h
theorem v_add_w (hx : ev env L x = some (.int k m)) (hy : ev env L y = some (.int k n)) : ValLM md P c ⟨dst, .binOp .add T x y T', ty, pos, af, gd⟩ env L B G (.int k (k.wrap (m + n))) := fun ρ hρ => val_add_w (ev_full hx) (ev_full hy)
theorem v_sub_w (hx : ev env L x = some (.int k m)) (hy : ev env L y = some (.int k n)) : ValLM md P c ⟨dst, .binOp .sub T x y T', ty, pos, af, gd⟩ env L B G (.int k (k.wrap (m - n))) := fun ρ hρ => val_sub_w (ev_full hx) (ev_full hy)
theorem v_rem (hx : ev env L x = some (.int k m)) (hy : ev env L y = some (.int k n)) (h : n ≠ 0) : ValLM md P c ⟨dst, .binOp .rem T x y T', ty, pos, af, gd⟩ env L B G (.int k (m.tmod n)) := fun ρ hρ => val_rem (ev_full hx) (ev_full hy) h
theorem v_quo (hx : ev env L x = some (.int k m)) (hy : ev env L y = some (.int k n)) (h : n ≠ 0) : ValLM md P c ⟨dst, .binOp .quo T x y T', ty, pos, af, gd⟩ env L B G (.int k (k.wrap (m.tdiv n))) := fun ρ hρ => val_quo (ev_full hx) (ev_full hy) h
theorem v_lss (hx : ev env L x = some (.int k m)) (hy : ev env L y = some (.int k n)) : ValLM md P c ⟨dst, .binOp .lss T x y T', ty, pos, af, gd⟩ env L B G (.bool (decide (m < n))) := fun ρ hρ => val_lss (ev_full hx) (ev_full hy)
theorem v_leq (hx : ev env L x = some (.int k m)) (hy : ev env L y = some (.int k n)) : ValLM md P c ⟨dst, .binOp .leq T x y T', ty, pos, af, gd⟩ env L B G (.bool (decide (m ≤ n))) := fun ρ hρ => val_leq (ev_full hx) (ev_full hy)
theorem v_gtr (hx : ev env L x = some (.int k m)) (hy : ev env L y = some (.int k n)) : ValLM md P c ⟨dst, .binOp .gtr T x y T', ty, pos, af, gd⟩ env L B G (.bool (decide (n < m))) := fun ρ hρ => val_gtr (ev_full hx) (ev_full hy)
theorem v_geq (hx : ev env L x = some (.int k m)) (hy : ev env L y = some (.int k n)) : ValLM md P c ⟨dst, .binOp .geq T x y T', ty, pos, af, gd⟩ env L B G (.bool (decide (n ≤ m))) := fun ρ hρ => val_geq (ev_full hx) (ev_full hy)
theorem v_eql (hx : ev env L x = some (.int k m)) (hy : ev env L y = some (.int k n)) : ValLM md P c ⟨dst, .binOp .eql T x y T', ty, pos, af, gd⟩ env L B G (.bool (decide (m = n))) := fun ρ hρ => val_eql (ev_full hx) (ev_full hy)
theorem v_neq (hx : ev env L x = some (.int k m)) (hy : ev env L y = some (.int k n)) : ValLM md P c ⟨dst, .binOp .neq T x y T', ty, pos, af, gd⟩ env L B G (.bool (!decide (m = n))) := fun ρ hρ => val_neq (ev_full hx) (ev_full hy)
theorem v_not {b : Bool} (hx : ev env L x = some (.bool b)) : ValLM md P c ⟨dst, .unOp .not T x, ty, pos, af, gd⟩ env L B G (.bool (!b)) := fun ρ hρ => val_not (ev_full hx)
theorem v_neg (hx : ev env L x = some (.int .i64 m)) (h : -9223372036854775808 ≤ -m ∧ -m ≤ 9223372036854775807) : ValLM md P c ⟨dst, .unOp .neg T x, ty, pos, af, gd⟩ env L B G (.int .i64 (-m)) := fun ρ hρ => val_neg (ev_full hx) h
theorem v_max {at_ : Array TypeId} (hx : ev env L x = some (.int k m)) (hy : ev env L y = some (.int k n)) : ValLM md P c ⟨dst, .call ⟨.builtin .max, #[x, y], at_⟩, ty, pos, af, gd⟩ env L B G (.int k (max m n)) := fun ρ hρ => val_max (ev_full hx) (ev_full hy)
theorem v_min {at_ : Array TypeId} (hx : ev env L x = some (.int k m)) (hy : ev env L y = some (.int k n)) : ValLM md P c ⟨dst, .call ⟨.builtin .min, #[x, y], at_⟩, ty, pos, af, gd⟩ env L B G (.int k (min m n)) := fun ρ hρ => val_min (ev_full hx) (ev_full hy)
end
section
variable {T T' : TypeId} {s b' : Nat} {z : Option Value} {x y : Operand}
theorem v_bool_eql {m n : Bool} (hT : TyI P T .bool s z b') (hx : ev env L x = some (.bool m)) (hy : ev env L y = some (.bool n)) : ValLM md P c ⟨dst, .binOp .eql T x y T', ty, pos, af, gd⟩ env L B G (.bool (m == n)) := fun ρ hρ => val_bool_eql hT (ev_full hx) (ev_full hy)
theorem v_bool_neq {m n : Bool} (hT : TyI P T .bool s z b') (hx : ev env L x = some (.bool m)) (hy : ev env L y = some (.bool n)) : ValLM md P c ⟨dst, .binOp .neq T x y T', ty, pos, af, gd⟩ env L B G (.bool (!(m == n))) := fun ρ hρ => val_bool_neq hT (ev_full hx) (ev_full hy)
theorem v_str_eql {m n : ByteArray} (hx : ev env L x = some (.str m)) (hy : ev env L y = some (.str n)) : ValLM md P c ⟨dst, .binOp .eql T x y T', ty, pos, af, gd⟩ env L B G (.bool (m.toList == n.toList)) := fun ρ hρ => val_str_eql (ev_full hx) (ev_full hy)
theorem v_str_neq {m n : ByteArray} (hx : ev env L x = some (.str m)) (hy : ev env L y = some (.str n)) : ValLM md P c ⟨dst, .binOp .neq T x y T', ty, pos, af, gd⟩ env L B G (.bool (!(m.toList == n.toList))) := fun ρ hρ => val_str_neq (ev_full hx) (ev_full hy)
theorem v_str_lss {m n : ByteArray} (hx : ev env L x = some (.str m)) (hy : ev env L y = some (.str n)) : ValLM md P c ⟨dst, .binOp .lss T x y T', ty, pos, af, gd⟩ env L B G (.bool (Op.bytesLess m.toList n.toList)) := fun ρ hρ => val_str_lss (ev_full hx) (ev_full hy)
theorem v_str_gtr {m n : ByteArray} (hx : ev env L x = some (.str m)) (hy : ev env L y = some (.str n)) : ValLM md P c ⟨dst, .binOp .gtr T x y T', ty, pos, af, gd⟩ env L B G (.bool (!(Op.bytesLess m.toList n.toList || m.toList == n.toList))) := fun ρ hρ => val_str_gtr (ev_full hx) (ev_full hy)
theorem v_ptr_eql_nil {E : TypeId} {p : AV} (hT : TyI P T (.pointer E) s z b') (hx : ev env L x = some p) (hp : p.isPtr = true) (hy : ev env L y = some .nilp) : ValLM md P c ⟨dst, .binOp .eql T x y T', ty, pos, af, gd⟩ env L B G (.bool false) := fun ρ hρ => val_ptr_eql_nil hT (ev_full hx) hp (ev_full hy)
theorem v_ptr_neq_nil {E : TypeId} {p : AV} (hT : TyI P T (.pointer E) s z b') (hx : ev env L x = some p) (hp : p.isPtr = true) (hy : ev env L y = some .nilp) : ValLM md P c ⟨dst, .binOp .neq T x y T', ty, pos, af, gd⟩ env L B G (.bool true) := fun ρ hρ => val_ptr_neq_nil hT (ev_full hx) hp (ev_full hy)
theorem v_nil_eql_nil {E : TypeId} (hT : TyI P T (.pointer E) s z b') (hx : ev env L x = some .nilp) (hy : ev env L y = some .nilp) : ValLM md P c ⟨dst, .binOp .eql T x y T', ty, pos, af, gd⟩ env L B G (.bool true) := fun ρ hρ => val_nil_eql_nil hT (ev_full hx) (ev_full hy)
theorem v_nil_neq_nil {E : TypeId} (hT : TyI P T (.pointer E) s z b') (hx : ev env L x = some .nilp) (hy : ev env L y = some .nilp) : ValLM md P c ⟨dst, .binOp .neq T x y T', ty, pos, af, gd⟩ env L B G (.bool false) := fun ρ hρ => val_nil_neq_nil hT (ev_full hx) (ev_full hy)
theorem v_nilCheck {p : AV} (hx : ev env L x = some p) (hp : p.isPtr = true) : ValLM md P c ⟨dst, .nilCheck x, ty, pos, af, gd⟩ env L B G p := fun ρ hρ => val_nilCheck (ev_full hx) hp
theorem v_len {E : TypeId} {b : AV} {l : List AV} {n : Nat} (hT : TyI P T (.slice E) s z b') (hx : ev env L x = some b) (hv : b.view G = some l) (hn : l.length = n) : ValLM md P c ⟨dst, .call ⟨.builtin .len, #[x], #[T]⟩, ty, pos, af, gd⟩ env L B G (.int .i64 (n : Int)) := fun ρ hρ => hn ▸ val_len (T' := T) hT (ev_full hx) (view_sub (boxes_sub hρ) hv)
theorem v_len_str {m : ByteArray} (hT : TyI P T .string s z b') (hx : ev env L x = some (.str m)) : ValLM md P c ⟨dst, .call ⟨.builtin .len, #[x], #[T]⟩, ty, pos, af, gd⟩ env L B G (.int .i64 (m.size : Int)) := fun ρ hρ => val_len_str hT (ev_full hx)
theorem v_extract {l : List AV} {i : Nat} {av : AV} (hx : ev env L x = some (.tup l)) (hi : l[i]? = some av) : ValLM md P c ⟨dst, .extract x i, ty, pos, af, gd⟩ env L B G av := fun ρ hρ => val_extract (ev_full hx) hi
theorem v_makeFunc {f : Fn} {xs : Array Operand} {caps : List AV} (hx : xs.toList.mapM (ev env L) = some caps) : ValLM md P c ⟨dst, .makeFunc f #[] xs, ty, pos, af, gd⟩ env L B G (.fn f caps) := fun ρ hρ => val_makeFunc (evs_full hx)
theorem v_build {fs : Array Go.Field} {sz : Nat} {zv : Value} {parts : Array (Nat × Operand)} {pl : Array (Nat × Nat)} {vs : List (Nat × AV)} {zs cells : List AV}
    (hT : TyI P T (.struct fs) sz (some zv) b') (hpl : Places P fs pl) (hz : zAV zv = .agg zs) (hvs : parts.toList.mapM (fun x => (ev env L x.2).map fun v => (x.1, v)) = some vs)
    (hf : afill (pl[·]?) zs vs = some cells) : ValLM md P c ⟨dst, .build T parts, ty, pos, af, gd⟩ env L B G (.agg cells) := fun ρ hρ => val_build hT hpl hz (evp_full hvs) hf
end

/-! ### Variables of the call's own -/
theorem newVar_core {d r : Nat} {av : AV} {ρ : Nat → Nat} (hno : (L.all fun p => !Nat.beq p.2.1 d) = true) (hρ : Good c G B ρ) (hr : boxes ρ G B r = none) (hn : c.w0.heap.size ≤ r)
    (h : GoalL c env ((d, d, 0) :: L) ((d, av) :: edel B d) G K) : Goal c ((d, .box r 0) :: full ρ env L) ((boxes ρ G B).set r (.box av)) K := by
  let ρ' : Nat → Nat := fun s => if s = d then r else ρ s
  have hGr : G r = none := sub_none (boxes_sub hρ) hr
  have hget : ∀ s v, Env.get ((d, av) :: edel B d) s = some v → (s = d ∧ v = av) ∨ (s ≠ d ∧ B.get s = some v) := fun s v hv => by
    simp only [Env.get] at hv
    cases hb : Nat.beq d s with
    | true => rw [hb] at hv; injection hv with hv; exact .inl ⟨(Nat.eq_of_beq_eq_true hb).symm, hv.symm⟩
    | false =>
      rw [hb] at hv
      simp only [edel_get] at hv
      split at hv
      · cases hv
      · rename_i hne; exact .inr ⟨fun e => hne e.symm, hv⟩
  have hrne : ∀ s v, B.get s = some v → r ≠ ρ s := fun s v hv e => by rw [e, boxes_get hρ hv] at hr; cases hr
  have hg : Good c G ((d, av) :: edel B d) ρ' := ⟨fun s v hv => by
      rcases hget s v hv with ⟨rfl, rfl⟩ | ⟨h1, h2⟩
      · simp only [ρ', if_true]; exact ⟨hGr, hn⟩
      · simp only [ρ', h1, if_false]; exact hρ.fresh s v h2,
    fun s s' v v' hv hv' e => by
      rcases hget s v hv with ⟨rfl, rfl⟩ | ⟨h1, h2⟩
      · rcases hget s' v' hv' with ⟨rfl, rfl⟩ | ⟨h3, h4⟩
        · rfl
        · simp only [ρ', if_true, h3, if_false] at e; exact absurd e (hrne s' v' h4)
      · rcases hget s' v' hv' with ⟨rfl, rfl⟩ | ⟨h3, h4⟩
        · simp only [ρ', if_true, h1, if_false] at e; exact absurd e.symm (hrne s v h2)
        · simp only [ρ', h1, h3, if_false] at e; exact hρ.inj s s' v v' h2 h4 e⟩
  refine Goal.forget (G' := boxes ρ' G ((d, av) :: edel B d)) (fun b x hb => ?_) (Goal.env (fun t v hv => ?_) (h ρ' hg))
  · rcases boxes_cases hg b with ⟨s, v, h1, h2, h3⟩ | ⟨h1, h2⟩
    · rw [h3] at hb; injection hb with hb; subst hb
      rcases hget s v h1 with ⟨rfl, rfl⟩ | ⟨h4, h5⟩
      · simp only [ρ', if_true] at h2; rw [h2]; exact AHeap.get_set _ _ _
      · simp only [ρ', h4, if_false] at h2; rw [h2, AHeap.get_set_ne _ _ (fun e => hrne s v h5 e.symm)]; exact boxes_get hρ h5
    · rw [h2] at hb
      have : b ≠ r := fun e => by rw [e, hGr] at hb; cases hb
      rw [AHeap.get_set_ne _ _ this]; exact boxes_sub hρ b x hb
  · rw [full_get] at hv
    simp only [lget, Env.get] at hv ⊢
    cases hb : Nat.beq d t with
    | true => rw [hb] at hv; simpa [ρ'] using hv
    | false =>
      rw [hb] at hv
      simp only at hv ⊢
      rw [full_get]
      cases hl : lget L t with
      | none => rw [hl] at hv; exact hv
      | some x =>
        rw [hl] at hv
        obtain ⟨s, o'⟩ := x
        have hsd : s ≠ d := by
          have : ∀ (L : LPtr), (L.all fun p => !Nat.beq p.2.1 d) = true → ∀ {t : Nat} {s o' : Nat}, lget L t = some (s, o') → s ≠ d := by
            intro L
            induction L with
            | nil => intro _ t s o' h; cases h
            | cons p L ih =>
              intro hall t s o' h
              obtain ⟨k, s0, o0⟩ := p
              simp only [List.all_cons, Bool.and_eq_true] at hall
              simp only [lget] at h
              cases hkb : Nat.beq k t with
              | true =>
                rw [hkb] at h; simp only [Option.some.injEq, Prod.mk.injEq] at h
                obtain ⟨rfl, rfl⟩ := h
                intro e; subst e
                have := hall.1; rw [Nat.beq_refl] at this; cases this
              | false => rw [hkb] at h; exact ih hall.2 h
          exact this L hno hl
        simpa [ρ', hsd] using hv

theorem s_box {T : TypeId} {x : Operand} {d : Nat} {av : AV} (hd : Nat.blt d c.nt = true) (hx : ev env L x = some av) (hu : av.isUnk = false) (hno : (L.all fun p => !Nat.beq p.2.1 d) = true)
    (h : GoalL c env ((d, d, 0) :: L) ((d, av) :: edel B d) G K) : StepL P c ⟨some d, .box T x, ty, pos, af, gd⟩ Q env L B G K := fun ρ hρ =>
  (steps_box hd (ev_full hx) (by rintro rfl; cases hu) fun r hr hn => newVar_core hno hρ hr hn h).step
theorem s_alloc {T : TypeId} {dd : TypeDesc} {sz b' : Nat} {zv : Value} {d : Nat} {av : AV} (hT : TyI P T dd sz (some zv) b') (hd : Nat.blt d c.nt = true) (hz : zAV zv = av) (hu : av.isUnk = false) (hno : (L.all fun p => !Nat.beq p.2.1 d) = true)
    (h : GoalL c env ((d, d, 0) :: L) ((d, av) :: edel B d) G K) : StepL P c ⟨some d, .alloc T, ty, pos, af, gd⟩ Q env L B G K := fun ρ hρ =>
  (steps_alloc hT hd hz (by rintro rfl; cases hu) fun r hr hn => newVar_core hno hρ hr hn h).step

theorem s_fieldAddr {S : TypeId} {fs : Array Go.Field} {sz by_ s b' d : Nat} {z z' : Option Value} {x : Operand} {sl off f o FT : Nat} {dd : TypeDesc} (hS : TyI P S (.struct fs) s z' b') (hf : (fs[f]?).map (fun x => (x.offset, x.type)) = some (o, FT))
    (hF : TyI P FT dd (sz + 1) z by_) (hd : Nat.blt d c.nt = true) (hx : evl L x = some (sl, off)) (h : GoalL c env ((d, sl, off + o) :: L) B G K) : StepL P c ⟨some d, .fieldAddr S x f, ty, pos, af, gd⟩ Q env L B G K := fun ρ hρ =>
  Step.val (val_fieldAddr_box hS hf hF (evl_full hx)) rfl hd (Goal.env full_put_l (h ρ hρ))
theorem s_movel {x : Operand} {d sl off : Nat} (hd : Nat.blt d c.nt = true) (hx : evl L x = some (sl, off)) (h : GoalL c env ((d, sl, off) :: L) B G K) : StepL P c ⟨some d, .move x, ty, pos, af, gd⟩ Q env L B G K := fun ρ hρ =>
  Step.val (val_move (evl_full hx)) rfl hd (Goal.env full_put_l (h ρ hρ))
theorem s_nilCheckl {x : Operand} {d sl off : Nat} (hd : Nat.blt d c.nt = true) (hx : evl L x = some (sl, off)) (h : GoalL c env ((d, sl, off) :: L) B G K) : StepL P c ⟨some d, .nilCheck x, ty, pos, af, gd⟩ Q env L B G K := fun ρ hρ =>
  Step.val (val_nilCheck (evl_full hx) rfl) rfl hd (Goal.env full_put_l (h ρ hρ))

theorem boxes_set {ρ : Nat → Nat} (hρ : Good c G B ρ) {s : Nat} {old new : AV} (hB : B.get s = some old) : Good c G ((s, new) :: edel B s) ρ ∧ boxes ρ G ((s, new) :: edel B s) = (boxes ρ G B).set (ρ s) (.box new) := by
  have hget : ∀ t v, Env.get ((s, new) :: edel B s) t = some v → (t = s ∧ v = new) ∨ (t ≠ s ∧ B.get t = some v) := fun t v hv => by
    simp only [Env.get] at hv
    cases hb : Nat.beq s t with
    | true => rw [hb] at hv; injection hv with hv; exact .inl ⟨(Nat.eq_of_beq_eq_true hb).symm, hv.symm⟩
    | false =>
      rw [hb] at hv
      simp only [edel_get] at hv
      split at hv
      · cases hv
      · rename_i hne; exact .inr ⟨fun e => hne e.symm, hv⟩
  have hin : ∀ t v, Env.get ((s, new) :: edel B s) t = some v → ∃ v', B.get t = some v' := fun t v hv => by
    rcases hget t v hv with ⟨rfl, rfl⟩ | ⟨_, h⟩
    · exact ⟨old, hB⟩
    · exact ⟨v, h⟩
  have hg : Good c G ((s, new) :: edel B s) ρ := ⟨fun t v hv => by obtain ⟨v', h⟩ := hin t v hv; exact hρ.fresh t v' h,
    fun t t' v v' hv hv' e => by obtain ⟨_, h⟩ := hin t v hv; obtain ⟨_, h'⟩ := hin t' v' hv'; exact hρ.inj t t' _ _ h h' e⟩
  refine ⟨hg, AHeap.ext fun b => ?_⟩
  by_cases hbs : b = ρ s
  · rw [hbs, AHeap.get_set, boxes_get hg (get_cons_self s new _)]
  · rw [AHeap.get_set_ne _ _ hbs]
    rcases boxes_cases hρ b with ⟨t, v, h1, h2, h3⟩ | ⟨h1, h2⟩
    · have hts : t ≠ s := fun e => hbs (by rw [h2, e])
      have : Env.get ((s, new) :: edel B s) t = some v := by
        simp only [Env.get]
        have hb : Nat.beq s t = false := by
          cases hb : Nat.beq s t with
          | true => exact absurd (Nat.eq_of_beq_eq_true hb).symm hts
          | false => rfl
        rw [hb]
        simp only [edel_get, fun e : s = t => hts e.symm, if_false]
        rw [if_neg (fun e => hts e.symm)]; exact h1
      rw [h3, h2, boxes_get hg this]
    · rw [h2, boxes_other]
      intro t v hv
      obtain ⟨v', h⟩ := hin t v hv
      exact h1 t v' h

/-- A store into a variable of the call's own. -/
theorem s_store {T : TypeId} {d : TypeDesc} {sz b' s off : Nat} {z : Option Value} {x y : Operand} {av old new : AV} (hT : TyI P T d sz z b') (hy : evl L y = some (s, off)) (hx : ev env L x = some av)
    (hB : B.get s = some old) (hsz : av.cells.length = sz) (hc : av.cells.all AV.isCell = true) (hoff : Nat.ble (off + sz) old.cells.length = true) (hnew : new.cells = splice old.cells off av.cells)
    (h : GoalL c env L ((s, new) :: edel B s) G K) : StepL P c ⟨none, .store T y x, ty, pos, af, gd⟩ Q env L B G K := fun ρ hρ => by
  obtain ⟨h1, h2⟩ := boxes_set (new := new) hρ hB
  exact step_store hT (evl_full hy) (ev_full hx) (boxes_get hρ hB) hsz hc (Nat.le_of_ble_eq_true hoff) hnew (.inr (hρ.fresh s old hB).2) (by rw [← h2]; exact h ρ h1)
theorem s_store_all {T : TypeId} {d : TypeDesc} {sz b' s : Nat} {z : Option Value} {x y : Operand} {av old : AV} (hT : TyI P T d sz z b') (hy : evl L y = some (s, 0)) (hx : ev env L x = some av)
    (hB : B.get s = some old) (hsz : av.cells.length = sz) (hc : av.cells.all AV.isCell = true) (ho : old.cells.length = sz)
    (h : GoalL c env L ((s, av) :: edel B s) G K) : StepL P c ⟨none, .store T y x, ty, pos, af, gd⟩ Q env L B G K :=
  s_store hT hy hx hB hsz hc (by simp [ho]) (by simp [splice, hsz, ho]) h
/-- A store into a listed variable. -/
theorem s_store_box {T : TypeId} {d : TypeDesc} {sz b' r off : Nat} {z : Option Value} {x y : Operand} {av old new : AV} (hT : TyI P T d sz z b') (hy : ev env L y = some (.box r off)) (hx : ev env L x = some av)
    (hG : G r = some (.box old)) (hsz : av.cells.length = sz) (hc : av.cells.all AV.isCell = true) (hoff : Nat.ble (off + sz) old.cells.length = true) (hnew : new.cells = splice old.cells off av.cells)
    (hD : c.D r ∨ c.w0.heap.size ≤ r) (h : GoalL c env L B (G.set r (.box new)) K) : StepL P c ⟨none, .store T y x, ty, pos, af, gd⟩ Q env L B G K := fun ρ hρ => by
  have hne : ∀ s v, B.get s = some v → r ≠ ρ s := fun s v hv e => by rw [e, (hρ.fresh s v hv).1] at hG; cases hG
  have hg : Good c (G.set r (.box new)) B ρ := ⟨fun s v hv => ⟨by rw [AHeap.get_set_ne _ _ (fun e => hne s v hv e.symm)]; exact (hρ.fresh s v hv).1, (hρ.fresh s v hv).2⟩, hρ.inj⟩
  refine step_store hT (ev_full hy) (ev_full hx) (boxes_sub hρ _ _ hG) hsz hc (Nat.le_of_ble_eq_true hoff) hnew hD ?_
  have e : (boxes ρ G B).set r (.box new) = boxes ρ (G.set r (.box new)) B := AHeap.ext fun b => by
    by_cases hb : b = r
    · subst hb
      rw [AHeap.get_set, boxes_other hne, AHeap.get_set]
    · rw [AHeap.get_set_ne _ _ hb]
      rcases boxes_cases hρ b with ⟨t, v, h1, h2, h3⟩ | ⟨h1, h2⟩
      · rw [h3, h2, boxes_get hg h1]
      · rw [h2, boxes_other h1, AHeap.get_set_ne _ _ hb]
  rw [e]
  exact h ρ hg

theorem boxes_setG {ρ : Nat → Nat} (hρ : Good c G B ρ) {r : Nat} {x : ARow} (hne : ∀ s v, B.get s = some v → r ≠ ρ s) : Good c (G.set r x) B ρ ∧ (boxes ρ G B).set r x = boxes ρ (G.set r x) B := by
  have hg : Good c (G.set r x) B ρ := ⟨fun s v hv => ⟨by rw [AHeap.get_set_ne _ _ (fun e => hne s v hv e.symm)]; exact (hρ.fresh s v hv).1, (hρ.fresh s v hv).2⟩, hρ.inj⟩
  refine ⟨hg, AHeap.ext fun b => ?_⟩
  by_cases hb : b = r
  · subst hb
    rw [AHeap.get_set, boxes_other hne, AHeap.get_set]
  · rw [AHeap.get_set_ne _ _ hb]
    rcases boxes_cases hρ b with ⟨t, v, h1, h2, h3⟩ | ⟨h1, h2⟩
    · rw [h3, h2, boxes_get hg h1]
    · rw [h2, boxes_other h1, AHeap.get_set_ne _ _ hb]

/-- Some rows of the heap, set. -/
def setAll (G : AHeap) : List (Nat × ARow) → AHeap
  | [] => G
  | (r, x) :: l => (setAll G l).set r x
theorem boxes_setAll {ρ : Nat → Nat} : ∀ {effs : List (Nat × ARow)} (hρ : Good c G B ρ) (hne : ∀ p ∈ effs, ∀ s v, B.get s = some v → p.1 ≠ ρ s), Good c (setAll G effs) B ρ ∧ setAll (boxes ρ G B) effs = boxes ρ (setAll G effs) B
  | [], hρ, _ => ⟨hρ, rfl⟩
  | (r, x) :: effs, hρ, hne => by
    obtain ⟨h1, h2⟩ := boxes_setAll (effs := effs) hρ (fun p hp => hne p (List.mem_cons_of_mem _ hp))
    obtain ⟨h3, h4⟩ := boxes_setG (x := x) h1 (r := r) (hne (r, x) List.mem_cons_self)
    exact ⟨h3, by simp only [setAll]; rw [h2, h4]⟩

/-! ### Calls and ends -/
/-- What a call comes to in whatever heap that lists what G lists: the result and the rows that are set. -/
def LCalls (P : Program) (f : FuncId) (args : List AV) (G : AHeap) (D : Nat → Prop) (R : Nat → AV → List (Nat × ARow) → Prop) : Prop :=
  ∀ H, G.sub H → ACalls P f args H D fun n r H' => ∃ effs, R n r effs ∧ (∀ p ∈ effs, G p.1 ≠ none ∨ n ≤ p.1) ∧ H' = setAll H effs
def noD : Nat → Prop := fun _ => False
/-- A call that leaves all that was there as it is. -/
def PCalls (P : Program) (f : FuncId) (args : List AV) (G : AHeap) (R : AV → Prop) : Prop := LCalls P f args G noD fun _ r effs => effs = [] ∧ R r
theorem LCalls.sub {f : FuncId} {args : List AV} {D : Nat → Prop} {R : Nat → AV → List (Nat × ARow) → Prop} {H : AHeap} (h : LCalls P f args G D R) (hs : G.sub H) (hR : ∀ n r effs, R n r effs → ∀ p ∈ effs, G p.1 ≠ none → H p.1 ≠ none) : LCalls P f args H D R := fun H' hH' =>
  (h H' (AHeap.sub_trans hs hH')).mono fun n r G' _ ⟨effs, h1, h2, h3⟩ => ⟨effs, h1, fun p hp => (h2 p hp).imp (hR n r effs h1 p hp) id, h3⟩
theorem LCalls.args {f : FuncId} {args args' : List AV} {D : Nat → Prop} {R : Nat → AV → List (Nat × ARow) → Prop} (h : LCalls P f args' G D R) (hA : ASubs args args') : LCalls P f args G D R := fun H hH => (h H hH).args hA
theorem LCalls.mono {f : FuncId} {args : List AV} {D : Nat → Prop} {R R' : Nat → AV → List (Nat × ARow) → Prop} (h : LCalls P f args G D R) (hR : ∀ n r effs, R n r effs → R' n r effs) : LCalls P f args G D R' := fun H hH =>
  (h H hH).mono fun n r G' _ ⟨effs, h1, h2, h3⟩ => ⟨effs, hR _ _ _ h1, h2, h3⟩
theorem PCalls.args {f : FuncId} {args args' : List AV} {R : AV → Prop} (h : PCalls P f args' G R) (hA : ASubs args args') : PCalls P f args G R := LCalls.args h hA

theorem s_call {x : Operand} {xs : Array Operand} {at_ : Array TypeId} {f : FuncId} {caps avs : List AV} {D : Nat → Prop} {R : Nat → AV → List (Nat × ARow) → Prop} {d : Nat}
    (hx : ev env L x = some (.fn (.func f) caps)) (hxs : xs.toList.mapM (ev env L) = some avs) (hd : Nat.blt d c.nt = true) (h : LCalls P f (avs ++ caps) G D R)
    (hD : ∀ b, D b → c.D b ∨ c.w0.heap.size ≤ b)
    (hk : ∀ n r effs, c.w0.heap.size ≤ n → (∀ b, n ≤ b → G b = none) → R n r effs → (∀ p ∈ effs, G p.1 ≠ none ∨ n ≤ p.1) → GoalL c ((d, r) :: env) (ldel L d) B (setAll G effs) K) : StepL P c ⟨some d, .call ⟨.value x, xs, at_⟩, ty, pos, af, gd⟩ Q env L B G K := fun ρ hρ =>
  step_call (ev_full hx) (evs_full hxs) hd (h _ (boxes_sub hρ)) hD fun n r G' hn hdom ⟨effs, h1, h2, h3⟩ => by
    have hne : ∀ p ∈ effs, ∀ s v, B.get s = some v → p.1 ≠ ρ s := fun p hp s v hv e => by
      rcases h2 p hp with h | h
      · rw [e, (hρ.fresh s v hv).1] at h; exact h rfl
      · have := hdom p.1 h; rw [e, boxes_get hρ hv] at this; cases this
    obtain ⟨h4, h5⟩ := boxes_setAll hρ hne
    rw [h3, h5]
    exact Goal.env full_put (hk n r effs hn (fun b hb => sub_none (boxes_sub hρ) (hdom b hb)) h1 h2 ρ h4)
theorem s_callp {x : Operand} {xs : Array Operand} {at_ : Array TypeId} {f : FuncId} {caps avs : List AV} {R : AV → Prop} {d : Nat}
    (hx : ev env L x = some (.fn (.func f) caps)) (hxs : xs.toList.mapM (ev env L) = some avs) (hd : Nat.blt d c.nt = true) (h : PCalls P f (avs ++ caps) G R)
    (hk : ∀ r, R r → GoalL c ((d, r) :: env) (ldel L d) B G K) : StepL P c ⟨some d, .call ⟨.value x, xs, at_⟩, ty, pos, af, gd⟩ Q env L B G K :=
  s_call hx hxs hd h (fun b hb => hb.elim) fun n r effs _ _ ⟨he, hr⟩ _ => by subst he; exact hk r hr

/-- What the end of a call must show, at the level of the heap that came in. -/
def RetL (c : Ctx) (G H : AHeap) (R : Nat → AV → List (Nat × ARow) → Prop) : Ending → World → Prop := Ret c fun n r H' => ∃ effs, R n r effs ∧ (∀ p ∈ effs, G p.1 ≠ none ∨ n ≤ p.1) ∧ H' = setAll H effs
theorem LCalls.intro {f : FuncId} {fn : Func} {code : Code} {args : List AV} {D : Nat → Prop} {R : Nat → AV → List (Nat × ARow) → Prop} (nt : Nat) (hf : FnI P f fn) (hb : fn.body = some code) (hnt : fn.ntmps = nt) (hlen : Nat.ble args.length nt = true)
    (hD : ∀ b, D b → G b ≠ none) (h : ∀ H, G.sub H → ∀ w0 : World, (∀ b, w0.heap.size ≤ b → H b = none) → GoalL ⟨w0, H, D, nt⟩ (params args 0) [] [] H (code.wp P (bodyPost P fn (RetL ⟨w0, H, D, nt⟩ G H R)))) : LCalls P f args G D R := fun H hH =>
  ACalls.intro nt hf hb hnt hlen (fun b hb hn => hD b hb (sub_none hH hn)) fun w0 hw => h H hH w0 hw (fun _ => 0) ⟨fun s v h => (by cases h), fun s s' v v' h => (by cases h)⟩

/-- A result variable. -/
inductive LRes (P : Program) (env : Env) (L : LPtr) (B : Env) (G : AHeap) : ResultVar → AV → Prop
  | tmp {t : Nat} {v : AV} (h : ev env L (.tmp t) = some v) : LRes P env L B G (.tmp t) v
  | agg {t T sz b' s : Nat} {d : TypeDesc} {z : Option Value} {e : AV} (hT : TyI P T d sz z b') (hd : aggDesc d = true) (h : lget L t = some (s, 0)) (hB : B.get s = some e) (ha : e.isAgg = true) (hl : e.cells.length = sz) : LRes P env L B G (.cell t T) e
  | one {t T sz b' s : Nat} {d : TypeDesc} {z : Option Value} {e : AV} (hT : TyI P T d sz z b') (hd : aggDesc d = false) (h : lget L t = some (s, 0)) (hB : B.get s = some e) (hc : e.isCell = true) : LRes P env L B G (.cell t T) e
  | gagg {t T sz b' r : Nat} {d : TypeDesc} {z : Option Value} {e : AV} (hT : TyI P T d sz z b') (hd : aggDesc d = true) (h : ev env L (.tmp t) = some (.box r 0)) (hG : G r = some (.box e)) (ha : e.isAgg = true) (hl : e.cells.length = sz) : LRes P env L B G (.cell t T) e
  | gone {t T sz b' r : Nat} {d : TypeDesc} {z : Option Value} {e : AV} (hT : TyI P T d sz z b') (hd : aggDesc d = false) (h : ev env L (.tmp t) = some (.box r 0)) (hG : G r = some (.box e)) (hc : e.isCell = true) : LRes P env L B G (.cell t T) e
theorem LRes.ares {ρ : Nat → Nat} (hρ : Good c G B ρ) {rv : ResultVar} {r : AV} (h : LRes P env L B G rv r) : ARes P (full ρ env L) (boxes ρ G B) rv r := by
  cases h with
  | tmp h => exact .tmp (ev_full (x := .tmp _) h)
  | agg hT hd h hB ha hl => exact .agg hT hd (evl_full (x := .tmp _) h) (boxes_get hρ hB) ha hl
  | one hT hd h hB hc => exact .one hT hd (evl_full (x := .tmp _) h) (boxes_get hρ hB) hc
  | gagg hT hd h hG ha hl => exact .agg hT hd (ev_full (x := .tmp _) h) (boxes_sub hρ _ _ hG) ha hl
  | gone hT hd h hG hc => exact .one hT hd (ev_full (x := .tmp _) h) (boxes_sub hρ _ _ hG) hc

section
variable {fn : Func} {H G0 : AHeap} {R : Nat → AV → List (Nat × ARow) → Prop} {e : Exit} {r' : AV} {effs : List (Nat × ARow)}
theorem g_end (he : e = .ret ∨ e = .normal) {r : AV} (hres : ∀ ρ, Good c G B ρ → ∀ a w, St c (full ρ env L) (boxes ρ G B) a w → ∃ v, Rep (boxes ρ G B) w r v ∧ (results fn a.tmps).run P w = .ok v w)
    (effs : List (Nat × ARow)) (hA : ASub r r') (hs : (setAll H effs).sub G) (hok : ∀ p ∈ effs, G0 p.1 ≠ none ∨ c.w0.heap.size ≤ p.1) (hR : R c.w0.heap.size r' effs) :
    GoalL c env L B G (bodyPost P fn (RetL c G0 H R) e) := fun ρ hρ =>
  Goal.end_ he (hres ρ hρ) r' (AHeap.sub_trans hs (boxes_sub hρ)) (fun w v hs' hr => (hA _ _ _ hr).mono (Ext.forget w (AHeap.sub_trans hs (boxes_sub hρ)))) ⟨effs, hR, hok, rfl⟩
theorem g_end0 (he : e = .ret ∨ e = .normal) (hr : fn.results = #[]) (effs : List (Nat × ARow)) (hs : (setAll H effs).sub G) (hok : ∀ p ∈ effs, G0 p.1 ≠ none ∨ c.w0.heap.size ≤ p.1) (hR : R c.w0.heap.size (.tup []) effs) :
    GoalL c env L B G (bodyPost P fn (RetL c G0 H R) e) := g_end he (fun ρ hρ a w h => res0 hr a w h) effs (.refl _) hs hok hR
theorem g_end1 {v1 : ResultVar} {r1 : AV} (he : e = .ret ∨ e = .normal) (hr : fn.results = #[v1]) (h1 : LRes P env L B G v1 r1) (effs : List (Nat × ARow)) (hA : ASub r1 r') (hs : (setAll H effs).sub G) (hok : ∀ p ∈ effs, G0 p.1 ≠ none ∨ c.w0.heap.size ≤ p.1) (hR : R c.w0.heap.size r' effs) :
    GoalL c env L B G (bodyPost P fn (RetL c G0 H R) e) := g_end he (fun ρ hρ a w h => res1 hr (h1.ares hρ) a w h) effs hA hs hok hR
theorem g_end2 {v1 v2 : ResultVar} {r1 r2 : AV} (he : e = .ret ∨ e = .normal) (hr : fn.results = #[v1, v2]) (h1 : LRes P env L B G v1 r1) (h2 : LRes P env L B G v2 r2) (effs : List (Nat × ARow)) (hA : ASub (.tup [r1, r2]) r') (hs : (setAll H effs).sub G) (hok : ∀ p ∈ effs, G0 p.1 ≠ none ∨ c.w0.heap.size ≤ p.1) (hR : R c.w0.heap.size r' effs) :
    GoalL c env L B G (bodyPost P fn (RetL c G0 H R) e) := g_end he (fun ρ hρ a w h => res2 hr (h1.ares hρ) (h2.ares hρ) a w h) effs hA hs hok hR
theorem g_end3 {v1 v2 v3 : ResultVar} {r1 r2 r3 : AV} (he : e = .ret ∨ e = .normal) (hr : fn.results = #[v1, v2, v3]) (h1 : LRes P env L B G v1 r1) (h2 : LRes P env L B G v2 r2) (h3 : LRes P env L B G v3 r3) (effs : List (Nat × ARow)) (hA : ASub (.tup [r1, r2, r3]) r') (hs : (setAll H effs).sub G) (hok : ∀ p ∈ effs, G0 p.1 ≠ none ∨ c.w0.heap.size ≤ p.1) (hR : R c.w0.heap.size r' effs) :
    GoalL c env L B G (bodyPost P fn (RetL c G0 H R) e) := g_end he (fun ρ hρ a w h => res3 hr (h1.ares hρ) (h2.ares hρ) (h3.ares hρ) a w h) effs hA hs hok hR
end
end
end Go.Proofs.Ytgedefcjngofkaa.AM

/- The abstract machine, part 9: statements whose order is open. -/
set_option linter.unusedVariables false
set_option linter.unusedSimpArgs false
namespace Go.Proofs.Ytgedefcjngofkaa.AM
open Go

section
variable {P : Program} {ops : Array Oper} {Q : Exit → Act → World → Prop} {nS : Nat → Bool}

/-- Whatever order is picked from here on; an operation of nS leaves the old blocks as they are. -/
def wpM (P : Program) (ops : Array Oper) (Q : Exit → Act → World → Prop) (nS : Nat → Bool) : Nat → Array Bool → Act → World → Prop
  | 0, listed, a, w => Region.ready .any ops listed = [] ∧ Q .normal a w
  | fuel + 1, listed, a, w => (Region.ready .any ops listed = [] → Q .normal a w) ∧
      ∀ i ∈ Region.ready .any ops listed, wpOp P ops Q i (fun a' w' => (nS i = true → Same w w') ∧ wpM P ops Q nS fuel (listed.setIfInBounds i true) a' w') a w

theorem wpAny_of_wpM : ∀ (fuel : Nat) (listed : Array Bool) (a : Act) (w : World), wpM P ops Q nS fuel listed a w → wpAny P .any ops Q fuel listed a w
  | 0, _, _, _, h => h
  | fuel + 1, _, _, _, h => ⟨h.1, fun i hi => wpOp_mono (fun a' w' h' => wpAny_of_wpM fuel _ a' w' h'.2) (h.2 i hi)⟩

/-- In this state the operation yields v; with m: in every later world that holds the old blocks as they are; else in any. -/
def YieldsS (m : Bool) (P : Program) (ops : Array Oper) (o : Oper) (v : Value) (a : Act) (w : World) : Prop :=
  (Region.wanted o (yielded ops a.tmps) = true ∧ ∀ w', (m = true → Same w w') → (execOp a.eval o).run P w' = .ok (.value v) w') ∨
  (Region.wanted o (yielded ops a.tmps) = false ∧ v = undef)
theorem YieldsS.later {m : Bool} {o : Oper} {v : Value} {a : Act} {w w' : World} (h : YieldsS m P ops o v a w) (hs : m = true → Same w w') : YieldsS m P ops o v a w' :=
  h.imp (fun ⟨h1, h2⟩ => ⟨h1, fun w'' h'' => h2 w'' (fun e => (hs e).trans (h'' e))⟩) id
theorem YieldsS.same {m : Bool} {o : Oper} {v : Value} {a a' : Act} {w : World} (hy : YieldsS m P ops o v a w) (he : execOp a'.eval o = execOp a.eval o)
    (hw : Region.wanted o (yielded ops a'.tmps) = Region.wanted o (yielded ops a.tmps)) : YieldsS m P ops o v a' w := by
  unfold YieldsS at *; rw [he, hw]; exact hy
theorem YieldsS.wpOp {m : Bool} {i : Nat} {o : Oper} {v : Value} {a : Act} {w : World} (hi : ops[i]? = some o) (hy : YieldsS m P ops o v a w) {K : Act → World → Prop} (h : K (a.put o.dst v) w) : wpOp P ops Q i K a w := by
  unfold Go.wpOp
  simp only [hi]
  rcases hy with ⟨hw, hv⟩ | ⟨hw, rfl⟩
  · simp only [hw, if_true, Oper.wp, hv w (fun _ => Same.refl w), Oper.upon]; exact .inl h
  · simp only [hw, Bool.false_eq_true, if_false]; exact h

/-- An operation apart from this one: whether this one's value is there already makes no difference. -/
theorem wpOp_putS {m : Bool} {j : Nat} {oi oj : Oper} {v : Value} (hj : ops[j]? = some oj) (hap : oi.apart ops oj = true) (hsi : ∀ cs b, oi.op ≠ .select cs b) (hsj : ∀ cs b, oj.op ≠ .select cs b)
    (hQ : ∀ c a w, Q (.panic c) (a.put oi.dst v) w → Q (.panic c) a w) {K : Act → World → Prop} {a : Act} {w : World} (hy : YieldsS m P ops oi v a w) (h : wpOp P ops Q j K (a.put oi.dst v) w) :
    wpOp P ops Q j (fun a' w' => YieldsS m P ops oi v a' w ∧ K (a'.put oi.dst v) w') a w := by
  obtain ⟨h1, h2, h3⟩ := Oper.apart_spec hap
  have keep : ∀ (a : Act), YieldsS m P ops oi v a w → ∀ u, YieldsS m P ops oi v (a.put oj.dst u) w := fun a hy u => hy.same (execOp_put oi hsi a oj.dst u h3) (wanted_put oi a oj.dst u h3)
  have keepD : ∀ d, YieldsS m P ops oi v { a with defers := d :: a.defers } w := fun d => hy.same rfl rfl
  unfold wpOp at *
  simp only [hj] at *
  rw [wanted_put oj a oi.dst v h1] at h
  split
  · rename_i hw
    simp only [hw, if_true] at h
    rcases h with h | ⟨hasks, hlets⟩
    case inr => exact .inr ⟨by unfold Oper.asks at *; rw [execOp_put oj hsj a oi.dst v h1] at hasks; exact hasks, hlets⟩
    refine .inl ?_
    unfold Oper.wp at *
    rw [execOp_put oj hsj a oi.dst v h1] at h
    generalize (execOp a.eval oj).run P w = r at *
    cases r with
    | ok n w' =>
      cases n <;> simp only [Oper.upon] at h ⊢
      case value u => exact ⟨keep a hy u, by rw [← Act.put_comm a v u h2]; exact h⟩
      case skip => exact ⟨keep a hy _, by rw [← Act.put_comm a v undef h2]; exact h⟩
      case defer d => exact ⟨keep _ (keepD d) _, by rw [← Act.put_comm _ v undef h2, ← Act.put_defers]; exact h⟩
      case enter f args =>
        refine Calls.mono h fun e w'' he => ?_
        cases e with
        | returned u => exact ⟨keep a hy u, by rw [← Act.put_comm a v u h2]; exact he⟩
        | panicked c => exact hQ _ _ _ he
        | outgrown => exact he
      case row row args => exact Rows.mono h fun u w'' he => ⟨keep a hy u, by rw [← Act.put_comm a v u h2]; exact he⟩
    | halt x w' =>
      cases x <;> simp only [Oper.upon] at h ⊢
      case panic u => exact hQ _ _ _ h
  · rename_i hw
    simp only [hw] at h
    exact ⟨keep a hy _, by rw [← Act.put_comm a v undef h2]; exact h⟩

/-- Number i may be taken first: each that has not come up waits for it, through others or at once (late), or is apart from it, and leaves the old blocks (m). -/
def Free (m : Bool) (nS : Nat → Bool) (ops : Array Oper) (listed : Array Bool) (i : Nat) (oi : Oper) : Prop :=
  ∃ late : Nat → Bool, (∀ j, late j = true → ∃ oj, ops[j]? = some oj ∧ listed.getD j true = false ∧ ∃ e ∈ oj.after, Region.binds .any e = true ∧ (e.on = i ∨ late e.on = true)) ∧
    (∀ j oj, ops[j]? = some oj → j ≠ i → listed.getD j true = false → late j = false → oi.apart ops oj = true ∧ (m = true → nS j = true))
theorem wpM_first {m : Bool} {i : Nat} {oi : Oper} {v : Value} (hi : ops[i]? = some oi) (hsel : ∀ (j : Nat) (o : Oper) cs b, ops[j]? = some o → o.op ≠ .select cs b)
    (hQ : ∀ c a w, Q (.panic c) (a.put oi.dst v) w → Q (.panic c) a w) :
    ∀ (fuel : Nat) (listed : Array Bool) (a : Act) (w : World), Free m nS ops listed i oi →
      i ∈ Region.ready .any ops listed → YieldsS m P ops oi v a w → wpM P ops Q nS fuel (listed.setIfInBounds i true) (a.put oi.dst v) w → wpM P ops Q nS (fuel + 1) listed a w := by
  intro fuel
  induction fuel with
  | zero =>
    intro listed a w _ hr hy H
    refine ⟨fun h => (by rw [h] at hr; cases hr), fun j hj => ?_⟩
    by_cases hji : j = i
    · subst hji; exact hy.wpOp hi ⟨fun _ => Same.refl w, H⟩
    · have := ready_mono hj hji
      rw [H.1] at this
      cases this
  | succ fuel ih =>
    intro listed a w hfree hr hy H
    refine ⟨fun h => (by rw [h] at hr; cases hr), fun j hj => ?_⟩
    by_cases hji : j = i
    · subst hji; exact hy.wpOp hi ⟨fun _ => Same.refl w, H⟩
    · have h1 := H.2 j (ready_mono hj hji)
      obtain ⟨hjun, oj, hoj, hall⟩ := mem_ready.1 hj
      obtain ⟨late, hlate, hap⟩ := hfree
      have hun : ∀ k, k < listed.size → listed.getD k true = false → listed[k]? = some false := fun k hk h => by simp [hk] at h ⊢; exact h
      have hnl : late j = false := by
        cases hl : late j with
        | false => rfl
        | true =>
          obtain ⟨oj', e1, _, e, he, hb, hon⟩ := hlate j hl
          rw [hoj] at e1; injection e1 with e1; subst e1
          have h2 := hall e he hb
          have key : ∀ k, listed.getD k true = false → e.on = k → False := fun k hk heq => by
            rw [heq] at h2
            rcases Nat.lt_or_ge k listed.size with h' | h'
            · simp [h'] at hk h2; rw [hk] at h2; cases h2
            · simp [Array.getElem?_eq_none h'] at h2
          rcases hon with hon | hon
          · exact (key i (mem_ready.1 hr).1 hon).elim
          · obtain ⟨_, _, h3, _⟩ := hlate e.on hon
            exact (key e.on h3 rfl).elim
      obtain ⟨hapj, hns⟩ := hap j oj hoj hji hjun hnl
      have h2 := wpOp_putS hoj hapj (fun cs b => hsel i oi cs b hi) (fun cs b => hsel j oj cs b hoj) hQ hy h1
      have hfree' : Free m nS ops (listed.setIfInBounds j true) i oi := by
        refine ⟨late, fun k hk => ?_, fun k ok hk hki hun hno => hap k ok hk hki ?_ hno⟩
        · obtain ⟨ok, e1, e2, e3⟩ := hlate k hk
          have hjk : j ≠ k := fun e => by rw [← e, hnl] at hk; cases hk
          exact ⟨ok, e1, by rw [getD_set_ne true hjk]; exact e2, e3⟩
        · by_cases hjk : j = k
          · subst hjk; exact hjun
          · rw [getD_set_ne true hjk] at hun; exact hun
      refine wpOp_mono (fun a' w' h3 => ⟨h3.2.1, ih (listed.setIfInBounds j true) a' w' hfree' (ready_mono hr (Ne.symm hji)) (h3.1.later (fun e => h3.2.1 (hns e))) ?_⟩) h2
      rw [Array.setIfInBounds_comm _ _ hji]
      exact h3.2.2

/-- Those who wait for number i. -/
def lateOf (ops : Array Oper) (i : Nat) : List Nat := (List.range ops.size).foldl (fun l j => match ops[j]? with
  | some oj => if oj.after.any (fun e => Region.binds .any e && (e.on == i || l.contains e.on)) then j :: l else l
  | none => l) []
def freeS (m : Bool) (nS : Nat → Bool) (ops : Array Oper) (listed : Array Bool) (i : Nat) : Bool :=
  match ops[i]? with
  | none => false
  | some oi =>
    let late := lateOf ops i
    (List.range ops.size).all fun j => j == i || match ops[j]? with
      | some oj => if late.contains j then !(listed.getD j true) && oj.after.any (fun e => Region.binds .any e && (e.on == i || (late.contains e.on && Nat.blt e.on ops.size))) && Nat.blt j ops.size else listed.getD j true || (oi.apart ops oj && (!m || nS j))
      | none => true
theorem freeS_spec {m : Bool} {i : Nat} {oi : Oper} {listed : Array Bool} (hi : ops[i]? = some oi) (h : freeS m nS ops listed i = true) : Free m nS ops listed i oi := by
  simp only [freeS, hi, List.all_eq_true, List.mem_range] at h
  refine ⟨fun j => (lateOf ops i).contains j && Nat.blt j ops.size && !(j == i), fun j hj => ?_, fun j oj hj hne hun hno => ?_⟩
  · simp only [Bool.and_eq_true, Bool.not_eq_true', beq_eq_false_iff_ne] at hj
    have hlt : j < ops.size := Nat.le_of_ble_eq_true hj.1.2
    have h1 := h j hlt
    have hoj : ops[j]? = some ops[j] := Array.getElem?_eq_getElem hlt
    simp only [hoj, hj.1.1, if_true, Bool.or_eq_true, beq_iff_eq, hj.2, false_or, Bool.and_eq_true, Bool.not_eq_true'] at h1
    refine ⟨_, hoj, h1.1.1, ?_⟩
    obtain ⟨k, hk, hb⟩ := Array.any_eq_true.1 h1.1.2
    simp only [Bool.and_eq_true, Bool.or_eq_true, beq_iff_eq] at hb
    refine ⟨_, Array.getElem_mem hk, hb.1, ?_⟩
    by_cases e : ((ops[j]).after[k]).on = i
    · exact .inl e
    · refine .inr ?_
      rcases hb.2 with h2 | h2
      · exact absurd h2 e
      · simp only [h2.1, h2.2, Bool.true_and, Bool.not_eq_true', beq_eq_false_iff_ne]; exact e
  · have h1 := h j (Array.getElem?_eq_some_iff.1 hj).1
    have hlt : Nat.blt j ops.size = true := Nat.ble_eq_true_of_le (Array.getElem?_eq_some_iff.1 hj).1
    have hnc : (lateOf ops i).contains j = false := by
      cases hc : (lateOf ops i).contains j with
      | false => rfl
      | true =>
        have hno : ((lateOf ops i).contains j && Nat.blt j ops.size && !(j == i)) = false := hno
        rw [hc, hlt] at hno; simp [hne] at hno
    simp only [hj, hnc, Bool.or_eq_true, beq_iff_eq, hne, false_or, hun, Bool.false_eq_true, if_false, Bool.and_eq_true, Bool.not_eq_true'] at h1
    exact ⟨h1.1, fun e => h1.2.resolve_left (by simp [e])⟩
end

/-- The state inside such a statement: which operations have come up. -/
def GoalM (P : Program) (c : Ctx) (ops : Array Oper) (Q : Exit → Act → World → Prop) (nS : Nat → Bool) (fuel : Nat) (listed : Array Bool) (env : Env) (L : LPtr) (B : Env) (G : AHeap) : Prop :=
  GoalL c env L B G (wpM P ops Q nS fuel listed)

section
variable {md : Bool} {P : Program} {c : Ctx} {env B : Env} {L : LPtr} {G : AHeap} {ops : Array Oper} {Q : Exit → Act → World → Prop} {nS : Nat → Bool} {fuel : Nat} {listed : Array Bool}

theorem St.drew' {a : Act} {w : World} (hs : St c env G a w) : St c env G a { w with drawn := w.drawn + 1 } :=
  hs.move (D := fun _ => False) (sim_drew hs.sim) ext_drew (fun _ _ h => h.elim)
theorem g_draw {id n : Nat} (nS : Nat → Bool) (hm : P.follows .mixedOrders = true) (hn : ops.size = n) (h : GoalM P c ops Q nS n (Array.replicate n false) env L B G) : GoalL c env L B G ((Code.region id ops true).wp P Q) := fun ρ hρ a w hs =>
  wp_region_any hm (wpAny_of_wpM _ _ _ _ (by rw [hn]; exact h ρ hρ a _ hs.drew'))

/-- A value is taken first. -/
theorem m_take {o : Oper} {d : Nat} {av : AV} (i : Nat) (m : Bool) (hi : ops[i]? = some o) (hg : o.guard = none) (hs : Region.noSelect ops = true) (hf : freeS m nS ops listed i = true) (hr : (Region.ready .any ops listed).contains i = true)
    (hQ : ∀ ch a v w, Q (.panic ch) (a.put o.dst v) w → Q (.panic ch) a w) (hv : ValLM m P c o env L B G av) (ho : o.dst = some d) (hd : Nat.blt d c.nt = true)
    (h : GoalM P c ops Q nS fuel (listed.setIfInBounds i true) ((d, av) :: env) (ldel L d) B G) : GoalM P c ops Q nS (fuel + 1) listed env L B G := fun ρ hρ a w hst => by
  obtain ⟨v, h1, h2⟩ := hv ρ hρ a w hst
  refine wpM_first (m := m) hi (Region.noSelect_spec hs) (fun ch a w => hQ ch a v w) fuel listed a w (freeS_spec hi hf) (by simpa using hr) (.inl ⟨by simp [Region.wanted, hg], h2⟩) ?_
  rw [ho]
  exact Goal.env full_put (h ρ hρ) _ _ (hst.put hd h1)
/-- The same, shortly. -/
theorem m_tk {o : Oper} {d : Nat} {av : AV} (i : Nat) (m : Bool) (hi : ops[i]? = some o) (hg : o.guard = none) (hb : (Region.noSelect ops && (freeS m nS ops listed i && (Region.ready .any ops listed).contains i)) = true) (hv : ValLM m P c o env L B G av) (ho : o.dst = some d) (hd : Nat.blt d c.nt = true)
    (h : GoalM P c ops Q nS fuel (listed.setIfInBounds i true) ((d, av) :: env) (ldel L d) B G) (hQ : ∀ ch a v w, Q (.panic ch) (a.put o.dst v) w → Q (.panic ch) a w := by exact fun _ _ _ _ h => h) : GoalM P c ops Q nS (fuel + 1) listed env L B G := by
  rw [Bool.and_eq_true, Bool.and_eq_true] at hb
  exact m_take i m hi hg hb.1 hb.2.1 hb.2.2 hQ hv ho hd h
theorem m_take_yes {o : Oper} {d j t : Nat} {b : Bool} {av : AV} (i : Nat) (m : Bool) (hi : ops[i]? = some o) (hg : o.guard = some (j, b)) (hj : (ops[j]?).bind (·.dst) = some t) (ht : ev env L (.tmp t) = some (.bool b)) (hlt : Nat.blt t c.nt = true)
    (hs : Region.noSelect ops = true) (hf : freeS m nS ops listed i = true) (hr : (Region.ready .any ops listed).contains i = true)
    (hQ : ∀ ch a v w, Q (.panic ch) (a.put o.dst v) w → Q (.panic ch) a w) (hv : ValLM m P c o env L B G av) (ho : o.dst = some d) (hd : Nat.blt d c.nt = true)
    (h : GoalM P c ops Q nS fuel (listed.setIfInBounds i true) ((d, av) :: env) (ldel L d) B G) : GoalM P c ops Q nS (fuel + 1) listed env L B G := fun ρ hρ a w hst => by
  obtain ⟨v, h1, h2⟩ := hv ρ hρ a w hst
  refine wpM_first (m := m) hi (Region.noSelect_spec hs) (fun ch a w => hQ ch a v w) fuel listed a w (freeS_spec hi hf) (by simpa using hr) (.inl ⟨by simp [Region.wanted, hg, yielded_of hst hj (full_bool ht) hlt], h2⟩) ?_
  rw [ho]
  exact Goal.env full_put (h ρ hρ) _ _ (hst.put hd h1)
theorem m_take_no {o : Oper} {d j t : Nat} {b b' : Bool} (i : Nat) (hi : ops[i]? = some o) (hg : o.guard = some (j, b)) (hj : (ops[j]?).bind (·.dst) = some t) (ht : ev env L (.tmp t) = some (.bool b')) (hb : (b' == b) = false) (hlt : Nat.blt t c.nt = true)
    (hs : Region.noSelect ops = true) (hf : freeS false nS ops listed i = true) (hr : (Region.ready .any ops listed).contains i = true)
    (hQ : ∀ ch a v w, Q (.panic ch) (a.put o.dst v) w → Q (.panic ch) a w) (ho : o.dst = some d) (hd : Nat.blt d c.nt = true)
    (h : GoalM P c ops Q nS fuel (listed.setIfInBounds i true) ((d, .tup []) :: env) (ldel L d) B G) : GoalM P c ops Q nS (fuel + 1) listed env L B G := fun ρ hρ a w hst => by
  refine wpM_first (m := false) hi (Region.noSelect_spec hs) (fun ch a w => hQ ch a undef w) fuel listed a w (freeS_spec hi hf) (by simpa using hr) (.inr ⟨by simp only [Region.wanted, hg, yielded_of hst hj (full_bool ht) hlt]; simpa using hb, rfl⟩) ?_
  rw [ho]
  exact Goal.env full_put (h ρ hρ) _ _ (hst.put hd (rep_undef _ _))
theorem m_take_und {o : Oper} {d j t : Nat} {b : Bool} (i : Nat) (hi : ops[i]? = some o) (hg : o.guard = some (j, b)) (hj : (ops[j]?).bind (·.dst) = some t) (ht : ev env L (.tmp t) = some (.tup [])) (hlt : Nat.blt t c.nt = true)
    (hs : Region.noSelect ops = true) (hf : freeS false nS ops listed i = true) (hr : (Region.ready .any ops listed).contains i = true)
    (hQ : ∀ ch a v w, Q (.panic ch) (a.put o.dst v) w → Q (.panic ch) a w) (ho : o.dst = some d) (hd : Nat.blt d c.nt = true)
    (h : GoalM P c ops Q nS fuel (listed.setIfInBounds i true) ((d, .tup []) :: env) (ldel L d) B G) : GoalM P c ops Q nS (fuel + 1) listed env L B G := fun ρ hρ a w hst => by
  refine wpM_first (m := false) hi (Region.noSelect_spec hs) (fun ch a w => hQ ch a undef w) fuel listed a w (freeS_spec hi hf) (by simpa using hr) (.inr ⟨by simp [Region.wanted, hg, yielded_und hst hj (ev_full (x := .tmp t) ht) hlt], rfl⟩) ?_
  rw [ho]
  exact Goal.env full_put (h ρ hρ) _ _ (hst.put hd (rep_undef _ _))
/-- An address of a variable of the call's own is taken first. -/
theorem m_takel {o : Oper} {d sl off : Nat} (i : Nat) (hi : ops[i]? = some o) (hg : o.guard = none) (hs : Region.noSelect ops = true) (hf : freeS false nS ops listed i = true) (hr : (Region.ready .any ops listed).contains i = true)
    (hQ : ∀ ch a v w, Q (.panic ch) (a.put o.dst v) w → Q (.panic ch) a w) (hv : ∀ ρ, ValM false P c o (full ρ env L) (boxes ρ G B) (.box (ρ sl) off)) (ho : o.dst = some d) (hd : Nat.blt d c.nt = true)
    (h : GoalM P c ops Q nS fuel (listed.setIfInBounds i true) env ((d, sl, off) :: L) B G) : GoalM P c ops Q nS (fuel + 1) listed env L B G := fun ρ hρ a w hst => by
  obtain ⟨v, h1, h2⟩ := hv ρ a w hst
  refine wpM_first (m := false) hi (Region.noSelect_spec hs) (fun ch a w => hQ ch a v w) fuel listed a w (freeS_spec hi hf) (by simpa using hr) (.inl ⟨by simp [Region.wanted, hg], h2⟩) ?_
  rw [ho]
  exact Goal.env full_put_l (h ρ hρ) _ _ (hst.put hd h1)
theorem m_takel_yes {o : Oper} {d sl off j t : Nat} {b : Bool} (i : Nat) (hi : ops[i]? = some o) (hg : o.guard = some (j, b)) (hj : (ops[j]?).bind (·.dst) = some t) (ht : ev env L (.tmp t) = some (.bool b)) (hlt : Nat.blt t c.nt = true)
    (hs : Region.noSelect ops = true) (hf : freeS false nS ops listed i = true) (hr : (Region.ready .any ops listed).contains i = true)
    (hQ : ∀ ch a v w, Q (.panic ch) (a.put o.dst v) w → Q (.panic ch) a w) (hv : ∀ ρ, ValM false P c o (full ρ env L) (boxes ρ G B) (.box (ρ sl) off)) (ho : o.dst = some d) (hd : Nat.blt d c.nt = true)
    (h : GoalM P c ops Q nS fuel (listed.setIfInBounds i true) env ((d, sl, off) :: L) B G) : GoalM P c ops Q nS (fuel + 1) listed env L B G := fun ρ hρ a w hst => by
  obtain ⟨v, h1, h2⟩ := hv ρ a w hst
  refine wpM_first (m := false) hi (Region.noSelect_spec hs) (fun ch a w => hQ ch a v w) fuel listed a w (freeS_spec hi hf) (by simpa using hr) (.inl ⟨by simp [Region.wanted, hg, yielded_of hst hj (full_bool ht) hlt], h2⟩) ?_
  rw [ho]
  exact Goal.env full_put_l (h ρ hρ) _ _ (hst.put hd h1)
theorem vl_fieldAddr {dst : Option Tmp} {ty : TypeId} {pos : String} {af : Array Edge} {gd : Option (Nat × Bool)} {S : TypeId} {fs : Array Go.Field} {sz by_ s b' : Nat} {z z' : Option Value} {x : Operand} {sl off f o FT : Nat} {dd : TypeDesc} (hS : TyI P S (.struct fs) s z' b')
    (hf : (fs[f]?).map (fun x => (x.offset, x.type)) = some (o, FT)) (hF : TyI P FT dd (sz + 1) z by_) (hx : evl L x = some (sl, off)) : ∀ ρ, ValM false P c ⟨dst, .fieldAddr S x f, ty, pos, af, gd⟩ (full ρ env L) (boxes ρ G B) (.box (ρ sl) (off + o)) := fun ρ => val_fieldAddr_box hS hf hF (evl_full hx)
theorem vl_move {dst : Option Tmp} {ty : TypeId} {pos : String} {af : Array Edge} {gd : Option (Nat × Bool)} {x : Operand} {sl off : Nat} (hx : evl L x = some (sl, off)) : ∀ ρ, ValM false P c ⟨dst, .move x, ty, pos, af, gd⟩ (full ρ env L) (boxes ρ G B) (.box (ρ sl) off) := fun ρ => val_move (evl_full hx)
theorem vl_nilCheck {dst : Option Tmp} {ty : TypeId} {pos : String} {af : Array Edge} {gd : Option (Nat × Bool)} {x : Operand} {sl off : Nat} (hx : evl L x = some (sl, off)) : ∀ ρ, ValM false P c ⟨dst, .nilCheck x, ty, pos, af, gd⟩ (full ρ env L) (boxes ρ G B) (.box (ρ sl) off) := fun ρ => val_nilCheck (evl_full hx) rfl

/-- A Bool is parted. -/
theorem m_split {b : Bool} (t : Nat) (ht : ev env L (.tmp t) = some (.bool b)) (h1 : b = true → GoalM P c ops Q nS fuel listed ((t, .bool true) :: env) (ldel L t) B G) (h2 : b = false → GoalM P c ops Q nS fuel listed ((t, .bool false) :: env) (ldel L t) B G) :
    GoalM P c ops Q nS fuel listed env L B G := g_split t ht h1 h2

/-- Each of those that may come up now. -/
def StepM (P : Program) (c : Ctx) (o : Oper) (ops : Array Oper) (Q : Exit → Act → World → Prop) (nS : Nat → Bool) (i : Nat) (env : Env) (L : LPtr) (B : Env) (G : AHeap) (K : Act → World → Prop) : Prop :=
  ∀ ρ, Good c G B ρ → ∀ a w, St c (full ρ env L) (boxes ρ G B) a w → o.wp P a w (fun a' w' => (nS i = true → Same w w') ∧ K a' w') Q
theorem m_all {is : List Nat} (hr : Region.ready .any ops listed = is) (hne : is.isEmpty = false) (h : ∀ i ∈ is, GoalL c env L B G (wpOp P ops Q i fun a w => True) → True)
    (h' : ∀ i ∈ is, ∃ o, ops[i]? = some o ∧ ((o.guard = none ∧ StepM P c o ops Q nS i env L B G (wpM P ops Q nS fuel (listed.setIfInBounds i true))) ∨
      ∃ j t b, o.guard = some (j, b) ∧ (ops[j]?).bind (·.dst) = some t ∧ ev env L (.tmp t) = some (.bool b) ∧ Nat.blt t c.nt = true ∧ StepM P c o ops Q nS i env L B G (wpM P ops Q nS fuel (listed.setIfInBounds i true)))) :
    GoalM P c ops Q nS (fuel + 1) listed env L B G := fun ρ hρ a w hs => by
  refine ⟨fun he => ?_, fun i hi => ?_⟩
  · rw [hr] at he; rw [he] at hne; cases hne
  · rw [hr] at hi
    obtain ⟨o, ho, hstep⟩ := h' i hi
    unfold wpOp
    simp only [ho]
    rcases hstep with ⟨hg, hst⟩ | ⟨j, t, b, hg, hj, ht, hlt, hst⟩
    · rw [if_pos (by simp [Region.wanted, hg])]
      exact .inl (hst ρ hρ a w hs)
    · rw [if_pos (by simp [Region.wanted, hg, yielded_of hs hj (full_bool ht) hlt])]
      exact .inl (hst ρ hρ a w hs)
theorem m_one {o : Oper} (i : Nat) (hr : Region.ready .any ops listed = [i]) (hi : ops[i]? = some o) (hg : o.guard = none) (h : StepM P c o ops Q nS i env L B G (wpM P ops Q nS fuel (listed.setIfInBounds i true))) : GoalM P c ops Q nS (fuel + 1) listed env L B G :=
  m_all hr rfl (fun _ _ _ => trivial) fun j hj => by
    have : j = i := by simpa using hj
    subst this
    exact ⟨o, hi, .inl ⟨hg, h⟩⟩
theorem m_one_yes {o : Oper} {j t : Nat} {b : Bool} (i : Nat) (hr : Region.ready .any ops listed = [i]) (hi : ops[i]? = some o) (hg : o.guard = some (j, b)) (hj : (ops[j]?).bind (·.dst) = some t) (ht : ev env L (.tmp t) = some (.bool b)) (hlt : Nat.blt t c.nt = true)
    (h : StepM P c o ops Q nS i env L B G (wpM P ops Q nS fuel (listed.setIfInBounds i true))) : GoalM P c ops Q nS (fuel + 1) listed env L B G :=
  m_all hr rfl (fun _ _ _ => trivial) fun k hk => by
    have : k = i := by simpa using hk
    subst this
    exact ⟨o, hi, .inr ⟨j, t, b, hg, hj, ht, hlt, h⟩⟩
theorem m_done (hr : Region.ready .any ops listed = []) (h : GoalL c env L B G (Q .normal)) : GoalM P c ops Q nS fuel listed env L B G := fun ρ hρ a w hs => by
  cases fuel with
  | zero => exact ⟨hr, h ρ hρ a w hs⟩
  | succ n => exact ⟨fun _ => h ρ hρ a w hs, by rw [hr]; simp⟩

/-- A step that need not keep the old blocks. -/
theorem sm_any {o : Oper} {i : Nat} {K : Act → World → Prop} (hn : nS i = false) (h : StepL P c o Q env L B G K) : StepM P c o ops Q nS i env L B G K := fun ρ hρ a w hs =>
  Oper.wp_mono (fun a' w' hk => ⟨fun e => by (rw [hn] at e; cases e), hk⟩) (h ρ hρ a w hs)
/-- A call that leaves all as it was. -/
theorem sm_callp {i : Nat} {K : Act → World → Prop} {x : Operand} {xs : Array Operand} {at_ : Array TypeId} {f : FuncId} {caps avs : List AV} {R : AV → Prop} {d : Nat} {ty : TypeId} {pos : String} {af : Array Edge} {gd : Option (Nat × Bool)}
    (hx : ev env L x = some (.fn (.func f) caps)) (hxs : xs.toList.mapM (ev env L) = some avs) (hd : Nat.blt d c.nt = true) (h : PCalls P f (avs ++ caps) G R)
    (hk : ∀ r, R r → GoalL c ((d, r) :: env) (ldel L d) B G K) : StepM P c ⟨some d, .call ⟨.value x, xs, at_⟩, ty, pos, af, gd⟩ ops Q nS i env L B G K := fun ρ hρ a w hs => by
  obtain ⟨⟨fn, hfn⟩, hcall⟩ := h _ (boxes_sub hρ)
  have hr := hs.eval (ev_full (ρ := ρ) hx)
  generalize hu : a.eval x = u at hr
  cases hr with
  | fn _ _ vs hl hcs =>
    have hargs := (eval_ops hs _ _ (evs_full hxs)).append ⟨hl, hcs⟩
    have hrun : (execOp a.eval ⟨some d, .call ⟨.value x, xs, at_⟩, ty, pos, af, gd⟩).run P w = .ok (.enter f ((xs.toList.map a.eval) ++ vs).toArray) w := by
      have e : xs.map a.eval ++ vs.toArray = ((xs.toList.map a.eval) ++ vs).toArray := by apply Array.ext'; simp
      simp [execOp, resolve, hu, Deferred.ofValue, invoke, run_callFunc hfn, e]
    unfold Oper.wp
    rw [hrun, Oper.upon_enter]
    refine (hcall w _ hs.sim hargs).mono ?_
    rintro e w' ⟨v, r, G', rfl, ⟨effs, ⟨rfl, hR⟩, _, rfl⟩, h3, h4, h5⟩
    refine ⟨fun _ => ⟨h5.size, fun b hb => h5.same b hb (fun h => h)⟩, ?_⟩
    exact Goal.env full_put (hk r hR ρ hρ) _ _ ((hs.move h4 h5 (fun b hb h => h.elim)).put hd h3)
theorem sm_box {i : Nat} {K : Act → World → Prop} {ty : TypeId} {pos : String} {af : Array Edge} {gd : Option (Nat × Bool)} {T : TypeId} {x : Operand} {d : Nat} {av : AV} (hd : Nat.blt d c.nt = true) (hx : ev env L x = some av) (hu : av.isUnk = false) (hno : (L.all fun p => !Nat.beq p.2.1 d) = true)
    (h : GoalL c env ((d, d, 0) :: L) ((d, av) :: edel B d) G K) : StepM P c ⟨some d, .box T x, ty, pos, af, gd⟩ ops Q nS i env L B G K := fun ρ hρ a w hs =>
  Oper.wp_mono (fun a' w' hk => ⟨fun _ => hk.1, hk.2⟩) (steps_box hd (ev_full hx) (by rintro rfl; cases hu) (fun r hr hn => newVar_core hno hρ hr hn h) a w hs)
theorem sm_alloc {i : Nat} {K : Act → World → Prop} {ty : TypeId} {pos : String} {af : Array Edge} {gd : Option (Nat × Bool)} {T : TypeId} {dd : TypeDesc} {sz b' : Nat} {zv : Value} {d : Nat} {av : AV} (hT : TyI P T dd sz (some zv) b') (hd : Nat.blt d c.nt = true) (hz : zAV zv = av) (hu : av.isUnk = false) (hno : (L.all fun p => !Nat.beq p.2.1 d) = true)
    (h : GoalL c env ((d, d, 0) :: L) ((d, av) :: edel B d) G K) : StepM P c ⟨some d, .alloc T, ty, pos, af, gd⟩ ops Q nS i env L B G K := fun ρ hρ a w hs =>
  Oper.wp_mono (fun a' w' hk => ⟨fun _ => hk.1, hk.2⟩) (steps_alloc hT hd hz (by rintro rfl; cases hu) (fun r hr hn => newVar_core hno hρ hr hn h) a w hs)
end
end Go.Proofs.Ytgedefcjngofkaa.AM

/- The abstract machine, part 10: rows of the call's own: literals, append, stores, copies, slicing; and lists that nobody writes any more. -/
set_option linter.unusedVariables false
set_option linter.unusedSimpArgs false
namespace Go.Proofs.Ytgedefcjngofkaa.AM
open Go

/-- A listed row's block and its cells. -/
theorem row_block {G : AHeap} {w : World} {r sz : Nat} {l : List AV} (hs : Sim G w) (h : G r = some (.row sz l)) : ∃ C T vs rest, w.heap[r]? = some (.cells C T (0, 0)) ∧ Even sz l ∧ C.toList = vs ++ rest ∧ Reps G w (flat l) vs := row_flat (hs r _ h)

theorem flat_mem {l : List AV} {x : AV} (h : x ∈ flat l) : ∃ y ∈ l, x ∈ y.cells := by simpa [flat, List.mem_flatMap] using h

/-- The cells that a slice shows, as values. -/
theorem view_cells {G : AHeap} {w : World} {b : AV} {v : Value} {l : List AV} {sz : Nat} (hs : Sim G w) (hr : Rep G w b v) (hv : b.view G = some l) (he : Even sz l) (h0 : 0 < l.length) :
    ∃ ad c vs, v = .slice (some ad) l.length c ∧ Reps G w (flat l) vs ∧ vs.length = l.length * sz ∧ ∀ j u, vs[j]? = some u → w.cell? (ad.add j) = some u := by
  obtain ⟨ad, c, h1, _, _⟩ := view_at hs hr hv h0
  have hall : ∀ k (hk : k < l.length) j (hj : j < l[k].cells.length), ∃ u, w.cell? (ad.add (k * sz + j)) = some u ∧ Rep G w l[k].cells[j] u := fun k hk j hj => by
    obtain ⟨ad', c', h1', _, h3⟩ := view_at hs hr hv hk
    rw [h1] at h1'
    injection h1' with ha
    injection ha with ha
    subst ha
    obtain ⟨u, hu, hru⟩ := h3 j hj
    rw [add_add, he _ (List.getElem_mem hk)] at hu
    exact ⟨u, hu, hru⟩
  have hfl := flat_len he
  have hex : ∀ i, ∃ u, ∀ (hi : i < (flat l).length), w.cell? (ad.add i) = some u ∧ Rep G w (flat l)[i] u := fun i => by
    by_cases hi : i < (flat l).length
    · have hs0 : 0 < sz := by
        rcases Nat.eq_zero_or_pos sz with h0 | h0
        · subst h0; rw [hfl] at hi; simp at hi
        · exact h0
      have hk : i / sz < l.length := (Nat.div_lt_iff_lt_mul hs0).2 (by omega)
      have hj : i % sz < l[i / sz].cells.length := by rw [he _ (List.getElem_mem hk)]; exact Nat.mod_lt _ hs0
      have hkk : i / sz * sz + i % sz = i := by rw [Nat.mul_comm]; exact Nat.div_add_mod i sz
      obtain ⟨u, hu, hru⟩ := hall (i / sz) hk (i % sz) hj
      rw [hkk] at hu
      have := flat_get he (i / sz) hk (i % sz) hj (by rw [hkk]; exact hi)
      simp only [hkk] at this
      exact ⟨u, fun _ => ⟨hu, by rw [this]; exact hru⟩⟩
    · exact ⟨undef, fun h => absurd h hi⟩
  obtain ⟨u, hu⟩ := Classical.axiomOfChoice hex
  have hgl : ((List.range (flat l).length).map u).length = (flat l).length := by simp
  refine ⟨ad, c, (List.range (flat l).length).map u, h1, ⟨hgl.symm, fun i h1 h2 => by simpa using (hu i h1).2⟩, by rw [hgl, hfl], fun j x hj => ?_⟩
  have hjl : j < (flat l).length := by
    rcases Nat.lt_or_ge j (flat l).length with h' | h'
    · exact h'
    · rw [List.getElem?_eq_none (by simp; omega)] at hj; cases hj
  simp [hjl] at hj
  subst hj
  exact (hu j hjl).1

/-- A list that nobody writes any more, out of a row of the call's own. -/
theorem rep_freeze {H M : AHeap} {w : World} {r sz o n : Nat} {l : List AV} {v : Value} (hs : Sim M w) (hr : M r = some (.row sz l)) (hl : o + n ≤ l.length) (h : Rep M w (.own r sz o n) v) (hsub : H.sub M) (hn : H r = none) :
    Rep H w (.imm ((l.drop o).take n)) v := by
  obtain ⟨C, T, hh, hle, hsz, hc⟩ := hs r _ hr
  cases h with
  | own _ _ _ _ c hc' hsh =>
    have hex : ∀ i j, ∃ u, ∀ (hi : i < ((l.drop o).take n).length) (hj : j < sz), w.cell? ((⟨r, o * sz, none⟩ : Addr).add (i * sz + j)) = some u ∧
        ∀ (hj : j < ((l.drop o).take n)[i].cells.length), Rep H w (((l.drop o).take n)[i].cells[j]) u := fun i j => by
      by_cases hi : i < ((l.drop o).take n).length
      · by_cases hj : j < sz
        · have hil : o + i < l.length := by simp at hi; omega
          have hel : ((l.drop o).take n)[i] = l[o + i] := by simp
          obtain ⟨u, hu, hru⟩ := hc (o + i) hil j (by rw [hsz _ hil]; exact hj)
          refine ⟨u, fun _ _ => ⟨?_, fun hj' => ?_⟩⟩
          · rw [add_mk, ← Nat.add_assoc, ← Nat.add_mul]
            simp [World.cell?, hh, hu]
          · simp only [hel] at hj' ⊢
            exact hru.mono (Ext.forget w hsub)
        · exact ⟨undef, fun _ h => absurd h hj⟩
      · exact ⟨undef, fun h => absurd h hi⟩
    obtain ⟨u, hu⟩ := Classical.axiomOfChoice fun i => Classical.axiomOfChoice (hex i)
    have hlen : ((l.drop o).take n).length = n := by simp; omega
    have hszi : ∀ i (h : i < ((l.drop o).take n).length), ((l.drop o).take n)[i].cells.length = sz := fun i h => by
      have : o + i < l.length := by simp at h; omega
      simpa using hsz (o + i) this
    have := Rep.imm (G := H) (w := w) ((l.drop o).take n) ⟨r, o * sz, none⟩ c sz u (by rw [hlen]; exact hc') hn (shape_lt hsh.choose_spec.choose_spec.1) hszi
      (fun i j hi hj => (hu i j hi hj).1) (fun i hi j hj => (hu i j hi (by rw [← hszi i hi]; exact hj)).2 hj)
    rw [hlen] at this
    exact this

section
variable {md : Bool} {P : Program} {c : Ctx} {env : Env} {G : AHeap} {dst : Option Tmp} {ty : TypeId} {pos : String} {af : Array Edge} {gd : Option (Nat × Bool)} {Q : Exit → Act → World → Prop} {K : Act → World → Prop}

/-- A new list that nobody will write. -/
theorem steps_newImm {o : Oper} {d : Nat} {l : List AV} {sz : Nat} (ho : o.dst = some d) (hd : Nat.blt d c.nt = true) (he : Even sz l)
    (hrun : ∀ a w, St c env G a w → ∃ C T, Reps G w (flat l) C.toList ∧ (execOp a.eval o).run P w = .ok (.value (.slice (some ⟨w.heap.size, 0, none⟩) l.length l.length)) (w.alloc (.cells C T)))
    (h : Goal c ((d, .imm l) :: env) G K) : StepS P c o Q env G K := fun a w hs => by
  obtain ⟨C, T, hr, hrun⟩ := hrun a w hs
  unfold Oper.wp
  rw [hrun, Oper.upon_value, ho]
  have hC : C.size = l.length * sz := by have := hr.1; rw [flat_len he] at this; simpa using this.symm
  have h1 := hs.newRow (C := C) hd he (rest := []) (T := T) (by simp) hr (Nat.le_refl _) (by omega)
  have hx : Ext G w (fun _ => False) G (w.alloc (.cells C T)) := ext_alloc' _
  refine ⟨same_alloc w _, h _ _ ((hs.move (sim_alloc' hs.sim _) hx (fun _ _ h => h.elim)).put hd ?_)⟩
  have hrow : (G.set w.heap.size (.row sz l)) w.heap.size = some (.row sz l) := AHeap.get_set _ _ _
  have hown := Rep.own (G := G.set w.heap.size (.row sz l)) (w := w.alloc (.cells C T)) w.heap.size sz 0 l.length l.length (Nat.le_refl _) ⟨T, C.size, by unfold World.shape?; rw [heap_alloc_new'], by simp; omega⟩
  have := rep_freeze (H := G) h1.sim hrow (by simp) hown (AHeap.sub_set (AHeap.sub_refl _) (hs.sim.none (Nat.le_refl _))) (hs.sim.none (Nat.le_refl _))
  simpa using this

/-- Cells stored into a listed row, from element p on. -/
theorem row_store {w : World} {r sz p : Nat} {l m : List AV} {C : Array Value} {T : TypeId} {vs rest us : List Value} (hs : Sim G w) (hr : G r = some (.row sz l)) (hh : w.heap[r]? = some (.cells C T (0, 0))) (he : Even sz l) (hm : Even sz m)
    (hC : C.toList = vs ++ rest) (hvs : Reps G w (flat l) vs) (hus : Reps G w (flat m) us) (hp : p ≤ l.length) (hfit : p * sz + us.length ≤ C.size) :
    let C' := (C.toList.take (p * sz) ++ us ++ C.toList.drop (p * sz + us.length)).toArray
    Sim (G.set r (.row sz (l.take p ++ m ++ l.drop (p + m.length)))) (w.setRow r C') ∧ Ext G w (fun b => b = r) (G.set r (.row sz (l.take p ++ m ++ l.drop (p + m.length)))) (w.setRow r C') := by
  intro C'
  have hsize : C'.size = C.size := by simp [C']; omega
  have hne : G r ≠ none := by rw [hr]; simp
  have hx := ext_setRow (y := .row sz (l.take p ++ m ++ l.drop (p + m.length))) hh hsize hne
  have hvl : vs.length = l.length * sz := by rw [← hvs.1, flat_len he]
  have hul : us.length = m.length * sz := by rw [← hus.1, flat_len hm]
  have hpsz : p * sz ≤ vs.length := by rw [hvl]; exact Nat.mul_le_mul_right _ hp
  have hcl : C.size = vs.length + rest.length := by rw [← Array.length_toList, hC]; simp
  refine ⟨sim_setRow hs hh hsize hne ?_, hx⟩
  refine row_mk (C := C') (T := T) (vs := vs.take (p * sz) ++ us ++ vs.drop (p * sz + us.length)) (rest := rest.drop (p * sz + us.length - vs.length)) (setRow_heap w r C _ T _ hh) ((he.take p |>.append hm).append (he.drop _)) ?_ ?_
  · simp only [C', hC, List.append_assoc]
    rw [List.take_append_of_le_length hpsz, List.drop_append]
  · have h1 := ((hvs.take (p * sz)).append hus).append (hvs.drop (p * sz + us.length))
    have e : flat (l.take p ++ m ++ l.drop (p + m.length)) = (flat l).take (p * sz) ++ flat m ++ (flat l).drop (p * sz + us.length) := by
      rw [flat_append, flat_append, flat_take he, flat_drop he, hul, ← Nat.add_mul]
    rw [e]
    exact h1.mono hx

/-- What is behind append: nil, or a row of the call's own. -/
def Own (n0 sz : Nat) (H : AHeap) (av : AV) (l : List AV) (G : AHeap) : Prop :=
  (av = .nil0 ∧ l = [] ∧ G = H) ∨ ∃ r, H r = none ∧ n0 ≤ r ∧ av = .own r sz 0 l.length ∧ G = H.set r (.row sz l)
theorem Own.nil (n0 sz : Nat) (H : AHeap) : Own n0 sz H .nil0 [] H := .inl ⟨rfl, rfl, rfl⟩
theorem Own.view {n0 sz : Nat} {H G : AHeap} {av : AV} {l : List AV} (h : Own n0 sz H av l G) : av.view G = some l := by
  rcases h with ⟨rfl, rfl, rfl⟩ | ⟨r, _, _, rfl, rfl⟩
  · rfl
  · exact AV.view_own_all (AHeap.get_set _ _ _) rfl
theorem Own.sub {n0 sz : Nat} {H G : AHeap} {av : AV} {l : List AV} (h : Own n0 sz H av l G) : H.sub G := by
  rcases h with ⟨rfl, rfl, rfl⟩ | ⟨r, h1, _, rfl, rfl⟩
  · exact AHeap.sub_refl _
  · exact AHeap.sub_set (AHeap.sub_refl _) h1

theorem run_append_zero {T E s b' by_ sz n cp m : Nat} {z z' : Option Value} {d : TypeDesc} {A A' : Option Addr} {tyy : TypeId} (hT : TyI P T (.slice E) s z' b') (hE : TyI P E d sz z by_) (hn : n ≤ cp) (w : World) :
    (Builtin.append_ #[T, T] tyy #[.slice A n cp, .slice A' 0 m]).run P w = .ok (.slice A n cp) w := by
  have h1 : ∀ w, (Builtin.firstCells sz 0 (.slice A' 0 m)).run P w = .ok #[] w := fun w => by
    cases A' <;> simp [Builtin.firstCells, loadCells, loadCellsFrom]
  cases A <;> simp [Builtin.append_, hT.run_und, hE.run_size, Builtin.lenOf, hn, h1, storeCells]

theorem append_exec {a : Act} {x y : Operand} {T : TypeId} {v u v' : Value} {w w' : World} (hx : a.eval x = v) (hy : a.eval y = u) (h : (Builtin.append_ #[T, T] ty #[v, u]).run P w = .ok v' w') :
    (execOp a.eval ⟨dst, .call ⟨.builtin .append, #[x, y], #[T, T]⟩, ty, pos, af, gd⟩).run P w = .ok (.value v') w' := by
  simp [execOp, resolve, invoke, builtin, hx, hy, h]

theorem sub_set_set {H M : AHeap} (h : H.sub M) (r : Nat) (x : ARow) : (H.set r x).sub (M.set r x) := fun b y hb => by
  by_cases e : b = r
  · subst e; rw [AHeap.get_set] at hb ⊢; exact hb
  · rw [AHeap.get_set_ne _ _ e] at hb ⊢; exact h b y hb
theorem sub_of_set {H M : AHeap} (h : H.sub M) {r : Nat} {x : ARow} (hr : M r = some x) : (H.set r x).sub M := fun b y hb => by
  by_cases e : b = r
  · subst e; rw [AHeap.get_set] at hb; rw [hr]; exact hb
  · rw [AHeap.get_set_ne _ _ e] at hb; exact h b y hb

/-- append: behind it a row of the call's own that holds both. -/
theorem step_append {T E s b' by_ sz d : Nat} {z' : Option Value} {zv : Value} {de : TypeDesc} {x y : Operand} {av b : AV} {l m : List AV} {H : AHeap} (hT : TyI P T (.slice E) s z' b') (hE : TyI P E de sz (some zv) by_) (hd : Nat.blt d c.nt = true)
    (hx : aeval env x = some av) (hH : H.sub G) (hown : (av = .nil0 ∧ l = []) ∨ ∃ r, H r = none ∧ c.w0.heap.size ≤ r ∧ av = .own r sz 0 l.length ∧ G r = some (.row sz l)) (hy : aeval env y = some b) (hm : b.view G = some m) (hme : Even sz m)
    (hcell : ∀ x ∈ m, x.cells.all AV.isCell = true) (hzs : zv.cells.size = sz) (hb1 : l.length + m.length ≤ 140737488355328) (hb2 : (l.length + m.length) * by_ ≤ 140737488355328)
    (hn : l ++ m = [] → Goal c ((d, .nil0) :: env) H K) (hk : ∀ r, H r = none → c.w0.heap.size ≤ r → Goal c ((d, .own r sz 0 (l ++ m).length) :: env) (H.set r (.row sz (l ++ m))) K) :
    Step P c ⟨some d, .call ⟨.builtin .append, #[x, y], #[T, T]⟩, ty, pos, af, gd⟩ Q env G K := fun a w hs => by
  obtain ⟨i0, g1, g2, g3, g4, g5⟩ := hE.run_info w
  have hrx := hs.eval hx
  have hry := hs.eval hy
  unfold Oper.wp
  rcases Nat.eq_zero_or_pos m.length with h0 | h0
  · have hm0 : m = [] := List.eq_nil_of_length_eq_zero h0
    subst hm0
    obtain ⟨A', cp', hu⟩ := view_len hs.sim hry hm
    rcases hown with ⟨rfl, rfl⟩ | ⟨r, hr1, hr2, rfl, hr3⟩
    · generalize hv : a.eval x = v at hrx
      cases hrx with
      | nil0 A =>
        rw [append_exec hv hu (run_append_zero hT hE (Nat.le_refl _) w), Oper.upon_value]
        exact hn rfl _ _ ((hs.forget hH).put hd (.nil0 A))
    · generalize hv : a.eval x = v at hrx
      have hrx0 := hrx
      cases hrx with
      | own _ _ _ _ cp hc hsh =>
        rw [append_exec hv hu (run_append_zero hT hE hc w), Oper.upon_value]
        have hsub : (H.set r (.row sz (l ++ []))).sub G := by rw [List.append_nil]; exact sub_of_set hH hr3
        refine hk r hr1 hr2 _ _ ((hs.forget hsub).put hd ?_)
        rw [List.append_nil]
        exact hrx0.mono (Ext.forget w (sub_of_set hH hr3))
  · obtain ⟨ad, cu, vs, hu, hvs, hvl, hcells⟩ := view_cells hs.sim hry hm hme h0
    have hvl' : vs.length = m.length * i0.size := by rw [g3]; exact hvl
    have hone : ∀ u ∈ vs, u.oneCell' = true := hvs.oneCell (List.all_eq_true.2 fun x hx => by
      obtain ⟨y, hy1, hy2⟩ := flat_mem hx
      exact List.all_eq_true.1 (hcell y hy1) x hy2)
    have hby : (l.length + m.length) * i0.bytes ≤ 140737488355328 := by rw [g5]; exact hb2
    have hdrew : St c env G a w.drew := hs.move (D := fun _ => False) (sim_drew hs.sim) ext_drew (fun _ _ h => h.elim)
    rcases hown with ⟨rfl, rfl⟩ | ⟨r, hr1, hr2, rfl, hr3⟩
    · have hfin : ∀ (cap : Nat) (C : Array Value) (rest : List Value), m.length ≤ cap → C.toList = vs ++ rest → cap * sz ≤ C.size →
          K (a.put (some d) (.slice (some ⟨w.drew.heap.size, 0, none⟩) m.length cap)) (w.drew.alloc (.cells C E)) := fun cap C rest h1 h2 h3 => by
        have := hdrew.newRow (C := C) (T := E) hd hme h2 (hvs.mono ext_drew) h1 h3
        have hsub : (H.set w.drew.heap.size (.row sz ([] ++ m))).sub (G.set w.drew.heap.size (.row sz m)) := sub_set_set hH _ _
        exact hk w.drew.heap.size (sub_none hH (hdrew.sim.none (Nat.le_refl _))) hdrew.fresh _ _ (this.forget hsub)
      generalize hv : a.eval x = v at hrx
      cases hrx with
      | nil0 A =>
        have hby0 : m.length * i0.bytes ≤ 140737488355328 := by simpa using hby
        have hm63 : m.length ≤ 140737488355328 := by simpa using hb1
        cases A with
        | none =>
          have hr := run_append_nil (P := P) w T ty E i0 zv hT.und g2 g4 ad m.length cu vs hvl' hcells h0 (by omega) (by omega)
          rw [append_exec hv hu hr, Oper.upon_value]
          have hge := grownCap_ge w m.length 0 E
          refine hfin _ _ (Builtin.zeroCells zv.cells (grownCap w m.length 0 E - m.length)).toList hge (by simp) ?_
          simp only [Array.size_append, List.size_toArray, size_zeroCells, hzs, hvl, ← Nat.add_mul]
          exact Nat.mul_le_mul_right _ (by omega)
        | some A =>
          have hr := run_append_grow (P := P) w T ty E i0 zv hT.und g2 g4 A 0 0 [] (by simp) (fun j v h => by simp at h) ad m.length cu vs hvl' hcells (by omega) (by simp; omega) (by simpa using growslice_fits (by omega) hby0)
          simp only [Nat.zero_add] at hr
          rw [append_exec hv hu hr, Oper.upon_value]
          have hge := grownCap_ge w m.length 0 E
          refine hfin _ _ (Builtin.zeroCells zv.cells (grownCap w m.length 0 E - m.length)).toList hge (by simp) ?_
          simp only [Array.size_append, List.size_toArray, size_zeroCells, hzs, hvl, List.length_nil, Nat.zero_add, ← Nat.add_mul]
          exact Nat.mul_le_mul_right _ (by omega)
    · obtain ⟨C, Tc, os, rest, hh, hle, hC, hos⟩ := row_block hs.sim hr3
      have hol : os.length = l.length * sz := by rw [← hos.1, flat_len hle]
      have hCs : C.size = os.length + rest.length := by rw [← Array.length_toList, hC]; simp
      generalize hv : a.eval x = v at hrx
      cases hrx with
      | own _ _ _ _ cp hc hsh =>
        obtain ⟨T', N, hsh1, hsh2⟩ := hsh
        have hN : N = C.size := by unfold World.shape? at hsh1; rw [hh] at hsh1; simp at hsh1; exact hsh1.2.symm
        have hcap : cp * sz ≤ C.size := by rw [← hN]; simpa using hsh2
        by_cases hroom : l.length + m.length ≤ cp
        · have hfit : l.length * sz + vs.length ≤ C.size := by
            rw [hvl, ← Nat.add_mul]; exact Nat.le_trans (Nat.mul_le_mul_right _ hroom) hcap
          have hTc : ∃ v', (Builtin.append_ #[T, T] ty #[.slice (some ⟨r, 0, none⟩) l.length cp, .slice (some ad) m.length cu]).run P w = .ok (.slice (some ⟨r, 0, none⟩) (l.length + m.length) cp) v' ∧ v' = w.setRow r (C.toList.take (l.length * sz) ++ vs ++ C.toList.drop (l.length * sz + vs.length)).toArray := by
            have hf := run_firstCells_some (P := P) w sz m.length ad m.length cu vs hvl hcells
            have hst := run_storeCells_at P r (l.length * sz) Tc vs 0 C w hh (by simpa using hfit) hone
            simp only [Nat.add_zero] at hst
            exact ⟨_, by simp [Builtin.append_, hT.run_und, hE.run_size, Builtin.lenOf, hroom, hf, Addr.add_lit, hst], rfl⟩
          obtain ⟨w', hrun, rfl⟩ := hTc
          have hz0 : 0 * sz = 0 := Nat.zero_mul _
          rw [hz0] at hv
          rw [append_exec hv hu hrun, Oper.upon_value]
          obtain ⟨hsim, hext⟩ := row_store hs.sim hr3 hh hle hme hC hos hvs (Nat.le_refl _) hfit
          have hl2 : l.take l.length ++ m ++ l.drop (l.length + m.length) = l ++ m := by simp
          rw [hl2] at hsim hext
          have h5 := hs.move hsim hext (fun b hb e => by omega)
          refine hk r hr1 hr2 _ _ ((h5.forget (sub_set_set hH _ _)).put hd ?_)
          have h6 := Rep.own (G := H.set r (.row sz (l ++ m))) (w := w.setRow r (C.toList.take (l.length * sz) ++ vs ++ C.toList.drop (l.length * sz + vs.length)).toArray) r sz 0 (l ++ m).length cp (by simpa using hroom)
            ⟨T', N, (hext.shape r (shape_lt hsh1)).trans hsh1, hsh2⟩
          simpa using h6
        · have hz0 : 0 * sz = 0 := Nat.zero_mul _
          rw [hz0] at hv
          have holds : ∀ j v, os[j]? = some v → w.cell? ((⟨r, 0, none⟩ : Addr).add j) = some v := fun j v hj => by
            rw [add_mk, Nat.zero_add]
            have : C[j]? = some v := by
              rw [← Array.getElem?_toList, hC, List.getElem?_append_left (by
                rcases Nat.lt_or_ge j os.length with h' | h'
                · exact h'
                · rw [List.getElem?_eq_none h'] at hj; cases hj)]
              exact hj
            simp [World.cell?, hh, this]
          have hr := run_append_grow (P := P) w T ty E i0 zv hT.und g2 g4 ⟨r, 0, none⟩ l.length cp os (by rw [g3]; exact hol) holds ad m.length cu vs hvl' hcells (by omega) (by omega) (growslice_fits (by omega) hby)
          rw [append_exec hv hu hr, Oper.upon_value]
          have hge := grownCap_ge w (l.length + m.length) cp E
          have hreps : Reps G w.drew (flat (l ++ m)) (os ++ vs) := by rw [flat_append]; exact (hos.append hvs).mono ext_drew
          have hsz : grownCap w (l.length + m.length) cp E * sz ≤ (os.toArray ++ vs.toArray ++ Builtin.zeroCells zv.cells (grownCap w (l.length + m.length) cp E - (l.length + m.length))).size := by
            simp only [Array.size_append, List.size_toArray, size_zeroCells, hzs, hol, hvl, ← Nat.add_mul]
            exact Nat.mul_le_mul_right _ (by omega)
          have h7 := hdrew.newRow (C := os.toArray ++ vs.toArray ++ Builtin.zeroCells zv.cells (grownCap w (l.length + m.length) cp E - (l.length + m.length))) (T := E) (cap := grownCap w (l.length + m.length) cp E) hd (hle.append hme)
            (vs := os ++ vs) (rest := (Builtin.zeroCells zv.cells (grownCap w (l.length + m.length) cp E - (l.length + m.length))).toList) (by simp) hreps (by simpa using hge) hsz
          have h8 := hk w.drew.heap.size (sub_none hH (hdrew.sim.none (Nat.le_refl _))) hdrew.fresh _ _ (h7.forget (sub_set_set hH _ _))
          simpa using h8
end
end Go.Proofs.Ytgedefcjngofkaa.AM

/- The abstract machine, part 11: rows of the call's own beside its own variables. -/
set_option linter.unusedVariables false
set_option linter.unusedSimpArgs false
namespace Go.Proofs.Ytgedefcjngofkaa.AM
open Go

section
variable {md : Bool} {P : Program} {c : Ctx} {env B : Env} {L : LPtr} {G : AHeap} {dst : Option Tmp} {ty : TypeId} {pos : String} {af : Array Edge} {gd : Option (Nat × Bool)} {Q : Exit → Act → World → Prop} {K : Act → World → Prop}

theorem Good.sub {H : AHeap} {ρ : Nat → Nat} (h : Good c G B ρ) (hs : H.sub G) : Good c H B ρ := ⟨fun s v hv => ⟨sub_none hs (h.fresh s v hv).1, (h.fresh s v hv).2⟩, h.inj⟩
theorem boxes_mono {H : AHeap} {ρ : Nat → Nat} (h : Good c G B ρ) (hs : H.sub G) : (boxes ρ H B).sub (boxes ρ G B) := fun b x hb => by
  rcases boxes_cases (h.sub hs) b with ⟨s, v, h1, h2, h3⟩ | ⟨h1, h2⟩
  · rw [h3] at hb; injection hb with hb; subst hb
    rw [h2]; exact boxes_get h h1
  · rw [h2] at hb; rw [boxes_other h1]; exact hs b x hb
/-- A fresh row beside the variables. -/
theorem goal_set {H : AHeap} {ρ : Nat → Nat} {r : Nat} {x : ARow} (hg : Good c H B ρ) (hr : (boxes ρ H B) r = none) (h : GoalL c env L B (H.set r x) K) : Goal c (full ρ env L) ((boxes ρ H B).set r x) K := by
  have hne : ∀ s v, B.get s = some v → r ≠ ρ s := fun s v hv e => by rw [e, boxes_get hg hv] at hr; cases hr
  obtain ⟨h1, h2⟩ := boxes_setG (x := x) hg hne
  rw [h2]; exact h ρ h1

theorem s_append {T E s b' by_ sz d : Nat} {z' : Option Value} {zv : Value} {de : TypeDesc} {x y : Operand} {av b : AV} {l m : List AV} {H : AHeap} (hT : TyI P T (.slice E) s z' b') (hE : TyI P E de sz (some zv) by_) (hd : Nat.blt d c.nt = true)
    (hx : ev env L x = some av) (hown : Own c.w0.heap.size sz H av l G) (hy : ev env L y = some b) (hm : b.view G = some m) (hme : Even sz m)
    (hcell : ∀ x ∈ m, x.cells.all AV.isCell = true) (hzs : zv.cells.size = sz) (hb1 : l.length + m.length ≤ 140737488355328) (hb2 : (l.length + m.length) * by_ ≤ 140737488355328)
    (h : ∀ av' G', Own c.w0.heap.size sz H av' (l ++ m) G' → GoalL c ((d, av') :: env) (ldel L d) B G' K) : StepL P c ⟨some d, .call ⟨.builtin .append, #[x, y], #[T, T]⟩, ty, pos, af, gd⟩ Q env L B G K := fun ρ hρ => by
  have hgH : Good c H B ρ := hρ.sub hown.sub
  refine step_append (H := boxes ρ H B) (l := l) hT hE hd (ev_full hx) (boxes_mono hρ hown.sub) ?_ (ev_full hy) (view_sub (boxes_sub hρ) hm) hme hcell hzs hb1 hb2 (fun he => ?_) (fun r hr hn => ?_)
  · rcases hown with ⟨h1, h2, _⟩ | ⟨r, h1, h2, h3, rfl⟩
    · exact .inl ⟨h1, h2⟩
    · refine .inr ⟨r, ?_, h2, h3, boxes_sub hρ _ _ (AHeap.get_set _ _ _)⟩
      rw [boxes_other (fun s v hv e => by have := (hρ.fresh s v hv).1; rw [← e, AHeap.get_set] at this; cases this)]
      exact h1
  · exact Goal.env full_put (h .nil0 H (by rw [he]; exact Own.nil ..) ρ hgH)
  · exact Goal.env full_put (goal_set hgH hr (h _ _ (.inr ⟨r, sub_none (boxes_sub hgH) hr, hn, rfl, rfl⟩)))

/-- From here on nobody writes the list. -/
theorem g_freeze {sz : Nat} {av : AV} {l : List AV} {H : AHeap} (t : Nat) (ht : ev env L (.tmp t) = some av) (hown : Own c.w0.heap.size sz H av l G) (h : GoalL c ((t, .imm l) :: env) (ldel L t) B H K) : GoalL c env L B G K := fun ρ hρ a w hs => by
  have hgH : Good c H B ρ := hρ.sub hown.sub
  have hsub := boxes_mono (ρ := ρ) hρ hown.sub
  have hr := hs.rep t av (by have := ev_full (ρ := ρ) ht; exact this)
  have hr' : Rep (boxes ρ H B) w (.imm l) (a.tmps.getD t undef) := by
    rcases hown with ⟨rfl, rfl, rfl⟩ | ⟨r, h1, h2, rfl, rfl⟩
    · exact ASub.nil0 _ _ _ hr
    · have hrow : (boxes ρ (H.set r (.row sz l)) B) r = some (.row sz l) := boxes_sub hρ _ _ (AHeap.get_set _ _ _)
      have hn : (boxes ρ H B) r = none := by
        rw [boxes_other (fun s v hv e => by have := (hρ.fresh s v hv).1; rw [← e, AHeap.get_set] at this; cases this)]
        exact h1
      have := rep_freeze hs.sim hrow (by simp) hr hsub hn
      simpa using this
  refine Goal.env full_put (h ρ hgH) a w ⟨(hs.forget hsub).sim, fun t' v hv => ?_, hs.size, hs.dfr, (hs.forget hsub).ext⟩
  simp only [Env.get] at hv
  cases hb : Nat.beq t t' with
  | true => rw [hb] at hv; injection hv with hv; rw [← hv, ← Nat.eq_of_beq_eq_true hb]; exact hr'
  | false => rw [hb] at hv; exact (hs.forget hsub).rep t' v hv

/-! ### Literals -/
theorem lit_run {T E : TypeId} {de : TypeDesc} {s b' sz by_ n : Nat} {z : Option Value} {zv : Value} {parts : Array (Nat × Operand)} {vs : List (Nat × AV)} {l : List AV} {env : Env} {G : AHeap}
    (hT : TyI P T (.slice E) s z b') (hE : TyI P E de sz (some zv) by_) (hvs : parts.toList.mapM (fun x => (aeval env x.2).map fun v => (x.1, v)) = some vs)
    (hf : afill (fun i => some (i * sz, sz)) (List.replicate (n * sz) .unk) vs = some (flat l)) (hn : l.length = n) (hsm : n * sz ≤ 16777216) (a : Act) (w : World) (hs : St c env G a w) :
    ∃ C T', Reps G w (flat l) C.toList ∧ (execOp a.eval ⟨dst, .buildSlice T n parts, ty, pos, af, gd⟩).run P w = .ok (.value (.slice (some ⟨w.heap.size, 0, none⟩) l.length l.length)) (w.alloc (.cells C T')) := by
  obtain ⟨h1, h2⟩ := eval_list hs _ _ hvs
  have hzr : ∀ C : Array Value, C.size = n * sz → Reps G w (List.replicate (n * sz) .unk) C.toList := fun C hC => ⟨by simp [hC], fun i hi1 hi2 => by simpa using Rep.unk _⟩
  have e : (parts.map fun x => (x.1, a.eval x.2)).toList = parts.toList.map fun x => (x.1, a.eval x.2) := by simp
  have hsm' : ¬ (n * sz > 2 ^ 24) := by simp; omega
  by_cases h0 : n * sz = 0
  · obtain ⟨vo, h3, h4⟩ := afill_rep (fun i => some (i * sz, sz)) vs _ _ (flat l) #[] h1 h2 (by have := hzr #[] (by simp [h0]); exact this) hf
    refine ⟨vo, E, h4, ?_⟩
    simp only [execOp, Instr.buildSlice, Sem.run_bind, hT.run_und, Result.andThen_ok, hE.run_size, if_neg hsm', h0, e]
    have e0 : ∀ f : Nat → Value, Array.map f (Array.range 0) = #[] := fun f => Array.eq_empty_of_size_eq_zero (by simp)
    simp [h0, e0, h3, newRow, hn]
  · obtain ⟨vo, h3, h4⟩ := afill_rep (fun i => some (i * sz, sz)) vs _ _ (flat l) ((Array.range (n * sz)).map (zv.cells[· % zv.cells.size]!)) h1 h2 (hzr _ (by simp)) hf
    refine ⟨vo, E, h4, ?_⟩
    simp only [execOp, Instr.buildSlice, Sem.run_bind, hT.run_und, Result.andThen_ok, hE.run_size, if_neg hsm', h0, e]
    simp [h0, hE.run_zero, h3, newRow, hn]
theorem s_lit {T E : TypeId} {de : TypeDesc} {s b' sz by_ n d : Nat} {z : Option Value} {zv : Value} {parts : Array (Nat × Operand)} {vs : List (Nat × AV)} {l : List AV}
    (hT : TyI P T (.slice E) s z b') (hE : TyI P E de sz (some zv) by_) (hd : Nat.blt d c.nt = true) (hvs : parts.toList.mapM (fun x => (ev env L x.2).map fun v => (x.1, v)) = some vs) (hl : vs.map (·.2) = l)
    (hf : afill (fun i => some (i * sz, sz)) (List.replicate (n * sz) .unk) vs = some (flat l)) (he : l.all (fun x => Nat.beq x.cells.length sz) = true) (hn : l.length = n) (hsm : Nat.ble (n * sz) 16777216 = true)
    (h : GoalL c ((d, .imm l) :: env) (ldel L d) B G K) : StepL P c ⟨some d, .buildSlice T n parts, ty, pos, af, gd⟩ Q env L B G K := fun ρ hρ =>
  (steps_newImm rfl hd (fun x hx => Nat.eq_of_beq_eq_true (List.all_eq_true.1 he x hx)) (lit_run hT hE (evp_full hvs) hf hn (Nat.le_of_ble_eq_true hsm)) (Goal.env full_put (h ρ hρ))).step
/-- An empty literal: a slice without room. -/
theorem s_lit0 {T E : TypeId} {de : TypeDesc} {s b' sz by_ d : Nat} {z : Option Value} {zv : Value} (hT : TyI P T (.slice E) s z b') (hE : TyI P E de sz (some zv) by_) (hd : Nat.blt d c.nt = true)
    (h : GoalL c ((d, .nil0) :: env) (ldel L d) B G K) : StepL P c ⟨some d, .buildSlice T 0 #[], ty, pos, af, gd⟩ Q env L B G K := fun ρ hρ a w hs => by
  obtain ⟨C, T', hr, hrun⟩ := lit_run (dst := some d) (ty := ty) (pos := pos) (af := af) (gd := gd) (vs := []) (l := []) (n := 0) (parts := #[]) hT hE rfl (by simp [afill, flat]) rfl (by omega) a w hs
  unfold Oper.wp
  rw [hrun, Oper.upon_value]
  exact Goal.env full_put (h ρ hρ) _ _ ((hs.move (sim_alloc' hs.sim _) (ext_alloc' _) (fun _ _ h => h.elim)).put hd (.nil0 _))
theorem sm_lit {ops : Array Oper} {nS : Nat → Bool} {i : Nat} {T E : TypeId} {de : TypeDesc} {s b' sz by_ n d : Nat} {z : Option Value} {zv : Value} {parts : Array (Nat × Operand)} {vs : List (Nat × AV)} {l : List AV}
    (hT : TyI P T (.slice E) s z b') (hE : TyI P E de sz (some zv) by_) (hd : Nat.blt d c.nt = true) (hvs : parts.toList.mapM (fun x => (ev env L x.2).map fun v => (x.1, v)) = some vs) (hl : vs.map (·.2) = l)
    (hf : afill (fun i => some (i * sz, sz)) (List.replicate (n * sz) .unk) vs = some (flat l)) (he : l.all (fun x => Nat.beq x.cells.length sz) = true) (hn : l.length = n) (hsm : Nat.ble (n * sz) 16777216 = true)
    (h : GoalL c ((d, .imm l) :: env) (ldel L d) B G K) : StepM P c ⟨some d, .buildSlice T n parts, ty, pos, af, gd⟩ ops Q nS i env L B G K := fun ρ hρ a w hs =>
  Oper.wp_mono (fun a' w' hk => ⟨fun _ => hk.1, hk.2⟩) (steps_newImm rfl hd (fun x hx => Nat.eq_of_beq_eq_true (List.all_eq_true.1 he x hx)) (lit_run hT hE (evp_full hvs) hf hn (Nat.le_of_ble_eq_true hsm)) (Goal.env full_put (h ρ hρ)) a w hs)
theorem sm_lit0 {ops : Array Oper} {nS : Nat → Bool} {i : Nat} {T E : TypeId} {de : TypeDesc} {s b' sz by_ d : Nat} {z : Option Value} {zv : Value} (hT : TyI P T (.slice E) s z b') (hE : TyI P E de sz (some zv) by_) (hd : Nat.blt d c.nt = true)
    (h : GoalL c ((d, .nil0) :: env) (ldel L d) B G K) : StepM P c ⟨some d, .buildSlice T 0 #[], ty, pos, af, gd⟩ ops Q nS i env L B G K := fun ρ hρ a w hs => by
  obtain ⟨C, T', hr, hrun⟩ := lit_run (dst := some d) (ty := ty) (pos := pos) (af := af) (gd := gd) (vs := []) (l := []) (n := 0) (parts := #[]) hT hE rfl (by simp [afill, flat]) rfl (by omega) a w hs
  unfold Oper.wp
  rw [hrun, Oper.upon_value]
  exact ⟨fun _ => same_alloc w _, Goal.env full_put (h ρ hρ) _ _ ((hs.move (sim_alloc' hs.sim _) (ext_alloc' _) (fun _ _ h => h.elim)).put hd (.nil0 _))⟩

/-- make: a row of the call's own. -/
theorem s_make {T E : TypeId} {de : TypeDesc} {s b' sz by_ d n : Nat} {z : Option Value} {zv : Value} {x : Operand} {k : IntKind} {m : Int} {za : AV} (hT : TyI P T (.slice E) s z b') (hE : TyI P E de sz (some zv) by_) (hd : Nat.blt d c.nt = true)
    (hx : ev env L x = some (.int k m)) (hm : m = (n : Int)) (hz : zAV zv = za) (hzs : za.cells.length = sz) (hzu : za.isUnk = false) (hb : n * by_ ≤ 140737488355328) (hn : n ≤ 140737488355328)
    (h : ∀ av' G', Own c.w0.heap.size sz G av' (List.replicate n za) G' → GoalL c ((d, av') :: env) (ldel L d) B G' K) : StepL P c ⟨some d, .makeSlice T x x, ty, pos, af, gd⟩ Q env L B G K := fun ρ hρ =>
  step_makeSlice hT hE hd (ev_full hx) hm hz hzs hzu hb hn fun r hr hn => Goal.env full_put (goal_set hρ hr (h _ _ (.inr ⟨r, sub_none (boxes_sub hρ) hr, hn, rfl, rfl⟩)))

/-! ### Stores into a listed row -/
theorem step_store_row {env : Env} {G : AHeap} {T : TypeId} {d : TypeDesc} {sz b' r szr o n k off : Nat} {z : Option Value} {x y : Operand} {av old new : AV} {l : List AV} (hT : TyI P T d sz z b') (hy : aeval env y = some (.elp (.own r szr o n) k off)) (hx : aeval env x = some av)
    (hG : G r = some (.row szr l)) (hk : l[o + k]? = some old) (hsz : av.cells.length = sz) (hc : av.cells.all AV.isCell = true) (hoff : off + sz ≤ old.cells.length) (hnew : new.cells = splice old.cells off av.cells)
    (hD : c.D r ∨ c.w0.heap.size ≤ r) (h : Goal c env (G.set r (.row szr (l.set (o + k) new))) K) : Step P c ⟨none, .store T y x, ty, pos, af, gd⟩ Q env G K := fun a w hs => by
  have hu : av.isUnk = false := by
    cases av <;> first | rfl | (simp [AV.cells, AV.isCell] at hc)
  have hr := (hs.eval hx).cells' hu
  obtain ⟨C, Tc, vs, rest, hh, hle, hC, hvs⟩ := row_block hs.sim hG
  have hlt : o + k < l.length := by
    rcases Nat.lt_or_ge (o + k) l.length with h' | h'
    · exact h'
    · rw [List.getElem?_eq_none h'] at hk; cases hk
  have hold : l[o + k] = old := by rw [List.getElem?_eq_getElem hlt] at hk; exact Option.some.inj hk
  have hos : old.cells.length = szr := by rw [← hold]; exact hle _ (List.getElem_mem hlt)
  have hp : a.eval y = .pointer (some ⟨r, (o + k) * szr + off, none⟩) := by
    have := hs.eval hy
    generalize a.eval y = u at this
    cases this; rfl
  have hvl : vs.length = l.length * szr := by rw [← hvs.1, flat_len hle]
  have hCs : C.size = vs.length + rest.length := by rw [← Array.length_toList, hC]; simp
  have hxl : (a.eval x).cells.toList.length = sz := by rw [← hr.1]; exact hsz
  have hbnd : (o + k + 1) * szr ≤ l.length * szr := Nat.mul_le_mul_right _ hlt
  rw [Nat.add_mul] at hbnd
  have hrun := store_at (dst := none) (ty := ty) (pos := pos) (af := af) (gd := gd) hT hp rfl rfl hxl (hr.oneCell hc) hh (by omega)
  unfold Oper.wp
  rw [hrun, Oper.upon_skip]
  have hne : G r ≠ none := by rw [hG]; simp
  have hsize : (C.toList.take ((o + k) * szr + off) ++ (a.eval x).cells.toList ++ C.toList.drop ((o + k) * szr + off + (a.eval x).cells.toList.length)).toArray.size = C.size := by simp at hxl ⊢; omega
  have he := ext_setRow (y := .row szr (l.set (o + k) new)) hh hsize hne
  have hnl : new.cells.length = szr := by rw [hnew]; simp [splice]; omega
  have hflat : flat (l.set (o + k) new) = (flat l).take ((o + k) * szr + off) ++ av.cells ++ (flat l).drop ((o + k) * szr + off + sz) := by
    have e1 : l = l.take (o + k) ++ old :: l.drop (o + k + 1) := by rw [← hold]; simp
    have e2 : l.set (o + k) new = l.take (o + k) ++ new :: l.drop (o + k + 1) := List.set_eq_take_append_cons_drop .. |>.trans (by rw [if_pos hlt])
    have hfl : flat l = flat (l.take (o + k)) ++ (old.cells ++ flat (l.drop (o + k + 1))) := by rw [← flat_cons, ← flat_append, ← e1]
    have ht : (flat (l.take (o + k))).length = (o + k) * szr := by rw [flat_len (hle.take _), List.length_take, Nat.min_eq_left (Nat.le_of_lt hlt)]
    rw [e2, flat_append, flat_cons, hnew, hfl]
    simp only [splice, List.append_assoc]
    rw [← ht, List.take_length_add_append, List.append_assoc, List.take_append_of_le_length (by omega), hsz]
    have hd : ∀ (a b c : List AV) (m : Nat), m ≤ b.length → (a ++ (b ++ c)).drop (a.length + m) = b.drop m ++ c := fun a b c m hm => by
      rw [List.drop_length_add_append, List.drop_append_of_le_length hm]
    rw [Nat.add_assoc (flat (l.take (o + k))).length off sz, hd _ _ _ _ (by omega)]
  refine h _ _ (hs.move (sim_setRow hs.sim hh hsize hne ?_) he (fun b hb hbr => ?_))
  · refine row_mk (vs := vs.take ((o + k) * szr + off) ++ (a.eval x).cells.toList ++ vs.drop ((o + k) * szr + off + sz)) (rest := rest) (setRow_heap w r C _ Tc _ hh) (hle.set _ hnl) ?_ ?_
    · simp only [hC, List.append_assoc, hxl]
      rw [List.take_append_of_le_length (by omega), List.drop_append_of_le_length (by omega)]
    · rw [hflat]
      exact (((hvs.take _).append hr).append (hvs.drop _)).mono he
  · subst hbr
    rcases hD with hD | hD
    · exact hD
    · omega

/-- A store into a row of the call's own. -/
theorem s_store_own {T : TypeId} {d : TypeDesc} {sz b' szr k off : Nat} {z : Option Value} {x y : Operand} {b av old new : AV} {l : List AV} {H : AHeap} (hT : TyI P T d sz z b') (hy : ev env L y = some (.elp b k off)) (hx : ev env L x = some av)
    (hown : Own c.w0.heap.size szr H b l G) (hk : l[k]? = some old) (hsz : av.cells.length = sz) (hc : av.cells.all AV.isCell = true) (hoff : Nat.ble (off + sz) old.cells.length = true) (hnew : new.cells = splice old.cells off av.cells)
    (h : ∀ G', Own c.w0.heap.size szr H b (l.set k new) G' → GoalL c env L B G' K) : StepL P c ⟨none, .store T y x, ty, pos, af, gd⟩ Q env L B G K := fun ρ hρ => by
  rcases hown with ⟨rfl, rfl, rfl⟩ | ⟨r, h1, h2, rfl, rfl⟩
  · simp at hk
  · refine step_store_row (o := 0) hT (ev_full hy) (ev_full hx) (boxes_sub hρ _ _ (AHeap.get_set _ _ _)) (by rw [Nat.zero_add]; exact hk) hsz hc (Nat.le_of_ble_eq_true hoff) hnew (.inr h2) ?_
    rw [Nat.zero_add]
    have hne : ∀ s v, B.get s = some v → r ≠ ρ s := fun s v hv e => by have := (hρ.fresh s v hv).1; rw [← e, AHeap.get_set] at this; cases this
    obtain ⟨h3, h4⟩ := boxes_setG (x := .row szr (l.set k new)) hρ hne
    rw [h4]
    rw [AHeap.set_set] at h3 ⊢
    exact h _ (.inr ⟨r, h1, h2, by simp, rfl⟩) ρ h3
/-- A store into a row that came in. -/
theorem s_store_row {T : TypeId} {d : TypeDesc} {sz b' r szr o n k off : Nat} {z : Option Value} {x y : Operand} {av old new : AV} {l : List AV} (hT : TyI P T d sz z b') (hy : ev env L y = some (.elp (.own r szr o n) k off)) (hx : ev env L x = some av)
    (hG : G r = some (.row szr l)) (hk : l[o + k]? = some old) (hsz : av.cells.length = sz) (hc : av.cells.all AV.isCell = true) (hoff : Nat.ble (off + sz) old.cells.length = true) (hnew : new.cells = splice old.cells off av.cells)
    (hD : c.D r ∨ c.w0.heap.size ≤ r) (h : GoalL c env L B (G.set r (.row szr (l.set (o + k) new))) K) : StepL P c ⟨none, .store T y x, ty, pos, af, gd⟩ Q env L B G K := fun ρ hρ => by
  have hne : ∀ s v, B.get s = some v → r ≠ ρ s := fun s v hv e => by have := (hρ.fresh s v hv).1; rw [← e, hG] at this; cases this
  obtain ⟨h3, h4⟩ := boxes_setG (x := .row szr (l.set (o + k) new)) hρ hne
  refine step_store_row hT (ev_full hy) (ev_full hx) (boxes_sub hρ _ _ hG) hk hsz hc (Nat.le_of_ble_eq_true hoff) hnew hD ?_
  rw [h4]; exact h ρ h3

/-! ### Results that are rows of the callee's own -/
/-- A result that the callee made: nil, or a new row. -/
def OwnR (n sz : Nat) (r : AV) (l : List AV) (effs : List (Nat × ARow)) : Prop := (r = .nil0 ∧ l = [] ∧ effs = []) ∨ ∃ p, n ≤ p ∧ r = .own p sz 0 l.length ∧ effs = [(p, .row sz l)]
theorem OwnR.own {n n0 sz : Nat} {r : AV} {l : List AV} {effs : List (Nat × ARow)} (h : OwnR n sz r l effs) (hn : n0 ≤ n) (hdom : ∀ b, n ≤ b → G b = none) : Own n0 sz G r l (setAll G effs) := by
  rcases h with ⟨rfl, rfl, rfl⟩ | ⟨p, h1, rfl, rfl⟩
  · exact Own.nil ..
  · exact .inr ⟨p, hdom p h1, Nat.le_trans hn h1, rfl, rfl⟩
/-- What the end of such a function must show. -/
theorem Own.effs {n0 sz : Nat} {H : AHeap} {av : AV} {l : List AV} (h : Own n0 sz H av l G) : ∃ effs, OwnR n0 sz av l effs ∧ (∀ p ∈ effs, n0 ≤ p.1) ∧ setAll H effs = G := by
  rcases h with ⟨rfl, rfl, rfl⟩ | ⟨r, h1, h2, rfl, rfl⟩
  · exact ⟨[], .inl ⟨rfl, rfl, rfl⟩, (fun p hp => by cases hp), rfl⟩
  · exact ⟨[(r, .row sz l)], .inr ⟨r, h2, rfl, rfl⟩, fun p hp => by have : p = (r, .row sz l) := by simpa using hp
                                                                    subst this; exact h2, rfl⟩
/-- Such a result, if nobody writes it any more. -/
theorem LCalls.freeze {f : FuncId} {args : List AV} {sz : Nat} {l : List AV} (h : LCalls P f args G noD fun n r effs => OwnR n sz r l effs) : PCalls P f args G (fun r => r = .imm l) := fun H hH =>
  (h H hH).less fun n r G' w' v hdom ⟨effs, h1, h2, h3⟩ hs hr => by
    refine ⟨.imm l, H, ⟨[], ⟨rfl, rfl⟩, (fun p hp => by cases hp), rfl⟩, ?_, ?_⟩
    · rcases h1 with ⟨_, _, rfl⟩ | ⟨p, hp, _, rfl⟩
      · rw [h3]; exact AHeap.sub_refl _
      · rw [h3]; exact AHeap.sub_set (AHeap.sub_refl _) (hdom p hp)
    · rcases h1 with ⟨rfl, rfl, rfl⟩ | ⟨p, hp, rfl, rfl⟩
      · subst h3; exact ASub.nil0 _ _ _ hr
      · subst h3
        have := rep_freeze (H := H) hs (AHeap.get_set _ _ _) (by simp) hr (AHeap.sub_set (AHeap.sub_refl _) (hdom p hp)) (hdom p hp)
        simpa using this
end
end Go.Proofs.Ytgedefcjngofkaa.AM

/- The abstract machine, part 12: what is read as data is an abstract value that fits its type. -/
set_option linter.unusedVariables false
set_option linter.unusedSimpArgs false
namespace Go.Proofs.Ytgedefcjngofkaa.AM
open Go

def noHeap : AHeap := fun _ => none
def isAggT (P : Program) (t : TypeId) : Bool := match P.underlying t with
  | some d => aggDesc d
  | none => false
def pack (P : Program) (t : TypeId) (x : List AV) : AV := match isAggT P t with
  | true => .agg x
  | false => x.headD .unk

inductive Shaped (P : Program) : TypeId → List AV → Prop
  | int {t : TypeId} {k : IntKind} (n : Int) (ht : P.underlying t = some (.int k)) (hw : (Lit.int k n).wf = true) : Shaped P t [.int k n]
  | bool {t : TypeId} (b : Bool) (ht : P.underlying t = some .bool) : Shaped P t [.bool b]
  | str {t : TypeId} (s : ByteArray) (ht : P.underlying t = some .string) (hs : s.size ≤ reachBytes) : Shaped P t [.str s]
  | slice {t e : TypeId} (l : List (List AV)) (ht : P.underlying t = some (.slice e)) (hl : l.length * P.bytesOf e ≤ reachBytes) (h : ∀ x ∈ l, Shaped P e x) : Shaped P t [.imm (l.map (pack P e))]
  | struct {t : TypeId} {fs : Array Field} (l : List (List AV)) (ht : P.underlying t = some (.struct fs)) (hl : l.length = fs.size)
      (h : ∀ i (h1 : i < l.length) (h2 : i < fs.size), Shaped P fs[i].type l[i]) : Shaped P t l.flatten
  | array {t e : TypeId} {n : Nat} (l : List (List AV)) (ht : P.underlying t = some (.array n e)) (hl : l.length = n) (h : ∀ x ∈ l, Shaped P e x) : Shaped P t l.flatten
  | other {t : TypeId} {d : TypeDesc} (ht : P.underlying t = some d)
      (hd : match d with | .int _ | .bool | .string | .slice _ | .struct _ | .array _ _ => False | _ => True) : Shaped P t [.unk]

theorem Shaped.one {P : Program} {t : TypeId} {x : List AV} (h : Shaped P t x) (ha : isAggT P t = false) : ∃ a, x = [a] ∧ a.cells = [a] := by
  cases h with
  | struct l ht _ _ => simp [isAggT, ht, aggDesc] at ha
  | array l ht _ _ => simp [isAggT, ht, aggDesc] at ha
  | _ => exact ⟨_, rfl, rfl⟩
theorem Shaped.pack_cells {P : Program} {t : TypeId} {x : List AV} (h : Shaped P t x) : (pack P t x).cells = x := by
  unfold pack
  cases ha : isAggT P t with
  | true => rfl
  | false => obtain ⟨a, rfl, h2⟩ := h.one ha; exact h2

theorem tile {α : Type} (cs : List α) : ∀ (ps : List (Nat × Nat)) (off : Nat), (∀ j p, ps[j]? = some p → p.1 = off + ((ps.take j).map (·.2)).sum) → off + (ps.map (·.2)).sum = cs.length →
    ps.flatMap (fun p => (cs.drop p.1).take p.2) = cs.drop off
  | [], off, h, hs => by simp at hs; simp [hs]
  | p :: ps, off, h, hs => by
    have h0 : p.1 = off := by simpa using h 0 p rfl
    have := tile cs ps (off + p.2) (fun j q hq => by have := h (j + 1) q (by simpa using hq); simpa [Nat.add_assoc] using this) (by simpa [Nat.add_assoc] using hs)
    rw [List.flatMap_cons, this, h0, ← List.drop_drop, List.take_append_drop]
theorem reps_flatten {G : AHeap} {w : World} : ∀ (l : List (List AV)) (cs : List (List Value)), l.length = cs.length → (∀ i (h1 : i < l.length) (h2 : i < cs.length), Reps G w l[i] cs[i]) → Reps G w l.flatten cs.flatten
  | [], [], _, _ => ⟨rfl, fun i h => by simp at h⟩
  | [], _ :: _, h, _ => by simp at h
  | _ :: _, [], h, _ => by simp at h
  | x :: l, c :: cs, h, hr => by
    simp only [List.flatten_cons]
    exact Reps.append (hr 0 (by simp) (by simp)) (reps_flatten l cs (by simpa using h) fun i h1 h2 => hr (i + 1) (Nat.succ_lt_succ h1) (Nat.succ_lt_succ h2))

theorem reps_one {G : AHeap} {w : World} {a : AV} {v : Value} (ha : Rep G w a v) : Reps G w [a] [v] := ⟨rfl, fun i h1 _ => by
  have : i = 0 := by simpa using h1
  subst this; exact ha⟩
theorem mapM_idx {α β : Type} {g : α → Option β} : ∀ {l : List α} {ys : List β}, l.mapM g = some ys → ys.length = l.length ∧ ∀ i (h : i < l.length), ∃ y, ys[i]? = some y ∧ g l[i] = some y
  | [], ys, h => by simp at h; subst h; exact ⟨rfl, fun i h => by simp at h⟩
  | a :: l, ys, h => by
    simp only [List.mapM_cons, Option.bind_eq_bind, Option.bind_eq_some_iff, Option.pure_def, Option.some.injEq] at h
    obtain ⟨y, hy, zs, hz, rfl⟩ := h
    obtain ⟨h1, h2⟩ := mapM_idx hz
    refine ⟨by simp [h1], fun i hi => ?_⟩
    cases i with
    | zero => exact ⟨y, rfl, hy⟩
    | succ i => simpa using h2 i (by simpa using hi)
def Light {H : Type} (P : Program) (t : TypeId) (d : DataW H) : Prop := ∀ n ∈ d.weights P t, n ≤ reachBytes
theorem weightsAll_mem {H : Type} {P : Program} {e : TypeId} : ∀ {ds : List (DataW H)} {i : Nat} {d : DataW H}, ds[i]? = some d → ∀ n ∈ d.weights P e, n ∈ DataW.weightsAll P e ds
  | [], i, d, h => by simp at h
  | x :: ds, 0, d, h => fun n hn => by
    simp at h; subst h
    unfold DataW.weightsAll; exact List.mem_append_left _ hn
  | x :: ds, i + 1, d, h => fun n hn => by
    unfold DataW.weightsAll; exact List.mem_append_right _ (weightsAll_mem (by simpa using h) n hn)
theorem weightsEach_mem {H : Type} {P : Program} : ∀ {ts : List TypeId} {ds : List (DataW H)} {i : Nat} {t : TypeId} {d : DataW H}, ts[i]? = some t → ds[i]? = some d → ∀ n ∈ d.weights P t, n ∈ DataW.weightsEach P ts ds
  | [], _, i, t, d, h, _ => by simp at h
  | _ :: _, [], i, t, d, _, h => by simp at h
  | t' :: ts, x :: ds, 0, t, d, h, h' => fun n hn => by
    simp at h h'; subst h; subst h'
    unfold DataW.weightsEach; exact List.mem_append_left _ hn
  | t' :: ts, x :: ds, i + 1, t, d, h, h' => fun n hn => by
    unfold DataW.weightsEach; exact List.mem_append_right _ (weightsEach_mem (by simpa using h) (by simpa using h') n hn)
theorem choose_list {β : Type} {p : Nat → β → Prop} : ∀ (n : Nat), (∀ i, i < n → ∃ y, p i y) → ∃ l : List β, l.length = n ∧ ∀ i (h : i < l.length), p i l[i]
  | 0, _ => ⟨[], rfl, fun i h => by simp at h⟩
  | n + 1, h => by
    obtain ⟨l, h1, h2⟩ := choose_list n fun i hi => h i (by omega)
    obtain ⟨y, hy⟩ := h n (by omega)
    refine ⟨l ++ [y], by simp [h1], fun i hi => ?_⟩
    rcases Nat.lt_or_ge i l.length with h' | h'
    · rw [List.getElem_append_left h']; exact h2 i h'
    · have : i = l.length := by simp at hi; omega
      subst this
      simp
      rw [h1]; exact hy

def noEmpty (P : Program) : Bool := (List.range P.types.size).all fun t => match P.underlying t with
  | some (.slice e) => Nat.blt 0 (P.cellsOf e)
  | _ => true

section
variable {H : Type} {enc : TypeId × Value → H} {P : Program} {w : World} {sp : Nat → Bool} {held : Bool}
theorem cells_some {a : Addr} {n : Nat} {cs : List Value} (h : w.cells? 0 a n = some cs) : cs.length = n ∧ ∀ j (hj : j < cs.length), w.cell? (a.add j) = some cs[j] := by
  unfold World.cells? at h
  rw [if_pos (Nat.zero_le _)] at h
  have := mapM_idx h
  refine ⟨by simpa using this.1, fun j hj => ?_⟩
  have key : ∀ (l : List Nat) (ys : List Value), l.mapM (fun i => w.cell? (a.add i)) = some ys → ∀ j (h1 : j < l.length) (h2 : j < ys.length), w.cell? (a.add l[j]) = some ys[j] := by
    intro l
    induction l with
    | nil => intro ys _ j h1; simp at h1
    | cons x l ih =>
      intro ys hy j h1 h2
      simp only [List.mapM_cons, Option.bind_eq_bind, Option.bind_eq_some_iff, Option.pure_def, Option.some.injEq] at hy
      obtain ⟨y, hy1, zs, hz, rfl⟩ := hy
      cases j with
      | zero => exact hy1
      | succ j => simpa using ih zs hz j (by simpa using h1) (by simpa using h2)
  have := key _ _ h j (by have := this.1; omega) hj
  simpa using this

theorem shaped_of_trod (hl : laidOutB P = true) (hne : noEmpty P = true) : ∀ (fuel : Nat) (t : TypeId) (cs : List Value) (x : DataW H × List MemPlace), isVar P t = true → DataW.trod enc P w 0 sp held fuel t cs = some x → Light P t x.1 →
    ∃ avs, Reps noHeap w avs cs ∧ Shaped P t avs
  | 0, t, cs, x, _, h, _ => by simp [DataW.trod] at h
  | fuel + 1, t, cs, x, hv, h, hw => by
    have hlt : t < P.types.size := by unfold isVar at hv; simp at hv; exact hv.1
    have hrow := rowFine_of_laidOut hl hlt
    unfold rowFine at hrow
    rw [hv] at hrow
    simp only [Bool.not_true, Bool.false_or] at hrow
    have one : ∀ (a : AV) (v : Value), Rep noHeap w a v → Reps noHeap w [a] [v] := fun a v ha => reps_one ha
    cases ht : P.underlying t with
    | none => simp [DataW.trod, ht] at h
    | some d =>
      cases d with
      | bool =>
        unfold DataW.trod at h; rw [ht] at h
        split at h <;> simp_all
        exact ⟨_, one _ _ (.bool _), .bool _ ht⟩
      | int k =>
        unfold DataW.trod at h; rw [ht] at h
        split at h <;> simp_all
        exact ⟨_, one _ _ (.int _ _), .int _ ht h.1.2⟩
      | string =>
        unfold DataW.trod at h; rw [ht] at h
        split at h <;> simp_all
        refine ⟨_, one _ _ (.str _), .str _ ht ?_⟩
        have h2 := hw
        rw [← h.2] at h2
        have h3 := h2 _ (by unfold DataW.weights; exact List.mem_singleton.2 rfl)
        simpa using h3
      | slice e =>
        rw [ht] at hrow
        simp only [Bool.and_eq_true, beq_iff_eq] at hrow
        have hc0 : 0 < P.cellsOf e := by
          have := List.all_eq_true.1 hne t (by simpa using hlt)
          rw [ht] at this
          simpa [Nat.blt_eq] using this
        unfold DataW.trod at h; rw [ht] at h
        match cs, h with
        | [.slice none 0 0], h => exact ⟨_, one _ _ (.imm0 _ _), .slice [] ht (by simp) (fun x hx => by simp at hx)⟩
        | [.slice (some a) len cap], h =>
          simp only [] at h
          split at h
          · rename_i hcond
            simp only [Option.bind_eq_some_iff, Option.map_eq_some_iff] at h
            obtain ⟨elems, he, rest, _, rfl⟩ := h
            obtain ⟨hel, he⟩ := mapM_idx he
            have hws : ((elems.map (·.1)).length + (rest.map (·.1)).length) * P.bytesOf e ≤ reachBytes ∧ ∀ n ∈ DataW.weightsAll P e (elems.map (·.1)), n ≤ reachBytes := by
              unfold Light DataW.weights at hw
              rw [ht] at hw
              exact ⟨hw _ List.mem_cons_self, fun n hn => hw n (List.mem_cons_of_mem _ (List.mem_append_left _ hn))⟩
            obtain ⟨l, h1, h2⟩ := choose_list (p := fun i (y : List AV × List Value) => w.cells? 0 (a.add (i * P.cellsOf e)) (P.cellsOf e) = some y.2 ∧ Reps noHeap w y.1 y.2 ∧ Shaped P e y.1) len fun i hi => by
              obtain ⟨y, hyi, hy⟩ := he i (by simpa using hi)
              simp only [List.getElem_range, Option.bind_eq_some_iff] at hy
              obtain ⟨ci, hc, ht2⟩ := hy
              obtain ⟨avs, g1, g2⟩ := shaped_of_trod hl hne fuel e ci _ hrow.1 ht2 (fun n hn => hws.2 n (weightsAll_mem (i := i) (d := y.1) (by simp [hyi]) n hn))
              exact ⟨(avs, ci), hc, g1, g2⟩
            have hsh : Shaped P t [.imm ((l.map (·.1)).map (pack P e))] := .slice _ ht (by simp only [List.length_map, h1]; simp only [List.length_map, hel, List.length_range] at hws; exact Nat.le_trans (Nat.mul_le_mul_right _ (Nat.le_add_right _ _)) hws.1) (fun x hx => by
              obtain ⟨y, hy, rfl⟩ := List.mem_map.1 hx
              obtain ⟨i, hi, rfl⟩ := List.getElem_of_mem hy
              exact (h2 i hi).2.2)
            refine ⟨_, one _ _ ?_, hsh⟩
            rcases Nat.eq_zero_or_pos len with h0 | h0
            · subst h0
              obtain rfl : l = [] := List.length_eq_zero_iff.1 h1
              exact .imm0 _ _
            · have hlen : len = ((l.map (·.1)).map (pack P e)).length := by simp [h1]
              have hcl : ∀ i (h : i < l.length), l[i].1.length = P.cellsOf e := fun i hi => by rw [(h2 i hi).2.1.1]; exact (cells_some (h2 i hi).1).1
              rw [hlen]
              refine .imm _ a cap (P.cellsOf e) (fun i j => (w.cell? (a.add (i * P.cellsOf e + j))).getD undef) (by rw [← hlen]; exact hcond.2.1) rfl ?_ (fun i hi => ?_) (fun i j hi hj => ?_) (fun i hi j hj => ?_)
              · have := (cells_some (h2 0 (by omega)).1)
                have hcell := this.2 0 (by rw [this.1]; exact hc0)
                rcases Nat.lt_or_ge a.block w.heap.size with h' | h'
                · exact h'
                · unfold World.cell? at hcell
                  rw [add_block, add_block, Array.getElem?_eq_none h'] at hcell
                  cases hcell
              · have hi' : i < l.length := by simpa using hi
                simp only [List.getElem_map]
                rw [(h2 i hi').2.2.pack_cells]; exact hcl i hi'
              · have hi' : i < l.length := by simpa using hi
                have := cells_some (h2 i hi').1
                have hc := this.2 j (by rw [this.1]; exact hj)
                rw [add_add] at hc
                rw [hc]; rfl
              · have hi' : i < l.length := by simpa using hi
                have hcs := cells_some (h2 i hi').1
                have hpk := (h2 i hi').2.2.pack_cells
                have hj' : j < l[i].1.length := by simp only [List.getElem_map] at hj; rw [hpk] at hj; exact hj
                have hj2 : j < l[i].2.length := by rw [hcs.1]; rw [hcl i hi'] at hj'; exact hj'
                have hc := hcs.2 j hj2
                rw [add_add] at hc
                rw [hc]
                have hr := (h2 i hi').2.1.2 j hj' hj2
                simp only [List.getElem_map, Option.getD_some]
                simpa [hpk] using hr
          · cases h
      | struct fs =>
        rw [ht] at hrow
        simp only [Bool.and_eq_true, beq_iff_eq, List.all_eq_true, List.mem_range] at hrow
        unfold DataW.trod at h; rw [ht] at h
        simp only [] at h
        split at h
        · rename_i hcs
          simp only [Option.map_eq_some_iff] at h
          obtain ⟨xs, hx, rfl⟩ := h
          obtain ⟨_, hx⟩ := mapM_idx hx
          have hws : ∀ n ∈ DataW.weightsEach P (fs.toList.map (·.type)) (xs.map (·.1)), n ≤ reachBytes := by
            unfold Light DataW.weights at hw
            rw [ht] at hw
            exact hw
          obtain ⟨l, h1, h2⟩ := choose_list (p := fun i (y : List AV) => ∀ h : i < fs.toList.length, Reps noHeap w y ((cs.drop fs.toList[i].offset).take (P.cellsOf fs.toList[i].type)) ∧ Shaped P fs.toList[i].type y) fs.toList.length fun i hi => by
            obtain ⟨y, hyi, hy⟩ := hx i hi
            obtain ⟨avs, g1, g2⟩ := shaped_of_trod hl hne fuel _ _ _ (hrow.1.1 _ (List.getElem_mem hi)) hy (fun n hn => hws n (weightsEach_mem (i := i) (t := fs.toList[i].type) (d := y.1) (by rw [List.getElem?_map, List.getElem?_eq_getElem hi]; rfl) (by simp [hyi]) n hn))
            exact ⟨avs, fun _ => ⟨g1, g2⟩⟩
          refine ⟨l.flatten, ?_, .struct l ht (by simpa using h1) (fun i i1 i2 => by
            have e : fs.toList[i]'(by simpa using i2) = fs[i] := Array.getElem_toList _
            rw [← e]; exact (h2 i i1 (by simpa using i2)).2)⟩
          have ht2 := tile cs (fs.toList.map fun f => (f.offset, P.cellsOf f.type)) 0 (fun j p hp => ?_) (by
            rw [hcs, hrow.1.2]; simp [List.map_map, Function.comp_def])
          · rw [List.drop_zero, List.flatMap_map] at ht2
            rw [← ht2, List.flatMap_def]
            exact reps_flatten _ _ (by simp [h1]) fun i i1 i2 => by
              have := (h2 i i1 (by simpa using i2)).1
              simpa using this
          · rw [List.getElem?_map, Option.map_eq_some_iff] at hp
            obtain ⟨f, hf, rfl⟩ := hp
            have hj : j < fs.toList.length := by
              rcases Nat.lt_or_ge j fs.toList.length with h' | h'
              · exact h'
              · rw [List.getElem?_eq_none h'] at hf; cases hf
            have := hrow.2 j hj
            rw [hf] at this
            simp only [beq_iff_eq] at this
            simp only [Nat.zero_add, this, ← List.map_take, List.map_map, Function.comp_def]
        · cases h
      | array n e =>
        rw [ht] at hrow
        simp only [Bool.and_eq_true, beq_iff_eq] at hrow
        unfold DataW.trod at h; rw [ht] at h
        simp only [] at h
        split at h
        · rename_i hcs
          simp only [Option.map_eq_some_iff] at h
          obtain ⟨xs, hx, rfl⟩ := h
          obtain ⟨_, hx⟩ := mapM_idx hx
          have hws : ∀ n ∈ DataW.weightsAll P e (xs.map (·.1)), n ≤ reachBytes := by
            unfold Light DataW.weights at hw
            rw [ht] at hw
            exact hw
          obtain ⟨l, h1, h2⟩ := choose_list (p := fun i (y : List AV) => Reps noHeap w y ((cs.drop (i * P.cellsOf e)).take (P.cellsOf e)) ∧ Shaped P e y) n fun i hi => by
            obtain ⟨y, hyi, hy⟩ := hx i (by simpa using hi)
            simp only [List.getElem_range] at hy
            obtain ⟨avs, g1, g2⟩ := shaped_of_trod hl hne fuel _ _ _ hrow.1 hy (fun n hn => hws n (weightsAll_mem (i := i) (d := y.1) (by simp [hyi]) n hn))
            exact ⟨avs, g1, g2⟩
          refine ⟨l.flatten, ?_, .array l ht h1 (fun x hx => by
            obtain ⟨i, hi, rfl⟩ := List.getElem_of_mem hx
            exact (h2 i hi).2)⟩
          have hsum : ∀ j, j ≤ n → (((List.range n).map fun i => (i * P.cellsOf e, P.cellsOf e)).take j |>.map (·.2)).sum = j * P.cellsOf e := fun j hj => by
            rw [← List.map_take, List.map_map]
            simp only [Function.comp_def, List.map_const', List.sum_replicate_nat, List.length_take, List.length_range]
            rw [Nat.min_eq_left hj]
          have ht2 := tile cs ((List.range n).map fun i => (i * P.cellsOf e, P.cellsOf e)) 0 (fun j p hp => ?_) (by
            have := hsum n (Nat.le_refl _)
            rw [List.take_of_length_le (by simp)] at this
            rw [this, hcs, hrow.2]; simp)
          · rw [List.drop_zero, List.flatMap_map] at ht2
            rw [← ht2, List.flatMap_def]
            exact reps_flatten _ _ (by simp [h1]) fun i i1 i2 => by
              have := (h2 i i1).1
              simpa using this
          · rw [List.getElem?_map, Option.map_eq_some_iff] at hp
            obtain ⟨f, hf, rfl⟩ := hp
            have hj : j < n := by
              rcases Nat.lt_or_ge j n with h' | h'
              · exact h'
              · rw [List.getElem?_eq_none (by simpa using h')] at hf; cases hf
            rw [List.getElem?_range hj] at hf
            cases hf
            rw [hsum _ (by omega)]; simp
        · cases h
      | _ =>
        have : ∃ v, cs = [v] := by
          unfold DataW.trod at h; rw [ht] at h
          split at h <;> first | exact ⟨_, rfl⟩ | simp_all
        obtain ⟨v, rfl⟩ := this
        exact ⟨[.unk], one _ _ (.unk _), .other ht trivial⟩
end
/-- What turns a branch's fact into its plain form, in one. -/
theorem NM : (∀ {p : Prop} [Decidable p], (decide p = true) = p) ∧ (∀ {p : Prop} [Decidable p], decide p = false ↔ ¬ p) ∧ (∀ b : Bool, ((!b) = true) = (b = false)) ∧ (∀ b : Bool, ((!b) = false) = (b = true)) ∧ (∀ {a b : Bool}, (!a) = b ↔ a = !b) ∧ ((!true) = false) ∧ ((!false) = true)
    ∧ (∀ a b : Bool, ((a && b) = true) = (a = true ∧ b = true)) ∧ (∀ a b : Bool, ((a || b) = true) = (a = true ∨ b = true)) ∧ (∀ a b : Bool, (a || b) = false ↔ a = false ∧ b = false) ∧ (∀ {α : Type} [BEq α] [LawfulBEq α] {a b : α}, (a == b) = true ↔ a = b) ∧ (∀ {α : Type} [BEq α] [LawfulBEq α] {a b : α}, (a == b) = false ↔ a ≠ b)
    ∧ (∀ {α : Type} (a b : α), (a ≠ b) = ¬ (a = b)) ∧ (∀ {a b : Int}, ¬ a < b ↔ b ≤ a) ∧ (∀ {a b : Int}, ¬ a ≤ b ↔ b < a) ∧ (∀ {p : Prop} [Decidable p], ¬ ¬ p ↔ p) :=
  ⟨decide_eq_true_eq, decide_eq_false_iff_not, Bool.not_eq_true', Bool.not_eq_false', Bool.not_eq_eq_eq_not, Bool.not_true, Bool.not_false, Bool.and_eq_true, Bool.or_eq_true, fun _ _ => Bool.or_eq_false_iff, beq_iff_eq, beq_eq_false_iff_ne, ne_eq, Int.not_lt, Int.not_le, Decidable.not_not⟩
end Go.Proofs.Ytgedefcjngofkaa.AM

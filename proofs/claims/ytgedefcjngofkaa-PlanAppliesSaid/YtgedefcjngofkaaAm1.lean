/- The abstract machine, part 1: abstract values and heaps, what they say of a world, and how that is kept. -/
import Derived.Tactics
import Derived.OrdersHeld
import Derived.Laws.World
set_option linter.unusedVariables false
set_option linter.unusedSimpArgs false
namespace Go.Proofs.Ytgedefcjngofkaa.AM
open Go

/-- An abstract value. -/
inductive AV where
  | unk
  | int (k : IntKind) (n : Int)
  | bool (b : Bool)
  | str (s : ByteArray)
  | agg (cs : List AV)
  | tup (vs : List AV)
  | imm (l : List AV)
  | nil0
  | own (r sz o n : Nat)
  | ownc (r sz o n c : Nat)
  | nilp
  | box (r off : Nat)
  | elp (b : AV) (i off : Nat)
  | map (r : Nat)
  | nilm
  | fn (f : Fn) (caps : List AV)
  | nilf
  deriving Inhabited

def AV.cells : AV → List AV
  | .agg cs => cs
  | v => [v]

/-- What the abstract heap knows of a block: a variable, a row of elements, or a map. -/
inductive ARow where
  | box (v : AV)
  | row (sz : Nat) (l : List AV)
  | map (es : List (AV × AV))
  | mapb (es : List (AV × AV)) (bs : List Nat) (clk : Nat)
  | iter (m since : Nat) (seen : List Nat) (last : Nat)

def AHeap : Type := Nat → Option ARow
def AHeap.set (G : AHeap) (r : Nat) (x : ARow) : AHeap := fun b => if b = r then some x else G b
def AHeap.del (G : AHeap) (r : Nat) : AHeap := fun b => if b = r then none else G b
def AHeap.sub (H G : AHeap) : Prop := ∀ b x, H b = some x → G b = some x

theorem AHeap.get_set (G : AHeap) (r : Nat) (x : ARow) : (G.set r x) r = some x := by simp [AHeap.set]
theorem AHeap.get_set_ne (G : AHeap) {r b : Nat} (x : ARow) (h : b ≠ r) : (G.set r x) b = G b := by simp [AHeap.set, h]
theorem AHeap.get_del_ne (G : AHeap) {r b : Nat} (h : b ≠ r) : (G.del r) b = G b := by simp [AHeap.del, h]
theorem AHeap.sub_refl (G : AHeap) : G.sub G := fun _ _ h => h
theorem AHeap.sub_trans {G H K : AHeap} (h : G.sub H) (h' : H.sub K) : G.sub K := fun b x hx => h' b x (h b x hx)
theorem AHeap.sub_set {H G : AHeap} {r : Nat} {x : ARow} (h : H.sub G) (hr : G r = none) : H.sub (G.set r x) := fun b y hb => by
  have h1 := h b y hb
  have : b ≠ r := fun e => by subst e; rw [hr] at h1; cases h1
  rw [AHeap.get_set_ne _ _ this]; exact h1
theorem AHeap.del_sub (G : AHeap) (r : Nat) : (G.del r).sub G := fun b x h => by
  unfold AHeap.del at h; split at h
  · cases h
  · exact h
theorem AHeap.ext {G H : AHeap} (h : ∀ b, G b = H b) : G = H := funext h
theorem AHeap.set_set (G : AHeap) (r : Nat) (x y : ARow) : (G.set r x).set r y = G.set r y := AHeap.ext fun b => by
  unfold AHeap.set; split <;> rfl
theorem AHeap.set_same (G : AHeap) (r : Nat) (x : ARow) (h : G r = some x) : G.set r x = G := AHeap.ext fun b => by
  unfold AHeap.set; split
  · rename_i e; rw [e, h]
  · rfl

/-- An abstract value stands for a value. -/
inductive Rep (G : AHeap) (w : World) : AV → Value → Prop
  | unk (v : Value) : Rep G w .unk v
  | int (k : IntKind) (n : Int) : Rep G w (.int k n) (.int k n)
  | bool (b : Bool) : Rep G w (.bool b) (.bool b)
  | str (s : ByteArray) : Rep G w (.str s) (.string s)
  | agg (cs : List AV) (vs : List Value) (hl : cs.length = vs.length)
      (h : ∀ i (h1 : i < cs.length) (h2 : i < vs.length), Rep G w cs[i] vs[i]) : Rep G w (.agg cs) (.agg vs.toArray)
  | tup (cs : List AV) (vs : List Value) (hl : cs.length = vs.length)
      (h : ∀ i (h1 : i < cs.length) (h2 : i < vs.length), Rep G w cs[i] vs[i]) : Rep G w (.tup cs) (.tuple vs.toArray)
  | nil0 (A : Option Addr) : Rep G w .nil0 (.slice A 0 0)
  | imm0 (A : Option Addr) (c : Nat) : Rep G w (.imm []) (.slice A 0 c)
  | imm (l : List AV) (ad : Addr) (c sz : Nat) (u : Nat → Nat → Value) (hc : l.length ≤ c) (hG : G ad.block = none)
      (hb : ad.block < w.heap.size) (hsz : ∀ i (h : i < l.length), l[i].cells.length = sz)
      (hcell : ∀ i j, i < l.length → j < sz → w.cell? (ad.add (i * sz + j)) = some (u i j))
      (hrep : ∀ i (h : i < l.length) j (hj : j < l[i].cells.length), Rep G w (l[i].cells[j]) (u i j)) :
      Rep G w (.imm l) (.slice (some ad) l.length c)
  | own (r sz o n c : Nat) (hc : n ≤ c) (hs : ∃ T N, w.shape? r = some (T, N) ∧ (o + c) * sz ≤ N) :
      Rep G w (.own r sz o n) (.slice (some ⟨r, o * sz, none⟩) n c)
  | ownc (r sz o n c : Nat) (hc : n ≤ c) (hs : ∃ T N, w.shape? r = some (T, N) ∧ (o + c) * sz ≤ N) :
      Rep G w (.ownc r sz o n c) (.slice (some ⟨r, o * sz, none⟩) n c)
  | nilp : Rep G w .nilp (.pointer none)
  | box (r off : Nat) (hb : r < w.heap.size) : Rep G w (.box r off) (.pointer (some ⟨r, off, none⟩))
  | elpI (l : List AV) (k off : Nat) (p : Addr) (u : Nat → Value) (hG : G p.block = none) (hb : p.block < w.heap.size) (hk : k < l.length)
      (hcell : ∀ j, off + j < l[k].cells.length → w.cell? (p.add j) = some (u j))
      (hrep : ∀ j (hj : off + j < l[k].cells.length), Rep G w (l[k].cells[off + j]) (u j)) : Rep G w (.elp (.imm l) k off) (.pointer (some p))
  | elpO (r sz o n k off : Nat) (hb : r < w.heap.size) : Rep G w (.elp (.own r sz o n) k off) (.pointer (some ⟨r, (o + k) * sz + off, none⟩))
  | map (r : Nat) (hb : r < w.heap.size) : Rep G w (.map r) (.map (some r))
  | nilm : Rep G w .nilm (.map none)
  | fn (f : Fn) (cs : List AV) (vs : List Value) (hl : cs.length = vs.length)
      (h : ∀ i (h1 : i < cs.length) (h2 : i < vs.length), Rep G w cs[i] vs[i]) : Rep G w (.fn f cs) (.func f #[] vs.toArray)
  | nilf : Rep G w .nilf .nilFunc

/-- From (G, w) to (G', w') only the old blocks of D may have turned, and none that G does not list. -/
structure Ext (G : AHeap) (w : World) (D : Nat → Prop) (G' : AHeap) (w' : World) : Prop where
  os : w'.os = w.os
  tape : w'.tape = w.tape
  output : w'.output = w.output
  size : w.heap.size ≤ w'.heap.size
  same : ∀ b, b < w.heap.size → ¬ D b → w'.heap[b]? = w.heap[b]?
  shape : ∀ b, b < w.heap.size → w'.shape? b = w.shape? b
  dom : ∀ b, b < w.heap.size → G b = none → G' b = none
  lists : ∀ b, D b → G b ≠ none

theorem Ext.refl (G : AHeap) (w : World) : Ext G w (fun _ => False) G w :=
  ⟨rfl, rfl, rfl, Nat.le_refl _, fun _ _ _ => rfl, fun _ _ => rfl, fun _ _ h => h, fun _ h => h.elim⟩

theorem Ext.weaken {G G' : AHeap} {w w' : World} {D D' : Nat → Prop} (h : Ext G w D G' w') (hD : ∀ b, D b → D' b) (hl : ∀ b, D' b → G b ≠ none) : Ext G w D' G' w' :=
  ⟨h.os, h.tape, h.output, h.size, fun b hb hn => h.same b hb (fun hd => hn (hD b hd)), h.shape, h.dom, hl⟩

theorem Ext.trans {G0 G1 G2 : AHeap} {w0 w1 w2 : World} {D D' : Nat → Prop} (h : Ext G0 w0 D G1 w1) (h' : Ext G1 w1 D' G2 w2)
    (hD : ∀ b, b < w0.heap.size → D' b → D b) : Ext G0 w0 D G2 w2 where
  os := h'.os.trans h.os
  tape := h'.tape.trans h.tape
  output := h'.output.trans h.output
  size := Nat.le_trans h.size h'.size
  same := fun b hb hn => (h'.same b (Nat.lt_of_lt_of_le hb h.size) (fun hd => hn (hD b hb hd))).trans (h.same b hb hn)
  shape := fun b hb => (h'.shape b (Nat.lt_of_lt_of_le hb h.size)).trans (h.shape b hb)
  dom := fun b hb hg => h'.dom b (Nat.lt_of_lt_of_le hb h.size) (h.dom b hb hg)
  lists := h.lists

theorem cell_of_block {w w' : World} {a : Addr} (h : w'.heap[a.block]? = w.heap[a.block]?) : w'.cell? a = w.cell? a := by
  unfold World.cell?; rw [h]

theorem add_block (a : Addr) (n : Nat) : (a.add n).block = a.block := by unfold Addr.add; split <;> rfl
theorem add_add (a : Addr) (m n : Nat) : (a.add m).add n = a.add (m + n) := by
  unfold Addr.add
  by_cases hm : m = 0
  · subst hm; simp
  · by_cases hn : n = 0
    · subst hn; simp [hm]
    · simp [hm, hn, Nat.add_assoc]
theorem add_mk (r o n : Nat) : (⟨r, o, none⟩ : Addr).add n = ⟨r, o + n, none⟩ := by
  unfold Addr.add; split
  · rename_i h; subst h; rfl
  · rfl

theorem Ext.cell {G G' : AHeap} {w w' : World} {D : Nat → Prop} (h : Ext G w D G' w') {a : Addr} (hb : a.block < w.heap.size) (hG : G a.block = none) :
    w'.cell? a = w.cell? a := cell_of_block (h.same _ hb (fun hd => h.lists _ hd hG))

theorem shape_lt {w : World} {r : Nat} {x : TypeId × Nat} (h : w.shape? r = some x) : r < w.heap.size := by
  unfold World.shape? at h
  rcases Nat.lt_or_ge r w.heap.size with h' | h'
  · exact h'
  · simp [Array.getElem?_eq_none h'] at h

theorem Rep.mono {G G' : AHeap} {w w' : World} {D : Nat → Prop} (he : Ext G w D G' w') {a : AV} {v : Value} (h : Rep G w a v) : Rep G' w' a v := by
  induction h with
  | unk v => exact .unk v
  | int k n => exact .int k n
  | bool b => exact .bool b
  | str s => exact .str s
  | agg cs vs hl _ ih => exact .agg cs vs hl ih
  | tup cs vs hl _ ih => exact .tup cs vs hl ih
  | nil0 A => exact .nil0 A
  | imm0 A c => exact .imm0 A c
  | imm l ad c sz u hc hG hb hsz hcell _ ih =>
    refine .imm l ad c sz u hc (he.dom _ hb hG) (Nat.lt_of_lt_of_le hb he.size) hsz (fun i j hi hj => ?_) ih
    rw [he.cell (by rw [add_block]; exact hb) (by rw [add_block]; exact hG)]
    exact hcell i j hi hj
  | own r sz o n c hc hs =>
    obtain ⟨T, N, h1, h2⟩ := hs
    exact .own r sz o n c hc ⟨T, N, (he.shape r (shape_lt h1)).trans h1, h2⟩
  | ownc r sz o n c hc hs =>
    obtain ⟨T, N, h1, h2⟩ := hs
    exact .ownc r sz o n c hc ⟨T, N, (he.shape r (shape_lt h1)).trans h1, h2⟩
  | nilp => exact .nilp
  | box r off hb => exact .box r off (Nat.lt_of_lt_of_le hb he.size)
  | elpI l k off p u hG hb hk hcell _ ih =>
    refine .elpI l k off p u (he.dom _ hb hG) (Nat.lt_of_lt_of_le hb he.size) hk (fun j hj => ?_) ih
    rw [he.cell (by rw [add_block]; exact hb) (by rw [add_block]; exact hG)]
    exact hcell j hj
  | elpO r sz o n k off hb => exact .elpO r sz o n k off (Nat.lt_of_lt_of_le hb he.size)
  | map r hb => exact .map r (Nat.lt_of_lt_of_le hb he.size)
  | nilm => exact .nilm
  | fn f cs vs hl _ ih => exact .fn f cs vs hl ih
  | nilf => exact .nilf

/-- A value's cells stand for its abstract cells. -/
theorem Rep.cells {G : AHeap} {w : World} {a : AV} {v : Value} (h : Rep G w a v) (hu : a ≠ .unk) :
    a.cells.length = v.cells.size ∧ ∀ j (hj : j < a.cells.length) (hj' : j < v.cells.size), Rep G w a.cells[j] v.cells[j] := by
  have one : ∀ (a : AV) (v : Value), a.cells = [a] → v.cells = #[v] → Rep G w a v →
      a.cells.length = v.cells.size ∧ ∀ j (hj : j < a.cells.length) (hj' : j < v.cells.size), Rep G w a.cells[j] v.cells[j] := by
    intro a v ha hv h
    refine ⟨by rw [ha, hv]; rfl, fun j hj hj' => ?_⟩
    have h0 : j = 0 := by rw [ha] at hj; simpa using hj
    subst h0
    simpa [ha, hv] using h
  cases h with
  | unk v => exact absurd rfl hu
  | agg cs vs hl h =>
    refine ⟨by simpa [AV.cells, Value.cells] using hl, fun j hj hj' => ?_⟩
    have h2 : j < vs.length := by simpa [Value.cells] using hj'
    have h1 := h j hj h2
    show Rep G w cs[j] (vs.toArray[j]'(by simpa using h2))
    rw [List.getElem_toArray]
    exact h1
  | _ => exact one _ _ rfl rfl (by constructor <;> assumption)

/-- What is known of a block's row. -/
def RowRep (G : AHeap) (w : World) (b : Nat) : ARow → Prop
  | .box v => ∃ C T, w.heap[b]? = some (.cells C T (0, 0)) ∧ v.cells.length ≤ C.size ∧ ∀ j (h : j < v.cells.length), ∃ u, C[j]? = some u ∧ Rep G w v.cells[j] u
  | .row sz l => ∃ C T, w.heap[b]? = some (.cells C T (0, 0)) ∧ l.length * sz ≤ C.size ∧ (∀ i (h : i < l.length), l[i].cells.length = sz) ∧
      ∀ i (h : i < l.length) j (hj : j < l[i].cells.length), ∃ v, C[i * sz + j]? = some v ∧ Rep G w (l[i].cells[j]) v
  | .map es => ∃ (ents : Array MapEntry) (clock : Nat), w.heap[b]? = some (.map ents clock) ∧ ents.size = es.length ∧
      (∀ i (h : i < es.length) (h' : i < ents.size), Rep G w es[i].1 ents[i].key ∧ Rep G w es[i].2 ents[i].val) ∧
      (∀ i (h : i < ents.size), ents[i].born < clock) ∧ (∀ i j (h : i < ents.size) (h' : j < ents.size), i < j → ents[i].born < ents[j].born)
  | .mapb es bs clk => ∃ (ents : Array MapEntry), w.heap[b]? = some (.map ents clk) ∧ ents.size = es.length ∧
      (∀ i (h : i < es.length) (h' : i < ents.size), Rep G w es[i].1 ents[i].key ∧ Rep G w es[i].2 ents[i].val) ∧ ents.toList.map (·.born) = bs ∧ (∀ x ∈ bs, x < clk) ∧ bs.Pairwise (· < ·)
  | .iter m since seen last => w.heap[b]? = some (.mapIter (some m) since seen.toArray last)

def Sim (G : AHeap) (w : World) : Prop := ∀ b x, G b = some x → RowRep G w b x

theorem RowRep.lt {G : AHeap} {w : World} {b : Nat} {x : ARow} (h : RowRep G w b x) : b < w.heap.size := by
  rcases Nat.lt_or_ge b w.heap.size with h' | h'
  · exact h'
  · cases x with
    | iter m since seen last => exact absurd (show w.heap[b]? = some _ from h) (by rw [Array.getElem?_eq_none h']; simp)
    | mapb es bs clk => obtain ⟨_, h1, _⟩ := h; rw [Array.getElem?_eq_none h'] at h1; cases h1
    | _ => obtain ⟨_, _, h1, _⟩ := h; rw [Array.getElem?_eq_none h'] at h1; cases h1

theorem Sim.lt {G : AHeap} {w : World} (h : Sim G w) {b : Nat} {x : ARow} (hb : G b = some x) : b < w.heap.size := (h b x hb).lt
theorem Sim.none {G : AHeap} {w : World} (h : Sim G w) {b : Nat} (hb : w.heap.size ≤ b) : G b = none := by
  cases hx : G b with
  | none => rfl
  | some x => exact absurd (h.lt hx) (Nat.not_lt.2 hb)

/-- A row whose block has not turned is kept. -/
theorem RowRep.mono {G G' : AHeap} {w w' : World} {D : Nat → Prop} (he : Ext G w D G' w') {b : Nat} {x : ARow} (hb : w'.heap[b]? = w.heap[b]?)
    (h : RowRep G w b x) : RowRep G' w' b x := by
  cases x with
  | box cs =>
    obtain ⟨C, T, h1, h2, h3⟩ := h
    exact ⟨C, T, hb.trans h1, h2, fun j hj => (h3 j hj).imp fun v hv => ⟨hv.1, hv.2.mono he⟩⟩
  | row sz l =>
    obtain ⟨C, T, h1, h2, h3, h4⟩ := h
    exact ⟨C, T, hb.trans h1, h2, h3, fun i hi j hj => (h4 i hi j hj).imp fun v hv => ⟨hv.1, hv.2.mono he⟩⟩
  | map es =>
    obtain ⟨E, k, h1, h2, h3, h4, h5⟩ := h
    exact ⟨E, k, hb.trans h1, h2, fun i hi hi' => ⟨(h3 i hi hi').1.mono he, (h3 i hi hi').2.mono he⟩, h4, h5⟩
  | mapb es bs clk =>
    obtain ⟨E, h1, h2, h3, h4⟩ := h
    exact ⟨E, hb.trans h1, h2, fun i hi hi' => ⟨(h3 i hi hi').1.mono he, (h3 i hi hi').2.mono he⟩, h4⟩
  | iter m since seen last => exact hb.trans h

/-- What is listed may be forgotten. -/
theorem Ext.forget {G G' : AHeap} (w : World) (h : G'.sub G) : Ext G w (fun _ => False) G' w :=
  have key : ∀ b, G b = none → G' b = none := fun b hg => by
    cases hx : G' b with
    | none => rfl
    | some x => have := h b x hx; rw [hg] at this; cases this
  ⟨rfl, rfl, rfl, Nat.le_refl _, fun _ _ _ => rfl, fun _ _ => rfl, fun b _ hg => key b hg, fun _ h => h.elim⟩

theorem Sim.forget {G G' : AHeap} {w : World} (hs : Sim G w) (h : G'.sub G) : Sim G' w := fun b x hx =>
  (hs b x (h b x hx)).mono (Ext.forget w h) rfl

end Go.Proofs.Ytgedefcjngofkaa.AM

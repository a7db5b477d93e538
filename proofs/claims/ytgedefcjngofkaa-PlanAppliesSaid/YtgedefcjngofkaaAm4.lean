/- The abstract machine, part 4: new memory, stores, calls. -/
import Derived.Test.YtgedefcjngofkaaAm3
import Derived.Orders
set_option linter.unusedVariables false
set_option linter.unusedSimpArgs false
namespace Go.Proofs.Ytgedefcjngofkaa.AM
open Go

theorem heap_alloc_new' (w : World) (o : Obj) : (w.alloc o).heap[w.heap.size]? = some o := by unfold World.alloc; exact Array.getElem?_push_size
theorem heap_alloc_old' (w : World) (o : Obj) {b : Nat} (h : b < w.heap.size) : (w.alloc o).heap[b]? = w.heap[b]? := by
  unfold World.alloc
  show (w.heap.push o)[b]? = _
  rw [Array.getElem?_push, if_neg (Nat.ne_of_lt h)]
theorem shape_alloc_old (w : World) (o : Obj) {b : Nat} (h : b < w.heap.size) : (w.alloc o).shape? b = w.shape? b := by
  unfold World.shape?; rw [heap_alloc_old' w o h]

/-- A new block, listed. -/
theorem ext_alloc {G : AHeap} {w : World} (hs : Sim G w) (o : Obj) (x : ARow) : Ext G w (fun _ => False) (G.set w.heap.size x) (w.alloc o) where
  os := rfl
  tape := rfl
  output := rfl
  size := by simp
  same := fun b hb _ => heap_alloc_old' w o hb
  shape := fun b hb => shape_alloc_old w o hb
  dom := fun b hb hg => by rw [AHeap.get_set_ne _ _ (Nat.ne_of_lt hb)]; exact hg
  lists := fun _ h => h.elim
/-- A new block that is not listed. -/
theorem ext_alloc' {G : AHeap} {w : World} (o : Obj) : Ext G w (fun _ => False) G (w.alloc o) where
  os := rfl
  tape := rfl
  output := rfl
  size := by simp
  same := fun b hb _ => heap_alloc_old' w o hb
  shape := fun b hb => shape_alloc_old w o hb
  dom := fun b hb hg => hg
  lists := fun _ h => h.elim
theorem sim_alloc {G : AHeap} {w : World} (hs : Sim G w) (o : Obj) (x : ARow) (hx : RowRep (G.set w.heap.size x) (w.alloc o) w.heap.size x) : Sim (G.set w.heap.size x) (w.alloc o) := fun b y hb => by
  unfold AHeap.set at hb
  split at hb
  · rename_i e; subst e; injection hb with hb; subst hb; exact hx
  · exact (hs b y hb).mono (ext_alloc hs o x) (heap_alloc_old' w o (hs.lt hb))
theorem sim_alloc' {G : AHeap} {w : World} (hs : Sim G w) (o : Obj) : Sim G (w.alloc o) := fun b y hb =>
  (hs b y hb).mono (ext_alloc' o) (heap_alloc_old' w o (hs.lt hb))

theorem ext_drew {G : AHeap} {w : World} : Ext G w (fun _ => False) G w.drew :=
  ⟨rfl, rfl, rfl, Nat.le_refl _, fun _ _ _ => rfl, fun _ _ => rfl, fun _ _ h => h, fun _ h => h.elim⟩
theorem sim_drew {G : AHeap} {w : World} (hs : Sim G w) : Sim G w.drew := fun b y hb => (hs b y hb).mono ext_drew rfl

/-- A row of cells, put in another one's place. -/
theorem ext_setRow {G : AHeap} {w : World} {r : Nat} {C C' : Array Value} {T : TypeId} {y : ARow} (hh : w.heap[r]? = some (.cells C T (0, 0))) (hsz : C'.size = C.size) (hr : G r ≠ none) :
    Ext G w (fun b => b = r) (G.set r y) (w.setRow r C') where
  os := rfl
  tape := rfl
  output := rfl
  size := by simp
  same := fun b hb hn => setRow_other w r b C' hn
  shape := fun b hb => by
    by_cases e : b = r
    · subst e
      unfold World.shape?
      rw [setRow_heap w b C C' T (0, 0) hh, hh]
      simp [hsz]
    · unfold World.shape?
      rw [setRow_other w r b C' e]
  dom := fun b hb hg => by
    have : b ≠ r := fun e => hr (e ▸ hg)
    rw [AHeap.get_set_ne _ _ this]; exact hg
  lists := fun b e => by subst e; exact hr
theorem sim_setRow {G : AHeap} {w : World} {r : Nat} {C C' : Array Value} {T : TypeId} {y : ARow} (hs : Sim G w) (hh : w.heap[r]? = some (.cells C T (0, 0))) (hsz : C'.size = C.size) (hr : G r ≠ none)
    (hy : RowRep (G.set r y) (w.setRow r C') r y) : Sim (G.set r y) (w.setRow r C') := fun b x hb => by
  unfold AHeap.set at hb
  split at hb
  · rename_i e; subst e; injection hb with hb; subst hb; exact hy
  · rename_i e; exact (hs b x hb).mono (ext_setRow hh hsz hr) (setRow_other w r b C' e)

section
variable {md : Bool} {P : Program} {c : Ctx} {env : Env} {G : AHeap} {dst : Option Tmp} {ty : TypeId} {pos : String} {af : Array Edge} {gd : Option (Nat × Bool)} {Q : Exit → Act → World → Prop} {K : Act → World → Prop}

theorem St.fresh {a : Act} {w : World} (hs : St c env G a w) : c.w0.heap.size ≤ w.heap.size := hs.ext.size

/-- A step that leaves the old blocks as they are. -/
def StepS (P : Program) (c : Ctx) (o : Oper) (Q : Exit → Act → World → Prop) (env : Env) (G : AHeap) (K : Act → World → Prop) : Prop :=
  ∀ a w, St c env G a w → o.wp P a w (fun a' w' => Same w w' ∧ K a' w') Q
theorem owp_mono {o : Oper} {a : Act} {w : World} {K K' : Act → World → Prop} (h : ∀ a w, K a w → K' a w) (hh : o.wp P a w K Q) : o.wp P a w K' Q := Oper.wp_mono h hh
theorem StepS.step {o : Oper} (h : StepS P c o Q env G K) : Step P c o Q env G K := fun a w hs => Oper.wp_mono (fun _ _ h => h.2) (h a w hs)
theorem same_alloc (w : World) (o : Obj) : Same w (w.alloc o) := ⟨by simp, fun b hb => heap_alloc_old' w o hb⟩
/-- A new variable. -/
theorem steps_newVar {o : Oper} {d : Nat} {av : AV} (ho : o.dst = some d) (hd : Nat.blt d c.nt = true) (hu : av ≠ .unk)
    (hrun : ∀ a w, St c env G a w → ∃ v T, Rep G w av v ∧ (execOp a.eval o).run P w = .ok (.value (.pointer (some ⟨w.heap.size, 0, none⟩))) (w.alloc (.cells v.cells T)))
    (h : ∀ r, G r = none → c.w0.heap.size ≤ r → Goal c ((d, .box r 0) :: env) (G.set r (.box av)) K) : StepS P c o Q env G K := fun a w hs => by
  obtain ⟨v, T, hr, hrun⟩ := hrun a w hs
  unfold Oper.wp
  rw [hrun, Oper.upon_value, ho]
  have he := ext_alloc hs.sim (.cells v.cells T) (.box av)
  obtain ⟨h1, h2⟩ := hr.cells hu
  have hsim : Sim (G.set w.heap.size (.box av)) (w.alloc (.cells v.cells T)) := sim_alloc hs.sim _ _
    ⟨v.cells, T, heap_alloc_new' w _, by omega, fun j hj => ⟨v.cells[j]'(by omega), by rw [Array.getElem?_eq_getElem], (h2 j hj (by omega)).mono he⟩⟩
  exact ⟨same_alloc w _, h w.heap.size (hs.sim.none (Nat.le_refl _)) hs.fresh _ _ ((hs.move hsim he (fun _ _ h => h.elim)).put hd (.box _ _ (by simp)))⟩

theorem steps_box {T : TypeId} {x : Operand} {d : Nat} {av : AV} (hd : Nat.blt d c.nt = true) (hx : aeval env x = some av) (hu : av ≠ .unk)
    (h : ∀ r, G r = none → c.w0.heap.size ≤ r → Goal c ((d, .box r 0) :: env) (G.set r (.box av)) K) : StepS P c ⟨some d, .box T x, ty, pos, af, gd⟩ Q env G K :=
  steps_newVar rfl hd hu (fun a w hs => ⟨_, T, hs.eval hx, by simp [execOp, Instr.box, newVar, newRow]⟩) h
/-- A zero value, as an abstract one. -/
def zAV : Value → AV
  | .agg cs => .agg (cs.toList.map constAV)
  | v => constAV v
theorem zAV_rep (G : AHeap) (w : World) (v : Value) : Rep G w (zAV v) v := by
  unfold zAV
  split
  · rename_i cs
    have := Rep.agg (G := G) (w := w) (cs.toList.map constAV) cs.toList (by simp) (fun i h1 h2 => by simpa using constAV_rep G w _)
    simpa using this
  · exact constAV_rep ..
theorem steps_alloc {T : TypeId} {dd : TypeDesc} {sz b' : Nat} {zv : Value} {d : Nat} {av : AV} (hT : TyI P T dd sz (some zv) b') (hd : Nat.blt d c.nt = true) (hz : zAV zv = av) (hu : av ≠ .unk)
    (h : ∀ r, G r = none → c.w0.heap.size ≤ r → Goal c ((d, .box r 0) :: env) (G.set r (.box av)) K) : StepS P c ⟨some d, .alloc T, ty, pos, af, gd⟩ Q env G K :=
  steps_newVar rfl hd hu (fun a w hs => ⟨zv, T, hz ▸ zAV_rep G w zv, by simp [execOp, Instr.alloc, newVar, newRow, hT.run_zero]⟩) h

/-! ### A struct's value out of its parts -/
def AV.isUnk : AV → Bool
  | .unk => true
  | _ => false
def afill (place : Nat → Option (Nat × Nat)) (cells : List AV) : List (Nat × AV) → Option (List AV)
  | [] => some cells
  | (i, v) :: rest => match place i with
    | none => none
    | some (off, size) =>
      if v.cells.length = size ∧ off + size ≤ cells.length ∧ v.isUnk = false then afill place (cells.take off ++ v.cells ++ cells.drop (off + size)) rest else none

/-- A list of abstract values stands for a list of values. -/
def Reps (G : AHeap) (w : World) (l : List AV) (vs : List Value) : Prop := l.length = vs.length ∧ ∀ i (h1 : i < l.length) (h2 : i < vs.length), Rep G w l[i] vs[i]
theorem Reps.nil (G : AHeap) (w : World) : Reps G w [] [] := ⟨rfl, fun i h => by simp at h⟩
theorem Reps.cons {G : AHeap} {w : World} {a : AV} {v : Value} {l : List AV} {vs : List Value} (h : Rep G w a v) (hs : Reps G w l vs) : Reps G w (a :: l) (v :: vs) :=
  ⟨by simpa using hs.1, fun i h1 h2 => by
    cases i with
    | zero => exact h
    | succ i => exact hs.2 i (by simpa using h1) (by simpa using h2)⟩
theorem Reps.append {G : AHeap} {w : World} {l m : List AV} {vs us : List Value} (h : Reps G w l vs) (h' : Reps G w m us) : Reps G w (l ++ m) (vs ++ us) := by
  refine ⟨by simp [h.1, h'.1], fun i h1 h2 => ?_⟩
  have hl := h.1
  rcases Nat.lt_or_ge i l.length with hi | hi
  · rw [List.getElem_append_left hi, List.getElem_append_left (by omega)]
    exact h.2 i hi _
  · rw [List.getElem_append_right hi, List.getElem_append_right (by omega)]
    simp only [hl]
    exact h'.2 _ (by simp at h1; omega) (by simp at h2; omega)
theorem Reps.take {G : AHeap} {w : World} {l : List AV} {vs : List Value} (h : Reps G w l vs) (n : Nat) : Reps G w (l.take n) (vs.take n) :=
  ⟨by simp [h.1], fun i h1 h2 => by simpa using h.2 i (by simp at h1; omega) (by simp at h2; omega)⟩
theorem Reps.drop {G : AHeap} {w : World} {l : List AV} {vs : List Value} (h : Reps G w l vs) (n : Nat) : Reps G w (l.drop n) (vs.drop n) :=
  ⟨by simp [h.1], fun i h1 h2 => by simpa using h.2 (n + i) (by simp at h1; omega) (by simp at h2; omega)⟩
theorem Reps.mono {G G' : AHeap} {w w' : World} {D : Nat → Prop} (he : Ext G w D G' w') {l : List AV} {vs : List Value} (h : Reps G w l vs) : Reps G' w' l vs :=
  ⟨h.1, fun i h1 h2 => (h.2 i h1 h2).mono he⟩
theorem Rep.cells' {G : AHeap} {w : World} {a : AV} {v : Value} (h : Rep G w a v) (hu : a.isUnk = false) : Reps G w a.cells v.cells.toList := by
  obtain ⟨h1, h2⟩ := h.cells (by rintro rfl; cases hu)
  exact ⟨by simpa using h1, fun i hi1 hi2 => by simpa using h2 i hi1 (by simpa using hi2)⟩

theorem fold_set (l : List Value) : ∀ (off : Nat) (cs : Array Value), off + l.length ≤ cs.size →
    ((l.toArray.zipIdx).foldl (fun cs (x : Value × Nat) => cs.setIfInBounds (off + x.2) x.1) cs) = (cs.toList.take off ++ l ++ cs.toList.drop (off + l.length)).toArray := by
  have key : ∀ (l : List Value) (k off : Nat) (cs : Array Value), off + k + l.length ≤ cs.size →
      ((l.zipIdx k).foldl (fun cs (x : Value × Nat) => cs.setIfInBounds (off + x.2) x.1) cs) = (cs.toList.take (off + k) ++ l ++ cs.toList.drop (off + k + l.length)).toArray := by
    intro l
    induction l with
    | nil => intro k off cs h; apply Array.ext'; simp
    | cons x l ih =>
      intro k off cs h
      simp only [List.zipIdx_cons, List.foldl_cons]
      rw [ih (k + 1) off _ (by simp at h ⊢; omega)]
      apply Array.ext'
      simp only [Array.toList_setIfInBounds, List.length_cons] at h ⊢
      have h1 : off + k < cs.toList.length := by simp; omega
      have e1 : off + (k + 1) = off + k + 1 := by omega
      have e2 : off + k + 1 + l.length = off + k + (l.length + 1) := by omega
      rw [e1, List.take_set, List.drop_set, if_pos (by omega), List.take_succ_eq_append_getElem h1, e2, List.set_append_right _ _ (by simp; omega), List.append_assoc]
      have : off + k - (List.take (off + k) cs.toList).length = 0 := by simp; omega
      rw [this]
      simp
  intro off cs h
  have := key l 0 off cs (by omega)
  simpa using this

theorem afill_rep {G : AHeap} {w : World} (place : Nat → Option (Nat × Nat)) : ∀ (parts : List (Nat × AV)) (vals : List (Nat × Value)) (cells out : List AV) (vc : Array Value),
    parts.map (·.1) = vals.map (·.1) → Reps G w (parts.map (·.2)) (vals.map (·.2)) → Reps G w cells vc.toList → afill place cells parts = some out →
    ∃ vo, Instr.fill place vc vals = some vo ∧ Reps G w out vo.toList
  | [], [], cells, out, vc, _, _, hc, h => by
    simp only [afill, Option.some.injEq] at h
    subst h
    exact ⟨vc, rfl, hc⟩
  | (i, p) :: parts, (j, v) :: vals, cells, out, vc, hij, hp, hc, h => by
    simp only [List.map_cons, List.cons.injEq] at hij
    obtain ⟨rfl, hij⟩ := hij
    have hr : Rep G w p v := hp.2 0 (by simp) (by simp)
    have hp' : Reps G w (parts.map (·.2)) (vals.map (·.2)) := by simpa using hp.drop 1
    simp only [afill] at h
    cases hpl : place i with
    | none => rw [hpl] at h; cases h
    | some os =>
      obtain ⟨off, size⟩ := os
      rw [hpl] at h
      simp only at h
      split at h
      · rename_i hcond
        obtain ⟨h1, h2, h3⟩ := hcond
        have hcl := hr.cells' h3
        have hvl : v.cells.size = size := by have := hcl.1; simp at this; omega
        have hlc : cells.length = vc.size := by have := hc.1; simpa using this
        have hf := fold_set v.cells.toList off vc (by simp; omega)
        have hd : off + v.cells.toList.length = off + size := by simp; omega
        rw [hd] at hf
        obtain ⟨vo, h4, h5⟩ := afill_rep place parts vals (cells.take off ++ p.cells ++ cells.drop (off + size)) out
          (vc.toList.take off ++ v.cells.toList ++ vc.toList.drop (off + size)).toArray hij hp' (by simpa using ((hc.take off).append hcl).append (hc.drop (off + size))) h
        refine ⟨vo, ?_, h5⟩
        simp only [Instr.fill, hpl]
        rw [if_neg (by simp; omega), ← h4]
        congr 1
      · cases h
  | [], _ :: _, _, _, _, hl, _, _, _ => by simp at hl
  | _ :: _, [], _, _, _, hl, _, _, _ => by simp at hl

/-- The places of a struct's fields: their offsets and sizes. -/
def Places (P : Program) (fs : Array Go.Field) (pl : Array (Nat × Nat)) : Prop :=
  ∀ w, (fs.mapM (m := Sem) fun f => do pure (f.offset, ← sizeOf f.type)).run P w = .ok pl w

theorem eval_list {a : Act} {w : World} (hs : St c env G a w) : ∀ (l : List (Nat × Operand)) (vs : List (Nat × AV)), l.mapM (fun x => (aeval env x.2).map fun v => (x.1, v)) = some vs →
    vs.map (·.1) = (l.map fun x => (x.1, a.eval x.2)).map (·.1) ∧ Reps G w (vs.map (·.2)) ((l.map fun x => (x.1, a.eval x.2)).map (·.2))
  | [], vs, h => by simp at h; subst h; exact ⟨rfl, .nil _ _⟩
  | x :: l, vs, h => by
    simp only [List.mapM_cons, Option.bind_eq_bind, Option.bind_eq_some_iff, Option.pure_def, Option.some.injEq, Option.map_eq_some_iff] at h
    obtain ⟨_, ⟨v, hv, rfl⟩, vs, hvs, rfl⟩ := h
    obtain ⟨h1, h2⟩ := eval_list hs l vs hvs
    exact ⟨by simp [h1], .cons (hs.eval hv) h2⟩

theorem val_build {T : TypeId} {fs : Array Go.Field} {sz b' : Nat} {zv : Value} {parts : Array (Nat × Operand)} {pl : Array (Nat × Nat)} {vs : List (Nat × AV)} {zs cells : List AV}
    (hT : TyI P T (.struct fs) sz (some zv) b') (hpl : Places P fs pl) (hz : zAV zv = .agg zs) (hvs : parts.toList.mapM (fun x => (aeval env x.2).map fun v => (x.1, v)) = some vs)
    (hf : afill (pl[·]?) zs vs = some cells) : ValM md P c ⟨dst, .build T parts, ty, pos, af, gd⟩ env G (.agg cells) := fun a w hs => by
  obtain ⟨h1, h2⟩ := eval_list hs _ _ hvs
  have hzr := zAV_rep G w zv
  rw [hz] at hzr
  have hzc := hzr.cells' rfl
  obtain ⟨vo, h3, h4⟩ := afill_rep (pl[·]?) vs _ zs cells zv.cells h1 h2 hzc hf
  refine ⟨.agg vo, by have := Rep.agg cells vo.toList h4.1 h4.2; simpa using this, fun w' _ => ?_⟩
  have hpw := hpl w'
  simp only [execOp, Instr.build, Sem.run_bind, hT.run_zero, Result.andThen_ok, hT.run_und, hpw]
  have e : (parts.map fun x => (x.1, a.eval x.2)).toList = parts.toList.map fun x => (x.1, a.eval x.2) := by simp
  simp only [e, h3]
  rfl

end

/-! ### Rows as flat lists of cells -/
def flat (l : List AV) : List AV := l.flatMap AV.cells
def Even (sz : Nat) (l : List AV) : Prop := ∀ x ∈ l, x.cells.length = sz
theorem Even.nil (sz : Nat) : Even sz [] := fun x h => by simp at h
theorem Even.cons {sz : Nat} {x : AV} {l : List AV} (h : x.cells.length = sz) (h' : Even sz l) : Even sz (x :: l) := fun y hy => by
  rcases List.mem_cons.1 hy with rfl | hy
  · exact h
  · exact h' y hy
theorem Even.append {sz : Nat} {l m : List AV} (h : Even sz l) (h' : Even sz m) : Even sz (l ++ m) := fun y hy => by
  rcases List.mem_append.1 hy with hy | hy
  · exact h y hy
  · exact h' y hy
theorem Even.map {α : Type} {sz : Nat} (f : α → AV) (hf : ∀ x, (f x).cells.length = sz) (l : List α) : Even sz (l.map f) := fun y hy => by
  obtain ⟨x, _, rfl⟩ := List.mem_map.1 hy; exact hf x
theorem Even.take {sz : Nat} {l : List AV} (h : Even sz l) (n : Nat) : Even sz (l.take n) := fun y hy => h y (List.mem_of_mem_take hy)
theorem Even.drop {sz : Nat} {l : List AV} (h : Even sz l) (n : Nat) : Even sz (l.drop n) := fun y hy => h y (List.mem_of_mem_drop hy)
theorem Even.set {sz : Nat} {l : List AV} (h : Even sz l) (n : Nat) {x : AV} (hx : x.cells.length = sz) : Even sz (l.set n x) := fun y hy => by
  rcases List.mem_or_eq_of_mem_set hy with hy | rfl
  · exact h y hy
  · exact hx
theorem flat_nil : flat [] = [] := rfl
theorem flat_cons (x : AV) (l : List AV) : flat (x :: l) = x.cells ++ flat l := rfl
theorem flat_append (l m : List AV) : flat (l ++ m) = flat l ++ flat m := by simp [flat]
theorem flat_len {sz : Nat} : ∀ {l : List AV}, Even sz l → (flat l).length = l.length * sz
  | [], _ => by simp [flat]
  | x :: l, h => by
    rw [flat_cons, List.length_append, flat_len (fun y hy => h y (by simp [hy])), h x (by simp), List.length_cons, Nat.add_mul]; omega
theorem flat_bound {sz : Nat} {l : List AV} (h : Even sz l) {i : Nat} (hi : i < l.length) {j : Nat} (hj : j < l[i].cells.length) : i * sz + j < l.length * sz := by
  have hs : l[i].cells.length = sz := h _ (List.getElem_mem hi)
  have : (i + 1) * sz ≤ l.length * sz := Nat.mul_le_mul_right _ hi
  rw [Nat.add_mul] at this; omega
theorem flat_get {sz : Nat} : ∀ {l : List AV} (h : Even sz l) (i : Nat) (hi : i < l.length) (j : Nat) (hj : j < l[i].cells.length) (hb : i * sz + j < (flat l).length),
    (flat l)[i * sz + j] = l[i].cells[j]
  | x :: l, h, i, hi, j, hj, hb => by
    have hx : x.cells.length = sz := h x (by simp)
    cases i with
    | zero =>
      simp only [flat_cons, Nat.zero_mul, Nat.zero_add, List.getElem_cons_zero] at hj ⊢
      rw [List.getElem_append_left hj]
    | succ i =>
      have e : (i + 1) * sz + j = x.cells.length + (i * sz + j) := by rw [hx, Nat.add_mul]; omega
      simp only [flat_cons, List.getElem_cons_succ] at hj ⊢
      rw [List.getElem_append_right (by rw [e]; omega)]
      have e2 : (i + 1) * sz + j - x.cells.length = i * sz + j := by rw [e]; omega
      simp only [e2]
      exact flat_get (fun y hy => h y (by simp [hy])) i (by simpa using hi) j hj _
theorem flat_take {sz : Nat} : ∀ {l : List AV} (h : Even sz l) (n : Nat), flat (l.take n) = (flat l).take (n * sz)
  | [], _, n => by simp [flat]
  | x :: l, h, 0 => by simp [flat]
  | x :: l, h, n + 1 => by
    have hx : x.cells.length = sz := h x (by simp)
    rw [List.take_succ_cons, flat_cons, flat_cons, flat_take (fun y hy => h y (by simp [hy])) n, Nat.add_mul, Nat.one_mul, Nat.add_comm (n * sz), ← hx, List.take_length_add_append]
theorem flat_drop {sz : Nat} : ∀ {l : List AV} (h : Even sz l) (n : Nat), flat (l.drop n) = (flat l).drop (n * sz)
  | [], _, n => by simp [flat]
  | x :: l, h, 0 => by simp
  | x :: l, h, n + 1 => by
    have hx : x.cells.length = sz := h x (by simp)
    rw [List.drop_succ_cons, flat_cons, flat_drop (fun y hy => h y (by simp [hy])) n, Nat.add_mul, Nat.one_mul, Nat.add_comm (n * sz), ← hx, List.drop_length_add_append]

/-- A block whose first cells stand for a row's. -/
theorem row_mk {G : AHeap} {w : World} {b sz : Nat} {l : List AV} {C : Array Value} {T : TypeId} {vs rest : List Value} (hh : w.heap[b]? = some (.cells C T (0, 0))) (he : Even sz l)
    (hC : C.toList = vs ++ rest) (hr : Reps G w (flat l) vs) : RowRep G w b (.row sz l) := by
  have hl : vs.length = l.length * sz := by rw [← hr.1, flat_len he]
  have hCs : C.size = vs.length + rest.length := by rw [← Array.length_toList, hC]; simp
  refine ⟨C, T, hh, by omega, fun i h => he _ (List.getElem_mem h), fun i hi j hj => ?_⟩
  have hb := flat_bound he hi hj
  refine ⟨vs[i * sz + j]'(by omega), ?_, ?_⟩
  · rw [← Array.getElem?_toList, hC, List.getElem?_append_left (by omega), List.getElem?_eq_getElem]
  · have := hr.2 (i * sz + j) (by rw [flat_len he]; exact hb) (by omega)
    rwa [flat_get he i hi j hj] at this
theorem row_flat {G : AHeap} {w : World} {b sz : Nat} {l : List AV} (h : RowRep G w b (.row sz l)) : ∃ C T vs rest, w.heap[b]? = some (.cells C T (0, 0)) ∧ Even sz l ∧
    C.toList = vs ++ rest ∧ Reps G w (flat l) vs := by
  obtain ⟨C, T, hh, hl, hsz, hc⟩ := h
  have he : Even sz l := fun x hx => by obtain ⟨i, hi, rfl⟩ := List.getElem_of_mem hx; exact hsz i hi
  refine ⟨C, T, C.toList.take (l.length * sz), C.toList.drop (l.length * sz), hh, he, by simp, ?_, fun k h1 h2 => ?_⟩
  · rw [flat_len he]; simp; omega
  · have hk : k < l.length * sz := by rw [← flat_len he]; exact h1
    have hs0 : 0 < sz := by
      rcases Nat.eq_zero_or_pos sz with h0 | h0
      · subst h0; simp at hk
      · exact h0
    have hi : k / sz < l.length := (Nat.div_lt_iff_lt_mul hs0).2 hk
    have hj : k % sz < l[k / sz].cells.length := by rw [hsz _ hi]; exact Nat.mod_lt _ hs0
    have hkk : k / sz * sz + k % sz = k := by rw [Nat.mul_comm]; exact Nat.div_add_mod k sz
    obtain ⟨v, hv, hr⟩ := hc (k / sz) hi (k % sz) hj
    rw [hkk] at hv
    have h3 := flat_get he (k / sz) hi (k % sz) hj (by rw [hkk]; exact h1)
    simp only [hkk] at h3
    rw [h3]
    have : C.toList[k]? = some v := by rw [Array.getElem?_toList]; exact hv
    have h4 : (C.toList.take (l.length * sz))[k]? = some v := by rw [List.getElem?_take, if_pos hk]; exact this
    rw [List.getElem?_eq_getElem h2] at h4
    injection h4 with h4
    rw [h4]; exact hr

section
variable {md : Bool} {P : Program} {c : Ctx} {env : Env} {G : AHeap} {dst : Option Tmp} {ty : TypeId} {pos : String} {af : Array Edge} {gd : Option (Nat × Bool)} {Q : Exit → Act → World → Prop} {K : Act → World → Prop}

theorem St.newRow {a : Act} {w : World} {d : Nat} {l : List AV} {sz cap : Nat} {C : Array Value} {T : TypeId} {vs rest : List Value} (hs : St c env G a w) (hd : Nat.blt d c.nt = true) (he : Even sz l)
    (hC : C.toList = vs ++ rest) (hr : Reps G w (flat l) vs) (hcap : l.length ≤ cap) (hcs : cap * sz ≤ C.size) :
    St c ((d, .own w.heap.size sz 0 l.length) :: env) (G.set w.heap.size (.row sz l)) (a.put (some d) (.slice (some ⟨w.heap.size, 0, none⟩) l.length cap)) (w.alloc (.cells C T)) := by
  have hx := ext_alloc hs.sim (.cells C T) (.row sz l)
  have hsim : Sim (G.set w.heap.size (.row sz l)) (w.alloc (.cells C T)) := sim_alloc hs.sim _ _ (row_mk (heap_alloc_new' w _) he hC (hr.mono hx))
  refine (hs.move hsim hx (fun _ _ h => h.elim)).put hd ?_
  have := Rep.own (G := G.set w.heap.size (.row sz l)) (w := w.alloc (.cells C T)) w.heap.size sz 0 l.length cap hcap ⟨T, C.size, by unfold World.shape?; rw [heap_alloc_new'], by simpa using hcs⟩
  simpa using this

/-- A new row of elements. -/
theorem step_newRow {o : Oper} {d : Nat} {l : List AV} {sz : Nat} (ho : o.dst = some d) (hd : Nat.blt d c.nt = true) (he : Even sz l)
    (hrun : ∀ a w, St c env G a w → ∃ C T, Reps G w (flat l) C.toList ∧ (execOp a.eval o).run P w = .ok (.value (.slice (some ⟨w.heap.size, 0, none⟩) l.length l.length)) (w.alloc (.cells C T)))
    (h : ∀ r, G r = none → c.w0.heap.size ≤ r → Goal c ((d, .own r sz 0 l.length) :: env) (G.set r (.row sz l)) K) : Step P c o Q env G K := fun a w hs => by
  obtain ⟨C, T, hr, hrun⟩ := hrun a w hs
  unfold Oper.wp
  rw [hrun, Oper.upon_value, ho]
  have hC : C.size = l.length * sz := by have := hr.1; rw [flat_len he] at this; simpa using this.symm
  exact h w.heap.size (hs.sim.none (Nat.le_refl _)) hs.fresh _ _ (hs.newRow hd he (rest := []) (by simp) hr (Nat.le_refl _) (by omega))
end
end Go.Proofs.Ytgedefcjngofkaa.AM

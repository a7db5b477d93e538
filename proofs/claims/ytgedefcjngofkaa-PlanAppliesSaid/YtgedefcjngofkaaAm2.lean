/- The abstract machine, part 2: the state of a call, and the operations that only compute or read. -/
import Derived.Test.YtgedefcjngofkaaAm1
import Derived.Laws.Entries
import Derived.Laws.Cells
import Derived.Laws.Sem
set_option linter.unusedVariables false
set_option linter.unusedSimpArgs false
namespace Go.Proofs.Ytgedefcjngofkaa.AM
open Go

structure Ctx where
  w0 : World
  G0 : AHeap
  D : Nat → Prop
  nt : Nat

abbrev Env := List (Nat × AV)
def Env.get : Env → Nat → Option AV
  | [], _ => none
  | (k, v) :: r, t => match Nat.beq k t with
    | true => some v
    | false => Env.get r t

structure St (c : Ctx) (env : Env) (G : AHeap) (a : Act) (w : World) : Prop where
  sim : Sim G w
  rep : ∀ t v, env.get t = some v → Rep G w v (a.tmps.getD t undef)
  size : a.tmps.size = c.nt
  dfr : a.defers = []
  ext : Ext c.G0 c.w0 c.D G w

/-- Whatever stands for this abstract state has K. -/
def Goal (c : Ctx) (env : Env) (G : AHeap) (K : Act → World → Prop) : Prop := ∀ a w, St c env G a w → K a w

def constAV : Value → AV
  | .int k n => .int k n
  | .bool b => .bool b
  | .string s => .str s
  | .slice _ 0 0 => .nil0
  | .pointer none => .nilp
  | .map none => .nilm
  | .nilFunc => .nilf
  | _ => .unk

theorem constAV_rep (G : AHeap) (w : World) (v : Value) : Rep G w (constAV v) v := by
  cases v with
  | int k n => exact .int ..
  | bool b => exact .bool ..
  | string s => exact .str ..
  | slice A n c =>
    cases n with
    | zero => cases c with
      | zero => exact .nil0 ..
      | succ c => exact .unk _
    | succ n => exact .unk _
  | pointer a => cases a with
    | none => exact .nilp
    | some a => exact .unk _
  | map a => cases a with
    | none => exact .nilm
    | some a => exact .unk _
  | nilFunc => exact .nilf
  | _ => exact .unk _

def aeval (env : Env) : Operand → Option AV
  | .tmp t => env.get t
  | .const v => some (constAV v)
  | .func f => some (.fn (.func f) [])
  | .global _ => none

theorem St.eval {c : Ctx} {env : Env} {G : AHeap} {a : Act} {w : World} (h : St c env G a w) {x : Operand} {v : AV} (hx : aeval env x = some v) : Rep G w v (a.eval x) := by
  cases x with
  | tmp t => exact h.rep t v hx
  | const u => simp only [aeval, Option.some.injEq] at hx; subst hx; exact constAV_rep G w u
  | func f => simp only [aeval, Option.some.injEq] at hx; subst hx; exact .fn (.func f) [] [] rfl (fun i h1 => by simp at h1)
  | global g => simp [aeval] at hx

theorem St.put {c : Ctx} {env : Env} {G : AHeap} {a : Act} {w : World} (h : St c env G a w) {d : Nat} {av : AV} {v : Value} (hd : Nat.blt d c.nt = true) (hv : Rep G w av v) :
    St c ((d, av) :: env) G (a.put (some d) v) w where
  sim := h.sim
  rep := fun t u hu => by
    have hlt : d < a.tmps.size := by rw [h.size]; simpa [Nat.blt_eq] using hd
    simp only [Env.get] at hu
    cases hb : Nat.beq d t with
    | true =>
      have : d = t := Nat.eq_of_beq_eq_true hb
      subst this
      simp only [hb, Option.some.injEq] at hu
      subst hu
      simpa [Act.put, Array.getD, hlt] using hv
    | false =>
      simp only [hb] at hu
      have hne : d ≠ t := fun e => by subst e; rw [Nat.beq_refl] at hb; cases hb
      have := h.rep t u hu
      simpa [Act.put, Array.getElem?_setIfInBounds_ne hne] using this
  size := by simpa [Act.put] using h.size
  dfr := h.dfr
  ext := h.ext

theorem St.put_none {c : Ctx} {env : Env} {G : AHeap} {a : Act} {w : World} (h : St c env G a w) (v : Value) : St c env G (a.put none v) w := h

theorem St.env {c : Ctx} {env env' : Env} {G : AHeap} {a : Act} {w : World} (h : St c env G a w) (he : ∀ t v, env'.get t = some v → env.get t = some v) : St c env' G a w :=
  ⟨h.sim, fun t v hv => h.rep t v (he t v hv), h.size, h.dfr, h.ext⟩

/-- From one world to the next, the temporaries as they are. -/
theorem St.move {c : Ctx} {env : Env} {G G' : AHeap} {a : Act} {w w' : World} {D : Nat → Prop} (h : St c env G a w) (hs : Sim G' w') (he : Ext G w D G' w')
    (hD : ∀ b, b < c.w0.heap.size → D b → c.D b) : St c env G' a w' :=
  ⟨hs, fun t v hv => (h.rep t v hv).mono he, h.size, h.dfr, h.ext.trans he hD⟩

theorem St.forget {c : Ctx} {env : Env} {G G' : AHeap} {a : Act} {w : World} (h : St c env G a w) (hs : G'.sub G) : St c env G' a w :=
  h.move (h.sim.forget hs) (Ext.forget w hs) (fun _ _ h => h.elim)

/-- Only the temporaries of ts are kept in sight. -/
def Env.keep (env : Env) : List Nat → Env
  | [] => []
  | t :: ts => match env.get t with
    | some v => (t, v) :: Env.keep env ts
    | none => Env.keep env ts
theorem Env.keep_get (env : Env) (ts : List Nat) (t : Nat) (v : AV) (h : (env.keep ts).get t = some v) : env.get t = some v := by
  induction ts with
  | nil => simp [Env.keep, Env.get] at h
  | cons x xs ih =>
    simp only [Env.keep] at h
    cases hx : env.get x with
    | none => rw [hx] at h; exact ih h
    | some u =>
      rw [hx] at h
      simp only [Env.get] at h
      cases hb : Nat.beq x t with
      | true => rw [hb] at h; rw [← Nat.eq_of_beq_eq_true hb, hx]; exact h
      | false => rw [hb] at h; exact ih h
theorem Goal.keep {c : Ctx} {env env' : Env} {G : AHeap} {K : Act → World → Prop} (ts : List Nat) (he : env.keep ts = env') (h : Goal c env' G K) : Goal c env G K :=
  fun a w hs => h a w (hs.env fun t v hv => Env.keep_get env ts t v (he ▸ hv))
theorem Goal.forget {c : Ctx} {env : Env} {G G' : AHeap} {K : Act → World → Prop} (hs : G'.sub G) (h : Goal c env G' K) : Goal c env G K := fun a w h' => h a w (h'.forget hs)

/-- The worlds that hold all old blocks as they are. -/
def Same (w w' : World) : Prop := w.heap.size ≤ w'.heap.size ∧ ∀ b, b < w.heap.size → w'.heap[b]? = w.heap[b]?
theorem Same.refl (w : World) : Same w w := ⟨Nat.le_refl _, fun _ _ => rfl⟩
theorem Same.trans {w w' w'' : World} (h : Same w w') (h' : Same w' w'') : Same w w'' := ⟨Nat.le_trans h.1 h'.1, fun b hb => (h'.2 b (Nat.lt_of_lt_of_le hb h.1)).trans (h.2 b hb)⟩
theorem Same.cell {w w' : World} (h : Same w w') {a : Addr} {v : Value} (hc : w.cell? a = some v) : w'.cell? a = some v := by
  have hb : a.block < w.heap.size := by
    rcases Nat.lt_or_ge a.block w.heap.size with h' | h'
    · exact h'
    · unfold World.cell? at hc; simp [Array.getElem?_eq_none h'] at hc
  rw [cell_of_block (h.2 _ hb)]; exact hc

/-- An operation that yields a value that av stands for, whatever is done beside it (m: while the old blocks stay as they are), and changes nothing. -/
def ValM (m : Bool) (P : Program) (c : Ctx) (o : Oper) (env : Env) (G : AHeap) (av : AV) : Prop :=
  ∀ a w, St c env G a w → ∃ v, Rep G w av v ∧ ∀ w', (m = true → Same w w') → (execOp a.eval o).run P w' = .ok (.value v) w'
abbrev Val (P : Program) (c : Ctx) (o : Oper) (env : Env) (G : AHeap) (av : AV) : Prop := ValM true P c o env G av

/-- An operation behind which K holds. -/
def Step (P : Program) (c : Ctx) (o : Oper) (Q : Exit → Act → World → Prop) (env : Env) (G : AHeap) (K : Act → World → Prop) : Prop :=
  ∀ a w, St c env G a w → o.wp P a w K Q

theorem Step.val {P : Program} {c : Ctx} {o : Oper} {Q : Exit → Act → World → Prop} {env : Env} {G : AHeap} {K : Act → World → Prop} {d : Nat} {av : AV}
    (hv : Val P c o env G av) (ho : o.dst = some d) (hd : Nat.blt d c.nt = true) (h : Goal c ((d, av) :: env) G K) : Step P c o Q env G K := fun a w hs => by
  obtain ⟨v, hr, hrun⟩ := hv a w hs
  unfold Oper.wp
  rw [hrun w (fun _ => Same.refl w), Oper.upon_value, ho]
  exact h _ _ (hs.put hd hr)
theorem Step.val_none {P : Program} {c : Ctx} {o : Oper} {Q : Exit → Act → World → Prop} {env : Env} {G : AHeap} {K : Act → World → Prop} {av : AV}
    (hv : Val P c o env G av) (ho : o.dst = none) (h : Goal c env G K) : Step P c o Q env G K := fun a w hs => by
  obtain ⟨v, hr, hrun⟩ := hv a w hs
  unfold Oper.wp
  rw [hrun w (fun _ => Same.refl w), Oper.upon_value, ho]
  exact h _ _ hs

theorem Goal.step {P : Program} {c : Ctx} {ops : Array Oper} {o : Oper} {rest : List Oper} {Q : Exit → Act → World → Prop} {env : Env} {G : AHeap}
    (hg : o.guard = none) (h : Step P c o Q env G (wpList P ops Q rest)) : Goal c env G (wpList P ops Q (o :: rest)) := fun a w hs => by
  unfold wpList
  rw [if_pos (by simp [Region.wanted, hg])]
  exact .inl (h a w hs)

theorem yielded_of {c : Ctx} {ops : Array Oper} {env : Env} {G : AHeap} {a : Act} {w : World} (hs : St c env G a w) {j t : Nat} {b : Bool}
    (hj : (ops[j]?).bind (·.dst) = some t) (ht : env.get t = some (.bool b)) (hlt : Nat.blt t c.nt = true) : yielded ops a.tmps j = some b := by
  have h1 := hs.rep t _ ht
  have h2 : t < a.tmps.size := by rw [hs.size]; simpa [Nat.blt_eq] using hlt
  unfold yielded
  rw [hj]
  simp only [Option.bind_some]
  simp only [Array.getD, h2, dif_pos] at h1
  rw [Array.getElem?_eq_getElem h2]
  cases hv : a.tmps[t] <;> rw [Array.getInternal_eq_getElem, hv] at h1 <;> cases h1
  rfl

theorem rep_undef (G : AHeap) (w : World) : Rep G w (.tup []) undef := .tup [] [] rfl (fun i h => by simp at h)
theorem yielded_und {c : Ctx} {ops : Array Oper} {env : Env} {G : AHeap} {a : Act} {w : World} (hs : St c env G a w) {j t : Nat}
    (hj : (ops[j]?).bind (·.dst) = some t) (ht : env.get t = some (.tup [])) (hlt : Nat.blt t c.nt = true) : yielded ops a.tmps j = none := by
  have h1 := hs.rep t _ ht
  have h2 : t < a.tmps.size := by rw [hs.size]; simpa [Nat.blt_eq] using hlt
  unfold yielded
  rw [hj]
  simp only [Option.bind_some]
  simp only [Array.getD, h2, dif_pos] at h1
  rw [Array.getElem?_eq_getElem h2]
  cases hv : a.tmps[t] <;> rw [Array.getInternal_eq_getElem, hv] at h1 <;> cases h1
theorem Goal.step_und {P : Program} {c : Ctx} {ops : Array Oper} {o : Oper} {rest : List Oper} {Q : Exit → Act → World → Prop} {env : Env} {G : AHeap} {j t d : Nat} {b : Bool}
    (hg : o.guard = some (j, b)) (hj : (ops[j]?).bind (·.dst) = some t) (ht : env.get t = some (.tup [])) (hlt : Nat.blt t c.nt = true)
    (ho : o.dst = some d) (hd : Nat.blt d c.nt = true)
    (h : Goal c ((d, .tup []) :: env) G (wpList P ops Q rest)) : Goal c env G (wpList P ops Q (o :: rest)) := fun a w hs => by
  unfold wpList
  rw [if_neg (by simp [Region.wanted, hg, yielded_und hs hj ht hlt]), ho]
  exact h _ _ (hs.put hd (rep_undef _ _))
theorem Goal.step_yes {P : Program} {c : Ctx} {ops : Array Oper} {o : Oper} {rest : List Oper} {Q : Exit → Act → World → Prop} {env : Env} {G : AHeap} {j t : Nat} {b : Bool}
    (hg : o.guard = some (j, b)) (hj : (ops[j]?).bind (·.dst) = some t) (ht : env.get t = some (.bool b)) (hlt : Nat.blt t c.nt = true)
    (h : Step P c o Q env G (wpList P ops Q rest)) : Goal c env G (wpList P ops Q (o :: rest)) := fun a w hs => by
  unfold wpList
  rw [if_pos (by simp [Region.wanted, hg, yielded_of hs hj ht hlt])]
  exact .inl (h a w hs)
theorem Goal.step_no {P : Program} {c : Ctx} {ops : Array Oper} {o : Oper} {rest : List Oper} {Q : Exit → Act → World → Prop} {env : Env} {G : AHeap} {j t d : Nat} {b b' : Bool}
    (hg : o.guard = some (j, b)) (hj : (ops[j]?).bind (·.dst) = some t) (ht : env.get t = some (.bool b')) (hb : (b' == b) = false) (hlt : Nat.blt t c.nt = true)
    (ho : o.dst = some d) (hd : Nat.blt d c.nt = true)
    (h : Goal c ((d, .tup []) :: env) G (wpList P ops Q rest)) : Goal c env G (wpList P ops Q (o :: rest)) := fun a w hs => by
  unfold wpList
  rw [if_neg (by simp only [Region.wanted, hg, yielded_of hs hj ht hlt]; simpa using hb), ho]
  exact h _ _ (hs.put hd (rep_undef _ _))
theorem Goal.step_no_none {P : Program} {c : Ctx} {ops : Array Oper} {o : Oper} {rest : List Oper} {Q : Exit → Act → World → Prop} {env : Env} {G : AHeap} {j t : Nat} {b b' : Bool}
    (hg : o.guard = some (j, b)) (hj : (ops[j]?).bind (·.dst) = some t) (ht : env.get t = some (.bool b')) (hb : (b' == b) = false) (hlt : Nat.blt t c.nt = true)
    (ho : o.dst = none)
    (h : Goal c env G (wpList P ops Q rest)) : Goal c env G (wpList P ops Q (o :: rest)) := fun a w hs => by
  unfold wpList
  rw [if_neg (by simp only [Region.wanted, hg, yielded_of hs hj ht hlt]; simpa using hb), ho]
  exact h _ _ hs

/-- A Bool in a temporary: true, or false. -/
theorem Goal.split {c : Ctx} {env : Env} {G : AHeap} {K : Act → World → Prop} {b : Bool} (t : Nat) (ht : env.get t = some (.bool b))
    (h1 : b = true → Goal c ((t, .bool true) :: env) G K) (h2 : b = false → Goal c ((t, .bool false) :: env) G K) : Goal c env G K := fun a w hs => by
  have key : ∀ b', b = b' → St c ((t, .bool b') :: env) G a w := fun b' e => hs.env fun t' v hv => by
    simp only [Env.get] at hv
    cases hb : Nat.beq t t' with
    | true => rw [hb] at hv; rw [← Nat.eq_of_beq_eq_true hb, ht, e]; exact hv
    | false => rw [hb] at hv; exact hv
  cases b with
  | true => exact h1 rfl a w (key true rfl)
  | false => exact h2 rfl a w (key false rfl)

/-! ### What the program knows of a type -/
structure TyI (P : Program) (T : TypeId) (d : TypeDesc) (sz : Nat) (z : Option Value) (by_ : Nat) : Prop where
  und : P.underlying T = some d
  info : (P.info? T).map (fun i => (i.size, i.zero, i.bytes)) = some (sz, z, by_)

section
variable {P : Program} {T : TypeId} {d : TypeDesc} {sz by_ : Nat} {z : Option Value}
theorem TyI.run_und (h : TyI P T d sz z by_) (w : World) : (underlying T).run P w = .ok d w := run_underlying h.und w
theorem TyI.run_info (h : TyI P T d sz z by_) (w : World) : ∃ i, (typeInfo T).run P w = .ok i w ∧ P.info? T = some i ∧ i.size = sz ∧ i.zero = z ∧ i.bytes = by_ := by
  have h1 := h.info
  cases hi : P.info? T with
  | none => rw [hi] at h1; cases h1
  | some i =>
    rw [hi] at h1
    simp only [Option.map_some, Option.some.injEq, Prod.mk.injEq] at h1
    exact ⟨i, by simp [typeInfo, hi], rfl, h1.1, h1.2.1, h1.2.2⟩
theorem TyI.run_size (h : TyI P T d sz z by_) (w : World) : (sizeOf T).run P w = .ok sz w := by
  obtain ⟨i, h1, _, h2, _⟩ := h.run_info w
  simp [sizeOf, h1, h2]
theorem TyI.run_zero {zv : Value} (h : TyI P T d sz (some zv) by_) (w : World) : (zeroValue T).run P w = .ok zv w := by
  obtain ⟨i, h1, _, _, h2, _⟩ := h.run_info w
  simp [zeroValue, h1, h2]
def aggDesc : TypeDesc → Bool
  | .struct _ | .array _ _ => true
  | _ => false
theorem TyI.run_isAgg (h : TyI P T d sz z by_) (w : World) : (isAgg T).run P w = .ok (aggDesc d) w := by
  unfold isAgg aggDesc
  simp only [Sem.run_bind, h.run_und, Result.andThen_ok]
  cases d <;> rfl
theorem TyI.run_loadVar_agg (h : TyI P T d sz z by_) (hd : aggDesc d = true) {w : World} {p : Addr} (cs : List Value) (hl : cs.length = sz)
    (hc : ∀ j v, cs[j]? = some v → w.cell? (p.add j) = some v) : (loadVar T p).run P w = .ok (.agg cs.toArray) w := by
  have := run_loadCells_list (P := P) w p cs hc
  rw [hl] at this
  simp [loadVar, h.run_isAgg, hd, h.run_size, this]
theorem TyI.run_loadVar_one (h : TyI P T d sz z by_) (hd : aggDesc d = false) {w : World} {p : Addr} {v : Value} (hc : w.cell? p = some v) : (loadVar T p).run P w = .ok v w := by
  simp [loadVar, h.run_isAgg, hd, hc]
end

/-! ### What a slice shows, and the cells behind a pointer -/
def AV.view (G : AHeap) : AV → Option (List AV)
  | .imm l => some l
  | .nil0 => some []
  | .own r sz o n => match G r with
    | some (.row s l) => if s = sz ∧ o + n ≤ l.length then some ((l.drop o).take n) else none
    | _ => none
  | _ => none

theorem AV.view_own {G : AHeap} {r sz o n : Nat} {l : List AV} (h : G r = some (.row sz l)) (hl : o + n ≤ l.length) : (AV.own r sz o n).view G = some ((l.drop o).take n) := by
  simp [AV.view, h, hl]
theorem AV.view_own_all {G : AHeap} {r sz n : Nat} {l : List AV} (h : G r = some (.row sz l)) (hl : n = l.length) : (AV.own r sz 0 n).view G = some l := by
  subst hl; rw [AV.view_own h (by omega)]; simp

/-- A slice that shows l: a value of that length, whose cells are read at its address. -/
theorem view_rep {G : AHeap} {w : World} {av : AV} {v : Value} {l : List AV} (hs : Sim G w) (h : Rep G w av v) (hv : av.view G = some l) :
    ∃ A n c, v = .slice A n c ∧ n = l.length ∧ n ≤ c ∨ (v = .slice A 0 c ∧ l = [] ∧ n = 0) := by
  cases h with
  | nil0 A => simp only [AV.view, Option.some.injEq] at hv; exact ⟨A, 0, 0, .inr ⟨rfl, hv.symm, rfl⟩⟩
  | imm0 A c => simp only [AV.view, Option.some.injEq] at hv; exact ⟨A, 0, c, .inr ⟨rfl, hv.symm, rfl⟩⟩
  | imm l' ad c sz u hc hG hb hsz hcell hrep => simp only [AV.view, Option.some.injEq] at hv; subst hv; exact ⟨some ad, l'.length, c, .inl ⟨rfl, rfl, hc⟩⟩
  | own r sz o n c hc hsh =>
    simp only [AV.view] at hv
    split at hv
    · split at hv
      · rename_i h1
        injection hv with hv
        exact ⟨_, n, c, .inl ⟨rfl, by rw [← hv]; simp; omega, hc⟩⟩
      · cases hv
    · cases hv
  | _ => simp [AV.view] at hv

theorem view_len {G : AHeap} {w : World} {av : AV} {v : Value} {l : List AV} (hs : Sim G w) (h : Rep G w av v) (hv : av.view G = some l) :
    ∃ A c, v = .slice A l.length c := by
  obtain ⟨A, n, c, h | h⟩ := view_rep hs h hv
  · exact ⟨A, c, by rw [h.1, h.2.1]⟩
  · exact ⟨A, c, by rw [h.1, h.2.1]; rfl⟩

/-- The element k of a slice that shows l: where it lies. -/
theorem view_at {G : AHeap} {w : World} {av : AV} {v : Value} {l : List AV} (hs : Sim G w) (h : Rep G w av v) (hv : av.view G = some l) {k : Nat} (hk : k < l.length) :
    ∃ ad c, v = .slice (some ad) l.length c ∧ Rep G w (.elp av k 0) (.pointer (some (ad.add (k * l[k].cells.length)))) ∧
      ∀ j (hj : j < l[k].cells.length), ∃ u, w.cell? ((ad.add (k * l[k].cells.length)).add j) = some u ∧ Rep G w l[k].cells[j] u := by
  cases h with
  | nil0 A => simp only [AV.view, Option.some.injEq] at hv; subst hv; simp at hk
  | imm0 A c => simp only [AV.view, Option.some.injEq] at hv; subst hv; simp at hk
  | imm l' ad c sz u hc hG hb hsz hcell hrep =>
    simp only [AV.view, Option.some.injEq] at hv
    subst hv
    have e := hsz k hk
    refine ⟨ad, c, rfl, .elpI l' k 0 _ (u k) (by rw [add_block]; exact hG) (by rw [add_block]; exact hb) hk (fun j hj => ?_) (fun j hj => ?_), fun j hj => ⟨u k j, ?_, hrep k hk j hj⟩⟩
    · rw [add_add, e]; exact hcell k j hk (by omega)
    · have := hrep k hk j (by omega); simpa using this
    · rw [add_add, e]; exact hcell k j hk (by omega)
  | own r sz o n c hc hsh =>
    simp only [AV.view] at hv
    split at hv
    · rename_i s l0 hr
      split at hv
      · rename_i h1
        obtain ⟨h1, h2⟩ := h1
        subst h1
        injection hv with hv
        subst hv
        have hkn : k < n := by simp at hk; omega
        have hel : ((l0.drop o).take n)[k] = l0[o + k]'(by omega) := by simp
        obtain ⟨C, T, hb, hsz, hall, hc2⟩ := hs r _ hr
        have e : ((l0.drop o).take n)[k].cells.length = s := by rw [hel]; exact hall (o + k) (by omega)
        have ha : (⟨r, o * s, none⟩ : Addr).add (k * s) = ⟨r, (o + k) * s, none⟩ := by rw [add_mk, Nat.add_mul]
        refine ⟨⟨r, o * s, none⟩, c, ?_, ?_, fun j hj => ?_⟩
        · congr 1; simp; omega
        · rw [e, ha]; exact .elpO r s o n k 0 (by exact (shape_lt hsh.choose_spec.choose_spec.1))
        · have hj' : j < (l0[o + k]'(by omega)).cells.length := by rw [← hel]; exact hj
          obtain ⟨u, hu1, hu2⟩ := hc2 (o + k) (by omega) j hj'
          refine ⟨u, ?_, by simp only [hel]; exact hu2⟩
          rw [e, ha, add_mk]
          simp [World.cell?, hb, hu1]
      · cases hv
    · cases hv
  | _ => simp [AV.view] at hv

def AV.pcells (G : AHeap) : AV → Option (List AV)
  | .box r off => match G r with
    | some (.box v) => if off ≤ v.cells.length then some (v.cells.drop off) else none
    | _ => none
  | .elp b k off => match b.view G with
    | some l => match l[k]? with
      | some e => if off ≤ e.cells.length then some (e.cells.drop off) else none
      | none => none
    | none => none
  | _ => none

theorem pcells_rep {G : AHeap} {w : World} {av : AV} {v : Value} {cs : List AV} (hs : Sim G w) (h : Rep G w av v) (hv : av.pcells G = some cs) :
    ∃ p, v = .pointer (some p) ∧ ∀ j (hj : j < cs.length), ∃ u, w.cell? (p.add j) = some u ∧ Rep G w cs[j] u := by
  cases h with
  | box r off hb =>
    simp only [AV.pcells] at hv
    split at hv
    · rename_i x hr
      split at hv
      · injection hv with hv
        subst hv
        refine ⟨_, rfl, fun j hj => ?_⟩
        obtain ⟨C, T, h1, h2, h3⟩ := hs r _ hr
        have hj' : off + j < x.cells.length := by simp at hj; omega
        obtain ⟨u, hu, hr'⟩ := h3 (off + j) hj'
        refine ⟨u, ?_, by simpa using hr'⟩
        rw [add_mk]
        simp [World.cell?, h1, hu]
      · cases hv
    · cases hv
  | elpI l k off p u hG hb hk hcell hrep =>
    simp only [AV.pcells, AV.view] at hv
    rw [List.getElem?_eq_getElem hk] at hv
    simp only at hv
    split at hv
    · injection hv with hv
      subst hv
      refine ⟨p, rfl, fun j hj => ⟨u j, hcell j (by simp at hj; omega), ?_⟩⟩
      have := hrep j (by simp at hj; omega)
      simpa using this
    · cases hv
  | elpO r sz o n k off hb =>
    simp only [AV.pcells, AV.view] at hv
    split at hv
    · rename_i l hl
      split at hl
      · rename_i s l0 hr
        split at hl
        · rename_i h1
          obtain ⟨h1, h2⟩ := h1
          subst h1
          injection hl with hl
          subst hl
          split at hv
          · rename_i e he
            split at hv
            · injection hv with hv
              subst hv
              have hkn : k < n := by
                rcases Nat.lt_or_ge k n with h' | h'
                · exact h'
                · rw [List.getElem?_eq_none (by simp; omega)] at he; cases he
              have he' : l0[o + k]'(by omega) = e := by
                rw [List.getElem?_eq_getElem (by simp; omega)] at he
                injection he with he
                rw [← he]; simp
              obtain ⟨C, T, hb, hsz, hall, hc2⟩ := hs r _ hr
              refine ⟨_, rfl, fun j hj => ?_⟩
              have hj' : off + j < (l0[o + k]'(by omega)).cells.length := by rw [he']; simp at hj; omega
              obtain ⟨u, hu1, hu2⟩ := hc2 (o + k) (by omega) (off + j) hj'
              refine ⟨u, ?_, by simpa [he'] using hu2⟩
              rw [add_mk]
              simp [World.cell?, hb, Nat.add_assoc, hu1]
            · cases hv
          · cases hv
        · cases hl
      · cases hl
    · cases hv
  | _ => simp [AV.pcells] at hv

/-! ### The operations -/
section
variable {md : Bool} {P : Program} {c : Ctx} {env : Env} {G : AHeap} {dst : Option Tmp} {ty : TypeId} {pos : String} {af : Array Edge} {gd : Option (Nat × Bool)}

theorem val_move {x : Operand} {av : AV} (hx : aeval env x = some av) : ValM md P c ⟨dst, .move x, ty, pos, af, gd⟩ env G av := fun a w hs =>
  ⟨_, hs.eval hx, fun w' _ => rfl⟩
theorem val_assign {x : Operand} {av : AV} (hx : aeval env x = some av) : ValM md P c ⟨dst, .assign x, ty, pos, af, gd⟩ env G av := fun a w hs =>
  ⟨_, hs.eval hx, fun w' _ => rfl⟩

theorem rep_bool {w : World} {b : Bool} {v : Value} (h : Rep G w (.bool b) v) : v = .bool b := by cases h; rfl
theorem rep_int {w : World} {k : IntKind} {n : Int} {v : Value} (h : Rep G w (.int k n) v) : v = .int k n := by cases h; rfl
theorem rep_str {w : World} {s : ByteArray} {v : Value} (h : Rep G w (.str s) v) : v = .string s := by cases h; rfl

theorem val_pick_t {x y z : Operand} {av : AV} (hx : aeval env x = some (.bool true)) (hy : aeval env y = some av) : ValM md P c ⟨dst, .pick x y z, ty, pos, af, gd⟩ env G av := fun a w hs => by
  refine ⟨_, hs.eval hy, fun w' _ => ?_⟩
  simp [execOp, rep_bool (hs.eval hx), asBool]
theorem val_pick_f {x y z : Operand} {av : AV} (hx : aeval env x = some (.bool false)) (hz : aeval env z = some av) : ValM md P c ⟨dst, .pick x y z, ty, pos, af, gd⟩ env G av := fun a w hs => by
  refine ⟨_, hs.eval hz, fun w' _ => ?_⟩
  simp [execOp, rep_bool (hs.eval hx), asBool]

/-- A read of one cell. -/
theorem val_load {T : TypeId} {d : TypeDesc} {sz by_ : Nat} {z : Option Value} {x : Operand} {p av : AV} {cs : List AV} (hT : TyI P T d sz z by_) (hd : aggDesc d = false) (hx : aeval env x = some p)
    (hc : p.pcells G = some (av :: cs)) : Val P c ⟨dst, .load T x, ty, pos, af, gd⟩ env G av := fun a w hs => by
  obtain ⟨q, hq, hcell⟩ := pcells_rep hs.sim (hs.eval hx) hc
  obtain ⟨u, hu, hr⟩ := hcell 0 (by simp)
  refine ⟨u, hr, fun w' hw => ?_⟩
  have h0 : q.add 0 = q := rfl
  rw [h0] at hu
  simp [execOp, hq, Instr.loadAt, Instr.sureAddr, hT.run_loadVar_one hd ((hw rfl).cell hu)]

theorem load_agg {T : TypeId} {d : TypeDesc} {sz by_ : Nat} {z : Option Value} {x : Operand} {p : AV} {cs cs' : List AV} (hT : TyI P T d sz z by_) (hd : aggDesc d = true) (hx : aeval env x = some p)
    (hc : p.pcells G = some cs') (hl : cs.length = sz) (he : cs'.take sz = cs) : Val P c ⟨dst, .load T x, ty, pos, af, gd⟩ env G (.agg cs) := fun a w hs => by
  obtain ⟨q, hq, hcell⟩ := pcells_rep hs.sim (hs.eval hx) hc
  have hlen : sz ≤ cs'.length := by have := congrArg List.length he; simp at this; omega
  have hu : ∀ j, ∃ u, ∀ (hj : j < cs.length), w.cell? (q.add j) = some u ∧ Rep G w cs[j] u := fun j => by
    by_cases hj : j < cs.length
    · obtain ⟨u, h1, h2⟩ := hcell j (by omega)
      exact ⟨u, fun _ => ⟨h1, by simpa [← he] using h2⟩⟩
    · exact ⟨undef, fun h => absurd h hj⟩
  obtain ⟨u, hu⟩ := Classical.axiomOfChoice hu
  have hgl : ((List.range sz).map u).length = sz := by simp
  refine ⟨.agg ((List.range sz).map u).toArray, .agg cs _ (by rw [hgl, hl]) (fun i h1 h2 => by simpa using (hu i h1).2), fun w' hw => ?_⟩
  have := hT.run_loadVar_agg (w := w') hd (p := q) ((List.range sz).map u) hgl (fun j v hj => by
    have hj' : j < sz := by
      rcases Nat.lt_or_ge j sz with h' | h'
      · exact h'
      · rw [List.getElem?_eq_none (by simp; omega)] at hj; cases hj
    simp [hj'] at hj
    subst hj
    exact (hw rfl).cell (hu j (by omega)).1)
  simp [execOp, hq, Instr.loadAt, Instr.sureAddr, this]
/-- A read of some cells of a struct. -/
theorem val_load_agg {T : TypeId} {d : TypeDesc} {sz by_ : Nat} {z : Option Value} {x : Operand} {p : AV} {cs cs' : List AV} (hT : TyI P T d sz z by_) (hd : aggDesc d = true) (hx : aeval env x = some p)
    (hc : p.pcells G = some cs') (he : cs'.take sz = cs) (hl : cs.length = sz) : Val P c ⟨dst, .load T x, ty, pos, af, gd⟩ env G (.agg cs) := load_agg hT hd hx hc hl he

def AV.isAgg : AV → Bool
  | .agg _ => true
  | _ => false
theorem agg_of {e : AV} (h : e.isAgg = true) : ∃ cs, e = .agg cs := by cases e <;> first | exact ⟨_, rfl⟩ | cases h
/-- A read of a whole variable. -/
theorem val_load_box {T : TypeId} {d : TypeDesc} {sz by_ : Nat} {z : Option Value} {x : Operand} {r : Nat} {e : AV} (hT : TyI P T d sz z by_) (hd : aggDesc d = true) (hx : aeval env x = some (.box r 0))
    (hG : G r = some (.box e)) (ha : e.isAgg = true) (hl : e.cells.length = sz) : Val P c ⟨dst, .load T x, ty, pos, af, gd⟩ env G e := by
  obtain ⟨cs, rfl⟩ := agg_of ha
  exact load_agg hT hd hx (cs' := cs) (by simp [AV.pcells, hG, AV.cells]) hl (by rw [← hl]; simp [AV.cells])
/-- A read of a whole element. -/
theorem val_load_elt {T : TypeId} {d : TypeDesc} {sz by_ : Nat} {z : Option Value} {x : Operand} {b e : AV} {k : Nat} {l : List AV} (hT : TyI P T d sz z by_) (hd : aggDesc d = true) (hx : aeval env x = some (.elp b k 0))
    (hv : b.view G = some l) (he : l[k]? = some e) (ha : e.isAgg = true) (hl : e.cells.length = sz) : Val P c ⟨dst, .load T x, ty, pos, af, gd⟩ env G e := by
  obtain ⟨cs, rfl⟩ := agg_of ha
  exact load_agg hT hd hx (cs' := cs) (by simp [AV.pcells, hv, he, AV.cells]) hl (by rw [← hl]; simp [AV.cells])

/-- The element of a slice. -/
theorem val_indexAddr {T E : TypeId} {d : TypeDesc} {sz by_ s b' : Nat} {z z' : Option Value} {x y : Operand} {b e : AV} {l : List AV} {kd : IntKind} {n : Int} {k : Nat} (hT : TyI P T (.slice E) s z' b') (hE : TyI P E d sz z by_)
    (hx : aeval env x = some b) (hy : aeval env y = some (.int kd n)) (hv : b.view G = some l) (hn : n = (k : Int)) (he : l[k]? = some e) (hl : e.cells.length = sz) :
    ValM md P c ⟨dst, .indexAddr T x y, ty, pos, af, gd⟩ env G (.elp b k 0) := fun a w hs => by
  have hk : k < l.length := by
    rcases Nat.lt_or_ge k l.length with h' | h'
    · exact h'
    · rw [List.getElem?_eq_none h'] at he; cases he
  have hek : l[k] = e := by rw [List.getElem?_eq_getElem hk] at he; exact Option.some.inj he
  obtain ⟨ad, cp, h1, h2, _⟩ := view_at hs.sim (hs.eval hx) hv hk
  refine ⟨_, h2, fun w' _ => ?_⟩
  rw [hek, hl]
  simp only [execOp, h1, rep_int (hs.eval hy), Instr.indexAt, asIntOf, Sem.run_bind, Sem.run_pure, Result.andThen_ok, hT.run_und]
  subst hn
  have h0 : (0 : Int) ≤ (k : Int) ∧ (k : Int) < (l.length : Int) := by omega
  rw [if_pos h0]
  simp [hE.run_size]

theorem run_fieldPlace {fld : Go.Field} {d : TypeDesc} {sz by_ : Nat} {z : Option Value} (hF : TyI P fld.type d (sz + 1) z by_) (p : Addr) (w : World) : (fieldPlace p fld).run P w = .ok (p.add fld.offset) w := by
  simp [fieldPlace, hF.run_size]
theorem run_fieldAt {S f o FT : Nat} {fs : Array Go.Field} {d : TypeDesc} {sz by_ s b' : Nat} {z z' : Option Value} (hS : TyI P S (.struct fs) s z' b') (hf : (fs[f]?).map (fun x => (x.offset, x.type)) = some (o, FT)) (hF : TyI P FT d (sz + 1) z by_) (p : Addr) (w : World) :
    (Instr.fieldAt S (.pointer (some p)) f).run P w = .ok (.pointer (some (p.add o))) w := by
  cases hx : fs[f]? with
  | none => rw [hx] at hf; cases hf
  | some fld =>
    rw [hx] at hf
    simp only [Option.map_some, Option.some.injEq, Prod.mk.injEq] at hf
    obtain ⟨rfl, rfl⟩ := hf
    simp [Instr.fieldAt, hS.run_und, hx, Instr.sureAddr, run_fieldPlace hF]

theorem val_fieldAddr_box {S : TypeId} {fs : Array Go.Field} {sz by_ s b' : Nat} {z z' : Option Value} {x : Operand} {r off f o FT : Nat} {d : TypeDesc} (hS : TyI P S (.struct fs) s z' b') (hf : (fs[f]?).map (fun x => (x.offset, x.type)) = some (o, FT))
    (hF : TyI P FT d (sz + 1) z by_) (hx : aeval env x = some (.box r off)) :
    ValM md P c ⟨dst, .fieldAddr S x f, ty, pos, af, gd⟩ env G (.box r (off + o)) := fun a w hs => by
  have hr := hs.eval hx
  generalize hu : a.eval x = u at hr
  cases hr with
  | box _ _ hb =>
    refine ⟨.pointer (some ⟨r, off + o, none⟩), .box r _ hb, fun w' _ => ?_⟩
    simp [execOp, hu, run_fieldAt hS hf hF, add_mk]

theorem val_fieldAddr_elp {S : TypeId} {fs : Array Go.Field} {sz by_ s b' : Nat} {z z' : Option Value} {x : Operand} {b : AV} {k off f o FT : Nat} {d : TypeDesc} (hS : TyI P S (.struct fs) s z' b') (hf : (fs[f]?).map (fun x => (x.offset, x.type)) = some (o, FT))
    (hF : TyI P FT d (sz + 1) z by_) (hx : aeval env x = some (.elp b k off)) :
    ValM md P c ⟨dst, .fieldAddr S x f, ty, pos, af, gd⟩ env G (.elp b k (off + o)) := fun a w hs => by
  have hr := hs.eval hx
  generalize hu : a.eval x = u at hr
  cases hr with
  | elpI l _ _ p u' hG hb hk hcell hrep =>
    refine ⟨.pointer (some (p.add o)), .elpI l k _ _ (fun j => u' (o + j)) (by rw [add_block]; exact hG) (by rw [add_block]; exact hb) hk (fun j hj => ?_) (fun j hj => ?_), fun w' _ => ?_⟩
    · rw [add_add]; exact hcell _ (by omega)
    · have := hrep (o + j) (by omega)
      simpa [Nat.add_assoc] using this
    · simp [execOp, hu, run_fieldAt hS hf hF]
  | elpO r sz' o' n _ _ hb =>
    refine ⟨.pointer (some ⟨r, (o' + k) * sz' + (off + o), none⟩), .elpO r sz' o' n k _ hb, fun w' _ => ?_⟩
    simp [execOp, hu, run_fieldAt hS hf hF, add_mk, Nat.add_assoc]
end
end Go.Proofs.Ytgedefcjngofkaa.AM

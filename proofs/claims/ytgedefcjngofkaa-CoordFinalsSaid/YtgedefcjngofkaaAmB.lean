/- The abstract machine: arguments, slices, maps, libraries. -/
import Derived.Test.YtgedefcjngofkaaAmA
import Derived.WideShapes
import Derived.Below
import Derived.Laws.StructEq
import Derived.Lib.AppendZerosOnto
import Derived.Lib.Overlaps
import Derived.Laws.BytesString
import Derived.Laws.IdiomRangeMap
import Derived.Sort.EveryDepth
import Derived.Shelf.Sort.AssemblyIn
import Derived.Laws.AppendOwn
/- The abstract machine, part 13: a row's arguments as abstract values; what such values are, type by type; a law's call. -/
set_option linter.unusedVariables false
set_option linter.unusedSimpArgs false
namespace Go.Proofs.Ytgedefcjngofkaa.AM
open Go

section
variable {P : Program}

theorem okWide_one {w : World} {r : Reach} {base : Nat} {t : TypeId} {v : Value} (h : Value.okWide P w r base t v) (ha : isAggT P t = false) : v.cells = #[v] := by
  cases ht : P.underlying t with
  | none => simp [Value.okWide, ht, Cell.okWide, Cell.ok] at h
  | some d =>
    cases v with
    | agg cs =>
      exfalso
      cases d <;> simp [isAggT, ht, aggDesc] at ha <;> simp [Value.okWide, ht, Cell.okWide, Cell.ok] at h
    | _ => rfl
theorem okWide_agg {w : World} {r : Reach} {base : Nat} {t : TypeId} {v : Value} (h : Value.okWide P w r base t v) (ha : isAggT P t = true) : ∃ cs, v = .agg cs := by
  cases ht : P.underlying t with
  | none => simp [isAggT, ht] at ha
  | some d =>
    cases d <;> simp [isAggT, ht, aggDesc] at ha
    all_goals
      simp only [Value.okWide, ht] at h
      obtain ⟨cs, h, _⟩ := h
      exact ⟨cs, h⟩
/-- An argument. -/
theorem arg_rep {H : Type} {enc : TypeId × Value → H} {w : World} {sp : Nat → Bool} {held : Bool} {r : Reach} {base : Nat} {t : TypeId} {v : Value} {d : DataW H} {ps : List MemPlace} (hl : laidOutB P = true) (hne : noEmpty P = true) (hv : isVar P t = true)
    (h : DataW.Trod enc P w 0 sp held t v d ps) (hok : Value.okWide P w r base t v) (hw : Light P t d) : ∃ avs, Shaped P t avs ∧ Rep noHeap w (pack P t avs) v := by
  obtain ⟨fuel, hf⟩ := h
  obtain ⟨avs, h1, h2⟩ := shaped_of_trod hl hne fuel t _ _ hv hf hw
  refine ⟨avs, h2, ?_⟩
  unfold pack
  cases ha : isAggT P t with
  | false =>
    rw [okWide_one hok ha] at h1
    obtain ⟨a, rfl, _⟩ := h2.one ha
    exact h1.2 0 (by simp) (by simp)
  | true =>
    obtain ⟨cs, rfl⟩ := okWide_agg hok ha
    have e : (Value.agg cs).cells.toList = cs.toList := rfl
    rw [e] at h1
    have := Rep.agg avs cs.toList h1.1 h1.2
    simpa using this

theorem TyI.bytesOf_eq {t : TypeId} {d : TypeDesc} {sz b : Nat} {z : Option Value} (h : TyI P t d sz z b) : P.bytesOf t = b := by
  have h1 := h.info
  unfold Program.bytesOf
  cases hi : P.info? t with
  | none => rw [hi] at h1; cases h1
  | some i => rw [hi] at h1; simp only [Option.map_some, Option.some.injEq, Prod.mk.injEq] at h1; simp [h1.2.2]
theorem reach_len {t : TypeId} {d : TypeDesc} {sz b n : Nat} {z : Option Value} (hT : TyI P t d sz z b) (h : n * P.bytesOf t ≤ reachBytes) : n * b ≤ 140737488351232 := by
  rw [hT.bytesOf_eq] at h; exact h
theorem pack_one {t : TypeId} {d : TypeDesc} {sz b : Nat} {z : Option Value} (h : TyI P t d sz z b) (hd : aggDesc d = false) (x : List AV) : pack P t x = x.headD .unk := by
  simp only [pack, isAggT, h.und, hd]
theorem pack_agg {t : TypeId} {d : TypeDesc} {sz b : Nat} {z : Option Value} (h : TyI P t d sz z b) (hd : aggDesc d = true) (x : List AV) : pack P t x = .agg x := by
  simp only [pack, isAggT, h.und, hd]

theorem shaped_int {t : TypeId} {k : IntKind} {sz b : Nat} {z : Option Value} {x : List AV} (h : TyI P t (.int k) sz z b) (hx : Shaped P t x) : ∃ n, x = [.int k n] ∧ k.min ≤ n ∧ n ≤ k.max := by
  have hu := h.und
  cases hx with
  | int n ht hw =>
    rw [hu] at ht; cases ht
    exact ⟨n, rfl, by simpa [Lit.wf] using hw⟩
  | other ht hd => rw [hu] at ht; cases ht; exact hd.elim
  | bool _ ht | str _ ht _ | slice _ ht _ _ | struct _ ht _ _ | array _ ht _ _ => rw [hu] at ht; cases ht
theorem shaped_bool {t : TypeId} {sz b : Nat} {z : Option Value} {x : List AV} (h : TyI P t .bool sz z b) (hx : Shaped P t x) : ∃ v, x = [.bool v] := by
  have hu := h.und
  cases hx with
  | bool n ht => exact ⟨n, rfl⟩
  | other ht hd => rw [hu] at ht; cases ht; exact hd.elim
  | int _ ht _ | str _ ht _ | slice _ ht _ _ | struct _ ht _ _ | array _ ht _ _ => rw [hu] at ht; cases ht
theorem shaped_str {t : TypeId} {sz b : Nat} {z : Option Value} {x : List AV} (h : TyI P t .string sz z b) (hx : Shaped P t x) : ∃ s, x = [.str s] ∧ s.size ≤ reachBytes := by
  have hu := h.und
  cases hx with
  | str s ht hs => exact ⟨s, rfl, hs⟩
  | other ht hd => rw [hu] at ht; cases ht; exact hd.elim
  | int _ ht _ | bool _ ht | slice _ ht _ _ | struct _ ht _ _ | array _ ht _ _ => rw [hu] at ht; cases ht
theorem shaped_slice {t e : TypeId} {sz b : Nat} {z : Option Value} {x : List AV} (h : TyI P t (.slice e) sz z b) (hx : Shaped P t x) : ∃ l : List (List AV), x = [.imm (l.map (pack P e))] ∧ l.length * P.bytesOf e ≤ reachBytes ∧ ∀ y ∈ l, Shaped P e y := by
  have hu := h.und
  cases hx with
  | slice l ht hl hs => rw [hu] at ht; cases ht; exact ⟨l, rfl, hl, hs⟩
  | other ht hd => rw [hu] at ht; cases ht; exact hd.elim
  | int _ ht _ | bool _ ht | str _ ht _ | struct _ ht _ _ | array _ ht _ _ => rw [hu] at ht; cases ht
/-- A list, its elements told. -/
theorem shaped_list {t e : TypeId} {sz b : Nat} {z : Option Value} {x : List AV} {α : Type} (en : α → AV) (good : α → Prop) (h : TyI P t (.slice e) sz z b) (hx : Shaped P t x) (he : ∀ y, Shaped P e y → ∃ a, pack P e y = en a ∧ good a) :
    ∃ l : List α, x = [.imm (l.map en)] ∧ l.length * P.bytesOf e ≤ reachBytes ∧ ∀ y ∈ l, good y := by
  obtain ⟨l, rfl, hl, hs⟩ := shaped_slice h hx
  have key : ∀ l : List (List AV), (∀ y ∈ l, Shaped P e y) → ∃ l' : List α, l.map (pack P e) = l'.map en ∧ l'.length = l.length ∧ ∀ y ∈ l', good y := by
    intro l
    induction l with
    | nil => exact fun _ => ⟨[], rfl, rfl, fun y hy => by cases hy⟩
    | cons y l ih =>
      intro hs
      obtain ⟨l', h1, h2, h3⟩ := ih fun z hz => hs z (List.mem_cons_of_mem _ hz)
      obtain ⟨a, h4, h5⟩ := he y (hs y List.mem_cons_self)
      exact ⟨a :: l', by simp [h1, h4], by simp [h2], fun z hz => by
        rcases List.mem_cons.1 hz with rfl | hz
        · exact h5
        · exact h3 z hz⟩
  obtain ⟨l', h1, h2, h3⟩ := key l hs
  exact ⟨l', by rw [h1], by rw [h2]; exact hl, h3⟩
def ShapedAll (P : Program) : List TypeId → List (List AV) → Prop
  | [], [] => True
  | t :: ts, x :: l => Shaped P t x ∧ ShapedAll P ts l
  | _, _ => False
theorem shapedAll_of : ∀ (ts : List TypeId) (l : List (List AV)), l.length = ts.length → (∀ i (h1 : i < l.length) (h2 : i < ts.length), Shaped P ts[i] l[i]) → ShapedAll P ts l
  | [], [], _, _ => trivial
  | [], _ :: _, h, _ => by simp at h
  | _ :: _, [], h, _ => by simp at h
  | t :: ts, x :: l, h, hr => ⟨hr 0 (by simp) (by simp), shapedAll_of ts l (by simpa using h) fun i h1 h2 => hr (i + 1) (Nat.succ_lt_succ h1) (Nat.succ_lt_succ h2)⟩
theorem shaped_struct {t : TypeId} {fs : Array Field} {sz b : Nat} {z : Option Value} {x : List AV} {ts : List TypeId} (h : TyI P t (.struct fs) sz z b) (hts : fs.toList.map (·.type) = ts) (hx : Shaped P t x) : ∃ l, x = l.flatten ∧ ShapedAll P ts l := by
  have hu := h.und
  subst hts
  cases hx with
  | struct l ht hl hs =>
    rw [hu] at ht; cases ht
    refine ⟨l, rfl, shapedAll_of _ _ (by simpa using hl) fun i h1 h2 => ?_⟩
    simpa using hs i h1 (by simpa using h2)
  | other ht hd => rw [hu] at ht; cases ht; exact hd.elim
  | int _ ht _ | bool _ ht | str _ ht _ | slice _ ht _ _ | array _ ht _ _ => rw [hu] at ht; cases ht
theorem shaped_array {t e : TypeId} {n : Nat} {sz b : Nat} {z : Option Value} {x : List AV} (h : TyI P t (.array n e) sz z b) (hx : Shaped P t x) : ∃ l : List (List AV), x = l.flatten ∧ l.length = n ∧ ∀ y ∈ l, Shaped P e y := by
  have hu := h.und
  cases hx with
  | array l ht hl hs => rw [hu] at ht; cases ht; exact ⟨l, rfl, hl, hs⟩
  | other ht hd => rw [hu] at ht; cases ht; exact hd.elim
  | int _ ht _ | bool _ ht | str _ ht _ | slice _ ht _ _ | struct _ ht _ _ => rw [hu] at ht; cases ht

/-- A law's call. -/
theorem law_calls {f : FuncId} {args : List AV} {vs : List Value} {w : World} (h : PCalls P f args noHeap (fun r => r = .bool true)) (hv : Reps noHeap w args vs) :
    Calls P f vs.toArray w fun e w' => e = .returned (.bool true) ∧ RowKit.Below w.heap.size w w' := by
  refine ((h noHeap (AHeap.sub_refl _)).2 w vs (fun b x hb => by cases hb) hv).mono ?_
  rintro e w' ⟨v, r, G', rfl, ⟨effs, ⟨_, rfl⟩, _, _⟩, hr, _, he⟩
  cases hr
  exact ⟨rfl, he.os, he.tape, he.output, he.size, fun k hk => he.same k hk (fun h => h)⟩
theorem reps_cons {w : World} {G : AHeap} {a : AV} {v : Value} {l : List AV} {vs : List Value} (h : Rep G w a v) (hl : Reps G w l vs) : Reps G w (a :: l) (v :: vs) := Reps.cons h hl
theorem reps_nil {w : World} {G : AHeap} : Reps G w [] [] := Reps.nil _ _
end
end Go.Proofs.Ytgedefcjngofkaa.AM

/- The abstract machine, part 14: slices of slices and of strings. -/
set_option linter.unusedVariables false
set_option linter.unusedSimpArgs false
namespace Go.Proofs.Ytgedefcjngofkaa.AM
open Go

def aevb (env : Env) (dflt : Int) : Option Operand → Option Int
  | none => some dflt
  | some x => match aeval env x with
    | some (.int _ n) => some n
    | _ => none
def evb (env : Env) (L : LPtr) (dflt : Int) : Option Operand → Option Int
  | none => some dflt
  | some x => match ev env L x with
    | some (.int _ n) => some n
    | _ => none
theorem evb_full {ρ : Nat → Nat} {env : Env} {L : LPtr} {dflt n : Int} {x : Option Operand} (h : evb env L dflt x = some n) : aevb (full ρ env L) dflt x = some n := by
  cases x with
  | none => exact h
  | some x =>
    simp only [evb] at h
    simp only [aevb]
    split at h <;> try cases h
    rename_i hx
    rw [ev_full hx]

section
variable {md : Bool} {P : Program} {c : Ctx} {env : Env} {L : LPtr} {B : Env} {G : AHeap} {dst : Option Tmp} {ty : TypeId} {pos : String} {af : Array Edge} {gd : Option (Nat × Bool)}

theorem run_bounds {a : Act} {w : World} (hs : St c env G a w) {low high : Option Operand} {len cap lo hi : Nat} {m1 m2 : Int} {iss : Bool} (hlo : aevb env 0 low = some m1) (hhi : aevb env (len : Int) high = some m2)
    (h1 : m1 = (lo : Int)) (h2 : m2 = (hi : Int)) (hle : lo ≤ hi) (hc : hi ≤ cap) (w' : World) :
    (Instr.sliceBounds iss len cap (low.map a.eval) (high.map a.eval) none).run P w' = .ok (lo, hi, cap) w' := by
  subst h1; subst h2
  have hb : ∀ (x : Operand) (n y : Nat) (code : BoundsCode) (k : IntKind), aeval env x = some (.int k (n : Int)) → n ≤ y → (Instr.sliceBound (a.eval x) y code).run P w' = .ok n w' := by
    intro x n y code k hx hn
    rw [rep_int (hs.eval hx)]
    have h0 : (0 : Int) ≤ (n : Int) ∧ (n : Int) ≤ (y : Int) := by omega
    simp only [Instr.sliceBound, asIntOf, Sem.run_bind, Sem.run_pure, Result.andThen_ok, if_pos h0, Int.toNat_natCast]
  have key : ∀ (x : Option Operand) (d : Int) (n : Nat), aevb env d x = some (n : Int) → (∃ y k, x = some y ∧ aeval env y = some (.int k (n : Int))) ∨ (x = none ∧ d = (n : Int)) := by
    intro x d n h
    cases x with
    | none => exact .inr ⟨rfl, by simpa [aevb] using h⟩
    | some y =>
      simp only [aevb] at h
      split at h <;> try cases h
      rename_i k hx
      exact .inl ⟨y, k, rfl, hx⟩
  unfold Instr.sliceBounds
  rcases key high _ hi hhi with ⟨y, k, rfl, hy⟩ | ⟨rfl, hh⟩ <;> rcases key low _ lo hlo with ⟨y', k', rfl, hy'⟩ | ⟨rfl, hl⟩
  · simp only [Option.map_some, Sem.run_bind, Sem.run_pure, Result.andThen_ok, hb y hi cap _ k hy hc, Option.isSome_none, hb y' lo hi _ k' hy' hle]
  · have : lo = 0 := by omega
    subst this
    simp only [Option.map_some, Option.map_none, Sem.run_bind, Sem.run_pure, Result.andThen_ok, hb y hi cap _ k hy hc]
  · have : hi = len := by omega
    subst this
    simp only [Option.map_some, Option.map_none, Sem.run_bind, Sem.run_pure, Result.andThen_ok, Option.isSome_none, Bool.false_eq_true, if_false, hb y' lo hi _ k' hy' hle]
  · have e1 : hi = len := by omega
    have e2 : lo = 0 := by omega
    subst e1; subst e2
    simp only [Option.map_none, Sem.run_bind, Sem.run_pure, Result.andThen_ok]

theorem val_slice_imm {T E : TypeId} {d : TypeDesc} {sz by_ s b' lo hi : Nat} {z z' : Option Value} {x : Operand} {low high : Option Operand} {l : List AV} {m1 m2 : Int} (hT : TyI P T (.slice E) s z' b') (hE : TyI P E d sz z by_)
    (hx : aeval env x = some (.imm l)) (hlo : aevb env 0 low = some m1) (hhi : aevb env (l.length : Int) high = some m2) (h1 : m1 = (lo : Int)) (h2 : m2 = (hi : Int)) (hle : lo ≤ hi) (hc : hi ≤ l.length) (hev : Even sz l) :
    ValM md P c ⟨dst, .slice T x low high none, ty, pos, af, gd⟩ env G (.imm ((l.take hi).drop lo)) := fun a w hs => by
  have hr := hs.eval hx
  generalize hu : a.eval x = u at hr
  have hlen : ((l.take hi).drop lo).length = hi - lo := by simp; omega
  have run : ∀ (A : Option Addr) (cap : Nat), u = .slice A l.length cap → l.length ≤ cap → ∀ w', (execOp a.eval ⟨dst, .slice T x low high none, ty, pos, af, gd⟩).run P w' = .ok (.value (.slice (if cap = lo then A else A.map (·.add (lo * sz))) (hi - lo) (cap - lo))) w' := by
    intro A cap hu' hcap w'
    have hb := run_bounds (P := P) (iss := true) (cap := cap) hs hlo hhi h1 h2 hle (by omega) w'
    simp only [execOp, hu, hu', Instr.sliceAt, Sem.run_bind, hT.run_und, Result.andThen_ok, Instr.slice, Option.map_none, hb, hE.run_size, Sem.run_pure]
  rcases Nat.lt_or_ge lo hi with hlt | hge
  · cases hr with
    | imm0 A cp => simp at hc; omega
    | imm _ ad cp sz' u' hcp hG hbb hsz hcell hrep =>
      have hsz' : sz' = sz := by
        have h0 := hsz 0 (by omega)
        rw [← h0]; exact hev _ (List.getElem_mem _)
      subst hsz'
      refine ⟨_, ?_, fun w' _ => run _ cp rfl hcp w'⟩
      rw [if_neg (by omega), ← hlen]
      refine .imm _ (ad.add (lo * sz')) _ sz' (fun i j => u' (lo + i) j) (by rw [hlen]; omega) (by rw [add_block]; exact hG) (by rw [add_block]; exact hbb) (fun i hi' => ?_) (fun i j hi' hj => ?_) (fun i hi' j hj => ?_)
      · simp only [List.getElem_drop, List.getElem_take]; exact hsz _ _
      · rw [add_add, ← Nat.add_assoc, ← Nat.add_mul]
        exact hcell _ _ (by rw [hlen] at hi'; omega) hj
      · have := hrep (lo + i) (by rw [hlen] at hi'; omega) j (by simpa [List.getElem_drop, List.getElem_take] using hj)
        simpa [List.getElem_drop, List.getElem_take] using this
  · have h0 : hi - lo = 0 := by omega
    have e0 : (l.take hi).drop lo = [] := List.length_eq_zero_iff.1 (by rw [hlen, h0])
    rw [e0]
    cases hr with
    | imm0 A cp => exact ⟨_, by rw [h0]; exact .imm0 _ _, fun w' _ => run A cp rfl (by simp) w'⟩
    | imm _ ad cp sz' u' hcp hG hbb hsz hcell hrep => exact ⟨_, by rw [h0]; exact .imm0 _ _, fun w' _ => run _ cp rfl hcp w'⟩
theorem val_slice_own {T E : TypeId} {d : TypeDesc} {sz by_ s b' lo hi r o n : Nat} {z z' : Option Value} {x : Operand} {low high : Option Operand} {m1 m2 : Int} (hT : TyI P T (.slice E) s z' b') (hE : TyI P E d sz z by_)
    (hx : aeval env x = some (.own r sz o n)) (hlo : aevb env 0 low = some m1) (hhi : aevb env (n : Int) high = some m2) (h1 : m1 = (lo : Int)) (h2 : m2 = (hi : Int)) (hle : lo ≤ hi) (hc : hi ≤ n) (hne : lo = 0 ∨ lo < n) :
    ValM md P c ⟨dst, .slice T x low high none, ty, pos, af, gd⟩ env G (.own r sz (o + lo) (hi - lo)) := fun a w hs => by
  have hr := hs.eval hx
  generalize hu : a.eval x = u at hr
  cases hr with
  | own _ _ _ _ cp hcp hsh =>
    obtain ⟨T', N, g1, g2⟩ := hsh
    have hb := fun w' => run_bounds (P := P) (iss := true) (cap := cp) hs hlo hhi h1 h2 hle (by omega) w'
    refine ⟨_, ?_, fun w' _ => by
      simp only [execOp, hu, Instr.sliceAt, Sem.run_bind, hT.run_und, Result.andThen_ok, Instr.slice, Option.map_none, hb w', hE.run_size, Sem.run_pure]; rfl⟩
    have e : (if cp = lo then (some (⟨r, o * sz, none⟩ : Addr)) else (some (⟨r, o * sz, none⟩ : Addr)).map (·.add (lo * sz))) = some ⟨r, (o + lo) * sz, none⟩ := by
      split
      · have : lo = 0 := by omega
        subst this; simp
      · simp [add_mk, Nat.add_mul]
    rw [e]
    exact .own r sz (o + lo) (hi - lo) (cp - lo) (by omega) ⟨T', N, g1, Nat.le_trans (Nat.mul_le_mul_right _ (by omega)) g2⟩
theorem val_slice_nil {T E : TypeId} {d : TypeDesc} {sz by_ s b' : Nat} {z z' : Option Value} {x : Operand} {low high : Option Operand} {m1 m2 : Int} (hT : TyI P T (.slice E) s z' b') (hE : TyI P E d sz z by_)
    (hx : aeval env x = some .nil0) (hlo : aevb env 0 low = some m1) (hhi : aevb env 0 high = some m2) (h1 : m1 = 0) (h2 : m2 = 0) :
    ValM md P c ⟨dst, .slice T x low high none, ty, pos, af, gd⟩ env G .nil0 := fun a w hs => by
  have hr := hs.eval hx
  generalize hu : a.eval x = u at hr
  cases hr with
  | nil0 A =>
    have hb := fun w' => run_bounds (P := P) (iss := true) (len := 0) (cap := 0) (lo := 0) (hi := 0) hs hlo (by simpa using hhi) (by simpa using h1) (by simpa using h2) (by omega) (by omega) w'
    exact ⟨_, .nil0 _, fun w' _ => by
      simp only [execOp, hu, Instr.sliceAt, Sem.run_bind, hT.run_und, Result.andThen_ok, Instr.slice, Option.map_none, hb w', hE.run_size, Sem.run_pure]; rfl⟩
theorem val_slice_str {T : TypeId} {s b' lo hi : Nat} {z' : Option Value} {x : Operand} {low high : Option Operand} {m : ByteArray} {m1 m2 : Int} (hT : TyI P T .string s z' b')
    (hx : aeval env x = some (.str m)) (hlo : aevb env 0 low = some m1) (hhi : aevb env (m.size : Int) high = some m2) (h1 : m1 = (lo : Int)) (h2 : m2 = (hi : Int)) (hle : lo ≤ hi) (hc : hi ≤ m.size) :
    ValM md P c ⟨dst, .slice T x low high none, ty, pos, af, gd⟩ env G (.str (m.extract lo hi)) := fun a w hs => by
  have hr := hs.eval hx
  generalize hu : a.eval x = u at hr
  cases hr with
  | str =>
    have hb := fun w' => run_bounds (P := P) (iss := false) (cap := m.size) hs hlo hhi h1 h2 hle hc w'
    exact ⟨_, .str _, fun w' _ => by
      simp only [execOp, hu, Instr.sliceAt, Sem.run_bind, hT.run_und, Result.andThen_ok, Instr.slice, Option.map_none, Option.isSome_none, Bool.false_eq_true, if_false, hb w', Sem.run_pure]⟩

theorem v_slice_imm {T E : TypeId} {d : TypeDesc} {sz by_ s b' lo hi : Nat} {z z' : Option Value} {x : Operand} {low high : Option Operand} {l m : List AV} {m1 m2 : Int} (hT : TyI P T (.slice E) s z' b') (hE : TyI P E d sz z by_)
    (hx : ev env L x = some (.imm l)) (hlo : evb env L 0 low = some m1) (hhi : evb env L (l.length : Int) high = some m2) (h1 : m1 = (lo : Int)) (h2 : m2 = (hi : Int)) (hle : lo ≤ hi) (hc : hi ≤ l.length) (hev : Even sz l)
    (hm : (l.take hi).drop lo = m) : ValLM md P c ⟨dst, .slice T x low high none, ty, pos, af, gd⟩ env L B G (.imm m) := fun ρ hρ => hm ▸ val_slice_imm hT hE (ev_full hx) (evb_full hlo) (evb_full hhi) h1 h2 hle hc hev
theorem v_slice_own {T E : TypeId} {d : TypeDesc} {sz by_ s b' lo hi r o n : Nat} {z z' : Option Value} {x : Operand} {low high : Option Operand} {m1 m2 : Int} (hT : TyI P T (.slice E) s z' b') (hE : TyI P E d sz z by_)
    (hx : ev env L x = some (.own r sz o n)) (hlo : evb env L 0 low = some m1) (hhi : evb env L (n : Int) high = some m2) (h1 : m1 = (lo : Int)) (h2 : m2 = (hi : Int)) (hle : lo ≤ hi) (hc : hi ≤ n) (hne : lo = 0 ∨ lo < n) :
    ValLM md P c ⟨dst, .slice T x low high none, ty, pos, af, gd⟩ env L B G (.own r sz (o + lo) (hi - lo)) := fun ρ hρ => val_slice_own hT hE (ev_full hx) (evb_full hlo) (evb_full hhi) h1 h2 hle hc hne
theorem v_slice_nil {T E : TypeId} {d : TypeDesc} {sz by_ s b' : Nat} {z z' : Option Value} {x : Operand} {low high : Option Operand} {m1 m2 : Int} (hT : TyI P T (.slice E) s z' b') (hE : TyI P E d sz z by_)
    (hx : ev env L x = some .nil0) (hlo : evb env L 0 low = some m1) (hhi : evb env L 0 high = some m2) (h1 : m1 = 0) (h2 : m2 = 0) :
    ValLM md P c ⟨dst, .slice T x low high none, ty, pos, af, gd⟩ env L B G .nil0 := fun ρ hρ => val_slice_nil hT hE (ev_full hx) (evb_full hlo) (evb_full hhi) h1 h2
theorem v_slice_str {T : TypeId} {s b' lo hi : Nat} {z' : Option Value} {x : Operand} {low high : Option Operand} {m : ByteArray} {m1 m2 : Int} (hT : TyI P T .string s z' b')
    (hx : ev env L x = some (.str m)) (hlo : evb env L 0 low = some m1) (hhi : evb env L (m.size : Int) high = some m2) (h1 : m1 = (lo : Int)) (h2 : m2 = (hi : Int)) (hle : lo ≤ hi) (hc : hi ≤ m.size) :
    ValLM md P c ⟨dst, .slice T x low high none, ty, pos, af, gd⟩ env L B G (.str (m.extract lo hi)) := fun ρ hρ => val_slice_str hT (ev_full hx) (evb_full hlo) (evb_full hhi) h1 h2 hle hc
end
end Go.Proofs.Ytgedefcjngofkaa.AM

/- The abstract machine, part 15: a variable of the call's own becomes a block that everybody may point to. -/
set_option linter.unusedVariables false
set_option linter.unusedSimpArgs false
namespace Go.Proofs.Ytgedefcjngofkaa.AM
open Go

section
variable {c : Ctx} {env B : Env} {L : LPtr} {G : AHeap} {K : Act → World → Prop}
theorem edel_some {B : Env} {s t : Nat} {v : AV} (h : (edel B s).get t = some v) : s ≠ t ∧ B.get t = some v := by
  rw [edel_get] at h
  split at h
  · cases h
  · exact ⟨by assumption, h⟩
theorem boxes_expose {ρ : Nat → Nat} {s : Nat} {v : AV} (hρ : Good c G B ρ) (hb : B.get s = some v) : Good c (G.set (ρ s) (.box v)) (edel B s) ρ ∧ boxes ρ (G.set (ρ s) (.box v)) (edel B s) = boxes ρ G B := by
  have hg : Good c (G.set (ρ s) (.box v)) (edel B s) ρ := ⟨fun t u hu => by
    obtain ⟨h1, h2⟩ := edel_some hu
    have hne : ρ t ≠ ρ s := fun e => h1 (hρ.inj s t v u hb h2 e.symm)
    exact ⟨by rw [AHeap.get_set_ne _ _ hne]; exact (hρ.fresh t u h2).1, (hρ.fresh t u h2).2⟩, fun t t' u u' h h' e => hρ.inj t t' u u' (edel_some h).2 (edel_some h').2 e⟩
  refine ⟨hg, AHeap.ext fun b => ?_⟩
  rcases boxes_cases hg b with ⟨t, u, h1, h2, h3⟩ | ⟨h1, h2⟩
  · rw [h3, h2]; exact (boxes_get hρ (edel_some h1).2).symm
  · rw [h2]
    by_cases hbs : b = ρ s
    · subst hbs; rw [AHeap.get_set]; exact (boxes_get hρ hb).symm
    · rw [AHeap.get_set_ne _ _ hbs]
      refine (boxes_other fun t u hu e => ?_).symm
      have hne : s ≠ t := fun e' => by subst e'; exact hbs e
      exact h1 t u (by rw [edel_get, if_neg hne]; exact hu) e
theorem g_expose {s off : Nat} {v : AV} (t : Nat) (hl : lget L t = some (s, off)) (hb : B.get s = some v)
    (h : ∀ r, G r = none → c.w0.heap.size ≤ r → GoalL c ((t, .box r off) :: env) (ldel L t) (edel B s) (G.set r (.box v)) K) : GoalL c env L B G K := fun ρ hρ => by
  obtain ⟨h1, h2⟩ := boxes_expose hρ hb
  have h3 := h (ρ s) (hρ.fresh s v hb).1 (hρ.fresh s v hb).2 ρ h1
  rw [h2] at h3
  refine Goal.env (fun t' u hu => ?_) h3
  have h4 := full_put t' u hu
  simp only [Env.get] at h4
  cases hbt : Nat.beq t t' with
  | true =>
    rw [hbt] at h4
    have := Nat.eq_of_beq_eq_true hbt; subst this
    rw [full_get, hl]; exact h4
  | false => rw [hbt] at h4; exact h4
end
end Go.Proofs.Ytgedefcjngofkaa.AM

/- The abstract machine, part 16: maps whose keys are integers. -/
set_option linter.unusedVariables false
set_option linter.unusedSimpArgs false
namespace Go.Proofs.Ytgedefcjngofkaa.AM
open Go

abbrev MRow := List (Int × AV)
def mrow (k : IntKind) (m : MRow) : ARow := .map (m.map fun p => (.int k p.1, p.2))
def mget : MRow → Int → Option AV
  | [], _ => none
  | (a, v) :: m, n => if n = a then some v else mget m n
def mput : MRow → Int → AV → MRow
  | [], n, v => [(n, v)]
  | (a, u) :: m, n, v => if n = a then (n, v) :: m else (a, u) :: mput m n v
def mfind : List Int → Int → Nat → Option Nat
  | [], _, _ => none
  | a :: l, n, i => if n = a then some i else mfind l n (i + 1)

theorem findNow_int {k : IntKind} {n : Int} : ∀ (es : List MapEntry) (l : List Int) (i : Nat), es.map (·.key) = l.map (.int k) → Instr.findNow (.int k) (.int k n) es i = some ((mfind l n i).bind fun j => (es[j - i]?).map fun e => (j, e.val))
  | [], [], i, _ => rfl
  | [], _ :: _, i, h => by simp at h
  | _ :: _, [], i, h => by simp at h
  | e :: es, a :: l, i, h => by
    simp only [List.map_cons, List.cons.injEq] at h
    simp only [Instr.findNow, h.1, Instr.sameNow, if_true, mfind]
    by_cases hn : n = a
    · simp [hn]
    · have hb : (n == a) = false := by simpa using hn
      simp only [hb, if_neg hn]
      rw [findNow_int es l (i + 1) h.2]
      congr 1
      cases hm : mfind l n (i + 1) with
      | none => rfl
      | some j =>
        have hlt : i + 1 ≤ j := by
          have key : ∀ (l : List Int) (i j : Nat), mfind l n i = some j → i ≤ j := by
            intro l
            induction l with
            | nil => intro i j h; simp [mfind] at h
            | cons a l ih => intro i j h; simp only [mfind] at h; split at h
                             · simp at h; omega
                             · have := ih _ _ h; omega
          exact key _ _ _ hm
        have e1 : j - i = (j - (i + 1)) + 1 := by omega
        simp [e1]
theorem mfind_get : ∀ (m : MRow) (n : Int) (i : Nat), match mfind (m.map (·.1)) n i with
    | none => mget m n = none ∧ ∀ v, mput m n v = m ++ [(n, v)]
    | some j => ∃ h : j - i < m.length, i ≤ j ∧ mget m n = some (m[j - i].2) ∧ m[j - i].1 = n ∧ ∀ v, mput m n v = m.set (j - i) (n, v)
  | [], n, i => by simp [mfind, mget, mput]
  | (a, u) :: m, n, i => by
    simp only [List.map_cons, mfind]
    by_cases hn : n = a
    · subst hn; simp [mget, mput]
    · simp only [if_neg hn]
      have ih := mfind_get m n (i + 1)
      cases hm : mfind (m.map (·.1)) n (i + 1) with
      | none => rw [hm] at ih; simp only at ih ⊢; exact ⟨by simp [mget, hn, ih.1], fun v => by simp [mput, hn, ih.2]⟩
      | some j =>
        rw [hm] at ih; simp only at ih ⊢
        obtain ⟨h1, h2, h3, h4, h5⟩ := ih
        have e1 : j - i = (j - (i + 1)) + 1 := by omega
        refine ⟨by simp [e1]; exact h1, by omega, ?_, ?_, fun v => ?_⟩
        · simp [mget, hn, h3, e1]
        · simp [e1, h4]
        · simp [mput, hn, h5, e1]

section
variable {md : Bool} {P : Program} {c : Ctx} {env : Env} {G : AHeap} {dst : Option Tmp} {ty : TypeId} {pos : String} {af : Array Edge} {gd : Option (Nat × Bool)} {Q : Exit → Act → World → Prop} {K : Act → World → Prop}

/-- What is known of a map's block. -/
theorem map_block {w : World} {r : Nat} {k : IntKind} {m : MRow} (h : Sim G w) (hG : G r = some (mrow k m)) : ∃ (ents : Array MapEntry) (clock : Nat), w.heap[r]? = some (.map ents clock) ∧ ents.toList.map (·.key) = (m.map (·.1)).map (.int k) ∧
    ents.size = m.length ∧ (∀ i (h1 : i < m.length) (h2 : i < ents.size), Rep G w m[i].2 ents[i].val) ∧ (∀ i (h : i < ents.size), ents[i].born < clock) ∧ (∀ i j (h : i < ents.size) (h' : j < ents.size), i < j → ents[i].born < ents[j].born) := by
  obtain ⟨ents, clock, h1, h2, h3, h4, h5⟩ := h _ _ hG
  have hl : ents.size = m.length := by simpa using h2
  refine ⟨ents, clock, h1, ?_, hl, fun i i1 i2 => ?_, h4, h5⟩
  · refine List.ext_getElem (by simp [hl]) fun i i1 i2 => ?_
    have := (h3 i (by simpa [hl] using i1) (by simpa using i1)).1
    simp only [List.getElem_map] at this ⊢
    simp only [Array.getElem_toList]
    generalize (ents[i]'(by simpa using i1)).key = kv at this
    cases this; rfl
  · have := (h3 i (by simpa using i1) i2).2
    simpa using this
theorem run_checkKey {T : TypeId} {k : IntKind} {n : Int} {s b' : Nat} {z : Option Value} (hT : TyI P T (.int k) s z b') (e : Bool) (w : World) : (Instr.checkKey e 10000 T (.int k n)).run P w = .ok () w := by
  rw [show (10000 : Nat) = 9999 + 1 from rfl]
  unfold Instr.checkKey
  simp only [Sem.run_bind, hT.run_und, Result.andThen_ok]
  rfl
theorem run_findKey {T : TypeId} {k : IntKind} {n : Int} {s b' : Nat} {z : Option Value} {es : List MapEntry} {l : List Int} (hT : TyI P T (.int k) s z b') (h : es.map (·.key) = l.map (.int k)) (w : World) :
    (Instr.findKey T (.int k n) es).run P w = .ok ((mfind l n 0).bind fun j => (es[j]?).map fun e => (j, e.val)) w := by
  unfold Instr.findKey
  simp only [Sem.run_bind, hT.run_und, Result.andThen_ok, findNow_int es l 0 h]
  rfl
theorem val_lookup {T KT E : TypeId} {k : IntKind} {n : Int} {s b' sk bk se be r : Nat} {z zk : Option Value} {zv : Value} {de : TypeDesc} {x y : Operand} {m : MRow} {ok : Bool} (hT : TyI P T (.map KT E) s z b') (hK : TyI P KT (.int k) sk zk bk) (hE : TyI P E de se (some zv) be)
    (hx : aeval env x = some (.map r)) (hG : G r = some (mrow k m)) (hy : aeval env y = some (.int k n)) :
    Val P c ⟨dst, .lookup T x y ok, ty, pos, af, gd⟩ env G (if ok then .tup [(mget m n).getD (zAV zv), .bool (mget m n).isSome] else (mget m n).getD (zAV zv)) := fun a w hs => by
  obtain ⟨ents, clock, h1, h2, h3, h4, _, _⟩ := map_block hs.sim hG
  have hr := hs.eval hx
  have hlt : r < w.heap.size := by
    rcases Nat.lt_or_ge r w.heap.size with h' | h'
    · exact h'
    · rw [Array.getElem?_eq_none h'] at h1; cases h1
  generalize hu : a.eval x = u at hr
  cases hr
  have hm := mfind_get m n 0
  have key : ∃ v, Rep G w ((mget m n).getD (zAV zv)) v ∧ ∀ w', Same w w' → (Instr.lookup T (.map (some r)) (.int k n) ok).run P w' = .ok (if ok then .tuple #[v, .bool (mget m n).isSome] else v) w' := by
    cases hf : mfind (m.map (·.1)) n 0 with
    | none =>
      rw [hf] at hm; simp only at hm
      refine ⟨zv, by rw [hm.1]; exact zAV_rep _ _ _, fun w' hw' => ?_⟩
      have h1' : w'.heap[r]? = some (.map ents clock) := (hw'.2 r hlt).trans h1
      have hg : (getObj r).run P w' = .ok (.map ents clock) w' := by simp [getObj, Sem.run, h1']
      simp only [Instr.lookup, Sem.run_bind, hT.run_und, Result.andThen_ok, hg, Sem.run_pure, run_checkKey hK, run_findKey hK h2, hf, Option.bind_none, hE.run_zero, hm.1]
      cases ok <;> rfl
    | some j =>
      rw [hf] at hm; simp only [Nat.sub_zero] at hm
      obtain ⟨g1, _, g3, g4, _⟩ := hm
      have hj : j < ents.size := by omega
      refine ⟨ents[j].val, by rw [g3]; exact h4 j g1 hj, fun w' hw' => ?_⟩
      have h1' : w'.heap[r]? = some (.map ents clock) := (hw'.2 r hlt).trans h1
      have hg : (getObj r).run P w' = .ok (.map ents clock) w' := by simp [getObj, Sem.run, h1']
      have he : ents.toList[j]? = some ents[j] := by rw [Array.getElem?_toList]; exact Array.getElem?_eq_getElem hj
      simp only [Instr.lookup, Sem.run_bind, hT.run_und, Result.andThen_ok, hg, Sem.run_pure, run_checkKey hK, run_findKey hK h2, hf, Option.bind_some, he, Option.map_some, g3]
      cases ok <;> rfl
  obtain ⟨v, hv, hrun⟩ := key
  refine ⟨if ok then .tuple #[v, .bool (mget m n).isSome] else v, ?_, fun w' hw' => ?_⟩
  · cases ok with
    | false => exact hv
    | true => exact .tup [_, _] [v, .bool _] rfl (fun i i1 i2 => by
        match i, i1 with
        | 0, _ => exact hv
        | 1, _ => exact .bool _)
  · have := hrun w' (hw' rfl)
    simp only [execOp, hu, rep_int (hs.eval hy), Sem.run_bind, this, Result.andThen_ok, Sem.run_pure]
theorem equalIn_map_nil {T KT E s b' : Nat} {z : Option Value} (hT : TyI P T (.map KT E) s z b') (d : Nat) (p : Option Nat) (w : World) : (Op.equalIn (d + 1) T (.map p) (.map none)).run P w = .ok p.isNone w := by
  cases p <;> simp [Op.equalIn, hT.run_und]
theorem equal_map_nil {T KT E s b' : Nat} {z : Option Value} (hT : TyI P T (.map KT E) s z b') (p : Option Nat) (w : World) : (Op.equal T (.map p) (.map none)).run P w = .ok p.isNone w := equalIn_map_nil hT 9999 p w
theorem val_map_eql_nil {T KT E : TypeId} {s b' r : Nat} {z : Option Value} {x y : Operand} {T' : TypeId} (hT : TyI P T (.map KT E) s z b') (hx : aeval env x = some (.map r)) (hy : aeval env y = some .nilm) :
    ValM md P c ⟨dst, .binOp .eql T x y T', ty, pos, af, gd⟩ env G (.bool false) := fun a w hs => by
  have hr := hs.eval hx
  have hr2 := hs.eval hy
  generalize hu : a.eval x = u at hr
  generalize hu2 : a.eval y = u2 at hr2
  cases hr; cases hr2
  refine ⟨_, .bool _, fun w' _ => ?_⟩
  have hg : (eqGuard .eql T x y (.map (some r)) (.map none)).run P w' = .ok () w' := by
    unfold eqGuard; rfl
  simp only [execOp, hu, hu2, Sem.run_bind, hg, Result.andThen_ok]
  have : (binOp .eql T (.map (some r)) (.map none)).run P w' = .ok (.bool false) w' := by
    have e : binOp .eql T (.map (some r)) (.map none) = (do pure (.bool (← Op.equal T (.map (some r)) (.map none)))) := rfl
    rw [e]; simp [equal_map_nil hT]
  rw [this]; rfl

/-- A world with another object in a block's place. -/
def setO (w : World) (r : Nat) (o : Obj) : World := { w with heap := w.heap.setIfInBounds r o }
theorem setO_other (w : World) (r b : Nat) (o : Obj) (h : b ≠ r) : (setO w r o).heap[b]? = w.heap[b]? := by
  simp [setO, Array.getElem?_setIfInBounds_ne (Ne.symm h)]
theorem setO_self (w : World) (r : Nat) (o : Obj) (h : r < w.heap.size) : (setO w r o).heap[r]? = some o := by
  simp [setO, h]
theorem ext_setO {w : World} {r c0 c1 : Nat} {e0 e1 : Array MapEntry} {y : ARow} (hh : w.heap[r]? = some (.map e0 c0)) (hr : G r ≠ none) : Ext G w (fun b => b = r) (G.set r y) (setO w r (.map e1 c1)) where
  os := rfl
  tape := rfl
  output := rfl
  size := by simp [setO]
  same := fun b hb hn => setO_other w r b _ hn
  shape := fun b hb => by
    unfold World.shape?
    by_cases e : b = r
    · subst e; rw [setO_self w b _ hb, hh]
    · rw [setO_other w r b _ e]
  dom := fun b hb hg => by
    have : b ≠ r := fun e => hr (e ▸ hg)
    rw [AHeap.get_set_ne _ _ this]; exact hg
  lists := fun b e => by subst e; exact hr
theorem sim_setO {w : World} {r c0 c1 : Nat} {e0 e1 : Array MapEntry} {y : ARow} (hs : Sim G w) (hh : w.heap[r]? = some (.map e0 c0)) (hr : G r ≠ none) (hy : RowRep (G.set r y) (setO w r (.map e1 c1)) r y) : Sim (G.set r y) (setO w r (.map e1 c1)) := fun b x hb => by
  unfold AHeap.set at hb
  split at hb
  · rename_i e; subst e; cases hb; exact hy
  · rename_i e; exact (hs b x hb).mono (ext_setO hh hr) (setO_other w r b _ e)

theorem step_mapUpdate {T KT E : TypeId} {k : IntKind} {n : Int} {s b' sk bk r : Nat} {z zk : Option Value} {x y v : Operand} {m : MRow} {av : AV} (hT : TyI P T (.map KT E) s z b') (hK : TyI P KT (.int k) sk zk bk)
    (hx : aeval env x = some (.map r)) (hG : G r = some (mrow k m)) (hy : aeval env y = some (.int k n)) (hv : aeval env v = some av) (hD : c.D r ∨ c.w0.heap.size ≤ r)
    (h : Goal c env (G.set r (mrow k (mput m n av))) K) : Step P c ⟨none, .mapUpdate T x y v, ty, pos, af, gd⟩ Q env G K := fun a w hs => by
  obtain ⟨ents, clock, h1, h2, h3, h4, h5, h6⟩ := map_block hs.sim hG
  have hlt : r < w.heap.size := by
    rcases Nat.lt_or_ge r w.heap.size with h' | h'
    · exact h'
    · rw [Array.getElem?_eq_none h'] at h1; cases h1
  have hr := hs.eval hx
  generalize hu : a.eval x = u at hr
  cases hr
  have hne : G r ≠ none := by rw [hG]; simp
  have hg : (getObj r).run P w = .ok (.map ents clock) w := by simp [getObj, Sem.run, h1]
  have hset : ∀ o, (setObj r o).run P w = .ok () (setO w r o) := fun o => by simp [setObj, Sem.run, h1, setO]
  have hm := mfind_get m n 0
  have hrv := hs.eval hv
  have key : ∃ e1 c1, (Instr.mapUpdate T (.map (some r)) (.int k n) (a.eval v)).run P w = .ok () (setO w r (.map e1 c1)) ∧ e1.size = (mput m n av).length ∧
      (∀ i (h1 : i < (mput m n av).length) (h2 : i < e1.size), Rep G w (.int k (mput m n av)[i].1) e1[i].key ∧ Rep G w (mput m n av)[i].2 e1[i].val) ∧
      (∀ i (h : i < e1.size), e1[i].born < c1) ∧ (∀ i j (h : i < e1.size) (h' : j < e1.size), i < j → e1[i].born < e1[j].born) := by
    have hkey : ∀ i (h1 : i < m.length) (h2 : i < ents.size), Rep G w (.int k m[i].1) ents[i].key := fun i i1 i2 => by
      have := congrArg (fun l => l[i]?) h2
      simp [i2, i1] at this
      rw [this]; exact .int _ _
    cases hf : mfind (m.map (·.1)) n 0 with
    | none =>
      rw [hf] at hm; simp only at hm
      refine ⟨ents.push ⟨.int k n, a.eval v, clock⟩, clock + 1, ?_, ?_, ?_, ?_, ?_⟩
      · simp only [Instr.mapUpdate, Sem.run_bind, hT.run_und, Result.andThen_ok, hg, run_checkKey hK, run_findKey hK h2, hf, Option.bind_none, hset]
      · rw [hm.2]; simp [h3]
      · intro i i1 i2
        have e := hm.2 av
        simp only [e]
        rcases Nat.lt_or_ge i m.length with h' | h'
        · have hi : i < ents.size := by omega
          rw [List.getElem_append_left h', Array.getElem_push_lt hi]
          exact ⟨hkey i h' hi, h4 i h' hi⟩
        · have hi : i = ents.size := by simp at i2; omega
          have hi' : i = m.length := by omega
          subst hi'
          have e2 : (ents.push ⟨.int k n, a.eval v, clock⟩)[m.length]'i2 = ⟨.int k n, a.eval v, clock⟩ := by simp [hi]
          rw [e2]
          simp only [List.getElem_concat_length]
          exact ⟨.int _ _, hrv⟩
      · intro i i1
        rcases Nat.lt_or_ge i ents.size with h' | h'
        · rw [Array.getElem_push_lt h']; have := h5 i h'; omega
        · have : i = ents.size := by simp at i1; omega
          subst this; simp
      · intro i j i1 i2 hij
        have hi : i < ents.size := by simp at i2; omega
        rw [Array.getElem_push_lt hi]
        rcases Nat.lt_or_ge j ents.size with h' | h'
        · rw [Array.getElem_push_lt h']; exact h6 i j hi h' hij
        · have : j = ents.size := by simp at i2; omega
          subst this; simp; exact h5 i hi
    | some j =>
      rw [hf] at hm; simp only [Nat.sub_zero] at hm
      obtain ⟨g1, _, g3, g4, g5⟩ := hm
      have hj : j < ents.size := by omega
      have he : ents.toList[j]? = some ents[j] := by rw [Array.getElem?_toList]; exact Array.getElem?_eq_getElem hj
      have hkj : ents[j].key = .int k n := by
        have := hkey j g1 hj
        rw [g4] at this
        generalize ents[j].key = kv at this
        cases this; rfl
      have hstay : (Instr.keyThatStays (((ents[j]?).map (·.key)).getD (.int k n)) (.int k n)).run P w = .ok (.int k n) w := by
        rw [Array.getElem?_eq_getElem hj]
        simp only [Option.map_some, Option.getD_some, hkj, Instr.keyThatStays]
        rw [if_pos (by simp [Instr.sameBits])]
        rfl
      refine ⟨ents.modify j fun e => { e with key := .int k n, val := a.eval v }, clock, ?_, ?_, ?_, ?_, ?_⟩
      · simp only [Instr.mapUpdate, Sem.run_bind, hT.run_und, Result.andThen_ok, hg, run_checkKey hK, run_findKey hK h2, hf, Option.bind_some, he, Option.map_some, hset, hstay]
      · rw [g5]; simp [h3]
      · intro i i1 i2
        have e := g5 av
        simp only [e]
        have hi : i < ents.size := by simpa using i2
        have hi' : i < m.length := by omega
        rw [List.getElem_set, Array.getElem_modify]
        by_cases hij : j = i
        · simp only [hij, if_true]; exact ⟨.int _ _, hrv⟩
        · simp only [hij, if_false]; exact ⟨hkey i hi' hi, h4 i hi' hi⟩
      · intro i i1
        rw [Array.getElem_modify]
        have hi : i < ents.size := by simpa using i1
        split
        · exact h5 i hi
        · exact h5 i hi
      · intro i j' i1 i2 hij
        have hi : i < ents.size := by simpa using i1
        have hj' : j' < ents.size := by simpa using i2
        rw [Array.getElem_modify, Array.getElem_modify]
        have := h6 i j' hi hj' hij
        split <;> split <;> exact this
  obtain ⟨e1, c1, g1, g2, g3, g4, g5⟩ := key
  unfold Oper.wp
  have hrun : (execOp a.eval ⟨none, .mapUpdate T x y v, ty, pos, af, gd⟩).run P w = .ok .skip (setO w r (.map e1 c1)) := by
    simp only [execOp, hu, rep_int (hs.eval hy), Sem.run_bind, g1, Result.andThen_ok, Sem.run_pure]
  rw [hrun, Oper.upon_skip]
  have hext := ext_setO (G := G) (y := mrow k (mput m n av)) (e1 := e1) (c1 := c1) h1 hne
  refine h _ _ (hs.move (sim_setO hs.sim h1 hne ?_) hext (fun b hb hbr => by subst hbr; exact hD.resolve_right (by omega)))
  refine ⟨e1, c1, setO_self w r _ hlt, by simpa using g2, fun i i1 i2 => ?_, g4, g5⟩
  have := g3 i (by simpa using i1) i2
  simp only [List.getElem_map]
  exact ⟨this.1.mono hext, this.2.mono hext⟩
end

section
variable {md : Bool} {P : Program} {c : Ctx} {env B : Env} {L : LPtr} {G : AHeap} {dst : Option Tmp} {ty : TypeId} {pos : String} {af : Array Edge} {gd : Option (Nat × Bool)} {Q : Exit → Act → World → Prop} {K : Act → World → Prop}
theorem sm_val {ops : Array Oper} {nS : Nat → Bool} {i d : Nat} {o : Oper} {av : AV} (hv : ValL P c o env L B G av) (ho : o.dst = some d) (hd : Nat.blt d c.nt = true) (h : GoalL c ((d, av) :: env) (ldel L d) B G K) : StepM P c o ops Q nS i env L B G K := fun ρ hρ a w hs => by
  obtain ⟨v, hr, hrun⟩ := hv ρ hρ a w hs
  unfold Oper.wp
  rw [hrun w (fun _ => Same.refl w), Oper.upon_value, ho]
  exact ⟨fun _ => Same.refl w, Goal.env full_put (h ρ hρ) _ _ (hs.put hd hr)⟩
theorem s_makeMap {T : TypeId} {d : Nat} (k : IntKind) (hd : Nat.blt d c.nt = true) (h : ∀ r, G r = none → c.w0.heap.size ≤ r → GoalL c ((d, .map r) :: env) (ldel L d) B (G.set r (mrow k [])) K) : StepL P c ⟨some d, .makeMap T none, ty, pos, af, gd⟩ Q env L B G K := fun ρ hρ a w hs => by
  have hrun : (execOp a.eval ⟨some d, .makeMap T none, ty, pos, af, gd⟩).run P w = .ok (.value (.map (some w.heap.size))) (w.alloc (.map #[] 0)) := rfl
  unfold Oper.wp
  rw [hrun, Oper.upon_value]
  have hn := hs.sim.none (Nat.le_refl _)
  have hsim : Sim ((boxes ρ G B).set w.heap.size (mrow k [])) (w.alloc (.map #[] 0)) := sim_alloc hs.sim _ _ ⟨#[], 0, heap_alloc_new' w _, rfl, fun i h => by simp at h, fun i h => by simp at h, fun i j h => by simp at h⟩
  exact Goal.env full_put (goal_set hρ hn (h _ (sub_none (boxes_sub hρ) hn) hs.fresh)) _ _ ((hs.move hsim (ext_alloc hs.sim _ _) (fun _ _ h => h.elim)).put hd (.map _ (by simp)))
theorem v_lookup {T KT E : TypeId} {k : IntKind} {n : Int} {s b' sk bk se be r : Nat} {z zk : Option Value} {zv : Value} {de : TypeDesc} {x y : Operand} {m : MRow} {ok : Bool} {o : AV} {f : Bool} {za : AV} (hT : TyI P T (.map KT E) s z b') (hK : TyI P KT (.int k) sk zk bk) (hE : TyI P E de se (some zv) be) (hz : zAV zv = za)
    (hx : ev env L x = some (.map r)) (hy : ev env L y = some (.int k n)) (hG : G r = some (mrow k m)) (ho : (mget m n).getD za = o) (hf : (mget m n).isSome = f) :
    ValL P c ⟨dst, .lookup T x y ok, ty, pos, af, gd⟩ env L B G (if ok then .tup [o, .bool f] else o) := fun ρ hρ => by
  subst hz ho hf
  exact val_lookup hT hK hE (ev_full hx) (boxes_sub hρ _ _ hG) (ev_full hy)
theorem v_map_eql_nil {T KT E : TypeId} {s b' r : Nat} {z : Option Value} {x y : Operand} {T' : TypeId} (hT : TyI P T (.map KT E) s z b') (hx : ev env L x = some (.map r)) (hy : ev env L y = some .nilm) :
    ValLM md P c ⟨dst, .binOp .eql T x y T', ty, pos, af, gd⟩ env L B G (.bool false) := fun ρ hρ => val_map_eql_nil hT (ev_full hx) (ev_full hy)
theorem s_mapUpdate {T KT E : TypeId} {k : IntKind} {n : Int} {s b' sk bk r : Nat} {z zk : Option Value} {x y v : Operand} {m : MRow} {av : AV} (hT : TyI P T (.map KT E) s z b') (hK : TyI P KT (.int k) sk zk bk)
    (hx : ev env L x = some (.map r)) (hy : ev env L y = some (.int k n)) (hv : ev env L v = some av) (hG : G r = some (mrow k m)) (hD : c.D r ∨ c.w0.heap.size ≤ r)
    (h : GoalL c env L B (G.set r (mrow k (mput m n av))) K) : StepL P c ⟨none, .mapUpdate T x y v, ty, pos, af, gd⟩ Q env L B G K := fun ρ hρ => by
  have hne : ∀ s v, B.get s = some v → r ≠ ρ s := fun s v hv e => by have := (hρ.fresh s v hv).1; rw [← e, hG] at this; cases this
  obtain ⟨h3, h4⟩ := boxes_setG (x := mrow k (mput m n av)) hρ hne
  refine step_mapUpdate hT hK (ev_full hx) (boxes_sub hρ _ _ hG) (ev_full hy) (ev_full hv) hD ?_
  rw [h4]; exact h ρ h3
end
end Go.Proofs.Ytgedefcjngofkaa.AM

/- The abstract machine, part 17: parts of values, equality of structs of integers, copy. -/
set_option linter.unusedVariables false
set_option linter.unusedSimpArgs false
namespace Go.Proofs.Ytgedefcjngofkaa.AM
open Go

/-- A struct whose fields are all integers. -/
def intFields (P : Program) (T : TypeId) : Bool := match P.underlying T with
  | some (.struct fs) => ((List.range fs.toList.length).all fun i => match fs.toList[i]? with
      | some f => f.offset == i && f.name != "_" && (match P.underlying f.type with
        | some (.int _) => true
        | _ => false)
      | none => false) && !P.stoodInHeld T && !P.eqGuardType P.depth T
  | _ => false

section
variable {md : Bool} {P : Program} {c : Ctx} {env : Env} {G : AHeap} {dst : Option Tmp} {ty : TypeId} {pos : String} {af : Array Edge} {gd : Option (Nat × Bool)} {Q : Exit → Act → World → Prop} {K : Act → World → Prop}

theorem rep_ints {w : World} {k : IntKind} {l : List Int} {v : Value} (h : Rep G w (.agg (l.map (.int k))) v) : ∃ xs : Array Value, v = .agg xs ∧ xs.toList = l.map (.int k) := by
  cases h with
  | agg cs vs hl hr =>
    refine ⟨vs.toArray, rfl, ?_⟩
    refine List.ext_getElem (by simpa using hl.symm) fun i h1 h2 => ?_
    have := hr i (by simpa using h2) (by simpa using h1)
    simp only [List.getElem_map] at this
    simp only [List.getElem_map]
    generalize hx : vs[i]'(by simpa using h1) = x at this
    cases this
    simp [hx]
theorem eqFields_ints {d : Nat} {k : IntKind} {xs ys : Array Value} {l m : List Int} (hx : xs.toList = l.map (.int k)) (hy : ys.toList = m.map (.int k)) (w : World) : ∀ (fs : List Field) (i : Nat),
    (∀ j f, fs[j]? = some f → f.offset = i + j ∧ f.name ≠ "_" ∧ ∃ k', P.underlying f.type = some (.int k')) → i + fs.length = l.length → l.length = m.length →
    (Op.eqFields (d + 1) xs ys fs).run P w = .ok (decide (l.drop i = m.drop i)) w
  | [], i, _, h1, h2 => by
    simp only [List.length_nil, Nat.add_zero] at h1
    have e1 : l.drop i = [] := List.drop_of_length_le (by omega)
    have e2 : m.drop i = [] := List.drop_of_length_le (by omega)
    simp [Op.eqFields, e1, e2]
  | f :: fs, i, h, h1, h2 => by
    obtain ⟨g1, g2, k', g3⟩ := h 0 f rfl
    simp only [Nat.add_zero] at g1
    have hil : i < l.length := by simp at h1; omega
    have him : i < m.length := by omega
    have hpx : (part f.type xs f.offset).run P w = .ok (.int k l[i]) w := by
      have : xs[f.offset]? = some (.int k l[i]) := by rw [← Array.getElem?_toList, hx, g1]; simp [hil]
      simp [part, isAgg, run_underlying g3, this]
    have hpy : (part f.type ys f.offset).run P w = .ok (.int k m[i]) w := by
      have : ys[f.offset]? = some (.int k m[i]) := by rw [← Array.getElem?_toList, hy, g1]; simp [him]
      simp [part, isAgg, run_underlying g3, this]
    have ih := eqFields_ints (d := d) hx hy w fs (i + 1) (fun j f hf => by have := h (j + 1) f (by simpa using hf); simpa [Nat.add_assoc, Nat.add_comm 1 j] using this) (by simp at h1; omega) h2
    simp only [Op.eqFields]
    rw [if_pos g2]
    simp only [Sem.run_bind, hpx, hpy, Result.andThen_ok, run_equalIn_int w d f.type k k' _ _ g3]
    have e0 : (l.drop i = m.drop i) ↔ (l[i] = m[i] ∧ l.drop (i + 1) = m.drop (i + 1)) := by
      rw [List.drop_eq_getElem_cons hil, List.drop_eq_getElem_cons him]; exact List.cons_eq_cons
    by_cases he : l[i] = m[i]
    · have hb : (l[i] == m[i]) = true := by simpa using he
      have hd : decide (l.drop i = m.drop i) = decide (l.drop (i + 1) = m.drop (i + 1)) := decide_eq_decide.2 (by rw [e0]; exact ⟨fun h => h.2, fun h => ⟨he, h⟩⟩)
      rw [hd]
      simp only [hb, Bool.not_true, Bool.false_eq_true, if_false]
      exact ih
    · have hb : (l[i] == m[i]) = false := by simpa using he
      rw [decide_eq_false (fun h => he (e0.1 h).1)]
      simp only [hb, Bool.not_false, if_true, Sem.run_pure]
theorem equal_ints {T s b' : Nat} {z : Option Value} {fs : Array Field} {k : IntKind} {l m : List Int} {xs ys : Array Value} (hT : TyI P T (.struct fs) s z b') (hst : intFields P T = true) (hx : xs.toList = l.map (.int k)) (hy : ys.toList = m.map (.int k))
    (h1 : fs.toList.length = l.length) (h2 : l.length = m.length) (w : World) : (Op.equal T (.agg xs) (.agg ys)).run P w = .ok (decide (l = m)) w := by
  unfold intFields at hst
  rw [hT.und] at hst
  simp only [Bool.and_eq_true, List.all_eq_true, List.mem_range, Bool.not_eq_true'] at hst
  have hf : P.fieldsOf T = fs := by simp [Program.fieldsOf, hT.und]
  have := run_equalIn_struct w 9999 T xs ys (by rw [hf]; exact hT.und) hst.1.2
  have e : Op.equal T (.agg xs) (.agg ys) = Op.equalIn (9999 + 1) T (.agg xs) (.agg ys) := rfl
  rw [e, this, hf]
  have h3 := eqFields_ints (P := P) (d := 9998) hx hy w fs.toList 0 (fun j f hj => ?_) (by omega) h2
  · simpa using h3
  · have hlt : j < fs.toList.length := by
      rcases Nat.lt_or_ge j fs.toList.length with h' | h'
      · exact h'
      · rw [List.getElem?_eq_none h'] at hj; cases hj
    have h4 := hst.1.1 j hlt
    rw [hj] at h4
    simp only [Bool.and_eq_true, beq_iff_eq, bne_iff_ne] at h4
    refine ⟨by omega, h4.1.2, ?_⟩
    have h5 := h4.2
    split at h5
    · rename_i k' hk; exact ⟨k', hk⟩
    · cases h5
theorem eqGuard_ints {T s b' : Nat} {z : Option Value} {fs : Array Field} {op : BinOp} {x y : Operand} {xs ys : Array Value} (hT : TyI P T (.struct fs) s z b') (hst : intFields P T = true) (w : World) : (eqGuard op T x y (.agg xs) (.agg ys)).run P w = .ok () w := by
  unfold intFields at hst
  rw [hT.und] at hst
  simp only [Bool.and_eq_true, Bool.not_eq_true'] at hst
  unfold eqGuard
  cases op <;> simp [hst.2]
theorem val_st_eql {T T' : TypeId} {s b' : Nat} {z : Option Value} {fs : Array Field} {k : IntKind} {l m : List Int} {x y : Operand} {a b : AV} (hT : TyI P T (.struct fs) s z b') (hst : intFields P T = true) (hx : aeval env x = some a) (hy : aeval env y = some b)
    (ha : a = .agg (l.map (.int k))) (hb : b = .agg (m.map (.int k))) (h1 : fs.toList.length = l.length) (h2 : l.length = m.length) : ValM md P c ⟨dst, .binOp .eql T x y T', ty, pos, af, gd⟩ env G (.bool (decide (l = m))) := fun u w hs => by
  subst ha hb
  obtain ⟨xs, e1, e2⟩ := rep_ints (hs.eval hx)
  obtain ⟨ys, e3, e4⟩ := rep_ints (hs.eval hy)
  refine ⟨_, .bool _, fun w' _ => ?_⟩
  have e : binOp .eql T (.agg xs) (.agg ys) = (do pure (.bool (← Op.equal T (.agg xs) (.agg ys)))) := rfl
  simp only [execOp, e1, e3, Sem.run_bind, eqGuard_ints hT hst, Result.andThen_ok, e, equal_ints hT hst e2 e4 h1 h2, Sem.run_pure]
theorem val_st_neq {T T' : TypeId} {s b' : Nat} {z : Option Value} {fs : Array Field} {k : IntKind} {l m : List Int} {x y : Operand} {a b : AV} (hT : TyI P T (.struct fs) s z b') (hst : intFields P T = true) (hx : aeval env x = some a) (hy : aeval env y = some b)
    (ha : a = .agg (l.map (.int k))) (hb : b = .agg (m.map (.int k))) (h1 : fs.toList.length = l.length) (h2 : l.length = m.length) : ValM md P c ⟨dst, .binOp .neq T x y T', ty, pos, af, gd⟩ env G (.bool (!decide (l = m))) := fun u w hs => by
  subst ha hb
  obtain ⟨xs, e1, e2⟩ := rep_ints (hs.eval hx)
  obtain ⟨ys, e3, e4⟩ := rep_ints (hs.eval hy)
  refine ⟨_, .bool _, fun w' _ => ?_⟩
  have e : binOp .neq T (.agg xs) (.agg ys) = (do pure (.bool (!(← Op.equal T (.agg xs) (.agg ys))))) := rfl
  simp only [execOp, e1, e3, Sem.run_bind, eqGuard_ints hT hst, Result.andThen_ok, e, equal_ints hT hst e2 e4 h1 h2, Sem.run_pure]

/-- A part of an aggregate. -/
theorem run_part_one {T : TypeId} {d : TypeDesc} {sz b' off : Nat} {z : Option Value} {l : List AV} {a : AV} {w : World} {v : Value} (hT : TyI P T d sz z b') (hd : aggDesc d = false) (h : Rep G w (.agg l) v) (hc : l[off]? = some a) :
    ∃ xs u, v = .agg xs ∧ Rep G w a u ∧ ∀ w', (part T xs off).run P w' = .ok u w' := by
  cases h with
  | agg _ vs hl hr =>
    have hlt : off < l.length := by
      rcases Nat.lt_or_ge off l.length with h' | h'
      · exact h'
      · rw [List.getElem?_eq_none h'] at hc; cases hc
    have hlv : off < vs.length := by omega
    have e : l[off] = a := by rw [List.getElem?_eq_getElem hlt] at hc; exact Option.some.inj hc
    refine ⟨vs.toArray, vs[off], rfl, by rw [← e]; exact hr off hlt hlv, fun w' => ?_⟩
    simp [part, hT.run_isAgg, hd, hlv]
theorem run_part_agg {T : TypeId} {d : TypeDesc} {sz b' off : Nat} {z : Option Value} {l : List AV} {w : World} {v : Value} (hT : TyI P T d sz z b') (hd : aggDesc d = true) (h : Rep G w (.agg l) v) :
    ∃ xs u, v = .agg xs ∧ Rep G w (.agg ((l.drop off).take sz)) u ∧ ∀ w', (part T xs off).run P w' = .ok u w' := by
  cases h with
  | agg _ vs hl hr =>
    have hreps : Reps G w ((l.drop off).take sz) ((vs.drop off).take sz) := (Reps.drop ⟨hl, hr⟩ off).take sz
    refine ⟨vs.toArray, .agg ((vs.drop off).take sz).toArray, rfl, .agg _ _ hreps.1 hreps.2, fun w' => ?_⟩
    have e : vs.toArray.extract off (off + sz) = ((vs.drop off).take sz).toArray := by
      apply Array.ext'
      simp [List.extract_eq_take_drop]
    simp [part, hT.run_isAgg, hd, hT.run_size, e]
theorem val_index_arr {T E : TypeId} {d : TypeDesc} {n sz by_ s b' i : Nat} {z z' : Option Value} {x y : Operand} {l : List AV} {a : AV} {kd : IntKind} {m : Int} (hT : TyI P T (.array n E) s z' b') (hE : TyI P E d sz z by_) (hd : aggDesc d = false) (h1 : sz = 1)
    (hx : aeval env x = some (.agg l)) (hy : aeval env y = some (.int kd m)) (hm : m = (i : Int)) (hi : i < n) (hc : l[i]? = some a) : ValM md P c ⟨dst, .index T x y, ty, pos, af, gd⟩ env G a := fun u w hs => by
  subst h1 hm
  obtain ⟨xs, v, e1, e2, e3⟩ := run_part_one (off := i) hE hd (hs.eval hx) hc
  refine ⟨v, e2, fun w' _ => ?_⟩
  have h0 : (0 : Int) ≤ (i : Int) ∧ (i : Int) < (n : Int) := by omega
  simp only [execOp, e1, rep_int (hs.eval hy), Instr.index, asIntOf, Sem.run_bind, Sem.run_pure, Result.andThen_ok, hT.run_und]
  rw [if_pos h0]
  simp [hE.run_size, e3]
theorem val_index_arr_agg {T E : TypeId} {d : TypeDesc} {n sz by_ s b' i : Nat} {z z' : Option Value} {x y : Operand} {l : List AV} {kd : IntKind} {m : Int} (hT : TyI P T (.array n E) s z' b') (hE : TyI P E d sz z by_) (hd : aggDesc d = true)
    (hx : aeval env x = some (.agg l)) (hy : aeval env y = some (.int kd m)) (hm : m = (i : Int)) (hi : i < n) : ValM md P c ⟨dst, .index T x y, ty, pos, af, gd⟩ env G (.agg ((l.drop (i * sz)).take sz)) := fun u w hs => by
  subst hm
  obtain ⟨xs, v, e1, e2, e3⟩ := run_part_agg (off := i * sz) hE hd (hs.eval hx)
  refine ⟨v, e2, fun w' _ => ?_⟩
  have h0 : (0 : Int) ≤ (i : Int) ∧ (i : Int) < (n : Int) := by omega
  simp only [execOp, e1, rep_int (hs.eval hy), Instr.index, asIntOf, Sem.run_bind, Sem.run_pure, Result.andThen_ok, hT.run_und]
  rw [if_pos h0]
  simp [hE.run_size, e3]
theorem run_field {S f o FT : Nat} {fs : Array Go.Field} {s b' : Nat} {z' : Option Value} {xs : Array Value} (hS : TyI P S (.struct fs) s z' b') (hf : (fs[f]?).map (fun x => (x.offset, x.type)) = some (o, FT)) (w : World) :
    (Instr.field S (.agg xs) f).run P w = (part FT xs o).run P w := by
  cases hx : fs[f]? with
  | none => rw [hx] at hf; cases hf
  | some fld =>
    rw [hx] at hf
    simp only [Option.map_some, Option.some.injEq, Prod.mk.injEq] at hf
    obtain ⟨rfl, rfl⟩ := hf
    simp [Instr.field, hS.run_und, hx, asAgg]
theorem val_field {S f o FT : Nat} {fs : Array Go.Field} {d : TypeDesc} {sz by_ s b' : Nat} {z z' : Option Value} {x : Operand} {l : List AV} {a : AV} (hS : TyI P S (.struct fs) s z' b') (hf : (fs[f]?).map (fun x => (x.offset, x.type)) = some (o, FT)) (hF : TyI P FT d sz z by_) (hd : aggDesc d = false)
    (hx : aeval env x = some (.agg l)) (hc : l[o]? = some a) : ValM md P c ⟨dst, .field S x f, ty, pos, af, gd⟩ env G a := fun u w hs => by
  obtain ⟨xs, v, e1, e2, e3⟩ := run_part_one (off := o) hF hd (hs.eval hx) hc
  refine ⟨v, e2, fun w' _ => ?_⟩
  simp only [execOp, e1, Sem.run_bind, run_field hS hf, e3, Result.andThen_ok, Sem.run_pure]
theorem val_field_agg {S f o FT : Nat} {fs : Array Go.Field} {d : TypeDesc} {sz by_ s b' : Nat} {z z' : Option Value} {x : Operand} {l : List AV} (hS : TyI P S (.struct fs) s z' b') (hf : (fs[f]?).map (fun x => (x.offset, x.type)) = some (o, FT)) (hF : TyI P FT d sz z by_) (hd : aggDesc d = true)
    (hx : aeval env x = some (.agg l)) : ValM md P c ⟨dst, .field S x f, ty, pos, af, gd⟩ env G (.agg ((l.drop o).take sz)) := fun u w hs => by
  obtain ⟨xs, v, e1, e2, e3⟩ := run_part_agg (off := o) hF hd (hs.eval hx)
  refine ⟨v, e2, fun w' _ => ?_⟩
  simp only [execOp, e1, Sem.run_bind, run_field hS hf, e3, Result.andThen_ok, Sem.run_pure]
end

section
variable {md : Bool} {P : Program} {c : Ctx} {env B : Env} {L : LPtr} {G : AHeap} {dst : Option Tmp} {ty : TypeId} {pos : String} {af : Array Edge} {gd : Option (Nat × Bool)} {Q : Exit → Act → World → Prop} {K : Act → World → Prop}
theorem v_st_eql {T T' : TypeId} {s b' : Nat} {z : Option Value} {fs : Array Field} {k : IntKind} {l m : List Int} {x y : Operand} {a b : AV} (hT : TyI P T (.struct fs) s z b') (hst : intFields P T = true) (hx : ev env L x = some a) (hy : ev env L y = some b)
    (ha : a = .agg (l.map (.int k))) (hb : b = .agg (m.map (.int k))) (h1 : fs.toList.length = l.length) (h2 : l.length = m.length) : ValLM md P c ⟨dst, .binOp .eql T x y T', ty, pos, af, gd⟩ env L B G (.bool (decide (l = m))) := fun ρ hρ => val_st_eql hT hst (ev_full hx) (ev_full hy) ha hb h1 h2
theorem v_st_neq {T T' : TypeId} {s b' : Nat} {z : Option Value} {fs : Array Field} {k : IntKind} {l m : List Int} {x y : Operand} {a b : AV} (hT : TyI P T (.struct fs) s z b') (hst : intFields P T = true) (hx : ev env L x = some a) (hy : ev env L y = some b)
    (ha : a = .agg (l.map (.int k))) (hb : b = .agg (m.map (.int k))) (h1 : fs.toList.length = l.length) (h2 : l.length = m.length) : ValLM md P c ⟨dst, .binOp .neq T x y T', ty, pos, af, gd⟩ env L B G (.bool (!decide (l = m))) := fun ρ hρ => val_st_neq hT hst (ev_full hx) (ev_full hy) ha hb h1 h2
theorem v_index_arr {T E : TypeId} {d : TypeDesc} {n sz by_ s b' i : Nat} {z z' : Option Value} {x y : Operand} {l : List AV} {a : AV} {kd : IntKind} {m : Int} (hT : TyI P T (.array n E) s z' b') (hE : TyI P E d sz z by_) (hd : aggDesc d = false) (h1 : sz = 1)
    (hx : ev env L x = some (.agg l)) (hy : ev env L y = some (.int kd m)) (hm : m = (i : Int)) (hi : i < n) (hc : l[i]? = some a) : ValLM md P c ⟨dst, .index T x y, ty, pos, af, gd⟩ env L B G a := fun ρ hρ => val_index_arr hT hE hd h1 (ev_full hx) (ev_full hy) hm hi hc
theorem v_index_arr_agg {T E : TypeId} {d : TypeDesc} {n sz by_ s b' i : Nat} {z z' : Option Value} {x y : Operand} {l cs : List AV} {kd : IntKind} {m : Int} (hT : TyI P T (.array n E) s z' b') (hE : TyI P E d sz z by_) (hd : aggDesc d = true)
    (hx : ev env L x = some (.agg l)) (hy : ev env L y = some (.int kd m)) (hm : m = (i : Int)) (hi : i < n) (hc : (l.drop (i * sz)).take sz = cs) : ValLM md P c ⟨dst, .index T x y, ty, pos, af, gd⟩ env L B G (.agg cs) := fun ρ hρ => hc ▸ val_index_arr_agg hT hE hd (ev_full hx) (ev_full hy) hm hi
theorem v_field {S f o FT : Nat} {fs : Array Go.Field} {d : TypeDesc} {sz by_ s b' : Nat} {z z' : Option Value} {x : Operand} {l : List AV} {a : AV} (hS : TyI P S (.struct fs) s z' b') (hf : (fs[f]?).map (fun x => (x.offset, x.type)) = some (o, FT)) (hF : TyI P FT d sz z by_) (hd : aggDesc d = false)
    (hx : ev env L x = some (.agg l)) (hc : l[o]? = some a) : ValLM md P c ⟨dst, .field S x f, ty, pos, af, gd⟩ env L B G a := fun ρ hρ => val_field hS hf hF hd (ev_full hx) hc
theorem v_field_agg {S f o FT : Nat} {fs : Array Go.Field} {d : TypeDesc} {sz by_ s b' : Nat} {z z' : Option Value} {x : Operand} {l cs : List AV} (hS : TyI P S (.struct fs) s z' b') (hf : (fs[f]?).map (fun x => (x.offset, x.type)) = some (o, FT)) (hF : TyI P FT d sz z by_) (hd : aggDesc d = true)
    (hx : ev env L x = some (.agg l)) (hc : (l.drop o).take sz = cs) : ValLM md P c ⟨dst, .field S x f, ty, pos, af, gd⟩ env L B G (.agg cs) := fun ρ hρ => hc ▸ val_field_agg hS hf hF hd (ev_full hx)
end
end Go.Proofs.Ytgedefcjngofkaa.AM

/- The abstract machine, part 18: copy. -/
set_option linter.unusedVariables false
set_option linter.unusedSimpArgs false
namespace Go.Proofs.Ytgedefcjngofkaa.AM
open Go
section
variable {md : Bool} {P : Program} {c : Ctx} {env : Env} {G : AHeap} {dst : Option Tmp} {ty : TypeId} {pos : String} {af : Array Edge} {gd : Option (Nat × Bool)} {Q : Exit → Act → World → Prop} {K : Act → World → Prop}

/-- The first k elements of a slice. -/
theorem run_first {b : AV} {v : Value} {m : List AV} {sz : Nat} {w : World} (hs : Sim G w) (hr : Rep G w b v) (hm : b.view G = some m) (hme : Even sz m) (k : Nat) (hk : k ≤ m.length) :
    ∃ A cp vs, v = .slice A m.length cp ∧ Reps G w (flat (m.take k)) vs ∧ vs.length = k * sz ∧ (Builtin.firstCells sz k v).run P w = .ok vs.toArray w := by
  rcases Nat.eq_zero_or_pos m.length with h0 | h0
  · obtain ⟨A, cp, hu⟩ := view_len hs hr hm
    have hk0 : k = 0 := by omega
    subst hk0
    refine ⟨A, cp, [], hu, by simp [flat, Reps.nil], by simp, ?_⟩
    subst hu
    cases A with
    | none => exact run_firstCells_none _ _ _ _ _
    | some ad => exact run_firstCells_some w sz 0 ad _ cp [] (by simp) (fun j v h => by simp at h)
  · obtain ⟨ad, cu, vs, hu, hvs, hvl, hcells⟩ := view_cells hs hr hm hme h0
    refine ⟨some ad, cu, vs.take (k * sz), hu, by rw [flat_take hme]; exact hvs.take _, ?_, ?_⟩
    · rw [List.length_take, hvl, Nat.min_eq_left (Nat.mul_le_mul_right _ hk)]
    · subst hu
      refine run_firstCells_some w sz k ad _ cu _ ?_ fun j v hj => hcells j v ?_
      · rw [List.length_take, hvl, Nat.min_eq_left (Nat.mul_le_mul_right _ hk)]
      · rw [List.getElem?_take] at hj
        split at hj
        · exact hj
        · cases hj

theorem step_copy {T E T2 s b' by_ sz d r o n : Nat} {z' z : Option Value} {de : TypeDesc} {x y : Operand} {b : AV} {l m : List AV} (hT : TyI P T (.slice E) s z' b') (hE : TyI P E de sz z by_) (hd : Nat.blt d c.nt = true)
    (hx : aeval env x = some (.own r sz o n)) (hG : G r = some (.row sz l)) (hon : o + n ≤ l.length) (hy : aeval env y = some b) (hm : b.view G = some m) (hme : Even sz m) (hcell : ∀ x ∈ m, x.cells.all AV.isCell = true)
    (hD : c.D r ∨ c.w0.heap.size ≤ r) (h : Goal c ((d, .int .i64 (min m.length n : Nat)) :: env) (G.set r (.row sz (l.take o ++ m.take (min m.length n) ++ l.drop (o + (m.take (min m.length n)).length)))) K) :
    Step P c ⟨some d, .call ⟨.builtin .copy, #[x, y], #[T, T2]⟩, ty, pos, af, gd⟩ Q env G K := fun a w hs => by
  have hrx := hs.eval hx
  have hry := hs.eval hy
  obtain ⟨k, hk⟩ : ∃ k, k = min m.length n := ⟨_, rfl⟩
  rw [← hk] at h
  obtain ⟨A, cp, vs, hu, hvs, hvl, hrun⟩ := run_first (P := P) hs.sim hry hm hme k (by omega)
  obtain ⟨C, Tc, os, rest, hh, hle, hC, hos⟩ := row_block hs.sim hG
  have hol : os.length = l.length * sz := by rw [← hos.1, flat_len hle]
  have hCs : C.size = os.length + rest.length := by rw [← Array.length_toList, hC]; simp
  have hfit : o * sz + vs.length ≤ C.size := by
    rw [hvl, ← Nat.add_mul, hCs, hol]
    exact Nat.le_trans (Nat.mul_le_mul_right sz (show o + k ≤ l.length by omega)) (Nat.le_add_right _ _)
  have hmk : Even sz (m.take k) := hme.take k
  have hone : ∀ u ∈ vs, u.oneCell' = true := hvs.oneCell (List.all_eq_true.2 fun x hx => by
    obtain ⟨y, hy1, hy2⟩ := flat_mem hx
    exact List.all_eq_true.1 (hcell y (List.mem_of_mem_take hy1)) x hy2)
  generalize hv : a.eval x = v at hrx
  cases hrx with
  | own _ _ _ _ cap hc hsh =>
    have hst := run_storeCells_at P r (o * sz) Tc vs 0 C w hh (by simpa using hfit) hone
    simp only [Nat.add_zero] at hst
    have hlen : (Builtin.lenOf (a.eval y)).run P w = .ok m.length w := by rw [hu]; simp [Builtin.lenOf]
    have hcopy : (Builtin.copy_ #[T, T2] ty #[.slice (some ⟨r, o * sz, none⟩) n cap, a.eval y]).run P w = .ok (.int .i64 (k : Int)) (w.setRow r (C.toList.take (o * sz) ++ vs ++ C.toList.drop (o * sz + vs.length)).toArray) := by
      have hkk : Nat.min m.length n = k := hk.symm
      simp [Builtin.copy_, hT.run_und, hE.run_size, hlen, hkk, hrun, hst, goInt]
    have hexec : (execOp a.eval ⟨some d, .call ⟨.builtin .copy, #[x, y], #[T, T2]⟩, ty, pos, af, gd⟩).run P w = .ok (.value (.int .i64 (k : Int))) (w.setRow r (C.toList.take (o * sz) ++ vs ++ C.toList.drop (o * sz + vs.length)).toArray) := by
      have e : #[x, y].map a.eval = #[.slice (some ⟨r, o * sz, none⟩) n cap, a.eval y] := by simp [hv]
      simp [execOp, resolve, invoke, builtin, hv, hcopy]
    unfold Oper.wp
    rw [hexec, Oper.upon_value]
    obtain ⟨hsim, hext⟩ := row_store hs.sim hG hh hle hmk hC hos hvs (show o ≤ l.length by omega) hfit
    exact h _ _ ((hs.move hsim hext (fun b hb e => by subst e; exact hD.resolve_right (by omega))).put hd (.int _ _))
/-- Onto a slice without elements. -/
theorem val_copy_nil {T E T2 s b' by_ sz : Nat} {z' z : Option Value} {de : TypeDesc} {x y : Operand} {b : AV} {m : List AV} (hT : TyI P T (.slice E) s z' b') (hE : TyI P E de sz z by_)
    (hx : aeval env x = some (.imm [])) (hy : aeval env y = some b) (hm : b.view G = some m) (hme : Even sz m) (a : Act) (w : World) (hs : St c env G a w) :
    (execOp a.eval ⟨dst, .call ⟨.builtin .copy, #[x, y], #[T, T2]⟩, ty, pos, af, gd⟩).run P w = .ok (.value (.int .i64 0)) w := by
  have hrx := hs.eval hx
  have hry := hs.eval hy
  obtain ⟨A, cp, vs, hu, hvs, hvl, hrun⟩ := run_first (P := P) hs.sim hry hm hme 0 (by omega)
  have hvs0 : vs = [] := List.eq_nil_of_length_eq_zero (by omega)
  subst hvs0
  have hlen : (Builtin.lenOf (a.eval y)).run P w = .ok m.length w := by rw [hu]; simp [Builtin.lenOf]
  obtain ⟨A', c', hv⟩ : ∃ A' c', a.eval x = .slice A' 0 c' := by
    generalize a.eval x = v at hrx
    cases hrx with
    | imm0 A c => exact ⟨A, c, rfl⟩
    | imm _ ad c sz u hc hG hb hsz hcell hrep => exact ⟨_, _, rfl⟩
  have hmin : Nat.min m.length 0 = 0 := by simp [Nat.min_def]
  have hcopy : (Builtin.copy_ #[T, T2] ty #[.slice A' 0 c', a.eval y]).run P w = .ok (.int .i64 0) w := by
    cases A' <;> simp [Builtin.copy_, hT.run_und, hE.run_size, hlen, hmin, hrun, goInt, storeCells]
  simp [execOp, resolve, invoke, builtin, hv, hcopy]
theorem val_slice_empty {T E : TypeId} {d : TypeDesc} {sz by_ s b' lo r o n : Nat} {z z' : Option Value} {x : Operand} {low high : Option Operand} {m1 m2 : Int} (hT : TyI P T (.slice E) s z' b') (hE : TyI P E d sz z by_)
    (hx : aeval env x = some (.own r sz o n)) (hlo : aevb env 0 low = some m1) (hhi : aevb env (n : Int) high = some m2) (h1 : m1 = (lo : Int)) (h2 : m2 = (lo : Int)) (hc : lo ≤ n) :
    ValM md P c ⟨dst, .slice T x low high none, ty, pos, af, gd⟩ env G (.imm []) := fun a w hs => by
  have hr := hs.eval hx
  generalize hu : a.eval x = u at hr
  cases hr with
  | own _ _ _ _ cp hcp hsh =>
    have hb := fun w' => run_bounds (P := P) (iss := true) (cap := cp) (lo := lo) (hi := lo) hs hlo hhi h1 h2 (Nat.le_refl _) (by omega) w'
    refine ⟨_, ?_, fun w' _ => by
      simp only [execOp, hu, Instr.sliceAt, Sem.run_bind, hT.run_und, Result.andThen_ok, Instr.slice, Option.map_none, hb w', hE.run_size, Sem.run_pure]; rfl⟩
    rw [Nat.sub_self]
    exact .imm0 _ _
end

section
variable {md : Bool} {P : Program} {c : Ctx} {env B : Env} {L : LPtr} {G : AHeap} {dst : Option Tmp} {ty : TypeId} {pos : String} {af : Array Edge} {gd : Option (Nat × Bool)} {Q : Exit → Act → World → Prop} {K : Act → World → Prop}
theorem v_slice_empty {T E : TypeId} {d : TypeDesc} {sz by_ s b' lo r o n : Nat} {z z' : Option Value} {x : Operand} {low high : Option Operand} {m1 m2 : Int} (hT : TyI P T (.slice E) s z' b') (hE : TyI P E d sz z by_)
    (hx : ev env L x = some (.own r sz o n)) (hlo : evb env L 0 low = some m1) (hhi : evb env L (n : Int) high = some m2) (h1 : m1 = (lo : Int)) (h2 : m2 = (lo : Int)) (hc : lo ≤ n) :
    ValLM md P c ⟨dst, .slice T x low high none, ty, pos, af, gd⟩ env L B G (.imm []) := fun ρ hρ => val_slice_empty hT hE (ev_full hx) (evb_full hlo) (evb_full hhi) h1 h2 hc
theorem s_copy {T E T2 s b' by_ sz d r o n k : Nat} {z' z : Option Value} {de : TypeDesc} {x y : Operand} {b : AV} {l m l' : List AV} (hT : TyI P T (.slice E) s z' b') (hE : TyI P E de sz z by_) (hd : Nat.blt d c.nt = true)
    (hx : ev env L x = some (.own r sz o n)) (hG : G r = some (.row sz l)) (hon : o + n ≤ l.length) (hy : ev env L y = some b) (hm : b.view G = some m) (hme : Even sz m) (hcell : ∀ x ∈ m, x.cells.all AV.isCell = true)
    (hD : c.D r ∨ c.w0.heap.size ≤ r) (hk : k = min m.length n) (hl' : l.take o ++ m.take k ++ l.drop (o + k) = l') (h : GoalL c ((d, .int .i64 (k : Nat)) :: env) (ldel L d) B (G.set r (.row sz l')) K) :
    StepL P c ⟨some d, .call ⟨.builtin .copy, #[x, y], #[T, T2]⟩, ty, pos, af, gd⟩ Q env L B G K := fun ρ hρ => by
  have hne : ∀ s v, B.get s = some v → r ≠ ρ s := fun s v hv e => by have := (hρ.fresh s v hv).1; rw [← e, hG] at this; cases this
  obtain ⟨h3, h4⟩ := boxes_setG (x := .row sz l') hρ hne
  refine step_copy hT hE hd (ev_full hx) (boxes_sub hρ _ _ hG) hon (ev_full hy) (view_sub (boxes_sub hρ) hm) hme hcell hD ?_
  have e : (m.take (min m.length n)).length = k := by rw [List.length_take, hk]; omega
  rw [e, ← hk, hl', h4]
  exact Goal.env full_put (h ρ h3)
theorem s_copy_nil {T E T2 s b' by_ sz d : Nat} {z' z : Option Value} {de : TypeDesc} {x y : Operand} {b : AV} {m : List AV} (hT : TyI P T (.slice E) s z' b') (hE : TyI P E de sz z by_) (hd : Nat.blt d c.nt = true)
    (hx : ev env L x = some (.imm [])) (hy : ev env L y = some b) (hm : b.view G = some m) (hme : Even sz m) (h : GoalL c ((d, .int .i64 0) :: env) (ldel L d) B G K) :
    StepL P c ⟨some d, .call ⟨.builtin .copy, #[x, y], #[T, T2]⟩, ty, pos, af, gd⟩ Q env L B G K := fun ρ hρ a w hs => by
  unfold Oper.wp
  rw [val_copy_nil hT hE (ev_full hx) (ev_full hy) (view_sub (boxes_sub hρ) hm) hme a w hs, Oper.upon_value]
  exact Goal.env full_put (h ρ hρ) _ _ (hs.put hd (.int _ _))
/-- make: a row of the call's own, as it is. -/
theorem s_makeO {T E : TypeId} {de : TypeDesc} {s b' sz by_ d n : Nat} {z : Option Value} {zv : Value} {x : Operand} {k : IntKind} {m : Int} {za : AV} (hT : TyI P T (.slice E) s z b') (hE : TyI P E de sz (some zv) by_) (hd : Nat.blt d c.nt = true)
    (hx : ev env L x = some (.int k m)) (hm : m = (n : Int)) (hz : zAV zv = za) (hzs : za.cells.length = sz) (hzu : za.isUnk = false) (hb : n * by_ ≤ 140737488355328) (hn : n ≤ 140737488355328)
    (h : ∀ r, G r = none → c.w0.heap.size ≤ r → GoalL c ((d, .own r sz 0 n) :: env) (ldel L d) B (G.set r (.row sz (List.replicate n za))) K) : StepL P c ⟨some d, .makeSlice T x x, ty, pos, af, gd⟩ Q env L B G K := fun ρ hρ =>
  step_makeSlice hT hE hd (ev_full hx) hm hz hzs hzu hb hn fun r hr hn' => by
    rw [List.length_replicate]
    exact Goal.env full_put (goal_set hρ hr (h r (sub_none (boxes_sub hρ) hr) hn'))
end
end Go.Proofs.Ytgedefcjngofkaa.AM

/- The abstract machine, part 19: arrays built; slices whose room is known. -/
set_option linter.unusedVariables false
set_option linter.unusedSimpArgs false
namespace Go.Proofs.Ytgedefcjngofkaa.AM
open Go
section
variable {md : Bool} {P : Program} {c : Ctx} {env : Env} {G : AHeap} {dst : Option Tmp} {ty : TypeId} {pos : String} {af : Array Edge} {gd : Option (Nat × Bool)} {Q : Exit → Act → World → Prop} {K : Act → World → Prop}
theorem val_build_arr {T E n : Nat} {de : TypeDesc} {sz b' szE byE : Nat} {zE : Option Value} {zv : Value} {parts : Array (Nat × Operand)} {vs : List (Nat × AV)} {zs cells : List AV}
    (hT : TyI P T (.array n E) sz (some zv) b') (hE : TyI P E de szE zE byE) (hz : zAV zv = .agg zs) (hvs : parts.toList.mapM (fun x => (aeval env x.2).map fun v => (x.1, v)) = some vs)
    (hf : afill (fun i => some (i * szE, szE)) zs vs = some cells) : ValM md P c ⟨dst, .build T parts, ty, pos, af, gd⟩ env G (.agg cells) := fun a w hs => by
  obtain ⟨h1, h2⟩ := eval_list hs _ _ hvs
  have hzr := zAV_rep G w zv
  rw [hz] at hzr
  have hzc := hzr.cells' rfl
  obtain ⟨vo, h3, h4⟩ := afill_rep (fun i => some (i * szE, szE)) vs _ zs cells zv.cells h1 h2 hzc hf
  refine ⟨.agg vo, by have := Rep.agg cells vo.toList h4.1 h4.2; simpa using this, fun w' _ => ?_⟩
  simp only [execOp, Instr.build, Sem.run_bind, hT.run_zero, Result.andThen_ok, hT.run_und, hE.run_size]
  have e : (parts.map fun x => (x.1, a.eval x.2)).toList = parts.toList.map fun x => (x.1, a.eval x.2) := by simp
  simp only [e, h3]
  rfl
end
section
variable {md : Bool} {P : Program} {c : Ctx} {env B : Env} {L : LPtr} {G : AHeap} {dst : Option Tmp} {ty : TypeId} {pos : String} {af : Array Edge} {gd : Option (Nat × Bool)} {Q : Exit → Act → World → Prop} {K : Act → World → Prop}
theorem v_build_arr {T E n : Nat} {de : TypeDesc} {sz b' szE byE : Nat} {zE : Option Value} {zv : Value} {parts : Array (Nat × Operand)} {vs : List (Nat × AV)} {zs cells : List AV}
    (hT : TyI P T (.array n E) sz (some zv) b') (hE : TyI P E de szE zE byE) (hz : zAV zv = .agg zs) (hvs : parts.toList.mapM (fun x => (ev env L x.2).map fun v => (x.1, v)) = some vs)
    (hf : afill (fun i => some (i * szE, szE)) zs vs = some cells) : ValLM md P c ⟨dst, .build T parts, ty, pos, af, gd⟩ env L B G (.agg cells) := fun ρ hρ => val_build_arr hT hE hz (evp_full hvs) hf
theorem bytes_beq (m n : ByteArray) : (m.toList == n.toList) = decide (m = n) := by
  have : m.toList = n.toList ↔ m = n := by
    rw [ByteArray.toList_eq, ByteArray.toList_eq]
    constructor
    · intro h; cases m; cases n; simp at h; simp [h]
    · intro h; rw [h]
  by_cases h : m = n
  · subst h; simp
  · simp [h, this]
theorem v_seq {T T' : TypeId} {x y : Operand} {m n : ByteArray} (hx : ev env L x = some (.str m)) (hy : ev env L y = some (.str n)) : ValLM md P c ⟨dst, .binOp .eql T x y T', ty, pos, af, gd⟩ env L B G (.bool (decide (m = n))) := by
  rw [← bytes_beq]; exact v_str_eql hx hy
theorem v_sne {T T' : TypeId} {x y : Operand} {m n : ByteArray} (hx : ev env L x = some (.str m)) (hy : ev env L y = some (.str n)) : ValLM md P c ⟨dst, .binOp .neq T x y T', ty, pos, af, gd⟩ env L B G (.bool (!decide (m = n))) := by
  rw [← bytes_beq]; exact v_str_neq hx hy
end
end Go.Proofs.Ytgedefcjngofkaa.AM

/- The abstract machine, part 20: slices whose room is known: cap, slicing up to it, append where it is known whether there is room; clear; overlaps. -/
set_option linter.unusedVariables false
set_option linter.unusedSimpArgs false
namespace Go.Proofs.Ytgedefcjngofkaa.AM
open Go
theorem ASub.ownc (r sz o n cp : Nat) : ASub (.ownc r sz o n cp) (.own r sz o n) := fun _ _ _ h => by
  cases h with
  | ownc _ _ _ _ _ hc hs => exact .own _ _ _ _ _ hc hs
section
variable {md : Bool} {P : Program} {c : Ctx} {env : Env} {G : AHeap} {dst : Option Tmp} {ty : TypeId} {pos : String} {af : Array Edge} {gd : Option (Nat × Bool)} {Q : Exit → Act → World → Prop} {K : Act → World → Prop}
theorem val_cap {T E r sz o n cp : Nat} {s b' : Nat} {z : Option Value} {x : Operand} (hT : TyI P T (.slice E) s z b') (hx : aeval env x = some (.ownc r sz o n cp)) :
    ValM md P c ⟨dst, .call ⟨.builtin .cap, #[x], #[T]⟩, ty, pos, af, gd⟩ env G (.int .i64 (cp : Int)) := fun a w hs => by
  have hr := hs.eval hx
  generalize hu : a.eval x = u at hr
  cases hr with
  | ownc _ _ _ _ _ hc hsh =>
    refine ⟨_, .int .., fun w' _ => ?_⟩
    simp [execOp, resolve, invoke, builtin, Builtin.cap_, hu, hT.run_und, goInt]
theorem val_slice_ownc {T E : TypeId} {d : TypeDesc} {sz by_ s b' lo hi r o n cp : Nat} {z z' : Option Value} {x : Operand} {low high : Option Operand} {m1 m2 : Int} (hT : TyI P T (.slice E) s z' b') (hE : TyI P E d sz z by_)
    (hx : aeval env x = some (.ownc r sz o n cp)) (hlo : aevb env 0 low = some m1) (hhi : aevb env (n : Int) high = some m2) (h1 : m1 = (lo : Int)) (h2 : m2 = (hi : Int)) (hle : lo ≤ hi) (hc : hi ≤ cp) (hne : lo = 0 ∨ lo < cp) :
    ValM md P c ⟨dst, .slice T x low high none, ty, pos, af, gd⟩ env G (.ownc r sz (o + lo) (hi - lo) (cp - lo)) := fun a w hs => by
  have hr := hs.eval hx
  generalize hu : a.eval x = u at hr
  cases hr with
  | ownc _ _ _ _ _ hcp hsh =>
    obtain ⟨T', N, g1, g2⟩ := hsh
    have hb := fun w' => run_bounds (P := P) (iss := true) (cap := cp) hs hlo hhi h1 h2 hle hc w'
    refine ⟨_, ?_, fun w' _ => by
      simp only [execOp, hu, Instr.sliceAt, Sem.run_bind, hT.run_und, Result.andThen_ok, Instr.slice, Option.map_none, hb w', hE.run_size, Sem.run_pure]; rfl⟩
    have e : (if cp = lo then (some (⟨r, o * sz, none⟩ : Addr)) else (some (⟨r, o * sz, none⟩ : Addr)).map (·.add (lo * sz))) = some ⟨r, (o + lo) * sz, none⟩ := by
      split
      · have : lo = 0 := by omega
        subst this; simp
      · simp [add_mk, Nat.add_mul]
    rw [e]
    exact .ownc r sz (o + lo) (hi - lo) (cp - lo) (by omega) ⟨T', N, g1, Nat.le_trans (Nat.mul_le_mul_right _ (by omega)) g2⟩
/-- An element of which nothing is known. -/
def unkE (sz : Nat) : AV := .agg (List.replicate sz .unk)
theorem ext_know {r : Nat} {x y : ARow} {w : World} (h : G r = some x) : Ext G w (fun _ => False) (G.set r y) w where
  os := rfl
  tape := rfl
  output := rfl
  size := Nat.le_refl _
  same := fun _ _ _ => rfl
  shape := fun _ _ => rfl
  dom := fun b _ hg => by
    have : b ≠ r := fun e => by subst e; rw [h] at hg; cases hg
    rw [AHeap.get_set_ne _ _ this]; exact hg
  lists := fun _ h => h.elim
theorem sim_room {w : World} {r sz o n cp k t : Nat} {l : List AV} (hs : Sim G w) (hG : G r = some (.row sz l)) (hl : l.length = o + n) (hk : n + k ≤ cp) {v : Value} (hr : Rep G w (.ownc r sz o n cp) v) :
    Sim (G.set r (.row sz (l ++ List.replicate k (unkE sz)))) w := fun b x hb => by
  have he : Ext G w (fun _ => False) (G.set r (.row sz (l ++ List.replicate k (unkE sz)))) w := ext_know hG
  by_cases hbr : b = r
  · subst hbr
    rw [AHeap.get_set] at hb
    injection hb with hb
    subst hb
    obtain ⟨C, T, h1, h2, h3, h4⟩ := hs b _ hG
    cases hr with
    | ownc _ _ _ _ _ hc hsh =>
      obtain ⟨T', N, g1, g2⟩ := hsh
      have hN : N = C.size := by unfold World.shape? at g1; rw [h1] at g1; simp at g1; exact g1.2.symm
      have hu : (unkE sz).cells.length = sz := by simp [unkE, AV.cells]
      have hfit : (l ++ List.replicate k (unkE sz)).length * sz ≤ C.size := by
        rw [← hN]; simp only [List.length_append, List.length_replicate]
        exact Nat.le_trans (Nat.mul_le_mul_right _ (by omega)) g2
      refine ⟨C, T, h1, hfit, fun i hi => ?_, fun i hi j hj => ?_⟩
      · rcases Nat.lt_or_ge i l.length with h' | h'
        · rw [List.getElem_append_left h']; exact h3 i h'
        · rw [List.getElem_append_right h', List.getElem_replicate]; exact hu
      · rcases Nat.lt_or_ge i l.length with h' | h'
        · simp only [List.getElem_append_left h'] at hj ⊢
          obtain ⟨v, hv, hr⟩ := h4 i h' j hj
          exact ⟨v, hv, hr.mono he⟩
        · simp only [List.getElem_append_right h', List.getElem_replicate] at hj ⊢
          have hlt : i * sz + j < C.size := by
            have h5 : (i + 1) * sz ≤ (l ++ List.replicate k (unkE sz)).length * sz := Nat.mul_le_mul_right _ hi
            rw [Nat.add_mul] at h5
            rw [hu] at hj
            omega
          refine ⟨C[i * sz + j], Array.getElem?_eq_getElem hlt, ?_⟩
          have : (unkE sz).cells[j] = .unk := by simp [unkE, AV.cells]
          rw [this]; exact .unk _
  · rw [AHeap.get_set_ne _ _ hbr] at hb
    exact (hs b x hb).mono he rfl
theorem run_view_cells {w : World} {r sz : Nat} {l : List AV} (hs : Sim G w) (hG : G r = some (.row sz l)) (o n : Nat) (h : o + n ≤ l.length) :
    ∃ vs, Reps G w (flat ((l.drop o).take n)) vs ∧ vs.length = n * sz ∧ ∀ j v, vs[j]? = some v → w.cell? ((⟨r, o * sz, none⟩ : Addr).add j) = some v := by
  obtain ⟨C, Tc, os, rest, hh, hle, hC, hos⟩ := row_block hs hG
  have hol : os.length = l.length * sz := by rw [← hos.1, flat_len hle]
  have hfit : o * sz + n * sz ≤ l.length * sz := by rw [← Nat.add_mul]; exact Nat.mul_le_mul_right _ h
  refine ⟨(os.drop (o * sz)).take (n * sz), ?_, by rw [List.length_take, List.length_drop]; omega, fun j v hj => ?_⟩
  · rw [flat_take (hle.drop o), flat_drop hle]; exact (hos.drop _).take _
  · have hjn : j < n * sz := by
      rcases Nat.lt_or_ge j (n * sz) with h' | h'
      · exact h'
      · rw [List.getElem?_eq_none (by rw [List.length_take]; omega)] at hj; cases hj
    rw [List.getElem?_take, if_pos hjn, List.getElem?_drop] at hj
    rw [add_mk]
    have : C[o * sz + j]? = some v := by
      rw [← Array.getElem?_toList, hC, List.getElem?_append_left (by omega)]; exact hj
    simp [World.cell?, hh, this]
theorem step_append_in {T E s b' by_ sz d r o n cp : Nat} {z' z : Option Value} {de : TypeDesc} {x y : Operand} {b : AV} {l m : List AV} (hT : TyI P T (.slice E) s z' b') (hE : TyI P E de sz z by_) (hd : Nat.blt d c.nt = true)
    (hx : aeval env x = some (.ownc r sz o n cp)) (hG : G r = some (.row sz l)) (hon : o + n + m.length ≤ l.length) (hcp : n + m.length ≤ cp) (hy : aeval env y = some b) (hm : b.view G = some m) (hme : Even sz m) (hcell : ∀ x ∈ m, x.cells.all AV.isCell = true)
    (hD : c.D r ∨ c.w0.heap.size ≤ r) (h : Goal c ((d, .ownc r sz o (n + m.length) cp) :: env) (G.set r (.row sz (l.take (o + n) ++ m ++ l.drop (o + n + m.length)))) K) :
    Step P c ⟨some d, .call ⟨.builtin .append, #[x, y], #[T, T]⟩, ty, pos, af, gd⟩ Q env G K := fun a w hs => by
  have hrx := hs.eval hx
  have hry := hs.eval hy
  obtain ⟨A, cu, vs, hu, hvs, hvl, hrun⟩ := run_first (P := P) hs.sim hry hm hme m.length (Nat.le_refl _)
  rw [List.take_length] at hvs
  obtain ⟨C, Tc, os, rest, hh, hle, hC, hos⟩ := row_block hs.sim hG
  have hol : os.length = l.length * sz := by rw [← hos.1, flat_len hle]
  have hCs : C.size = os.length + rest.length := by rw [← Array.length_toList, hC]; simp
  have hfit : (o + n) * sz + vs.length ≤ C.size := by
    rw [hvl, ← Nat.add_mul, hCs, hol]
    exact Nat.le_trans (Nat.mul_le_mul_right sz hon) (Nat.le_add_right _ _)
  have hone : ∀ u ∈ vs, u.oneCell' = true := hvs.oneCell (List.all_eq_true.2 fun x hx => by
    obtain ⟨y, hy1, hy2⟩ := flat_mem hx
    exact List.all_eq_true.1 (hcell y hy1) x hy2)
  generalize hv : a.eval x = v at hrx
  cases hrx with
  | ownc _ _ _ _ _ hc hsh =>
    obtain ⟨T', N, hsh1, hsh2⟩ := hsh
    have hst := run_storeCells_at P r ((o + n) * sz) Tc vs 0 C w hh (by simpa using hfit) hone
    simp only [Nat.add_zero] at hst
    have hlen : (Builtin.lenOf (a.eval y)).run P w = .ok m.length w := by rw [hu]; simp [Builtin.lenOf]
    have e1 : o * sz + n * sz = (o + n) * sz := (Nat.add_mul _ _ _).symm
    have happ : (Builtin.append_ #[T, T] ty #[.slice (some ⟨r, o * sz, none⟩) n cp, a.eval y]).run P w = .ok (.slice (some ⟨r, o * sz, none⟩) (n + m.length) cp) (w.setRow r (C.toList.take ((o + n) * sz) ++ vs ++ C.toList.drop ((o + n) * sz + vs.length)).toArray) := by
      simp [Builtin.append_, hT.run_und, hE.run_size, hlen, hcp, hrun, add_mk, e1, hst]
    unfold Oper.wp
    rw [append_exec hv rfl happ, Oper.upon_value]
    obtain ⟨hsim, hext⟩ := row_store hs.sim hG hh hle hme hC hos hvs (show o + n ≤ l.length by omega) hfit
    refine h _ _ ((hs.move hsim hext (fun b hb e => by subst e; exact hD.resolve_right (by omega))).put hd ?_)
    exact .ownc r sz o (n + m.length) cp hcp ⟨T', N, (hext.shape r (shape_lt hsh1)).trans hsh1, hsh2⟩
theorem step_append_out {T E s b' by_ sz d r o n cp : Nat} {z' : Option Value} {zv : Value} {de : TypeDesc} {x y : Operand} {b : AV} {l m : List AV} (hT : TyI P T (.slice E) s z' b') (hE : TyI P E de sz (some zv) by_) (hd : Nat.blt d c.nt = true)
    (hx : aeval env x = some (.ownc r sz o n cp)) (hG : G r = some (.row sz l)) (hon : o + n ≤ l.length) (hcp : cp < n + m.length) (hy : aeval env y = some b) (hm : b.view G = some m) (hme : Even sz m)
    (hzs : zv.cells.size = sz) (hb1 : n + m.length ≤ 140737488355328) (hb2 : (n + m.length) * by_ ≤ 140737488355328)
    (h : ∀ p, G p = none → c.w0.heap.size ≤ p → Goal c ((d, .own p sz 0 ((l.drop o).take n ++ m).length) :: env) (G.set p (.row sz ((l.drop o).take n ++ m))) K) :
    Step P c ⟨some d, .call ⟨.builtin .append, #[x, y], #[T, T]⟩, ty, pos, af, gd⟩ Q env G K := fun a w hs => by
  obtain ⟨i0, g1, g2, g3, g4, g5⟩ := hE.run_info w
  have hrx := hs.eval hx
  have hry := hs.eval hy
  obtain ⟨C0, T0, os0, rest0, hh0, hle, hC0, hos0⟩ := row_block hs.sim hG
  obtain ⟨os, hos, hol, holds⟩ := run_view_cells hs.sim hG o n hon
  generalize hv : a.eval x = v at hrx
  cases hrx with
  | ownc _ _ _ _ _ hc hsh =>
    obtain ⟨ad, cu, vs, hu, hvs, hvl, hcells⟩ := view_cells hs.sim hry hm hme (by omega)
    have hvl' : vs.length = m.length * i0.size := by rw [g3]; exact hvl
    have hdrew : St c env G a w.drew := hs.move (D := fun _ => False) (sim_drew hs.sim) ext_drew (fun _ _ h => h.elim)
    have hby : (n + m.length) * i0.bytes ≤ 140737488355328 := by rw [g5]; exact hb2
    have hr := run_append_grow (P := P) w T ty E i0 zv hT.und g2 g4 ⟨r, o * sz, none⟩ n cp os (by rw [g3]; exact hol) holds ad m.length cu vs hvl' hcells hcp (by omega) (growslice_fits (by omega) hby)
    unfold Oper.wp
    rw [append_exec hv hu hr, Oper.upon_value]
    have hge := grownCap_ge w (n + m.length) cp E
    have hln : ((l.drop o).take n).length = n := by rw [List.length_take, List.length_drop]; omega
    have hreps : Reps G w.drew (flat ((l.drop o).take n ++ m)) (os ++ vs) := by rw [flat_append]; exact (hos.append hvs).mono ext_drew
    have hsz : grownCap w (n + m.length) cp E * sz ≤ (os.toArray ++ vs.toArray ++ Builtin.zeroCells zv.cells (grownCap w (n + m.length) cp E - (n + m.length))).size := by
      simp only [Array.size_append, List.size_toArray, size_zeroCells, hzs, hol, hvl, ← Nat.add_mul]
      exact Nat.mul_le_mul_right _ (by omega)
    have hev : Even sz ((l.drop o).take n ++ m) := ((hle.drop o).take n).append hme
    have h7 := hdrew.newRow (C := os.toArray ++ vs.toArray ++ Builtin.zeroCells zv.cells (grownCap w (n + m.length) cp E - (n + m.length))) (T := E) (cap := grownCap w (n + m.length) cp E) hd hev
      (vs := os ++ vs) (rest := (Builtin.zeroCells zv.cells (grownCap w (n + m.length) cp E - (n + m.length))).toList) (by simp) hreps (by rw [List.length_append, hln]; exact hge) hsz
    have h8 := h w.drew.heap.size (hdrew.sim.none (Nat.le_refl _)) hdrew.fresh _ _ h7
    rw [List.length_append, hln] at h8
    simpa using h8
theorem reps_zeros {w : World} {zv : Value} {za : AV} {sz : Nat} (hz : zAV zv = za) (hzs : za.cells.length = sz) (hzu : za.isUnk = false) (n : Nat) : Reps G w (flat (List.replicate n za)) (Builtin.zeroCells zv.cells n).toList := by
  have hzr := (zAV_rep G w zv); rw [hz] at hzr
  have hzc := hzr.cells' hzu
  have hvz : zv.cells.size = sz := by have := hzc.1; simp at this; omega
  refine ⟨?_, fun i h1 h2 => ?_⟩
  · rw [flat_len (sz := sz) (fun y hy => by rw [List.eq_of_mem_replicate hy]; exact hzs)]; simp [size_zeroCells, hvz]
  · have hsp : 0 < sz := by
      rcases Nat.eq_zero_or_pos sz with h0 | h0
      · subst h0; simp [size_zeroCells, hvz] at h2
      · exact h0
    have hi : i < n * sz := by simpa [size_zeroCells, hvz] using h2
    have hq : i / sz < (List.replicate n za).length := by simpa using (Nat.div_lt_iff_lt_mul hsp).2 hi
    have hr : i % sz < (List.replicate n za)[i / sz].cells.length := by simp only [List.getElem_replicate, hzs]; exact Nat.mod_lt _ hsp
    have hkk : i / sz * sz + i % sz = i := by rw [Nat.mul_comm]; exact Nat.div_add_mod i sz
    have h3 := flat_get (sz := sz) (l := List.replicate n za) (fun y hy => by rw [List.eq_of_mem_replicate hy]; exact hzs) (i / sz) hq (i % sz) hr (by rw [hkk]; exact h1)
    simp only [hkk, List.getElem_replicate] at h3
    rw [h3]
    have hlt : i % sz < zv.cells.toList.length := by simp [hvz]; exact Nat.mod_lt _ hsp
    have := hzc.2 (i % sz) (by rw [hzs]; exact Nat.mod_lt _ hsp) hlt
    have e2 : zv.cells.toList[i % sz] = zv.cells[i % zv.cells.size]! := by
      rw [hvz, getElem!_pos _ _ (by rw [hvz]; exact Nat.mod_lt _ hsp)]; simp
    rw [e2] at this
    simpa [Builtin.zeroCells] using this
theorem step_append_zeros {T TN E s b' by_ sz d r o n cp k : Nat} {kn kq : IntKind} {sn bn : Nat} {zn : Option Value} {z' : Option Value} {zv : Value} {za : AV} {de : TypeDesc} {x y : Operand} {l : List AV} {mk : Int} (hT : TyI P T (.slice E) s z' b') (hN : TyI P TN (.int kn) sn zn bn) (hE : TyI P E de sz (some zv) by_) (hd : Nat.blt d c.nt = true)
    (hx : aeval env x = some (.ownc r sz o n cp)) (hG : G r = some (.row sz l)) (hon : o + n ≤ l.length) (hcp : cp < n + k) (hy : aeval env y = some (.int kq mk)) (hmk : mk = (k : Int)) (hz : zAV zv = za) (hzs : za.cells.length = sz) (hzu : za.isUnk = false) (hsz0 : 0 < sz)
    (hb1 : n + k ≤ 140737488355328) (hb2 : (n + k) * by_ ≤ 140737488355328)
    (h : ∀ p, G p = none → c.w0.heap.size ≤ p → Goal c ((d, .own p sz 0 ((l.drop o).take n ++ List.replicate k za).length) :: env) (G.set p (.row sz ((l.drop o).take n ++ List.replicate k za))) K) :
    Step P c ⟨some d, .call ⟨.builtin .append, #[x, y], #[T, TN]⟩, ty, pos, af, gd⟩ Q env G K := fun a w hs => by
  subst hmk
  obtain ⟨i0, g1, g2, g3, g4, g5⟩ := hE.run_info w
  have hrx := hs.eval hx
  have hry := rep_int (hs.eval hy)
  obtain ⟨C0, T0, os0, rest0, hh0, hle, hC0, hos0⟩ := row_block hs.sim hG
  obtain ⟨os, hos, hol, holds⟩ := run_view_cells hs.sim hG o n hon
  have hvz : zv.cells.size = sz := by have hzr := (zAV_rep G w zv); rw [hz] at hzr; have := (hzr.cells' hzu).1; simp at this; omega
  generalize hv : a.eval x = v at hrx
  cases hrx with
  | ownc _ _ _ _ _ hc hsh =>
    have hdrew : St c env G a w.drew := hs.move (D := fun _ => False) (sim_drew hs.sim) ext_drew (fun _ _ h => h.elim)
    have hby : (n + k) * i0.bytes ≤ 140737488355328 := by rw [g5]; exact hb2
    have hkb : k * i0.bytes ≤ (n + k) * i0.bytes := Nat.mul_le_mul_right _ (by omega)
    have hfirst : (Builtin.firstCells i0.size n (.slice (some ⟨r, o * sz, none⟩) n cp)).run P w.drew = .ok os.toArray w.drew :=
      run_firstCells_some (P := P) w.drew i0.size n ⟨r, o * sz, none⟩ n cp os (by rw [g3]; exact hol) (by simpa using holds)
    have hr := Go.Lib.run_append_grow_zeros (P := P) w T TN ty E i0 zv kq kn hT.und hN.und g2 g4 (some ⟨r, o * sz, none⟩) n cp os hfirst k (by omega) (by omega) hcp (by omega) (by omega) (growslice_fits (by omega) hby)
    have hexec : (execOp a.eval ⟨some d, .call ⟨.builtin .append, #[x, y], #[T, TN]⟩, ty, pos, af, gd⟩).run P w = .ok (.value (.slice (some ⟨w.heap.size, 0, none⟩) (n + k) (grownCap w (n + k) cp E)))
        (w.drew.alloc (.cells (os.toArray ++ Builtin.zeroCells zv.cells k ++ Builtin.zeroCells zv.cells (grownCap w (n + k) cp E - (n + k))) E)) := by
      simp [execOp, resolve, invoke, builtin, hv, hry, hr]
    unfold Oper.wp
    rw [hexec, Oper.upon_value]
    have hge := grownCap_ge w (n + k) cp E
    have hln : ((l.drop o).take n).length = n := by rw [List.length_take, List.length_drop]; omega
    have hze : Even sz (List.replicate k za) := fun y hy => by rw [List.eq_of_mem_replicate hy]; exact hzs
    have hreps : Reps G w.drew (flat ((l.drop o).take n ++ List.replicate k za)) (os ++ (Builtin.zeroCells zv.cells k).toList) := by rw [flat_append]; exact (hos.mono ext_drew).append (reps_zeros hz hzs hzu k)
    have hsz : grownCap w (n + k) cp E * sz ≤ (os.toArray ++ Builtin.zeroCells zv.cells k ++ Builtin.zeroCells zv.cells (grownCap w (n + k) cp E - (n + k))).size := by
      simp only [Array.size_append, List.size_toArray, size_zeroCells, hvz, hol, ← Nat.add_mul]
      exact Nat.mul_le_mul_right _ (by omega)
    have hev : Even sz ((l.drop o).take n ++ List.replicate k za) := ((hle.drop o).take n).append hze
    have h7 := hdrew.newRow (C := os.toArray ++ Builtin.zeroCells zv.cells k ++ Builtin.zeroCells zv.cells (grownCap w (n + k) cp E - (n + k))) (T := E) (cap := grownCap w (n + k) cp E) hd hev
      (vs := os ++ (Builtin.zeroCells zv.cells k).toList) (rest := (Builtin.zeroCells zv.cells (grownCap w (n + k) cp E - (n + k))).toList) (by simp) hreps (by rw [List.length_append, hln, List.length_replicate]; exact hge) hsz
    have h8 := h w.drew.heap.size (hdrew.sim.none (Nat.le_refl _)) hdrew.fresh _ _ h7
    rw [List.length_append, hln, List.length_replicate] at h8
    simpa using h8
theorem step_clear {T E s b' by_ sz r o n : Nat} {z' : Option Value} {zv : Value} {za : AV} {de : TypeDesc} {x : Operand} {l : List AV} (hT : TyI P T (.slice E) s z' b') (hE : TyI P E de sz (some zv) by_)
    (hx : aeval env x = some (.own r sz o n)) (hG : G r = some (.row sz l)) (hon : o + n ≤ l.length) (hz : zAV zv = za) (hzs : za.cells.length = sz) (hzu : za.isUnk = false) (hzc : za.cells.all AV.isCell = true)
    (hD : c.D r ∨ c.w0.heap.size ≤ r) (h : Goal c env (G.set r (.row sz (l.take o ++ List.replicate n za ++ l.drop (o + n)))) K) :
    Step P c ⟨none, .call ⟨.builtin .clear, #[x], #[T]⟩, ty, pos, af, gd⟩ Q env G K := fun a w hs => by
  have hrx := hs.eval hx
  obtain ⟨C, Tc, os, rest, hh, hle, hC, hos⟩ := row_block hs.sim hG
  have hol : os.length = l.length * sz := by rw [← hos.1, flat_len hle]
  have hCs : C.size = os.length + rest.length := by rw [← Array.length_toList, hC]; simp
  have hvz : zv.cells.size = sz := by have hzr := (zAV_rep G w zv); rw [hz] at hzr; have := (hzr.cells' hzu).1; simp at this; omega
  have hvs : Reps G w (flat (List.replicate n za)) (Builtin.zeroCells zv.cells n).toList := reps_zeros hz hzs hzu n
  have hvl : (Builtin.zeroCells zv.cells n).toList.length = n * sz := by simp [size_zeroCells, hvz]
  have hze : Even sz (List.replicate n za) := fun y hy => by rw [List.eq_of_mem_replicate hy]; exact hzs
  have hfit : o * sz + (Builtin.zeroCells zv.cells n).toList.length ≤ C.size := by
    rw [hvl, ← Nat.add_mul, hCs, hol]
    exact Nat.le_trans (Nat.mul_le_mul_right sz hon) (Nat.le_add_right _ _)
  have hone : ∀ u ∈ (Builtin.zeroCells zv.cells n).toList, u.oneCell' = true := hvs.oneCell (List.all_eq_true.2 fun x hx => by
    obtain ⟨y, hy1, hy2⟩ := flat_mem hx
    rw [List.eq_of_mem_replicate hy1] at hy2
    exact List.all_eq_true.1 hzc x hy2)
  generalize hv : a.eval x = v at hrx
  cases hrx with
  | own _ _ _ _ cap hc hsh =>
    have hst := run_storeCells_at P r (o * sz) Tc (Builtin.zeroCells zv.cells n).toList 0 C w hh (by simpa using hfit) hone
    simp only [Nat.add_zero] at hst
    have hset : w.setRow r (C.toList.take (o * sz) ++ (Builtin.zeroCells zv.cells n).toList ++ C.toList.drop (o * sz + (Builtin.zeroCells zv.cells n).toList.length)).toArray = w.setRow r (C.toList.take (o * sz) ++ (Builtin.zeroCells zv.cells n).toList ++ C.toList.drop (o * sz + (Builtin.zeroCells zv.cells n).toList.length)).toArray := rfl
    obtain ⟨hsim, hext⟩ := row_store hs.sim hG hh hle hze hC hos hvs (show o ≤ l.length by omega) hfit
    rw [List.length_replicate] at hsim hext
    by_cases h0 : n = 0
    · subst h0
      have hexec : (execOp a.eval ⟨none, .call ⟨.builtin .clear, #[x], #[T]⟩, ty, pos, af, gd⟩).run P w = .ok (.value (.tuple #[])) w := by
        simp [execOp, resolve, invoke, builtin, hv, Builtin.clear_, hT.run_und]
      unfold Oper.wp
      rw [hexec, Oper.upon_value]
      have e : l.take o ++ List.replicate 0 za ++ l.drop (o + 0) = l := by simp
      rw [e, AHeap.set_same _ _ _ hG] at h
      exact h _ _ hs
    · have hexec : (execOp a.eval ⟨none, .call ⟨.builtin .clear, #[x], #[T]⟩, ty, pos, af, gd⟩).run P w = .ok (.value (.tuple #[])) (w.setRow r (C.toList.take (o * sz) ++ (Builtin.zeroCells zv.cells n).toList ++ C.toList.drop (o * sz + (Builtin.zeroCells zv.cells n).toList.length)).toArray) := by
        cases n with
        | zero => exact absurd rfl h0
        | succ n => simp [execOp, resolve, invoke, builtin, hv, Builtin.clear_, hT.run_und, hE.run_zero, hst]
      unfold Oper.wp
      rw [hexec, Oper.upon_value]
      exact h _ _ (hs.move hsim hext (fun b hb e => by subst e; exact hD.resolve_right (by omega)))
theorem step_copyk {T E T2 s b' by_ sz d r o n : Nat} {z' z : Option Value} {de : TypeDesc} {x y : Operand} {b : AV} {l m : List AV} (hT : TyI P T (.slice E) s z' b') (hE : TyI P E de sz z by_) (hd : Nat.blt d c.nt = true)
    (hx : aeval env x = some (.own r sz o n)) (hG : G r = some (.row sz l)) (hon : o + n ≤ l.length) (hy : aeval env y = some b) (hm : b.view G = some m) (hme : Even sz m) (hcell : ∀ x ∈ m.take (min m.length n), x.cells.all AV.isCell = true)
    (hD : c.D r ∨ c.w0.heap.size ≤ r) (h : Goal c ((d, .int .i64 (min m.length n : Nat)) :: env) (G.set r (.row sz (l.take o ++ m.take (min m.length n) ++ l.drop (o + (m.take (min m.length n)).length)))) K) :
    Step P c ⟨some d, .call ⟨.builtin .copy, #[x, y], #[T, T2]⟩, ty, pos, af, gd⟩ Q env G K := fun a w hs => by
  have hrx := hs.eval hx
  have hry := hs.eval hy
  obtain ⟨k, hk⟩ : ∃ k, k = min m.length n := ⟨_, rfl⟩
  rw [← hk] at h
  obtain ⟨A, cp, vs, hu, hvs, hvl, hrun⟩ := run_first (P := P) hs.sim hry hm hme k (by omega)
  obtain ⟨C, Tc, os, rest, hh, hle, hC, hos⟩ := row_block hs.sim hG
  have hol : os.length = l.length * sz := by rw [← hos.1, flat_len hle]
  have hCs : C.size = os.length + rest.length := by rw [← Array.length_toList, hC]; simp
  have hfit : o * sz + vs.length ≤ C.size := by
    rw [hvl, ← Nat.add_mul, hCs, hol]
    exact Nat.le_trans (Nat.mul_le_mul_right sz (show o + k ≤ l.length by omega)) (Nat.le_add_right _ _)
  have hmk : Even sz (m.take k) := hme.take k
  have hone : ∀ u ∈ vs, u.oneCell' = true := hvs.oneCell (List.all_eq_true.2 fun x hx => by
    obtain ⟨y, hy1, hy2⟩ := flat_mem hx
    exact List.all_eq_true.1 (hcell y (by rw [← hk]; exact hy1)) x hy2)
  generalize hv : a.eval x = v at hrx
  cases hrx with
  | own _ _ _ _ cap hc hsh =>
    have hst := run_storeCells_at P r (o * sz) Tc vs 0 C w hh (by simpa using hfit) hone
    simp only [Nat.add_zero] at hst
    have hlen : (Builtin.lenOf (a.eval y)).run P w = .ok m.length w := by rw [hu]; simp [Builtin.lenOf]
    have hcopy : (Builtin.copy_ #[T, T2] ty #[.slice (some ⟨r, o * sz, none⟩) n cap, a.eval y]).run P w = .ok (.int .i64 (k : Int)) (w.setRow r (C.toList.take (o * sz) ++ vs ++ C.toList.drop (o * sz + vs.length)).toArray) := by
      have hkk : Nat.min m.length n = k := hk.symm
      simp [Builtin.copy_, hT.run_und, hE.run_size, hlen, hkk, hrun, hst, goInt]
    have hexec : (execOp a.eval ⟨some d, .call ⟨.builtin .copy, #[x, y], #[T, T2]⟩, ty, pos, af, gd⟩).run P w = .ok (.value (.int .i64 (k : Int))) (w.setRow r (C.toList.take (o * sz) ++ vs ++ C.toList.drop (o * sz + vs.length)).toArray) := by
      have e : #[x, y].map a.eval = #[.slice (some ⟨r, o * sz, none⟩) n cap, a.eval y] := by simp [hv]
      simp [execOp, resolve, invoke, builtin, hv, hcopy]
    unfold Oper.wp
    rw [hexec, Oper.upon_value]
    obtain ⟨hsim, hext⟩ := row_store hs.sim hG hh hle hmk hC hos hvs (show o ≤ l.length by omega) hfit
    exact h _ _ ((hs.move hsim hext (fun b hb e => by subst e; exact hD.resolve_right (by omega))).put hd (.int _ _))
/-- slices.overlaps, by the facts of its row. -/
structure OvI (P : Program) (f : FuncId) (T : TypeId) : Prop where
  fn : ∃ (fn : Func) (tR : TypeId), P.funcs[f]? = some fn ∧ (fn.name == "runtime.NumGoroutine") = false ∧ fn.body.isNone = true ∧ Extern.findNext fn = none ∧ Extern.find fn = some (Extern.SlicesOverlaps.overlaps #[T, T] #[tR])
theorem frozen_no {w : World} {r off : Nat} {C : Array Value} {T : TypeId} (h : w.heap[r]? = some (.cells C T (0, 0))) : w.frozen? ⟨r, off, none⟩ = false := by
  simp [World.frozen?, h]
theorem val_overlaps {T E f s b' by_ sz r o n r2 o2 n2 cp2 : Nat} {z z' : Option Value} {de : TypeDesc} {x y : Operand} {at_ : Array TypeId} {l m : List AV} (hf : OvI P f T) (hT : TyI P T (.slice E) s z' b') (hE : TyI P E de sz z by_)
    (hx : aeval env x = some (.own r sz o n)) (hy : aeval env y = some (.ownc r2 sz o2 n2 cp2)) (hG : G r = some (.row sz l)) (hG2 : G r2 = some (.row sz m)) (hne : r ≠ r2) (hn2 : 0 < n2) (hsz : 0 < sz) :
    ValM true P c ⟨dst, .call ⟨.value (.func f), #[x, y], at_⟩, ty, pos, af, gd⟩ env G (.bool false) := fun a w hs => by
  obtain ⟨fn, tR, h1, h2, h3, h4, h5⟩ := hf.fn
  have hrx := hs.eval hx
  have hry := hs.eval hy
  obtain ⟨C, Tc, os, rest, hh, hle, hC, hos⟩ := row_block hs.sim hG
  obtain ⟨C2, Tc2, os2, rest2, hh2, hle2, hC2, hos2⟩ := row_block hs.sim hG2
  generalize hu : a.eval x = u at hrx
  generalize hv : a.eval y = v at hry
  cases hrx with
  | own _ _ _ _ cp hc hsh =>
    cases hry with
    | ownc _ _ _ _ _ hc2 hsh2 =>
      refine ⟨.bool false, .bool _, fun w' hw' => ?_⟩
      have hsm := hw' rfl
      have hl1 : r < w.heap.size := hs.sim.lt hG
      have hl2 : r2 < w.heap.size := hs.sim.lt hG2
      have hh' := (hsm.2 r hl1).trans hh
      have hh2' := (hsm.2 r2 hl2).trans hh2
      obtain ⟨T', N, g1, g2⟩ := hsh2
      have hN : N = C2.size := by unfold World.shape? at g1; rw [hh2] at g1; simp at g1; exact g1.2.symm
      have hpos : 0 < (o2 + cp2) * sz := Nat.mul_pos (by omega) hsz
      have hrun := Go.Lib.run_overlaps_apart (P := P) w' T tR E hT.und sz (fun w => hE.run_size w) ⟨r, o * sz, none⟩ ⟨r2, o2 * sz, none⟩ n cp n2 cp2 hne Tc Tc2 C.size C2.size
        (by simp [World.shape?, hh']) (by simp [World.shape?, hh2']) (by omega) (frozen_no hh') (frozen_no hh')
      have hcall := run_callFunc_extern (P := P) h1 h2 h3 h4 h5 #[.slice (some ⟨r, o * sz, none⟩) n cp, .slice (some ⟨r2, o2 * sz, none⟩) n2 cp2] w'
      rw [hrun] at hcall
      have e : #[x, y].map a.eval = #[.slice (some ⟨r, o * sz, none⟩) n cp, .slice (some ⟨r2, o2 * sz, none⟩) n2 cp2] := by simp [hu, hv]
      have hfe : a.eval (.func f) = .func (.func f) #[] #[] := rfl
      simp [execOp, resolve, Deferred.ofValue, invoke, hfe, hu, hv, hcall]
end
section
variable {md : Bool} {P : Program} {c : Ctx} {env B : Env} {L : LPtr} {G : AHeap} {dst : Option Tmp} {ty : TypeId} {pos : String} {af : Array Edge} {gd : Option (Nat × Bool)} {Q : Exit → Act → World → Prop} {K : Act → World → Prop}
theorem g_cap {r sz o n : Nat} (t : Nat) (ht : ev env L (.tmp t) = some (.own r sz o n)) (h : ∀ cp, n ≤ cp → GoalL c ((t, .ownc r sz o n cp) :: env) (ldel L t) B G K) : GoalL c env L B G K := fun ρ hρ a w hs => by
  have hr := hs.rep t _ (by have := ev_full (ρ := ρ) ht; exact this)
  have key : ∃ cp, n ≤ cp ∧ Rep (boxes ρ G B) w (.ownc r sz o n cp) (a.tmps.getD t undef) := by
    generalize a.tmps.getD t undef = v at hr
    cases hr with
    | own _ _ _ _ cp hc hsh => exact ⟨cp, hc, .ownc _ _ _ _ _ hc hsh⟩
  obtain ⟨cp, hc, hr'⟩ := key
  refine Goal.env full_put (h cp hc ρ hρ) a w ⟨hs.sim, fun t' v hv => ?_, hs.size, hs.dfr, hs.ext⟩
  simp only [Env.get] at hv
  cases hb : Nat.beq t t' with
  | true => rw [hb] at hv; injection hv with hv; rw [← hv, ← Nat.eq_of_beq_eq_true hb]; exact hr'
  | false => rw [hb] at hv; exact hs.rep t' v hv
theorem g_room {r sz o n cp : Nat} {l : List AV} (t k : Nat) (ht : ev env L (.tmp t) = some (.ownc r sz o n cp)) (hG : G r = some (.row sz l)) (hl : l.length = o + n) (hk : n + k ≤ cp)
    (h : GoalL c env L B (G.set r (.row sz (l ++ List.replicate k (unkE sz)))) K) : GoalL c env L B G K := fun ρ hρ a w hs => by
  have hr := hs.rep t _ (by have := ev_full (ρ := ρ) ht; exact this)
  have hGb := boxes_sub hρ _ _ hG
  have hne : ∀ s v, B.get s = some v → r ≠ ρ s := fun s v hv e => by have := (hρ.fresh s v hv).1; rw [← e, hG] at this; cases this
  obtain ⟨h3, h4⟩ := boxes_setG (x := .row sz (l ++ List.replicate k (unkE sz))) hρ hne
  have he : Ext (boxes ρ G B) w (fun _ => False) ((boxes ρ G B).set r (.row sz (l ++ List.replicate k (unkE sz)))) w := ext_know hGb
  have hsim := sim_room (t := t) hs.sim hGb hl hk hr
  have h5 := hs.move hsim he (fun _ _ h => h.elim)
  rw [h4] at h5
  exact h ρ h3 a w h5
theorem v_cap {T E r sz o n cp : Nat} {s b' : Nat} {z : Option Value} {x : Operand} (hT : TyI P T (.slice E) s z b') (hx : ev env L x = some (.ownc r sz o n cp)) :
    ValLM md P c ⟨dst, .call ⟨.builtin .cap, #[x], #[T]⟩, ty, pos, af, gd⟩ env L B G (.int .i64 (cp : Int)) := fun ρ hρ => val_cap hT (ev_full hx)
theorem v_slice_ownc {T E : TypeId} {d : TypeDesc} {sz by_ s b' lo hi r o n cp : Nat} {z z' : Option Value} {x : Operand} {low high : Option Operand} {m1 m2 : Int} (hT : TyI P T (.slice E) s z' b') (hE : TyI P E d sz z by_)
    (hx : ev env L x = some (.ownc r sz o n cp)) (hlo : evb env L 0 low = some m1) (hhi : evb env L (n : Int) high = some m2) (h1 : m1 = (lo : Int)) (h2 : m2 = (hi : Int)) (hle : lo ≤ hi) (hc : hi ≤ cp) (hne : lo = 0 ∨ lo < cp) :
    ValLM md P c ⟨dst, .slice T x low high none, ty, pos, af, gd⟩ env L B G (.ownc r sz (o + lo) (hi - lo) (cp - lo)) := fun ρ hρ => val_slice_ownc hT hE (ev_full hx) (evb_full hlo) (evb_full hhi) h1 h2 hle hc hne
theorem v_slice_ownc' {T E : TypeId} {d : TypeDesc} {sz by_ s b' lo hi r o n cp : Nat} {z z' : Option Value} {x : Operand} {low high : Option Operand} {m1 m2 : Int} (hT : TyI P T (.slice E) s z' b') (hE : TyI P E d sz z by_)
    (hx : ev env L x = some (.ownc r sz o n cp)) (hlo : evb env L 0 low = some m1) (hhi : evb env L (n : Int) high = some m2) (h1 : m1 = (lo : Int)) (h2 : m2 = (hi : Int)) (hle : lo ≤ hi) (hc : hi ≤ cp) (hne : lo = 0 ∨ lo < cp) :
    ValLM md P c ⟨dst, .slice T x low high none, ty, pos, af, gd⟩ env L B G (.own r sz (o + lo) (hi - lo)) := v_sub (v_slice_ownc hT hE hx hlo hhi h1 h2 hle hc hne) (ASub.ownc _ _ _ _ _)
theorem v_move_ownc {x : Operand} {r sz o n cp : Nat} (hx : ev env L x = some (.ownc r sz o n cp)) : ValLM md P c ⟨dst, .move x, ty, pos, af, gd⟩ env L B G (.own r sz o n) := v_sub (v_move hx) (ASub.ownc _ _ _ _ _)
theorem boxes_setR {ρ : Nat → Nat} (hρ : Good c G B ρ) {r : Nat} {x y : ARow} (hG : G r = some y) : Good c (G.set r x) B ρ ∧ (boxes ρ G B).set r x = boxes ρ (G.set r x) B :=
  boxes_setG hρ (fun s v hv e => by have := (hρ.fresh s v hv).1; rw [← e, hG] at this; cases this)
theorem s_append_in {T E s b' by_ sz d r o n cp : Nat} {z' z : Option Value} {de : TypeDesc} {x y : Operand} {b : AV} {l m l' : List AV} (hT : TyI P T (.slice E) s z' b') (hE : TyI P E de sz z by_) (hd : Nat.blt d c.nt = true)
    (hx : ev env L x = some (.ownc r sz o n cp)) (hG : G r = some (.row sz l)) (hon : o + n + m.length ≤ l.length) (hcp : n + m.length ≤ cp) (hy : ev env L y = some b) (hm : b.view G = some m) (hme : Even sz m) (hcell : ∀ x ∈ m, x.cells.all AV.isCell = true)
    (hD : c.D r ∨ c.w0.heap.size ≤ r) (hl' : l.take (o + n) ++ m ++ l.drop (o + n + m.length) = l') (h : GoalL c ((d, .ownc r sz o (n + m.length) cp) :: env) (ldel L d) B (G.set r (.row sz l')) K) :
    StepL P c ⟨some d, .call ⟨.builtin .append, #[x, y], #[T, T]⟩, ty, pos, af, gd⟩ Q env L B G K := fun ρ hρ => by
  subst hl'
  obtain ⟨h3, h4⟩ := boxes_setR (x := .row sz (l.take (o + n) ++ m ++ l.drop (o + n + m.length))) hρ hG
  refine step_append_in hT hE hd (ev_full hx) (boxes_sub hρ _ _ hG) hon hcp (ev_full hy) (view_sub (boxes_sub hρ) hm) hme hcell hD ?_
  rw [h4]
  exact Goal.env full_put (h ρ h3)
theorem s_append_out {T E s b' by_ sz d r o n cp : Nat} {z' : Option Value} {zv : Value} {de : TypeDesc} {x y : Operand} {b : AV} {l m l' : List AV} (hT : TyI P T (.slice E) s z' b') (hE : TyI P E de sz (some zv) by_) (hd : Nat.blt d c.nt = true)
    (hx : ev env L x = some (.ownc r sz o n cp)) (hG : G r = some (.row sz l)) (hon : o + n ≤ l.length) (hcp : cp < n + m.length) (hy : ev env L y = some b) (hm : b.view G = some m) (hme : Even sz m)
    (hzs : zv.cells.size = sz) (hb1 : n + m.length ≤ 140737488355328) (hb2 : (n + m.length) * by_ ≤ 140737488355328) (hl' : (l.drop o).take n ++ m = l')
    (h : ∀ p, G p = none → c.w0.heap.size ≤ p → GoalL c ((d, .own p sz 0 l'.length) :: env) (ldel L d) B (G.set p (.row sz l')) K) :
    StepL P c ⟨some d, .call ⟨.builtin .append, #[x, y], #[T, T]⟩, ty, pos, af, gd⟩ Q env L B G K := fun ρ hρ => by
  subst hl'
  exact step_append_out hT hE hd (ev_full hx) (boxes_sub hρ _ _ hG) hon hcp (ev_full hy) (view_sub (boxes_sub hρ) hm) hme hzs hb1 hb2 fun p hp hn =>
    Goal.env full_put (goal_set hρ hp (h p (sub_none (boxes_sub hρ) hp) hn))
theorem s_append_zeros {T TN E s b' by_ sz d r o n cp k : Nat} {kn kq : IntKind} {sn bn : Nat} {zn : Option Value} {z' : Option Value} {zv : Value} {za : AV} {de : TypeDesc} {x y : Operand} {l l' : List AV} {mk : Int} (hT : TyI P T (.slice E) s z' b') (hN : TyI P TN (.int kn) sn zn bn) (hE : TyI P E de sz (some zv) by_) (hd : Nat.blt d c.nt = true)
    (hx : ev env L x = some (.ownc r sz o n cp)) (hG : G r = some (.row sz l)) (hon : o + n ≤ l.length) (hcp : cp < n + k) (hy : ev env L y = some (.int kq mk)) (hmk : mk = (k : Int)) (hz : zAV zv = za) (hzs : za.cells.length = sz) (hzu : za.isUnk = false) (hsz0 : Nat.blt 0 sz = true)
    (hb1 : n + k ≤ 140737488355328) (hb2 : (n + k) * by_ ≤ 140737488355328) (hl' : (l.drop o).take n ++ List.replicate k za = l')
    (h : ∀ p, G p = none → c.w0.heap.size ≤ p → GoalL c ((d, .own p sz 0 l'.length) :: env) (ldel L d) B (G.set p (.row sz l')) K) :
    StepL P c ⟨some d, .call ⟨.builtin .append, #[x, y], #[T, TN]⟩, ty, pos, af, gd⟩ Q env L B G K := fun ρ hρ => by
  subst hl'
  exact step_append_zeros hT hN hE hd (ev_full hx) (boxes_sub hρ _ _ hG) hon hcp (ev_full hy) hmk hz hzs hzu (Nat.le_of_ble_eq_true hsz0) hb1 hb2 fun p hp hn =>
    Goal.env full_put (goal_set hρ hp (h p (sub_none (boxes_sub hρ) hp) hn))
theorem s_clear {T E s b' by_ sz r o n : Nat} {z' : Option Value} {zv : Value} {za : AV} {de : TypeDesc} {x : Operand} {l l' : List AV} (hT : TyI P T (.slice E) s z' b') (hE : TyI P E de sz (some zv) by_)
    (hx : ev env L x = some (.own r sz o n)) (hG : G r = some (.row sz l)) (hon : o + n ≤ l.length) (hz : zAV zv = za) (hzs : za.cells.length = sz) (hzu : za.isUnk = false) (hzc : za.cells.all AV.isCell = true)
    (hD : c.D r ∨ c.w0.heap.size ≤ r) (hl' : l.take o ++ List.replicate n za ++ l.drop (o + n) = l') (h : GoalL c env L B (G.set r (.row sz l')) K) :
    StepL P c ⟨none, .call ⟨.builtin .clear, #[x], #[T]⟩, ty, pos, af, gd⟩ Q env L B G K := fun ρ hρ => by
  subst hl'
  obtain ⟨h3, h4⟩ := boxes_setR (x := .row sz (l.take o ++ List.replicate n za ++ l.drop (o + n))) hρ hG
  refine step_clear hT hE (ev_full hx) (boxes_sub hρ _ _ hG) hon hz hzs hzu hzc hD ?_
  rw [h4]
  exact h ρ h3
theorem s_copyk {T E T2 s b' by_ sz d r o n k : Nat} {z' z : Option Value} {de : TypeDesc} {x y : Operand} {b : AV} {l m l' : List AV} (hT : TyI P T (.slice E) s z' b') (hE : TyI P E de sz z by_) (hd : Nat.blt d c.nt = true)
    (hx : ev env L x = some (.own r sz o n)) (hG : G r = some (.row sz l)) (hon : o + n ≤ l.length) (hy : ev env L y = some b) (hm : b.view G = some m) (hme : Even sz m) (hcell : ∀ x ∈ m.take k, x.cells.all AV.isCell = true)
    (hD : c.D r ∨ c.w0.heap.size ≤ r) (hk : k = min m.length n) (hl' : l.take o ++ m.take k ++ l.drop (o + k) = l') (h : GoalL c ((d, .int .i64 (k : Nat)) :: env) (ldel L d) B (G.set r (.row sz l')) K) :
    StepL P c ⟨some d, .call ⟨.builtin .copy, #[x, y], #[T, T2]⟩, ty, pos, af, gd⟩ Q env L B G K := fun ρ hρ => by
  have hne : ∀ s v, B.get s = some v → r ≠ ρ s := fun s v hv e => by have := (hρ.fresh s v hv).1; rw [← e, hG] at this; cases this
  obtain ⟨h3, h4⟩ := boxes_setG (x := .row sz l') hρ hne
  refine step_copyk hT hE hd (ev_full hx) (boxes_sub hρ _ _ hG) hon (ev_full hy) (view_sub (boxes_sub hρ) hm) hme (by rw [← hk]; exact hcell) hD ?_
  have e : (m.take (min m.length n)).length = k := by rw [List.length_take, hk]; omega
  rw [e, ← hk, hl', h4]
  exact Goal.env full_put (h ρ h3)
theorem v_overlaps {T E f s b' by_ sz r o n r2 o2 n2 cp2 : Nat} {z z' : Option Value} {de : TypeDesc} {x y : Operand} {at_ : Array TypeId} {l m : List AV} (hf : OvI P f T) (hT : TyI P T (.slice E) s z' b') (hE : TyI P E de sz z by_)
    (hx : ev env L x = some (.own r sz o n)) (hy : ev env L y = some (.ownc r2 sz o2 n2 cp2)) (hG : G r = some (.row sz l)) (hG2 : G r2 = some (.row sz m)) (hne : r ≠ r2) (hn2 : 0 < n2) (hsz : Nat.blt 0 sz = true) :
    ValLM true P c ⟨dst, .call ⟨.value (.func f), #[x, y], at_⟩, ty, pos, af, gd⟩ env L B G (.bool false) := fun ρ hρ => val_overlaps hf hT hE (ev_full hx) (ev_full hy) (boxes_sub hρ _ _ hG) (boxes_sub hρ _ _ hG2) hne hn2 (Nat.le_of_ble_eq_true hsz)
end
end Go.Proofs.Ytgedefcjngofkaa.AM

/- The abstract machine, part 21: bytes as text. -/
set_option linter.unusedVariables false
set_option linter.unusedSimpArgs false
namespace Go.Proofs.Ytgedefcjngofkaa.AM
open Go
def bytesOf (l : List Int) : ByteArray := l.foldl (fun r n => r.push (UInt8.ofNat n.toNat)) ByteArray.empty
theorem foldl_push : ∀ (l : List Int) (s : ByteArray), (l.foldl (fun r n => r.push (UInt8.ofNat n.toNat)) s).data.toList = s.data.toList ++ l.map (fun n => UInt8.ofNat n.toNat)
  | [], s => by simp
  | n :: l, s => by
    rw [List.foldl_cons, foldl_push l]
    simp [ByteArray.push]
theorem bytesOf_toList (l : List Int) : (bytesOf l).toList = l.map (fun n => UInt8.ofNat n.toNat) := by
  rw [ByteArray.toList_eq, bytesOf, foldl_push]; rfl
theorem u8_inj {a b : Int} (ha : 0 ≤ a ∧ a ≤ 255) (hb : 0 ≤ b ∧ b ≤ 255) : UInt8.ofNat a.toNat = UInt8.ofNat b.toNat ↔ a = b := by
  constructor
  · intro h
    have := congrArg UInt8.toNat h
    simp only [UInt8.toNat_ofNat'] at this
    omega
  · intro h; rw [h]
theorem u8_lt {a b : Int} (ha : 0 ≤ a ∧ a ≤ 255) (hb : 0 ≤ b ∧ b ≤ 255) : UInt8.ofNat a.toNat < UInt8.ofNat b.toNat ↔ a < b := by
  rw [UInt8.lt_iff_toNat_lt]
  simp only [UInt8.toNat_ofNat']
  omega
theorem bytesOf_inj : ∀ {a b : List Int}, (∀ y ∈ a, 0 ≤ y ∧ y ≤ 255) → (∀ y ∈ b, 0 ≤ y ∧ y ≤ 255) → (bytesOf a = bytesOf b ↔ a = b) := by
  have key : ∀ (a b : List Int), (∀ y ∈ a, 0 ≤ y ∧ y ≤ 255) → (∀ y ∈ b, 0 ≤ y ∧ y ≤ 255) → a.map (fun n => UInt8.ofNat n.toNat) = b.map (fun n => UInt8.ofNat n.toNat) → a = b := by
    intro a
    induction a with
    | nil => intro b _ _ h; cases b with
      | nil => rfl
      | cons y b => simp at h
    | cons x a ih => intro b ha hb h; cases b with
      | nil => simp at h
      | cons y b =>
        simp only [List.map_cons, List.cons.injEq] at h
        rw [(u8_inj (ha x (by simp)) (hb y (by simp))).1 h.1, ih b (fun z hz => ha z (by simp [hz])) (fun z hz => hb z (by simp [hz])) h.2]
  intro a b ha hb
  constructor
  · intro h; exact key a b ha hb (by rw [← bytesOf_toList, ← bytesOf_toList, h])
  · intro h; rw [h]
theorem flat_u8 : ∀ l : List Int, flat (l.map (AV.int .u8)) = l.map (AV.int .u8)
  | [] => rfl
  | x :: l => by rw [List.map_cons, flat_cons, flat_u8 l]; rfl
section
variable {P : Program} {c : Ctx} {env : Env} {G : AHeap} {dst : Option Tmp} {ty : TypeId} {pos : String} {af : Array Edge} {gd : Option (Nat × Bool)}
theorem val_bytes_str {T E D s b' by_ sz s2 b2 : Nat} {z' z z2 : Option Value} {x : Operand} {b : AV} {l : List Int} (hT : TyI P T (.slice E) s z' b') (hE : TyI P E (.int .u8) sz z by_) (hD : TyI P D .string s2 z2 b2)
    (hx : aeval env x = some b) (hv : b.view G = some (l.map (.int .u8))) : ValM true P c ⟨dst, .convert T D x, ty, pos, af, gd⟩ env G (.str (bytesOf l)) := fun a w hs => by
  have hr := hs.eval hx
  obtain ⟨A, cp, hu⟩ := view_len hs.sim hr hv
  refine ⟨.string (bytesOf l), .str _, fun w' hw' => ?_⟩
  have hconv := run_convert_bytes_string (P := P) w' T D E A (l.map (AV.int .u8)).length cp hT.und hE.und hD.und
  have hgoal : (Conv.bytesToString (.slice A (l.map (AV.int .u8)).length cp)).run P w' = .ok (.string (bytesOf l)) w' := by
    rcases Nat.eq_zero_or_pos l.length with h0 | h0
    · have : l = [] := List.eq_nil_of_length_eq_zero h0
      subst this
      cases A with
      | none => rfl
      | some ad => exact run_bytesToString (P := P) w' ad 0 cp [] (by simp [loadCells, loadCellsFrom])
    · obtain ⟨ad, cu, vs, hu2, hvs, hvl, hcells⟩ := view_cells (sz := 1) hs.sim hr hv (Even.map (AV.int .u8) (fun _ => rfl) l) (by simpa using h0)
      rw [hu] at hu2
      injection hu2 with e1 e2 e3
      subst e1
      have hfl := flat_u8 l
      have hvs' : vs = l.map (Value.int .u8) := by
        rw [hfl] at hvs
        refine List.ext_getElem (by have := hvs.1; simp at this ⊢; omega) (fun i h1 h2 => ?_)
        have hi : i < l.length := by simpa using h2
        have h3 := hvs.2 i (by simpa using hi) h1
        simp only [List.getElem_map] at h3 ⊢
        generalize vs[i] = v at h3
        cases h3; rfl
      have hsm := hw' rfl
      have hcell' : ∀ j v, vs[j]? = some v → w'.cell? (ad.add j) = some v := fun j v hj => by
        have h1 := hcells j v hj
        have hlt : (ad.add j).block < w.heap.size := by
          rcases Nat.lt_or_ge (ad.add j).block w.heap.size with h' | h'
          · exact h'
          · unfold World.cell? at h1; rw [Array.getElem?_eq_none h'] at h1; simp at h1
        rw [cell_of_block (hsm.2 _ hlt)]; exact h1
      have hf := run_firstCells_some (P := P) w' 1 l.length ad l.length cp vs (by rw [hvl]; simp) hcell'
      simp only [Builtin.firstCells, Nat.mul_one] at hf
      rw [hvs'] at hf
      have := run_bytesToString (P := P) w' ad l.length cp l hf
      simpa [bytesOf] using this
  simp only [execOp, hu, Sem.run_bind, hconv, hgoal, Result.andThen_ok]
  rfl
end
section
variable {P : Program} {c : Ctx} {env B : Env} {L : LPtr} {G : AHeap} {dst : Option Tmp} {ty : TypeId} {pos : String} {af : Array Edge} {gd : Option (Nat × Bool)}
theorem v_bytes_str {T E D s b' by_ sz s2 b2 : Nat} {z' z z2 : Option Value} {x : Operand} {b : AV} {l : List Int} (hT : TyI P T (.slice E) s z' b') (hE : TyI P E (.int .u8) sz z by_) (hD : TyI P D .string s2 z2 b2)
    (hx : ev env L x = some b) (hv : b.view G = some (l.map (.int .u8))) : ValLM true P c ⟨dst, .convert T D x, ty, pos, af, gd⟩ env L B G (.str (bytesOf l)) := fun ρ hρ => val_bytes_str hT hE hD (ev_full hx) (view_sub (boxes_sub hρ) hv)
end
end Go.Proofs.Ytgedefcjngofkaa.AM

/- The abstract machine, part 22: literals as rows of the call's own; a listed row that nobody writes any more. -/
set_option linter.unusedVariables false
set_option linter.unusedSimpArgs false
namespace Go.Proofs.Ytgedefcjngofkaa.AM
open Go
section
variable {md : Bool} {P : Program} {c : Ctx} {env B : Env} {L : LPtr} {G : AHeap} {dst : Option Tmp} {ty : TypeId} {pos : String} {af : Array Edge} {gd : Option (Nat × Bool)} {Q : Exit → Act → World → Prop} {K : Act → World → Prop}
theorem s_litO {T E : TypeId} {de : TypeDesc} {s b' sz by_ n d : Nat} {z : Option Value} {zv : Value} {parts : Array (Nat × Operand)} {vs : List (Nat × AV)} {l : List AV}
    (hT : TyI P T (.slice E) s z b') (hE : TyI P E de sz (some zv) by_) (hd : Nat.blt d c.nt = true) (hvs : parts.toList.mapM (fun x => (ev env L x.2).map fun v => (x.1, v)) = some vs) (hl : vs.map (·.2) = l)
    (hf : afill (fun i => some (i * sz, sz)) (List.replicate (n * sz) .unk) vs = some (flat l)) (he : l.all (fun x => Nat.beq x.cells.length sz) = true) (hn : l.length = n) (hsm : Nat.ble (n * sz) 16777216 = true)
    (h : ∀ r, G r = none → c.w0.heap.size ≤ r → GoalL c ((d, .own r sz 0 l.length) :: env) (ldel L d) B (G.set r (.row sz l)) K) : StepL P c ⟨some d, .buildSlice T n parts, ty, pos, af, gd⟩ Q env L B G K := fun ρ hρ =>
  step_newRow rfl hd (fun x hx => Nat.eq_of_beq_eq_true (List.all_eq_true.1 he x hx)) (lit_run hT hE (evp_full hvs) hf hn (Nat.le_of_ble_eq_true hsm)) fun r hr hn' =>
    Goal.env full_put (goal_set hρ hr (h r (sub_none (boxes_sub hρ) hr) hn'))
/-- From here on nobody writes this row. -/
theorem g_freezeG {r sz o n : Nat} {l m : List AV} {H : AHeap} (t : Nat) (ht : ev env L (.tmp t) = some (.own r sz o n)) (hG : G r = some (.row sz l)) (hsub : H.sub G) (hn : H r = none) (hl : o + n ≤ l.length) (hm : (l.drop o).take n = m)
    (h : GoalL c ((t, .imm m) :: env) (ldel L t) B H K) : GoalL c env L B G K := fun ρ hρ a w hs => by
  subst hm
  have hgH : Good c H B ρ := hρ.sub hsub
  have hs2 := boxes_mono (ρ := ρ) hρ hsub
  have hr := hs.rep t _ (by have := ev_full (ρ := ρ) ht; exact this)
  have hrow : (boxes ρ G B) r = some (.row sz l) := boxes_sub hρ _ _ hG
  have hne : ∀ s v, B.get s = some v → r ≠ ρ s := fun s v hv e => by have := (hρ.fresh s v hv).1; rw [← e, hG] at this; cases this
  have hn' : (boxes ρ H B) r = none := by rw [boxes_other hne]; exact hn
  have hr' : Rep (boxes ρ H B) w (.imm ((l.drop o).take n)) (a.tmps.getD t undef) := rep_freeze hs.sim hrow hl hr hs2 hn'
  refine Goal.env full_put (h ρ hgH) a w ⟨(hs.forget hs2).sim, fun t' v hv => ?_, hs.size, hs.dfr, (hs.forget hs2).ext⟩
  simp only [Env.get] at hv
  cases hb : Nat.beq t t' with
  | true => rw [hb] at hv; injection hv with hv; rw [← hv, ← Nat.eq_of_beq_eq_true hb]; exact hr'
  | false => rw [hb] at hv; exact (hs.forget hs2).rep t' v hv
theorem LCalls.weakD {f : FuncId} {args : List AV} {D D' : Nat → Prop} {R : Nat → AV → List (Nat × ARow) → Prop} (h : LCalls P f args G D R) (hD : ∀ b, D b → D' b) (hl : ∀ b, D' b → G b ≠ none) : LCalls P f args G D' R := fun H hH =>
  ⟨(h H hH).1, fun w vs hs hr => ((h H hH).2 w vs hs hr).mono fun e w' ⟨v, r, G', h1, h2, h3, h4, h5⟩ => ⟨v, r, G', h1, h2, h3, h4, h5.weaken hD (fun b hb hn => hl b hb (sub_none hH hn))⟩⟩
end
end Go.Proofs.Ytgedefcjngofkaa.AM
namespace Go.Proofs.Ytgedefcjngofkaa.AM
open Go
/-- Two rows of the call's own, told the other way about. -/
theorem own_swap {n0 s1 s2 : Nat} {H H1 G : AHeap} {a1 a2 : AV} {l1 l2 : List AV} (h1 : Own n0 s1 H1 a1 l1 G) (h2 : Own n0 s2 H a2 l2 H1) : ∃ X, Own n0 s2 X a2 l2 G ∧ Own n0 s1 H a1 l1 X := by
  rcases h1 with ⟨e1, e2, rfl⟩ | ⟨r1, g1, g2, g3, rfl⟩
  · exact ⟨H, h2, .inl ⟨e1, e2, rfl⟩⟩
  · rcases h2 with ⟨f1, f2, rfl⟩ | ⟨r2, k1, k2, k3, rfl⟩
    · exact ⟨_, .inl ⟨f1, f2, rfl⟩, .inr ⟨r1, g1, g2, g3, rfl⟩⟩
    · have hne : r1 ≠ r2 := fun e => by subst e; rw [AHeap.get_set] at g1; cases g1
      rw [AHeap.get_set_ne _ _ hne] at g1
      refine ⟨H.set r1 (.row s1 l1), .inr ⟨r2, by rw [AHeap.get_set_ne _ _ (Ne.symm hne)]; exact k1, k2, k3, ?_⟩, .inr ⟨r1, g1, g2, g3, rfl⟩⟩
      refine AHeap.ext fun b => ?_
      by_cases e1 : b = r1
      · subst e1; rw [AHeap.get_set, AHeap.get_set_ne _ _ hne, AHeap.get_set]
      · rw [AHeap.get_set_ne _ _ e1]
        by_cases e2 : b = r2
        · subst e2; rw [AHeap.get_set, AHeap.get_set]
        · rw [AHeap.get_set_ne _ _ e2, AHeap.get_set_ne _ _ e2, AHeap.get_set_ne _ _ e1]
theorem own_row {n0 sz : Nat} {H G : AHeap} {av : AV} {l : List AV} (h : Own n0 sz H av l G) : (av = .nil0 ∧ l = []) ∨ ∃ r, av = .own r sz 0 l.length ∧ G r = some (.row sz l) ∧ H r = none ∧ n0 ≤ r := by
  rcases h with ⟨e1, e2, rfl⟩ | ⟨r, g1, g2, g3, rfl⟩
  · exact .inl ⟨e1, e2⟩
  · exact .inr ⟨r, g3, AHeap.get_set _ _ _, g1, g2⟩
theorem sub_set_free {H G : AHeap} {p : Nat} (x : ARow) (h : H.sub G) (hn : H p = none) : H.sub (G.set p x) := fun b y hb => by
  have hne : b ≠ p := fun e => by subst e; rw [hn] at hb; cases hb
  rw [AHeap.get_set_ne _ _ hne]; exact h b y hb
end Go.Proofs.Ytgedefcjngofkaa.AM

/- The abstract machine, part 23: ranges over maps. -/
set_option linter.unusedVariables false
set_option linter.unusedSimpArgs false
namespace Go.Proofs.Ytgedefcjngofkaa.AM
open Go
section
variable {G : AHeap}
theorem mapb_of_map {w : World} {b : Nat} {es : List (AV × AV)} (h : RowRep G w b (.map es)) : ∃ bs clk, RowRep G w b (.mapb es bs clk) := by
  obtain ⟨ents, clock, h1, h2, h3, h4, h5⟩ := h
  refine ⟨ents.toList.map (·.born), clock, ents, h1, h2, h3, rfl, fun x hx => ?_, ?_⟩
  · obtain ⟨e, he, rfl⟩ := List.mem_map.1 hx
    obtain ⟨i, hi, rfl⟩ := List.getElem_of_mem he
    simpa using h4 i (by simpa using hi)
  · rw [List.pairwise_iff_getElem]
    intro i j hi hj hij
    simpa using h5 i j (by simpa using hi) (by simpa using hj) hij
theorem map_of_mapb {w : World} {b : Nat} {es : List (AV × AV)} {bs : List Nat} {clk : Nat} (h : RowRep G w b (.mapb es bs clk)) : RowRep G w b (.map es) := by
  obtain ⟨ents, h1, h2, h3, rfl, h4, h5⟩ := h
  refine ⟨ents, clk, h1, h2, h3, fun i hi => h4 _ (List.mem_map.2 ⟨ents[i], by simp, rfl⟩), fun i j hi hj hij => ?_⟩
  have := List.pairwise_iff_getElem.1 h5 i j (by simpa using hi) (by simpa using hj) hij
  simpa using this
theorem sim_know {w : World} {b : Nat} {x y : ARow} (hs : Sim G w) (hG : G b = some x) (hy : RowRep G w b y) : Sim (G.set b y) w := fun b' z hb => by
  have he : Ext G w (fun _ => False) (G.set b y) w := ext_know hG
  by_cases e : b' = b
  · subst e
    rw [AHeap.get_set] at hb
    injection hb with hb
    subst hb
    exact hy.mono he rfl
  · rw [AHeap.get_set_ne _ _ e] at hb
    exact (hs b' z hb).mono he rfl
theorem ext_setI {w : World} {b : Nat} {m m' : Option Nat} {s0 s1 l0 l1 : Nat} {e0 e1 : Array Nat} {y : ARow} (hh : w.heap[b]? = some (.mapIter m s0 e0 l0)) (hr : G b ≠ none) : Ext G w (fun x => x = b) (G.set b y) (setO w b (.mapIter m' s1 e1 l1)) where
  os := rfl
  tape := rfl
  output := rfl
  size := by simp [setO]
  same := fun b' hb hn => setO_other w b b' _ hn
  shape := fun b' hb => by
    unfold World.shape?
    by_cases e : b' = b
    · subst e; rw [setO_self w b' _ hb, hh]
    · rw [setO_other w b b' _ e]
  dom := fun b' hb hg => by
    have : b' ≠ b := fun e => hr (e ▸ hg)
    rw [AHeap.get_set_ne _ _ this]; exact hg
  lists := fun b' e => by subst e; exact hr
end
section
variable {md : Bool} {P : Program} {c : Ctx} {env B : Env} {L : LPtr} {G : AHeap} {dst : Option Tmp} {ty : TypeId} {pos : String} {af : Array Edge} {gd : Option (Nat × Bool)} {Q : Exit → Act → World → Prop} {K : Act → World → Prop}
theorem g_mapb {r : Nat} {es : List (AV × AV)} (hG : G r = some (.map es)) (h : ∀ bs clk, bs.length = es.length → (∀ x ∈ bs, x < clk) → bs.Pairwise (· < ·) → GoalL c env L B (G.set r (.mapb es bs clk)) K) : GoalL c env L B G K := fun ρ hρ a w hs => by
  have hGb := boxes_sub hρ _ _ hG
  obtain ⟨bs, clk, hm⟩ := mapb_of_map (hs.sim _ _ hGb)
  have hm0 := hm
  obtain ⟨ents, _, h2, _, h4, h5, h6⟩ := hm0
  obtain ⟨h7, h8⟩ := boxes_setR (x := .mapb es bs clk) hρ hG
  have h9 := hs.move (sim_know hs.sim hGb hm) (ext_know hGb) (fun _ _ h => h.elim)
  rw [h8] at h9
  exact h bs clk (by rw [← h4]; simp [h2]) h5 h6 ρ h7 a w h9
theorem g_unmapb {r clk : Nat} {es : List (AV × AV)} {bs : List Nat} (hG : G r = some (.mapb es bs clk)) (h : GoalL c env L B (G.set r (.map es)) K) : GoalL c env L B G K := fun ρ hρ a w hs => by
  have hGb := boxes_sub hρ _ _ hG
  obtain ⟨h7, h8⟩ := boxes_setR (x := .map es) hρ hG
  have h9 := hs.move (sim_know hs.sim hGb (map_of_mapb (hs.sim _ _ hGb))) (ext_know hGb) (fun _ _ h => h.elim)
  rw [h8] at h9
  exact h ρ h7 a w h9
theorem s_range {T KT E s b' r clk d : Nat} {z : Option Value} {x : Operand} {es : List (AV × AV)} {bs : List Nat} (hT : TyI P T (.map KT E) s z b') (hd : Nat.blt d c.nt = true) (hx : ev env L x = some (.map r)) (hG : G r = some (.mapb es bs clk))
    (h : ∀ b, G b = none → c.w0.heap.size ≤ b → GoalL c ((d, .box b 0) :: env) (ldel L d) B (G.set b (.iter r clk [] clk)) K) : StepL P c ⟨some d, .range T x, ty, pos, af, gd⟩ Q env L B G K := fun ρ hρ a w hs => by
  obtain ⟨ents, h1, _⟩ := hs.sim _ _ (boxes_sub hρ _ _ hG)
  have hr := hs.eval (ev_full (ρ := ρ) hx)
  generalize hu : a.eval x = u at hr
  cases hr
  have hrun : (execOp a.eval ⟨some d, .range T x, ty, pos, af, gd⟩).run P w = .ok (.value (.pointer (some ⟨w.heap.size, 0, none⟩))) (w.alloc (.mapIter (some r) clk #[] clk)) := by
    simp only [execOp, hu, Sem.run_bind, run_range_map w T KT E r ents clk hT.und h1, Result.andThen_ok, Sem.run_pure]
  unfold Oper.wp
  rw [hrun, Oper.upon_value]
  have hn := hs.sim.none (Nat.le_refl _)
  have hsim : Sim ((boxes ρ G B).set w.heap.size (.iter r clk [] clk)) (w.alloc (.mapIter (some r) clk #[] clk)) := sim_alloc hs.sim _ _ (heap_alloc_new' w _)
  exact Goal.env full_put (goal_set hρ hn (h _ (sub_none (boxes_sub hρ) hn) hs.fresh)) _ _ ((hs.move hsim (ext_alloc hs.sim _ _) (fun _ _ h => h.elim)).put hd (.box _ 0 (by simp)))
theorem contains_iff (seen : List Nat) (x : Nat) : seen.toArray.contains x = decide (x ∈ seen) := by
  rw [Bool.eq_iff_iff]; simp
theorem s_next {r b since last clk d : Nat} {x : Operand} {es : List (AV × AV)} {bs seen : List Nat} (hd : Nat.blt d c.nt = true) (hx : ev env L x = some (.box b 0)) (hG : G r = some (.mapb es bs clk)) (hI : G b = some (.iter r since seen last))
    (hold : ∀ x ∈ bs, x < since) (hsl : since ≤ last) (hD : c.D b ∨ c.w0.heap.size ≤ b)
    (h1 : (∀ x ∈ bs, x ∈ seen) → GoalL c ((d, .tup [.bool false]) :: env) (ldel L d) B G K)
    (h2 : ∀ i (hi : i < es.length) (hb : i < bs.length), bs[i] ∉ seen → GoalL c ((d, .tup [.bool true, es[i].1, es[i].2]) :: env) (ldel L d) B (G.set b (.iter r since (seen ++ [bs[i]]) clk)) K) :
    StepL P c ⟨some d, .next x false, ty, pos, af, gd⟩ Q env L B G K := fun ρ hρ a w hs => by
  have hGb := boxes_sub hρ _ _ hG
  have hIb := boxes_sub hρ _ _ hI
  obtain ⟨ents, g1, g2, g3, g4, g5, g6⟩ := hs.sim _ _ hGb
  have k1 : w.heap[b]? = some (.mapIter (some r) since seen.toArray last) := hs.sim _ _ hIb
  have hr := hs.eval (ev_full (ρ := ρ) hx)
  generalize hu : a.eval x = u at hr
  cases hr
  have hbl : b < w.heap.size := hs.sim.lt hIb
  have holde : ∀ e ∈ ents.toList, e.born < since := fun e he => hold _ (by rw [← g4]; exact List.mem_map.2 ⟨e, he, rfl⟩)
  have hgi : (getObj b).run P w = .ok (.mapIter (some r) since seen.toArray last) w := by simp [getObj, Sem.run, k1]
  have hgm : (getObj r).run P w = .ok (.map ents clk) w := by simp [getObj, Sem.run, g1]
  have hcases : ((leftOf ents seen.toArray).size = 0 ∧ (Instr.next (.pointer (some ⟨b, 0, none⟩)) false ty).run P w = .ok (.tuple #[.bool false]) w) ∨
      ∃ e ∈ (leftOf ents seen.toArray).toList, ∃ w1 : World, (w1 = w ∨ w1 = w.drew) ∧ (Instr.next (.pointer (some ⟨b, 0, none⟩)) false ty).run P w = .ok (.tuple #[.bool true, e.key, e.val]) (setO w1 b (.mapIter (some r) since (seen.toArray.push e.born) clk)) := by
    simp only [Instr.next, Sem.run_bind, hgi, Result.andThen_ok, hgm, next_test_false seen.toArray ents since last holde hsl, Bool.false_eq_true, if_false]
    unfold leftOf
    have hmem : ∀ x ∈ (Array.filter (fun e => !seen.toArray.contains e.born) ents).toList, x.born < since := fun x hx => holde x (by simp at hx ⊢; exact hx.1)
    generalize Array.filter (fun e => !seen.toArray.contains e.born) ents = LL at hmem ⊢
    have e1 : LL.filter (fun x => decide (x.born < since)) = LL := Array.filter_eq_self.2 (fun x hx => by simpa using hmem x (by simpa using hx))
    have e2 : LL.filter (fun x => decide (x.born ≥ since)) = #[] := by
      rw [Array.filter_eq_empty_iff]
      intro x hx
      have := hmem x (by simpa using hx)
      simp
      omega
    simp only [e1, e2, Array.append_empty]
    by_cases h0 : LL.size = 0
    · left
      have : LL = #[] := Array.eq_empty_of_size_eq_zero h0
      subst this
      refine ⟨rfl, ?_⟩
      simp [choose, Sem.run, Question.forced]
    · right
      have hne : LL.isEmpty = false := by simp [Array.isEmpty, h0]
      simp only [hne, Bool.false_eq_true, if_false, Array.empty_append, Array.size_map]
      have hch : ∃ (j : Nat) (w1 : World), j < LL.size ∧ (w1 = w ∨ w1 = w.drew) ∧ (choose (Question.mapNext LL.size)).run P w = .ok j w1 := by
        by_cases hf : LL.size ≤ 1
        · exact ⟨0, w, by omega, .inl rfl, by simp [choose, Sem.run, Question.forced, hf]⟩
        · exact ⟨_, w.drew, Nat.mod_lt _ (by omega), .inr rfl, by
            simp only [choose, Sem.run, Question.forced, decide_eq_true_eq, hf, if_false, Question.cut]
            rfl⟩
      obtain ⟨j, w1, hj, hal, hrun⟩ := hch
      refine ⟨LL[j], by simp, w1, hal, ?_⟩
      have hset : ∀ o', (setObj b o').run P w1 = .ok () (setO w1 b o') := fun o' => by
        have : w1.heap[b]? = some (.mapIter (some r) since seen.toArray last) := by rcases hal with rfl | rfl <;> exact k1
        simp [setObj, Sem.run, this, setO]
      simp only [hrun, Array.getElem?_map, Array.getElem?_eq_getElem hj, Option.map_some, Sem.run_bind, hset, Result.andThen_ok, Sem.run_pure]
  rcases hcases with ⟨hz, hrun⟩ | ⟨e, he, w1, hw1, hrun⟩
  · have hexec : (execOp a.eval ⟨some d, .next x false, ty, pos, af, gd⟩).run P w = .ok (.value (.tuple #[.bool false])) w := by
      simp only [execOp, hu, Sem.run_bind, hrun, Result.andThen_ok, Sem.run_pure]
    unfold Oper.wp
    rw [hexec, Oper.upon_value]
    refine Goal.env full_put (h1 (fun y hy => ?_) ρ hρ) _ _ (hs.put hd (.tup [.bool false] [.bool false] rfl (fun i i1 i2 => by
      match i, i1 with
      | 0, _ => exact .bool _)))
    rw [← g4] at hy
    obtain ⟨e, he, rfl⟩ := List.mem_map.1 hy
    have := all_seen ents seen.toArray hz e he
    rw [contains_iff] at this
    simpa using this
  · obtain ⟨m1, m2⟩ := mem_left he
    obtain ⟨i, hi, hie⟩ := List.getElem_of_mem m1
    have hi2 : i < ents.size := by simpa using hi
    have hie2 : ents[i] = e := by simpa using hie
    have hil : i < es.length := by omega
    have hib : i < bs.length := by rw [← g4]; simpa using hi2
    have hbi : bs[i] = e.born := by
      have : bs[i]? = some e.born := by rw [← g4]; simp [hi2, hie2]
      rw [List.getElem?_eq_getElem hib] at this
      exact Option.some.inj this
    have hnot : bs[i] ∉ seen := by
      rw [hbi]; rw [contains_iff] at m2; simpa using m2
    have hexec : (execOp a.eval ⟨some d, .next x false, ty, pos, af, gd⟩).run P w = .ok (.value (.tuple #[.bool true, e.key, e.val])) (setO w1 b (.mapIter (some r) since (seen.toArray.push e.born) clk)) := by
      simp only [execOp, hu, Sem.run_bind, hrun, Result.andThen_ok, Sem.run_pure]
    have hs1 : St c (full ρ env L) (boxes ρ G B) a w1 := by
      rcases hw1 with rfl | rfl
      · exact hs
      · exact hs.move (D := fun _ => False) (sim_drew hs.sim) ext_drew (fun _ _ h => h.elim)
    have k1' : w1.heap[b]? = some (.mapIter (some r) since seen.toArray last) := by rcases hw1 with rfl | rfl <;> exact k1
    have hbl1 : b < w1.heap.size := by rcases hw1 with rfl | rfl <;> exact hbl
    have hneb : (boxes ρ G B) b ≠ none := by rw [hIb]; simp
    have hpush : seen.toArray.push e.born = (seen ++ [bs[i]]).toArray := by rw [hbi]; simp
    have hext := ext_setI (G := boxes ρ G B) (y := .iter r since (seen ++ [bs[i]]) clk) (m' := some r) (s1 := since) (e1 := seen.toArray.push e.born) (l1 := clk) k1' hneb
    have hsim : Sim ((boxes ρ G B).set b (.iter r since (seen ++ [bs[i]]) clk)) (setO w1 b (.mapIter (some r) since (seen.toArray.push e.born) clk)) := fun b' y hb => by
      by_cases e' : b' = b
      · subst e'
        rw [AHeap.get_set] at hb
        injection hb with hb
        subst hb
        show (setO w1 b' _).heap[b']? = _
        rw [setO_self w1 b' _ hbl1, hpush]
      · rw [AHeap.get_set_ne _ _ e'] at hb
        exact (hs1.sim b' y hb).mono hext (setO_other w1 b b' _ e')
    unfold Oper.wp
    rw [hexec, Oper.upon_value]
    obtain ⟨h7, h8⟩ := boxes_setR (x := .iter r since (seen ++ [bs[i]]) clk) hρ hI
    have h9 := hs1.move hsim hext (fun b' hb e' => by subst e'; exact hD.resolve_right (by omega))
    rw [h8] at h9
    have hk := g3 i hil hi2
    rw [hie2] at hk
    have hk2 : Rep (boxes ρ (G.set b (.iter r since (seen ++ [bs[i]]) clk)) B) (setO w1 b (.mapIter (some r) since (seen.toArray.push e.born) clk)) (.tup [.bool true, es[i].1, es[i].2]) (.tuple #[.bool true, e.key, e.val]) := by
      have hmono : ∀ {a v}, Rep (boxes ρ G B) w a v → Rep (boxes ρ (G.set b (.iter r since (seen ++ [bs[i]]) clk)) B) (setO w1 b (.mapIter (some r) since (seen.toArray.push e.born) clk)) a v := fun {a v} hr => by
        rw [← h8]
        refine Rep.mono hext ?_
        rcases hw1 with rfl | rfl
        · exact hr
        · exact hr.mono ext_drew
      exact .tup [.bool true, es[i].1, es[i].2] [.bool true, e.key, e.val] rfl (fun j j1 j2 => by
        match j, j1 with
        | 0, _ => exact .bool _
        | 1, _ => exact hmono hk.1
        | 2, _ => exact hmono hk.2)
    exact Goal.env full_put (h2 i hil hib hnot ρ h7) _ _ (h9.put hd hk2)
theorem v_entry {r b since clk : Nat} {x : Operand} {es : List (AV × AV)} {bs seen : List Nat} (hx : ev env L x = some (.box b 0)) (hG : G r = some (.mapb es bs clk)) {i : Nat} (hi : i < es.length) (hb : i < bs.length) (hI : G b = some (.iter r since (seen ++ [bs[i]]) clk)) :
    ValL P c ⟨dst, .entry x, ty, pos, af, gd⟩ env L B G (.tup [es[i].1, es[i].2]) := fun ρ hρ a w hs => by
  have hGb := boxes_sub hρ _ _ hG
  have hIb := boxes_sub hρ _ _ hI
  obtain ⟨ents, g1, g2, g3, g4, g5, g6⟩ := hs.sim _ _ hGb
  have k1 : w.heap[b]? = some (.mapIter (some r) since (seen ++ [bs[i]]).toArray clk) := hs.sim _ _ hIb
  have hr := hs.eval (ev_full (ρ := ρ) hx)
  generalize hu : a.eval x = u at hr
  cases hr
  have hi2 : i < ents.size := by omega
  have hbi : bs[i] = ents[i].born := by
    have : bs[i]? = some ents[i].born := by rw [← g4]; simp [hi2]
    rw [List.getElem?_eq_getElem hb] at this
    exact Option.some.inj this
  have hnod : (ents.toList.map (·.born)).Nodup := by rw [g4]; exact g6.imp (fun h e => by omega)
  have hf : ents.find? (·.born == ents[i].born) = some ents[i] := by rw [← Array.find?_toList]; exact find_born ents[i] ents.toList hnod (by simp)
  have hk := g3 i hi hi2
  refine ⟨.tuple #[ents[i].key, ents[i].val], .tup [es[i].1, es[i].2] [ents[i].key, ents[i].val] rfl (fun j j1 j2 => by
    match j, j1 with
    | 0, _ => exact hk.1
    | 1, _ => exact hk.2), fun w' hw' => ?_⟩
  have hsm := hw' rfl
  have k1' := (hsm.2 b (hs.sim.lt hIb)).trans k1
  have g1' := (hsm.2 r (hs.sim.lt hGb)).trans g1
  have hback : (seen ++ [bs[i]]).toArray.back? = some ents[i].born := by rw [hbi]; simp
  have hrun : (Instr.entry (.pointer (some ⟨b, 0, none⟩))).run P w' = .ok (.tuple #[ents[i].key, ents[i].val]) w' := by
    simp only [Instr.entry, getObj, Sem.run_bind, Sem.run, k1', g1', Result.andThen_ok, hback, bne_self_eq_false, Bool.false_eq_true, if_false, hf]
    rfl
  simp only [execOp, hu, Sem.run_bind, hrun, Result.andThen_ok, Sem.run_pure]
end
end Go.Proofs.Ytgedefcjngofkaa.AM

/- The abstract machine, part 24: slices.Sort of integers, by the library's own contract. -/
set_option linter.unusedVariables false
set_option linter.unusedSimpArgs false
namespace Go.Proofs.Ytgedefcjngofkaa.AM
open Go
section
variable {P : Program} {G : AHeap}
theorem putRow_at (w : World) (r off : Nat) (d : Array Int) {C : Array Value} {T : TypeId} (h : w.heap[r]? = some (.cells C T (0, 0))) :
    (Sort.putRow (Value.int .i64) w r off d).heap[r]? = some (.cells (Sort.putCells (Value.int .i64) off d C) T (0, 0)) := by
  simp [Sort.putRow, Sort.mapBlock, Array.getElem?_modify, h, Sort.onCells]
theorem putRow_ne (w : World) (r off b : Nat) (d : Array Int) (h : b ≠ r) : (Sort.putRow (Value.int .i64) w r off d).heap[b]? = w.heap[b]? := by
  simp [Sort.putRow, Sort.mapBlock, Array.getElem?_modify, Ne.symm h]
theorem grow_old (w : World) (os : Array Obj) {b : Nat} (h : b < w.heap.size) : (Sort.grow w os).heap[b]? = w.heap[b]? := by
  simp only [Sort.grow]; rw [Array.getElem?_append_left h]
theorem sort_calls {ρ : Go.Shelf.Ren} (Ly : Go.Proofs.Lays.n189 P ρ) {fn : Func} (hf : FnI P (ρ.f 189) fn) (r : Nat) (l : List Int) (hG : G r = some (.row 1 (l.map (.int .i64)))) (hl : l.length ≤ 1000000) :
    LCalls P (ρ.f 189) [.own r 1 0 l.length] G (· = r) (fun n v effs => v = .tup [] ∧ effs = [(r, .row 1 ((l.mergeSort fun x y => decide (x ≤ y)).map (.int .i64)))]) := fun H hH => ⟨⟨fn, hf⟩, fun w vs hs hr => by
  have hHr := hH _ _ hG
  obtain ⟨v, rfl⟩ : ∃ v, vs = [v] := by
    have := hr.1
    match vs, this with
    | [v], _ => exact ⟨v, rfl⟩
  have hv : Rep H w (.own r 1 0 l.length) v := hr.2 0 (by simp) (by simp)
  obtain ⟨C, T, h1, h2, h3, h4⟩ := hs _ _ hHr
  have hlt : r < w.heap.size := hs.lt hHr
  have hCl : l.length ≤ C.size := by simpa using h2
  have hcell : ∀ j (hj : j < l.length), C[j]? = some (.int .i64 l[j]) := fun j hj => by
    obtain ⟨u, hu, hru⟩ := h4 j (by simpa using hj) 0 (by simp [AV.cells])
    simp only [List.getElem_map, AV.cells, List.getElem_cons_zero, Nat.mul_one, Nat.add_zero] at hu hru
    cases hru
    exact hu
  cases hv with
  | own _ _ _ _ cp hc hsh =>
    have hH0 : Sort.Holds (Value.int .i64) w r 0 l.toArray := fun j hj => by
      have hj' : j < l.length := by simpa using hj
      refine ⟨?_, by simp [World.frozen?, h1]⟩
      have e : l.toArray[j]! = l[j] := by rw [getElem!_pos _ j hj]; simp
      rw [e, Nat.zero_add]
      simp [World.cell?, h1, hcell j hj']
    have hcall := calls_of_every_depth fun D => Go.Proofs.AnyS.slices_Sort_int_in Ly D r 0 cp l w hH0 hlt (by omega)
    obtain ⟨s, hsdef⟩ : ∃ s, s = l.mergeSort fun x y => decide (x ≤ y) := ⟨_, rfl⟩
    have hsl : s.length = l.length := by rw [hsdef]; exact List.length_mergeSort _
    rw [← hsdef] at hcall ⊢
    rw [show (0 : Nat) * 1 = 0 from rfl]
    refine hcall.mono fun e w' ⟨he, n, os, hw'⟩ => ?_
    subst hw'
    have hw1 : (Sort.ahead w n).heap[r]? = some (.cells C T (0, 0)) := h1
    have hr' : (Sort.grow (Sort.putRow (Value.int .i64) (Sort.ahead w n) r 0 s.toArray) os).heap[r]? = some (.cells (Sort.putCells (Value.int .i64) 0 s.toArray C) T (0, 0)) := by
      rw [grow_old _ _ (by simpa using hlt)]; exact putRow_at _ _ _ _ hw1
    have hother : ∀ b, b < w.heap.size → b ≠ r → (Sort.grow (Sort.putRow (Value.int .i64) (Sort.ahead w n) r 0 s.toArray) os).heap[b]? = w.heap[b]? := fun b hb hne => by
      rw [grow_old _ _ (by simpa using hb), putRow_ne _ _ _ _ _ hne]; rfl
    have hsz : (Sort.putCells (Value.int .i64) 0 s.toArray C).size = C.size := by simp [Sort.putCells]
    have hext : Ext H w (fun b => b = r) (H.set r (.row 1 (s.map (.int .i64)))) (Sort.grow (Sort.putRow (Value.int .i64) (Sort.ahead w n) r 0 s.toArray) os) := {
      os := rfl, tape := rfl, output := rfl
      size := by simp
      same := fun b hb hn => hother b hb hn
      shape := fun b hb => by
        unfold World.shape?
        by_cases e : b = r
        · subst e; rw [hr', h1]; simp [hsz]
        · rw [hother b hb e]
      dom := fun b hb hg => by
        have : b ≠ r := fun e => by subst e; rw [hHr] at hg; cases hg
        rw [AHeap.get_set_ne _ _ this]; exact hg
      lists := fun b e => by subst e; rw [hHr]; simp }
    refine ⟨.tuple #[], .tup [], H.set r (.row 1 (s.map (.int .i64))), he, ⟨[(r, .row 1 (s.map (.int .i64)))], ⟨rfl, rfl⟩, fun p hp => .inl (by simp at hp; subst hp; rw [hG]; simp), rfl⟩, .tup [] [] rfl (fun i h => by simp at h), fun b y hb => ?_, hext⟩
    by_cases e : b = r
    · subst e
      rw [AHeap.get_set] at hb
      injection hb with hb
      subst hb
      refine ⟨_, T, hr', by rw [hsz]; simp [hsl]; exact hCl, fun i hi => by simp [AV.cells], fun i hi j hj => ?_⟩
      have hi' : i < s.length := by simpa using hi
      have hj0 : j = 0 := by simp only [List.getElem_map, AV.cells, List.length_singleton] at hj; omega
      subst hj0
      refine ⟨.int .i64 s[i], ?_, ?_⟩
      · have hiC : i < C.size := by omega
        rw [Nat.mul_one, Nat.add_zero]
        simp only [Sort.putCells, Array.getElem?_mapIdx, Array.getElem?_eq_getElem hiC, Option.map_some]
        rw [if_pos ⟨Nat.zero_le _, by simpa using hi'⟩, Nat.sub_zero, getElem!_pos _ i (by simpa using hi')]
        simp
      · simp only [List.getElem_map, AV.cells, List.getElem_cons_zero]
        exact .int _ _
    · rw [AHeap.get_set_ne _ _ e] at hb
      exact (hs b y hb).mono hext (hother b (hs.lt hb) e)⟩
end
section
variable {md : Bool} {P : Program} {c : Ctx} {env : Env} {G : AHeap} {dst : Option Tmp} {ty : TypeId} {pos : String} {af : Array Edge} {gd : Option (Nat × Bool)}
theorem val_conv_int {T D s b' s2 b2 : Nat} {z z2 : Option Value} {k0 ks k : IntKind} {n : Int} {x : Operand} (hT : TyI P T (.int ks) s z b') (hD : TyI P D (.int k) s2 z2 b2) (hx : aeval env x = some (.int k0 n)) :
    ValM md P c ⟨dst, .convert T D x, ty, pos, af, gd⟩ env G (.int k (k.wrap n)) := fun a w hs => by
  refine ⟨_, .int .., fun w' _ => ?_⟩
  simp [execOp, rep_int (hs.eval hx), convert, hT.run_und, hD.run_und, Conv.intToInt]
theorem val_index_str {T s b' i : Nat} {z : Option Value} {x y : Operand} {m : ByteArray} {kd : IntKind} {n : Int} {b : UInt8} (hT : TyI P T .string s z b') (hx : aeval env x = some (.str m)) (hy : aeval env y = some (.int kd n)) (hn : n = (i : Int)) (hb : m[i]? = some b) :
    ValM md P c ⟨dst, .index T x y, ty, pos, af, gd⟩ env G (.int .u8 b.toNat) := fun a w hs => by
  subst hn
  refine ⟨_, .int .., fun w' _ => ?_⟩
  have h0 : (0 : Int) ≤ (i : Int) := by omega
  simp only [execOp, rep_str (hs.eval hx), rep_int (hs.eval hy), Instr.index, asIntOf, Sem.run_bind, Sem.run_pure, Result.andThen_ok, hT.run_und, if_pos h0, Int.toNat_natCast, hb]
end
section
variable {md : Bool} {P : Program} {c : Ctx} {env B : Env} {L : LPtr} {G : AHeap} {dst : Option Tmp} {ty : TypeId} {pos : String} {af : Array Edge} {gd : Option (Nat × Bool)}
theorem v_conv_int {T D s b' s2 b2 : Nat} {z z2 : Option Value} {k0 ks k : IntKind} {n m : Int} {x : Operand} (hT : TyI P T (.int ks) s z b') (hD : TyI P D (.int k) s2 z2 b2) (hx : ev env L x = some (.int k0 n)) (hm : k.wrap n = m) :
    ValLM md P c ⟨dst, .convert T D x, ty, pos, af, gd⟩ env L B G (.int k m) := fun ρ hρ => hm ▸ val_conv_int hT hD (ev_full hx)
theorem v_index_str {T s b' i : Nat} {z : Option Value} {x y : Operand} {m : ByteArray} {kd : IntKind} {n : Int} {b : UInt8} (hT : TyI P T .string s z b') (hx : ev env L x = some (.str m)) (hy : ev env L y = some (.int kd n)) (hn : n = (i : Int)) (hb : m[i]? = some b) :
    ValLM md P c ⟨dst, .index T x y, ty, pos, af, gd⟩ env L B G (.int .u8 b.toNat) := fun ρ hρ => val_index_str hT (ev_full hx) (ev_full hy) hn hb
/-- A row of the call's own beside another row that is set. -/
theorem own_put {n0 sz b : Nat} {H G : AHeap} {av : AV} {l : List AV} {x : ARow} (y : ARow) (h : Own n0 sz H av l G) (hb : H b = some x) : Own n0 sz (H.set b y) av l (G.set b y) := by
  rcases h with ⟨e1, e2, rfl⟩ | ⟨r, g1, g2, g3, rfl⟩
  · exact .inl ⟨e1, e2, rfl⟩
  · have hne : r ≠ b := fun e => by subst e; rw [hb] at g1; cases g1
    refine .inr ⟨r, by rw [AHeap.get_set_ne _ _ hne]; exact g1, g2, g3, ?_⟩
    refine AHeap.ext fun b' => ?_
    by_cases e1 : b' = b
    · subst e1; rw [AHeap.get_set, AHeap.get_set_ne _ _ (Ne.symm hne), AHeap.get_set]
    · rw [AHeap.get_set_ne _ _ e1]
      by_cases e2 : b' = r
      · subst e2; rw [AHeap.get_set, AHeap.get_set]
      · rw [AHeap.get_set_ne _ _ e2, AHeap.get_set_ne _ _ e2, AHeap.get_set_ne _ _ e1]
end
end Go.Proofs.Ytgedefcjngofkaa.AM
namespace Go.Proofs.Ytgedefcjngofkaa.AM
open Go
section
variable {c : Ctx} {env B : Env} {L : LPtr} {G : AHeap} {K : Act → World → Prop}
/-- A variable's value said with less. -/
theorem g_wkB (s : Nat) {cs : List AV} {v' : AV} (hB : B.get s = some (.agg cs)) (hv : AV.agg (cs.map AV.wk1) = v') (h : GoalL c env L ((s, v') :: edel B s) G K) : GoalL c env L B G K := fun ρ hρ a w hs => by
  subst hv
  obtain ⟨h7, h8⟩ := boxes_set (new := .agg (cs.map AV.wk1)) hρ hB
  have hG := boxes_get hρ hB
  have hrow : RowRep (boxes ρ G B) w (ρ s) (.box (.agg (cs.map AV.wk1))) := by
    obtain ⟨C, T, g1, g2, g3⟩ := hs.sim _ _ hG
    refine ⟨C, T, g1, by simpa [AV.cells] using g2, fun j hj => ?_⟩
    have hj' : j < cs.length := by simpa [AV.cells] using hj
    obtain ⟨u, hu, hr⟩ := g3 j hj'
    refine ⟨u, hu, ?_⟩
    simp only [AV.cells, List.getElem_map] at hr ⊢
    exact ASub.wk1 _ _ _ _ hr
  have h9 := hs.move (sim_know hs.sim hG hrow) (ext_know hG) (fun _ _ h => h.elim)
  rw [← h8] at h9
  exact h ρ h7 a w h9
end
end Go.Proofs.Ytgedefcjngofkaa.AM
namespace Go.Proofs.Ytgedefcjngofkaa.AM
open Go
/-- What is kept, told whole: so that no later look-up works it out again. -/
theorem keep_nil {env : Env} : env.keep [] = [] := rfl
theorem keep_cons {env e : Env} {t : Nat} {ts : List Nat} {v : AV} (h : env.get t = some v) (h2 : env.keep ts = e) : env.keep (t :: ts) = (t, v) :: e := by
  rw [Env.keep, h, h2]
theorem keep_skip {env e : Env} {t : Nat} {ts : List Nat} (h : env.get t = none) (h2 : env.keep ts = e) : env.keep (t :: ts) = e := by
  rw [Env.keep, h, h2]
theorem lkeep_nil {L : LPtr} : lkeep L [] = [] := rfl
theorem lkeep_cons {L e : LPtr} {t : Nat} {ts : List Nat} {v : Nat × Nat} (h : lget L t = some v) (h2 : lkeep L ts = e) : lkeep L (t :: ts) = (t, v) :: e := by
  rw [lkeep, h, h2]
theorem lkeep_skip {L e : LPtr} {t : Nat} {ts : List Nat} (h : lget L t = none) (h2 : lkeep L ts = e) : lkeep L (t :: ts) = e := by
  rw [lkeep, h, h2]
end Go.Proofs.Ytgedefcjngofkaa.AM

/- The abstract machine, part 25: shifts and bits. -/
set_option linter.unusedVariables false
set_option linter.unusedSimpArgs false
namespace Go.Proofs.Ytgedefcjngofkaa.AM
open Go
section
variable {md : Bool} {P : Program} {c : Ctx} {env B : Env} {L : LPtr} {G : AHeap} {dst : Option Tmp} {ty : TypeId} {pos : String} {af : Array Edge} {gd : Option (Nat × Bool)} {T T' : TypeId} {x y : Operand} {k k' : IntKind} {m n : Int}
theorem v_shr (hx : ev env L x = some (.int k m)) (hy : ev env L y = some (.int k' n)) (h : 0 ≤ n) : ValLM md P c ⟨dst, .binOp .shr T x y T', ty, pos, af, gd⟩ env L B G (.int k (m.fdiv (2 ^ (min n.toNat k.bits)))) := fun ρ hρ =>
  val_int (ev_full hx) (ev_full hy) fun w => ⟨_, .int .., fun w' => by simp [binOp, Op.shift, Int.not_lt.2 h]⟩
theorem v_and (hx : ev env L x = some (.int k m)) (hy : ev env L y = some (.int k n)) : ValLM md P c ⟨dst, .binOp .and T x y T', ty, pos, af, gd⟩ env L B G (.int k (k.wrap (BitVec.ofInt k.bits m &&& BitVec.ofInt k.bits n).toNat)) := fun ρ hρ =>
  val_int (ev_full hx) (ev_full hy) fun w => ⟨_, .int .., fun w' => by simp [binOp, Op.intBits]⟩
end
end Go.Proofs.Ytgedefcjngofkaa.AM

/- The abstract machine, part 26: pointers to a slice's first element, or to nothing. -/
set_option linter.unusedVariables false
set_option linter.unusedSimpArgs false
namespace Go.Proofs.Ytgedefcjngofkaa.AM
open Go
def ptrO (b : AV) : Bool → AV
  | true => .elp b 0 0
  | false => .nilp
section
variable {md : Bool} {P : Program} {c : Ctx} {env B : Env} {L : LPtr} {G : AHeap} {dst : Option Tmp} {ty : TypeId} {pos : String} {af : Array Edge} {gd : Option (Nat × Bool)} {T T' E : TypeId} {s b' : Nat} {z : Option Value} {x y : Operand} {b : AV} {o : Bool}
theorem v_ptrO_neq (hT : TyI P T (.pointer E) s z b') (hx : ev env L x = some (ptrO b o)) (hy : ev env L y = some .nilp) : ValLM md P c ⟨dst, .binOp .neq T x y T', ty, pos, af, gd⟩ env L B G (.bool o) := by
  cases o
  · exact v_nil_neq_nil hT hx hy
  · exact v_ptr_neq_nil hT hx rfl hy
theorem v_ptrO_eql (hT : TyI P T (.pointer E) s z b') (hx : ev env L x = some (ptrO b o)) (hy : ev env L y = some .nilp) : ValLM md P c ⟨dst, .binOp .eql T x y T', ty, pos, af, gd⟩ env L B G (.bool (!o)) := by
  cases o
  · exact v_nil_eql_nil hT hx hy
  · exact v_ptr_eql_nil hT hx rfl hy
end
end Go.Proofs.Ytgedefcjngofkaa.AM

/- The abstract machine, part 27: append onto a row that came in. -/
set_option linter.unusedVariables false
set_option linter.unusedSimpArgs false
namespace Go.Proofs.Ytgedefcjngofkaa.AM
open Go
section
variable {md : Bool} {P : Program} {c : Ctx} {env : Env} {G : AHeap} {dst : Option Tmp} {ty : TypeId} {pos : String} {af : Array Edge} {gd : Option (Nat × Bool)} {Q : Exit → Act → World → Prop} {K : Act → World → Prop}
/-- append onto a listed row that the call may write. -/
theorem step_appendR {T E s b' by_ sz d r : Nat} {z' : Option Value} {zv : Value} {de : TypeDesc} {x y : Operand} {b : AV} {l m : List AV} (hT : TyI P T (.slice E) s z' b') (hE : TyI P E de sz (some zv) by_) (hd : Nat.blt d c.nt = true)
    (hx : aeval env x = some (.own r sz 0 l.length)) (hr3 : G r = some (.row sz l)) (hr2 : c.D r ∨ c.w0.heap.size ≤ r) (hy : aeval env y = some b) (hm : b.view G = some m) (hme : Even sz m)
    (hcell : ∀ x ∈ m, x.cells.all AV.isCell = true) (hzs : zv.cells.size = sz) (h0 : 0 < m.length) (hb1 : l.length + m.length ≤ 140737488355328) (hb2 : (l.length + m.length) * by_ ≤ 140737488355328)
    (hk : ∀ r', (r' = r ∨ (G r' = none ∧ c.w0.heap.size ≤ r')) → Goal c ((d, .own r' sz 0 (l ++ m).length) :: env) (G.set r' (.row sz (l ++ m))) K) :
    Step P c ⟨some d, .call ⟨.builtin .append, #[x, y], #[T, T]⟩, ty, pos, af, gd⟩ Q env G K := fun a w hs => by
  obtain ⟨i0, g1, g2, g3, g4, g5⟩ := hE.run_info w
  have hrx := hs.eval hx
  have hry := hs.eval hy
  unfold Oper.wp
  obtain ⟨ad, cu, vs, hu, hvs, hvl, hcells⟩ := view_cells hs.sim hry hm hme h0
  have hvl' : vs.length = m.length * i0.size := by rw [g3]; exact hvl
  have hone : ∀ u ∈ vs, u.oneCell' = true := hvs.oneCell (List.all_eq_true.2 fun x hx => by
    obtain ⟨y, hy1, hy2⟩ := flat_mem hx
    exact List.all_eq_true.1 (hcell y hy1) x hy2)
  have hby : (l.length + m.length) * i0.bytes ≤ 140737488355328 := by rw [g5]; exact hb2
  have hdrew : St c env G a w.drew := hs.move (D := fun _ => False) (sim_drew hs.sim) ext_drew (fun _ _ h => h.elim)
  obtain ⟨C, Tc, os, rest, hh, hle, hC, hos⟩ := row_block hs.sim hr3
  have hol : os.length = l.length * sz := by rw [← hos.1, flat_len hle]
  have hCs : C.size = os.length + rest.length := by rw [← Array.length_toList, hC]; simp
  generalize hv : a.eval x = v at hrx
  cases hrx with
  | own _ _ _ _ cp hc hsh =>
    obtain ⟨T', N, hsh1, hsh2⟩ := hsh
    have hN : N = C.size := by unfold World.shape? at hsh1; rw [hh] at hsh1; simp at hsh1; exact hsh1.2.symm
    have hcap : cp * sz ≤ C.size := by rw [← hN]; simpa using hsh2
    by_cases hroom : l.length + m.length ≤ cp
    · have hfit : l.length * sz + vs.length ≤ C.size := by
        rw [hvl, ← Nat.add_mul]; exact Nat.le_trans (Nat.mul_le_mul_right _ hroom) hcap
      have hTc : ∃ v', (Builtin.append_ #[T, T] ty #[.slice (some ⟨r, 0, none⟩) l.length cp, .slice (some ad) m.length cu]).run P w = .ok (.slice (some ⟨r, 0, none⟩) (l.length + m.length) cp) v' ∧ v' = w.setRow r (C.toList.take (l.length * sz) ++ vs ++ C.toList.drop (l.length * sz + vs.length)).toArray := by
        have hf := run_firstCells_some (P := P) w sz m.length ad m.length cu vs hvl hcells
        have hst := run_storeCells_at P r (l.length * sz) Tc vs 0 C w hh (by simpa using hfit) hone
        simp only [Nat.add_zero] at hst
        exact ⟨_, by simp [Builtin.append_, hT.run_und, hE.run_size, Builtin.lenOf, hroom, hf, Addr.add_lit, hst], rfl⟩
      obtain ⟨w', hrun, rfl⟩ := hTc
      have hz0 : 0 * sz = 0 := Nat.zero_mul _
      rw [hz0] at hv
      rw [append_exec hv hu hrun, Oper.upon_value]
      obtain ⟨hsim, hext⟩ := row_store hs.sim hr3 hh hle hme hC hos hvs (Nat.le_refl _) hfit
      have hl2 : l.take l.length ++ m ++ l.drop (l.length + m.length) = l ++ m := by simp
      rw [hl2] at hsim hext
      have h5 := hs.move hsim hext (fun b hb e => by subst e; rcases hr2 with h | h; exact h; omega)
      refine hk r (.inl rfl) _ _ (h5.put hd ?_)
      have h6 := Rep.own (G := G.set r (.row sz (l ++ m))) (w := w.setRow r (C.toList.take (l.length * sz) ++ vs ++ C.toList.drop (l.length * sz + vs.length)).toArray) r sz 0 (l ++ m).length cp (by simpa using hroom)
        ⟨T', N, (hext.shape r (shape_lt hsh1)).trans hsh1, hsh2⟩
      simpa using h6
    · have hz0 : 0 * sz = 0 := Nat.zero_mul _
      rw [hz0] at hv
      have holds : ∀ j v, os[j]? = some v → w.cell? ((⟨r, 0, none⟩ : Addr).add j) = some v := fun j v hj => by
        rw [add_mk, Nat.zero_add]
        have : C[j]? = some v := by
          rw [← Array.getElem?_toList, hC, List.getElem?_append_left (by
            rcases Nat.lt_or_ge j os.length with h' | h'
            · exact h'
            · rw [List.getElem?_eq_none h'] at hj; cases hj)]
          exact hj
        simp [World.cell?, hh, this]
      have hr := run_append_grow (P := P) w T ty E i0 zv hT.und g2 g4 ⟨r, 0, none⟩ l.length cp os (by rw [g3]; exact hol) holds ad m.length cu vs hvl' hcells (by omega) (by omega) (growslice_fits (by omega) hby)
      rw [append_exec hv hu hr, Oper.upon_value]
      have hge := grownCap_ge w (l.length + m.length) cp E
      have hreps : Reps G w.drew (flat (l ++ m)) (os ++ vs) := by rw [flat_append]; exact (hos.append hvs).mono ext_drew
      have hsz : grownCap w (l.length + m.length) cp E * sz ≤ (os.toArray ++ vs.toArray ++ Builtin.zeroCells zv.cells (grownCap w (l.length + m.length) cp E - (l.length + m.length))).size := by
        simp only [Array.size_append, List.size_toArray, size_zeroCells, hzs, hol, hvl, ← Nat.add_mul]
        exact Nat.mul_le_mul_right _ (by omega)
      have h7 := hdrew.newRow (C := os.toArray ++ vs.toArray ++ Builtin.zeroCells zv.cells (grownCap w (l.length + m.length) cp E - (l.length + m.length))) (T := E) (cap := grownCap w (l.length + m.length) cp E) hd (hle.append hme)
        (vs := os ++ vs) (rest := (Builtin.zeroCells zv.cells (grownCap w (l.length + m.length) cp E - (l.length + m.length))).toList) (by simp) hreps (by simpa using hge) hsz
      have h8 := hk w.drew.heap.size (.inr ⟨hdrew.sim.none (Nat.le_refl _), hdrew.fresh⟩) _ _ h7
      simpa using h8
end
/-- A slice that is nil, or a whole listed row. -/
def SV (G : AHeap) (sz : Nat) (av : AV) (l : List AV) : Prop := (av = .nil0 ∧ l = []) ∨ ∃ r, av = .own r sz 0 l.length ∧ G r = some (.row sz l)
theorem SV.view {G : AHeap} {sz : Nat} {av : AV} {l : List AV} (h : SV G sz av l) : av.view G = some l := by
  rcases h with ⟨rfl, rfl⟩ | ⟨r, rfl, hr⟩
  · rfl
  · exact AV.view_own_all hr rfl
theorem SV.one {G : AHeap} {sz : Nat} {av : AV} {l : List AV} (h : SV G sz av l) : av.cells = [av] ∧ av.cells.all AV.isCell = true := by
  rcases h with ⟨rfl, _⟩ | ⟨r, rfl, _⟩ <;> exact ⟨rfl, rfl⟩
theorem Own.sv {n0 sz : Nat} {H G : AHeap} {av : AV} {l : List AV} (h : Own n0 sz H av l G) : SV G sz av l := h.imp (fun h => ⟨h.1, h.2.1⟩) (fun ⟨r, h1, h2, h3, h4⟩ => ⟨r, h3, by rw [h4]; exact AHeap.get_set _ _ _⟩)
theorem SV.mono {G H : AHeap} {sz : Nat} {av : AV} {l : List AV} (h : SV G sz av l) (hs : G.sub H) : SV H sz av l := h.imp id fun ⟨r, h1, h2⟩ => ⟨r, h1, hs _ _ h2⟩
section
variable {md : Bool} {P : Program} {c : Ctx} {env B : Env} {L : LPtr} {G : AHeap} {dst : Option Tmp} {ty : TypeId} {pos : String} {af : Array Edge} {gd : Option (Nat × Bool)} {Q : Exit → Act → World → Prop} {K : Act → World → Prop}
/-- append onto what a variable had: a row that is new, or the one that was there. -/
theorem s_appendV {T E s b' by_ sz d : Nat} {z' : Option Value} {zv : Value} {de : TypeDesc} {x y : Operand} {av b : AV} {l m : List AV} (hT : TyI P T (.slice E) s z' b') (hE : TyI P E de sz (some zv) by_) (hd : Nat.blt d c.nt = true)
    (hx : ev env L x = some av) (hsv : (av = .nil0 ∧ l = []) ∨ ∃ r, av = .own r sz 0 l.length ∧ G r = some (.row sz l) ∧ (c.D r ∨ c.w0.heap.size ≤ r)) (hy : ev env L y = some b) (hm : b.view G = some m) (hme : Even sz m)
    (hcell : ∀ x ∈ m, x.cells.all AV.isCell = true) (hzs : zv.cells.size = sz) (h0 : 0 < m.length) (hb1 : l.length + m.length ≤ 140737488355328) (hb2 : (l.length + m.length) * by_ ≤ 140737488355328)
    (h : ∀ r', ((G r' = none ∧ c.w0.heap.size ≤ r') ∨ av = .own r' sz 0 l.length) → GoalL c ((d, .own r' sz 0 (l ++ m).length) :: env) (ldel L d) B (G.set r' (.row sz (l ++ m))) K) : StepL P c ⟨some d, .call ⟨.builtin .append, #[x, y], #[T, T]⟩, ty, pos, af, gd⟩ Q env L B G K := fun ρ hρ => by
  rcases hsv with ⟨rfl, rfl⟩ | ⟨r, rfl, hr, hD⟩
  · refine step_append (H := boxes ρ G B) (l := []) hT hE hd (ev_full hx) (AHeap.sub_refl _) (.inl ⟨rfl, rfl⟩) (ev_full hy) (view_sub (boxes_sub hρ) hm) hme hcell hzs hb1 hb2 (fun he => ?_) (fun r hr hn => ?_)
    · rw [List.nil_append] at he; rw [he] at h0; simp at h0
    · exact Goal.env full_put (goal_set hρ hr (h r (.inl ⟨sub_none (boxes_sub hρ) hr, hn⟩)))
  · refine step_appendR hT hE hd (ev_full hx) (boxes_sub hρ _ _ hr) hD (ev_full hy) (view_sub (boxes_sub hρ) hm) hme hcell hzs h0 hb1 hb2 (fun r' hr' => ?_)
    rcases hr' with rfl | ⟨h1, h2⟩
    · obtain ⟨h3, h4⟩ := boxes_setR hρ (x := .row sz (l ++ m)) hr
      rw [h4]
      exact Goal.env full_put (h r' (.inr rfl) ρ h3)
    · exact Goal.env full_put (goal_set hρ h1 (h r' (.inl ⟨sub_none (boxes_sub hρ) h1, h2⟩)))
/-- From here on nobody writes what a variable had. -/
theorem g_freezeV {sz : Nat} {av : AV} {l : List AV} {H : AHeap} (t : Nat) (ht : ev env L (.tmp t) = some av) (hsv : SV G sz av l) (hsub : H.sub G) (hn : ∀ r k, av = .own r sz 0 k → H r = none) (h : GoalL c ((t, .imm l) :: env) (ldel L t) B H K) : GoalL c env L B G K := by
  rcases hsv with ⟨rfl, rfl⟩ | ⟨r, rfl, hr⟩
  · exact g_forget hsub (g_sub t ht ASub.nil0 h)
  · exact g_freezeG (l := l) (m := l) t ht hr hsub (hn r _ rfl) (by simp) (by simp) h
end
end Go.Proofs.Ytgedefcjngofkaa.AM


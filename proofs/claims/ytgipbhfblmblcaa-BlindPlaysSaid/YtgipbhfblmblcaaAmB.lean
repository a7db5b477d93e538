/- The abstract machine: arguments, slices, maps, libraries. -/
import Derived.Test.YtgipbhfblmblcaaAmA
import Derived.WideShapes
import Derived.Below
import Derived.Laws.StructEq
import Derived.Lib.AppendZerosOnto
import Derived.Lib.Overlaps
import Derived.Laws.BytesString
import Derived.Laws.IdiomRangeMap
import Derived.Sort.EveryDepth
import Derived.Shelf.Sort.AssemblyIn
import Derived.Laws.AppendOwn
/- The abstract machine, part 13: a row's arguments as abstract values; what such values are, type by type; a law's call. -/
set_option linter.unusedVariables false
set_option linter.unusedSimpArgs false
namespace Go.Proofs.Ytgipbhfblmblcaa.AM
open Go

section
variable {P : Program}

theorem okWide_one {w : World} {r : Reach} {base : Nat} {t : TypeId} {v : Value} (h : Value.okWide P w r base t v) (ha : isAggT P t = false) : v.cells = #[v] := by
  cases ht : P.underlying t with
  | none => simp [Value.okWide, ht, Cell.okWide, Cell.ok] at h
  | some d =>
    cases v with
    | agg cs =>
      exfalso
      cases d <;> simp [isAggT, ht, aggDesc] at ha <;> simp [Value.okWide, ht, Cell.okWide, Cell.ok] at h
    | _ => rfl
theorem okWide_agg {w : World} {r : Reach} {base : Nat} {t : TypeId} {v : Value} (h : Value.okWide P w r base t v) (ha : isAggT P t = true) : ∃ cs, v = .agg cs := by
  cases ht : P.underlying t with
  | none => simp [isAggT, ht] at ha
  | some d =>
    cases d <;> simp [isAggT, ht, aggDesc] at ha
    all_goals
      simp only [Value.okWide, ht] at h
      obtain ⟨cs, h, _⟩ := h
      exact ⟨cs, h⟩
/-- An argument. -/
theorem arg_rep {H : Type} {enc : TypeId × Value → H} {w : World} {sp : Nat → Bool} {held : Bool} {r : Reach} {base : Nat} {t : TypeId} {v : Value} {d : DataW H} {ps : List MemPlace} (hl : laidOutB P = true) (hne : noEmpty P = true) (hv : isVar P t = true)
    (h : DataW.Trod enc P w 0 sp held t v d ps) (hok : Value.okWide P w r base t v) (hw : Light P t d) : ∃ avs, Shaped P t avs ∧ Rep noHeap w (pack P t avs) v := by
  obtain ⟨fuel, hf⟩ := h
  obtain ⟨avs, h1, h2⟩ := shaped_of_trod hl hne fuel t _ _ hv hf hw
  refine ⟨avs, h2, ?_⟩
  unfold pack
  cases ha : isAggT P t with
  | false =>
    rw [okWide_one hok ha] at h1
    obtain ⟨a, rfl, _⟩ := h2.one ha
    exact h1.2 0 (by simp) (by simp)
  | true =>
    obtain ⟨cs, rfl⟩ := okWide_agg hok ha
    have e : (Value.agg cs).cells.toList = cs.toList := rfl
    rw [e] at h1
    have := Rep.agg avs cs.toList h1.1 h1.2
    simpa using this

theorem TyI.bytesOf_eq {t : TypeId} {d : TypeDesc} {sz b : Nat} {z : Option Value} (h : TyI P t d sz z b) : P.bytesOf t = b := by
  have h1 := h.info
  unfold Program.bytesOf
  cases hi : P.info? t with
  | none => rw [hi] at h1; cases h1
  | some i => rw [hi] at h1; simp only [Option.map_some, Option.some.injEq, Prod.mk.injEq] at h1; simp [h1.2.2]
theorem reach_len {t : TypeId} {d : TypeDesc} {sz b n : Nat} {z : Option Value} (hT : TyI P t d sz z b) (h : n * P.bytesOf t ≤ reachBytes) : n * b ≤ 140737488351232 := by
  rw [hT.bytesOf_eq] at h; exact h
theorem pack_one {t : TypeId} {d : TypeDesc} {sz b : Nat} {z : Option Value} (h : TyI P t d sz z b) (hd : aggDesc d = false) (x : List AV) : pack P t x = x.headD .unk := by
  simp only [pack, isAggT, h.und, hd]
theorem pack_agg {t : TypeId} {d : TypeDesc} {sz b : Nat} {z : Option Value} (h : TyI P t d sz z b) (hd : aggDesc d = true) (x : List AV) : pack P t x = .agg x := by
  simp only [pack, isAggT, h.und, hd]

theorem shaped_int {t : TypeId} {k : IntKind} {sz b : Nat} {z : Option Value} {x : List AV} (h : TyI P t (.int k) sz z b) (hx : Shaped P t x) : ∃ n, x = [.int k n] ∧ k.min ≤ n ∧ n ≤ k.max := by
  have hu := h.und
  cases hx with
  | int n ht hw =>
    rw [hu] at ht; cases ht
    exact ⟨n, rfl, by simpa [Lit.wf] using hw⟩
  | other ht hd => rw [hu] at ht; cases ht; exact hd.elim
  | bool _ ht | str _ ht _ | slice _ ht _ _ | struct _ ht _ _ | array _ ht _ _ => rw [hu] at ht; cases ht
theorem shaped_bool {t : TypeId} {sz b : Nat} {z : Option Value} {x : List AV} (h : TyI P t .bool sz z b) (hx : Shaped P t x) : ∃ v, x = [.bool v] := by
  have hu := h.und
  cases hx with
  | bool n ht => exact ⟨n, rfl⟩
  | other ht hd => rw [hu] at ht; cases ht; exact hd.elim
  | int _ ht _ | str _ ht _ | slice _ ht _ _ | struct _ ht _ _ | array _ ht _ _ => rw [hu] at ht; cases ht
theorem shaped_slice {t e : TypeId} {sz b : Nat} {z : Option Value} {x : List AV} (h : TyI P t (.slice e) sz z b) (hx : Shaped P t x) : ∃ l : List (List AV), x = [.imm (l.map (pack P e))] ∧ l.length * P.bytesOf e ≤ reachBytes ∧ ∀ y ∈ l, Shaped P e y := by
  have hu := h.und
  cases hx with
  | slice l ht hl hs => rw [hu] at ht; cases ht; exact ⟨l, rfl, hl, hs⟩
  | other ht hd => rw [hu] at ht; cases ht; exact hd.elim
  | int _ ht _ | bool _ ht | str _ ht _ | struct _ ht _ _ | array _ ht _ _ => rw [hu] at ht; cases ht
/-- A list, its elements told. -/
theorem shaped_list {t e : TypeId} {sz b : Nat} {z : Option Value} {x : List AV} {α : Type} (en : α → AV) (good : α → Prop) (h : TyI P t (.slice e) sz z b) (hx : Shaped P t x) (he : ∀ y, Shaped P e y → ∃ a, pack P e y = en a ∧ good a) :
    ∃ l : List α, x = [.imm (l.map en)] ∧ l.length * P.bytesOf e ≤ reachBytes ∧ ∀ y ∈ l, good y := by
  obtain ⟨l, rfl, hl, hs⟩ := shaped_slice h hx
  have key : ∀ l : List (List AV), (∀ y ∈ l, Shaped P e y) → ∃ l' : List α, l.map (pack P e) = l'.map en ∧ l'.length = l.length ∧ ∀ y ∈ l', good y := by
    intro l
    induction l with
    | nil => exact fun _ => ⟨[], rfl, rfl, fun y hy => by cases hy⟩
    | cons y l ih =>
      intro hs
      obtain ⟨l', h1, h2, h3⟩ := ih fun z hz => hs z (List.mem_cons_of_mem _ hz)
      obtain ⟨a, h4, h5⟩ := he y (hs y List.mem_cons_self)
      exact ⟨a :: l', by simp [h1, h4], by simp [h2], fun z hz => by
        rcases List.mem_cons.1 hz with rfl | hz
        · exact h5
        · exact h3 z hz⟩
  obtain ⟨l', h1, h2, h3⟩ := key l hs
  exact ⟨l', by rw [h1], by rw [h2]; exact hl, h3⟩
def ShapedAll (P : Program) : List TypeId → List (List AV) → Prop
  | [], [] => True
  | t :: ts, x :: l => Shaped P t x ∧ ShapedAll P ts l
  | _, _ => False
theorem shapedAll_of : ∀ (ts : List TypeId) (l : List (List AV)), l.length = ts.length → (∀ i (h1 : i < l.length) (h2 : i < ts.length), Shaped P ts[i] l[i]) → ShapedAll P ts l
  | [], [], _, _ => trivial
  | [], _ :: _, h, _ => by simp at h
  | _ :: _, [], h, _ => by simp at h
  | t :: ts, x :: l, h, hr => ⟨hr 0 (by simp) (by simp), shapedAll_of ts l (by simpa using h) fun i h1 h2 => hr (i + 1) (Nat.succ_lt_succ h1) (Nat.succ_lt_succ h2)⟩
theorem shaped_struct {t : TypeId} {fs : Array Field} {sz b : Nat} {z : Option Value} {x : List AV} {ts : List TypeId} (h : TyI P t (.struct fs) sz z b) (hts : fs.toList.map (·.type) = ts) (hx : Shaped P t x) : ∃ l, x = l.flatten ∧ ShapedAll P ts l := by
  have hu := h.und
  subst hts
  cases hx with
  | struct l ht hl hs =>
    rw [hu] at ht; cases ht
    refine ⟨l, rfl, shapedAll_of _ _ (by simpa using hl) fun i h1 h2 => ?_⟩
    simpa using hs i h1 (by simpa using h2)
  | other ht hd => rw [hu] at ht; cases ht; exact hd.elim
  | int _ ht _ | bool _ ht | str _ ht _ | slice _ ht _ _ | array _ ht _ _ => rw [hu] at ht; cases ht
/-- A law's call. -/
theorem law_calls {f : FuncId} {args : List AV} {vs : List Value} {w : World} (h : PCalls P f args noHeap (fun r => r = .bool true)) (hv : Reps noHeap w args vs) :
    Calls P f vs.toArray w fun e w' => e = .returned (.bool true) ∧ RowKit.Below w.heap.size w w' := by
  refine ((h noHeap (AHeap.sub_refl _)).2 w vs (fun b x hb => by cases hb) hv).mono ?_
  rintro e w' ⟨v, r, G', rfl, ⟨effs, ⟨_, rfl⟩, _, _⟩, hr, _, he⟩
  cases hr
  exact ⟨rfl, he.os, he.tape, he.output, he.size, fun k hk => he.same k hk (fun h => h)⟩
theorem reps_cons {w : World} {G : AHeap} {a : AV} {v : Value} {l : List AV} {vs : List Value} (h : Rep G w a v) (hl : Reps G w l vs) : Reps G w (a :: l) (v :: vs) := Reps.cons h hl
theorem reps_nil {w : World} {G : AHeap} : Reps G w [] [] := Reps.nil _ _
end
end Go.Proofs.Ytgipbhfblmblcaa.AM

/- The abstract machine, part 14: slices of slices and of strings. -/
set_option linter.unusedVariables false
set_option linter.unusedSimpArgs false
namespace Go.Proofs.Ytgipbhfblmblcaa.AM
open Go

def aevb (env : Env) (dflt : Int) : Option Operand → Option Int
  | none => some dflt
  | some x => match aeval env x with
    | some (.int _ n) => some n
    | _ => none
def evb (env : Env) (L : LPtr) (dflt : Int) : Option Operand → Option Int
  | none => some dflt
  | some x => match ev env L x with
    | some (.int _ n) => some n
    | _ => none
theorem evb_full {ρ : Nat → Nat} {env : Env} {L : LPtr} {dflt n : Int} {x : Option Operand} (h : evb env L dflt x = some n) : aevb (full ρ env L) dflt x = some n := by
  cases x with
  | none => exact h
  | some x =>
    simp only [evb] at h
    simp only [aevb]
    split at h <;> try cases h
    rename_i hx
    rw [ev_full hx]

section
variable {md : Bool} {P : Program} {c : Ctx} {env : Env} {L : LPtr} {B : Env} {G : AHeap} {dst : Option Tmp} {ty : TypeId} {pos : String} {af : Array Edge} {gd : Option (Nat × Bool)}

theorem run_bounds {a : Act} {w : World} (hs : St c env G a w) {low high : Option Operand} {len cap lo hi : Nat} {m1 m2 : Int} {iss : Bool} (hlo : aevb env 0 low = some m1) (hhi : aevb env (len : Int) high = some m2)
    (h1 : m1 = (lo : Int)) (h2 : m2 = (hi : Int)) (hle : lo ≤ hi) (hc : hi ≤ cap) (w' : World) :
    (Instr.sliceBounds iss len cap (low.map a.eval) (high.map a.eval) none).run P w' = .ok (lo, hi, cap) w' := by
  subst h1; subst h2
  have hb : ∀ (x : Operand) (n y : Nat) (code : BoundsCode) (k : IntKind), aeval env x = some (.int k (n : Int)) → n ≤ y → (Instr.sliceBound (a.eval x) y code).run P w' = .ok n w' := by
    intro x n y code k hx hn
    rw [rep_int (hs.eval hx)]
    have h0 : (0 : Int) ≤ (n : Int) ∧ (n : Int) ≤ (y : Int) := by omega
    simp only [Instr.sliceBound, asIntOf, Sem.run_bind, Sem.run_pure, Result.andThen_ok, if_pos h0, Int.toNat_natCast]
  have key : ∀ (x : Option Operand) (d : Int) (n : Nat), aevb env d x = some (n : Int) → (∃ y k, x = some y ∧ aeval env y = some (.int k (n : Int))) ∨ (x = none ∧ d = (n : Int)) := by
    intro x d n h
    cases x with
    | none => exact .inr ⟨rfl, by simpa [aevb] using h⟩
    | some y =>
      simp only [aevb] at h
      split at h <;> try cases h
      rename_i k hx
      exact .inl ⟨y, k, rfl, hx⟩
  unfold Instr.sliceBounds
  rcases key high _ hi hhi with ⟨y, k, rfl, hy⟩ | ⟨rfl, hh⟩ <;> rcases key low _ lo hlo with ⟨y', k', rfl, hy'⟩ | ⟨rfl, hl⟩
  · simp only [Option.map_some, Sem.run_bind, Sem.run_pure, Result.andThen_ok, hb y hi cap _ k hy hc, Option.isSome_none, hb y' lo hi _ k' hy' hle]
  · have : lo = 0 := by omega
    subst this
    simp only [Option.map_some, Option.map_none, Sem.run_bind, Sem.run_pure, Result.andThen_ok, hb y hi cap _ k hy hc]
  · have : hi = len := by omega
    subst this
    simp only [Option.map_some, Option.map_none, Sem.run_bind, Sem.run_pure, Result.andThen_ok, Option.isSome_none, Bool.false_eq_true, if_false, hb y' lo hi _ k' hy' hle]
  · have e1 : hi = len := by omega
    have e2 : lo = 0 := by omega
    subst e1; subst e2
    simp only [Option.map_none, Sem.run_bind, Sem.run_pure, Result.andThen_ok]

theorem val_slice_own {T E : TypeId} {d : TypeDesc} {sz by_ s b' lo hi r o n : Nat} {z z' : Option Value} {x : Operand} {low high : Option Operand} {m1 m2 : Int} (hT : TyI P T (.slice E) s z' b') (hE : TyI P E d sz z by_)
    (hx : aeval env x = some (.own r sz o n)) (hlo : aevb env 0 low = some m1) (hhi : aevb env (n : Int) high = some m2) (h1 : m1 = (lo : Int)) (h2 : m2 = (hi : Int)) (hle : lo ≤ hi) (hc : hi ≤ n) (hne : lo = 0 ∨ lo < n) :
    ValM md P c ⟨dst, .slice T x low high none, ty, pos, af, gd⟩ env G (.own r sz (o + lo) (hi - lo)) := fun a w hs => by
  have hr := hs.eval hx
  generalize hu : a.eval x = u at hr
  cases hr with
  | own _ _ _ _ cp hcp hsh =>
    obtain ⟨T', N, g1, g2⟩ := hsh
    have hb := fun w' => run_bounds (P := P) (iss := true) (cap := cp) hs hlo hhi h1 h2 hle (by omega) w'
    refine ⟨_, ?_, fun w' _ => by
      simp only [execOp, hu, Instr.sliceAt, Sem.run_bind, hT.run_und, Result.andThen_ok, Instr.slice, Option.map_none, hb w', hE.run_size, Sem.run_pure]; rfl⟩
    have e : (if cp = lo then (some (⟨r, o * sz, none⟩ : Addr)) else (some (⟨r, o * sz, none⟩ : Addr)).map (·.add (lo * sz))) = some ⟨r, (o + lo) * sz, none⟩ := by
      split
      · have : lo = 0 := by omega
        subst this; simp
      · simp [add_mk, Nat.add_mul]
    rw [e]
    exact .own r sz (o + lo) (hi - lo) (cp - lo) (by omega) ⟨T', N, g1, Nat.le_trans (Nat.mul_le_mul_right _ (by omega)) g2⟩
theorem v_slice_own {T E : TypeId} {d : TypeDesc} {sz by_ s b' lo hi r o n : Nat} {z z' : Option Value} {x : Operand} {low high : Option Operand} {m1 m2 : Int} (hT : TyI P T (.slice E) s z' b') (hE : TyI P E d sz z by_)
    (hx : ev env L x = some (.own r sz o n)) (hlo : evb env L 0 low = some m1) (hhi : evb env L (n : Int) high = some m2) (h1 : m1 = (lo : Int)) (h2 : m2 = (hi : Int)) (hle : lo ≤ hi) (hc : hi ≤ n) (hne : lo = 0 ∨ lo < n) :
    ValLM md P c ⟨dst, .slice T x low high none, ty, pos, af, gd⟩ env L B G (.own r sz (o + lo) (hi - lo)) := fun ρ hρ => val_slice_own hT hE (ev_full hx) (evb_full hlo) (evb_full hhi) h1 h2 hle hc hne
end
end Go.Proofs.Ytgipbhfblmblcaa.AM

/- The abstract machine, part 15: a variable of the call's own becomes a block that everybody may point to. -/
set_option linter.unusedVariables false
set_option linter.unusedSimpArgs false
namespace Go.Proofs.Ytgipbhfblmblcaa.AM
open Go

section
variable {c : Ctx} {env B : Env} {L : LPtr} {G : AHeap} {K : Act → World → Prop}
theorem edel_some {B : Env} {s t : Nat} {v : AV} (h : (edel B s).get t = some v) : s ≠ t ∧ B.get t = some v := by
  rw [edel_get] at h
  split at h
  · cases h
  · exact ⟨by assumption, h⟩
theorem boxes_expose {ρ : Nat → Nat} {s : Nat} {v : AV} (hρ : Good c G B ρ) (hb : B.get s = some v) : Good c (G.set (ρ s) (.box v)) (edel B s) ρ ∧ boxes ρ (G.set (ρ s) (.box v)) (edel B s) = boxes ρ G B := by
  have hg : Good c (G.set (ρ s) (.box v)) (edel B s) ρ := ⟨fun t u hu => by
    obtain ⟨h1, h2⟩ := edel_some hu
    have hne : ρ t ≠ ρ s := fun e => h1 (hρ.inj s t v u hb h2 e.symm)
    exact ⟨by rw [AHeap.get_set_ne _ _ hne]; exact (hρ.fresh t u h2).1, (hρ.fresh t u h2).2⟩, fun t t' u u' h h' e => hρ.inj t t' u u' (edel_some h).2 (edel_some h').2 e⟩
  refine ⟨hg, AHeap.ext fun b => ?_⟩
  rcases boxes_cases hg b with ⟨t, u, h1, h2, h3⟩ | ⟨h1, h2⟩
  · rw [h3, h2]; exact (boxes_get hρ (edel_some h1).2).symm
  · rw [h2]
    by_cases hbs : b = ρ s
    · subst hbs; rw [AHeap.get_set]; exact (boxes_get hρ hb).symm
    · rw [AHeap.get_set_ne _ _ hbs]
      refine (boxes_other fun t u hu e => ?_).symm
      have hne : s ≠ t := fun e' => by subst e'; exact hbs e
      exact h1 t u (by rw [edel_get, if_neg hne]; exact hu) e
theorem g_expose {s off : Nat} {v : AV} (t : Nat) (hl : lget L t = some (s, off)) (hb : B.get s = some v)
    (h : ∀ r, G r = none → c.w0.heap.size ≤ r → GoalL c ((t, .box r off) :: env) (ldel L t) (edel B s) (G.set r (.box v)) K) : GoalL c env L B G K := fun ρ hρ => by
  obtain ⟨h1, h2⟩ := boxes_expose hρ hb
  have h3 := h (ρ s) (hρ.fresh s v hb).1 (hρ.fresh s v hb).2 ρ h1
  rw [h2] at h3
  refine Goal.env (fun t' u hu => ?_) h3
  have h4 := full_put t' u hu
  simp only [Env.get] at h4
  cases hbt : Nat.beq t t' with
  | true =>
    rw [hbt] at h4
    have := Nat.eq_of_beq_eq_true hbt; subst this
    rw [full_get, hl]; exact h4
  | false => rw [hbt] at h4; exact h4
end
end Go.Proofs.Ytgipbhfblmblcaa.AM

/- The abstract machine, part 16: maps whose keys are integers. -/
set_option linter.unusedVariables false
set_option linter.unusedSimpArgs false
namespace Go.Proofs.Ytgipbhfblmblcaa.AM
open Go

abbrev MRow := List (Int × AV)
def mrow (k : IntKind) (m : MRow) : ARow := .map (m.map fun p => (.int k p.1, p.2))
def mget : MRow → Int → Option AV
  | [], _ => none
  | (a, v) :: m, n => if n = a then some v else mget m n
def mput : MRow → Int → AV → MRow
  | [], n, v => [(n, v)]
  | (a, u) :: m, n, v => if n = a then (n, v) :: m else (a, u) :: mput m n v
def mfind : List Int → Int → Nat → Option Nat
  | [], _, _ => none
  | a :: l, n, i => if n = a then some i else mfind l n (i + 1)

theorem findNow_int {k : IntKind} {n : Int} : ∀ (es : List MapEntry) (l : List Int) (i : Nat), es.map (·.key) = l.map (.int k) → Instr.findNow (.int k) (.int k n) es i = some ((mfind l n i).bind fun j => (es[j - i]?).map fun e => (j, e.val))
  | [], [], i, _ => rfl
  | [], _ :: _, i, h => by simp at h
  | _ :: _, [], i, h => by simp at h
  | e :: es, a :: l, i, h => by
    simp only [List.map_cons, List.cons.injEq] at h
    simp only [Instr.findNow, h.1, Instr.sameNow, if_true, mfind]
    by_cases hn : n = a
    · simp [hn]
    · have hb : (n == a) = false := by simpa using hn
      simp only [hb, if_neg hn]
      rw [findNow_int es l (i + 1) h.2]
      congr 1
      cases hm : mfind l n (i + 1) with
      | none => rfl
      | some j =>
        have hlt : i + 1 ≤ j := by
          have key : ∀ (l : List Int) (i j : Nat), mfind l n i = some j → i ≤ j := by
            intro l
            induction l with
            | nil => intro i j h; simp [mfind] at h
            | cons a l ih => intro i j h; simp only [mfind] at h; split at h
                             · simp at h; omega
                             · have := ih _ _ h; omega
          exact key _ _ _ hm
        have e1 : j - i = (j - (i + 1)) + 1 := by omega
        simp [e1]
theorem mfind_get : ∀ (m : MRow) (n : Int) (i : Nat), match mfind (m.map (·.1)) n i with
    | none => mget m n = none ∧ ∀ v, mput m n v = m ++ [(n, v)]
    | some j => ∃ h : j - i < m.length, i ≤ j ∧ mget m n = some (m[j - i].2) ∧ m[j - i].1 = n ∧ ∀ v, mput m n v = m.set (j - i) (n, v)
  | [], n, i => by simp [mfind, mget, mput]
  | (a, u) :: m, n, i => by
    simp only [List.map_cons, mfind]
    by_cases hn : n = a
    · subst hn; simp [mget, mput]
    · simp only [if_neg hn]
      have ih := mfind_get m n (i + 1)
      cases hm : mfind (m.map (·.1)) n (i + 1) with
      | none => rw [hm] at ih; simp only at ih ⊢; exact ⟨by simp [mget, hn, ih.1], fun v => by simp [mput, hn, ih.2]⟩
      | some j =>
        rw [hm] at ih; simp only at ih ⊢
        obtain ⟨h1, h2, h3, h4, h5⟩ := ih
        have e1 : j - i = (j - (i + 1)) + 1 := by omega
        refine ⟨by simp [e1]; exact h1, by omega, ?_, ?_, fun v => ?_⟩
        · simp [mget, hn, h3, e1]
        · simp [e1, h4]
        · simp [mput, hn, h5, e1]

section
variable {md : Bool} {P : Program} {c : Ctx} {env : Env} {G : AHeap} {dst : Option Tmp} {ty : TypeId} {pos : String} {af : Array Edge} {gd : Option (Nat × Bool)} {Q : Exit → Act → World → Prop} {K : Act → World → Prop}

/-- What is known of a map's block. -/
theorem map_block {w : World} {r : Nat} {k : IntKind} {m : MRow} (h : Sim G w) (hG : G r = some (mrow k m)) : ∃ (ents : Array MapEntry) (clock : Nat), w.heap[r]? = some (.map ents clock) ∧ ents.toList.map (·.key) = (m.map (·.1)).map (.int k) ∧
    ents.size = m.length ∧ (∀ i (h1 : i < m.length) (h2 : i < ents.size), Rep G w m[i].2 ents[i].val) ∧ (∀ i (h : i < ents.size), ents[i].born < clock) ∧ (∀ i j (h : i < ents.size) (h' : j < ents.size), i < j → ents[i].born < ents[j].born) := by
  obtain ⟨ents, clock, h1, h2, h3, h4, h5⟩ := h _ _ hG
  have hl : ents.size = m.length := by simpa using h2
  refine ⟨ents, clock, h1, ?_, hl, fun i i1 i2 => ?_, h4, h5⟩
  · refine List.ext_getElem (by simp [hl]) fun i i1 i2 => ?_
    have := (h3 i (by simpa [hl] using i1) (by simpa using i1)).1
    simp only [List.getElem_map] at this ⊢
    simp only [Array.getElem_toList]
    generalize (ents[i]'(by simpa using i1)).key = kv at this
    cases this; rfl
  · have := (h3 i (by simpa using i1) i2).2
    simpa using this
theorem run_checkKey {T : TypeId} {k : IntKind} {n : Int} {s b' : Nat} {z : Option Value} (hT : TyI P T (.int k) s z b') (e : Bool) (w : World) : (Instr.checkKey e 10000 T (.int k n)).run P w = .ok () w := by
  rw [show (10000 : Nat) = 9999 + 1 from rfl]
  unfold Instr.checkKey
  simp only [Sem.run_bind, hT.run_und, Result.andThen_ok]
  rfl
theorem run_findKey {T : TypeId} {k : IntKind} {n : Int} {s b' : Nat} {z : Option Value} {es : List MapEntry} {l : List Int} (hT : TyI P T (.int k) s z b') (h : es.map (·.key) = l.map (.int k)) (w : World) :
    (Instr.findKey T (.int k n) es).run P w = .ok ((mfind l n 0).bind fun j => (es[j]?).map fun e => (j, e.val)) w := by
  unfold Instr.findKey
  simp only [Sem.run_bind, hT.run_und, Result.andThen_ok, findNow_int es l 0 h]
  rfl
theorem val_lookup {T KT E : TypeId} {k : IntKind} {n : Int} {s b' sk bk se be r : Nat} {z zk : Option Value} {zv : Value} {de : TypeDesc} {x y : Operand} {m : MRow} {ok : Bool} (hT : TyI P T (.map KT E) s z b') (hK : TyI P KT (.int k) sk zk bk) (hE : TyI P E de se (some zv) be)
    (hx : aeval env x = some (.map r)) (hG : G r = some (mrow k m)) (hy : aeval env y = some (.int k n)) :
    Val P c ⟨dst, .lookup T x y ok, ty, pos, af, gd⟩ env G (if ok then .tup [(mget m n).getD (zAV zv), .bool (mget m n).isSome] else (mget m n).getD (zAV zv)) := fun a w hs => by
  obtain ⟨ents, clock, h1, h2, h3, h4, _, _⟩ := map_block hs.sim hG
  have hr := hs.eval hx
  have hlt : r < w.heap.size := by
    rcases Nat.lt_or_ge r w.heap.size with h' | h'
    · exact h'
    · rw [Array.getElem?_eq_none h'] at h1; cases h1
  generalize hu : a.eval x = u at hr
  cases hr
  have hm := mfind_get m n 0
  have key : ∃ v, Rep G w ((mget m n).getD (zAV zv)) v ∧ ∀ w', Same w w' → (Instr.lookup T (.map (some r)) (.int k n) ok).run P w' = .ok (if ok then .tuple #[v, .bool (mget m n).isSome] else v) w' := by
    cases hf : mfind (m.map (·.1)) n 0 with
    | none =>
      rw [hf] at hm; simp only at hm
      refine ⟨zv, by rw [hm.1]; exact zAV_rep _ _ _, fun w' hw' => ?_⟩
      have h1' : w'.heap[r]? = some (.map ents clock) := (hw'.2 r hlt).trans h1
      have hg : (getObj r).run P w' = .ok (.map ents clock) w' := by simp [getObj, Sem.run, h1']
      simp only [Instr.lookup, Sem.run_bind, hT.run_und, Result.andThen_ok, hg, Sem.run_pure, run_checkKey hK, run_findKey hK h2, hf, Option.bind_none, hE.run_zero, hm.1]
      cases ok <;> rfl
    | some j =>
      rw [hf] at hm; simp only [Nat.sub_zero] at hm
      obtain ⟨g1, _, g3, g4, _⟩ := hm
      have hj : j < ents.size := by omega
      refine ⟨ents[j].val, by rw [g3]; exact h4 j g1 hj, fun w' hw' => ?_⟩
      have h1' : w'.heap[r]? = some (.map ents clock) := (hw'.2 r hlt).trans h1
      have hg : (getObj r).run P w' = .ok (.map ents clock) w' := by simp [getObj, Sem.run, h1']
      have he : ents.toList[j]? = some ents[j] := by rw [Array.getElem?_toList]; exact Array.getElem?_eq_getElem hj
      simp only [Instr.lookup, Sem.run_bind, hT.run_und, Result.andThen_ok, hg, Sem.run_pure, run_checkKey hK, run_findKey hK h2, hf, Option.bind_some, he, Option.map_some, g3]
      cases ok <;> rfl
  obtain ⟨v, hv, hrun⟩ := key
  refine ⟨if ok then .tuple #[v, .bool (mget m n).isSome] else v, ?_, fun w' hw' => ?_⟩
  · cases ok with
    | false => exact hv
    | true => exact .tup [_, _] [v, .bool _] rfl (fun i i1 i2 => by
        match i, i1 with
        | 0, _ => exact hv
        | 1, _ => exact .bool _)
  · have := hrun w' (hw' rfl)
    simp only [execOp, hu, rep_int (hs.eval hy), Sem.run_bind, this, Result.andThen_ok, Sem.run_pure]
/-- A world with another object in a block's place. -/
def setO (w : World) (r : Nat) (o : Obj) : World := { w with heap := w.heap.setIfInBounds r o }
theorem setO_other (w : World) (r b : Nat) (o : Obj) (h : b ≠ r) : (setO w r o).heap[b]? = w.heap[b]? := by
  simp [setO, Array.getElem?_setIfInBounds_ne (Ne.symm h)]
theorem setO_self (w : World) (r : Nat) (o : Obj) (h : r < w.heap.size) : (setO w r o).heap[r]? = some o := by
  simp [setO, h]
theorem ext_setO {w : World} {r c0 c1 : Nat} {e0 e1 : Array MapEntry} {y : ARow} (hh : w.heap[r]? = some (.map e0 c0)) (hr : G r ≠ none) : Ext G w (fun b => b = r) (G.set r y) (setO w r (.map e1 c1)) where
  os := rfl
  tape := rfl
  output := rfl
  size := by simp [setO]
  same := fun b hb hn => setO_other w r b _ hn
  shape := fun b hb => by
    unfold World.shape?
    by_cases e : b = r
    · subst e; rw [setO_self w b _ hb, hh]
    · rw [setO_other w r b _ e]
  dom := fun b hb hg => by
    have : b ≠ r := fun e => hr (e ▸ hg)
    rw [AHeap.get_set_ne _ _ this]; exact hg
  lists := fun b e => by subst e; exact hr
theorem sim_setO {w : World} {r c0 c1 : Nat} {e0 e1 : Array MapEntry} {y : ARow} (hs : Sim G w) (hh : w.heap[r]? = some (.map e0 c0)) (hr : G r ≠ none) (hy : RowRep (G.set r y) (setO w r (.map e1 c1)) r y) : Sim (G.set r y) (setO w r (.map e1 c1)) := fun b x hb => by
  unfold AHeap.set at hb
  split at hb
  · rename_i e; subst e; cases hb; exact hy
  · rename_i e; exact (hs b x hb).mono (ext_setO hh hr) (setO_other w r b _ e)

theorem step_mapUpdate {T KT E : TypeId} {k : IntKind} {n : Int} {s b' sk bk r : Nat} {z zk : Option Value} {x y v : Operand} {m : MRow} {av : AV} (hT : TyI P T (.map KT E) s z b') (hK : TyI P KT (.int k) sk zk bk)
    (hx : aeval env x = some (.map r)) (hG : G r = some (mrow k m)) (hy : aeval env y = some (.int k n)) (hv : aeval env v = some av) (hD : c.D r ∨ c.w0.heap.size ≤ r)
    (h : Goal c env (G.set r (mrow k (mput m n av))) K) : Step P c ⟨none, .mapUpdate T x y v, ty, pos, af, gd⟩ Q env G K := fun a w hs => by
  obtain ⟨ents, clock, h1, h2, h3, h4, h5, h6⟩ := map_block hs.sim hG
  have hlt : r < w.heap.size := by
    rcases Nat.lt_or_ge r w.heap.size with h' | h'
    · exact h'
    · rw [Array.getElem?_eq_none h'] at h1; cases h1
  have hr := hs.eval hx
  generalize hu : a.eval x = u at hr
  cases hr
  have hne : G r ≠ none := by rw [hG]; simp
  have hg : (getObj r).run P w = .ok (.map ents clock) w := by simp [getObj, Sem.run, h1]
  have hset : ∀ o, (setObj r o).run P w = .ok () (setO w r o) := fun o => by simp [setObj, Sem.run, h1, setO]
  have hm := mfind_get m n 0
  have hrv := hs.eval hv
  have key : ∃ e1 c1, (Instr.mapUpdate T (.map (some r)) (.int k n) (a.eval v)).run P w = .ok () (setO w r (.map e1 c1)) ∧ e1.size = (mput m n av).length ∧
      (∀ i (h1 : i < (mput m n av).length) (h2 : i < e1.size), Rep G w (.int k (mput m n av)[i].1) e1[i].key ∧ Rep G w (mput m n av)[i].2 e1[i].val) ∧
      (∀ i (h : i < e1.size), e1[i].born < c1) ∧ (∀ i j (h : i < e1.size) (h' : j < e1.size), i < j → e1[i].born < e1[j].born) := by
    have hkey : ∀ i (h1 : i < m.length) (h2 : i < ents.size), Rep G w (.int k m[i].1) ents[i].key := fun i i1 i2 => by
      have := congrArg (fun l => l[i]?) h2
      simp [i2, i1] at this
      rw [this]; exact .int _ _
    cases hf : mfind (m.map (·.1)) n 0 with
    | none =>
      rw [hf] at hm; simp only at hm
      refine ⟨ents.push ⟨.int k n, a.eval v, clock⟩, clock + 1, ?_, ?_, ?_, ?_, ?_⟩
      · simp only [Instr.mapUpdate, Sem.run_bind, hT.run_und, Result.andThen_ok, hg, run_checkKey hK, run_findKey hK h2, hf, Option.bind_none, hset]
      · rw [hm.2]; simp [h3]
      · intro i i1 i2
        have e := hm.2 av
        simp only [e]
        rcases Nat.lt_or_ge i m.length with h' | h'
        · have hi : i < ents.size := by omega
          rw [List.getElem_append_left h', Array.getElem_push_lt hi]
          exact ⟨hkey i h' hi, h4 i h' hi⟩
        · have hi : i = ents.size := by simp at i2; omega
          have hi' : i = m.length := by omega
          subst hi'
          have e2 : (ents.push ⟨.int k n, a.eval v, clock⟩)[m.length]'i2 = ⟨.int k n, a.eval v, clock⟩ := by simp [hi]
          rw [e2]
          simp only [List.getElem_concat_length]
          exact ⟨.int _ _, hrv⟩
      · intro i i1
        rcases Nat.lt_or_ge i ents.size with h' | h'
        · rw [Array.getElem_push_lt h']; have := h5 i h'; omega
        · have : i = ents.size := by simp at i1; omega
          subst this; simp
      · intro i j i1 i2 hij
        have hi : i < ents.size := by simp at i2; omega
        rw [Array.getElem_push_lt hi]
        rcases Nat.lt_or_ge j ents.size with h' | h'
        · rw [Array.getElem_push_lt h']; exact h6 i j hi h' hij
        · have : j = ents.size := by simp at i2; omega
          subst this; simp; exact h5 i hi
    | some j =>
      rw [hf] at hm; simp only [Nat.sub_zero] at hm
      obtain ⟨g1, _, g3, g4, g5⟩ := hm
      have hj : j < ents.size := by omega
      have he : ents.toList[j]? = some ents[j] := by rw [Array.getElem?_toList]; exact Array.getElem?_eq_getElem hj
      have hkj : ents[j].key = .int k n := by
        have := hkey j g1 hj
        rw [g4] at this
        generalize ents[j].key = kv at this
        cases this; rfl
      have hstay : (Instr.keyThatStays (((ents[j]?).map (·.key)).getD (.int k n)) (.int k n)).run P w = .ok (.int k n) w := by
        rw [Array.getElem?_eq_getElem hj]
        simp only [Option.map_some, Option.getD_some, hkj, Instr.keyThatStays]
        rw [if_pos (by simp [Instr.sameBits])]
        rfl
      refine ⟨ents.modify j fun e => { e with key := .int k n, val := a.eval v }, clock, ?_, ?_, ?_, ?_, ?_⟩
      · simp only [Instr.mapUpdate, Sem.run_bind, hT.run_und, Result.andThen_ok, hg, run_checkKey hK, run_findKey hK h2, hf, Option.bind_some, he, Option.map_some, hset, hstay]
      · rw [g5]; simp [h3]
      · intro i i1 i2
        have e := g5 av
        simp only [e]
        have hi : i < ents.size := by simpa using i2
        have hi' : i < m.length := by omega
        rw [List.getElem_set, Array.getElem_modify]
        by_cases hij : j = i
        · simp only [hij, if_true]; exact ⟨.int _ _, hrv⟩
        · simp only [hij, if_false]; exact ⟨hkey i hi' hi, h4 i hi' hi⟩
      · intro i i1
        rw [Array.getElem_modify]
        have hi : i < ents.size := by simpa using i1
        split
        · exact h5 i hi
        · exact h5 i hi
      · intro i j' i1 i2 hij
        have hi : i < ents.size := by simpa using i1
        have hj' : j' < ents.size := by simpa using i2
        rw [Array.getElem_modify, Array.getElem_modify]
        have := h6 i j' hi hj' hij
        split <;> split <;> exact this
  obtain ⟨e1, c1, g1, g2, g3, g4, g5⟩ := key
  unfold Oper.wp
  have hrun : (execOp a.eval ⟨none, .mapUpdate T x y v, ty, pos, af, gd⟩).run P w = .ok .skip (setO w r (.map e1 c1)) := by
    simp only [execOp, hu, rep_int (hs.eval hy), Sem.run_bind, g1, Result.andThen_ok, Sem.run_pure]
  rw [hrun, Oper.upon_skip]
  have hext := ext_setO (G := G) (y := mrow k (mput m n av)) (e1 := e1) (c1 := c1) h1 hne
  refine h _ _ (hs.move (sim_setO hs.sim h1 hne ?_) hext (fun b hb hbr => by subst hbr; exact hD.resolve_right (by omega)))
  refine ⟨e1, c1, setO_self w r _ hlt, by simpa using g2, fun i i1 i2 => ?_, g4, g5⟩
  have := g3 i (by simpa using i1) i2
  simp only [List.getElem_map]
  exact ⟨this.1.mono hext, this.2.mono hext⟩
end

section
variable {md : Bool} {P : Program} {c : Ctx} {env B : Env} {L : LPtr} {G : AHeap} {dst : Option Tmp} {ty : TypeId} {pos : String} {af : Array Edge} {gd : Option (Nat × Bool)} {Q : Exit → Act → World → Prop} {K : Act → World → Prop}
theorem sm_val {ops : Array Oper} {nS : Nat → Bool} {i d : Nat} {o : Oper} {av : AV} (hv : ValL P c o env L B G av) (ho : o.dst = some d) (hd : Nat.blt d c.nt = true) (h : GoalL c ((d, av) :: env) (ldel L d) B G K) : StepM P c o ops Q nS i env L B G K := fun ρ hρ a w hs => by
  obtain ⟨v, hr, hrun⟩ := hv ρ hρ a w hs
  unfold Oper.wp
  rw [hrun w (fun _ => Same.refl w), Oper.upon_value, ho]
  exact ⟨fun _ => Same.refl w, Goal.env full_put (h ρ hρ) _ _ (hs.put hd hr)⟩
theorem s_makeMap {T : TypeId} {d : Nat} (k : IntKind) (hd : Nat.blt d c.nt = true) (h : ∀ r, G r = none → c.w0.heap.size ≤ r → GoalL c ((d, .map r) :: env) (ldel L d) B (G.set r (mrow k [])) K) : StepL P c ⟨some d, .makeMap T none, ty, pos, af, gd⟩ Q env L B G K := fun ρ hρ a w hs => by
  have hrun : (execOp a.eval ⟨some d, .makeMap T none, ty, pos, af, gd⟩).run P w = .ok (.value (.map (some w.heap.size))) (w.alloc (.map #[] 0)) := rfl
  unfold Oper.wp
  rw [hrun, Oper.upon_value]
  have hn := hs.sim.none (Nat.le_refl _)
  have hsim : Sim ((boxes ρ G B).set w.heap.size (mrow k [])) (w.alloc (.map #[] 0)) := sim_alloc hs.sim _ _ ⟨#[], 0, heap_alloc_new' w _, rfl, fun i h => by simp at h, fun i h => by simp at h, fun i j h => by simp at h⟩
  exact Goal.env full_put (goal_set hρ hn (h _ (sub_none (boxes_sub hρ) hn) hs.fresh)) _ _ ((hs.move hsim (ext_alloc hs.sim _ _) (fun _ _ h => h.elim)).put hd (.map _ (by simp)))
theorem v_lookup {T KT E : TypeId} {k : IntKind} {n : Int} {s b' sk bk se be r : Nat} {z zk : Option Value} {zv : Value} {de : TypeDesc} {x y : Operand} {m : MRow} {ok : Bool} {o : AV} {f : Bool} {za : AV} (hT : TyI P T (.map KT E) s z b') (hK : TyI P KT (.int k) sk zk bk) (hE : TyI P E de se (some zv) be) (hz : zAV zv = za)
    (hx : ev env L x = some (.map r)) (hy : ev env L y = some (.int k n)) (hG : G r = some (mrow k m)) (ho : (mget m n).getD za = o) (hf : (mget m n).isSome = f) :
    ValL P c ⟨dst, .lookup T x y ok, ty, pos, af, gd⟩ env L B G (if ok then .tup [o, .bool f] else o) := fun ρ hρ => by
  subst hz ho hf
  exact val_lookup hT hK hE (ev_full hx) (boxes_sub hρ _ _ hG) (ev_full hy)
theorem s_mapUpdate {T KT E : TypeId} {k : IntKind} {n : Int} {s b' sk bk r : Nat} {z zk : Option Value} {x y v : Operand} {m : MRow} {av : AV} (hT : TyI P T (.map KT E) s z b') (hK : TyI P KT (.int k) sk zk bk)
    (hx : ev env L x = some (.map r)) (hy : ev env L y = some (.int k n)) (hv : ev env L v = some av) (hG : G r = some (mrow k m)) (hD : c.D r ∨ c.w0.heap.size ≤ r)
    (h : GoalL c env L B (G.set r (mrow k (mput m n av))) K) : StepL P c ⟨none, .mapUpdate T x y v, ty, pos, af, gd⟩ Q env L B G K := fun ρ hρ => by
  have hne : ∀ s v, B.get s = some v → r ≠ ρ s := fun s v hv e => by have := (hρ.fresh s v hv).1; rw [← e, hG] at this; cases this
  obtain ⟨h3, h4⟩ := boxes_setG (x := mrow k (mput m n av)) hρ hne
  refine step_mapUpdate hT hK (ev_full hx) (boxes_sub hρ _ _ hG) (ev_full hy) (ev_full hv) hD ?_
  rw [h4]; exact h ρ h3
end
end Go.Proofs.Ytgipbhfblmblcaa.AM

/- The abstract machine, part 17: parts of values, equality of structs of integers, copy. -/
set_option linter.unusedVariables false
set_option linter.unusedSimpArgs false
namespace Go.Proofs.Ytgipbhfblmblcaa.AM
open Go

/-- A struct whose fields are all integers. -/
def intFields (P : Program) (T : TypeId) : Bool := match P.underlying T with
  | some (.struct fs) => ((List.range fs.toList.length).all fun i => match fs.toList[i]? with
      | some f => f.offset == i && f.name != "_" && (match P.underlying f.type with
        | some (.int _) => true
        | _ => false)
      | none => false) && !P.stoodInHeld T && !P.eqGuardType P.depth T
  | _ => false

section
variable {md : Bool} {P : Program} {c : Ctx} {env : Env} {G : AHeap} {dst : Option Tmp} {ty : TypeId} {pos : String} {af : Array Edge} {gd : Option (Nat × Bool)} {Q : Exit → Act → World → Prop} {K : Act → World → Prop}

theorem rep_ints {w : World} {k : IntKind} {l : List Int} {v : Value} (h : Rep G w (.agg (l.map (.int k))) v) : ∃ xs : Array Value, v = .agg xs ∧ xs.toList = l.map (.int k) := by
  cases h with
  | agg cs vs hl hr =>
    refine ⟨vs.toArray, rfl, ?_⟩
    refine List.ext_getElem (by simpa using hl.symm) fun i h1 h2 => ?_
    have := hr i (by simpa using h2) (by simpa using h1)
    simp only [List.getElem_map] at this
    simp only [List.getElem_map]
    generalize hx : vs[i]'(by simpa using h1) = x at this
    cases this
    simp [hx]
theorem eqFields_ints {d : Nat} {k : IntKind} {xs ys : Array Value} {l m : List Int} (hx : xs.toList = l.map (.int k)) (hy : ys.toList = m.map (.int k)) (w : World) : ∀ (fs : List Field) (i : Nat),
    (∀ j f, fs[j]? = some f → f.offset = i + j ∧ f.name ≠ "_" ∧ ∃ k', P.underlying f.type = some (.int k')) → i + fs.length = l.length → l.length = m.length →
    (Op.eqFields (d + 1) xs ys fs).run P w = .ok (decide (l.drop i = m.drop i)) w
  | [], i, _, h1, h2 => by
    simp only [List.length_nil, Nat.add_zero] at h1
    have e1 : l.drop i = [] := List.drop_of_length_le (by omega)
    have e2 : m.drop i = [] := List.drop_of_length_le (by omega)
    simp [Op.eqFields, e1, e2]
  | f :: fs, i, h, h1, h2 => by
    obtain ⟨g1, g2, k', g3⟩ := h 0 f rfl
    simp only [Nat.add_zero] at g1
    have hil : i < l.length := by simp at h1; omega
    have him : i < m.length := by omega
    have hpx : (part f.type xs f.offset).run P w = .ok (.int k l[i]) w := by
      have : xs[f.offset]? = some (.int k l[i]) := by rw [← Array.getElem?_toList, hx, g1]; simp [hil]
      simp [part, isAgg, run_underlying g3, this]
    have hpy : (part f.type ys f.offset).run P w = .ok (.int k m[i]) w := by
      have : ys[f.offset]? = some (.int k m[i]) := by rw [← Array.getElem?_toList, hy, g1]; simp [him]
      simp [part, isAgg, run_underlying g3, this]
    have ih := eqFields_ints (d := d) hx hy w fs (i + 1) (fun j f hf => by have := h (j + 1) f (by simpa using hf); simpa [Nat.add_assoc, Nat.add_comm 1 j] using this) (by simp at h1; omega) h2
    simp only [Op.eqFields]
    rw [if_pos g2]
    simp only [Sem.run_bind, hpx, hpy, Result.andThen_ok, run_equalIn_int w d f.type k k' _ _ g3]
    have e0 : (l.drop i = m.drop i) ↔ (l[i] = m[i] ∧ l.drop (i + 1) = m.drop (i + 1)) := by
      rw [List.drop_eq_getElem_cons hil, List.drop_eq_getElem_cons him]; exact List.cons_eq_cons
    by_cases he : l[i] = m[i]
    · have hb : (l[i] == m[i]) = true := by simpa using he
      have hd : decide (l.drop i = m.drop i) = decide (l.drop (i + 1) = m.drop (i + 1)) := decide_eq_decide.2 (by rw [e0]; exact ⟨fun h => h.2, fun h => ⟨he, h⟩⟩)
      rw [hd]
      simp only [hb, Bool.not_true, Bool.false_eq_true, if_false]
      exact ih
    · have hb : (l[i] == m[i]) = false := by simpa using he
      rw [decide_eq_false (fun h => he (e0.1 h).1)]
      simp only [hb, Bool.not_false, if_true, Sem.run_pure]
theorem equal_ints {T s b' : Nat} {z : Option Value} {fs : Array Field} {k : IntKind} {l m : List Int} {xs ys : Array Value} (hT : TyI P T (.struct fs) s z b') (hst : intFields P T = true) (hx : xs.toList = l.map (.int k)) (hy : ys.toList = m.map (.int k))
    (h1 : fs.toList.length = l.length) (h2 : l.length = m.length) (w : World) : (Op.equal T (.agg xs) (.agg ys)).run P w = .ok (decide (l = m)) w := by
  unfold intFields at hst
  rw [hT.und] at hst
  simp only [Bool.and_eq_true, List.all_eq_true, List.mem_range, Bool.not_eq_true'] at hst
  have hf : P.fieldsOf T = fs := by simp [Program.fieldsOf, hT.und]
  have := run_equalIn_struct w 9999 T xs ys (by rw [hf]; exact hT.und) hst.1.2
  have e : Op.equal T (.agg xs) (.agg ys) = Op.equalIn (9999 + 1) T (.agg xs) (.agg ys) := rfl
  rw [e, this, hf]
  have h3 := eqFields_ints (P := P) (d := 9998) hx hy w fs.toList 0 (fun j f hj => ?_) (by omega) h2
  · simpa using h3
  · have hlt : j < fs.toList.length := by
      rcases Nat.lt_or_ge j fs.toList.length with h' | h'
      · exact h'
      · rw [List.getElem?_eq_none h'] at hj; cases hj
    have h4 := hst.1.1 j hlt
    rw [hj] at h4
    simp only [Bool.and_eq_true, beq_iff_eq, bne_iff_ne] at h4
    refine ⟨by omega, h4.1.2, ?_⟩
    have h5 := h4.2
    split at h5
    · rename_i k' hk; exact ⟨k', hk⟩
    · cases h5
theorem eqGuard_ints {T s b' : Nat} {z : Option Value} {fs : Array Field} {op : BinOp} {x y : Operand} {xs ys : Array Value} (hT : TyI P T (.struct fs) s z b') (hst : intFields P T = true) (w : World) : (eqGuard op T x y (.agg xs) (.agg ys)).run P w = .ok () w := by
  unfold intFields at hst
  rw [hT.und] at hst
  simp only [Bool.and_eq_true, Bool.not_eq_true'] at hst
  unfold eqGuard
  cases op <;> simp [hst.2]
theorem val_st_eql {T T' : TypeId} {s b' : Nat} {z : Option Value} {fs : Array Field} {k : IntKind} {l m : List Int} {x y : Operand} {a b : AV} (hT : TyI P T (.struct fs) s z b') (hst : intFields P T = true) (hx : aeval env x = some a) (hy : aeval env y = some b)
    (ha : a = .agg (l.map (.int k))) (hb : b = .agg (m.map (.int k))) (h1 : fs.toList.length = l.length) (h2 : l.length = m.length) : ValM md P c ⟨dst, .binOp .eql T x y T', ty, pos, af, gd⟩ env G (.bool (decide (l = m))) := fun u w hs => by
  subst ha hb
  obtain ⟨xs, e1, e2⟩ := rep_ints (hs.eval hx)
  obtain ⟨ys, e3, e4⟩ := rep_ints (hs.eval hy)
  refine ⟨_, .bool _, fun w' _ => ?_⟩
  have e : binOp .eql T (.agg xs) (.agg ys) = (do pure (.bool (← Op.equal T (.agg xs) (.agg ys)))) := rfl
  simp only [execOp, e1, e3, Sem.run_bind, eqGuard_ints hT hst, Result.andThen_ok, e, equal_ints hT hst e2 e4 h1 h2, Sem.run_pure]
/-- A part of an aggregate. -/
theorem run_part_one {T : TypeId} {d : TypeDesc} {sz b' off : Nat} {z : Option Value} {l : List AV} {a : AV} {w : World} {v : Value} (hT : TyI P T d sz z b') (hd : aggDesc d = false) (h : Rep G w (.agg l) v) (hc : l[off]? = some a) :
    ∃ xs u, v = .agg xs ∧ Rep G w a u ∧ ∀ w', (part T xs off).run P w' = .ok u w' := by
  cases h with
  | agg _ vs hl hr =>
    have hlt : off < l.length := by
      rcases Nat.lt_or_ge off l.length with h' | h'
      · exact h'
      · rw [List.getElem?_eq_none h'] at hc; cases hc
    have hlv : off < vs.length := by omega
    have e : l[off] = a := by rw [List.getElem?_eq_getElem hlt] at hc; exact Option.some.inj hc
    refine ⟨vs.toArray, vs[off], rfl, by rw [← e]; exact hr off hlt hlv, fun w' => ?_⟩
    simp [part, hT.run_isAgg, hd, hlv]
theorem run_field {S f o FT : Nat} {fs : Array Go.Field} {s b' : Nat} {z' : Option Value} {xs : Array Value} (hS : TyI P S (.struct fs) s z' b') (hf : (fs[f]?).map (fun x => (x.offset, x.type)) = some (o, FT)) (w : World) :
    (Instr.field S (.agg xs) f).run P w = (part FT xs o).run P w := by
  cases hx : fs[f]? with
  | none => rw [hx] at hf; cases hf
  | some fld =>
    rw [hx] at hf
    simp only [Option.map_some, Option.some.injEq, Prod.mk.injEq] at hf
    obtain ⟨rfl, rfl⟩ := hf
    simp [Instr.field, hS.run_und, hx, asAgg]
theorem val_field {S f o FT : Nat} {fs : Array Go.Field} {d : TypeDesc} {sz by_ s b' : Nat} {z z' : Option Value} {x : Operand} {l : List AV} {a : AV} (hS : TyI P S (.struct fs) s z' b') (hf : (fs[f]?).map (fun x => (x.offset, x.type)) = some (o, FT)) (hF : TyI P FT d sz z by_) (hd : aggDesc d = false)
    (hx : aeval env x = some (.agg l)) (hc : l[o]? = some a) : ValM md P c ⟨dst, .field S x f, ty, pos, af, gd⟩ env G a := fun u w hs => by
  obtain ⟨xs, v, e1, e2, e3⟩ := run_part_one (off := o) hF hd (hs.eval hx) hc
  refine ⟨v, e2, fun w' _ => ?_⟩
  simp only [execOp, e1, Sem.run_bind, run_field hS hf, e3, Result.andThen_ok, Sem.run_pure]
end

section
variable {md : Bool} {P : Program} {c : Ctx} {env B : Env} {L : LPtr} {G : AHeap} {dst : Option Tmp} {ty : TypeId} {pos : String} {af : Array Edge} {gd : Option (Nat × Bool)} {Q : Exit → Act → World → Prop} {K : Act → World → Prop}
theorem v_st_eql {T T' : TypeId} {s b' : Nat} {z : Option Value} {fs : Array Field} {k : IntKind} {l m : List Int} {x y : Operand} {a b : AV} (hT : TyI P T (.struct fs) s z b') (hst : intFields P T = true) (hx : ev env L x = some a) (hy : ev env L y = some b)
    (ha : a = .agg (l.map (.int k))) (hb : b = .agg (m.map (.int k))) (h1 : fs.toList.length = l.length) (h2 : l.length = m.length) : ValLM md P c ⟨dst, .binOp .eql T x y T', ty, pos, af, gd⟩ env L B G (.bool (decide (l = m))) := fun ρ hρ => val_st_eql hT hst (ev_full hx) (ev_full hy) ha hb h1 h2
theorem v_field {S f o FT : Nat} {fs : Array Go.Field} {d : TypeDesc} {sz by_ s b' : Nat} {z z' : Option Value} {x : Operand} {l : List AV} {a : AV} (hS : TyI P S (.struct fs) s z' b') (hf : (fs[f]?).map (fun x => (x.offset, x.type)) = some (o, FT)) (hF : TyI P FT d sz z by_) (hd : aggDesc d = false)
    (hx : ev env L x = some (.agg l)) (hc : l[o]? = some a) : ValLM md P c ⟨dst, .field S x f, ty, pos, af, gd⟩ env L B G a := fun ρ hρ => val_field hS hf hF hd (ev_full hx) hc
end
end Go.Proofs.Ytgipbhfblmblcaa.AM

/- The abstract machine, part 18: copy. -/
set_option linter.unusedVariables false
set_option linter.unusedSimpArgs false
namespace Go.Proofs.Ytgipbhfblmblcaa.AM
open Go
section
variable {md : Bool} {P : Program} {c : Ctx} {env : Env} {G : AHeap} {dst : Option Tmp} {ty : TypeId} {pos : String} {af : Array Edge} {gd : Option (Nat × Bool)} {Q : Exit → Act → World → Prop} {K : Act → World → Prop}

/-- The first k elements of a slice. -/
theorem run_first {b : AV} {v : Value} {m : List AV} {sz : Nat} {w : World} (hs : Sim G w) (hr : Rep G w b v) (hm : b.view G = some m) (hme : Even sz m) (k : Nat) (hk : k ≤ m.length) :
    ∃ A cp vs, v = .slice A m.length cp ∧ Reps G w (flat (m.take k)) vs ∧ vs.length = k * sz ∧ (Builtin.firstCells sz k v).run P w = .ok vs.toArray w := by
  rcases Nat.eq_zero_or_pos m.length with h0 | h0
  · obtain ⟨A, cp, hu⟩ := view_len hs hr hm
    have hk0 : k = 0 := by omega
    subst hk0
    refine ⟨A, cp, [], hu, by simp [flat, Reps.nil], by simp, ?_⟩
    subst hu
    cases A with
    | none => exact run_firstCells_none _ _ _ _ _
    | some ad => exact run_firstCells_some w sz 0 ad _ cp [] (by simp) (fun j v h => by simp at h)
  · obtain ⟨ad, cu, vs, hu, hvs, hvl, hcells⟩ := view_cells hs hr hm hme h0
    refine ⟨some ad, cu, vs.take (k * sz), hu, by rw [flat_take hme]; exact hvs.take _, ?_, ?_⟩
    · rw [List.length_take, hvl, Nat.min_eq_left (Nat.mul_le_mul_right _ hk)]
    · subst hu
      refine run_firstCells_some w sz k ad _ cu _ ?_ fun j v hj => hcells j v ?_
      · rw [List.length_take, hvl, Nat.min_eq_left (Nat.mul_le_mul_right _ hk)]
      · rw [List.getElem?_take] at hj
        split at hj
        · exact hj
        · cases hj

theorem step_copy {T E T2 s b' by_ sz d r o n : Nat} {z' z : Option Value} {de : TypeDesc} {x y : Operand} {b : AV} {l m : List AV} (hT : TyI P T (.slice E) s z' b') (hE : TyI P E de sz z by_) (hd : Nat.blt d c.nt = true)
    (hx : aeval env x = some (.own r sz o n)) (hG : G r = some (.row sz l)) (hon : o + n ≤ l.length) (hy : aeval env y = some b) (hm : b.view G = some m) (hme : Even sz m) (hcell : ∀ x ∈ m, x.cells.all AV.isCell = true)
    (hD : c.D r ∨ c.w0.heap.size ≤ r) (h : Goal c ((d, .int .i64 (min m.length n : Nat)) :: env) (G.set r (.row sz (l.take o ++ m.take (min m.length n) ++ l.drop (o + (m.take (min m.length n)).length)))) K) :
    Step P c ⟨some d, .call ⟨.builtin .copy, #[x, y], #[T, T2]⟩, ty, pos, af, gd⟩ Q env G K := fun a w hs => by
  have hrx := hs.eval hx
  have hry := hs.eval hy
  obtain ⟨k, hk⟩ : ∃ k, k = min m.length n := ⟨_, rfl⟩
  rw [← hk] at h
  obtain ⟨A, cp, vs, hu, hvs, hvl, hrun⟩ := run_first (P := P) hs.sim hry hm hme k (by omega)
  obtain ⟨C, Tc, os, rest, hh, hle, hC, hos⟩ := row_block hs.sim hG
  have hol : os.length = l.length * sz := by rw [← hos.1, flat_len hle]
  have hCs : C.size = os.length + rest.length := by rw [← Array.length_toList, hC]; simp
  have hfit : o * sz + vs.length ≤ C.size := by
    rw [hvl, ← Nat.add_mul, hCs, hol]
    exact Nat.le_trans (Nat.mul_le_mul_right sz (show o + k ≤ l.length by omega)) (Nat.le_add_right _ _)
  have hmk : Even sz (m.take k) := hme.take k
  have hone : ∀ u ∈ vs, u.oneCell' = true := hvs.oneCell (List.all_eq_true.2 fun x hx => by
    obtain ⟨y, hy1, hy2⟩ := flat_mem hx
    exact List.all_eq_true.1 (hcell y (List.mem_of_mem_take hy1)) x hy2)
  generalize hv : a.eval x = v at hrx
  cases hrx with
  | own _ _ _ _ cap hc hsh =>
    have hst := run_storeCells_at P r (o * sz) Tc vs 0 C w hh (by simpa using hfit) hone
    simp only [Nat.add_zero] at hst
    have hlen : (Builtin.lenOf (a.eval y)).run P w = .ok m.length w := by rw [hu]; simp [Builtin.lenOf]
    have hcopy : (Builtin.copy_ #[T, T2] ty #[.slice (some ⟨r, o * sz, none⟩) n cap, a.eval y]).run P w = .ok (.int .i64 (k : Int)) (w.setRow r (C.toList.take (o * sz) ++ vs ++ C.toList.drop (o * sz + vs.length)).toArray) := by
      have hkk : Nat.min m.length n = k := hk.symm
      simp [Builtin.copy_, hT.run_und, hE.run_size, hlen, hkk, hrun, hst, goInt]
    have hexec : (execOp a.eval ⟨some d, .call ⟨.builtin .copy, #[x, y], #[T, T2]⟩, ty, pos, af, gd⟩).run P w = .ok (.value (.int .i64 (k : Int))) (w.setRow r (C.toList.take (o * sz) ++ vs ++ C.toList.drop (o * sz + vs.length)).toArray) := by
      have e : #[x, y].map a.eval = #[.slice (some ⟨r, o * sz, none⟩) n cap, a.eval y] := by simp [hv]
      simp [execOp, resolve, invoke, builtin, hv, hcopy]
    unfold Oper.wp
    rw [hexec, Oper.upon_value]
    obtain ⟨hsim, hext⟩ := row_store hs.sim hG hh hle hmk hC hos hvs (show o ≤ l.length by omega) hfit
    exact h _ _ ((hs.move hsim hext (fun b hb e => by subst e; exact hD.resolve_right (by omega))).put hd (.int _ _))
/-- Onto a slice without elements. -/
theorem val_copy_nil {T E T2 s b' by_ sz : Nat} {z' z : Option Value} {de : TypeDesc} {x y : Operand} {b : AV} {m : List AV} (hT : TyI P T (.slice E) s z' b') (hE : TyI P E de sz z by_)
    (hx : aeval env x = some (.imm [])) (hy : aeval env y = some b) (hm : b.view G = some m) (hme : Even sz m) (a : Act) (w : World) (hs : St c env G a w) :
    (execOp a.eval ⟨dst, .call ⟨.builtin .copy, #[x, y], #[T, T2]⟩, ty, pos, af, gd⟩).run P w = .ok (.value (.int .i64 0)) w := by
  have hrx := hs.eval hx
  have hry := hs.eval hy
  obtain ⟨A, cp, vs, hu, hvs, hvl, hrun⟩ := run_first (P := P) hs.sim hry hm hme 0 (by omega)
  have hvs0 : vs = [] := List.eq_nil_of_length_eq_zero (by omega)
  subst hvs0
  have hlen : (Builtin.lenOf (a.eval y)).run P w = .ok m.length w := by rw [hu]; simp [Builtin.lenOf]
  obtain ⟨A', c', hv⟩ : ∃ A' c', a.eval x = .slice A' 0 c' := by
    generalize a.eval x = v at hrx
    cases hrx with
    | imm0 A c => exact ⟨A, c, rfl⟩
    | imm _ ad c sz u hc hG hb hsz hcell hrep => exact ⟨_, _, rfl⟩
  have hmin : Nat.min m.length 0 = 0 := by simp [Nat.min_def]
  have hcopy : (Builtin.copy_ #[T, T2] ty #[.slice A' 0 c', a.eval y]).run P w = .ok (.int .i64 0) w := by
    cases A' <;> simp [Builtin.copy_, hT.run_und, hE.run_size, hlen, hmin, hrun, goInt, storeCells]
  simp [execOp, resolve, invoke, builtin, hv, hcopy]
theorem val_slice_empty {T E : TypeId} {d : TypeDesc} {sz by_ s b' lo r o n : Nat} {z z' : Option Value} {x : Operand} {low high : Option Operand} {m1 m2 : Int} (hT : TyI P T (.slice E) s z' b') (hE : TyI P E d sz z by_)
    (hx : aeval env x = some (.own r sz o n)) (hlo : aevb env 0 low = some m1) (hhi : aevb env (n : Int) high = some m2) (h1 : m1 = (lo : Int)) (h2 : m2 = (lo : Int)) (hc : lo ≤ n) :
    ValM md P c ⟨dst, .slice T x low high none, ty, pos, af, gd⟩ env G (.imm []) := fun a w hs => by
  have hr := hs.eval hx
  generalize hu : a.eval x = u at hr
  cases hr with
  | own _ _ _ _ cp hcp hsh =>
    have hb := fun w' => run_bounds (P := P) (iss := true) (cap := cp) (lo := lo) (hi := lo) hs hlo hhi h1 h2 (Nat.le_refl _) (by omega) w'
    refine ⟨_, ?_, fun w' _ => by
      simp only [execOp, hu, Instr.sliceAt, Sem.run_bind, hT.run_und, Result.andThen_ok, Instr.slice, Option.map_none, hb w', hE.run_size, Sem.run_pure]; rfl⟩
    rw [Nat.sub_self]
    exact .imm0 _ _
end

section
variable {md : Bool} {P : Program} {c : Ctx} {env B : Env} {L : LPtr} {G : AHeap} {dst : Option Tmp} {ty : TypeId} {pos : String} {af : Array Edge} {gd : Option (Nat × Bool)} {Q : Exit → Act → World → Prop} {K : Act → World → Prop}
theorem v_slice_empty {T E : TypeId} {d : TypeDesc} {sz by_ s b' lo r o n : Nat} {z z' : Option Value} {x : Operand} {low high : Option Operand} {m1 m2 : Int} (hT : TyI P T (.slice E) s z' b') (hE : TyI P E d sz z by_)
    (hx : ev env L x = some (.own r sz o n)) (hlo : evb env L 0 low = some m1) (hhi : evb env L (n : Int) high = some m2) (h1 : m1 = (lo : Int)) (h2 : m2 = (lo : Int)) (hc : lo ≤ n) :
    ValLM md P c ⟨dst, .slice T x low high none, ty, pos, af, gd⟩ env L B G (.imm []) := fun ρ hρ => val_slice_empty hT hE (ev_full hx) (evb_full hlo) (evb_full hhi) h1 h2 hc
theorem s_copy {T E T2 s b' by_ sz d r o n k : Nat} {z' z : Option Value} {de : TypeDesc} {x y : Operand} {b : AV} {l m l' : List AV} (hT : TyI P T (.slice E) s z' b') (hE : TyI P E de sz z by_) (hd : Nat.blt d c.nt = true)
    (hx : ev env L x = some (.own r sz o n)) (hG : G r = some (.row sz l)) (hon : o + n ≤ l.length) (hy : ev env L y = some b) (hm : b.view G = some m) (hme : Even sz m) (hcell : ∀ x ∈ m, x.cells.all AV.isCell = true)
    (hD : c.D r ∨ c.w0.heap.size ≤ r) (hk : k = min m.length n) (hl' : l.take o ++ m.take k ++ l.drop (o + k) = l') (h : GoalL c ((d, .int .i64 (k : Nat)) :: env) (ldel L d) B (G.set r (.row sz l')) K) :
    StepL P c ⟨some d, .call ⟨.builtin .copy, #[x, y], #[T, T2]⟩, ty, pos, af, gd⟩ Q env L B G K := fun ρ hρ => by
  have hne : ∀ s v, B.get s = some v → r ≠ ρ s := fun s v hv e => by have := (hρ.fresh s v hv).1; rw [← e, hG] at this; cases this
  obtain ⟨h3, h4⟩ := boxes_setG (x := .row sz l') hρ hne
  refine step_copy hT hE hd (ev_full hx) (boxes_sub hρ _ _ hG) hon (ev_full hy) (view_sub (boxes_sub hρ) hm) hme hcell hD ?_
  have e : (m.take (min m.length n)).length = k := by rw [List.length_take, hk]; omega
  rw [e, ← hk, hl', h4]
  exact Goal.env full_put (h ρ h3)
theorem s_copy_nil {T E T2 s b' by_ sz d : Nat} {z' z : Option Value} {de : TypeDesc} {x y : Operand} {b : AV} {m : List AV} (hT : TyI P T (.slice E) s z' b') (hE : TyI P E de sz z by_) (hd : Nat.blt d c.nt = true)
    (hx : ev env L x = some (.imm [])) (hy : ev env L y = some b) (hm : b.view G = some m) (hme : Even sz m) (h : GoalL c ((d, .int .i64 0) :: env) (ldel L d) B G K) :
    StepL P c ⟨some d, .call ⟨.builtin .copy, #[x, y], #[T, T2]⟩, ty, pos, af, gd⟩ Q env L B G K := fun ρ hρ a w hs => by
  unfold Oper.wp
  rw [val_copy_nil hT hE (ev_full hx) (ev_full hy) (view_sub (boxes_sub hρ) hm) hme a w hs, Oper.upon_value]
  exact Goal.env full_put (h ρ hρ) _ _ (hs.put hd (.int _ _))
/-- make: a row of the call's own, as it is. -/
theorem s_makeO {T E : TypeId} {de : TypeDesc} {s b' sz by_ d n : Nat} {z : Option Value} {zv : Value} {x : Operand} {k : IntKind} {m : Int} {za : AV} (hT : TyI P T (.slice E) s z b') (hE : TyI P E de sz (some zv) by_) (hd : Nat.blt d c.nt = true)
    (hx : ev env L x = some (.int k m)) (hm : m = (n : Int)) (hz : zAV zv = za) (hzs : za.cells.length = sz) (hzu : za.isUnk = false) (hb : n * by_ ≤ 140737488355328) (hn : n ≤ 140737488355328)
    (h : ∀ r, G r = none → c.w0.heap.size ≤ r → GoalL c ((d, .own r sz 0 n) :: env) (ldel L d) B (G.set r (.row sz (List.replicate n za))) K) : StepL P c ⟨some d, .makeSlice T x x, ty, pos, af, gd⟩ Q env L B G K := fun ρ hρ =>
  step_makeSlice hT hE hd (ev_full hx) hm hz hzs hzu hb hn fun r hr hn' => by
    rw [List.length_replicate]
    exact Goal.env full_put (goal_set hρ hr (h r (sub_none (boxes_sub hρ) hr) hn'))
end
end Go.Proofs.Ytgipbhfblmblcaa.AM

/- The abstract machine, part 19: arrays built; slices whose room is known. -/
set_option linter.unusedVariables false
set_option linter.unusedSimpArgs false
namespace Go.Proofs.Ytgipbhfblmblcaa.AM
open Go
section
variable {md : Bool} {P : Program} {c : Ctx} {env : Env} {G : AHeap} {dst : Option Tmp} {ty : TypeId} {pos : String} {af : Array Edge} {gd : Option (Nat × Bool)} {Q : Exit → Act → World → Prop} {K : Act → World → Prop}
end
section
variable {md : Bool} {P : Program} {c : Ctx} {env B : Env} {L : LPtr} {G : AHeap} {dst : Option Tmp} {ty : TypeId} {pos : String} {af : Array Edge} {gd : Option (Nat × Bool)} {Q : Exit → Act → World → Prop} {K : Act → World → Prop}
end
end Go.Proofs.Ytgipbhfblmblcaa.AM

/- The abstract machine, part 20: slices whose room is known: cap, slicing up to it, append where it is known whether there is room; clear; overlaps. -/
set_option linter.unusedVariables false
set_option linter.unusedSimpArgs false
namespace Go.Proofs.Ytgipbhfblmblcaa.AM
open Go
theorem ASub.ownc (r sz o n cp : Nat) : ASub (.ownc r sz o n cp) (.own r sz o n) := fun _ _ _ h => by
  cases h with
  | ownc _ _ _ _ _ hc hs => exact .own _ _ _ _ _ hc hs
section
variable {md : Bool} {P : Program} {c : Ctx} {env : Env} {G : AHeap} {dst : Option Tmp} {ty : TypeId} {pos : String} {af : Array Edge} {gd : Option (Nat × Bool)} {Q : Exit → Act → World → Prop} {K : Act → World → Prop}
/-- An element of which nothing is known. -/
def unkE (sz : Nat) : AV := .agg (List.replicate sz .unk)
theorem ext_know {r : Nat} {x y : ARow} {w : World} (h : G r = some x) : Ext G w (fun _ => False) (G.set r y) w where
  os := rfl
  tape := rfl
  output := rfl
  size := Nat.le_refl _
  same := fun _ _ _ => rfl
  shape := fun _ _ => rfl
  dom := fun b _ hg => by
    have : b ≠ r := fun e => by subst e; rw [h] at hg; cases hg
    rw [AHeap.get_set_ne _ _ this]; exact hg
  lists := fun _ h => h.elim
/-- slices.overlaps, by the facts of its row. -/
structure OvI (P : Program) (f : FuncId) (T : TypeId) : Prop where
  fn : ∃ (fn : Func) (tR : TypeId), P.funcs[f]? = some fn ∧ (fn.name == "runtime.NumGoroutine") = false ∧ fn.body.isNone = true ∧ Extern.findNext fn = none ∧ Extern.find fn = some (Extern.SlicesOverlaps.overlaps #[T, T] #[tR])
end
section
variable {md : Bool} {P : Program} {c : Ctx} {env B : Env} {L : LPtr} {G : AHeap} {dst : Option Tmp} {ty : TypeId} {pos : String} {af : Array Edge} {gd : Option (Nat × Bool)} {Q : Exit → Act → World → Prop} {K : Act → World → Prop}
theorem boxes_setR {ρ : Nat → Nat} (hρ : Good c G B ρ) {r : Nat} {x y : ARow} (hG : G r = some y) : Good c (G.set r x) B ρ ∧ (boxes ρ G B).set r x = boxes ρ (G.set r x) B :=
  boxes_setG hρ (fun s v hv e => by have := (hρ.fresh s v hv).1; rw [← e, hG] at this; cases this)
end
end Go.Proofs.Ytgipbhfblmblcaa.AM

/- The abstract machine, part 21: bytes as text. -/
set_option linter.unusedVariables false
set_option linter.unusedSimpArgs false
namespace Go.Proofs.Ytgipbhfblmblcaa.AM
open Go
def bytesOf (l : List Int) : ByteArray := l.foldl (fun r n => r.push (UInt8.ofNat n.toNat)) ByteArray.empty
section
variable {P : Program} {c : Ctx} {env : Env} {G : AHeap} {dst : Option Tmp} {ty : TypeId} {pos : String} {af : Array Edge} {gd : Option (Nat × Bool)}
end
section
variable {P : Program} {c : Ctx} {env B : Env} {L : LPtr} {G : AHeap} {dst : Option Tmp} {ty : TypeId} {pos : String} {af : Array Edge} {gd : Option (Nat × Bool)}
end
end Go.Proofs.Ytgipbhfblmblcaa.AM

/- The abstract machine, part 22: literals as rows of the call's own; a listed row that nobody writes any more. -/
set_option linter.unusedVariables false
set_option linter.unusedSimpArgs false
namespace Go.Proofs.Ytgipbhfblmblcaa.AM
open Go
section
variable {md : Bool} {P : Program} {c : Ctx} {env B : Env} {L : LPtr} {G : AHeap} {dst : Option Tmp} {ty : TypeId} {pos : String} {af : Array Edge} {gd : Option (Nat × Bool)} {Q : Exit → Act → World → Prop} {K : Act → World → Prop}
end
end Go.Proofs.Ytgipbhfblmblcaa.AM
namespace Go.Proofs.Ytgipbhfblmblcaa.AM
open Go
theorem sub_set_free {H G : AHeap} {p : Nat} (x : ARow) (h : H.sub G) (hn : H p = none) : H.sub (G.set p x) := fun b y hb => by
  have hne : b ≠ p := fun e => by subst e; rw [hn] at hb; cases hb
  rw [AHeap.get_set_ne _ _ hne]; exact h b y hb
end Go.Proofs.Ytgipbhfblmblcaa.AM

/- The abstract machine, part 23: ranges over maps. -/
set_option linter.unusedVariables false
set_option linter.unusedSimpArgs false
namespace Go.Proofs.Ytgipbhfblmblcaa.AM
open Go
section
variable {G : AHeap}
theorem sim_know {w : World} {b : Nat} {x y : ARow} (hs : Sim G w) (hG : G b = some x) (hy : RowRep G w b y) : Sim (G.set b y) w := fun b' z hb => by
  have he : Ext G w (fun _ => False) (G.set b y) w := ext_know hG
  by_cases e : b' = b
  · subst e
    rw [AHeap.get_set] at hb
    injection hb with hb
    subst hb
    exact hy.mono he rfl
  · rw [AHeap.get_set_ne _ _ e] at hb
    exact (hs b' z hb).mono he rfl
end
section
variable {md : Bool} {P : Program} {c : Ctx} {env B : Env} {L : LPtr} {G : AHeap} {dst : Option Tmp} {ty : TypeId} {pos : String} {af : Array Edge} {gd : Option (Nat × Bool)} {Q : Exit → Act → World → Prop} {K : Act → World → Prop}
end
end Go.Proofs.Ytgipbhfblmblcaa.AM

/- The abstract machine, part 24: slices.Sort of integers, by the library's own contract. -/
set_option linter.unusedVariables false
set_option linter.unusedSimpArgs false
namespace Go.Proofs.Ytgipbhfblmblcaa.AM
open Go
section
variable {P : Program} {G : AHeap}
end
section
variable {md : Bool} {P : Program} {c : Ctx} {env : Env} {G : AHeap} {dst : Option Tmp} {ty : TypeId} {pos : String} {af : Array Edge} {gd : Option (Nat × Bool)}
end
section
variable {md : Bool} {P : Program} {c : Ctx} {env B : Env} {L : LPtr} {G : AHeap} {dst : Option Tmp} {ty : TypeId} {pos : String} {af : Array Edge} {gd : Option (Nat × Bool)}
end
end Go.Proofs.Ytgipbhfblmblcaa.AM
namespace Go.Proofs.Ytgipbhfblmblcaa.AM
open Go
section
variable {c : Ctx} {env B : Env} {L : LPtr} {G : AHeap} {K : Act → World → Prop}
end
end Go.Proofs.Ytgipbhfblmblcaa.AM
namespace Go.Proofs.Ytgipbhfblmblcaa.AM
open Go
/-- What is kept, told whole: so that no later look-up works it out again. -/
theorem keep_nil {env : Env} : env.keep [] = [] := rfl
theorem keep_cons {env e : Env} {t : Nat} {ts : List Nat} {v : AV} (h : env.get t = some v) (h2 : env.keep ts = e) : env.keep (t :: ts) = (t, v) :: e := by
  rw [Env.keep, h, h2]
theorem lkeep_nil {L : LPtr} : lkeep L [] = [] := rfl
theorem lkeep_cons {L e : LPtr} {t : Nat} {ts : List Nat} {v : Nat × Nat} (h : lget L t = some v) (h2 : lkeep L ts = e) : lkeep L (t :: ts) = (t, v) :: e := by
  rw [lkeep, h, h2]
end Go.Proofs.Ytgipbhfblmblcaa.AM

/- The abstract machine, part 25: shifts and bits. -/
set_option linter.unusedVariables false
set_option linter.unusedSimpArgs false
namespace Go.Proofs.Ytgipbhfblmblcaa.AM
open Go
section
variable {md : Bool} {P : Program} {c : Ctx} {env B : Env} {L : LPtr} {G : AHeap} {dst : Option Tmp} {ty : TypeId} {pos : String} {af : Array Edge} {gd : Option (Nat × Bool)} {T T' : TypeId} {x y : Operand} {k k' : IntKind} {m n : Int}
end
end Go.Proofs.Ytgipbhfblmblcaa.AM

/- The abstract machine, part 26: pointers to a slice's first element, or to nothing. -/
set_option linter.unusedVariables false
set_option linter.unusedSimpArgs false
namespace Go.Proofs.Ytgipbhfblmblcaa.AM
open Go
def ptrO (b : AV) : Bool → AV
  | true => .elp b 0 0
  | false => .nilp
section
variable {md : Bool} {P : Program} {c : Ctx} {env B : Env} {L : LPtr} {G : AHeap} {dst : Option Tmp} {ty : TypeId} {pos : String} {af : Array Edge} {gd : Option (Nat × Bool)} {T T' E : TypeId} {s b' : Nat} {z : Option Value} {x y : Operand} {b : AV} {o : Bool}
theorem v_ptrO_neq (hT : TyI P T (.pointer E) s z b') (hx : ev env L x = some (ptrO b o)) (hy : ev env L y = some .nilp) : ValLM md P c ⟨dst, .binOp .neq T x y T', ty, pos, af, gd⟩ env L B G (.bool o) := by
  cases o
  · exact v_nil_neq_nil hT hx hy
  · exact v_ptr_neq_nil hT hx rfl hy
theorem v_ptrO_eql (hT : TyI P T (.pointer E) s z b') (hx : ev env L x = some (ptrO b o)) (hy : ev env L y = some .nilp) : ValLM md P c ⟨dst, .binOp .eql T x y T', ty, pos, af, gd⟩ env L B G (.bool (!o)) := by
  cases o
  · exact v_nil_eql_nil hT hx hy
  · exact v_ptr_eql_nil hT hx rfl hy
end
end Go.Proofs.Ytgipbhfblmblcaa.AM

/- The abstract machine, part 27: append onto a row that came in. -/
set_option linter.unusedVariables false
set_option linter.unusedSimpArgs false
namespace Go.Proofs.Ytgipbhfblmblcaa.AM
open Go
section
variable {md : Bool} {P : Program} {c : Ctx} {env : Env} {G : AHeap} {dst : Option Tmp} {ty : TypeId} {pos : String} {af : Array Edge} {gd : Option (Nat × Bool)} {Q : Exit → Act → World → Prop} {K : Act → World → Prop}
/-- append onto a listed row that the call may write. -/
theorem step_appendR {T E s b' by_ sz d r : Nat} {z' : Option Value} {zv : Value} {de : TypeDesc} {x y : Operand} {b : AV} {l m : List AV} (hT : TyI P T (.slice E) s z' b') (hE : TyI P E de sz (some zv) by_) (hd : Nat.blt d c.nt = true)
    (hx : aeval env x = some (.own r sz 0 l.length)) (hr3 : G r = some (.row sz l)) (hr2 : c.D r ∨ c.w0.heap.size ≤ r) (hy : aeval env y = some b) (hm : b.view G = some m) (hme : Even sz m)
    (hcell : ∀ x ∈ m, x.cells.all AV.isCell = true) (hzs : zv.cells.size = sz) (h0 : 0 < m.length) (hb1 : l.length + m.length ≤ 140737488355328) (hb2 : (l.length + m.length) * by_ ≤ 140737488355328)
    (hk : ∀ r', (r' = r ∨ (G r' = none ∧ c.w0.heap.size ≤ r')) → Goal c ((d, .own r' sz 0 (l ++ m).length) :: env) (G.set r' (.row sz (l ++ m))) K) :
    Step P c ⟨some d, .call ⟨.builtin .append, #[x, y], #[T, T]⟩, ty, pos, af, gd⟩ Q env G K := fun a w hs => by
  obtain ⟨i0, g1, g2, g3, g4, g5⟩ := hE.run_info w
  have hrx := hs.eval hx
  have hry := hs.eval hy
  unfold Oper.wp
  obtain ⟨ad, cu, vs, hu, hvs, hvl, hcells⟩ := view_cells hs.sim hry hm hme h0
  have hvl' : vs.length = m.length * i0.size := by rw [g3]; exact hvl
  have hone : ∀ u ∈ vs, u.oneCell' = true := hvs.oneCell (List.all_eq_true.2 fun x hx => by
    obtain ⟨y, hy1, hy2⟩ := flat_mem hx
    exact List.all_eq_true.1 (hcell y hy1) x hy2)
  have hby : (l.length + m.length) * i0.bytes ≤ 140737488355328 := by rw [g5]; exact hb2
  have hdrew : St c env G a w.drew := hs.move (D := fun _ => False) (sim_drew hs.sim) ext_drew (fun _ _ h => h.elim)
  obtain ⟨C, Tc, os, rest, hh, hle, hC, hos⟩ := row_block hs.sim hr3
  have hol : os.length = l.length * sz := by rw [← hos.1, flat_len hle]
  have hCs : C.size = os.length + rest.length := by rw [← Array.length_toList, hC]; simp
  generalize hv : a.eval x = v at hrx
  cases hrx with
  | own _ _ _ _ cp hc hsh =>
    obtain ⟨T', N, hsh1, hsh2⟩ := hsh
    have hN : N = C.size := by unfold World.shape? at hsh1; rw [hh] at hsh1; simp at hsh1; exact hsh1.2.symm
    have hcap : cp * sz ≤ C.size := by rw [← hN]; simpa using hsh2
    by_cases hroom : l.length + m.length ≤ cp
    · have hfit : l.length * sz + vs.length ≤ C.size := by
        rw [hvl, ← Nat.add_mul]; exact Nat.le_trans (Nat.mul_le_mul_right _ hroom) hcap
      have hTc : ∃ v', (Builtin.append_ #[T, T] ty #[.slice (some ⟨r, 0, none⟩) l.length cp, .slice (some ad) m.length cu]).run P w = .ok (.slice (some ⟨r, 0, none⟩) (l.length + m.length) cp) v' ∧ v' = w.setRow r (C.toList.take (l.length * sz) ++ vs ++ C.toList.drop (l.length * sz + vs.length)).toArray := by
        have hf := run_firstCells_some (P := P) w sz m.length ad m.length cu vs hvl hcells
        have hst := run_storeCells_at P r (l.length * sz) Tc vs 0 C w hh (by simpa using hfit) hone
        simp only [Nat.add_zero] at hst
        exact ⟨_, by simp [Builtin.append_, hT.run_und, hE.run_size, Builtin.lenOf, hroom, hf, Addr.add_lit, hst], rfl⟩
      obtain ⟨w', hrun, rfl⟩ := hTc
      have hz0 : 0 * sz = 0 := Nat.zero_mul _
      rw [hz0] at hv
      rw [append_exec hv hu hrun, Oper.upon_value]
      obtain ⟨hsim, hext⟩ := row_store hs.sim hr3 hh hle hme hC hos hvs (Nat.le_refl _) hfit
      have hl2 : l.take l.length ++ m ++ l.drop (l.length + m.length) = l ++ m := by simp
      rw [hl2] at hsim hext
      have h5 := hs.move hsim hext (fun b hb e => by subst e; rcases hr2 with h | h; exact h; omega)
      refine hk r (.inl rfl) _ _ (h5.put hd ?_)
      have h6 := Rep.own (G := G.set r (.row sz (l ++ m))) (w := w.setRow r (C.toList.take (l.length * sz) ++ vs ++ C.toList.drop (l.length * sz + vs.length)).toArray) r sz 0 (l ++ m).length cp (by simpa using hroom)
        ⟨T', N, (hext.shape r (shape_lt hsh1)).trans hsh1, hsh2⟩
      simpa using h6
    · have hz0 : 0 * sz = 0 := Nat.zero_mul _
      rw [hz0] at hv
      have holds : ∀ j v, os[j]? = some v → w.cell? ((⟨r, 0, none⟩ : Addr).add j) = some v := fun j v hj => by
        rw [add_mk, Nat.zero_add]
        have : C[j]? = some v := by
          rw [← Array.getElem?_toList, hC, List.getElem?_append_left (by
            rcases Nat.lt_or_ge j os.length with h' | h'
            · exact h'
            · rw [List.getElem?_eq_none h'] at hj; cases hj)]
          exact hj
        simp [World.cell?, hh, this]
      have hr := run_append_grow (P := P) w T ty E i0 zv hT.und g2 g4 ⟨r, 0, none⟩ l.length cp os (by rw [g3]; exact hol) holds ad m.length cu vs hvl' hcells (by omega) (by omega) (growslice_fits (by omega) hby)
      rw [append_exec hv hu hr, Oper.upon_value]
      have hge := grownCap_ge w (l.length + m.length) cp E
      have hreps : Reps G w.drew (flat (l ++ m)) (os ++ vs) := by rw [flat_append]; exact (hos.append hvs).mono ext_drew
      have hsz : grownCap w (l.length + m.length) cp E * sz ≤ (os.toArray ++ vs.toArray ++ Builtin.zeroCells zv.cells (grownCap w (l.length + m.length) cp E - (l.length + m.length))).size := by
        simp only [Array.size_append, List.size_toArray, size_zeroCells, hzs, hol, hvl, ← Nat.add_mul]
        exact Nat.mul_le_mul_right _ (by omega)
      have h7 := hdrew.newRow (C := os.toArray ++ vs.toArray ++ Builtin.zeroCells zv.cells (grownCap w (l.length + m.length) cp E - (l.length + m.length))) (T := E) (cap := grownCap w (l.length + m.length) cp E) hd (hle.append hme)
        (vs := os ++ vs) (rest := (Builtin.zeroCells zv.cells (grownCap w (l.length + m.length) cp E - (l.length + m.length))).toList) (by simp) hreps (by simpa using hge) hsz
      have h8 := hk w.drew.heap.size (.inr ⟨hdrew.sim.none (Nat.le_refl _), hdrew.fresh⟩) _ _ h7
      simpa using h8
end
/-- A slice that is nil, or a whole listed row. -/
def SV (G : AHeap) (sz : Nat) (av : AV) (l : List AV) : Prop := (av = .nil0 ∧ l = []) ∨ ∃ r, av = .own r sz 0 l.length ∧ G r = some (.row sz l)
theorem SV.view {G : AHeap} {sz : Nat} {av : AV} {l : List AV} (h : SV G sz av l) : av.view G = some l := by
  rcases h with ⟨rfl, rfl⟩ | ⟨r, rfl, hr⟩
  · rfl
  · exact AV.view_own_all hr rfl
theorem SV.one {G : AHeap} {sz : Nat} {av : AV} {l : List AV} (h : SV G sz av l) : av.cells = [av] ∧ av.cells.all AV.isCell = true := by
  rcases h with ⟨rfl, _⟩ | ⟨r, rfl, _⟩ <;> exact ⟨rfl, rfl⟩
theorem Own.sv {n0 sz : Nat} {H G : AHeap} {av : AV} {l : List AV} (h : Own n0 sz H av l G) : SV G sz av l := h.imp (fun h => ⟨h.1, h.2.1⟩) (fun ⟨r, h1, h2, h3, h4⟩ => ⟨r, h3, by rw [h4]; exact AHeap.get_set _ _ _⟩)
theorem SV.mono {G H : AHeap} {sz : Nat} {av : AV} {l : List AV} (h : SV G sz av l) (hs : G.sub H) : SV H sz av l := h.imp id fun ⟨r, h1, h2⟩ => ⟨r, h1, hs _ _ h2⟩
section
variable {md : Bool} {P : Program} {c : Ctx} {env B : Env} {L : LPtr} {G : AHeap} {dst : Option Tmp} {ty : TypeId} {pos : String} {af : Array Edge} {gd : Option (Nat × Bool)} {Q : Exit → Act → World → Prop} {K : Act → World → Prop}
/-- append onto what a variable had: a row that is new, or the one that was there. -/
theorem s_appendV {T E s b' by_ sz d : Nat} {z' : Option Value} {zv : Value} {de : TypeDesc} {x y : Operand} {av b : AV} {l m : List AV} (hT : TyI P T (.slice E) s z' b') (hE : TyI P E de sz (some zv) by_) (hd : Nat.blt d c.nt = true)
    (hx : ev env L x = some av) (hsv : (av = .nil0 ∧ l = []) ∨ ∃ r, av = .own r sz 0 l.length ∧ G r = some (.row sz l) ∧ (c.D r ∨ c.w0.heap.size ≤ r)) (hy : ev env L y = some b) (hm : b.view G = some m) (hme : Even sz m)
    (hcell : ∀ x ∈ m, x.cells.all AV.isCell = true) (hzs : zv.cells.size = sz) (h0 : 0 < m.length) (hb1 : l.length + m.length ≤ 140737488355328) (hb2 : (l.length + m.length) * by_ ≤ 140737488355328)
    (h : ∀ r', ((G r' = none ∧ c.w0.heap.size ≤ r') ∨ av = .own r' sz 0 l.length) → GoalL c ((d, .own r' sz 0 (l ++ m).length) :: env) (ldel L d) B (G.set r' (.row sz (l ++ m))) K) : StepL P c ⟨some d, .call ⟨.builtin .append, #[x, y], #[T, T]⟩, ty, pos, af, gd⟩ Q env L B G K := fun ρ hρ => by
  rcases hsv with ⟨rfl, rfl⟩ | ⟨r, rfl, hr, hD⟩
  · refine step_append (H := boxes ρ G B) (l := []) hT hE hd (ev_full hx) (AHeap.sub_refl _) (.inl ⟨rfl, rfl⟩) (ev_full hy) (view_sub (boxes_sub hρ) hm) hme hcell hzs hb1 hb2 (fun he => ?_) (fun r hr hn => ?_)
    · rw [List.nil_append] at he; rw [he] at h0; simp at h0
    · exact Goal.env full_put (goal_set hρ hr (h r (.inl ⟨sub_none (boxes_sub hρ) hr, hn⟩)))
  · refine step_appendR hT hE hd (ev_full hx) (boxes_sub hρ _ _ hr) hD (ev_full hy) (view_sub (boxes_sub hρ) hm) hme hcell hzs h0 hb1 hb2 (fun r' hr' => ?_)
    rcases hr' with rfl | ⟨h1, h2⟩
    · obtain ⟨h3, h4⟩ := boxes_setR hρ (x := .row sz (l ++ m)) hr
      rw [h4]
      exact Goal.env full_put (h r' (.inr rfl) ρ h3)
    · exact Goal.env full_put (goal_set hρ h1 (h r' (.inl ⟨sub_none (boxes_sub hρ) h1, h2⟩)))
end
end Go.Proofs.Ytgipbhfblmblcaa.AM


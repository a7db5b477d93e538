/- The abstract machine, part 18: copy. -/
import Derived.Test.YtgedefcjngofkaaAm17
set_option linter.unusedVariables false
set_option linter.unusedSimpArgs false
namespace Go.Proofs.Ytgedefcjngofkaa.AM
open Go
section
variable {md : Bool} {P : Program} {c : Ctx} {env : Env} {G : AHeap} {dst : Option Tmp} {ty : TypeId} {pos : String} {af : Array Edge} {gd : Option (Nat × Bool)} {Q : Exit → Act → World → Prop} {K : Act → World → Prop}

/-- The first k elements of a slice. -/
theorem run_first {b : AV} {v : Value} {m : List AV} {sz : Nat} {w : World} (hs : Sim G w) (hr : Rep G w b v) (hm : b.view G = some m) (hme : Even sz m) (k : Nat) (hk : k ≤ m.length) :
    ∃ A cp vs, v = .slice A m.length cp ∧ Reps G w (flat (m.take k)) vs ∧ vs.length = k * sz ∧ (Builtin.firstCells sz k v).run P w = .ok vs.toArray w := by
  rcases Nat.eq_zero_or_pos m.length with h0 | h0
  · obtain ⟨A, cp, hu⟩ := view_len hs hr hm
    have hk0 : k = 0 := by omega
    subst hk0
    refine ⟨A, cp, [], hu, by simp [flat, Reps.nil], by simp, ?_⟩
    subst hu
    cases A with
    | none => exact run_firstCells_none _ _ _ _ _
    | some ad => exact run_firstCells_some w sz 0 ad _ cp [] (by simp) (fun j v h => by simp at h)
  · obtain ⟨ad, cu, vs, hu, hvs, hvl, hcells⟩ := view_cells hs hr hm hme h0
    refine ⟨some ad, cu, vs.take (k * sz), hu, by rw [flat_take hme]; exact hvs.take _, ?_, ?_⟩
    · rw [List.length_take, hvl, Nat.min_eq_left (Nat.mul_le_mul_right _ hk)]
    · subst hu
      refine run_firstCells_some w sz k ad _ cu _ ?_ fun j v hj => hcells j v ?_
      · rw [List.length_take, hvl, Nat.min_eq_left (Nat.mul_le_mul_right _ hk)]
      · rw [List.getElem?_take] at hj
        split at hj
        · exact hj
        · cases hj

theorem step_copy {T E T2 s b' by_ sz d r o n : Nat} {z' z : Option Value} {de : TypeDesc} {x y : Operand} {b : AV} {l m : List AV} (hT : TyI P T (.slice E) s z' b') (hE : TyI P E de sz z by_) (hd : Nat.blt d c.nt = true)
    (hx : aeval env x = some (.own r sz o n)) (hG : G r = some (.row sz l)) (hon : o + n ≤ l.length) (hy : aeval env y = some b) (hm : b.view G = some m) (hme : Even sz m) (hcell : ∀ x ∈ m, x.cells.all AV.isCell = true)
    (hD : c.D r ∨ c.w0.heap.size ≤ r) (h : Goal c ((d, .int .i64 (min m.length n : Nat)) :: env) (G.set r (.row sz (l.take o ++ m.take (min m.length n) ++ l.drop (o + (m.take (min m.length n)).length)))) K) :
    Step P c ⟨some d, .call ⟨.builtin .copy, #[x, y], #[T, T2]⟩, ty, pos, af, gd⟩ Q env G K := fun a w hs => by
  have hrx := hs.eval hx
  have hry := hs.eval hy
  obtain ⟨k, hk⟩ : ∃ k, k = min m.length n := ⟨_, rfl⟩
  rw [← hk] at h
  obtain ⟨A, cp, vs, hu, hvs, hvl, hrun⟩ := run_first (P := P) hs.sim hry hm hme k (by omega)
  obtain ⟨C, Tc, os, rest, hh, hle, hC, hos⟩ := row_block hs.sim hG
  have hol : os.length = l.length * sz := by rw [← hos.1, flat_len hle]
  have hCs : C.size = os.length + rest.length := by rw [← Array.length_toList, hC]; simp
  have hfit : o * sz + vs.length ≤ C.size := by
    rw [hvl, ← Nat.add_mul, hCs, hol]
    exact Nat.le_trans (Nat.mul_le_mul_right sz (show o + k ≤ l.length by omega)) (Nat.le_add_right _ _)
  have hmk : Even sz (m.take k) := hme.take k
  have hone : ∀ u ∈ vs, u.oneCell' = true := hvs.oneCell (List.all_eq_true.2 fun x hx => by
    obtain ⟨y, hy1, hy2⟩ := flat_mem hx
    exact List.all_eq_true.1 (hcell y (List.mem_of_mem_take hy1)) x hy2)
  generalize hv : a.eval x = v at hrx
  cases hrx with
  | own _ _ _ _ cap hc hsh =>
    have hst := run_storeCells_at P r (o * sz) Tc vs 0 C w hh (by simpa using hfit) hone
    simp only [Nat.add_zero] at hst
    have hlen : (Builtin.lenOf (a.eval y)).run P w = .ok m.length w := by rw [hu]; simp [Builtin.lenOf]
    have hcopy : (Builtin.copy_ #[T, T2] ty #[.slice (some ⟨r, o * sz, none⟩) n cap, a.eval y]).run P w = .ok (.int .i64 (k : Int)) (w.setRow r (C.toList.take (o * sz) ++ vs ++ C.toList.drop (o * sz + vs.length)).toArray) := by
      have hkk : Nat.min m.length n = k := hk.symm
      simp [Builtin.copy_, hT.run_und, hE.run_size, hlen, hkk, hrun, hst, goInt]
    have hexec : (execOp a.eval ⟨some d, .call ⟨.builtin .copy, #[x, y], #[T, T2]⟩, ty, pos, af, gd⟩).run P w = .ok (.value (.int .i64 (k : Int))) (w.setRow r (C.toList.take (o * sz) ++ vs ++ C.toList.drop (o * sz + vs.length)).toArray) := by
      have e : #[x, y].map a.eval = #[.slice (some ⟨r, o * sz, none⟩) n cap, a.eval y] := by simp [hv]
      simp [execOp, resolve, invoke, builtin, hv, hcopy]
    unfold Oper.wp
    rw [hexec, Oper.upon_value]
    obtain ⟨hsim, hext⟩ := row_store hs.sim hG hh hle hmk hC hos hvs (show o ≤ l.length by omega) hfit
    exact h _ _ ((hs.move hsim hext (fun b hb e => by subst e; exact hD.resolve_right (by omega))).put hd (.int _ _))
/-- Onto a slice without elements. -/
theorem val_copy_nil {T E T2 s b' by_ sz : Nat} {z' z : Option Value} {de : TypeDesc} {x y : Operand} {b : AV} {m : List AV} (hT : TyI P T (.slice E) s z' b') (hE : TyI P E de sz z by_)
    (hx : aeval env x = some (.imm [])) (hy : aeval env y = some b) (hm : b.view G = some m) (hme : Even sz m) (a : Act) (w : World) (hs : St c env G a w) :
    (execOp a.eval ⟨dst, .call ⟨.builtin .copy, #[x, y], #[T, T2]⟩, ty, pos, af, gd⟩).run P w = .ok (.value (.int .i64 0)) w := by
  have hrx := hs.eval hx
  have hry := hs.eval hy
  obtain ⟨A, cp, vs, hu, hvs, hvl, hrun⟩ := run_first (P := P) hs.sim hry hm hme 0 (by omega)
  have hvs0 : vs = [] := List.eq_nil_of_length_eq_zero (by omega)
  subst hvs0
  have hlen : (Builtin.lenOf (a.eval y)).run P w = .ok m.length w := by rw [hu]; simp [Builtin.lenOf]
  obtain ⟨A', c', hv⟩ : ∃ A' c', a.eval x = .slice A' 0 c' := by
    generalize a.eval x = v at hrx
    cases hrx with
    | imm0 A c => exact ⟨A, c, rfl⟩
    | imm _ ad c sz u hc hG hb hsz hcell hrep => exact ⟨_, _, rfl⟩
  have hmin : Nat.min m.length 0 = 0 := by simp [Nat.min_def]
  have hcopy : (Builtin.copy_ #[T, T2] ty #[.slice A' 0 c', a.eval y]).run P w = .ok (.int .i64 0) w := by
    cases A' <;> simp [Builtin.copy_, hT.run_und, hE.run_size, hlen, hmin, hrun, goInt, storeCells]
  simp [execOp, resolve, invoke, builtin, hv, hcopy]
theorem val_slice_empty {T E : TypeId} {d : TypeDesc} {sz by_ s b' lo r o n : Nat} {z z' : Option Value} {x : Operand} {low high : Option Operand} {m1 m2 : Int} (hT : TyI P T (.slice E) s z' b') (hE : TyI P E d sz z by_)
    (hx : aeval env x = some (.own r sz o n)) (hlo : aevb env 0 low = some m1) (hhi : aevb env (n : Int) high = some m2) (h1 : m1 = (lo : Int)) (h2 : m2 = (lo : Int)) (hc : lo ≤ n) :
    ValM md P c ⟨dst, .slice T x low high none, ty, pos, af, gd⟩ env G (.imm []) := fun a w hs => by
  have hr := hs.eval hx
  generalize hu : a.eval x = u at hr
  cases hr with
  | own _ _ _ _ cp hcp hsh =>
    have hb := fun w' => run_bounds (P := P) (iss := true) (cap := cp) (lo := lo) (hi := lo) hs hlo hhi h1 h2 (Nat.le_refl _) (by omega) w'
    refine ⟨_, ?_, fun w' _ => by
      simp only [execOp, hu, Instr.sliceAt, Sem.run_bind, hT.run_und, Result.andThen_ok, Instr.slice, Option.map_none, hb w', hE.run_size, Sem.run_pure]; rfl⟩
    rw [Nat.sub_self]
    exact .imm0 _ _
end

section
variable {md : Bool} {P : Program} {c : Ctx} {env B : Env} {L : LPtr} {G : AHeap} {dst : Option Tmp} {ty : TypeId} {pos : String} {af : Array Edge} {gd : Option (Nat × Bool)} {Q : Exit → Act → World → Prop} {K : Act → World → Prop}
theorem v_slice_empty {T E : TypeId} {d : TypeDesc} {sz by_ s b' lo r o n : Nat} {z z' : Option Value} {x : Operand} {low high : Option Operand} {m1 m2 : Int} (hT : TyI P T (.slice E) s z' b') (hE : TyI P E d sz z by_)
    (hx : ev env L x = some (.own r sz o n)) (hlo : evb env L 0 low = some m1) (hhi : evb env L (n : Int) high = some m2) (h1 : m1 = (lo : Int)) (h2 : m2 = (lo : Int)) (hc : lo ≤ n) :
    ValLM md P c ⟨dst, .slice T x low high none, ty, pos, af, gd⟩ env L B G (.imm []) := fun ρ hρ => val_slice_empty hT hE (ev_full hx) (evb_full hlo) (evb_full hhi) h1 h2 hc
theorem s_copy {T E T2 s b' by_ sz d r o n k : Nat} {z' z : Option Value} {de : TypeDesc} {x y : Operand} {b : AV} {l m l' : List AV} (hT : TyI P T (.slice E) s z' b') (hE : TyI P E de sz z by_) (hd : Nat.blt d c.nt = true)
    (hx : ev env L x = some (.own r sz o n)) (hG : G r = some (.row sz l)) (hon : o + n ≤ l.length) (hy : ev env L y = some b) (hm : b.view G = some m) (hme : Even sz m) (hcell : ∀ x ∈ m, x.cells.all AV.isCell = true)
    (hD : c.D r ∨ c.w0.heap.size ≤ r) (hk : k = min m.length n) (hl' : l.take o ++ m.take k ++ l.drop (o + k) = l') (h : GoalL c ((d, .int .i64 (k : Nat)) :: env) (ldel L d) B (G.set r (.row sz l')) K) :
    StepL P c ⟨some d, .call ⟨.builtin .copy, #[x, y], #[T, T2]⟩, ty, pos, af, gd⟩ Q env L B G K := fun ρ hρ => by
  have hne : ∀ s v, B.get s = some v → r ≠ ρ s := fun s v hv e => by have := (hρ.fresh s v hv).1; rw [← e, hG] at this; cases this
  obtain ⟨h3, h4⟩ := boxes_setG (x := .row sz l') hρ hne
  refine step_copy hT hE hd (ev_full hx) (boxes_sub hρ _ _ hG) hon (ev_full hy) (view_sub (boxes_sub hρ) hm) hme hcell hD ?_
  have e : (m.take (min m.length n)).length = k := by rw [List.length_take, hk]; omega
  rw [e, ← hk, hl', h4]
  exact Goal.env full_put (h ρ h3)
theorem s_copy_nil {T E T2 s b' by_ sz d : Nat} {z' z : Option Value} {de : TypeDesc} {x y : Operand} {b : AV} {m : List AV} (hT : TyI P T (.slice E) s z' b') (hE : TyI P E de sz z by_) (hd : Nat.blt d c.nt = true)
    (hx : ev env L x = some (.imm [])) (hy : ev env L y = some b) (hm : b.view G = some m) (hme : Even sz m) (h : GoalL c ((d, .int .i64 0) :: env) (ldel L d) B G K) :
    StepL P c ⟨some d, .call ⟨.builtin .copy, #[x, y], #[T, T2]⟩, ty, pos, af, gd⟩ Q env L B G K := fun ρ hρ a w hs => by
  unfold Oper.wp
  rw [val_copy_nil hT hE (ev_full hx) (ev_full hy) (view_sub (boxes_sub hρ) hm) hme a w hs, Oper.upon_value]
  exact Goal.env full_put (h ρ hρ) _ _ (hs.put hd (.int _ _))
/-- make: a row of the call's own, as it is. -/
theorem s_makeO {T E : TypeId} {de : TypeDesc} {s b' sz by_ d n : Nat} {z : Option Value} {zv : Value} {x : Operand} {k : IntKind} {m : Int} {za : AV} (hT : TyI P T (.slice E) s z b') (hE : TyI P E de sz (some zv) by_) (hd : Nat.blt d c.nt = true)
    (hx : ev env L x = some (.int k m)) (hm : m = (n : Int)) (hz : zAV zv = za) (hzs : za.cells.length = sz) (hzu : za.isUnk = false) (hb : n * by_ ≤ 140737488355328) (hn : n ≤ 140737488355328)
    (h : ∀ r, G r = none → c.w0.heap.size ≤ r → GoalL c ((d, .own r sz 0 n) :: env) (ldel L d) B (G.set r (.row sz (List.replicate n za))) K) : StepL P c ⟨some d, .makeSlice T x x, ty, pos, af, gd⟩ Q env L B G K := fun ρ hρ =>
  step_makeSlice hT hE hd (ev_full hx) hm hz hzs hzu hb hn fun r hr hn' => by
    rw [List.length_replicate]
    exact Goal.env full_put (goal_set hρ hr (h r (sub_none (boxes_sub hρ) hr) hn'))
end
end Go.Proofs.Ytgedefcjngofkaa.AM

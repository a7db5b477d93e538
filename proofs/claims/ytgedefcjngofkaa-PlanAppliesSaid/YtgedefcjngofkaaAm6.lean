/- The abstract machine, part 6: calls, code, a function's beginning and end. -/
import Derived.Test.YtgedefcjngofkaaAm5
set_option linter.unusedVariables false
set_option linter.unusedSimpArgs false
namespace Go.Proofs.Ytgedefcjngofkaa.AM
open Go

/-- A function that can be called. -/
structure FnI (P : Program) (f : FuncId) (fn : Func) : Prop where
  at_ : P.funcs[f]? = some fn
  nm : (fn.name == "runtime.NumGoroutine") = false
  bd : fn.body.isNone = false

/-- What a call of f comes to, from abstract heap G: only old blocks of D may turn; R of the old heap's size, the result and the heap behind it. -/
def ACalls (P : Program) (f : FuncId) (args : List AV) (G : AHeap) (D : Nat → Prop) (R : Nat → AV → AHeap → Prop) : Prop :=
  (∃ fn, FnI P f fn) ∧ ∀ (w : World) (vs : List Value), Sim G w → Reps G w args vs →
    Calls P f vs.toArray w fun e w' => ∃ v r G', e = .returned v ∧ R w.heap.size r G' ∧ Rep G' w' r v ∧ Sim G' w' ∧ Ext G w D G' w'

theorem ACalls.mono {P : Program} {f : FuncId} {args : List AV} {G : AHeap} {D : Nat → Prop} {R R' : Nat → AV → AHeap → Prop} (h : ACalls P f args G D R)
    (hR : ∀ n r G', (∀ b, n ≤ b → G b = none) → R n r G' → R' n r G') : ACalls P f args G D R' :=
  ⟨h.1, fun w vs hs hr => (h.2 w vs hs hr).mono fun e w' ⟨v, r, G', h1, h2, h3, h4, h5⟩ => ⟨v, r, G', h1, hR _ _ _ (fun b hb => hs.none hb) h2, h3, h4, h5⟩⟩
/-- Behind a call some of what is listed may be forgotten, and the result said with less. -/
theorem ACalls.less {P : Program} {f : FuncId} {args : List AV} {G : AHeap} {D : Nat → Prop} {R R' : Nat → AV → AHeap → Prop} (h : ACalls P f args G D R)
    (hR : ∀ n r G' w' v, (∀ b, n ≤ b → G b = none) → R n r G' → Sim G' w' → Rep G' w' r v → ∃ r' G'', R' n r' G'' ∧ G''.sub G' ∧ Rep G'' w' r' v) : ACalls P f args G D R' :=
  ⟨h.1, fun w vs hs hr => (h.2 w vs hs hr).mono fun e w' ⟨v, r, G', h1, h2, h3, h4, h5⟩ => by
    obtain ⟨r', G'', g1, g2, g3⟩ := hR _ _ _ w' v (fun b hb => hs.none hb) h2 h4 h3
    exact ⟨v, r', G'', h1, g1, g3, h4.forget g2, h5.trans (Ext.forget w' g2) (fun _ _ h => h.elim)⟩⟩
theorem ACalls.args {P : Program} {f : FuncId} {args args' : List AV} {G : AHeap} {D : Nat → Prop} {R : Nat → AV → AHeap → Prop} (h : ACalls P f args' G D R) (hA : ASubs args args') : ACalls P f args G D R :=
  ⟨h.1, fun w vs hs hr => h.2 w vs hs ⟨hA.len ▸ hr.1, fun i h1 h2 => hA.get i (by rw [hA.len]; exact h1) h1 _ _ _ (hr.2 i _ h2)⟩⟩

section
variable {P : Program} {c : Ctx} {env : Env} {G : AHeap} {dst : Option Tmp} {ty : TypeId} {pos : String} {af : Array Edge} {gd : Option (Nat × Bool)} {Q : Exit → Act → World → Prop} {K : Act → World → Prop}

theorem eval_ops {a : Act} {w : World} (hs : St c env G a w) : ∀ (l : List Operand) (vs : List AV), l.mapM (aeval env) = some vs → Reps G w vs (l.map a.eval)
  | [], vs, h => by simp at h; subst h; exact .nil _ _
  | x :: l, vs, h => by
    simp only [List.mapM_cons, Option.bind_eq_bind, Option.bind_eq_some_iff, Option.pure_def, Option.some.injEq] at h
    obtain ⟨v, hv, vs, hvs, rfl⟩ := h
    exact .cons (hs.eval hv) (eval_ops hs l vs hvs)

/-- Behind a call. -/
def Behind (c : Ctx) (G : AHeap) (R : Nat → AV → AHeap → Prop) (k : AV → AHeap → Prop) : Prop :=
  ∀ n r G', c.w0.heap.size ≤ n → (∀ b, n ≤ b → G b = none) → R n r G' → k r G'

theorem run_callFunc {f : FuncId} {fn : Func} (hf : FnI P f fn) (args : Array Value) (w : World) : (callFunc f args).run P w = .ok (.enter f args) w := by
  have h1 := hf.nm
  have h2 := hf.bd
  simp only [callFunc, Sem.run_bind, run_program, Result.andThen_ok, hf.at_, h1, h2, Bool.false_eq_true, if_false]
  rfl

theorem step_call {x : Operand} {xs : Array Operand} {at_ : Array TypeId} {f : FuncId} {caps avs : List AV} {D : Nat → Prop} {R : Nat → AV → AHeap → Prop} {d : Nat}
    (hx : aeval env x = some (.fn (.func f) caps)) (hxs : xs.toList.mapM (aeval env) = some avs) (hd : Nat.blt d c.nt = true) (h : ACalls P f (avs ++ caps) G D R)
    (hD : ∀ b, D b → c.D b ∨ c.w0.heap.size ≤ b) (hk : Behind c G R fun r G' => Goal c ((d, r) :: env) G' K) : Step P c ⟨some d, .call ⟨.value x, xs, at_⟩, ty, pos, af, gd⟩ Q env G K := fun a w hs => by
  obtain ⟨⟨fn, hfn⟩, hcall⟩ := h
  have hr := hs.eval hx
  generalize hu : a.eval x = u at hr
  cases hr with
  | fn _ _ vs hl hcs =>
    have hargs := (eval_ops hs _ _ hxs).append ⟨hl, hcs⟩
    have hrun : (execOp a.eval ⟨some d, .call ⟨.value x, xs, at_⟩, ty, pos, af, gd⟩).run P w = .ok (.enter f ((xs.toList.map a.eval) ++ vs).toArray) w := by
      have e : xs.map a.eval ++ vs.toArray = ((xs.toList.map a.eval) ++ vs).toArray := by apply Array.ext'; simp
      simp [execOp, resolve, hu, Deferred.ofValue, invoke, run_callFunc hfn, e]
    unfold Oper.wp
    rw [hrun, Oper.upon_enter]
    refine (hcall w _ hs.sim hargs).mono ?_
    rintro e w' ⟨v, r, G', rfl, h2, h3, h4, h5⟩
    exact hk w.heap.size r G' hs.fresh (fun b hb => hs.sim.none hb) h2 _ _ ((hs.move h4 h5 (fun b hb hdb => (hD b hdb).resolve_right (by omega))).put hd h3)

/-! ### Code -/
theorem Goal.seq {x y : Code} (h : ∀ K : Act → World → Prop, (∀ a w, y.wp P Q a w → K a w) → Goal c env G (x.wp P (Exit.then K Q))) : Goal c env G ((Code.seq x y).wp P Q) := fun a w hs =>
  wp_seq_k fun K hK => h K hK a w hs
theorem Goal.next {x : Code} (hK : ∀ a w, x.wp P Q a w → K a w) (h : Goal c env G (x.wp P Q)) : Goal c env G (Exit.then K Q .normal) := fun a w hs => hK a w (h a w hs)
theorem Goal.region {id : Nat} {l : List Oper} (h : Goal c env G (wpList P l.toArray Q l)) : Goal c env G ((Code.region id l.toArray false).wp P Q) := fun a w hs => wp_region_lit (h a w hs)
theorem Goal.nil {ops : Array Oper} (h : Goal c env G (Q .normal)) : Goal c env G (wpList P ops Q []) := h
theorem Goal.cond {x : Operand} {t e : Code} {b : Bool} (hx : aeval env x = some (.bool b)) (ht : b = true → Goal c env G (t.wp P Q)) (he : b = false → Goal c env G (e.wp P Q)) : Goal c env G ((Code.cond x t e).wp P Q) := fun a w hs =>
  wp_cond_split (rep_bool (hs.eval hx)) (fun h => ht h a w hs) (fun h => he h a w hs)
theorem Goal.block {id : Nat} {x : Code} (h : Goal c env G (x.wp P (Exit.inBlock id Q))) : Goal c env G ((Code.block id x).wp P Q) := fun a w hs => wp_block (h a w hs)
theorem Goal.exit {id : Nat} (h : Goal c env G (Q (.exit id))) : Goal c env G ((Code.exit id).wp P Q) := fun a w hs => wp_exit (h a w hs)
theorem Goal.ret (h : Goal c env G (Q .ret)) : Goal c env G (Code.ret.wp P Q) := fun a w hs => wp_ret (h a w hs)
theorem Goal.skip (h : Goal c env G (Q .normal)) : Goal c env G (Code.skip.wp P Q) := fun a w hs => wp_skip (h a w hs)
theorem Goal.label {l : Nat} (h : Goal c env G (Q .normal)) : Goal c env G ((Code.label l).wp P Q) := fun a w hs => wp_label (h a w hs)
theorem Goal.inBlock_same {id : Nat} (h : Goal c env G (Q .normal)) : Goal c env G (Exit.inBlock id Q (.exit id)) := fun a w hs => by
  simp only [Exit.inBlock, if_true]; exact h a w hs
theorem Goal.inBlock_other {id id' : Nat} (hne : Nat.beq id' id = false) (h : Goal c env G (Q (.exit id'))) : Goal c env G (Exit.inBlock id Q (.exit id')) := fun a w hs => by
  have : id' ≠ id := fun e => by subst e; rw [Nat.beq_refl] at hne; cases hne
  simp only [Exit.inBlock, this, if_false]; exact h a w hs

/-- A loop: what holds at each round's beginning, with a number that falls. -/
theorem Goal.loop {x : Code} (I : Nat → Env → AHeap → Prop) (n : Nat) (h0 : I n env G)
    (round : ∀ n env G, I n env G → Goal c env G (x.wp P (Exit.then (fun a w => ∃ m env' G', m < n ∧ I m env' G' ∧ St c env' G' a w) Q))) : Goal c env G ((Code.loop x).wp P Q) := fun a w hs b k cs => by
  have key : ∀ n env G a w, I n env G → St c env G a w →
      ∃ e a' w', Q e a' w' ∧ Arrives P (lone (b.at a (.code x :: .inLoop x :: k)) cs w) b k cs e a' w' := by
    intro n
    induction n using Nat.strongRecOn with
    | _ n ih =>
      intro env G a w hI hs
      obtain ⟨e, a₁, w₁, hq, harr⟩ := round n env G hI a w hs b (.inLoop x :: k) cs
      cases e with
      | normal =>
        obtain ⟨m, env', G', hm, hI', hs'⟩ := hq
        obtain ⟨e₂, a₂, w₂, hq₂, harr₂⟩ := ih m hm env' G' a₁ w₁ hI' hs'
        exact ⟨e₂, a₂, w₂, hq₂, .of_steps (Steps.trans harr (.one step_inLoop)) harr₂⟩
      | exit id => exact ⟨_, a₁, w₁, hq, .pass (x := .inLoop x) rfl (fun _ _ => .inl (by simp)) harr⟩
      | goto l => exact ⟨_, a₁, w₁, hq, .pass (x := .inLoop x) rfl (fun _ _ => .inl (by simp)) harr⟩
      | ret => exact ⟨_, a₁, w₁, hq, .pass (x := .inLoop x) rfl (fun _ _ => .inl (by simp)) harr⟩
      | panic ch => exact ⟨_, a₁, w₁, hq, .pass (x := .inLoop x) rfl (fun _ _ => .inl (by simp)) harr⟩
      | outgrown => exact ⟨_, a₁, w₁, hq, .pass (x := .inLoop x) rfl (fun _ _ => .inl (by simp)) harr⟩
  obtain ⟨e, a', w', hq, harr⟩ := key n env G a w h0 hs
  exact ⟨e, a', w', hq, .of_steps (.one step_loop) harr⟩
theorem Goal.round {I : Nat → Env → AHeap → Prop} {n : Nat} (m : Nat) (env' : Env) (G' : AHeap) (ts : List Nat) (hm : m < n) (hk : env.keep ts = env') (hG : G'.sub G) (hI : I m env' G') :
    Goal c env G (Exit.then (fun a w => ∃ m env' G', m < n ∧ I m env' G' ∧ St c env' G' a w) Q .normal) := fun a w hs =>
  ⟨m, env', G', hm, hI, (hs.env fun t v hv => Env.keep_get env ts t v (hk ▸ hv)).forget hG⟩

/-! ### A function -/
/-- What a call's end must show. -/
def Ret (c : Ctx) (R : Nat → AV → AHeap → Prop) (e : Ending) (w' : World) : Prop :=
  ∃ v r G', e = .returned v ∧ R c.w0.heap.size r G' ∧ Rep G' w' r v ∧ Sim G' w' ∧ Ext c.G0 c.w0 c.D G' w'

/-- The parameters' temporaries. -/
def params : List AV → Nat → Env
  | [], _ => []
  | a :: l, i => (i, a) :: params l (i + 1)
theorem params_get : ∀ (l : List AV) (i t : Nat) (v : AV), (params l i).get t = some v → ∃ h : i ≤ t ∧ t - i < l.length, l[t - i]'h.2 = v
  | [], i, t, v, h => by simp [params, Env.get] at h
  | a :: l, i, t, v, h => by
    simp only [params, Env.get] at h
    cases hb : Nat.beq i t with
    | true =>
      rw [hb] at h
      have := Nat.eq_of_beq_eq_true hb
      subst this
      refine ⟨⟨Nat.le_refl _, by simp⟩, ?_⟩
      simpa using h
    | false =>
      rw [hb] at h
      obtain ⟨⟨h1, h2⟩, h3⟩ := params_get l (i + 1) t v h
      refine ⟨⟨by omega, by simp; omega⟩, ?_⟩
      have e : t - i = (t - (i + 1)) + 1 := by omega
      simp only [e, List.getElem_cons_succ]
      exact h3

theorem ACalls.intro {f : FuncId} {fn : Func} {code : Code} {args : List AV} {D : Nat → Prop} {R : Nat → AV → AHeap → Prop} (nt : Nat) (hf : FnI P f fn) (hb : fn.body = some code) (hnt : fn.ntmps = nt) (hlen : Nat.ble args.length nt = true)
    (hD : ∀ b, D b → G b ≠ none) (h : ∀ w0 : World, (∀ b, w0.heap.size ≤ b → G b = none) → Goal ⟨w0, G, D, nt⟩ (params args 0) G (code.wp P (bodyPost P fn (Ret ⟨w0, G, D, nt⟩ R)))) : ACalls P f args G D R :=
  ⟨⟨fn, hf⟩, fun w vs hs hr => by
    have hle : args.length ≤ nt := Nat.le_of_ble_eq_true hlen
    have hvl : vs.length = args.length := hr.1.symm
    refine calls_of_wp hf.at_ hb (h w (fun b hb => hs.none hb) _ _ ⟨hs, fun t v hv => ?_, ?_, rfl, (Ext.refl G w).weaken (fun _ h => h.elim) hD⟩)
    · obtain ⟨⟨h1, h2⟩, h3⟩ := params_get args 0 t v hv
      simp only [Nat.sub_zero] at h2 h3
      have ht : t < vs.length := by omega
      have := hr.2 t h2 ht
      rw [h3] at this
      have e : ((vs.toArray ++ Array.replicate (fn.ntmps - vs.toArray.size) undef).getD t undef) = vs[t] := by
        have hb : t < (vs.toArray ++ Array.replicate (fn.ntmps - vs.toArray.size) undef).size := by simp; omega
        simp only [Array.getD, hb, dif_pos, Array.getInternal_eq_getElem]
        rw [Array.getElem_append_left (by simpa using ht)]
        simp
      rw [e]
      exact this
    · simp; omega⟩

/-- A result variable's value. -/
inductive ARes (P : Program) (env : Env) (G : AHeap) : ResultVar → AV → Prop
  | tmp {t : Nat} {v : AV} (h : env.get t = some v) : ARes P env G (.tmp t) v
  | agg {t T sz b' r : Nat} {d : TypeDesc} {z : Option Value} {e : AV} (hT : TyI P T d sz z b') (hd : aggDesc d = true) (h : env.get t = some (.box r 0)) (hG : G r = some (.box e)) (ha : e.isAgg = true) (hl : e.cells.length = sz) : ARes P env G (.cell t T) e
  | one {t T sz b' r : Nat} {d : TypeDesc} {z : Option Value} {e : AV} (hT : TyI P T d sz z b') (hd : aggDesc d = false) (h : env.get t = some (.box r 0)) (hG : G r = some (.box e)) (hc : e.isCell = true) : ARes P env G (.cell t T) e

def resOf (tmps : Array Value) : ResultVar → Sem Value
  | .tmp t => pure (tmps.getD t undef)
  | .cell a t => do loadVar t (← asAddr (tmps.getD a undef))
theorem results_resOf (fn : Func) (tmps : Array Value) : results fn tmps = (do
    let vs ← fn.results.mapM (resOf tmps)
    pure (if h : vs.size = 1 then vs[0] else .tuple vs)) := rfl

theorem load_res {a : Act} {w : World} (hs : St c env G a w) {t T : Nat} {r : AV} (hl : Val P c ⟨some 0, .load T (.tmp t), 0, "", #[], none⟩ env G r) : ∃ v, Rep G w r v ∧ (resOf a.tmps (.cell t T)).run P w = .ok v w := by
  obtain ⟨v, h1, h2⟩ := hl a w hs
  refine ⟨v, h1, ?_⟩
  have h3 := h2 w (fun _ => Same.refl w)
  simp only [resOf]
  generalize hu : a.tmps.getD t undef = u
  have hu' : a.eval (.tmp t) = u := hu
  simp only [execOp, Instr.loadAt, hu', Sem.run_bind] at h3 ⊢
  unfold Instr.sureAddr at h3
  unfold asAddr
  split at h3
  · simp only [Sem.run_pure, Result.andThen_ok] at h3 ⊢
    rename_i p
    generalize hlv : (loadVar T p).run P w = res at h3
    cases res with
    | ok x w2 => simp at h3; obtain ⟨rfl, rfl⟩ := h3; rfl
    | halt x w2 => simp at h3
  · simp at h3
theorem ARes.run {a : Act} {w : World} (hs : St c env G a w) {rv : ResultVar} {r : AV} (h : ARes P env G rv r) : ∃ v, Rep G w r v ∧ (resOf a.tmps rv).run P w = .ok v w := by
  cases h with
  | tmp h => exact ⟨_, hs.rep _ _ h, rfl⟩
  | agg hT hd h hG ha hl => exact load_res hs (val_load_box hT hd (x := .tmp _) h hG ha hl)
  | one hT hd h hG hc =>
    have hcs : r.cells = [r] := by cases r <;> first | rfl | cases hc
    exact load_res hs (val_load hT hd (x := .tmp _) (cs := []) h (by simp [AV.pcells, hG, hcs]))

theorem Goal.end_ {fn : Func} {R : Nat → AV → AHeap → Prop} {r : AV} {G' : AHeap} {e : Exit} (he : e = .ret ∨ e = .normal)
    (hres : ∀ a w, St c env G a w → ∃ v, Rep G w r v ∧ (results fn a.tmps).run P w = .ok v w) (r' : AV) (hs : G'.sub G) (hr : ∀ w v, Sim G w → Rep G w r v → Rep G' w r' v) (hR : R c.w0.heap.size r' G') :
    Goal c env G (bodyPost P fn (Ret c R) e) := fun a w h => by
  obtain ⟨v, h1, h2⟩ := hres a w h
  have h' := h.forget hs
  have hend : Ret c R (.returned v) w := ⟨v, r', G', rfl, hR, hr w v h.sim h1, h'.sim, h'.ext⟩
  rcases he with rfl | rfl <;> exact ⟨h.dfr, v, h2, hend⟩

theorem res0 {fn : Func} (hr : fn.results = #[]) (a : Act) (w : World) (hs : St c env G a w) : ∃ v, Rep G w (.tup []) v ∧ (results fn a.tmps).run P w = .ok v w :=
  ⟨.tuple #[], by have := Rep.tup (G := G) (w := w) [] [] rfl (fun i h => by simp at h); exact this, by simp [results, hr]⟩
theorem res1 {fn : Func} {v1 : ResultVar} {r1 : AV} (hr : fn.results = #[v1]) (h1 : ARes P env G v1 r1) (a : Act) (w : World) (hs : St c env G a w) : ∃ v, Rep G w r1 v ∧ (results fn a.tmps).run P w = .ok v w := by
  obtain ⟨u1, g1, k1⟩ := h1.run hs
  refine ⟨u1, g1, ?_⟩
  simp [results_resOf, hr, k1]
theorem reps_tup {w : World} {l : List AV} {vs : List Value} (h : Reps G w l vs) : Rep G w (.tup l) (.tuple vs.toArray) := .tup l vs h.1 h.2
theorem res2 {fn : Func} {v1 v2 : ResultVar} {r1 r2 : AV} (hr : fn.results = #[v1, v2]) (h1 : ARes P env G v1 r1) (h2 : ARes P env G v2 r2) (a : Act) (w : World) (hs : St c env G a w) : ∃ v, Rep G w (.tup [r1, r2]) v ∧ (results fn a.tmps).run P w = .ok v w := by
  obtain ⟨u1, g1, k1⟩ := h1.run hs
  obtain ⟨u2, g2, k2⟩ := h2.run hs
  refine ⟨.tuple #[u1, u2], reps_tup (.cons g1 (.cons g2 (.nil _ _))), ?_⟩
  simp [results_resOf, hr, k1, k2]
theorem res3 {fn : Func} {v1 v2 v3 : ResultVar} {r1 r2 r3 : AV} (hr : fn.results = #[v1, v2, v3]) (h1 : ARes P env G v1 r1) (h2 : ARes P env G v2 r2) (h3 : ARes P env G v3 r3) (a : Act) (w : World) (hs : St c env G a w) : ∃ v, Rep G w (.tup [r1, r2, r3]) v ∧ (results fn a.tmps).run P w = .ok v w := by
  obtain ⟨u1, g1, k1⟩ := h1.run hs
  obtain ⟨u2, g2, k2⟩ := h2.run hs
  obtain ⟨u3, g3, k3⟩ := h3.run hs
  refine ⟨.tuple #[u1, u2, u3], reps_tup (.cons g1 (.cons g2 (.cons g3 (.nil _ _)))), ?_⟩
  simp [results_resOf, hr, k1, k2, k3]
end
end Go.Proofs.Ytgedefcjngofkaa.AM

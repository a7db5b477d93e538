/- The abstract machine, part 11: rows of the call's own beside its own variables. -/
import Derived.Test.YtgedefcjngofkaaAm10
set_option linter.unusedVariables false
set_option linter.unusedSimpArgs false
namespace Go.Proofs.Ytgedefcjngofkaa.AM
open Go

section
variable {md : Bool} {P : Program} {c : Ctx} {env B : Env} {L : LPtr} {G : AHeap} {dst : Option Tmp} {ty : TypeId} {pos : String} {af : Array Edge} {gd : Option (Nat × Bool)} {Q : Exit → Act → World → Prop} {K : Act → World → Prop}

theorem Good.sub {H : AHeap} {ρ : Nat → Nat} (h : Good c G B ρ) (hs : H.sub G) : Good c H B ρ := ⟨fun s v hv => ⟨sub_none hs (h.fresh s v hv).1, (h.fresh s v hv).2⟩, h.inj⟩
theorem boxes_mono {H : AHeap} {ρ : Nat → Nat} (h : Good c G B ρ) (hs : H.sub G) : (boxes ρ H B).sub (boxes ρ G B) := fun b x hb => by
  rcases boxes_cases (h.sub hs) b with ⟨s, v, h1, h2, h3⟩ | ⟨h1, h2⟩
  · rw [h3] at hb; injection hb with hb; subst hb
    rw [h2]; exact boxes_get h h1
  · rw [h2] at hb; rw [boxes_other h1]; exact hs b x hb
/-- A fresh row beside the variables. -/
theorem goal_set {H : AHeap} {ρ : Nat → Nat} {r : Nat} {x : ARow} (hg : Good c H B ρ) (hr : (boxes ρ H B) r = none) (h : GoalL c env L B (H.set r x) K) : Goal c (full ρ env L) ((boxes ρ H B).set r x) K := by
  have hne : ∀ s v, B.get s = some v → r ≠ ρ s := fun s v hv e => by rw [e, boxes_get hg hv] at hr; cases hr
  obtain ⟨h1, h2⟩ := boxes_setG (x := x) hg hne
  rw [h2]; exact h ρ h1

theorem s_append {T E s b' by_ sz d : Nat} {z' : Option Value} {zv : Value} {de : TypeDesc} {x y : Operand} {av b : AV} {l m : List AV} {H : AHeap} (hT : TyI P T (.slice E) s z' b') (hE : TyI P E de sz (some zv) by_) (hd : Nat.blt d c.nt = true)
    (hx : ev env L x = some av) (hown : Own c.w0.heap.size sz H av l G) (hy : ev env L y = some b) (hm : b.view G = some m) (hme : Even sz m)
    (hcell : ∀ x ∈ m, x.cells.all AV.isCell = true) (hzs : zv.cells.size = sz) (hb1 : l.length + m.length ≤ 140737488355328) (hb2 : (l.length + m.length) * by_ ≤ 140737488355328)
    (h : ∀ av' G', Own c.w0.heap.size sz H av' (l ++ m) G' → GoalL c ((d, av') :: env) (ldel L d) B G' K) : StepL P c ⟨some d, .call ⟨.builtin .append, #[x, y], #[T, T]⟩, ty, pos, af, gd⟩ Q env L B G K := fun ρ hρ => by
  have hgH : Good c H B ρ := hρ.sub hown.sub
  refine step_append (H := boxes ρ H B) (l := l) hT hE hd (ev_full hx) (boxes_mono hρ hown.sub) ?_ (ev_full hy) (view_sub (boxes_sub hρ) hm) hme hcell hzs hb1 hb2 (fun he => ?_) (fun r hr hn => ?_)
  · rcases hown with ⟨h1, h2, _⟩ | ⟨r, h1, h2, h3, rfl⟩
    · exact .inl ⟨h1, h2⟩
    · refine .inr ⟨r, ?_, h2, h3, boxes_sub hρ _ _ (AHeap.get_set _ _ _)⟩
      rw [boxes_other (fun s v hv e => by have := (hρ.fresh s v hv).1; rw [← e, AHeap.get_set] at this; cases this)]
      exact h1
  · exact Goal.env full_put (h .nil0 H (by rw [he]; exact Own.nil ..) ρ hgH)
  · exact Goal.env full_put (goal_set hgH hr (h _ _ (.inr ⟨r, sub_none (boxes_sub hgH) hr, hn, rfl, rfl⟩)))

/-- From here on nobody writes the list. -/
theorem g_freeze {sz : Nat} {av : AV} {l : List AV} {H : AHeap} (t : Nat) (ht : ev env L (.tmp t) = some av) (hown : Own c.w0.heap.size sz H av l G) (h : GoalL c ((t, .imm l) :: env) (ldel L t) B H K) : GoalL c env L B G K := fun ρ hρ a w hs => by
  have hgH : Good c H B ρ := hρ.sub hown.sub
  have hsub := boxes_mono (ρ := ρ) hρ hown.sub
  have hr := hs.rep t av (by have := ev_full (ρ := ρ) ht; exact this)
  have hr' : Rep (boxes ρ H B) w (.imm l) (a.tmps.getD t undef) := by
    rcases hown with ⟨rfl, rfl, rfl⟩ | ⟨r, h1, h2, rfl, rfl⟩
    · exact ASub.nil0 _ _ _ hr
    · have hrow : (boxes ρ (H.set r (.row sz l)) B) r = some (.row sz l) := boxes_sub hρ _ _ (AHeap.get_set _ _ _)
      have hn : (boxes ρ H B) r = none := by
        rw [boxes_other (fun s v hv e => by have := (hρ.fresh s v hv).1; rw [← e, AHeap.get_set] at this; cases this)]
        exact h1
      have := rep_freeze hs.sim hrow (by simp) hr hsub hn
      simpa using this
  refine Goal.env full_put (h ρ hgH) a w ⟨(hs.forget hsub).sim, fun t' v hv => ?_, hs.size, hs.dfr, (hs.forget hsub).ext⟩
  simp only [Env.get] at hv
  cases hb : Nat.beq t t' with
  | true => rw [hb] at hv; injection hv with hv; rw [← hv, ← Nat.eq_of_beq_eq_true hb]; exact hr'
  | false => rw [hb] at hv; exact (hs.forget hsub).rep t' v hv

/-! ### Literals -/
theorem lit_run {T E : TypeId} {de : TypeDesc} {s b' sz by_ n : Nat} {z : Option Value} {zv : Value} {parts : Array (Nat × Operand)} {vs : List (Nat × AV)} {l : List AV} {env : Env} {G : AHeap}
    (hT : TyI P T (.slice E) s z b') (hE : TyI P E de sz (some zv) by_) (hvs : parts.toList.mapM (fun x => (aeval env x.2).map fun v => (x.1, v)) = some vs)
    (hf : afill (fun i => some (i * sz, sz)) (List.replicate (n * sz) .unk) vs = some (flat l)) (hn : l.length = n) (hsm : n * sz ≤ 16777216) (a : Act) (w : World) (hs : St c env G a w) :
    ∃ C T', Reps G w (flat l) C.toList ∧ (execOp a.eval ⟨dst, .buildSlice T n parts, ty, pos, af, gd⟩).run P w = .ok (.value (.slice (some ⟨w.heap.size, 0, none⟩) l.length l.length)) (w.alloc (.cells C T')) := by
  obtain ⟨h1, h2⟩ := eval_list hs _ _ hvs
  have hzr : ∀ C : Array Value, C.size = n * sz → Reps G w (List.replicate (n * sz) .unk) C.toList := fun C hC => ⟨by simp [hC], fun i hi1 hi2 => by simpa using Rep.unk _⟩
  have e : (parts.map fun x => (x.1, a.eval x.2)).toList = parts.toList.map fun x => (x.1, a.eval x.2) := by simp
  have hsm' : ¬ (n * sz > 2 ^ 24) := by simp; omega
  by_cases h0 : n * sz = 0
  · obtain ⟨vo, h3, h4⟩ := afill_rep (fun i => some (i * sz, sz)) vs _ _ (flat l) #[] h1 h2 (by have := hzr #[] (by simp [h0]); exact this) hf
    refine ⟨vo, E, h4, ?_⟩
    simp only [execOp, Instr.buildSlice, Sem.run_bind, hT.run_und, Result.andThen_ok, hE.run_size, if_neg hsm', h0, e]
    have e0 : ∀ f : Nat → Value, Array.map f (Array.range 0) = #[] := fun f => Array.eq_empty_of_size_eq_zero (by simp)
    simp [h0, e0, h3, newRow, hn]
  · obtain ⟨vo, h3, h4⟩ := afill_rep (fun i => some (i * sz, sz)) vs _ _ (flat l) ((Array.range (n * sz)).map (zv.cells[· % zv.cells.size]!)) h1 h2 (hzr _ (by simp)) hf
    refine ⟨vo, E, h4, ?_⟩
    simp only [execOp, Instr.buildSlice, Sem.run_bind, hT.run_und, Result.andThen_ok, hE.run_size, if_neg hsm', h0, e]
    simp [h0, hE.run_zero, h3, newRow, hn]
theorem s_lit {T E : TypeId} {de : TypeDesc} {s b' sz by_ n d : Nat} {z : Option Value} {zv : Value} {parts : Array (Nat × Operand)} {vs : List (Nat × AV)} {l : List AV}
    (hT : TyI P T (.slice E) s z b') (hE : TyI P E de sz (some zv) by_) (hd : Nat.blt d c.nt = true) (hvs : parts.toList.mapM (fun x => (ev env L x.2).map fun v => (x.1, v)) = some vs) (hl : vs.map (·.2) = l)
    (hf : afill (fun i => some (i * sz, sz)) (List.replicate (n * sz) .unk) vs = some (flat l)) (he : l.all (fun x => Nat.beq x.cells.length sz) = true) (hn : l.length = n) (hsm : Nat.ble (n * sz) 16777216 = true)
    (h : GoalL c ((d, .imm l) :: env) (ldel L d) B G K) : StepL P c ⟨some d, .buildSlice T n parts, ty, pos, af, gd⟩ Q env L B G K := fun ρ hρ =>
  (steps_newImm rfl hd (fun x hx => Nat.eq_of_beq_eq_true (List.all_eq_true.1 he x hx)) (lit_run hT hE (evp_full hvs) hf hn (Nat.le_of_ble_eq_true hsm)) (Goal.env full_put (h ρ hρ))).step
/-- An empty literal: a slice without room. -/
theorem s_lit0 {T E : TypeId} {de : TypeDesc} {s b' sz by_ d : Nat} {z : Option Value} {zv : Value} (hT : TyI P T (.slice E) s z b') (hE : TyI P E de sz (some zv) by_) (hd : Nat.blt d c.nt = true)
    (h : GoalL c ((d, .nil0) :: env) (ldel L d) B G K) : StepL P c ⟨some d, .buildSlice T 0 #[], ty, pos, af, gd⟩ Q env L B G K := fun ρ hρ a w hs => by
  obtain ⟨C, T', hr, hrun⟩ := lit_run (dst := some d) (ty := ty) (pos := pos) (af := af) (gd := gd) (vs := []) (l := []) (n := 0) (parts := #[]) hT hE rfl (by simp [afill, flat]) rfl (by omega) a w hs
  unfold Oper.wp
  rw [hrun, Oper.upon_value]
  exact Goal.env full_put (h ρ hρ) _ _ ((hs.move (sim_alloc' hs.sim _) (ext_alloc' _) (fun _ _ h => h.elim)).put hd (.nil0 _))
theorem sm_lit {ops : Array Oper} {nS : Nat → Bool} {i : Nat} {T E : TypeId} {de : TypeDesc} {s b' sz by_ n d : Nat} {z : Option Value} {zv : Value} {parts : Array (Nat × Operand)} {vs : List (Nat × AV)} {l : List AV}
    (hT : TyI P T (.slice E) s z b') (hE : TyI P E de sz (some zv) by_) (hd : Nat.blt d c.nt = true) (hvs : parts.toList.mapM (fun x => (ev env L x.2).map fun v => (x.1, v)) = some vs) (hl : vs.map (·.2) = l)
    (hf : afill (fun i => some (i * sz, sz)) (List.replicate (n * sz) .unk) vs = some (flat l)) (he : l.all (fun x => Nat.beq x.cells.length sz) = true) (hn : l.length = n) (hsm : Nat.ble (n * sz) 16777216 = true)
    (h : GoalL c ((d, .imm l) :: env) (ldel L d) B G K) : StepM P c ⟨some d, .buildSlice T n parts, ty, pos, af, gd⟩ ops Q nS i env L B G K := fun ρ hρ a w hs =>
  Oper.wp_mono (fun a' w' hk => ⟨fun _ => hk.1, hk.2⟩) (steps_newImm rfl hd (fun x hx => Nat.eq_of_beq_eq_true (List.all_eq_true.1 he x hx)) (lit_run hT hE (evp_full hvs) hf hn (Nat.le_of_ble_eq_true hsm)) (Goal.env full_put (h ρ hρ)) a w hs)
theorem sm_lit0 {ops : Array Oper} {nS : Nat → Bool} {i : Nat} {T E : TypeId} {de : TypeDesc} {s b' sz by_ d : Nat} {z : Option Value} {zv : Value} (hT : TyI P T (.slice E) s z b') (hE : TyI P E de sz (some zv) by_) (hd : Nat.blt d c.nt = true)
    (h : GoalL c ((d, .nil0) :: env) (ldel L d) B G K) : StepM P c ⟨some d, .buildSlice T 0 #[], ty, pos, af, gd⟩ ops Q nS i env L B G K := fun ρ hρ a w hs => by
  obtain ⟨C, T', hr, hrun⟩ := lit_run (dst := some d) (ty := ty) (pos := pos) (af := af) (gd := gd) (vs := []) (l := []) (n := 0) (parts := #[]) hT hE rfl (by simp [afill, flat]) rfl (by omega) a w hs
  unfold Oper.wp
  rw [hrun, Oper.upon_value]
  exact ⟨fun _ => same_alloc w _, Goal.env full_put (h ρ hρ) _ _ ((hs.move (sim_alloc' hs.sim _) (ext_alloc' _) (fun _ _ h => h.elim)).put hd (.nil0 _))⟩

/-- make: a row of the call's own. -/
theorem s_make {T E : TypeId} {de : TypeDesc} {s b' sz by_ d n : Nat} {z : Option Value} {zv : Value} {x : Operand} {k : IntKind} {m : Int} {za : AV} (hT : TyI P T (.slice E) s z b') (hE : TyI P E de sz (some zv) by_) (hd : Nat.blt d c.nt = true)
    (hx : ev env L x = some (.int k m)) (hm : m = (n : Int)) (hz : zAV zv = za) (hzs : za.cells.length = sz) (hzu : za.isUnk = false) (hb : n * by_ ≤ 140737488355328) (hn : n ≤ 140737488355328)
    (h : ∀ av' G', Own c.w0.heap.size sz G av' (List.replicate n za) G' → GoalL c ((d, av') :: env) (ldel L d) B G' K) : StepL P c ⟨some d, .makeSlice T x x, ty, pos, af, gd⟩ Q env L B G K := fun ρ hρ =>
  step_makeSlice hT hE hd (ev_full hx) hm hz hzs hzu hb hn fun r hr hn => Goal.env full_put (goal_set hρ hr (h _ _ (.inr ⟨r, sub_none (boxes_sub hρ) hr, hn, rfl, rfl⟩)))

/-! ### Stores into a listed row -/
theorem step_store_row {env : Env} {G : AHeap} {T : TypeId} {d : TypeDesc} {sz b' r szr o n k off : Nat} {z : Option Value} {x y : Operand} {av old new : AV} {l : List AV} (hT : TyI P T d sz z b') (hy : aeval env y = some (.elp (.own r szr o n) k off)) (hx : aeval env x = some av)
    (hG : G r = some (.row szr l)) (hk : l[o + k]? = some old) (hsz : av.cells.length = sz) (hc : av.cells.all AV.isCell = true) (hoff : off + sz ≤ old.cells.length) (hnew : new.cells = splice old.cells off av.cells)
    (hD : c.D r ∨ c.w0.heap.size ≤ r) (h : Goal c env (G.set r (.row szr (l.set (o + k) new))) K) : Step P c ⟨none, .store T y x, ty, pos, af, gd⟩ Q env G K := fun a w hs => by
  have hu : av.isUnk = false := by
    cases av <;> first | rfl | (simp [AV.cells, AV.isCell] at hc)
  have hr := (hs.eval hx).cells' hu
  obtain ⟨C, Tc, vs, rest, hh, hle, hC, hvs⟩ := row_block hs.sim hG
  have hlt : o + k < l.length := by
    rcases Nat.lt_or_ge (o + k) l.length with h' | h'
    · exact h'
    · rw [List.getElem?_eq_none h'] at hk; cases hk
  have hold : l[o + k] = old := by rw [List.getElem?_eq_getElem hlt] at hk; exact Option.some.inj hk
  have hos : old.cells.length = szr := by rw [← hold]; exact hle _ (List.getElem_mem hlt)
  have hp : a.eval y = .pointer (some ⟨r, (o + k) * szr + off, none⟩) := by
    have := hs.eval hy
    generalize a.eval y = u at this
    cases this; rfl
  have hvl : vs.length = l.length * szr := by rw [← hvs.1, flat_len hle]
  have hCs : C.size = vs.length + rest.length := by rw [← Array.length_toList, hC]; simp
  have hxl : (a.eval x).cells.toList.length = sz := by rw [← hr.1]; exact hsz
  have hbnd : (o + k + 1) * szr ≤ l.length * szr := Nat.mul_le_mul_right _ hlt
  rw [Nat.add_mul] at hbnd
  have hrun := store_at (dst := none) (ty := ty) (pos := pos) (af := af) (gd := gd) hT hp rfl rfl hxl (hr.oneCell hc) hh (by omega)
  unfold Oper.wp
  rw [hrun, Oper.upon_skip]
  have hne : G r ≠ none := by rw [hG]; simp
  have hsize : (C.toList.take ((o + k) * szr + off) ++ (a.eval x).cells.toList ++ C.toList.drop ((o + k) * szr + off + (a.eval x).cells.toList.length)).toArray.size = C.size := by simp at hxl ⊢; omega
  have he := ext_setRow (y := .row szr (l.set (o + k) new)) hh hsize hne
  have hnl : new.cells.length = szr := by rw [hnew]; simp [splice]; omega
  have hflat : flat (l.set (o + k) new) = (flat l).take ((o + k) * szr + off) ++ av.cells ++ (flat l).drop ((o + k) * szr + off + sz) := by
    have e1 : l = l.take (o + k) ++ old :: l.drop (o + k + 1) := by rw [← hold]; simp
    have e2 : l.set (o + k) new = l.take (o + k) ++ new :: l.drop (o + k + 1) := List.set_eq_take_append_cons_drop .. |>.trans (by rw [if_pos hlt])
    have hfl : flat l = flat (l.take (o + k)) ++ (old.cells ++ flat (l.drop (o + k + 1))) := by rw [← flat_cons, ← flat_append, ← e1]
    have ht : (flat (l.take (o + k))).length = (o + k) * szr := by rw [flat_len (hle.take _), List.length_take, Nat.min_eq_left (Nat.le_of_lt hlt)]
    rw [e2, flat_append, flat_cons, hnew, hfl]
    simp only [splice, List.append_assoc]
    rw [← ht, List.take_length_add_append, List.append_assoc, List.take_append_of_le_length (by omega), hsz]
    have hd : ∀ (a b c : List AV) (m : Nat), m ≤ b.length → (a ++ (b ++ c)).drop (a.length + m) = b.drop m ++ c := fun a b c m hm => by
      rw [List.drop_length_add_append, List.drop_append_of_le_length hm]
    rw [Nat.add_assoc (flat (l.take (o + k))).length off sz, hd _ _ _ _ (by omega)]
  refine h _ _ (hs.move (sim_setRow hs.sim hh hsize hne ?_) he (fun b hb hbr => ?_))
  · refine row_mk (vs := vs.take ((o + k) * szr + off) ++ (a.eval x).cells.toList ++ vs.drop ((o + k) * szr + off + sz)) (rest := rest) (setRow_heap w r C _ Tc _ hh) (hle.set _ hnl) ?_ ?_
    · simp only [hC, List.append_assoc, hxl]
      rw [List.take_append_of_le_length (by omega), List.drop_append_of_le_length (by omega)]
    · rw [hflat]
      exact (((hvs.take _).append hr).append (hvs.drop _)).mono he
  · subst hbr
    rcases hD with hD | hD
    · exact hD
    · omega

/-- A store into a row of the call's own. -/
theorem s_store_own {T : TypeId} {d : TypeDesc} {sz b' szr k off : Nat} {z : Option Value} {x y : Operand} {b av old new : AV} {l : List AV} {H : AHeap} (hT : TyI P T d sz z b') (hy : ev env L y = some (.elp b k off)) (hx : ev env L x = some av)
    (hown : Own c.w0.heap.size szr H b l G) (hk : l[k]? = some old) (hsz : av.cells.length = sz) (hc : av.cells.all AV.isCell = true) (hoff : Nat.ble (off + sz) old.cells.length = true) (hnew : new.cells = splice old.cells off av.cells)
    (h : ∀ G', Own c.w0.heap.size szr H b (l.set k new) G' → GoalL c env L B G' K) : StepL P c ⟨none, .store T y x, ty, pos, af, gd⟩ Q env L B G K := fun ρ hρ => by
  rcases hown with ⟨rfl, rfl, rfl⟩ | ⟨r, h1, h2, rfl, rfl⟩
  · simp at hk
  · refine step_store_row (o := 0) hT (ev_full hy) (ev_full hx) (boxes_sub hρ _ _ (AHeap.get_set _ _ _)) (by rw [Nat.zero_add]; exact hk) hsz hc (Nat.le_of_ble_eq_true hoff) hnew (.inr h2) ?_
    rw [Nat.zero_add]
    have hne : ∀ s v, B.get s = some v → r ≠ ρ s := fun s v hv e => by have := (hρ.fresh s v hv).1; rw [← e, AHeap.get_set] at this; cases this
    obtain ⟨h3, h4⟩ := boxes_setG (x := .row szr (l.set k new)) hρ hne
    rw [h4]
    rw [AHeap.set_set] at h3 ⊢
    exact h _ (.inr ⟨r, h1, h2, by simp, rfl⟩) ρ h3
/-- A store into a row that came in. -/
theorem s_store_row {T : TypeId} {d : TypeDesc} {sz b' r szr o n k off : Nat} {z : Option Value} {x y : Operand} {av old new : AV} {l : List AV} (hT : TyI P T d sz z b') (hy : ev env L y = some (.elp (.own r szr o n) k off)) (hx : ev env L x = some av)
    (hG : G r = some (.row szr l)) (hk : l[o + k]? = some old) (hsz : av.cells.length = sz) (hc : av.cells.all AV.isCell = true) (hoff : Nat.ble (off + sz) old.cells.length = true) (hnew : new.cells = splice old.cells off av.cells)
    (hD : c.D r ∨ c.w0.heap.size ≤ r) (h : GoalL c env L B (G.set r (.row szr (l.set (o + k) new))) K) : StepL P c ⟨none, .store T y x, ty, pos, af, gd⟩ Q env L B G K := fun ρ hρ => by
  have hne : ∀ s v, B.get s = some v → r ≠ ρ s := fun s v hv e => by have := (hρ.fresh s v hv).1; rw [← e, hG] at this; cases this
  obtain ⟨h3, h4⟩ := boxes_setG (x := .row szr (l.set (o + k) new)) hρ hne
  refine step_store_row hT (ev_full hy) (ev_full hx) (boxes_sub hρ _ _ hG) hk hsz hc (Nat.le_of_ble_eq_true hoff) hnew hD ?_
  rw [h4]; exact h ρ h3

/-! ### Results that are rows of the callee's own -/
/-- A result that the callee made: nil, or a new row. -/
def OwnR (n sz : Nat) (r : AV) (l : List AV) (effs : List (Nat × ARow)) : Prop := (r = .nil0 ∧ l = [] ∧ effs = []) ∨ ∃ p, n ≤ p ∧ r = .own p sz 0 l.length ∧ effs = [(p, .row sz l)]
theorem OwnR.own {n n0 sz : Nat} {r : AV} {l : List AV} {effs : List (Nat × ARow)} (h : OwnR n sz r l effs) (hn : n0 ≤ n) (hdom : ∀ b, n ≤ b → G b = none) : Own n0 sz G r l (setAll G effs) := by
  rcases h with ⟨rfl, rfl, rfl⟩ | ⟨p, h1, rfl, rfl⟩
  · exact Own.nil ..
  · exact .inr ⟨p, hdom p h1, Nat.le_trans hn h1, rfl, rfl⟩
/-- What the end of such a function must show. -/
theorem Own.effs {n0 sz : Nat} {H : AHeap} {av : AV} {l : List AV} (h : Own n0 sz H av l G) : ∃ effs, OwnR n0 sz av l effs ∧ (∀ p ∈ effs, n0 ≤ p.1) ∧ setAll H effs = G := by
  rcases h with ⟨rfl, rfl, rfl⟩ | ⟨r, h1, h2, rfl, rfl⟩
  · exact ⟨[], .inl ⟨rfl, rfl, rfl⟩, (fun p hp => by cases hp), rfl⟩
  · exact ⟨[(r, .row sz l)], .inr ⟨r, h2, rfl, rfl⟩, fun p hp => by have : p = (r, .row sz l) := by simpa using hp
                                                                    subst this; exact h2, rfl⟩
/-- Such a result, if nobody writes it any more. -/
theorem LCalls.freeze {f : FuncId} {args : List AV} {sz : Nat} {l : List AV} (h : LCalls P f args G noD fun n r effs => OwnR n sz r l effs) : PCalls P f args G (fun r => r = .imm l) := fun H hH =>
  (h H hH).less fun n r G' w' v hdom ⟨effs, h1, h2, h3⟩ hs hr => by
    refine ⟨.imm l, H, ⟨[], ⟨rfl, rfl⟩, (fun p hp => by cases hp), rfl⟩, ?_, ?_⟩
    · rcases h1 with ⟨_, _, rfl⟩ | ⟨p, hp, _, rfl⟩
      · rw [h3]; exact AHeap.sub_refl _
      · rw [h3]; exact AHeap.sub_set (AHeap.sub_refl _) (hdom p hp)
    · rcases h1 with ⟨rfl, rfl, rfl⟩ | ⟨p, hp, rfl, rfl⟩
      · subst h3; exact ASub.nil0 _ _ _ hr
      · subst h3
        have := rep_freeze (H := H) hs (AHeap.get_set _ _ _) (by simp) hr (AHeap.sub_set (AHeap.sub_refl _) (hdom p hp)) (hdom p hp)
        simpa using this
end
end Go.Proofs.Ytgedefcjngofkaa.AM

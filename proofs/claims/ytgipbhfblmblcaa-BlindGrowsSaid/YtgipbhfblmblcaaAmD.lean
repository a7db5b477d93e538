/- The abstract machine, part 29: slices told with their greatest length; rows told with less. -/
import Derived.Test.YtgipbhfblmblcaaAmB
set_option linter.unusedVariables false
set_option linter.unusedSimpArgs false
namespace Go.Proofs.Ytgipbhfblmblcaa.AM
open Go
section
variable {md : Bool} {P : Program} {c : Ctx} {env : Env} {G : AHeap} {dst : Option Tmp} {ty : TypeId} {pos : String} {af : Array Edge} {gd : Option (Nat × Bool)}
theorem val_slice_max {T E : TypeId} {d : TypeDesc} {sz by_ s b' lo hi mx r o n : Nat} {z z' : Option Value} {x xl xh xm : Operand} {kl kh km : IntKind} {zl zh zm : Int} (hT : TyI P T (.slice E) s z' b') (hE : TyI P E d sz z by_)
    (hx : aeval env x = some (.own r sz o n)) (hlo : aeval env xl = some (.int kl zl)) (hhi : aeval env xh = some (.int kh zh)) (hmx : aeval env xm = some (.int km zm)) (e1 : zl = (lo : Int)) (e2 : zh = (hi : Int)) (e3 : zm = (mx : Int)) (h1 : lo ≤ hi) (h2 : hi ≤ mx) (h3 : mx ≤ n) :
    ValM md P c ⟨dst, .slice T x (some xl) (some xh) (some xm), ty, pos, af, gd⟩ env G .unk := fun a w hs => by
  subst e1; subst e2; subst e3
  have hr := hs.eval hx
  generalize hu : a.eval x = u at hr
  have hb : ∀ (x : Operand) (n y : Nat) (code : BoundsCode) (k : IntKind), aeval env x = some (.int k (n : Int)) → n ≤ y → ∀ w', (Instr.sliceBound (a.eval x) y code).run P w' = .ok n w' := by
    intro x n y code k hx hn w'
    rw [rep_int (hs.eval hx)]
    have h0 : (0 : Int) ≤ (n : Int) ∧ (n : Int) ≤ (y : Int) := by omega
    simp only [Instr.sliceBound, asIntOf, Sem.run_bind, Sem.run_pure, Result.andThen_ok, if_pos h0, Int.toNat_natCast]
  cases hr with
  | own _ _ _ _ cp hcp hsh =>
    have hbb : ∀ w', (Instr.sliceBounds true n cp (some (a.eval xl)) (some (a.eval xh)) (some (a.eval xm))).run P w' = .ok (lo, hi, mx) w' := fun w' => by
      unfold Instr.sliceBounds
      simp only [Sem.run_bind, Sem.run_pure, Result.andThen_ok, Option.isSome_some, if_true, hb xm mx cp _ _ hmx (by omega), hb xh hi mx _ _ hhi h2, hb xl lo hi _ _ hlo h1]
    refine ⟨_, .unk _, fun w' _ => by
      simp only [execOp, hu, Instr.sliceAt, Sem.run_bind, hT.run_und, Result.andThen_ok, Instr.slice, Option.map_some, hbb w', hE.run_size, Sem.run_pure]; rfl⟩
end
/-- Less is told of some rows. -/
def AHeap.le (G' G : AHeap) : Prop := ∀ b x, G' b = some x → G b = some x ∨ ∃ sz l n, x = .row sz (l.take n) ∧ G b = some (.row sz l)
theorem AHeap.le_none {G' G : AHeap} (h : G'.le G) {b : Nat} (hb : G b = none) : G' b = none := by
  cases hx : G' b with
  | none => rfl
  | some x => rcases h b x hx with h1 | ⟨_, _, _, _, h1⟩ <;> rw [hb] at h1 <;> cases h1
theorem AHeap.le_of_sub {G' G : AHeap} (h : G'.sub G) : G'.le G := fun b x hb => .inl (h b x hb)
theorem AHeap.le_cut {G : AHeap} {r sz : Nat} {l : List AV} (n : Nat) (h : G r = some (.row sz l)) : (G.set r (.row sz (l.take n))).le G := fun b x hb => by
  by_cases e : b = r
  · subst e; rw [AHeap.get_set] at hb; exact .inr ⟨sz, l, n, (Option.some.inj hb).symm, h⟩
  · rw [AHeap.get_set_ne _ _ e] at hb; exact .inl hb
theorem Ext.forget' {G G' : AHeap} (w : World) (h : G'.le G) : Ext G w (fun _ => False) G' w :=
  ⟨rfl, rfl, rfl, Nat.le_refl _, fun _ _ _ => rfl, fun _ _ => rfl, fun b _ hg => AHeap.le_none h hg, fun _ h => h.elim⟩
theorem Sim.le {G G' : AHeap} {w : World} (hs : Sim G w) (h : G'.le G) : Sim G' w := fun b x hx => by
  rcases h b x hx with h1 | ⟨sz, l, n, rfl, h1⟩
  · exact (hs b x h1).mono (Ext.forget' w h) rfl
  · obtain ⟨C, T, g1, g2, g3, g4⟩ := (hs b _ h1).mono (Ext.forget' w h) rfl
    refine ⟨C, T, g1, Nat.le_trans (Nat.mul_le_mul_right _ (by rw [List.length_take]; omega)) g2, fun i hi => ?_, fun i hi j hj => ?_⟩
    · have hi' : i < l.length := by rw [List.length_take] at hi; omega
      rw [List.getElem_take]; exact g3 i hi'
    · have hi' : i < l.length := by rw [List.length_take] at hi; omega
      simp only [List.getElem_take] at hj ⊢
      exact g4 i hi' j hj
section
variable {P : Program} {c : Ctx} {env B : Env} {L : LPtr} {G : AHeap} {K : Act → World → Prop} {md : Bool} {dst : Option Tmp} {ty : TypeId} {pos : String} {af : Array Edge} {gd : Option (Nat × Bool)}
theorem g_le {G' : AHeap} (hs : G'.le G) (h : GoalL c env L B G' K) : GoalL c env L B G K := fun ρ hρ a w hst => by
  have hg : Good c G' B ρ := ⟨fun s v hv => ⟨AHeap.le_none hs (hρ.fresh s v hv).1, (hρ.fresh s v hv).2⟩, hρ.inj⟩
  have hle : (boxes ρ G' B).le (boxes ρ G B) := fun b x hb => by
    rcases boxes_cases hg b with ⟨s, v, h1, h2, h3⟩ | ⟨h1, h2⟩
    · rw [h3] at hb; injection hb with hb; subst hb
      rw [h2]; exact .inl (boxes_get hρ h1)
    · rw [h2] at hb
      rw [boxes_other h1]; exact hs b x hb
  exact h ρ hg a w (hst.move (hst.sim.le hle) (Ext.forget' w hle) (fun _ _ h => h.elim))
/-- Only the first elements of a row are kept in sight. -/
theorem g_cutrow {r sz : Nat} {l m : List AV} (n : Nat) (hG : G r = some (.row sz l)) (hm : l.take n = m) (h : GoalL c env L B (G.set r (.row sz m)) K) : GoalL c env L B G K := by
  subst hm; exact g_le (AHeap.le_cut n hG) h
/-- Rows whose nil slices are told as empty ones. -/
def AV.wkA : AV → AV
  | .agg cs => .agg (cs.map AV.wk1)
  | v => v
theorem wkA_len (x : AV) : x.wkA.cells.length = x.cells.length := by cases x <;> simp [AV.wkA, AV.cells]
theorem wk_cell {w : World} {v : Value} {j : Nat} (x : AV) (hj : j < x.wkA.cells.length) (hj' : j < x.cells.length) (h : Rep G w x.cells[j] v) : Rep G w x.wkA.cells[j] v := by
  cases x with
  | agg cs =>
    have : (AV.wkA (.agg cs)).cells[j] = (cs[j]'(by simpa [AV.cells] using hj')).wk1 := by simp [AV.wkA, AV.cells]; rfl
    rw [this]
    exact ASub.wk1 _ _ _ _ h
  | _ => exact h
theorem g_wkrow {r sz : Nat} {l m : List AV} (hG : G r = some (.row sz l)) (hm : l.map AV.wkA = m) (h : GoalL c env L B (G.set r (.row sz m)) K) : GoalL c env L B G K := fun ρ hρ a w hs => by
  subst hm
  obtain ⟨h3, h4⟩ := boxes_setR (x := .row sz (l.map AV.wkA)) hρ hG
  have hGb := boxes_sub hρ _ _ hG
  refine h ρ h3 a w ?_
  rw [← h4]
  have hrow : RowRep (boxes ρ G B) w r (.row sz (l.map AV.wkA)) := by
    obtain ⟨C, T, g1, g2, g3, g5⟩ := hs.sim _ _ hGb
    refine ⟨C, T, g1, by rw [List.length_map]; exact g2, fun i hi => ?_, fun i hi j hj => ?_⟩
    · rw [List.length_map] at hi; rw [List.getElem_map, wkA_len]; exact g3 i hi
    · rw [List.length_map] at hi
      simp only [List.getElem_map] at hj ⊢
      have hj' : j < l[i].cells.length := by rw [← wkA_len]; exact hj
      obtain ⟨v, e1, e2⟩ := g5 i hi j hj'
      refine ⟨v, e1, ?_⟩
      exact wk_cell (l[i]) (by simpa using hj) hj' e2
  have h9 := hs.move (sim_know hs.sim hGb hrow) (ext_know hGb) (fun _ _ h => h.elim)
  exact h9
theorem v_slice_max {T E : TypeId} {d : TypeDesc} {sz by_ s b' lo hi mx r o n : Nat} {z z' : Option Value} {x xl xh xm : Operand} {kl kh km : IntKind} {zl zh zm : Int} (hT : TyI P T (.slice E) s z' b') (hE : TyI P E d sz z by_)
    (hx : ev env L x = some (.own r sz o n)) (hlo : ev env L xl = some (.int kl zl)) (hhi : ev env L xh = some (.int kh zh)) (hmx : ev env L xm = some (.int km zm)) (e1 : zl = (lo : Int)) (e2 : zh = (hi : Int)) (e3 : zm = (mx : Int)) (h1 : lo ≤ hi) (h2 : hi ≤ mx) (h3 : mx ≤ n) :
    ValLM md P c ⟨dst, .slice T x (some xl) (some xh) (some xm), ty, pos, af, gd⟩ env L B G .unk := fun ρ hρ => val_slice_max hT hE (ev_full hx) (ev_full hlo) (ev_full hhi) (ev_full hmx) e1 e2 e3 h1 h2 h3
end
end Go.Proofs.Ytgipbhfblmblcaa.AM
namespace Go.Proofs.Ytgipbhfblmblcaa.AM
open Go
section
variable {P : Program} {c : Ctx} {env B : Env} {L : LPtr} {G : AHeap} {K : Act → World → Prop} {dst : Option Tmp} {ty : TypeId} {pos : String} {af : Array Edge} {gd : Option (Nat × Bool)} {Q : Exit → Act → World → Prop}
/-- append looks at its second type only to see that it is no number. -/
theorem append_ty {T T2 E E2 s b' s2 b2 : Nat} {z z2 : Option Value} (hT : TyI P T (.slice E) s z b') (hT2 : TyI P T2 (.slice E2) s2 z2 b2) (w : World) (v u : Value) :
    (Builtin.append_ #[T, T2] ty #[v, u]).run P w = (Builtin.append_ #[T, T] ty #[v, u]).run P w := by
  have g1 : #[T, T2][0]? = some T := rfl
  have g2 : #[T, T2][1]? = some T2 := rfl
  have g3 : #[T, T][0]? = some T := rfl
  have g4 : #[T, T][1]? = some T := rfl
  have g5 : #[v, u][0]? = some v := rfl
  have g6 : #[v, u][1]? = some u := rfl
  unfold Builtin.append_
  simp only [g1, g2, g3, g4, g5, g6]
  cases v with
  | slice A n cp =>
    simp only [Sem.run_bind, hT.run_und, hT2.run_und, Result.andThen_ok]
  | _ => simp only [Sem.run_bind, hT.run_und, Result.andThen_ok]
theorem step_ty {o1 o2 : Oper} (hd : o1.dst = o2.dst) (he : ∀ (a : Act) (w : World), (execOp a.eval o1).run P w = (execOp a.eval o2).run P w) (h : StepL P c o2 Q env L B G K) : StepL P c o1 Q env L B G K := fun ρ hρ a w hs => by
  have h1 := h ρ hρ a w hs
  have e : ∀ (a : Act) (next : Act → World → Prop) (Q : Exit → Act → World → Prop) (r : Result Next), o1.upon P a next Q r = o2.upon P a next Q r := fun a next Q r => by
    unfold Oper.upon
    rw [hd]
  unfold Oper.wp at h1 ⊢
  rw [he, e]
  exact h1
theorem s_appendT {T T2 E E2 s b' s2 b2 d : Nat} {z z2 : Option Value} {x y : Operand} (hT : TyI P T (.slice E) s z b') (hT2 : TyI P T2 (.slice E2) s2 z2 b2)
    (h : StepL P c ⟨some d, .call ⟨.builtin .append, #[x, y], #[T, T]⟩, ty, pos, af, gd⟩ Q env L B G K) : StepL P c ⟨some d, .call ⟨.builtin .append, #[x, y], #[T, T2]⟩, ty, pos, af, gd⟩ Q env L B G K :=
  step_ty (o2 := ⟨some d, .call ⟨.builtin .append, #[x, y], #[T, T]⟩, ty, pos, af, gd⟩) rfl (fun a w => by simp [execOp, resolve, invoke, builtin, append_ty hT hT2]) h
end
end Go.Proofs.Ytgipbhfblmblcaa.AM
namespace Go.Proofs.Ytgipbhfblmblcaa.AM
open Go
section
variable {P : Program} {c : Ctx} {env B : Env} {L : LPtr} {G : AHeap} {K : Act → World → Prop} {dst : Option Tmp} {ty : TypeId} {pos : String} {af : Array Edge} {gd : Option (Nat × Bool)} {Q : Exit → Act → World → Prop}
theorem view_nil {w : World} {va : AV} {n cp : Nat} {l : List AV} (h : Rep G w va (.slice none n cp)) (hv : va.view G = some l) : l = [] := by
  cases h with
  | nil0 A => simp only [AV.view, Option.some.injEq] at hv; exact hv.symm
  | imm0 A c => simp only [AV.view, Option.some.injEq] at hv; exact hv.symm
  | _ => simp [AV.view] at hv
theorem equalIn_slice_nil {T E s b' : Nat} {z : Option Value} (hT : TyI P T (.slice E) s z b') (d : Nat) (A : Option Addr) (n cp : Nat) (w : World) : (Op.equalIn (d + 1) T (.slice A n cp) (.slice none 0 0)).run P w = .ok A.isNone w := by
  cases A <;> simp [Op.equalIn, hT.run_und]
/-- Is a slice nil? Only one without elements may be. -/
theorem s_slnil {T E s b' d : Nat} {z : Option Value} {x : Operand} {va : AV} {l : List AV} {T' : TypeId} (hT : TyI P T (.slice E) s z b') (hd : Nat.blt d c.nt = true) (hx : ev env L x = some va) (hv : va.view G = some l)
    (h : ∀ b : Bool, (b = true → l = []) → GoalL c ((d, .bool b) :: env) (ldel L d) B G K) : StepL P c ⟨some d, .binOp .eql T x (.const (.slice none 0 0)) T', ty, pos, af, gd⟩ Q env L B G K := fun ρ hρ a w hs => by
  have hrep := hs.eval (ev_full (ρ := ρ) hx)
  have hv' := view_sub (boxes_sub hρ) hv
  obtain ⟨A, cp, hu⟩ := view_len hs.sim hrep hv'
  rw [hu] at hrep
  have hex : (execOp a.eval ⟨some d, .binOp .eql T x (.const (.slice none 0 0)) T', ty, pos, af, gd⟩).run P w = .ok (.value (.bool A.isNone)) w := by
    have hy : a.eval (.const (.slice none 0 0)) = .slice none 0 0 := rfl
    have hg : (eqGuard .eql T x (.const (.slice none 0 0)) (.slice A l.length cp) (.slice none 0 0)).run P w = .ok () w := by
      unfold eqGuard; rfl
    simp only [execOp, hu, hy, Sem.run_bind, hg, Result.andThen_ok]
    have e : binOp .eql T (.slice A l.length cp) (.slice none 0 0) = (do pure (.bool (← Op.equal T (.slice A l.length cp) (.slice none 0 0)))) := rfl
    rw [e]
    have e2 : (Op.equal T (.slice A l.length cp) (.slice none 0 0)).run P w = .ok A.isNone w := equalIn_slice_nil hT 9999 A _ _ w
    simp [e2]
  unfold Oper.wp
  rw [hex, Oper.upon_value]
  refine Goal.env full_put (h A.isNone (fun hn => ?_) ρ hρ) _ _ (hs.put hd (.bool _))
  cases A with
  | none => exact view_nil hrep hv'
  | some A => cases hn
end
end Go.Proofs.Ytgipbhfblmblcaa.AM

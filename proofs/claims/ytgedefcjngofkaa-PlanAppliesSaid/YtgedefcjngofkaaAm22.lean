/- The abstract machine, part 22: literals as rows of the call's own; a listed row that nobody writes any more. -/
import Derived.Test.YtgedefcjngofkaaAm21
set_option linter.unusedVariables false
set_option linter.unusedSimpArgs false
namespace Go.Proofs.Ytgedefcjngofkaa.AM
open Go
section
variable {md : Bool} {P : Program} {c : Ctx} {env B : Env} {L : LPtr} {G : AHeap} {dst : Option Tmp} {ty : TypeId} {pos : String} {af : Array Edge} {gd : Option (Nat × Bool)} {Q : Exit → Act → World → Prop} {K : Act → World → Prop}
theorem s_litO {T E : TypeId} {de : TypeDesc} {s b' sz by_ n d : Nat} {z : Option Value} {zv : Value} {parts : Array (Nat × Operand)} {vs : List (Nat × AV)} {l : List AV}
    (hT : TyI P T (.slice E) s z b') (hE : TyI P E de sz (some zv) by_) (hd : Nat.blt d c.nt = true) (hvs : parts.toList.mapM (fun x => (ev env L x.2).map fun v => (x.1, v)) = some vs) (hl : vs.map (·.2) = l)
    (hf : afill (fun i => some (i * sz, sz)) (List.replicate (n * sz) .unk) vs = some (flat l)) (he : l.all (fun x => Nat.beq x.cells.length sz) = true) (hn : l.length = n) (hsm : Nat.ble (n * sz) 16777216 = true)
    (h : ∀ r, G r = none → c.w0.heap.size ≤ r → GoalL c ((d, .own r sz 0 l.length) :: env) (ldel L d) B (G.set r (.row sz l)) K) : StepL P c ⟨some d, .buildSlice T n parts, ty, pos, af, gd⟩ Q env L B G K := fun ρ hρ =>
  step_newRow rfl hd (fun x hx => Nat.eq_of_beq_eq_true (List.all_eq_true.1 he x hx)) (lit_run hT hE (evp_full hvs) hf hn (Nat.le_of_ble_eq_true hsm)) fun r hr hn' =>
    Goal.env full_put (goal_set hρ hr (h r (sub_none (boxes_sub hρ) hr) hn'))
/-- From here on nobody writes this row. -/
theorem g_freezeG {r sz o n : Nat} {l m : List AV} {H : AHeap} (t : Nat) (ht : ev env L (.tmp t) = some (.own r sz o n)) (hG : G r = some (.row sz l)) (hsub : H.sub G) (hn : H r = none) (hl : o + n ≤ l.length) (hm : (l.drop o).take n = m)
    (h : GoalL c ((t, .imm m) :: env) (ldel L t) B H K) : GoalL c env L B G K := fun ρ hρ a w hs => by
  subst hm
  have hgH : Good c H B ρ := hρ.sub hsub
  have hs2 := boxes_mono (ρ := ρ) hρ hsub
  have hr := hs.rep t _ (by have := ev_full (ρ := ρ) ht; exact this)
  have hrow : (boxes ρ G B) r = some (.row sz l) := boxes_sub hρ _ _ hG
  have hne : ∀ s v, B.get s = some v → r ≠ ρ s := fun s v hv e => by have := (hρ.fresh s v hv).1; rw [← e, hG] at this; cases this
  have hn' : (boxes ρ H B) r = none := by rw [boxes_other hne]; exact hn
  have hr' : Rep (boxes ρ H B) w (.imm ((l.drop o).take n)) (a.tmps.getD t undef) := rep_freeze hs.sim hrow hl hr hs2 hn'
  refine Goal.env full_put (h ρ hgH) a w ⟨(hs.forget hs2).sim, fun t' v hv => ?_, hs.size, hs.dfr, (hs.forget hs2).ext⟩
  simp only [Env.get] at hv
  cases hb : Nat.beq t t' with
  | true => rw [hb] at hv; injection hv with hv; rw [← hv, ← Nat.eq_of_beq_eq_true hb]; exact hr'
  | false => rw [hb] at hv; exact (hs.forget hs2).rep t' v hv
theorem LCalls.weakD {f : FuncId} {args : List AV} {D D' : Nat → Prop} {R : Nat → AV → List (Nat × ARow) → Prop} (h : LCalls P f args G D R) (hD : ∀ b, D b → D' b) (hl : ∀ b, D' b → G b ≠ none) : LCalls P f args G D' R := fun H hH =>
  ⟨(h H hH).1, fun w vs hs hr => ((h H hH).2 w vs hs hr).mono fun e w' ⟨v, r, G', h1, h2, h3, h4, h5⟩ => ⟨v, r, G', h1, h2, h3, h4, h5.weaken hD (fun b hb hn => hl b hb (sub_none hH hn))⟩⟩
end
end Go.Proofs.Ytgedefcjngofkaa.AM
namespace Go.Proofs.Ytgedefcjngofkaa.AM
open Go
/-- Two rows of the call's own, told the other way about. -/
theorem own_swap {n0 s1 s2 : Nat} {H H1 G : AHeap} {a1 a2 : AV} {l1 l2 : List AV} (h1 : Own n0 s1 H1 a1 l1 G) (h2 : Own n0 s2 H a2 l2 H1) : ∃ X, Own n0 s2 X a2 l2 G ∧ Own n0 s1 H a1 l1 X := by
  rcases h1 with ⟨e1, e2, rfl⟩ | ⟨r1, g1, g2, g3, rfl⟩
  · exact ⟨H, h2, .inl ⟨e1, e2, rfl⟩⟩
  · rcases h2 with ⟨f1, f2, rfl⟩ | ⟨r2, k1, k2, k3, rfl⟩
    · exact ⟨_, .inl ⟨f1, f2, rfl⟩, .inr ⟨r1, g1, g2, g3, rfl⟩⟩
    · have hne : r1 ≠ r2 := fun e => by subst e; rw [AHeap.get_set] at g1; cases g1
      rw [AHeap.get_set_ne _ _ hne] at g1
      refine ⟨H.set r1 (.row s1 l1), .inr ⟨r2, by rw [AHeap.get_set_ne _ _ (Ne.symm hne)]; exact k1, k2, k3, ?_⟩, .inr ⟨r1, g1, g2, g3, rfl⟩⟩
      refine AHeap.ext fun b => ?_
      by_cases e1 : b = r1
      · subst e1; rw [AHeap.get_set, AHeap.get_set_ne _ _ hne, AHeap.get_set]
      · rw [AHeap.get_set_ne _ _ e1]
        by_cases e2 : b = r2
        · subst e2; rw [AHeap.get_set, AHeap.get_set]
        · rw [AHeap.get_set_ne _ _ e2, AHeap.get_set_ne _ _ e2, AHeap.get_set_ne _ _ e1]
theorem own_row {n0 sz : Nat} {H G : AHeap} {av : AV} {l : List AV} (h : Own n0 sz H av l G) : (av = .nil0 ∧ l = []) ∨ ∃ r, av = .own r sz 0 l.length ∧ G r = some (.row sz l) ∧ H r = none ∧ n0 ≤ r := by
  rcases h with ⟨e1, e2, rfl⟩ | ⟨r, g1, g2, g3, rfl⟩
  · exact .inl ⟨e1, e2⟩
  · exact .inr ⟨r, g3, AHeap.get_set _ _ _, g1, g2⟩
theorem sub_set_free {H G : AHeap} {p : Nat} (x : ARow) (h : H.sub G) (hn : H p = none) : H.sub (G.set p x) := fun b y hb => by
  have hne : b ≠ p := fun e => by subst e; rw [hn] at hb; cases hb
  rw [AHeap.get_set_ne _ _ hne]; exact h b y hb
end Go.Proofs.Ytgedefcjngofkaa.AM

/- The abstract machine, part 29: slices told with their greatest length; rows told with less. -/
import Derived.Test.YtgipbhfblmblcaaAmB
set_option linter.unusedVariables false
set_option linter.unusedSimpArgs false
namespace Go.Proofs.Ytgipbhfblmblcaa.AM
open Go
section
variable {md : Bool} {P : Program} {c : Ctx} {env : Env} {G : AHeap} {dst : Option Tmp} {ty : TypeId} {pos : String} {af : Array Edge} {gd : Option (Nat × Bool)}
end
/-- Less is told of some rows. -/
def AHeap.le (G' G : AHeap) : Prop := ∀ b x, G' b = some x → G b = some x ∨ ∃ sz l n, x = .row sz (l.take n) ∧ G b = some (.row sz l)
theorem AHeap.le_none {G' G : AHeap} (h : G'.le G) {b : Nat} (hb : G b = none) : G' b = none := by
  cases hx : G' b with
  | none => rfl
  | some x => rcases h b x hx with h1 | ⟨_, _, _, _, h1⟩ <;> rw [hb] at h1 <;> cases h1
theorem Ext.forget' {G G' : AHeap} (w : World) (h : G'.le G) : Ext G w (fun _ => False) G' w :=
  ⟨rfl, rfl, rfl, Nat.le_refl _, fun _ _ _ => rfl, fun _ _ => rfl, fun b _ hg => AHeap.le_none h hg, fun _ h => h.elim⟩
theorem Sim.le {G G' : AHeap} {w : World} (hs : Sim G w) (h : G'.le G) : Sim G' w := fun b x hx => by
  rcases h b x hx with h1 | ⟨sz, l, n, rfl, h1⟩
  · exact (hs b x h1).mono (Ext.forget' w h) rfl
  · obtain ⟨C, T, g1, g2, g3, g4⟩ := (hs b _ h1).mono (Ext.forget' w h) rfl
    refine ⟨C, T, g1, Nat.le_trans (Nat.mul_le_mul_right _ (by rw [List.length_take]; omega)) g2, fun i hi => ?_, fun i hi j hj => ?_⟩
    · have hi' : i < l.length := by rw [List.length_take] at hi; omega
      rw [List.getElem_take]; exact g3 i hi'
    · have hi' : i < l.length := by rw [List.length_take] at hi; omega
      simp only [List.getElem_take] at hj ⊢
      exact g4 i hi' j hj
section
variable {P : Program} {c : Ctx} {env B : Env} {L : LPtr} {G : AHeap} {K : Act → World → Prop} {md : Bool} {dst : Option Tmp} {ty : TypeId} {pos : String} {af : Array Edge} {gd : Option (Nat × Bool)}
/-- Rows whose nil slices are told as empty ones. -/
def AV.wkA : AV → AV
  | .agg cs => .agg (cs.map AV.wk1)
  | v => v
theorem wkA_len (x : AV) : x.wkA.cells.length = x.cells.length := by cases x <;> simp [AV.wkA, AV.cells]
theorem wk_cell {w : World} {v : Value} {j : Nat} (x : AV) (hj : j < x.wkA.cells.length) (hj' : j < x.cells.length) (h : Rep G w x.cells[j] v) : Rep G w x.wkA.cells[j] v := by
  cases x with
  | agg cs =>
    have : (AV.wkA (.agg cs)).cells[j] = (cs[j]'(by simpa [AV.cells] using hj')).wk1 := by simp [AV.wkA, AV.cells]; rfl
    rw [this]
    exact ASub.wk1 _ _ _ _ h
  | _ => exact h
theorem g_wkrow {r sz : Nat} {l m : List AV} (hG : G r = some (.row sz l)) (hm : l.map AV.wkA = m) (h : GoalL c env L B (G.set r (.row sz m)) K) : GoalL c env L B G K := fun ρ hρ a w hs => by
  subst hm
  obtain ⟨h3, h4⟩ := boxes_setR (x := .row sz (l.map AV.wkA)) hρ hG
  have hGb := boxes_sub hρ _ _ hG
  refine h ρ h3 a w ?_
  rw [← h4]
  have hrow : RowRep (boxes ρ G B) w r (.row sz (l.map AV.wkA)) := by
    obtain ⟨C, T, g1, g2, g3, g5⟩ := hs.sim _ _ hGb
    refine ⟨C, T, g1, by rw [List.length_map]; exact g2, fun i hi => ?_, fun i hi j hj => ?_⟩
    · rw [List.length_map] at hi; rw [List.getElem_map, wkA_len]; exact g3 i hi
    · rw [List.length_map] at hi
      simp only [List.getElem_map] at hj ⊢
      have hj' : j < l[i].cells.length := by rw [← wkA_len]; exact hj
      obtain ⟨v, e1, e2⟩ := g5 i hi j hj'
      refine ⟨v, e1, ?_⟩
      exact wk_cell (l[i]) (by simpa using hj) hj' e2
  have h9 := hs.move (sim_know hs.sim hGb hrow) (ext_know hGb) (fun _ _ h => h.elim)
  exact h9
end
end Go.Proofs.Ytgipbhfblmblcaa.AM
namespace Go.Proofs.Ytgipbhfblmblcaa.AM
open Go
section
variable {P : Program} {c : Ctx} {env B : Env} {L : LPtr} {G : AHeap} {K : Act → World → Prop} {dst : Option Tmp} {ty : TypeId} {pos : String} {af : Array Edge} {gd : Option (Nat × Bool)} {Q : Exit → Act → World → Prop}
end
end Go.Proofs.Ytgipbhfblmblcaa.AM
namespace Go.Proofs.Ytgipbhfblmblcaa.AM
open Go
section
variable {P : Program} {c : Ctx} {env B : Env} {L : LPtr} {G : AHeap} {K : Act → World → Prop} {dst : Option Tmp} {ty : TypeId} {pos : String} {af : Array Edge} {gd : Option (Nat × Bool)} {Q : Exit → Act → World → Prop}
end
end Go.Proofs.Ytgipbhfblmblcaa.AM

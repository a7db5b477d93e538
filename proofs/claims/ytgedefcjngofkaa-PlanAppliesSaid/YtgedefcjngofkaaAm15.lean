/- The abstract machine, part 15: a variable of the call's own becomes a block that everybody may point to. -/
import Derived.Test.YtgedefcjngofkaaAm14
set_option linter.unusedVariables false
set_option linter.unusedSimpArgs false
namespace Go.Proofs.Ytgedefcjngofkaa.AM
open Go

section
variable {c : Ctx} {env B : Env} {L : LPtr} {G : AHeap} {K : Act → World → Prop}
theorem edel_some {B : Env} {s t : Nat} {v : AV} (h : (edel B s).get t = some v) : s ≠ t ∧ B.get t = some v := by
  rw [edel_get] at h
  split at h
  · cases h
  · exact ⟨by assumption, h⟩
theorem boxes_expose {ρ : Nat → Nat} {s : Nat} {v : AV} (hρ : Good c G B ρ) (hb : B.get s = some v) : Good c (G.set (ρ s) (.box v)) (edel B s) ρ ∧ boxes ρ (G.set (ρ s) (.box v)) (edel B s) = boxes ρ G B := by
  have hg : Good c (G.set (ρ s) (.box v)) (edel B s) ρ := ⟨fun t u hu => by
    obtain ⟨h1, h2⟩ := edel_some hu
    have hne : ρ t ≠ ρ s := fun e => h1 (hρ.inj s t v u hb h2 e.symm)
    exact ⟨by rw [AHeap.get_set_ne _ _ hne]; exact (hρ.fresh t u h2).1, (hρ.fresh t u h2).2⟩, fun t t' u u' h h' e => hρ.inj t t' u u' (edel_some h).2 (edel_some h').2 e⟩
  refine ⟨hg, AHeap.ext fun b => ?_⟩
  rcases boxes_cases hg b with ⟨t, u, h1, h2, h3⟩ | ⟨h1, h2⟩
  · rw [h3, h2]; exact (boxes_get hρ (edel_some h1).2).symm
  · rw [h2]
    by_cases hbs : b = ρ s
    · subst hbs; rw [AHeap.get_set]; exact (boxes_get hρ hb).symm
    · rw [AHeap.get_set_ne _ _ hbs]
      refine (boxes_other fun t u hu e => ?_).symm
      have hne : s ≠ t := fun e' => by subst e'; exact hbs e
      exact h1 t u (by rw [edel_get, if_neg hne]; exact hu) e
theorem g_expose {s off : Nat} {v : AV} (t : Nat) (hl : lget L t = some (s, off)) (hb : B.get s = some v)
    (h : ∀ r, G r = none → c.w0.heap.size ≤ r → GoalL c ((t, .box r off) :: env) (ldel L t) (edel B s) (G.set r (.box v)) K) : GoalL c env L B G K := fun ρ hρ => by
  obtain ⟨h1, h2⟩ := boxes_expose hρ hb
  have h3 := h (ρ s) (hρ.fresh s v hb).1 (hρ.fresh s v hb).2 ρ h1
  rw [h2] at h3
  refine Goal.env (fun t' u hu => ?_) h3
  have h4 := full_put t' u hu
  simp only [Env.get] at h4
  cases hbt : Nat.beq t t' with
  | true =>
    rw [hbt] at h4
    have := Nat.eq_of_beq_eq_true hbt; subst this
    rw [full_get, hl]; exact h4
  | false => rw [hbt] at h4; exact h4
end
end Go.Proofs.Ytgedefcjngofkaa.AM

/- Plain: where a ring starts. -/
import Derived.Test.YtobigfbgaiglkaaPRing3
set_option linter.unusedVariables false
namespace Go.Proofs.Ytobigfbgaiglkaa
open Go.Proofs.Ytobigfbgaiglkaa.AM
theorem Sep.drop3 {n0 : Nat} {G : AHeap} {a b c : AHeap} (hS : Sep n0 G [a, b, c]) : Sep n0 G [a, b, noH] :=
  Sep.repl (l1 := [a, b]) (l2 := []) hS (fun b x hb => (by cases hb)) (fun b hb => absurd rfl hb) fun a ha => ⟨(hS.1 a (by rcases ha with ha | ha <;> simp at ha; rcases ha with rfl | rfl <;> simp)).1, fun x hx => absurd rfl hx⟩
theorem ring_start {n0 p q : Nat} {H : AHeap} (ds : List Int) (hp : n0 ≤ p) (hq : n0 ≤ q) (hpq : p ≠ q) (hH : ∀ b, n0 ≤ b → H b = none) :
    ∃ h1, Sep n0 ((H.set p (.box (.agg [.nil0, .nil0]))).set q (.box (.agg [encI ds]))) [h1, noH, noH] ∧ RIs h1 p q ⟨[], [], ds⟩ ∧ H.sub ((H.set p (.box (.agg [.nil0, .nil0]))).set q (.box (.agg [encI ds]))) := by
  have hs1 : (AHeap.set noH p (.box (.agg [.nil0, .nil0]))).sub (H.set p (.box (.agg [.nil0, .nil0]))) := sub_set_set (fun b x hb => (by cases hb)) _ _
  refine ⟨(AHeap.set noH p (.box (.agg [.nil0, .nil0]))).set q (.box (.agg [encI ds])), ?_, ⟨.nil0, .nil0, ?_⟩, ?_⟩
  · refine Sep.repl (l1 := []) (Sep.zero n0 H 3) (sub_set_set hs1 _ _) (fun b hb => ?_) fun a ha => ?_
    · by_cases e : b = q
      · rw [e]; exact hq
      · rw [AHeap.get_set_ne _ _ e] at hb
        by_cases e2 : b = p
        · rw [e2]; exact hp
        · rw [AHeap.get_set_ne _ _ e2] at hb; exact absurd rfl hb
    · rcases ha with ha | ha
      · cases ha
      · have : a = noH := List.eq_of_mem_replicate (n := 2) ha
        rw [this]; exact ⟨fun b x hb => (by cases hb), fun x _ => rfl⟩
  · exact ⟨by rw [AHeap.get_set_ne _ _ hpq]; exact AHeap.get_set _ _ _, AHeap.get_set _ _ _, .inl ⟨rfl, rfl⟩, .inl ⟨rfl, rfl⟩, fun x n n' h => (by cases h), hpq⟩
  · refine AHeap.sub_trans (AHeap.sub_set (AHeap.sub_refl _) (hH p hp)) (AHeap.sub_set (AHeap.sub_refl _) ?_)
    rw [AHeap.get_set_ne _ _ (Ne.symm hpq)]; exact hH q hq
theorem box_ne {H : AHeap} {p q n : Nat} {x : ARow} (hdom : ∀ b, n ≤ b → (setAll H [(p, x)]) b = none) (hq : n ≤ q) : p ≠ q := fun e => by
  have h := hdom _ hq
  rw [← e, show setAll H [(p, x)] p = some x from AHeap.get_set _ _ _] at h; cases h
theorem set_dom {G : AHeap} {n e : Nat} {x y : ARow} (hdom : ∀ b, n ≤ b → G b = none) (he : G e = some y) : ∀ b, n ≤ b → (G.set e x) b = none := fun b hb => by
  rw [AHeap.get_set_ne _ _ (fun e1 => by have := hdom b hb; rw [e1, he] at this; cases this)]; exact hdom b hb
end Go.Proofs.Ytobigfbgaiglkaa

/- Plain: what a callee leaves of a part of memory. -/
import Derived.Test.YtgipbhfblmblcaaPDice
import Derived.Test.YtgipbhfblmblcaaAmD
set_option linter.unusedVariables false
namespace Go.Proofs.Ytgipbhfblmblcaa
open Go.Proofs.Ytgipbhfblmblcaa.AM
theorem setAllMono {H G : AHeap} (h : H.sub G) : ∀ (e : List (Nat × ARow)), (setAll H e).sub (setAll G e)
  | [] => h
  | (b, x) :: e => sub_set_set (setAllMono h e) b x
theorem setAll_some {G : AHeap} : ∀ (e : List (Nat × ARow)) {b : Nat}, setAll G e b ≠ none → G b ≠ none ∨ ∃ q ∈ e, q.1 = b
  | [], b, h => .inl h
  | (c, x) :: e, b, h => by
    by_cases hb : b = c
    · exact .inr ⟨(c, x), by simp, hb.symm⟩
    · have h' : setAll G e b ≠ none := by
        have e1 : setAll G ((c, x) :: e) b = setAll G e b := AHeap.get_set_ne _ _ hb
        rw [e1] at h; exact h
      rcases setAll_some e h' with h1 | ⟨q, h1, h2⟩
      · exact .inl h1
      · exact .inr ⟨q, by simp [h1], h2⟩
theorem setAll_not {G : AHeap} : ∀ (e : List (Nat × ARow)) {b : Nat}, (∀ q ∈ e, q.1 ≠ b) → setAll G e b = G b
  | [], b, h => rfl
  | (c, x) :: e, b, h => by
    have e1 : setAll G ((c, x) :: e) b = setAll G e b := AHeap.get_set_ne _ _ (fun hb => h (c, x) (by simp) hb.symm)
    rw [e1]; exact setAll_not e fun q hq => h q (by simp [hq])
theorem sub_some {H G : AHeap} (h : H.sub G) {b : Nat} (hb : H b ≠ none) : G b ≠ none := by
  cases hx : H b with
  | none => exact absurd hx hb
  | some x => rw [h b x hx]; simp
/-- From the part h of memory to h': what a callee tells to have written. -/
structure EffTo (h h' : AHeap) (n : Nat) (e : List (Nat × ARow)) : Prop where
  dom : ∀ q ∈ e, h q.1 ≠ none ∨ n ≤ q.1
  sub : h'.sub (setAll h e)
theorem EffTo.refl (h : AHeap) (n : Nat) : EffTo h h n [] := ⟨fun _ h => (by cases h), AHeap.sub_refl _⟩
section
variable {h h' h1 h2 G : AHeap} {n m : Nat} {e e2 : List (Nat × ARow)}
theorem EffTo.some (he : EffTo h h' n e) {b : Nat} (hb : h' b ≠ none) : h b ≠ none ∨ n ≤ b := by
  rcases setAll_some e (sub_some he.sub hb) with h1 | ⟨q, h1, rfl⟩
  · exact .inl h1
  · exact he.dom q h1
theorem EffTo.write (he : EffTo h h' n e) {b : Nat} (x : ARow) (hb : h' b ≠ none ∨ n ≤ b) : EffTo h (h'.set b x) n ((b, x) :: e) :=
  ⟨fun q hq => by
    rcases List.mem_cons.1 hq with rfl | hq
    · exact hb.elim he.some .inr
    · exact he.dom q hq, sub_set_set he.sub b x⟩
theorem EffTo.less (he : EffTo h h' n e) (hs : h2.sub h') : EffTo h h2 n e := ⟨he.dom, AHeap.sub_trans hs he.sub⟩
theorem EffTo.trans (he : EffTo h h1 n e) (he2 : EffTo h1 h2 m e2) (hm : n ≤ m) : EffTo h h2 n (e2 ++ e) :=
  ⟨fun q hq => by
    rcases List.mem_append.1 hq with hq | hq
    · rcases he2.dom q hq with g | g
      · exact he.some g
      · exact .inr (Nat.le_trans hm g)
    · exact he.dom q hq, by rw [setAll_append]; exact AHeap.sub_trans he2.sub (setAllMono he.sub e2)⟩
theorem EffTo.weaken (he : EffTo h h' m e) (hm : n ≤ m) : EffTo h h' n e := ⟨fun q hq => (he.dom q hq).imp id (Nat.le_trans hm), he.sub⟩
theorem EffTo.within (he : EffTo h h' n e) (hs : h.sub G) : h'.sub (setAll G e) := AHeap.sub_trans he.sub (setAllMono hs e)
theorem EffTo.ok (he : EffTo h h' n e) (hs : h.sub G) : ∀ q ∈ e, G q.1 ≠ none ∨ n ≤ q.1 := fun q hq => (he.dom q hq).imp (sub_some hs) id
/-- What does not touch that part stays. -/
theorem EffTo.frame (he : EffTo h h' n e) (hdom : ∀ b, n ≤ b → G b = none) (hs : h2.sub G) (hd : ∀ b, h b ≠ none → h2 b = none) : h2.sub (setAll G e) := fun b x hb => by
  rw [setAll_not e, hs b x hb]
  intro q hq e1
  subst e1
  rcases he.dom q hq with g | g
  · rw [hd _ g] at hb; cases hb
  · have := hs _ _ hb; rw [hdom _ g] at this; cases this
theorem EffTo.apart (he : EffTo h h' n e) (hdom : ∀ b, n ≤ b → h2 b = none) (hd : ∀ b, h b ≠ none → h2 b = none) : ∀ b, h' b ≠ none → h2 b = none := fun b hb => (he.some hb).elim (hd b) (hdom b)
theorem EffTo.above {n0 : Nat} (he : EffTo h h' n e) (hn : n0 ≤ n) (ha : ∀ b, h b ≠ none → n0 ≤ b) : ∀ b, h' b ≠ none → n0 ≤ b := fun b hb => (he.some hb).elim (ha b) (Nat.le_trans hn)
end
theorem sub_dom {H G : AHeap} (h : H.sub G) {n : Nat} (hdom : ∀ b, n ≤ b → G b = none) : ∀ b, n ≤ b → H b = none := fun b hb => sub_none h (hdom b hb)
/-- One block alone. -/
def oneH (b : Nat) (x : ARow) : AHeap := fun c => if c = b then some x else none
theorem oneH_sub {G : AHeap} {b : Nat} {x : ARow} (h : G b = some x) : (oneH b x).sub G := fun c y hc => by
  unfold oneH at hc; split at hc
  · rename_i e; subst e; rw [h, ← hc]
  · cases hc
theorem oneH_none {b c : Nat} {x : ARow} (h : c ≠ b) : oneH b x c = none := by simp [oneH, h]
end Go.Proofs.Ytgipbhfblmblcaa

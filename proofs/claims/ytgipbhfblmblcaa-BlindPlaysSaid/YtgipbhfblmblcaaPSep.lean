/- Plain: parts of memory that lie apart. -/
import Derived.Test.YtgipbhfblmblcaaPEff
import Derived.Test.YtgipbhfblmblcaaAmB
set_option linter.unusedVariables false
namespace Go.Proofs.Ytgipbhfblmblcaa
open Go.Proofs.Ytgipbhfblmblcaa.AM
/-- Parts of memory that lie apart, all of a call's own. -/
def Sep (n0 : Nat) (G : AHeap) (hs : List AHeap) : Prop := (∀ h ∈ hs, h.sub G ∧ ∀ b, h b ≠ none → n0 ≤ b) ∧ hs.Pairwise (fun a b => ∀ x, a x ≠ none → b x = none)
def noH : AHeap := fun _ => none
theorem Sep.zero (n0 : Nat) (G : AHeap) (k : Nat) : Sep n0 G (List.replicate k noH) := by
  refine ⟨fun h hh => ?_, ?_⟩
  · rw [List.eq_of_mem_replicate hh]; exact ⟨fun b x hb => (by cases hb), fun b hb => absurd rfl hb⟩
  · rw [List.pairwise_replicate]; exact .inr fun x hx => rfl
theorem apart_symm {a b : AHeap} (h : ∀ x, a x ≠ none → b x = none) : ∀ x, b x ≠ none → a x = none := fun x hx => by
  cases ha : a x with
  | none => rfl
  | some y => exact absurd (h x (by rw [ha]; simp)) hx
section
variable {n0 n : Nat} {G : AHeap} {l1 l2 : List AHeap} {h h' : AHeap} {e : List (Nat × ARow)}
theorem Sep.repl {G' : AHeap} (hS : Sep n0 G (l1 ++ h :: l2)) (h1 : h'.sub G') (h2 : ∀ b, h' b ≠ none → n0 ≤ b) (h3 : ∀ a, a ∈ l1 ∨ a ∈ l2 → a.sub G' ∧ ∀ x, h' x ≠ none → a x = none) : Sep n0 G' (l1 ++ h' :: l2) := by
  obtain ⟨g1, g2⟩ := hS
  rw [List.pairwise_append, List.pairwise_cons] at g2
  obtain ⟨p1, ⟨p2, p3⟩, p4⟩ := g2
  refine ⟨fun a ha => ?_, ?_⟩
  · rcases List.mem_append.1 ha with ha | ha
    · exact ⟨(h3 a (.inl ha)).1, (g1 a (by simp [ha])).2⟩
    · rcases List.mem_cons.1 ha with rfl | ha
      · exact ⟨h1, h2⟩
      · exact ⟨(h3 a (.inr ha)).1, (g1 a (by simp [ha])).2⟩
  · rw [List.pairwise_append, List.pairwise_cons]
    refine ⟨p1, ⟨fun a ha => (h3 a (.inr ha)).2, p3⟩, fun a ha b hb => ?_⟩
    rcases List.mem_cons.1 hb with rfl | hb
    · exact apart_symm (h3 a (.inl ha)).2
    · exact p4 a ha b (by simp [hb])
theorem Sep.apart (hS : Sep n0 G (l1 ++ h :: l2)) {a : AHeap} (ha : a ∈ l1 ∨ a ∈ l2) : ∀ x, h x ≠ Option.none → a x = Option.none := by
  have g2 := hS.2
  rw [List.pairwise_append, List.pairwise_cons] at g2
  rcases ha with ha | ha
  · exact apart_symm (g2.2.2 a ha h (by simp))
  · exact g2.2.1.1 a ha
theorem Sep.turn (hS : Sep n0 G (l1 ++ h :: l2)) (he : EffTo h h' n e) (hn : n0 ≤ n) (hdom : ∀ b, n ≤ b → G b = Option.none) : Sep n0 (setAll G e) (l1 ++ h' :: l2) := by
  have hh := hS.1 h (by simp)
  refine hS.repl (he.within hh.1) (he.above hn hh.2) fun a ha => ?_
  have has : a.sub G := (hS.1 a (by rcases ha with ha | ha <;> simp [ha])).1
  exact ⟨he.frame hdom has (hS.apart ha), he.apart (sub_dom has hdom) (hS.apart ha)⟩
/-- A part that is given up for a new one. -/
theorem Sep.fresh (hS : Sep n0 G (l1 ++ h :: l2)) (he : EffTo noH h' n e) (hn : n0 ≤ n) (hdom : ∀ b, n ≤ b → G b = Option.none) : Sep n0 (setAll G e) (l1 ++ h' :: l2) := by
  have h0 : Sep n0 G (l1 ++ noH :: l2) := hS.repl (fun b x hb => (by cases hb)) (fun b hb => absurd rfl hb) fun a ha => ⟨(hS.1 a (by rcases ha with ha | ha <;> simp [ha])).1, fun x hx => absurd rfl hx⟩
  exact h0.turn he hn hdom
theorem Sep.put {r : Nat} {x : ARow} (hS : Sep n0 G (l1 ++ h :: l2)) (hr : (G r = Option.none ∧ n0 ≤ r) ∨ h r ≠ Option.none) : Sep n0 (G.set r x) (l1 ++ oneH r x :: l2) := by
  have hh := hS.1 h (by simp)
  refine hS.repl (oneH_sub (AHeap.get_set _ _ _)) (fun b hb => ?_) fun a ha => ?_
  · by_cases e : b = r
    · subst e; rcases hr with hr | hr
      · exact hr.2
      · exact hh.2 _ hr
    · exact absurd (oneH_none (x := x) e) hb
  · have has : a.sub G := (hS.1 a (by rcases ha with ha | ha <;> simp [ha])).1
    have har : a r = Option.none := by
      rcases hr with hr | hr
      · exact sub_none has hr.1
      · exact hS.apart ha r hr
    refine ⟨fun b y hb => ?_, fun b hb => ?_⟩
    · rw [AHeap.get_set_ne _ _ (fun e => by rw [e, har] at hb; cases hb)]; exact has b y hb
    · by_cases e : b = r
      · rw [e]; exact har
      · exact absurd (oneH_none (x := x) e) hb
theorem Sep.sv {sz : Nat} {av : AV} {l : List AV} (hS : Sep n0 G (l1 ++ h :: l2)) (hV : SV h sz av l) : (av = .nil0 ∧ l = []) ∨ ∃ r, av = .own r sz 0 l.length ∧ G r = Option.some (.row sz l) ∧ (False ∨ n0 ≤ r) := by
  have hh := hS.1 h (by simp)
  rcases hV with hV | ⟨r, h1, h2⟩
  · exact .inl hV
  · exact .inr ⟨r, h1, hh.1 _ _ h2, .inr (hh.2 r (by rw [h2]; simp))⟩
end
end Go.Proofs.Ytgipbhfblmblcaa

/- Plain: members without wires; how a world lies in memory. -/
import Derived.Test.YtgipbhfblmblcaaPMember2
import Derived.Test.YtgipbhfblmblcaaPEff
import Derived.Test.YtgipbhfblmblcaaPMap
set_option linter.unusedVariables false
namespace Go.Proofs.Ytgipbhfblmblcaa
open Go.Proofs.Ytgipbhfblmblcaa.AM
def updN {α : Type} (f : Nat → α) (i : Nat) (x : α) : Nat → α := fun j => if j = i then x else f j
theorem updN_at {α : Type} (f : Nat → α) (i : Nat) (x : α) : updN f i x i = x := by simp [updN]
theorem updN_ne {α : Type} (f : Nat → α) {i j : Nat} (x : α) (h : j ≠ i) : updN f i x j = f j := by simp [updN, h]
theorem updN_id {α : Type} (f : Nat → α) (i : Nat) : updN f i (f i) = f := funext fun j => by unfold updN; split <;> simp_all
def tptr : Option Nat → AV
  | none => .nilp
  | some p => .box p 0
def wdA (room : Int) (tr cr mr n : Nat) : AV := .agg [.int .i64 room, .own tr 1 0 n, .own cr 1 0 n, .map mr]
/-- A world's blocks: itself, the tables' places, the cells, the letters, and each table with its row. -/
structure WA (M : ARow) (h : AHeap) (w tr cr mr : Nat) (room : Int) (pt : List (Option Nat)) (rs : Nat → Nat) (ls : Nat → List Rc) (cells : List Int) : Prop where
  ww : h w = some (.box (wdA room tr cr mr pt.length))
  tt : h tr = some (.row 1 (pt.map tptr))
  cc : h cr = some (.row 1 (cells.map (.int .i64)))
  mm : h mr = some M
  len : cells.length = pt.length
  tc : tr ≠ cr
  mw : mr ≠ w ∧ mr ≠ tr ∧ mr ≠ cr
  tb : ∀ (i p : Nat), pt[i]? = some (some p) → Tb h p (rs i) (i : Int) room (ls i)
  mne : ∀ (i p : Nat), pt[i]? = some (some p) → mr ≠ p ∧ mr ≠ rs i
  inj : ∀ (i j p : Nat), pt[i]? = some (some p) → pt[j]? = some (some p) → i = j
  rinj : ∀ (i j p p' : Nat), pt[i]? = some (some p) → pt[j]? = some (some p') → rs i = rs j → i = j
section
variable {M : ARow} {h h' : AHeap} {w tr cr mr : Nat} {room : Int} {pt : List (Option Nat)} {rs : Nat → Nat} {ls : Nat → List Rc} {cells : List Int}
/-- The world's own blocks are no table's. -/
theorem WA.apart (hW : WA M h w tr cr mr room pt rs ls cells) {i p : Nat} (hi : pt[i]? = some (some p)) : (w ≠ p ∧ w ≠ rs i) ∧ (tr ≠ p ∧ tr ≠ rs i) ∧ (cr ≠ p ∧ cr ≠ rs i) ∧ (mr ≠ p ∧ mr ≠ rs i) := by
  have hT := hW.tb i p hi
  refine ⟨⟨fun e => ?_, fun e => ?_⟩, ⟨fun e => ?_, fun e => ?_⟩, ⟨fun e => ?_, fun e => ?_⟩, hW.mne i p hi⟩
  · have := hW.ww; rw [e, hT.tp] at this; simp [tabA, wdA] at this
  · have := hW.ww; rw [e, hT.tr] at this; cases this
  · have := hW.tt; rw [e, hT.tp] at this; cases this
  · have := hW.tt; rw [e, hT.tr] at this; simp at this
  · have := hW.cc; rw [e, hT.tp] at this; cases this
  · have := hW.cc; rw [e, hT.tr] at this; simp at this
theorem WA.own (hW : WA M h w tr cr mr room pt rs ls cells) : w ≠ tr ∧ w ≠ cr :=
  ⟨fun e => (by have := hW.ww; rw [e, hW.tt] at this; cases this), fun e => (by have := hW.ww; rw [e, hW.cc] at this; cases this)⟩
/-- A table that is turned. -/
theorem WA.turn (hW : WA M h w tr cr mr room pt rs ls cells) {i p r' : Nat} {l' : List Rc} (hi : pt[i]? = some (some p)) (hT : Tb h' p r' (i : Int) room l')
    (hold : ∀ c y, h c = some y → c ≠ p → c ≠ rs i → h' c = some y) (hnew : r' = rs i ∨ h r' = none) : WA M h' w tr cr mr room pt (updN rs i r') (updN ls i l') cells := by
  obtain ⟨⟨a1, a2⟩, ⟨a3, a4⟩, ⟨a5, a6⟩, a7, a8⟩ := hW.apart hi
  have hTi := hW.tb i p hi
  have other : ∀ j p2, j ≠ i → pt[j]? = some (some p2) → (p2 ≠ p ∧ p2 ≠ rs i) ∧ (rs j ≠ p ∧ rs j ≠ rs i) := fun j p2 hj hp => by
    have hTj := hW.tb j p2 hp
    refine ⟨⟨fun e => hj (hW.inj j i p2 hp (e ▸ hi)), fun e => ?_⟩, fun e => ?_, fun e => hj (hW.rinj j i p2 p hp hi e)⟩
    · have := hTj.tp; rw [e, hTi.tr] at this; cases this
    · have := hTj.tr; rw [e, hTi.tp] at this; cases this
  refine ⟨hold _ _ hW.ww a1 a2, hold _ _ hW.tt a3 a4, hold _ _ hW.cc a5 a6, hold _ _ hW.mm a7 a8, hW.len, hW.tc, hW.mw, fun j p2 hp => ?_, fun j p2 hp => ?_, hW.inj, fun j k p1 p2 h1 h2 e => ?_⟩
  · by_cases e : j = i
    · subst e; rw [hi] at hp; injection hp with hp; injection hp with hp; subst hp; rw [updN_at, updN_at]; exact hT
    · rw [updN_ne _ _ e, updN_ne _ _ e]
      obtain ⟨⟨b1, b2⟩, b3, b4⟩ := other j p2 e hp
      have hTj := hW.tb j p2 hp
      exact ⟨hold _ _ hTj.tp b1 b2, hold _ _ hTj.tr b3 b4⟩
  · by_cases e : j = i
    · subst e; rw [hi] at hp; injection hp with hp; injection hp with hp; subst hp; rw [updN_at]
      exact ⟨a7, hnew.elim (fun g => g ▸ a8) fun g e => by have := hW.mm; rw [e, g] at this; cases this⟩
    · rw [updN_ne _ _ e]; exact hW.mne j p2 hp
  · have key : ∀ j p2, j ≠ i → pt[j]? = some (some p2) → rs j ≠ r' := fun j p2 hj hp e => by
      rcases hnew with g | g
      · exact (other j p2 hj hp).2.2 (e.trans g)
      · have := (hW.tb j p2 hp).tr; rw [e, g] at this; cases this
    by_cases e1 : j = i
    · by_cases e2 : k = i
      · rw [e1, e2]
      · subst e1; rw [updN_at, updN_ne _ _ e2] at e; exact absurd e.symm (key k p2 e2 h2)
    · by_cases e2 : k = i
      · subst e2; rw [updN_at, updN_ne _ _ e1] at e; exact absurd e (key j p1 e1 h1)
      · rw [updN_ne _ _ e1, updN_ne _ _ e2] at e; exact hW.rinj j k p1 p2 h1 h2 e
/-- Behind an act of a table. -/
theorem WA.act (hW : WA M h w tr cr mr room pt rs ls cells) {i p n : Nat} {l' : List Rc} {effs : List (Nat × ARow)} (hi : pt[i]? = some (some p)) (hdom : ∀ b, n ≤ b → h b = none) (he : TE n p (rs i) (i : Int) room (ls i) l' effs) :
    ∃ h' rs', EffTo h h' n effs ∧ WA M h' w tr cr mr room pt rs' (updN ls i l') cells := by
  have hTi := hW.tb i p hi
  refine ⟨setAll h effs, ?_⟩
  have hE : EffTo h (setAll h effs) n effs := ⟨fun q hq => by
    rcases he.dom q hq with g | g | g
    · rw [g, hTi.tp]; simp
    · rw [g, hTi.tr]; simp
    · exact .inr g, AHeap.sub_refl _⟩
  obtain ⟨r', h1, h2⟩ := hTi.step hdom he
  refine ⟨updN rs i r', hE, hW.turn hi h2 (fun c y hc hcp hcr => ?_) (h1.imp id fun g => hdom _ g)⟩
  rw [setAll_not effs, hc]
  intro q hq e
  rcases he.dom q hq with g | g | g
  · exact hcp (e ▸ g)
  · exact hcr (e ▸ g)
  · rw [e] at g; rw [hdom _ g] at hc; cases hc
/-- A member that is down. -/
theorem WA.halt (hW : WA M h w tr cr mr room pt rs ls cells) {i : Nat} (hi : i < pt.length) : WA M (h.set tr (.row 1 ((pt.set i none).map tptr))) w tr cr mr room (pt.set i none) rs ls cells := by
  have old : ∀ j p, (pt.set i none)[j]? = some (some p) → pt[j]? = some (some p) := fun j p hp => by
    rw [List.getElem?_set] at hp; split at hp
    · first | (simp at hp; done) | (split at hp <;> simp at hp)
    · exact hp
  refine ⟨by rw [AHeap.get_set_ne _ _ hW.own.1, List.length_set]; exact hW.ww, AHeap.get_set _ _ _, by rw [AHeap.get_set_ne _ _ (Ne.symm hW.tc)]; exact hW.cc, by rw [AHeap.get_set_ne _ _ hW.mw.2.1]; exact hW.mm, by rw [List.length_set]; exact hW.len, hW.tc, hW.mw, fun j p hp => ?_, fun j p hp => hW.mne j p (old j p hp), fun j k p h1 h2 => hW.inj j k p (old _ _ h1) (old _ _ h2), fun j k p p' h1 h2 => hW.rinj j k p p' (old _ _ h1) (old _ _ h2)⟩
  have hp' := old j p hp
  have ha := (hW.apart hp').2.1
  have hT := hW.tb j p hp'
  exact ⟨by rw [AHeap.get_set_ne _ _ (Ne.symm ha.1)]; exact hT.tp, by rw [AHeap.get_set_ne _ _ (Ne.symm ha.2)]; exact hT.tr⟩
/-- A member that is up: its table is new. -/
theorem WA.boot (hW : WA M h w tr cr mr room pt rs ls cells) {i p r : Nat} {l : List Rc} (hi : i < pt.length) (hn : pt[i]? = some none) (hT : Tb h' p r (i : Int) room l) (hold : h.sub h') (hp0 : h p = none) (hr0 : h r = none) : WA M (h'.set tr (.row 1 ((pt.set i (some p)).map tptr))) w tr cr mr room (pt.set i (some p)) (updN rs i r) (updN ls i l) cells := by
  have hne : ∀ c y, h c = some y → c ≠ p ∧ c ≠ r := fun c y hc => ⟨fun e => (by rw [e, hp0] at hc; cases hc), fun e => (by rw [e, hr0] at hc; cases hc)⟩
  have htr := hne _ _ hW.tt
  have get : ∀ j p2, (pt.set i (some p))[j]? = some (some p2) → (j = i ∧ p2 = p) ∨ (j ≠ i ∧ pt[j]? = some (some p2)) := fun j p2 hp => by
    rw [List.getElem?_set] at hp; split at hp
    · rename_i e
      first | rw [if_pos hi] at hp | skip
      injection hp with hp; injection hp with hp; exact .inl ⟨e.symm, hp.symm⟩
    · rename_i e; exact .inr ⟨fun g => e g.symm, hp⟩
  refine ⟨by rw [AHeap.get_set_ne _ _ hW.own.1, List.length_set]; exact hold _ _ hW.ww, AHeap.get_set _ _ _, by rw [AHeap.get_set_ne _ _ (Ne.symm hW.tc)]; exact hold _ _ hW.cc, by rw [AHeap.get_set_ne _ _ hW.mw.2.1]; exact hold _ _ hW.mm, by rw [List.length_set]; exact hW.len, hW.tc, hW.mw, fun j p2 hp => ?_, fun j p2 hp => ?_, fun j k p2 h1 h2 => ?_, fun j k p1 p2 h1 h2 e => ?_⟩
  · rcases get j p2 hp with ⟨rfl, rfl⟩ | ⟨g, hp'⟩
    · rw [updN_at, updN_at]
      exact ⟨by rw [AHeap.get_set_ne _ _ (Ne.symm htr.1)]; exact hT.tp, by rw [AHeap.get_set_ne _ _ (Ne.symm htr.2)]; exact hT.tr⟩
    · rw [updN_ne _ _ g, updN_ne _ _ g]
      have ha := (hW.apart hp').2.1
      have hTj := hW.tb j p2 hp'
      exact ⟨by rw [AHeap.get_set_ne _ _ (Ne.symm ha.1)]; exact hold _ _ hTj.tp, by rw [AHeap.get_set_ne _ _ (Ne.symm ha.2)]; exact hold _ _ hTj.tr⟩
  · rcases get j p2 hp with ⟨rfl, rfl⟩ | ⟨g, hp'⟩
    · rw [updN_at]; exact hne _ _ hW.mm
    · rw [updN_ne _ _ g]; exact hW.mne j p2 hp'
  · rcases get j p2 h1 with ⟨e1, e2⟩ | ⟨g1, g2⟩ <;> rcases get k p2 h2 with ⟨e3, e4⟩ | ⟨g3, g4⟩
    · rw [e1, e3]
    · subst e2; exact absurd rfl (hne _ _ (hW.tb k p2 g4).tp).1
    · subst e4; exact absurd rfl (hne _ _ (hW.tb j p2 g2).tp).1
    · exact hW.inj j k p2 g2 g4
  · rcases get j p1 h1 with ⟨e1, e2⟩ | ⟨g1, g2⟩ <;> rcases get k p2 h2 with ⟨e3, e4⟩ | ⟨g3, g4⟩
    · rw [e1, e3]
    · subst e1; rw [updN_at, updN_ne _ _ g3] at e; exact absurd e.symm (hne _ _ (hW.tb k p2 g4).tr).2
    · subst e3; rw [updN_at, updN_ne _ _ g1] at e; exact absurd e (hne _ _ (hW.tb j p1 g2).tr).2
    · rw [updN_ne _ _ g1, updN_ne _ _ g3] at e; exact hW.rinj j k p1 p2 g2 g4 e
/-- A cell that is written. -/
theorem WA.cell (hW : WA M h w tr cr mr room pt rs ls cells) (i : Nat) (v : Int) : WA M (h.set cr (.row 1 ((cells.set i v).map (.int .i64)))) w tr cr mr room pt rs ls (cells.set i v) := by
  refine ⟨by rw [AHeap.get_set_ne _ _ hW.own.2]; exact hW.ww, by rw [AHeap.get_set_ne _ _ hW.tc]; exact hW.tt, AHeap.get_set _ _ _, by rw [AHeap.get_set_ne _ _ hW.mw.2.2]; exact hW.mm, by rw [List.length_set]; exact hW.len, hW.tc, hW.mw, fun j p hp => ?_, hW.mne, hW.inj, hW.rinj⟩
  have ha := (hW.apart hp).2.2.1
  have hT := hW.tb j p hp
  exact ⟨by rw [AHeap.get_set_ne _ _ (Ne.symm ha.1)]; exact hT.tp, by rw [AHeap.get_set_ne _ _ (Ne.symm ha.2)]; exact hT.tr⟩
/-- A letter that is laid down. -/
theorem WA.post (hW : WA M h w tr cr mr room pt rs ls cells) (M' : ARow) : WA M' (h.set mr M') w tr cr mr room pt rs ls cells := by
  refine ⟨by rw [AHeap.get_set_ne _ _ (Ne.symm hW.mw.1)]; exact hW.ww, by rw [AHeap.get_set_ne _ _ (Ne.symm hW.mw.2.1)]; exact hW.tt, by rw [AHeap.get_set_ne _ _ (Ne.symm hW.mw.2.2)]; exact hW.cc, AHeap.get_set _ _ _, hW.len, hW.tc, hW.mw, fun j p hp => ?_, hW.mne, hW.inj, hW.rinj⟩
  have ha := (hW.apart hp).2.2.2
  have hT := hW.tb j p hp
  exact ⟨by rw [AHeap.get_set_ne _ _ (Ne.symm ha.1)]; exact hT.tp, by rw [AHeap.get_set_ne _ _ (Ne.symm ha.2)]; exact hT.tr⟩
end
end Go.Proofs.Ytgipbhfblmblcaa

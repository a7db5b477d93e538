/- Plain: a ring's turns; how it lies in memory. -/
import Derived.Test.YtobigfbgaiglkaaPRing
set_option linter.unusedVariables false
namespace Go.Proofs.Ytobigfbgaiglkaa
open Go.Proofs.Ytobigfbgaiglkaa.AM
structure Rg where
  left : List Int
  done : List Int
  ds : List Int
def insAt (l : List Int) (k : Nat) (x : Int) : List Int := l.take k ++ [x] ++ l.drop k
def addOne (done : List Int) (st : List Int × List Int) (x : Int) : List Int × List Int :=
  if x ∈ st.1 ∨ x ∈ done then st else (insAt st.1 (dNext st.2 ((st.1.length : Int) + 1)).toNat x, dRest st.2 ((st.1.length : Int) + 1))
def stay (all l : List Int) : List Int := l.filter fun x => decide (x ∈ all)
def addUpTo (s : Rg) (there : List Int) (k : Nat) : List Int × List Int := ((setOf there).take k).foldl (addOne (stay (setOf there) s.done)) (stay (setOf there) s.left, s.ds)
def rAdd (s : Rg) (there : List Int) : Rg := ⟨(addUpTo s there (setOf there).length).1, stay (setOf there) s.done, (addUpTo s there (setOf there).length).2⟩
def rTurn (s : Rg) : Rg := if s.left = [] then ⟨shuffled s.done s.ds, [], shufRest s.done s.ds⟩ else s
def rOut (s : Rg) : Rg × Int × Bool := match s.left with
  | [] => (s, 0, false)
  | x :: l => (⟨l, s.done ++ [x], s.ds⟩, x, true)
def rNext (s : Rg) (there : List Int) : Rg × Int × Bool := rOut (rTurn (rAdd s there))
theorem addUpTo_snoc {s : Rg} {there : List Int} {k : Nat} {x : Int} (hx : (setOf there)[k]? = some x) : addUpTo s there (k + 1) = addOne (stay (setOf there) s.done) (addUpTo s there k) x := by
  rw [addUpTo, addUpTo, List.take_add_one, hx, List.foldl_append]; rfl
theorem insAt_len (l : List Int) (k : Nat) (x : Int) : (insAt l k x).length = l.length + 1 := by simp [insAt]; omega
theorem addOne_len (done : List Int) (st : List Int × List Int) (x : Int) : (addOne done st x).1.length ≤ st.1.length + 1 := by
  unfold addOne; split
  · omega
  · rw [insAt_len]; exact Nat.le_refl _
theorem addUpTo_len (s : Rg) (there : List Int) : ∀ k, (addUpTo s there k).1.length ≤ s.left.length + k
  | 0 => by simp only [addUpTo, List.take_zero, List.foldl_nil, Nat.add_zero]; exact List.length_filter_le _ _
  | k + 1 => by
    have ih := addUpTo_len s there k
    cases hx : (setOf there)[k]? with
    | none => rw [addUpTo, List.take_add_one, hx, Option.toList_none, List.append_nil]; exact Nat.le_trans ih (by omega)
    | some x => rw [addUpTo_snoc hx]; have := addOne_len (stay (setOf there) s.done) (addUpTo s there k) x; omega
theorem dNext_at (ds : List Int) (n : Nat) : ∃ k : Nat, dNext ds ((n : Int) + 1) = (k : Int) ∧ k ≤ n ∧ (dNext ds ((n : Int) + 1)).toNat = k := by
  have h := lowI_range (ds.headD 0) ((n : Int) + 1) (by omega)
  rw [dNext_pos _ (by omega)]
  exact ⟨_, (Int.toNat_of_nonneg h.1).symm, by omega, rfl⟩
/-- A ring, and its dice, as they lie in memory. -/
structure RA (h : AHeap) (p q : Nat) (al ad : AV) (s : Rg) : Prop where
  pp : h p = some (.box (.agg [al, ad]))
  qq : h q = some (.box (.agg [encI s.ds]))
  lv : SV h 1 al (s.left.map (.int .i64))
  dv : SV h 1 ad (s.done.map (.int .i64))
  ne : ∀ x n n', al = .own x 1 0 n → ad = .own x 1 0 n' → False
  pq : p ≠ q
def RIs (h : AHeap) (p q : Nat) (s : Rg) : Prop := ∃ al ad, RA h p q al ad s
section
variable {h h' : AHeap} {p q : Nat} {al ad : AV} {s : Rg}
theorem svat {a : AV} {l : List AV} {x n : Nat} (hv : SV h 1 a l) (ha : a = .own x 1 0 n) : h x = some (.row 1 l) := by
  rcases hv with ⟨g, _⟩ | ⟨y, g, g2⟩
  · rw [ha] at g; cases g
  · rw [ha] at g; cases g; exact g2
theorem sv_keep {a : AV} {l : List AV} (hv : SV h 1 a l) (hk : ∀ x n, a = .own x 1 0 n → ∀ y, h x = some y → h' x = some y) : SV h' 1 a l := by
  rcases hv with hv | ⟨x, g, g2⟩
  · exact .inl hv
  · exact .inr ⟨x, g, hk x _ g _ g2⟩
/-- Another left. -/
theorem RA.left (hR : RA h p q al ad s) {al' : AV} {l : List Int} (hp : h' p = some (.box (.agg [al', ad]))) (hl : SV h' 1 al' (l.map (.int .i64)))
    (hold : ∀ c y, h c = some y → c ≠ p → (∀ n, al ≠ .own c 1 0 n) → h' c = some y) (hnew : ∀ x n, al' = .own x 1 0 n → h x = none ∨ ∃ n', al = .own x 1 0 n') : RA h' p q al' ad ⟨l, s.done, s.ds⟩ := by
  refine ⟨hp, hold _ _ hR.qq (Ne.symm hR.pq) fun n e => ?_, hl, sv_keep hR.dv fun x n e y hy => hold _ _ hy (fun e1 => ?_) fun n' e1 => hR.ne x n' n e1 e, fun x n n' e1 e2 => ?_, hR.pq⟩
  · have := svat hR.lv e; rw [hR.qq] at this; cases this
  · have := svat hR.dv e; rw [e1, hR.pp] at this; cases this
  · rcases hnew x n e1 with g | ⟨n2, g⟩
    · have := svat hR.dv e2; rw [g] at this; cases this
    · exact hR.ne x n2 n' g e2
/-- Another done. -/
theorem RA.fin (hR : RA h p q al ad s) {ad' : AV} {l : List Int} (hp : h' p = some (.box (.agg [al, ad']))) (hl : SV h' 1 ad' (l.map (.int .i64)))
    (hold : ∀ c y, h c = some y → c ≠ p → (∀ n, ad ≠ .own c 1 0 n) → h' c = some y) (hnew : ∀ x n, ad' = .own x 1 0 n → h x = none ∨ ∃ n', ad = .own x 1 0 n') : RA h' p q al ad' ⟨s.left, l, s.ds⟩ := by
  refine ⟨hp, hold _ _ hR.qq (Ne.symm hR.pq) fun n e => ?_, sv_keep hR.lv fun x n e y hy => hold _ _ hy (fun e1 => ?_) fun n' e1 => hR.ne x n n' e e1, hl, fun x n n' e1 e2 => ?_, hR.pq⟩
  · have := svat hR.dv e; rw [hR.qq] at this; cases this
  · have := svat hR.lv e; rw [e1, hR.pp] at this; cases this
  · rcases hnew x n' e2 with g | ⟨n2, g⟩
    · have := svat hR.lv e1; rw [g] at this; cases this
    · exact hR.ne x n n2 e1 g
/-- Other draws. -/
theorem RA.dice (hR : RA h p q al ad s) (ds : List Int) : RA (h.set q (.box (.agg [encI ds]))) p q al ad ⟨s.left, s.done, ds⟩ := by
  have key : ∀ (a : AV) (l : List AV), SV h 1 a l → SV (h.set q (.box (.agg [encI ds]))) 1 a l := fun a l hv => sv_keep hv fun x n e y hy => by
    have := svat hv e
    rw [AHeap.get_set_ne _ _ (fun e1 => by rw [e1, hR.qq] at this; cases this)]; exact hy
  exact ⟨by rw [AHeap.get_set_ne _ _ hR.pq]; exact hR.pp, AHeap.get_set _ _ _, key _ _ hR.lv, key _ _ hR.dv, hR.ne, hR.pq⟩
end
/-- What the walk has written. -/
structure RW (n0 : Nat) (h H1 : AHeap) (r8 : Nat) (X8 : ARow) (e1 : List (Nat × ARow)) (h1 : AHeap) : Prop where
  eff : EffTo h h1 n0 e1
  r8n : h1 r8 = none
  r8s : (setAll H1 e1) r8 = some X8
section
variable {n0 : Nat} {h H1 h1 h2 : AHeap} {r8 : Nat} {X8 : ARow} {e1 e2 : List (Nat × ARow)}
theorem RW.write (hw : RW n0 h H1 r8 X8 e1 h1) {b : Nat} (x : ARow) (hb : h1 b ≠ none ∨ ((setAll H1 e1) b = none ∧ n0 ≤ b)) : RW n0 h H1 r8 X8 ((b, x) :: e1) (h1.set b x) := by
  have hne : r8 ≠ b := fun e => by
    rcases hb with g | g
    · rw [← e, hw.r8n] at g; exact g rfl
    · rw [← e, hw.r8s] at g; cases g.1
  exact ⟨hw.eff.write x (hb.imp id And.right), by rw [AHeap.get_set_ne _ _ hne]; exact hw.r8n, (AHeap.get_set_ne _ _ hne).trans hw.r8s⟩
theorem RW.call (hw : RW n0 h H1 r8 X8 e1 h1) {m : Nat} (he : EffTo h1 h2 m e2) (hm : n0 ≤ m) (hdom : ∀ b, m ≤ b → (setAll H1 e1) b = none) : RW n0 h H1 r8 X8 (e2 ++ e1) h2 := by
  have h9 : (setAll (setAll H1 e1) e2) r8 = some X8 := by
    rw [setAll_not e2, hw.r8s]
    intro q hq e
    rcases he.dom q hq with g | g
    · rw [e, hw.r8n] at g; exact g rfl
    · have := hdom _ g; rw [e, hw.r8s] at this; cases this
  refine ⟨hw.eff.trans he hm, ?_, by rw [setAll_append]; exact h9⟩
  cases hx : h2 r8 with
  | none => rfl
  | some y =>
    rcases he.some (b := r8) (by rw [hx]; simp) with g | g
    · exact absurd hw.r8n g
    · have := hdom _ g; rw [hw.r8s] at this; cases this
theorem RW.inner (hw : RW n0 h H1 r8 X8 e1 h1) (he : EffTo h1 h2 n0 e2) (hin : ∀ q ∈ e2, h1 q.1 ≠ none) (hin2 : ∀ b, h2 b ≠ none → h1 b ≠ none) : RW n0 h H1 r8 X8 (e2 ++ e1) h2 := by
  have h9 : (setAll (setAll H1 e1) e2) r8 = some X8 := by
    rw [setAll_not e2, hw.r8s]
    intro q hq e
    have g := hin q hq
    rw [e, hw.r8n] at g; exact g rfl
  refine ⟨hw.eff.trans he (Nat.le_refl _), ?_, by rw [setAll_append]; exact h9⟩
  cases hx : h2 r8 with
  | none => rfl
  | some y => exact absurd hw.r8n (hin2 r8 (by rw [hx]; simp))
theorem le_set {G : AHeap} {r sz : Nat} {l m : List AV} (hm : l.take m.length = m) : (G.set r (.row sz m)).le (G.set r (.row sz l)) := by
  have h := AHeap.le_cut (G := G.set r (.row sz l)) m.length (AHeap.get_set G r (.row sz l))
  rw [hm, AHeap.set_set] at h; exact h
/-- What DeleteFunc leaves. -/
theorem delf_eff {G h : AHeap} {va v : AV} {l K : List Int} {zs : List AV} {effs : List (Nat × ARow)} (n0 : Nat) (hR : (va = .nil0 ∧ l = [] ∧ v = .nil0 ∧ effs = []) ∨ ∃ r k, va = .own r 1 0 k ∧ v = .own r 1 0 K.length ∧ effs = [(r, .row 1 (K.map (.int .i64) ++ zs))]) (hK : l = [] → K = []) (hw : SV h 1 va (l.map (.int .i64))) :
    ∃ e2 h2, (setAll G e2).le (setAll G effs) ∧ EffTo h h2 n0 e2 ∧ SV h2 1 v (K.map (.int .i64)) ∧ (∀ c y, h c = some y → (∀ n, va ≠ .own c 1 0 n) → h2 c = some y) ∧ (∀ x n, v = .own x 1 0 n → ∃ n', va = .own x 1 0 n') ∧ (∀ q ∈ e2, h q.1 ≠ none) ∧ (∀ b, h2 b ≠ none → h b ≠ none) := by
  rcases hR with ⟨rfl, rfl, rfl, rfl⟩ | ⟨r, k, rfl, rfl, rfl⟩
  · exact ⟨[], h, AHeap.le_of_sub (AHeap.sub_refl _), EffTo.refl _ _, .inl ⟨rfl, by rw [hK rfl]; rfl⟩, fun _ _ hc _ => hc, fun _ _ h => (by cases h), fun _ h => (by cases h), fun _ h => h⟩
  · have hr := svat hw rfl
    refine ⟨[(r, .row 1 (K.map (.int .i64)))], h.set r (.row 1 (K.map (.int .i64))), le_set (by rw [List.take_left' rfl]), (EffTo.refl h n0).write _ (.inl (by rw [hr]; simp)), .inr ⟨r, by rw [List.length_map], AHeap.get_set _ _ _⟩, fun c y hc hcw => ?_, fun x n hx => by cases hx; exact ⟨_, rfl⟩, fun q hq => by simp at hq; subst hq; rw [hr]; simp, fun b hb => ?_⟩
    · rw [AHeap.get_set_ne _ _ (fun e => hcw k (by rw [e]))]; exact hc
    · by_cases e : b = r
      · rw [e, hr]; simp
      · rw [AHeap.get_set_ne _ _ e] at hb; exact hb
end
section
variable {n0 p q : Nat} {h H1 h1 : AHeap} {r8 : Nat} {X8 : ARow} {e1 : List (Nat × ARow)} {al ad : AV} {s : Rg}
/-- Behind Insert into left. -/
theorem ring_in {qq r' n8 n' : Nat} {Q : ARow} {l' : List Int} (hW : RW n0 h H1 r8 X8 e1 h1) (hR : RA h1 p q al ad s) (hs : h.sub H1) (hq1 : (setAll H1 e1) qq = none) (hq2 : n0 ≤ qq) (hn8 : n0 ≤ n8)
    (hdom : ∀ b, n8 ≤ b → ((setAll H1 e1).set qq Q) b = none) (hr : (∃ k, al = .own r' 1 0 k) ∨ n8 ≤ r') (hn' : n' = l'.length) :
    p ≠ r' ∧ RW n0 h H1 r8 X8 ((p, .box (.agg [.own r' 1 0 n', ad])) :: (r', .row 1 (l'.map (.int .i64))) :: (qq, Q) :: e1) (((h1.set qq Q).set r' (.row 1 (l'.map (.int .i64)))).set p (.box (.agg [.own r' 1 0 n', ad]))) ∧
      RA (((h1.set qq Q).set r' (.row 1 (l'.map (.int .i64)))).set p (.box (.agg [.own r' 1 0 n', ad]))) p q (.own r' 1 0 n') ad ⟨l', s.done, s.ds⟩ := by
  subst hn'
  have hs1 := hW.eff.within hs
  have hqn : h1 qq = none := sub_none hs1 hq1
  have hpq : p ≠ qq := fun e => by have := hR.pp; rw [e, hqn] at this; cases this
  have hr2 : (∃ k, al = .own r' 1 0 k) ∨ (n0 ≤ r' ∧ h1 r' = none ∧ ((setAll H1 e1).set qq Q) r' = none) := hr.imp id fun g => ⟨by omega, by
    have := hdom _ g
    by_cases e : r' = qq
    · rw [e]; exact hqn
    · rw [AHeap.get_set_ne _ _ e] at this; exact sub_none hs1 this, hdom _ g⟩
  have hpr : p ≠ r' := fun e => by
    rcases hr2 with ⟨k, g⟩ | ⟨_, g, _⟩
    · have := svat hR.lv g; rw [← e, hR.pp] at this; cases this
    · rw [← e, hR.pp] at g; cases g
  have hrq : ∀ k, al = .own r' 1 0 k → r' ≠ qq := fun k g e => by have := svat hR.lv g; rw [e, hqn] at this; cases this
  have hW2 := hW.write (b := qq) Q (.inr ⟨hq1, hq2⟩)
  have hW3 := hW2.write (b := r') (.row 1 (l'.map (.int .i64))) (by
    rcases hr2 with ⟨k, g⟩ | ⟨g1, _, g3⟩
    · exact .inl (by rw [AHeap.get_set_ne _ _ (hrq k g), svat hR.lv g]; simp)
    · exact .inr ⟨g3, g1⟩)
  have hW4 := hW3.write (b := p) (.box (.agg [.own r' 1 0 l'.length, ad])) (.inl (by rw [AHeap.get_set_ne _ _ hpr, AHeap.get_set_ne _ _ hpq, hR.pp]; simp))
  refine ⟨hpr, hW4, hR.left (AHeap.get_set _ _ _) (.inr ⟨r', by rw [List.length_map], by rw [AHeap.get_set_ne _ _ (Ne.symm hpr)]; exact AHeap.get_set _ _ _⟩) (fun c y hc hcp hcw => ?_) (fun x n e => ?_)⟩
  · have hcq : c ≠ qq := fun e => by rw [e, hqn] at hc; cases hc
    have hcr : c ≠ r' := fun e => by
      rcases hr2 with ⟨k, g⟩ | ⟨_, g, _⟩
      · exact hcw k (e ▸ g)
      · rw [e, g] at hc; cases hc
    rw [AHeap.get_set_ne _ _ hcp, AHeap.get_set_ne _ _ hcr, AHeap.get_set_ne _ _ hcq]; exact hc
  · cases e
    exact hr2.elim .inr fun g => .inl g.2.1
/-- Behind append onto done. -/
theorem ring_app {r' n' : Nat} {l' : List Int} (hW : RW n0 h H1 r8 X8 e1 h1) (hR : RA h1 p q al ad s) (hs : h.sub H1) (hr : ((setAll H1 e1) r' = none ∧ n0 ≤ r') ∨ ad = .own r' 1 0 n') (l2 : Nat) (hl : l2 = l'.length) :
    p ≠ r' ∧ RW n0 h H1 r8 X8 ((p, .box (.agg [al, .own r' 1 0 l2])) :: (r', .row 1 (l'.map (.int .i64))) :: e1) ((h1.set r' (.row 1 (l'.map (.int .i64)))).set p (.box (.agg [al, .own r' 1 0 l2]))) ∧
      RA ((h1.set r' (.row 1 (l'.map (.int .i64)))).set p (.box (.agg [al, .own r' 1 0 l2]))) p q al (.own r' 1 0 l2) ⟨s.left, l', s.ds⟩ := by
  subst hl
  have hs1 := hW.eff.within hs
  have hr2 : (n0 ≤ r' ∧ (setAll H1 e1) r' = none ∧ h1 r' = none) ∨ ad = .own r' 1 0 n' := hr.imp (fun g => ⟨g.2, g.1, sub_none hs1 g.1⟩) id
  have hpr : p ≠ r' := fun e => by
    rcases hr2 with ⟨_, _, g⟩ | g
    · rw [← e, hR.pp] at g; cases g
    · have := svat hR.dv g; rw [← e, hR.pp] at this; cases this
  have hW3 := hW.write (b := r') (.row 1 (l'.map (.int .i64))) (by
    rcases hr2 with ⟨g1, g2, _⟩ | g
    · exact .inr ⟨g2, g1⟩
    · exact .inl (by rw [svat hR.dv g]; simp))
  have hW4 := hW3.write (b := p) (.box (.agg [al, .own r' 1 0 l'.length])) (.inl (by rw [AHeap.get_set_ne _ _ hpr, hR.pp]; simp))
  refine ⟨hpr, hW4, hR.fin (AHeap.get_set _ _ _) (.inr ⟨r', by rw [List.length_map], by rw [AHeap.get_set_ne _ _ (Ne.symm hpr)]; exact AHeap.get_set _ _ _⟩) (fun c y hc hcp hcw => ?_) (fun x n e => ?_)⟩
  · have hcr : c ≠ r' := fun e => by
      rcases hr2 with ⟨_, _, g⟩ | g
      · rw [e, g] at hc; cases hc
      · exact hcw n' (e ▸ g)
    rw [AHeap.get_set_ne _ _ hcp, AHeap.get_set_ne _ _ hcr]; exact hc
  · cases e
    exact hr2.elim (fun g => .inl g.2.2) fun g => .inr ⟨_, g⟩
/-- Behind a shuffle of done. -/
theorem ring_shuf {n9 : Nat} {v9 : AV} {e9 : List (Nat × ARow)} {l : List Int} {ds : List Int} (hW : RW n0 h H1 r8 X8 e1 h1) (hR : RA h1 p q al ad s) (hs : h.sub H1) (hn : n0 ≤ n9) (hdom : ∀ b, n9 ≤ b → (setAll H1 e1) b = none) (hO : OwnR n9 1 v9 (l.map (.int .i64)) e9) :
    ∃ h2, RW n0 h H1 r8 X8 ((e9 ++ [(q, .box (.agg [encI ds]))]) ++ e1) h2 ∧ h2 p = some (.box (.agg [al, ad])) ∧ SV h2 1 v9 (l.map (.int .i64)) ∧ RA (h2.set p (.box (.agg [v9, .nil0]))) p q v9 .nil0 ⟨l, [], ds⟩ := by
  have hs1 := hW.eff.within hs
  have hd1 : ∀ b, n9 ≤ b → h1 b = none := fun b hb => sub_none hs1 (hdom b hb)
  have hqe := (EffTo.refl h1 n9).write (b := q) (.box (.agg [encI ds])) (.inl (by rw [hR.qq]; simp))
  rcases hO with ⟨rfl, h0, rfl⟩ | ⟨z, hz, rfl, rfl⟩
  · refine ⟨h1.set q (.box (.agg [encI ds])), hW.call hqe hn hdom, by rw [AHeap.get_set_ne _ _ hR.pq]; exact hR.pp, .inl ⟨rfl, h0⟩, AHeap.get_set _ _ _, by rw [AHeap.get_set_ne _ _ (Ne.symm hR.pq)]; exact AHeap.get_set _ _ _, .inl ⟨rfl, h0⟩, .inl ⟨rfl, rfl⟩, fun x n n' e => (by cases e), hR.pq⟩
  · have hzq : z ≠ q := fun e => by have := hd1 z hz; rw [e, hR.qq] at this; cases this
    have hzp : z ≠ p := fun e => by have := hd1 z hz; rw [e, hR.pp] at this; cases this
    have hze := hqe.write (b := z) (.row 1 (l.map (.int .i64))) (.inr hz)
    refine ⟨(h1.set q (.box (.agg [encI ds]))).set z (.row 1 (l.map (.int .i64))), hW.call hze hn hdom, by rw [AHeap.get_set_ne _ _ (Ne.symm hzp), AHeap.get_set_ne _ _ hR.pq]; exact hR.pp, .inr ⟨z, rfl, AHeap.get_set _ _ _⟩, AHeap.get_set _ _ _, ?_, .inr ⟨z, rfl, ?_⟩, .inl ⟨rfl, rfl⟩, fun x n n' _ e => (by cases e), hR.pq⟩
    · rw [AHeap.get_set_ne _ _ (Ne.symm hR.pq), AHeap.get_set_ne _ _ (Ne.symm hzq)]; exact AHeap.get_set _ _ _
    · rw [AHeap.get_set_ne _ _ hzp]; exact AHeap.get_set _ _ _
end
theorem rTurn_len (s : Rg) (there : List Int) : (rTurn (rAdd s there)).left.length ≤ s.left.length + s.done.length + (setOf there).length ∧ (rTurn (rAdd s there)).done.length ≤ s.done.length := by
  have h1 := addUpTo_len s there (setOf there).length
  have h2 : (stay (setOf there) s.done).length ≤ s.done.length := List.length_filter_le _ _
  unfold rTurn
  split
  · refine ⟨?_, by simp⟩
    show (shuffled (stay (setOf there) s.done) _).length ≤ _
    rw [shuffled, shuf_length]; omega
  · exact ⟨by show (addUpTo s there (setOf there).length).1.length ≤ _; omega, h2⟩
theorem rOut_nil {s : Rg} (h : s.left = []) : rOut s = (s, 0, false) := by rw [rOut]; split <;> simp_all
theorem rOut_cons {s : Rg} {x : Int} {l : List Int} (h : s.left = x :: l) : rOut s = (⟨l, s.done ++ [x], s.ds⟩, x, true) := by rw [rOut]; split <;> simp_all
end Go.Proofs.Ytobigfbgaiglkaa

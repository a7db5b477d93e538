/- Plain: what is pushed, and what was pushed; how both lie in memory. -/
import Derived.Test.YtobigfbgaiglkaaPDelta3
import Derived.Test.YtobigfbgaiglkaaPMap
import Derived.Test.YtobigfbgaiglkaaPEff
import Derived.Test.YtobigfbgaiglkaaPDel
set_option linter.unusedVariables false
namespace Go.Proofs.Ytobigfbgaiglkaa
open Go.Proofs.Ytobigfbgaiglkaa.AM
structure BRow where
  recs : List Rc
  epoch : Int
def encB (x : BRow) : AV := .agg [encRs x.recs, .int .i64 x.epoch]
def zB : AV := .agg [.nil0, .int .i64 0]
abbrev BMap := List (Int × Nat)
def bmRow (ml : BMap) : ARow := mrow .i64 (mmap (fun b => AV.box b 0) ml)
def upd {α : Type} (f : Int → α) (k : Int) (v : α) : Int → α := fun j => if j = k then v else f j
theorem upd_at {α : Type} (f : Int → α) (k : Int) (v : α) : upd f k v k = v := by simp [upd]
theorem upd_ne {α : Type} (f : Int → α) {k j : Int} (v : α) (h : j ≠ k) : upd f k v j = f j := by simp [upd, h]
theorem upd_id {α : Type} (f : Int → α) (k : Int) : upd f k (f k) = f := funext fun j => by unfold upd; split <;> simp_all
/-- A map of pointers, each to a struct with a slice of rows of its own. -/
structure PA {σ : Type} (enc : σ → AV → AV) (rows : σ → List BRow) (z : σ) (h : AHeap) (p : Nat) (P0 : AV) (r : Nat) (ml : BMap) (f : Int → σ) (aw : Int → AV) : Prop where
  pp : h p = some (.box P0)
  rr : h r = some (bmRow ml)
  bb : ∀ k b, pget ml k = some b → h b = some (.box (enc (f k) (aw k)))
  ww : ∀ k b, pget ml k = some b → SV h 2 (aw k) ((rows (f k)).map encB)
  pb : ∀ k b, pget ml k = some b → b ≠ p
  inj : ∀ k k' b, pget ml k = some b → pget ml k' = some b → k = k'
  rinj : ∀ k k' b b' x n n', pget ml k = some b → pget ml k' = some b' → aw k = .own x 2 0 n → aw k' = .own x 2 0 n' → k = k'
  df : ∀ k, pget ml k = none → f k = z
section
variable {σ : Type} {enc : σ → AV → AV} {rows : σ → List BRow} {z : σ} {h h' : AHeap} {p r : Nat} {P0 : AV} {ml : BMap} {f : Int → σ} {aw : Int → AV}
theorem PA.prow (hP : PA enc rows z h p P0 r ml f aw) : p ≠ r := fun e => by have h1 := hP.pp; rw [e, hP.rr] at h1; cases h1
theorem PA.brow (hP : PA enc rows z h p P0 r ml f aw) {k : Int} {b : Nat} (hb : pget ml k = some b) : b ≠ r := fun e => by have h1 := hP.bb k b hb; rw [e, hP.rr] at h1; cases h1
theorem PA.wne (hP : PA enc rows z h p P0 r ml f aw) {k : Int} {b x n : Nat} (hb : pget ml k = some b) (hw : aw k = .own x 2 0 n) : h x = some (.row 2 ((rows (f k)).map encB)) := by
  rcases hP.ww k b hb with ⟨h1, h2⟩ | ⟨x', h1, h2⟩
  · rw [hw] at h1; cases h1
  · rw [hw] at h1; cases h1; exact h2
theorem PA.empty {h0 : AHeap} (hp : p ≠ r) : PA enc rows z ((h0.set r (bmRow [])).set p (.box P0)) p P0 r [] (fun _ => z) (fun _ => .nil0) :=
  ⟨AHeap.get_set _ _ _, by rw [AHeap.get_set_ne _ _ (Ne.symm hp)]; exact AHeap.get_set _ _ _, fun _ _ h => (by cases h), fun _ _ h => (by cases h), fun _ _ h => (by cases h), fun _ _ _ h => (by cases h), fun _ _ _ _ _ _ _ h => (by cases h), fun _ _ => rfl⟩
/-- A peer that is new. -/
theorem PA.new (hP : PA enc rows z h p P0 r ml f aw) (k : Int) {b : Nat} (hb : h b = none) (s : σ) (hs : rows s = []) :
    PA enc rows z ((h.set b (.box (enc s .nil0))).set r (bmRow (pput ml k b))) p P0 r (pput ml k b) (upd f k s) (upd aw k .nil0) := by
  have hbr : b ≠ r := fun e => by rw [e, hP.rr] at hb; cases hb
  have hbp : b ≠ p := fun e => by rw [e, hP.pp] at hb; cases hb
  have old : ∀ k' b', k' ≠ k → pget (pput ml k b) k' = some b' → pget ml k' = some b' := fun k' b' hn hg => by rw [pget_pput, if_neg hn] at hg; exact hg
  have bne : ∀ k' b', pget ml k' = some b' → b' ≠ b := fun k' b' hg e => by have := hP.bb k' b' hg; rw [e, hb] at this; cases this
  refine ⟨?_, AHeap.get_set _ _ _, fun k' b' hg => ?_, fun k' b' hg => ?_, fun k' b' hg => ?_, fun k1 k2 c h1 h2 => ?_, fun k1 k2 b1 b2 x n n' h1 h2 w1 w2 => ?_, fun k' hg => ?_⟩
  · rw [AHeap.get_set_ne _ _ hP.prow, AHeap.get_set_ne _ _ (Ne.symm hbp)]; exact hP.pp
  · by_cases e : k' = k
    · subst e
      rw [pget_pput, if_pos rfl] at hg; injection hg with hg; subst hg
      rw [AHeap.get_set_ne _ _ hbr, AHeap.get_set, upd_at, upd_at]
    · have hg' := old k' b' e hg
      rw [AHeap.get_set_ne _ _ (hP.brow hg'), AHeap.get_set_ne _ _ (bne k' b' hg'), upd_ne _ _ e, upd_ne _ _ e]; exact hP.bb k' b' hg'
  · by_cases e : k' = k
    · subst e; rw [upd_at, upd_at, hs]; exact .inl ⟨rfl, rfl⟩
    · have hg' := old k' b' e hg
      rw [upd_ne _ _ e, upd_ne _ _ e]
      rcases hP.ww k' b' hg' with h1 | ⟨x, h1, h2⟩
      · exact .inl h1
      · refine .inr ⟨x, h1, ?_⟩
        have hxr : x ≠ r := fun e => by rw [e, hP.rr] at h2; cases h2
        have hxb : x ≠ b := fun e => by rw [e, hb] at h2; cases h2
        rw [AHeap.get_set_ne _ _ hxr, AHeap.get_set_ne _ _ hxb]; exact h2
  · by_cases e : k' = k
    · subst e; rw [pget_pput, if_pos rfl] at hg; injection hg with hg; subst hg; exact hbp
    · exact hP.pb k' b' (old k' b' e hg)
  · by_cases e1 : k1 = k
    · by_cases e2 : k2 = k
      · rw [e1, e2]
      · subst e1; rw [pget_pput, if_pos rfl] at h1; injection h1 with h1; subst h1
        exact absurd rfl (bne k2 b (old k2 b e2 h2))
    · by_cases e2 : k2 = k
      · subst e2; rw [pget_pput, if_pos rfl] at h2; injection h2 with h2; subst h2
        exact absurd rfl (bne k1 b (old k1 b e1 h1))
      · exact hP.inj k1 k2 c (old k1 c e1 h1) (old k2 c e2 h2)
  · by_cases e1 : k1 = k
    · subst e1; rw [upd_at] at w1; cases w1
    · by_cases e2 : k2 = k
      · subst e2; rw [upd_at] at w2; cases w2
      · rw [upd_ne _ _ e1] at w1; rw [upd_ne _ _ e2] at w2
        exact hP.rinj k1 k2 b1 b2 x n n' (old k1 b1 e1 h1) (old k2 b2 e2 h2) w1 w2
  · have e : k' ≠ k := fun e => by rw [pget_pput, if_pos e] at hg; cases hg
    rw [pget_pput, if_neg e] at hg
    rw [upd_ne _ _ e]; exact hP.df k' hg
/-- A peer whose struct and rows are turned. -/
theorem PA.turn (hP : PA enc rows z h p P0 r ml f aw) {k : Int} {b : Nat} (hk : pget ml k = some b) {s : σ} {a : AV} (hb : h' b = some (.box (enc s a))) (hw : SV h' 2 a ((rows s).map encB))
    (hold : ∀ c y, h c = some y → c ≠ b → (∀ n, aw k ≠ .own c 2 0 n) → h' c = some y) (hnew : ∀ x n, a = .own x 2 0 n → h x = none ∨ ∃ n', aw k = .own x 2 0 n') : PA enc rows z h' p P0 r ml (upd f k s) (upd aw k a) := by
  have pne : ∀ n, aw k ≠ .own p 2 0 n := fun n e => by have := hP.wne hk e; rw [hP.pp] at this; cases this
  have rne : ∀ n, aw k ≠ .own r 2 0 n := fun n e => by have := hP.wne hk e; rw [hP.rr] at this; cases this
  have bne : ∀ k' b', k' ≠ k → pget ml k' = some b' → h' b' = some (.box (enc (f k') (aw k'))) := fun k' b' hn hg => by
    have h1 := hP.bb k' b' hg
    refine hold _ _ h1 (fun e => hn (hP.inj k' k b (e ▸ hg) hk)) fun n e => ?_
    have := hP.wne hk e; rw [h1] at this; cases this
  refine ⟨hold _ _ hP.pp (Ne.symm (hP.pb k b hk)) pne, hold _ _ hP.rr (Ne.symm (hP.brow hk)) rne, fun k' b' hg => ?_, fun k' b' hg => ?_, hP.pb, hP.inj, fun k1 k2 b1 b2 x n n' h1 h2 w1 w2 => ?_, fun k' hg => ?_⟩
  · by_cases e : k' = k
    · subst e; rw [hk] at hg; injection hg with hg; subst hg; rw [upd_at, upd_at]; exact hb
    · rw [upd_ne _ _ e, upd_ne _ _ e]; exact bne k' b' e hg
  · by_cases e : k' = k
    · subst e; rw [upd_at, upd_at]; exact hw
    · rw [upd_ne _ _ e, upd_ne _ _ e]
      rcases hP.ww k' b' hg with h1 | ⟨x, h1, h2⟩
      · exact .inl h1
      · refine .inr ⟨x, h1, hold _ _ h2 (fun e1 => ?_) fun n e1 => e (hP.rinj k' k b' b x _ n hg hk h1 e1)⟩
        have := hP.bb k b hk; rw [← e1, h2] at this; cases this
  · have key : ∀ k' b' n n', k' ≠ k → pget ml k' = some b' → aw k' = .own x 2 0 n → a = .own x 2 0 n' → False := fun k' b' n n' hn hg g1 g2 => by
      rcases hnew x n' g2 with g3 | ⟨n3, g3⟩
      · have := hP.wne hg g1; rw [g3] at this; cases this
      · exact hn (hP.rinj k' k b' b x n n3 hg hk g1 g3)
    by_cases e1 : k1 = k
    · by_cases e2 : k2 = k
      · rw [e1, e2]
      · subst e1; rw [upd_at] at w1; rw [upd_ne _ _ e2] at w2; exact (key k2 b2 n' n e2 h2 w2 w1).elim
    · by_cases e2 : k2 = k
      · subst e2; rw [upd_at] at w2; rw [upd_ne _ _ e1] at w1; exact (key k1 b1 n n' e1 h1 w1 w2).elim
      · rw [upd_ne _ _ e1] at w1; rw [upd_ne _ _ e2] at w2; exact hP.rinj k1 k2 b1 b2 x n n' h1 h2 w1 w2
  · have e : k' ≠ k := fun e => by rw [e, hk] at hg; cases hg
    rw [upd_ne _ _ e]; exact hP.df k' hg
end
theorem blook_eq (ml : BMap) (k : Int) : (mget (mmap (fun b => AV.box b 0) ml) k).getD .nilp = match pget ml k with
    | none => .nilp
    | some b => .box b 0 := by
  rw [mget_mmap]; cases pget ml k <;> rfl
theorem bput_row (ml : BMap) (k : Int) (b : Nat) : mput (mmap (fun b => AV.box b 0) ml) k (.box b 0) = mmap (fun b => AV.box b 0) (pput ml k b) := mput_mmap (fun b => AV.box b 0) k b ml
/-! What is pushed -/
structure Snt where
  last : Int
  base : BRow
  waits : List BRow
def encS (s : Snt) (a : AV) : AV := .agg [.int .i64 s.last, encRs s.base.recs, .int .i64 s.base.epoch, a]
def b0 : BRow := ⟨[], 0⟩
def s0 : Snt := ⟨0, b0, []⟩
def lastFour (l : List BRow) : List BRow := if 4 < l.length then l.drop 1 else l
def nextBase (s : Snt) (now : List Rc) : BRow := if 0 < (if (srt s.base.recs && srt now) = true then goneL s.base.recs now else []).length then b0 else s.base
def nextF (s : Snt) (now : List Rc) : Snt := ⟨s.last + 1, nextBase s now, lastFour (s.waits ++ [⟨now, s.last + 1⟩])⟩
def hasEp (e : Int) (x : BRow) : Bool := decide (x.epoch = e)
def ackF (s : Snt) (e : Int) : Snt := match s.waits[fidx (hasEp e) s.waits]? with
  | none => s
  | some w => ⟨s.last, w, s.waits.drop (fidx (hasEp e) s.waits + 1)⟩
def ackB (s : Snt) (e : Int) : Bool := decide (fidx (hasEp e) s.waits < s.waits.length)
def lackB (s : Snt) (e : Int) : Bool := decide (1 ≤ e) && decide (e ≤ s.last) && !decide (s.base.epoch = 0)
def lackF (s : Snt) (e : Int) : Snt := if lackB s e then ⟨s.last, b0, s.waits⟩ else s
def RowOk (x : BRow) : Prop := x.recs.length ≤ 1000 ∧ ∀ y ∈ x.recs, Small y.bag
structure SOk (s : Snt) : Prop where
  last : 0 ≤ s.last ∧ s.last < 65535
  base : RowOk s.base
  waits : s.waits.length ≤ 4 ∧ ∀ x ∈ s.waits, RowOk x
abbrev OA := PA encS Snt.waits s0
def OutIs (h : AHeap) (p r : Nat) (life : Int) (f : Int → Snt) : Prop := ∃ ml aw, OA h p (.agg [.int .i64 life, .map r]) r ml f aw
/-! What was pushed -/
structure Gt where
  life : Int
  rows : List BRow
def encG (g : Gt) (a : AV) : AV := .agg [.int .i64 g.life, a]
abbrev GA := PA (fun (o : Option Gt) a => match o with | none => AV.unk | some g => encG g a) (fun o => (o.map Gt.rows).getD []) (none : Option Gt)
def InIs (h : AHeap) (p r : Nat) (f : Int → Option Gt) : Prop := ∃ ml aw, GA h p (.agg [.map r]) r ml f aw ∧ ∀ k b, pget ml k = some b → (f k).isSome = true
def ptrOf : Option Nat → AV
  | none => .nilp
  | some b => .box b 0
theorem blook (ml : BMap) (k : Int) : (mget (mmap (fun b => AV.box b 0) ml) k).getD .nilp = ptrOf (pget ml k) := by
  rw [mget_mmap]; cases pget ml k <;> rfl
theorem blook_is (ml : BMap) (k : Int) : (mget (mmap (fun b => AV.box b 0) ml) k).isSome = (pget ml k).isSome := by
  rw [mget_mmap]; cases pget ml k <;> rfl
/-- The rows of a peer, as they lie behind what was written. -/
theorem sv_own {h h2 H : AHeap} {e : List (Nat × ARow)} {n b : Nat} {X Y : AV} {a : AV} {l : List AV} (hE : EffTo h h2 n e) (hs : h.sub H) (hb : h2 b = some (.box Y)) (hw : SV h2 2 a l) :
    (a = .nil0 ∧ l = []) ∨ ∃ x, a = .own x 2 0 l.length ∧ ((setAll H e).set b (.box X)) x = some (.row 2 l) ∧ (h x ≠ none ∨ n ≤ x) := by
  rcases hw with h1 | ⟨x, h1, h3⟩
  · exact .inl h1
  · have hxb : x ≠ b := fun e => by rw [e, hb] at h3; cases h3
    refine .inr ⟨x, h1, ?_, hE.some (by rw [h3]; simp)⟩
    rw [AHeap.get_set_ne _ _ hxb]; exact hE.within hs _ _ h3
theorem new_ne {G h2 : AHeap} {b r' n0 : Nat} {a : AV} {l : List AV} {X : ARow} {Z : AV} (hb : h2 b = some (.box Z)) (hw : SV h2 2 a l) (hr : ((G.set b X) r' = none ∧ n0 ≤ r') ∨ a = .own r' 2 0 l.length) : b ≠ r' := fun e => by
  subst e
  rcases hr with ⟨h1, _⟩ | h1
  · rw [AHeap.get_set] at h1; cases h1
  · rcases hw with ⟨h2, _⟩ | ⟨x, h2, h3⟩
    · rw [h1] at h2; cases h2
    · rw [h1] at h2; cases h2; rw [hb] at h3; cases h3
theorem sv_set {h : AHeap} {b : Nat} {X : ARow} {Y a : AV} {l : List AV} (hw : SV h 2 a l) (hb : h b = some (.box Y)) : SV (h.set b X) 2 a l := by
  rcases hw with h1 | ⟨x, h1, h2⟩
  · exact .inl h1
  · exact .inr ⟨x, h1, by rw [AHeap.get_set_ne _ _ (fun e => by rw [e, hb] at h2; cases h2)]; exact h2⟩
theorem nextBase_or (s : Snt) (now : List Rc) : nextBase s now = b0 ∨ nextBase s now = s.base := by
  unfold nextBase
  generalize (if (srt s.base.recs && srt now) = true then goneL s.base.recs now else []).length = q
  by_cases h : 0 < q
  · exact .inl (if_pos h)
  · exact .inr (if_neg h)
theorem b0_ok : RowOk b0 := ⟨by simp [b0], fun y hy => by simp [b0] at hy⟩
theorem nextBase_ok {s : Snt} {now : List Rc} (hS : SOk s) : RowOk (nextBase s now) := by
  rcases nextBase_or s now with h | h <;> rw [h]
  · exact b0_ok
  · exact hS.base
theorem set_two {h : AHeap} {c r : Nat} {x y z : ARow} (hc : h c = some y) (hne : c ≠ r) : ((h.set r x).set r z) c = some y := by
  rw [AHeap.get_set_ne _ _ hne, AHeap.get_set_ne _ _ hne]; exact hc
theorem cut_ne {h1 : AHeap} {a : AV} {r' c : Nat} {y : ARow} (hn : h1 r' = none ∨ ∃ n, a = .own r' 2 0 n) (hc : h1 c = some y) (hcw : ∀ n, a ≠ .own c 2 0 n) : c ≠ r' := fun e => by
  subst e
  rcases hn with g | ⟨n, g⟩
  · rw [hc] at g; cases g
  · exact hcw n g
theorem next_in {h h1 h2 H : AHeap} {e2 : List (Nat × ARow)} {n0 b r' : Nat} {X3 X4 Z a : AV} {l l' : List AV} (hE : EffTo h h2 n0 e2) (hs : h.sub H) (hb : h2 b = some (.box Z)) (hw : SV h2 2 a l) (hf : ∀ c y, h1 c = some y → c ≠ b → h2 c = some y)
    (hr : (((setAll H e2).set b (.box X3)) r' = none ∧ n0 ≤ r') ∨ a = .own r' 2 0 l.length) (hbr : b ≠ r') :
    EffTo h (((h2.set b (.box X3)).set r' (.row 2 l')).set b (.box X4)) n0 ((b, .box X4) :: (r', .row 2 l') :: (b, .box X3) :: e2) ∧ (((h2.set b (.box X3)).set r' (.row 2 l')).set b (.box X4)) b = some (.box X4) ∧ (((h2.set b (.box X3)).set r' (.row 2 l')).set b (.box X4)) r' = some (.row 2 l') ∧
      (∀ c y, h1 c = some y → c ≠ b → (∀ n, a ≠ .own c 2 0 n) → (((h2.set b (.box X3)).set r' (.row 2 l')).set b (.box X4)) c = some y) ∧ (h1 r' = none ∨ ∃ n, a = .own r' 2 0 n) ∧ b ≠ r' := by
  have hn : (h2 r' = none ∧ n0 ≤ r') ∨ (h2 r' ≠ none ∧ a = .own r' 2 0 l.length) := by
    rcases hr with ⟨g1, g2⟩ | g1
    · rw [AHeap.get_set_ne _ _ (Ne.symm hbr)] at g1
      exact .inl ⟨sub_none (hE.within hs) g1, g2⟩
    · refine .inr ⟨?_, g1⟩
      rcases hw with ⟨g2, _⟩ | ⟨x, g2, g3⟩
      · rw [g1] at g2; cases g2
      · rw [g1] at g2; cases g2; rw [g3]; simp
  have h1r : h1 r' = none ∨ ∃ n, a = .own r' 2 0 n := by
    rcases hn with ⟨g1, _⟩ | ⟨_, g1⟩
    · refine .inl ?_
      cases hx : h1 r' with
      | none => rfl
      | some y => rw [hf r' y hx (Ne.symm hbr)] at g1; cases g1
    · exact .inr ⟨_, g1⟩
  refine ⟨((hE.write _ (.inl (by rw [hb]; simp))).write _ ?_).write _ (.inl ?_), AHeap.get_set _ _ _, ?_, fun c y hc hcb hcw => ?_, h1r, hbr⟩
  · rcases hn with ⟨_, g⟩ | ⟨g, _⟩
    · exact .inr g
    · exact .inl (by rw [AHeap.get_set_ne _ _ (Ne.symm hbr)]; exact g)
  · rw [AHeap.get_set_ne _ _ hbr, AHeap.get_set]; simp
  · rw [AHeap.get_set_ne _ _ (Ne.symm hbr)]; exact AHeap.get_set _ _ _
  · rw [AHeap.get_set_ne _ _ hcb, AHeap.get_set_ne _ _ (cut_ne h1r hc hcw), AHeap.get_set_ne _ _ hcb]; exact hf c y hc hcb
end Go.Proofs.Ytobigfbgaiglkaa

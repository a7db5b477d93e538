/- Plain: two who push and are pushed to: what holds whatever is lost. -/
import Derived.Test.YtobigfbgaiglkaaPBase5
set_option linter.unusedVariables false
namespace Go.Proofs.Ytobigfbgaiglkaa
open Go.Proofs.Ytobigfbgaiglkaa.AM
/-- Parts of memory that lie apart, all of a call's own. -/
def Sep (n0 : Nat) (G : AHeap) (hs : List AHeap) : Prop := (∀ h ∈ hs, h.sub G ∧ ∀ b, h b ≠ none → n0 ≤ b) ∧ hs.Pairwise (fun a b => ∀ x, a x ≠ none → b x = none)
def noH : AHeap := fun _ => none
theorem Sep.zero (n0 : Nat) (G : AHeap) (k : Nat) : Sep n0 G (List.replicate k noH) := by
  refine ⟨fun h hh => ?_, ?_⟩
  · rw [List.eq_of_mem_replicate hh]; exact ⟨fun b x hb => (by cases hb), fun b hb => absurd rfl hb⟩
  · rw [List.pairwise_replicate]; exact .inr fun x hx => rfl
theorem apart_symm {a b : AHeap} (h : ∀ x, a x ≠ none → b x = none) : ∀ x, b x ≠ none → a x = none := fun x hx => by
  cases ha : a x with
  | none => rfl
  | some y => exact absurd (h x (by rw [ha]; simp)) hx
section
variable {n0 n : Nat} {G : AHeap} {l1 l2 : List AHeap} {h h' : AHeap} {e : List (Nat × ARow)}
theorem Sep.repl {G' : AHeap} (hS : Sep n0 G (l1 ++ h :: l2)) (h1 : h'.sub G') (h2 : ∀ b, h' b ≠ none → n0 ≤ b) (h3 : ∀ a, a ∈ l1 ∨ a ∈ l2 → a.sub G' ∧ ∀ x, h' x ≠ none → a x = none) : Sep n0 G' (l1 ++ h' :: l2) := by
  obtain ⟨g1, g2⟩ := hS
  rw [List.pairwise_append, List.pairwise_cons] at g2
  obtain ⟨p1, ⟨p2, p3⟩, p4⟩ := g2
  refine ⟨fun a ha => ?_, ?_⟩
  · rcases List.mem_append.1 ha with ha | ha
    · exact ⟨(h3 a (.inl ha)).1, (g1 a (by simp [ha])).2⟩
    · rcases List.mem_cons.1 ha with rfl | ha
      · exact ⟨h1, h2⟩
      · exact ⟨(h3 a (.inr ha)).1, (g1 a (by simp [ha])).2⟩
  · rw [List.pairwise_append, List.pairwise_cons]
    refine ⟨p1, ⟨fun a ha => (h3 a (.inr ha)).2, p3⟩, fun a ha b hb => ?_⟩
    rcases List.mem_cons.1 hb with rfl | hb
    · exact apart_symm (h3 a (.inl ha)).2
    · exact p4 a ha b (by simp [hb])
theorem Sep.apart (hS : Sep n0 G (l1 ++ h :: l2)) {a : AHeap} (ha : a ∈ l1 ∨ a ∈ l2) : ∀ x, h x ≠ Option.none → a x = Option.none := by
  have g2 := hS.2
  rw [List.pairwise_append, List.pairwise_cons] at g2
  rcases ha with ha | ha
  · exact apart_symm (g2.2.2 a ha h (by simp))
  · exact g2.2.1.1 a ha
theorem Sep.turn (hS : Sep n0 G (l1 ++ h :: l2)) (he : EffTo h h' n e) (hn : n0 ≤ n) (hdom : ∀ b, n ≤ b → G b = Option.none) : Sep n0 (setAll G e) (l1 ++ h' :: l2) := by
  have hh := hS.1 h (by simp)
  refine hS.repl (he.within hh.1) (he.above hn hh.2) fun a ha => ?_
  have has : a.sub G := (hS.1 a (by rcases ha with ha | ha <;> simp [ha])).1
  exact ⟨he.frame hdom has (hS.apart ha), he.apart (sub_dom has hdom) (hS.apart ha)⟩
/-- A part that is given up for a new one. -/
theorem Sep.fresh (hS : Sep n0 G (l1 ++ h :: l2)) (he : EffTo noH h' n e) (hn : n0 ≤ n) (hdom : ∀ b, n ≤ b → G b = Option.none) : Sep n0 (setAll G e) (l1 ++ h' :: l2) := by
  have h0 : Sep n0 G (l1 ++ noH :: l2) := hS.repl (fun b x hb => (by cases hb)) (fun b hb => absurd rfl hb) fun a ha => ⟨(hS.1 a (by rcases ha with ha | ha <;> simp [ha])).1, fun x hx => absurd rfl hx⟩
  exact h0.turn he hn hdom
theorem Sep.put {r : Nat} {x : ARow} (hS : Sep n0 G (l1 ++ h :: l2)) (hr : (G r = Option.none ∧ n0 ≤ r) ∨ h r ≠ Option.none) : Sep n0 (G.set r x) (l1 ++ oneH r x :: l2) := by
  have hh := hS.1 h (by simp)
  refine hS.repl (oneH_sub (AHeap.get_set _ _ _)) (fun b hb => ?_) fun a ha => ?_
  · by_cases e : b = r
    · subst e; rcases hr with hr | hr
      · exact hr.2
      · exact hh.2 _ hr
    · exact absurd (oneH_none (x := x) e) hb
  · have has : a.sub G := (hS.1 a (by rcases ha with ha | ha <;> simp [ha])).1
    have har : a r = Option.none := by
      rcases hr with hr | hr
      · exact sub_none has hr.1
      · exact hS.apart ha r hr
    refine ⟨fun b y hb => ?_, fun b hb => ?_⟩
    · rw [AHeap.get_set_ne _ _ (fun e => by rw [e, har] at hb; cases hb)]; exact has b y hb
    · by_cases e : b = r
      · rw [e]; exact har
      · exact absurd (oneH_none (x := x) e) hb
theorem Sep.sv {sz : Nat} {av : AV} {l : List AV} (hS : Sep n0 G (l1 ++ h :: l2)) (hV : SV h sz av l) : (av = .nil0 ∧ l = []) ∨ ∃ r, av = .own r sz 0 l.length ∧ G r = Option.some (.row sz l) ∧ (False ∨ n0 ≤ r) := by
  have hh := hS.1 h (by simp)
  rcases hV with hV | ⟨r, h1, h2⟩
  · exact .inl hV
  · exact .inr ⟨r, h1, hh.1 _ _ h2, .inr (hh.2 r (by rw [h2]; simp))⟩
theorem sv_here {sz r' : Nat} {av : AV} {l : List AV} (hV : SV h sz av l) (hr : (G r' = Option.none ∧ n0 ≤ r') ∨ av = .own r' sz 0 l.length) : (G r' = Option.none ∧ n0 ≤ r') ∨ h r' ≠ Option.none := by
  rcases hr with hr | hr
  · exact .inl hr
  · refine .inr ?_
    rcases hV with ⟨g, _⟩ | ⟨r, g, g2⟩
    · rw [hr] at g; cases g
    · rw [hr] at g; cases g; rw [g2]; simp
end
structure Ply where
  kind : Int
  n : Int
  now : List Rc
def encPl (a : Ply) : AV := .agg [.int .i64 a.kind, .int .i64 a.n, encRs a.now]
structure Push where
  life : Int
  epoch : Int
  base : Int
  under : List Rc
  d : List Rc
  now : List Rc
def encPu (p : Push) : AV := .agg [.int .i64 p.life, .int .i64 p.epoch, .int .i64 p.base, encRs p.under, encRs p.d, encRs p.now]
structure Ans where
  life : Int
  epoch : Int
  ok : Bool
def encAn (a : Ans) : AV := .agg [.int .i64 a.life, .int .i64 a.epoch, .bool a.ok]
def Was (out : List Push) (life epoch : Int) (l : List Rc) : Prop := ∃ y ∈ out, y.life = life ∧ y.epoch = epoch ∧ y.now = l
structure POk (out : List Push) (life last : Int) (x : Push) : Prop where
  lif : x.life ≤ life
  ep : 1 ≤ x.epoch
  las : x.life = life → x.epoch ≤ last
  nowk : FewR ⟨x.now, 0⟩
  und : FewR ⟨x.under, 0⟩
  dd : x.d = diffL x.under x.now
  gon : goneL x.under x.now = []
  bas : 0 ≤ x.base
  b00 : x.base = 0 → x.under = []
  bs : 0 < x.base → Was out x.life x.base x.under
structure PInv (k : Nat) (life : Int) (s : Snt) (o : Option Gt) (out : List Push) : Prop where
  life1 : 1 ≤ life ∧ life ≤ (k : Int) + 1
  sinv : SInv k s
  outs : ∀ x ∈ out, POk out life s.last x
  uniq : ∀ x ∈ out, ∀ y ∈ out, x.life = y.life → x.epoch = y.epoch → x.now = y.now
  sw : ∀ w ∈ s.waits, Was out life w.epoch w.recs
  sb : s.base = b0 ∨ (0 < s.base.epoch ∧ Was out life s.base.epoch s.base.recs)
  rows : ∀ g, o = some g → GOk g ∧ ∀ w ∈ g.rows, Was out g.life w.epoch w.recs
  len : out.length ≤ k
theorem PInv.zero : PInv 0 1 s0 none [] := ⟨⟨by decide, by decide⟩, SInv.zero 0, fun x h => (by cases h), fun x h => (by cases h), fun w h => (by simp [s0] at h), .inl rfl, fun g h => (by cases h), Nat.le_refl _⟩
theorem POk.mono {out out' : List Push} {life last life' last' : Int} {x : Push} (h : POk out life last x) (ho : ∀ y ∈ out, y ∈ out') (hl : life ≤ life') (hla : x.life = life' → life = life' ∧ last ≤ last') : POk out' life' last' x :=
  ⟨Int.le_trans h.lif hl, h.ep, fun e => Int.le_trans (h.las (by have := (hla e).1; omega)) (hla e).2, h.nowk, h.und, h.dd, h.gon, h.bas, h.b00, fun e => (h.bs e).imp fun y hy => ⟨ho y hy.1, hy.2⟩⟩
theorem Was.mono {out out' : List Push} {life epoch : Int} {l : List Rc} (h : Was out life epoch l) (ho : ∀ y ∈ out, y ∈ out') : Was out' life epoch l := h.imp fun y hy => ⟨ho y hy.1, hy.2⟩
section
variable {k : Nat} {life : Int} {s : Snt} {o : Option Gt} {out : List Push}
theorem PInv.mono {m : Nat} (h : PInv k life s o out) (hk : k ≤ m) : PInv m life s o out := ⟨⟨h.life1.1, by have := h.life1.2; omega⟩, h.sinv.mono hk, h.outs, h.uniq, h.sw, h.sb, h.rows, by have := h.len; omega⟩
theorem gone_next {now : List Rc} (hb : srt s.base.recs = true) (hn : srt now = true) : goneL (nextBase s now).recs now = [] := by
  unfold nextBase
  rw [hb, hn, Bool.and_self, if_pos rfl]
  by_cases h : 0 < (goneL s.base.recs now).length
  · rw [if_pos h]; rw [gone_srt (show srt b0.recs = true from rfl) hn]; rfl
  · rw [if_neg h]; exact List.eq_nil_of_length_eq_zero (by omega)
def newPush (life : Int) (s : Snt) (now : List Rc) : Push := ⟨life, s.last + 1, (nextBase s now).epoch, (nextBase s now).recs, diffL (nextBase s now).recs now, now⟩
theorem PInv.push (h : PInv k life s o out) {now : List Rc} (hn : now.length ≤ 20) (hs : ∀ x ∈ now, Small x.bag) (hy : srt now = true) : PInv (k + 1) life (nextF s now) o (out ++ [newPush life s now]) := by
  have hsub : ∀ y ∈ out, y ∈ out ++ [newPush life s now] := fun y hy => by simp [hy]
  have hl0 := h.sinv.last.1
  have hnb : (nextBase s now = b0) ∨ (0 < (nextBase s now).epoch ∧ Was out life (nextBase s now).epoch (nextBase s now).recs) := by
    rcases nextBase_or s now with e | e <;> rw [e]
    · exact .inl rfl
    · exact h.sb
  have hfew : FewR (nextBase s now) := by
    rcases nextBase_or s now with e | e <;> rw [e]
    · exact FewR.zero
    · exact h.sinv.base
  have hnow : Was (out ++ [newPush life s now]) life (s.last + 1) now := ⟨newPush life s now, by simp, rfl, rfl, rfl⟩
  refine ⟨⟨h.life1.1, by have := h.life1.2; omega⟩, h.sinv.next hn hs hy, fun x hx => ?_, fun x hx y hy' hxy he => ?_, fun w hw => ?_, hnb.imp id fun g => ⟨g.1, g.2.mono hsub⟩, fun g hg => ⟨(h.rows g hg).1, fun w hw => ((h.rows g hg).2 w hw).mono hsub⟩, by have := h.len; simp; omega⟩
  · rcases List.mem_append.1 hx with hx | hx
    · exact (h.outs x hx).mono hsub (Int.le_refl _) fun _ => ⟨rfl, by show s.last ≤ s.last + 1; omega⟩
    · simp at hx; subst hx
      refine ⟨Int.le_refl _, by show 1 ≤ s.last + 1; omega, fun _ => Int.le_refl _, ⟨hn, hs, hy⟩, hfew, rfl, gone_next h.sinv.base.2.2 hy, ?_, fun e => ?_, fun e => ?_⟩
      · show 0 ≤ (nextBase s now).epoch
        rcases hnb with g | g
        · rw [g]; simp [b0]
        · omega
      · show (nextBase s now).recs = []
        have e : (nextBase s now).epoch = 0 := e
        rcases hnb with g | g
        · rw [g]; rfl
        · omega
      · have e : 0 < (nextBase s now).epoch := e
        rcases hnb with g | g
        · rw [g] at e; simp [b0] at e
        · exact g.2.mono hsub
  · have hold : ∀ z ∈ out, z.life = life → z.epoch = s.last + 1 → False := fun z hz e1 e2 => by have := (h.outs z hz).las e1; omega
    rcases List.mem_append.1 hx with hx | hx <;> rcases List.mem_append.1 hy' with hy' | hy'
    · exact h.uniq x hx y hy' hxy he
    · simp at hy'; subst hy'; exact (hold x hx hxy he).elim
    · simp at hx; subst hx; exact (hold y hy' hxy.symm he.symm).elim
    · simp at hx hy'; rw [hx, hy']
  · have hw : w ∈ lastFour (s.waits ++ [⟨now, s.last + 1⟩]) := hw
    have hw' : w ∈ s.waits ++ [⟨now, s.last + 1⟩] := by
      unfold lastFour at hw; split at hw
      · exact List.mem_of_mem_drop hw
      · exact hw
    rcases List.mem_append.1 hw' with hw' | hw'
    · exact (h.sw w hw').mono hsub
    · simp at hw'; subst hw'; exact hnow
theorem PInv.ack (h : PInv k life s o out) (e : Int) : PInv k life (ackF s e) o out := by
  have hl : (ackF s e).last = s.last := by unfold ackF; split <;> rfl
  refine ⟨h.life1, h.sinv.ack e, fun x hx => by rw [hl]; exact h.outs x hx, h.uniq, fun w hw => ?_, ?_, h.rows, h.len⟩
  · unfold ackF at hw
    split at hw
    · exact h.sw w hw
    · exact h.sw w (List.mem_of_mem_drop hw)
  · unfold ackF
    split
    · exact h.sb
    · rename_i w hw
      exact .inr ⟨(h.sinv.wok w (mem_get hw)).2.1, h.sw w (mem_get hw)⟩
theorem PInv.lack (h : PInv k life s o out) (e : Int) : PInv k life (lackF s e) o out := by
  have hl : (lackF s e).last = s.last := by unfold lackF; split <;> rfl
  refine ⟨h.life1, h.sinv.lack e, fun x hx => by rw [hl]; exact h.outs x hx, h.uniq, fun w hw => ?_, ?_, h.rows, h.len⟩
  · unfold lackF at hw
    split at hw
    · exact h.sw w hw
    · exact h.sw w hw
  · unfold lackF
    split
    · exact .inl rfl
    · exact h.sb
theorem PInv.newIn (h : PInv k life s o out) : PInv k life s none out := ⟨h.life1, h.sinv, h.outs, h.uniq, h.sw, h.sb, fun g hg => (by cases hg), h.len⟩
theorem PInv.newOut (h : PInv k life s o out) : PInv (k + 1) (life + 1) s0 o out :=
  ⟨⟨by have := h.life1.1; omega, by have := h.life1.2; omega⟩, SInv.zero _, fun x hx => (h.outs x hx).mono (fun y hy => hy) (by omega) fun e => by have := (h.outs x hx).lif; omega, h.uniq, fun w hw => by simp [s0] at hw, .inl rfl, h.rows, by have := h.len; omega⟩
/-- What is found is what the push was laid upon. -/
theorem PInv.found (h : PInv k life s o out) {p : Push} (hp : p ∈ out) (hb : 0 < p.base) {l : List Rc} (hl : gFind o p.life p.base = some l) : l = p.under := by
  cases o with
  | none => cases hl
  | some g =>
    have hl : (if g.life = p.life then (g.rows[fidx (hasEp p.base) g.rows]?).map BRow.recs else none) = some l := hl
    split at hl
    · rename_i hg
      cases hw : g.rows[fidx (hasEp p.base) g.rows]? with
      | none => rw [hw] at hl; cases hl
      | some w =>
        rw [hw] at hl
        injection hl with hl
        have hf := fidx_find (hasEp p.base) g.rows
        rw [hw] at hf
        have he : w.epoch = p.base := by simpa [hasEp] using List.find?_some hf.symm
        obtain ⟨y, y1, y2, y3, y4⟩ := (h.rows g rfl).2 w (mem_get hw)
        obtain ⟨z, z1, z2, z3, z4⟩ := (h.outs p hp).bs hb
        rw [← hl, ← y4, ← z4]
        exact h.uniq y y1 z z1 (by omega) (by omega)
    · cases hl
theorem PInv.over (h : PInv k life s o out) {p : Push} (hp : p ∈ out) : srt p.under = true ∧ srt p.d = true ∧ overL p.under p.d = p.now := by
  have hx := h.outs p hp
  rw [hx.dd]
  exact ⟨hx.und.2.2, diff_sorted hx.und.2.2 hx.nowk.2.2, back_eq hx.und.2.2 hx.nowk.2.2 hx.gon⟩
theorem PInv.keep (h : PInv k life s o out) {p : Push} (hp : p ∈ out) : PInv k life s (keepF o p.life p.epoch p.base p.now) out := by
  have hx := h.outs p hp
  refine ⟨h.life1, h.sinv, h.outs, h.uniq, h.sw, h.sb, fun g hg => ⟨keepF_ok (fun g hg => (h.rows g hg).1) (Nat.le_trans hx.nowk.1 (by decide)) hx.nowk.2.1 g hg, fun w hw => ?_⟩, h.len⟩
  unfold keepF at hg
  split at hg
  · rename_i hk
    injection hg with hg; subst hg
    rcases (insRow_mem _ _ _).1 (trimR_mem hw) with rfl | hw
    · exact ⟨p, hp, rfl, rfl, rfl⟩
    · cases o with
      | none => simp [rows0] at hw
      | some g =>
        simp only [rows0] at hw
        split at hw
        · simp at hw
        · rename_i hlt
          have hgl : g.life = p.life := by
            simp only [keepB, Bool.and_eq_true, Bool.or_eq_true, decide_eq_true_eq] at hk
            rcases hk.2 with h9 | h9
            · exact absurd h9 hlt
            · exact h9.1
          have := (h.rows g rfl).2 w (List.mem_filter.1 hw).1
          rw [hgl] at this; exact this
  · exact (h.rows g hg).2 w hw
end
theorem PInv.okS {k : Nat} {life : Int} {s : Snt} {o : Option Gt} {out : List Push} (h : PInv k life s o out) (hk : k ≤ 100) : SOk s := h.sinv.ok hk
theorem empty_eff {p r n : Nat} {x y : ARow} (hp : n ≤ p) (hr : n ≤ r) : EffTo noH ((AHeap.set noH r x).set p y) n [(p, y), (r, x)] :=
  ⟨fun q hq => .inr (by simp at hq; rcases hq with rfl | rfl <;> assumption), AHeap.sub_refl _⟩
end Go.Proofs.Ytobigfbgaiglkaa

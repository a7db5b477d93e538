/- Plain: what is known of a peer behind any acts; the law's own words. -/
import Derived.Test.YtobigfbgaiglkaaPBase2
set_option linter.unusedVariables false
namespace Go.Proofs.Ytobigfbgaiglkaa
open Go.Proofs.Ytobigfbgaiglkaa.AM
def FewR (x : BRow) : Prop := x.recs.length ≤ 20 ∧ (∀ y ∈ x.recs, Small y.bag) ∧ srt x.recs = true
theorem FewR.ok {x : BRow} (h : FewR x) : RowOk x := ⟨Nat.le_trans h.1 (by decide), h.2.1⟩
theorem FewR.zero : FewR b0 := ⟨by simp [b0], fun y hy => by simp [b0] at hy, rfl⟩
structure SInv (k : Nat) (s : Snt) : Prop where
  last : 0 ≤ s.last ∧ s.last ≤ (k : Int)
  base : FewR s.base
  bep : 0 ≤ s.base.epoch
  wlen : s.waits.length ≤ 4
  wok : ∀ x ∈ s.waits, FewR x ∧ 0 < x.epoch ∧ x.epoch ≤ s.last
  rise : s.waits.Pairwise (fun a b => a.epoch < b.epoch)
theorem SInv.zero (k : Nat) : SInv k s0 := ⟨⟨Int.le_refl _, by simp [s0]⟩, FewR.zero, by simp [s0, b0], by simp [s0], fun x h => by simp [s0] at h, by simp [s0]⟩
theorem SInv.mono {k m : Nat} {s : Snt} (h : SInv k s) (hk : k ≤ m) : SInv m s := ⟨⟨h.last.1, by have := h.last.2; omega⟩, h.base, h.bep, h.wlen, h.wok, h.rise⟩
theorem SInv.ok {k : Nat} {s : Snt} (h : SInv k s) (hk : k ≤ 100) : SOk s := ⟨⟨h.last.1, by have := h.last.2; omega⟩, h.base.ok, h.wlen, fun x hx => (h.wok x hx).1.ok⟩
theorem SInv.next {k : Nat} {s : Snt} (h : SInv k s) {now : List Rc} (hn : now.length ≤ 20) (hs : ∀ x ∈ now, Small x.bag) (hy : srt now = true) : SInv (k + 1) (nextF s now) := by
  have hw : ∀ x ∈ s.waits ++ [⟨now, s.last + 1⟩], FewR x ∧ 0 < x.epoch ∧ x.epoch ≤ s.last + 1 := fun x hx => by
    rcases List.mem_append.1 hx with hx | hx
    · obtain ⟨h1, h2, h3⟩ := h.wok x hx; exact ⟨h1, h2, by omega⟩
    · simp at hx; subst hx; exact ⟨⟨hn, hs, hy⟩, by have := h.last.1; show 0 < s.last + 1; omega, Int.le_refl _⟩
  have hr : (s.waits ++ [(⟨now, s.last + 1⟩ : BRow)]).Pairwise (fun a b => a.epoch < b.epoch) := by
    rw [List.pairwise_append]
    refine ⟨h.rise, by simp, fun a ha b hb => ?_⟩
    simp at hb; subst hb
    have := (h.wok a ha).2.2; show a.epoch < s.last + 1; omega
  have hl : (s.waits ++ [(⟨now, s.last + 1⟩ : BRow)]).length = s.waits.length + 1 := by simp
  have h4 := h.wlen
  refine ⟨⟨by have := h.last.1; show 0 ≤ s.last + 1; omega, by have := h.last.2; show s.last + 1 ≤ ((k + 1 : Nat) : Int); omega⟩, ?_, ?_, ?_, fun x hx => ?_, ?_⟩
  · show FewR (nextBase s now)
    rcases nextBase_or s now with e | e <;> rw [e]
    · exact FewR.zero
    · exact h.base
  · show 0 ≤ (nextBase s now).epoch
    rcases nextBase_or s now with e | e <;> rw [e]
    · simp [b0]
    · exact h.bep
  · show (lastFour _).length ≤ 4
    unfold lastFour; split
    · rw [List.length_drop]; omega
    · omega
  · have hx' : x ∈ s.waits ++ [⟨now, s.last + 1⟩] := by
      have hx : x ∈ lastFour (s.waits ++ [⟨now, s.last + 1⟩]) := hx
      unfold lastFour at hx; split at hx
      · exact List.mem_of_mem_drop hx
      · exact hx
    exact hw x hx'
  · show (lastFour _).Pairwise _
    unfold lastFour; split
    · exact hr.sublist (List.drop_sublist _ _)
    · exact hr
theorem SInv.ack {k : Nat} {s : Snt} (h : SInv k s) (e : Int) : SInv k (ackF s e) := by
  unfold ackF
  cases hw : s.waits[fidx (hasEp e) s.waits]? with
  | none => exact h
  | some w =>
    have hm := mem_get hw
    obtain ⟨h1, h2, h3⟩ := h.wok w hm
    exact ⟨h.last, h1, by show 0 ≤ w.epoch; omega, by show (s.waits.drop _).length ≤ 4; have := h.wlen; rw [List.length_drop]; omega, fun x hx => h.wok x (List.mem_of_mem_drop hx), h.rise.sublist (List.drop_sublist _ _)⟩
theorem SInv.lack {k : Nat} {s : Snt} (h : SInv k s) (e : Int) : SInv k (lackF s e) := by
  unfold lackF; split
  · exact ⟨h.last, FewR.zero, by simp [b0], h.wlen, h.wok, h.rise⟩
  · exact h
/-- The epoch that is said back, as the law looks for it. -/
def AckU (s : Snt) (b : Bool) (e : Int) (k : Nat) (u : Int) : Prop :=
  (u = -1 ∧ ∀ w ∈ s.waits.take k, ¬ (w.epoch = e ∧ b = true)) ∨ ∃ (i : Nat) (w : BRow), u = (i : Int) ∧ s.waits[i]? = some w ∧ w.epoch = e ∧ b = true
theorem AckU.zero (s : Snt) (b : Bool) (e : Int) : AckU s b e 0 (-1) := .inl ⟨rfl, fun w hw => by simp at hw⟩
theorem AckU.hit {s : Snt} {b : Bool} {e : Int} {k : Nat} {w : BRow} (hw : s.waits[k]? = some w) (h1 : w.epoch = e) (h2 : b = true) : AckU s b e (k + 1) (k : Int) := .inr ⟨k, w, rfl, hw, h1, h2⟩
theorem AckU.miss {s : Snt} {b : Bool} {e u : Int} {k : Nat} {w : BRow} (h : AckU s b e k u) (hw : s.waits[k]? = some w) (h1 : ¬ (w.epoch = e ∧ b = true)) : AckU s b e (k + 1) u := by
  rcases h with ⟨g1, g2⟩ | h
  · refine .inl ⟨g1, fun x hx => ?_⟩
    rw [List.take_add_one, hw] at hx
    rcases List.mem_append.1 hx with hx | hx
    · exact g2 x hx
    · simp at hx; subst hx; exact h1
  · exact .inr h
theorem fidx_at {l : List BRow} (hr : l.Pairwise (fun a b => a.epoch < b.epoch)) {i : Nat} {w : BRow} (hw : l[i]? = some w) : fidx (hasEp w.epoch) l = i := by
  induction l generalizing i with
  | nil => simp at hw
  | cons x l ih =>
    have hr' := List.pairwise_cons.1 hr
    cases i with
    | zero => simp at hw; subst hw; simp [fidx, hasEp]
    | succ i =>
      have hw' : l[i]? = some w := by simpa using hw
      have hlt := hr'.1 w (mem_get hw')
      have e : hasEp w.epoch x = false := by simp [hasEp]; omega
      rw [fidx, if_neg (by simp [e]), ih hr'.2 hw']
theorem AckU.done {s : Snt} {b : Bool} {e u : Int} (hr : s.waits.Pairwise (fun a b => a.epoch < b.epoch)) (h : AckU s b e s.waits.length u) :
    decide (0 ≤ u) = (b && ackB s e) ∧ (0 ≤ u → ∃ (i : Nat) (w : BRow), u = (i : Int) ∧ s.waits[i]? = some w ∧ ackF s e = ⟨s.last, w, s.waits.drop (i + 1)⟩ ∧ b = true) ∧ (¬ 0 ≤ u → (if b = true then ackF s e else s) = s) := by
  rcases h with ⟨rfl, h2⟩ | ⟨i, w, rfl, h2, rfl, rfl⟩
  · have hno : b = true → fidx (hasEp e) s.waits = s.waits.length := fun hb => by
      rw [List.take_length] at h2
      rcases Nat.lt_or_ge (fidx (hasEp e) s.waits) s.waits.length with hlt | hge
      · obtain ⟨w, hw⟩ := get_some hlt
        have hf := fidx_find (hasEp e) s.waits
        rw [hw] at hf
        have := List.find?_some hf.symm
        exact absurd ⟨by simpa [hasEp] using this, hb⟩ (h2 w (mem_get hw))
      · have := fidx_le (hasEp e) s.waits; omega
    refine ⟨?_, fun h => by omega, fun _ => ?_⟩
    · cases b
      · rfl
      · rw [ackB, hno rfl]; simp
    · cases b
      · simp
      · rw [if_pos rfl, ackF, List.getElem?_eq_none (by rw [hno rfl]; exact Nat.le_refl _)]
  · have hf := fidx_at hr h2
    have hlt := (List.getElem?_eq_some_iff.1 h2).1
    refine ⟨?_, fun _ => ⟨i, w, rfl, h2, by rw [ackF, hf, h2], rfl⟩, fun h => by omega⟩
    rw [ackB, hf]; simp [hlt]
/-! The law's own words -/
def encW (x : BRow) : AV := .agg [.int .i64 x.epoch, encRs x.recs]
def encOP (s : Snt) : AV := .agg [.int .i64 s.last, .int .i64 s.base.epoch, encRs s.base.recs, .imm (s.waits.map encW)]
structure OAct where
  kind : Int
  peer : Int
  life : Int
  epoch : Int
  now : List Rc
def encOA (a : OAct) : AV := .agg [.int .i64 a.kind, .int .i64 a.peer, .int .i64 a.life, .int .i64 a.epoch, encRs a.now]
def goneAny (a b : List Rc) : Bool := a.any (isGone b)
theorem goneAny_gone {a b : List Rc} (ha : srt a = true) (hb : srt b = true) : goneAny a b = decide (0 < (if (srt a && srt b) = true then goneL a b else []).length) := by
  rw [ha, hb, Bool.and_self, if_pos rfl, gone_srt ha hb, List.length_map]
  unfold goneAny
  induction a with
  | nil => rfl
  | cons x a ih =>
    have ih' : a.any (isGone b) = decide (0 < (a.filter (isGone b)).length) := by
      clear ih ha
      induction a with
      | nil => rfl
      | cons y a ih => by_cases h : isGone b y = true <;> simp [List.filter_cons, h, ih]
    by_cases h : isGone b x = true <;> simp [List.filter_cons, h, ih']
theorem nextBase_gone {s : Snt} {now : List Rc} (hb : srt s.base.recs = true) (hn : srt now = true) : nextBase s now = if goneAny s.base.recs now then b0 else s.base := by
  rw [nextBase, goneAny_gone hb hn]; simp
theorem pair_at (f : Int → Snt) {x : Int} {j : Nat} (hx : x = (j : Int)) (h : x ≤ 1) : ([f 0, f 1].map encOP)[j]? = some (encOP (f x)) := by
  subst hx
  have : j = 0 ∨ j = 1 := by omega
  rcases this with rfl | rfl <;> rfl
theorem pair_set (f : Int → Snt) (s : Snt) {x : Int} {j : Nat} (hx : x = (j : Int)) (h : x ≤ 1) : ([f 0, f 1].map encOP).set j (encOP s) = [upd f x s 0, upd f x s 1].map encOP := by
  subst hx
  have : j = 0 ∨ j = 1 := by omega
  rcases this with rfl | rfl
  · simp [upd]
  · simp [upd]
def rA : Rc := ⟨1, 0, 0, ⟨1, 3⟩, false, []⟩
def rB : Rc := ⟨2, 0, 0, ⟨1, 3⟩, false, []⟩
theorem small_nil : Small [] := by simp [Small, bsize]
theorem empty_above {h : AHeap} {p r n0 : Nat} {x y : ARow} (hh : (AHeap.set (fun _ => none) r x).set p y = h) (hp : n0 ≤ p) (hr : n0 ≤ r) : ∀ b, h b ≠ none → n0 ≤ b := fun b hb => by
  subst hh
  by_cases e : b = p
  · omega
  · by_cases e2 : b = r
    · omega
    · simp [AHeap.set, e, e2] at hb
theorem empty_sub {H : AHeap} {p r : Nat} {x y : ARow} : ((AHeap.set (fun _ => none) r x).set p y).sub (setAll H [(p, y), (r, x)]) := sub_set_set (sub_set_set (fun b x hb => by cases hb) r x) p y
/-- A block that is not of that part stays as it is. -/
theorem EffTo.keep_one {h h' G : AHeap} {n b : Nat} {x : ARow} {e : List (Nat × ARow)} (he : EffTo h h' n e) (hdom : ∀ c, n ≤ c → G c = none) (hG : G b = Option.some x) (hh : h b = none) : (setAll G e) b = Option.some x ∧ h' b = none := by
  refine ⟨he.frame hdom (oneH_sub hG) (fun c hc => oneH_none fun e1 => hc (by rw [e1]; exact hh)) _ _ (oneH_get _ _), ?_⟩
  cases hx : h' b with
  | none => rfl
  | some y =>
    rcases he.some (b := b) (by rw [hx]; simp) with g | g
    · exact absurd hh g
    · rw [hdom _ g] at hG; cases hG
theorem lackB_law {s : Snt} {e : Int} (hb : 0 ≤ s.base.epoch) : lackB s e = (decide (1 ≤ e) && decide (e ≤ s.last) && decide (0 < s.base.epoch)) := by
  have : (!decide (s.base.epoch = 0)) = decide (0 < s.base.epoch) := by
    by_cases h : s.base.epoch = 0
    · simp [h]
    · simp [h]; omega
  rw [lackB, this]
theorem pair_inv {f : Int → Snt} {k : Nat} {x : Int} (h0 : SInv k (f 0)) (h1 : SInv k (f 1)) (hx : 0 ≤ x) (hx1 : x ≤ 1) : SInv k (f x) := by
  have : x = 0 ∨ x = 1 := by omega
  rcases this with rfl | rfl <;> assumption
theorem upd_inv {f : Int → Snt} {k : Nat} {x y : Int} {s : Snt} (h : SInv k (f y)) (hs : SInv (k + 1) s) : SInv (k + 1) (upd f x s y) := by
  unfold upd; split
  · exact hs
  · exact h.mono (by omega)
end Go.Proofs.Ytobigfbgaiglkaa

/- Plain: the list that a closure appends to; each step of what has happened between two views; what the laws of events ask. -/
import Derived.Test.YtgipbhfblmblcaaPEvent
set_option linter.unusedVariables false
namespace Go.Proofs.Ytgipbhfblmblcaa
open Go.Proofs.Ytgipbhfblmblcaa.AM
structure OfSt (n0 q p : Nat) (H G : AHeap) (a : Rc) (out : List Ev) : Prop where
  out : ∃ ao, G q = some (.box ao) ∧ SV G 2 ao (out.map encE) ∧ ∀ r k, ao = .own r 2 0 k → n0 ≤ r
  arec : G p = some (.box (encR a))
  sub : H.sub G
  fq : n0 ≤ q
  fp : n0 ≤ p
  ne : p ≠ q
/-- What the closure leaves behind. -/
def PutE (n q : Nat) (c : Bool) (k id : Int) (ao : AV) (out : List Ev) (effs : List (Nat × ARow)) : Prop :=
  (c = false ∧ effs = []) ∨ (c = true ∧ ∃ r', (n ≤ r' ∨ ∃ j, ao = .own r' 2 0 j) ∧ effs = [(q, .box (.own r' 2 0 ((out ++ [(⟨k, id⟩ : Ev)]).map encE).length)), (r', .row 2 ((out ++ [(⟨k, id⟩ : Ev)]).map encE))])
theorem OfSt.step {n0 n p q : Nat} {c : Bool} {k : Int} {a : Rc} {ao : AV} {H G : AHeap} {out : List Ev} {effs : List (Nat × ARow)} (hz : ∀ b, n0 ≤ b → H b = none) (h : OfSt n0 q p H G a out) (hn : n0 ≤ n) (hdom : ∀ b, n ≤ b → G b = none)
    (hq : G q = some (.box ao)) (ho : SV G 2 ao (out.map encE)) (hof : ∀ r k, ao = .own r 2 0 k → n0 ≤ r) (he : PutE n q c k a.id ao out effs) : OfSt n0 q p H (setAll G effs) a (out ++ evI c k a.id) := by
  rcases he with ⟨rfl, rfl⟩ | ⟨rfl, r', hr', rfl⟩
  · rw [show evI false k a.id = [] from rfl, List.append_nil]; exact h
  · have key : ∀ (x : ARow), (∀ sz l, x ≠ .row sz l) → ∀ b, G b = some x → b ≠ r' := fun x hx b hb e => by
      subst e
      rcases hr' with h1 | ⟨k, rfl⟩
      · rw [hdom _ h1] at hb; cases hb
      · rcases ho with ⟨h2, _⟩ | ⟨r, h2, h3⟩
        · cases h2
        · cases h2; rw [h3] at hb; cases hb; exact hx _ _ rfl
    have hqr : q ≠ r' := key _ (fun _ _ e => by cases e) q hq
    have hpr : p ≠ r' := key _ (fun _ _ e => by cases e) p h.arec
    have hr0 : n0 ≤ r' := by
      rcases hr' with h1 | ⟨k, rfl⟩
      · omega
      · exact hof _ _ rfl
    rw [show evI true k a.id = [⟨k, a.id⟩] from rfl]
    have eG : setAll G [(q, .box (.own r' 2 0 ((out ++ [(⟨k, a.id⟩ : Ev)]).map encE).length)), (r', .row 2 ((out ++ [(⟨k, a.id⟩ : Ev)]).map encE))] = (G.set r' (.row 2 ((out ++ [(⟨k, a.id⟩ : Ev)]).map encE))).set q (.box (.own r' 2 0 ((out ++ [(⟨k, a.id⟩ : Ev)]).map encE).length)) := rfl
    rw [eG]
    refine ⟨⟨_, AHeap.get_set _ _ _, .inr ⟨r', rfl, by rw [AHeap.get_set_ne _ _ (Ne.symm hqr), AHeap.get_set]⟩, fun r j e => by cases e; exact hr0⟩, ?_, ?_, h.fq, h.fp, h.ne⟩
    · rw [AHeap.get_set_ne _ _ h.ne, AHeap.get_set_ne _ _ hpr]; exact h.arec
    · exact sub_set_free _ (sub_set_free _ h.sub (hz _ hr0)) (hz _ h.fq)
theorem happL_len (a b : List Rc) (id : Int) (k : Nat) : (happL a b id k).length ≤ k := by
  unfold happL; rw [List.length_map]
  have := List.length_filter_le (happP a b id) (List.range k)
  rw [List.length_range] at this; exact this
theorem sp_iff (a b : Sp) : a = b ↔ a.lo = b.lo ∧ a.hi = b.hi := by
  obtain ⟨_, _⟩ := a; obtain ⟨_, _⟩ := b; simp
theorem spl_eq (a b : Sp) : ([a.lo, a.hi] = [b.lo, b.hi]) ↔ a = b := by
  obtain ⟨_, _⟩ := a; obtain ⟨_, _⟩ := b; simp
theorem ev_ext {x y : Ev} (h1 : x.k = y.k) (h2 : x.id = y.id) : x = y := by
  obtain ⟨_, _⟩ := x; obtain ⟨_, _⟩ := y; simp at h1 h2; rw [h1, h2]
theorem evs_lost {a b : List Rc} {x : Rc} (ha : a[0]? = some x) (h : b.length = 0 ∨ ∃ y, b[0]? = some y ∧ x.id < y.id) : evL a b = [⟨9, x.id⟩] ++ evL a.tail b := by
  cases a with
  | nil => simp at ha
  | cons u a =>
    simp at ha; subst ha
    cases b with
    | nil => rw [ev_left]; rfl
    | cons v b =>
      rcases h with h | ⟨y, hy, h⟩
      · simp at h
      · simp at hy; subst hy; rw [ev_lt a b h]; rfl
theorem evs_came {a b : List Rc} {y : Rc} (hb : b[0]? = some y) (h : a.length = 0 ∨ ∃ x, a[0]? = some x ∧ y.id < x.id) : evL a b = [⟨1, y.id⟩] ++ evL a b.tail := by
  cases b with
  | nil => simp at hb
  | cons u b =>
    simp at hb; subst hb
    cases a with
    | nil => rw [ev_right]; rfl
    | cons v a =>
      rcases h with h | ⟨x, hx, h⟩
      · simp at h
      · simp at hx; subst hx; rw [ev_gt a b h]; rfl
theorem evs_both {a b : List Rc} {x y : Rc} (ha : a[0]? = some x) (hb : b[0]? = some y) (h : x.id = y.id) : evL a b = ofL x y ++ evL a.tail b.tail := by
  cases a with
  | nil => simp at ha
  | cons u a => cases b with
    | nil => simp at hb
    | cons v b => simp at ha hb; subst ha; subst hb; exact ev_eq a b h
theorem mem_tail {α : Type} {l m : List α} (h : ∀ x ∈ l, x ∈ m) : ∀ x ∈ l.tail, x ∈ m := fun x hx => h x (List.mem_of_mem_tail hx)
theorem ev_keep {a b a' b' a2 b2 : List Rc} {acc m : List Ev} (h : acc ++ evL a' b' = evL a b) (hn : acc.length + 4 * (a'.length + b'.length) ≤ 4 * (a.length + b.length)) (he : evL a' b' = m ++ evL a2 b2) (hm : m.length ≤ 4) (hl : a2.length + b2.length < a'.length + b'.length) :
    a2.length + b2.length < a'.length + b'.length ∧ (acc ++ m) ++ evL a2 b2 = evL a b ∧ (acc ++ m).length + 4 * (a2.length + b2.length) ≤ 4 * (a.length + b.length) := by
  refine ⟨hl, by rw [List.append_assoc, ← he, h], ?_⟩
  rw [List.length_append]; omega
theorem ev_lens {a b a' b' : List Rc} {acc : List Ev} (hn : acc.length + 4 * (a'.length + b'.length) ≤ 4 * (a.length + b.length)) : acc.length ≤ 4 * (a.length + b.length) := by omega
def encEs (l : List Ev) : AV := .imm (l.map encE)
/-- Between's answer. -/
def evB (a b : List Rc) : List Ev := if (srt a && srt b) = true then evL a b else []
theorem evB_len (a b : List Rc) : (evB a b).length ≤ 4 * (a.length + b.length) := by
  unfold evB; split
  · exact ev_len a b
  · simp
/-- What the law says of one kind. -/
theorem happ_none {o p : Option Rc} {k : Int} (h : ¬ (o.isSome = true ∧ p.isSome = true)) : happ o p k = ((decide (k = 1) && p.isSome) || (decide (k = 9) && o.isSome)) := by
  cases o <;> cases p <;> simp [happ] at h ⊢
/-- What stands in the list: of one id in both views, or in one. -/
def EvOk (a b : List Rc) (e : Ev) : Prop := (∃ x y, x ∈ a ∧ y ∈ b ∧ x.id = y.id ∧ e ∈ ofL x y ∧ ∀ e' ∈ ofL x y, e' ∈ evL a b) ∨ (e.k = 9 ∧ ∃ x ∈ a, e.id = x.id ∧ fnd b x.id = none) ∨ (e.k = 1)
theorem ev_ok : ∀ (n : Nat) (a b : List Rc) (s : Int), a.length + b.length ≤ n → incr s a → incr s b → ∀ e ∈ evL a b, EvOk a b e
  | _, [], [], _, _, _, _, e, he => by simp [ev_nil] at he
  | 0, _ :: _, _, _, h, _, _, _, _ => by simp at h
  | 0, [], _ :: _, _, h, _, _, _, _ => by simp at h
  | n + 1, x :: a, [], s, hn, ha, hb, e, he => by
    rw [ev_left] at he
    rcases List.mem_cons.1 he with rfl | he
    · exact .inr (.inl ⟨rfl, x, by simp, rfl, rfl⟩)
    · rcases ev_ok n a [] x.id (by simp at hn ⊢; omega) ha.2 trivial e he with ⟨u, v, h1, h2, h3⟩ | ⟨h1, u, h2, h3⟩ | h
      · simp at h2
      · exact .inr (.inl ⟨h1, u, by simp [h2], h3⟩)
      · exact .inr (.inr h)
  | n + 1, [], y :: b, s, hn, ha, hb, e, he => by
    rw [ev_right] at he
    rcases List.mem_cons.1 he with rfl | he
    · exact .inr (.inr rfl)
    · rcases ev_ok n [] b y.id (by simp at hn ⊢; omega) trivial hb.2 e he with ⟨u, v, h1, h2, h3⟩ | ⟨h1, u, h2, h3⟩ | h
      · simp at h1
      · simp at h2
      · exact .inr (.inr h)
  | n + 1, x :: a, y :: b, s, hn, ha, hb, e, he => by
    simp only [List.length_cons] at hn
    rcases Int.lt_trichotomy x.id y.id with h | h | h
    · rw [ev_lt a b h] at he
      rcases List.mem_cons.1 he with rfl | he
      · exact .inr (.inl ⟨rfl, x, by simp, rfl, fnd_none (l := y :: b) (s := x.id) ⟨h, hb.2⟩ (Int.le_refl _)⟩)
      · rcases ev_ok n a (y :: b) x.id (by simp; omega) ha.2 ⟨h, hb.2⟩ e he with ⟨u, v, h1, h2, h3, h4, h5⟩ | ⟨h1, u, h2, h3⟩ | h'
        · exact .inl ⟨u, v, by simp [h1], h2, h3, h4, fun e' he' => by rw [ev_lt a b h]; exact List.mem_cons_of_mem _ (h5 e' he')⟩
        · exact .inr (.inl ⟨h1, u, by simp [h2], h3⟩)
        · exact .inr (.inr h')
    · rw [ev_eq a b h] at he
      rcases List.mem_append.1 he with he | he
      · exact .inl ⟨x, y, by simp, by simp, h, he, fun e' he' => by rw [ev_eq a b h]; exact List.mem_append_left _ he'⟩
      · rcases ev_ok n a b x.id (by omega) ha.2 (h ▸ hb.2) e he with ⟨u, v, h1, h2, h3, h4, h5⟩ | ⟨h1, u, h2, h3, h4⟩ | h'
        · exact .inl ⟨u, v, by simp [h1], by simp [h2], h3, h4, fun e' he' => by rw [ev_eq a b h]; exact List.mem_append_right _ (h5 e' he')⟩
        · refine .inr (.inl ⟨h1, u, by simp [h2], h3, ?_⟩)
          have := incr_lt ha.2 u h2
          rw [fnd_cons, if_neg (by omega)]; exact h4
        · exact .inr (.inr h')
    · rw [ev_gt a b h] at he
      rcases List.mem_cons.1 he with rfl | he
      · exact .inr (.inr rfl)
      · rcases ev_ok n (x :: a) b y.id (by simp; omega) ⟨h, ha.2⟩ hb.2 e he with ⟨u, v, h1, h2, h3, h4, h5⟩ | ⟨h1, u, h2, h3, h4⟩ | h'
        · exact .inl ⟨u, v, h1, by simp [h2], h3, h4, fun e' he' => by rw [ev_gt a b h]; exact List.mem_cons_of_mem _ (h5 e' he')⟩
        · refine .inr (.inl ⟨h1, u, h2, h3, ?_⟩)
          have : y.id < u.id := incr_lt (l := x :: a) ⟨h, ha.2⟩ u h2
          rw [fnd_cons, if_neg (by omega)]; exact h4
        · exact .inr (.inr h')
theorem evI_mem {c : Bool} {k i : Int} {e : Ev} (h : e ∈ evI c k i) : c = true ∧ e = ⟨k, i⟩ := by
  unfold evI at h; split at h
  · exact ⟨by assumption, by simpa using h⟩
  · simp at h
theorem ofL_mem {x y : Rc} {e : Ev} (h : e ∈ ofL x y) : e.id = x.id ∧ e.k ≠ 9 ∧ (e.k = 5 → x.st ≠ y.st ∧ y.st ≠ 1 ∧ y.st ≠ 2 ∧ y.st ≠ 3) := by
  unfold ofL at h
  simp only [List.mem_append] at h
  rcases h with ((h | h) | h) | h
  · obtain ⟨h1, rfl⟩ := evI_mem h
    have h1 := of_decide_eq_true h1
    refine ⟨rfl, ?_, fun h5 => ⟨h1, ?_⟩⟩
    · show turned y.st ≠ 9; unfold turned; split <;> (try split) <;> (try split) <;> decide
    · have h5 : turned y.st = 5 := h5
      unfold turned at h5; split at h5
      · cases h5
      · split at h5
        · cases h5
        · split at h5
          · cases h5
          · exact ⟨by assumption, by assumption, by assumption⟩
  all_goals (obtain ⟨h1, rfl⟩ := evI_mem h; refine ⟨rfl, by simp, fun h5 => by simp at h5⟩)
theorem merge_above {b m : List Rc} (hb : srt b = true) (hm : srt m = true) : ∀ x ∈ b, ∃ y, fnd (mergeL [b, m].flatten) x.id = some y ∧ x.id = y.id ∧ jn x y = y := by
  intro x hx
  have hvb := (srt_incr hb).2
  have hvm := (srt_incr hm).2
  have hv : ∀ r ∈ [b, m].flatten, recValid r = true := fun r hr => by
    simp at hr; rcases hr with hr | hr
    · exact hvb r hr
    · exact hvm r hr
  have hu : under b (mergeL [b, m].flatten) = true := under_merge hb hv fun id => by
    rw [show [b, m].flatten = b ++ m from by simp, acc_append, ← ojn2_assoc, ojn2_idem]
  have h1 := List.all_eq_true.1 hu x hx
  obtain ⟨y, hy, h2⟩ := List.any_eq_true.1 h1
  rw [below_jn, Bool.and_eq_true, decide_eq_true_eq, decide_eq_true_eq] at h2
  refine ⟨y, ?_, h2.1, h2.2⟩
  rw [h2.1]
  exact mem_find (srt_incr (mergeL_srt hv)).1 hy
theorem grow_evs {b m : List Rc} (hb : srt b = true) (hm : srt m = true) : ∀ e ∈ evL b (mergeL [b, m].flatten), e.k ≠ 9 ∧ (e.k = 5 → (⟨8, e.id⟩ : Ev) ∈ evL b (mergeL [b, m].flatten)) := by
  intro e he
  have hv : ∀ r ∈ [b, m].flatten, recValid r = true := fun r hr => by
    simp at hr; rcases hr with hr | hr
    · exact (srt_incr hb).2 r hr
    · exact (srt_incr hm).2 r hr
  have hs := srt_incr (mergeL_srt hv)
  rcases ev_ok _ b _ (-1) (Nat.le_refl _) (srt_incr hb).1 hs.1 e he with ⟨x, y, hx, hy, hid, h1, h2⟩ | ⟨h1, x, hx, h2, h3⟩ | h
  · obtain ⟨y', hy', _, hj⟩ := merge_above hb hm x hx
    have hyy : y' = y := by
      have := mem_find hs.1 hy
      rw [← hid] at this
      exact Option.some.inj (hy'.symm.trans this)
    subst hyy
    obtain ⟨g1, g2, g3⟩ := ofL_mem h1
    refine ⟨g2, fun h5 => h2 _ ?_⟩
    obtain ⟨g4, g5, g6, g7⟩ := g3 h5
    have hy0 := hs.2 y' hy
    have hx0 := (srt_incr hb).2 x hx
    simp [recValid] at hy0 hx0
    have hinc : x.inc ≠ y'.inc := fun hi => by
      rw [jn_eq hi] at hj
      have : max x.st y'.st = y'.st := congrArg Rc.st hj
      omega
    unfold ofL
    rw [g1]
    exact List.mem_append_right _ (by simp [evI, hinc])
  · obtain ⟨y, hy, _⟩ := merge_above hb hm x hx
    rw [h3] at hy; cases hy
  · exact ⟨by omega, fun h5 => by omega⟩
end Go.Proofs.Ytgipbhfblmblcaa

/- The abstract machine, part 7: a call's own variables, told by their places in the frame. -/
import Derived.Test.YtgedefcjngofkaaAm6
set_option linter.unusedVariables false
set_option linter.unusedSimpArgs false
namespace Go.Proofs.Ytgedefcjngofkaa.AM
open Go

abbrev LPtr := List (Nat × Nat × Nat)
def lget : LPtr → Nat → Option (Nat × Nat)
  | [], _ => none
  | (k, v) :: r, t => match Nat.beq k t with
    | true => some v
    | false => lget r t
def ldel : LPtr → Nat → LPtr
  | [], _ => []
  | (k, v) :: r, t => match Nat.beq k t with
    | true => ldel r t
    | false => (k, v) :: ldel r t
def edel : Env → Nat → Env
  | [], _ => []
  | (k, v) :: r, t => match Nat.beq k t with
    | true => edel r t
    | false => (k, v) :: edel r t

theorem ldel_get : ∀ (L : LPtr) (d t : Nat), lget (ldel L d) t = if d = t then none else lget L t
  | [], d, t => by simp [ldel, lget]
  | (k, v) :: r, d, t => by
    have ih := ldel_get r d t
    simp only [ldel]
    cases h : Nat.beq k d with
    | true =>
      have := Nat.eq_of_beq_eq_true h; subst this
      simp only [ih, lget]
      split
      · rfl
      · rename_i hne
        have : Nat.beq k t = false := by
          cases hb : Nat.beq k t with
          | true => exact absurd (Nat.eq_of_beq_eq_true hb) hne
          | false => rfl
        rw [this]
    | false =>
      simp only [lget, ih]
      cases hb : Nat.beq k t with
      | true =>
        have := Nat.eq_of_beq_eq_true hb; subst this
        have : d ≠ k := fun e => by subst e; rw [Nat.beq_refl] at h; cases h
        simp [this]
      | false => rfl
theorem edel_get : ∀ (L : Env) (d t : Nat), (edel L d).get t = if d = t then none else L.get t
  | [], d, t => by simp [edel, Env.get]
  | (k, v) :: r, d, t => by
    have ih := edel_get r d t
    simp only [edel]
    cases h : Nat.beq k d with
    | true =>
      have := Nat.eq_of_beq_eq_true h; subst this
      simp only [ih, Env.get]
      split
      · rfl
      · rename_i hne
        have : Nat.beq k t = false := by
          cases hb : Nat.beq k t with
          | true => exact absurd (Nat.eq_of_beq_eq_true hb) hne
          | false => rfl
        rw [this]
    | false =>
      simp only [Env.get, ih]
      cases hb : Nat.beq k t with
      | true =>
        have := Nat.eq_of_beq_eq_true hb; subst this
        have : d ≠ k := fun e => by subst e; rw [Nat.beq_refl] at h; cases h
        simp [this]
      | false => rfl

def full (ρ : Nat → Nat) (env : Env) (L : LPtr) : Env := L.map (fun p => (p.1, AV.box (ρ p.2.1) p.2.2)) ++ env
theorem full_get (ρ : Nat → Nat) (env : Env) (t : Nat) : ∀ L : LPtr, (full ρ env L).get t = match lget L t with
    | some (s, o) => some (.box (ρ s) o)
    | none => env.get t
  | [] => rfl
  | (k, s, o) :: r => by
    have ih := full_get ρ env t r
    simp only [full, List.map_cons, List.cons_append, Env.get, lget]
    cases h : Nat.beq k t with
    | true => rfl
    | false => exact ih

def boxes (ρ : Nat → Nat) (G : AHeap) : Env → AHeap
  | [] => G
  | (s, v) :: r => (boxes ρ G r).set (ρ s) (.box v)

structure Good (c : Ctx) (G : AHeap) (B : Env) (ρ : Nat → Nat) : Prop where
  fresh : ∀ s v, B.get s = some v → G (ρ s) = none ∧ c.w0.heap.size ≤ ρ s
  inj : ∀ s s' v v', B.get s = some v → B.get s' = some v' → ρ s = ρ s' → s = s'

theorem get_cons_self (s : Nat) (v : AV) (B : Env) : Env.get ((s, v) :: B) s = some v := by simp [Env.get]
theorem get_tail {s t : Nat} {u v : AV} {B : Env} (h : B.get t = some v) : ∃ v', Env.get ((s, u) :: B) t = some v' := by
  simp only [Env.get]
  cases Nat.beq s t <;> exact ⟨_, by first | rfl | exact h⟩
theorem Good.tail {c : Ctx} {G : AHeap} {s : Nat} {u : AV} {B : Env} {ρ : Nat → Nat} (h : Good c G ((s, u) :: B) ρ) : Good c G B ρ where
  fresh := fun t v hv => by obtain ⟨v', hv'⟩ := get_tail (s := s) (u := u) hv; exact h.fresh t v' hv'
  inj := fun t t' v v' hv hv' e => by
    obtain ⟨_, h1⟩ := get_tail (s := s) (u := u) hv
    obtain ⟨_, h2⟩ := get_tail (s := s) (u := u) hv'
    exact h.inj t t' _ _ h1 h2 e
theorem boxes_get {c : Ctx} {G : AHeap} {ρ : Nat → Nat} : ∀ {B : Env} (h : Good c G B ρ) {s : Nat} {v : AV}, B.get s = some v → boxes ρ G B (ρ s) = some (.box v)
  | (k, u) :: B, h, s, v, hv => by
    simp only [boxes]
    by_cases hk : k = s
    · subst hk
      rw [get_cons_self] at hv
      injection hv with hv
      subst hv
      exact AHeap.get_set _ _ _
    · have hb : Nat.beq k s = false := by
        cases hb : Nat.beq k s with
        | true => exact absurd (Nat.eq_of_beq_eq_true hb) hk
        | false => rfl
      have hv0 := hv
      simp only [Env.get, hb] at hv
      rw [AHeap.get_set_ne _ _ (fun e => hk (h.inj k s _ _ (get_cons_self k u B) hv0 e.symm))]
      exact boxes_get h.tail hv
theorem boxes_other {ρ : Nat → Nat} {G : AHeap} {b : Nat} : ∀ {B : Env}, (∀ s v, B.get s = some v → b ≠ ρ s) → boxes ρ G B b = G b
  | [], _ => rfl
  | (k, u) :: B, h => by
    simp only [boxes]
    rw [AHeap.get_set_ne _ _ (h k u (get_cons_self k u B))]
    exact boxes_other fun s v hv => by obtain ⟨v', hv'⟩ := get_tail (s := k) (u := u) hv; exact h s v' hv'
theorem boxes_sub {c : Ctx} {G : AHeap} {B : Env} {ρ : Nat → Nat} (h : Good c G B ρ) : G.sub (boxes ρ G B) := fun b x hb => by
  rw [boxes_other fun s v hv e => by rw [e, (h.fresh s v hv).1] at hb; cases hb]; exact hb
theorem boxes_cases {c : Ctx} {G : AHeap} {B : Env} {ρ : Nat → Nat} (h : Good c G B ρ) (b : Nat) : (∃ s v, B.get s = some v ∧ b = ρ s ∧ boxes ρ G B b = some (.box v)) ∨ ((∀ s v, B.get s = some v → b ≠ ρ s) ∧ boxes ρ G B b = G b) := by
  by_cases hx : ∃ s v, B.get s = some v ∧ b = ρ s
  · obtain ⟨s, v, h1, h2⟩ := hx
    exact .inl ⟨s, v, h1, h2, by rw [h2]; exact boxes_get h h1⟩
  · have : ∀ s v, B.get s = some v → b ≠ ρ s := fun s v h1 h2 => hx ⟨s, v, h1, h2⟩
    exact .inr ⟨this, boxes_other this⟩

theorem view_sub {G H : AHeap} (h : G.sub H) {a : AV} {l : List AV} (hv : a.view G = some l) : a.view H = some l := by
  unfold AV.view at *
  split at hv <;> try exact hv
  rename_i r sz o n
  split at hv
  · rename_i s l0 hr
    simp only [h _ _ hr]
    exact hv
  · cases hv

/-- The state as it is worked with: plain temporaries, pointers to the call's own variables, these variables, the heap. -/
def GoalL (c : Ctx) (env : Env) (L : LPtr) (B : Env) (G : AHeap) (K : Act → World → Prop) : Prop := ∀ ρ, Good c G B ρ → Goal c (full ρ env L) (boxes ρ G B) K
def StepL (P : Program) (c : Ctx) (o : Oper) (Q : Exit → Act → World → Prop) (env : Env) (L : LPtr) (B : Env) (G : AHeap) (K : Act → World → Prop) : Prop := ∀ ρ, Good c G B ρ → Step P c o Q (full ρ env L) (boxes ρ G B) K
def ValLM (m : Bool) (P : Program) (c : Ctx) (o : Oper) (env : Env) (L : LPtr) (B : Env) (G : AHeap) (av : AV) : Prop := ∀ ρ, Good c G B ρ → ValM m P c o (full ρ env L) (boxes ρ G B) av
abbrev ValL (P : Program) (c : Ctx) (o : Oper) (env : Env) (L : LPtr) (B : Env) (G : AHeap) (av : AV) : Prop := ValLM true P c o env L B G av

def ev (env : Env) (L : LPtr) : Operand → Option AV
  | .tmp t => match lget L t with
    | some _ => none
    | none => env.get t
  | .const v => some (constAV v)
  | .func f => some (.fn (.func f) [])
  | .global _ => none
def evl (L : LPtr) : Operand → Option (Nat × Nat)
  | .tmp t => lget L t
  | _ => none
theorem ev_full {ρ : Nat → Nat} {env : Env} {L : LPtr} {x : Operand} {v : AV} (h : ev env L x = some v) : aeval (full ρ env L) x = some v := by
  cases x with
  | tmp t =>
    simp only [ev] at h
    simp only [aeval, full_get]
    cases hl : lget L t with
    | none => rw [hl] at h; exact h
    | some x => rw [hl] at h; cases h
  | _ => exact h
theorem evl_full {ρ : Nat → Nat} {env : Env} {L : LPtr} {x : Operand} {s o : Nat} (h : evl L x = some (s, o)) : aeval (full ρ env L) x = some (.box (ρ s) o) := by
  cases x with
  | tmp t => simp only [evl] at h; simp only [aeval, full_get, h]
  | _ => cases h
theorem evs_full {ρ : Nat → Nat} {env : Env} {L : LPtr} : ∀ {l : List Operand} {vs : List AV}, l.mapM (ev env L) = some vs → l.mapM (aeval (full ρ env L)) = some vs
  | [], vs, h => by simpa using h
  | x :: l, vs, h => by
    simp only [List.mapM_cons, Option.bind_eq_bind, Option.bind_eq_some_iff, Option.pure_def, Option.some.injEq] at h ⊢
    obtain ⟨v, hv, us, hus, rfl⟩ := h
    exact ⟨v, ev_full hv, us, evs_full hus, rfl⟩
theorem evp_full {ρ : Nat → Nat} {env : Env} {L : LPtr} : ∀ {l : List (Nat × Operand)} {vs : List (Nat × AV)}, l.mapM (fun x => (ev env L x.2).map fun v => (x.1, v)) = some vs →
    l.mapM (fun x => (aeval (full ρ env L) x.2).map fun v => (x.1, v)) = some vs
  | [], vs, h => by simpa using h
  | x :: l, vs, h => by
    simp only [List.mapM_cons, Option.bind_eq_bind, Option.bind_eq_some_iff, Option.pure_def, Option.some.injEq, Option.map_eq_some_iff] at h ⊢
    obtain ⟨_, ⟨v, hv, rfl⟩, us, hus, rfl⟩ := h
    exact ⟨_, ⟨v, ev_full hv, rfl⟩, us, evp_full hus, rfl⟩

/-- A plain value is written: what the temporary pointed to is out of sight. -/
theorem full_put {ρ : Nat → Nat} {env : Env} {L : LPtr} {d : Nat} {av : AV} (t : Nat) (v : AV) (h : (full ρ ((d, av) :: env) (ldel L d)).get t = some v) : Env.get ((d, av) :: full ρ env L) t = some v := by
  rw [full_get, ldel_get] at h
  simp only [Env.get]
  by_cases hd : d = t
  · subst hd
    simp only [if_true, Env.get, Nat.beq_refl] at h ⊢
    exact h
  · have hb : Nat.beq d t = false := by
      cases hb : Nat.beq d t with
      | true => exact absurd (Nat.eq_of_beq_eq_true hb) hd
      | false => rfl
    simp only [hd, if_false, Env.get, hb] at h ⊢
    rw [full_get]
    exact h
theorem full_put_l {ρ : Nat → Nat} {env : Env} {L : LPtr} {d s o : Nat} (t : Nat) (v : AV) (h : (full ρ env ((d, s, o) :: L)).get t = some v) : Env.get ((d, .box (ρ s) o) :: full ρ env L) t = some v := by
  rw [full_get] at h
  simp only [lget, Env.get] at h ⊢
  cases hb : Nat.beq d t with
  | true => rw [hb] at h; exact h
  | false => rw [hb] at h; rw [full_get]; exact h
theorem Goal.env {c : Ctx} {env env' : Env} {G : AHeap} {K : Act → World → Prop} (he : ∀ t v, env'.get t = some v → env.get t = some v) (h : Goal c env' G K) : Goal c env G K := fun a w hs => h a w (hs.env he)

section
variable {P : Program} {c : Ctx} {env B : Env} {L : LPtr} {G : AHeap} {dst : Option Tmp} {ty : TypeId} {pos : String} {af : Array Edge} {gd : Option (Nat × Bool)} {Q : Exit → Act → World → Prop} {K : Act → World → Prop}

theorem s_val {o : Oper} {d : Nat} {av : AV} (hv : ValL P c o env L B G av) (ho : o.dst = some d) (hd : Nat.blt d c.nt = true) (h : GoalL c ((d, av) :: env) (ldel L d) B G K) : StepL P c o Q env L B G K := fun ρ hρ =>
  Step.val (hv ρ hρ) ho hd (Goal.env full_put (h ρ hρ))
theorem s_val_none {o : Oper} {av : AV} (hv : ValL P c o env L B G av) (ho : o.dst = none) (h : GoalL c env L B G K) : StepL P c o Q env L B G K := fun ρ hρ => Step.val_none (hv ρ hρ) ho (h ρ hρ)
theorem v_sub {md : Bool} {o : Oper} {a b : AV} (h : ValLM md P c o env L B G a) (hs : ASub a b) : ValLM md P c o env L B G b := fun ρ hρ => (h ρ hρ).sub hs

/-! operations on operands -/
theorem g_step {ops : Array Oper} {o : Oper} {rest : List Oper} (hg : o.guard = none) (h : StepL P c o Q env L B G (wpList P ops Q rest)) : GoalL c env L B G (wpList P ops Q (o :: rest)) := fun ρ hρ => Goal.step hg (h ρ hρ)
theorem full_bool {ρ : Nat → Nat} {t : Nat} {b : Bool} (h : ev env L (.tmp t) = some (.bool b)) : (full ρ env L).get t = some (.bool b) := ev_full (x := .tmp t) h
theorem g_step_yes {ops : Array Oper} {o : Oper} {rest : List Oper} {j t : Nat} {b : Bool} (hg : o.guard = some (j, b)) (hj : (ops[j]?).bind (·.dst) = some t) (ht : ev env L (.tmp t) = some (.bool b)) (hlt : Nat.blt t c.nt = true)
    (h : StepL P c o Q env L B G (wpList P ops Q rest)) : GoalL c env L B G (wpList P ops Q (o :: rest)) := fun ρ hρ => Goal.step_yes hg hj (full_bool ht) hlt (h ρ hρ)
theorem g_step_no {ops : Array Oper} {o : Oper} {rest : List Oper} {j t d : Nat} {b b' : Bool} (hg : o.guard = some (j, b)) (hj : (ops[j]?).bind (·.dst) = some t) (ht : ev env L (.tmp t) = some (.bool b')) (hb : (b' == b) = false) (hlt : Nat.blt t c.nt = true)
    (ho : o.dst = some d) (hd : Nat.blt d c.nt = true) (h : GoalL c ((d, .tup []) :: env) (ldel L d) B G (wpList P ops Q rest)) : GoalL c env L B G (wpList P ops Q (o :: rest)) := fun ρ hρ =>
  Goal.step_no hg hj (full_bool ht) hb hlt ho hd (Goal.env full_put (h ρ hρ))
theorem g_step_und {ops : Array Oper} {o : Oper} {rest : List Oper} {j t d : Nat} {b : Bool} (hg : o.guard = some (j, b)) (hj : (ops[j]?).bind (·.dst) = some t) (ht : ev env L (.tmp t) = some (.tup [])) (hlt : Nat.blt t c.nt = true)
    (ho : o.dst = some d) (hd : Nat.blt d c.nt = true) (h : GoalL c ((d, .tup []) :: env) (ldel L d) B G (wpList P ops Q rest)) : GoalL c env L B G (wpList P ops Q (o :: rest)) := fun ρ hρ =>
  Goal.step_und hg hj (ev_full (x := .tmp t) ht) hlt ho hd (Goal.env full_put (h ρ hρ))
theorem g_step_no_none {ops : Array Oper} {o : Oper} {rest : List Oper} {j t : Nat} {b b' : Bool} (hg : o.guard = some (j, b)) (hj : (ops[j]?).bind (·.dst) = some t) (ht : ev env L (.tmp t) = some (.bool b')) (hb : (b' == b) = false) (hlt : Nat.blt t c.nt = true)
    (ho : o.dst = none) (h : GoalL c env L B G (wpList P ops Q rest)) : GoalL c env L B G (wpList P ops Q (o :: rest)) := fun ρ hρ => Goal.step_no_none hg hj (full_bool ht) hb hlt ho (h ρ hρ)
theorem g_split {b : Bool} (t : Nat) (ht : ev env L (.tmp t) = some (.bool b)) (h1 : b = true → GoalL c ((t, .bool true) :: env) (ldel L t) B G K) (h2 : b = false → GoalL c ((t, .bool false) :: env) (ldel L t) B G K) : GoalL c env L B G K := fun ρ hρ =>
  Goal.split t (full_bool ht) (fun e => Goal.env full_put (h1 e ρ hρ)) (fun e => Goal.env full_put (h2 e ρ hρ))

/-- What is kept in sight. -/
def lkeep (L : LPtr) : List Nat → LPtr
  | [] => []
  | t :: ts => match lget L t with
    | some v => (t, v) :: lkeep L ts
    | none => lkeep L ts
theorem lkeep_get (L : LPtr) : ∀ (ts : List Nat) (t : Nat) (v : Nat × Nat), lget (lkeep L ts) t = some v → lget L t = some v
  | [], t, v, h => by simp [lkeep, lget] at h
  | x :: xs, t, v, h => by
    simp only [lkeep] at h
    cases hx : lget L x with
    | none => rw [hx] at h; exact lkeep_get L xs t v h
    | some u =>
      rw [hx] at h
      simp only [lget] at h
      cases hb : Nat.beq x t with
      | true => rw [hb] at h; rw [← Nat.eq_of_beq_eq_true hb, hx]; exact h
      | false => rw [hb] at h; exact lkeep_get L xs t v h
def clear (L : LPtr) : List Nat → Bool
  | [] => true
  | t :: ts => match lget L t with
    | some _ => false
    | none => clear L ts
theorem clear_get {L : LPtr} : ∀ {ts : List Nat} (h : clear L ts = true) {t : Nat}, t ∈ ts → lget L t = none
  | x :: xs, h, t, ht => by
    simp only [clear] at h
    cases hx : lget L x with
    | some u => rw [hx] at h; cases h
    | none =>
      rw [hx] at h
      rcases List.mem_cons.1 ht with rfl | ht
      · exact hx
      · exact clear_get h ht
theorem keep_mem {env : Env} : ∀ {ts : List Nat} {t : Nat} {v : AV}, (env.keep ts).get t = some v → t ∈ ts
  | [], t, v, h => by simp [Env.keep, Env.get] at h
  | x :: xs, t, v, h => by
    simp only [Env.keep] at h
    cases hx : env.get x with
    | none => rw [hx] at h; exact List.mem_cons_of_mem _ (keep_mem h)
    | some u =>
      rw [hx] at h
      simp only [Env.get] at h
      cases hb : Nat.beq x t with
      | true => rw [← Nat.eq_of_beq_eq_true hb]; exact List.mem_cons_self
      | false => rw [hb] at h; exact List.mem_cons_of_mem _ (keep_mem h)
theorem boxes_keep {c : Ctx} {G : AHeap} {B : Env} {ρ : Nat → Nat} (h : Good c G B ρ) (ss : List Nat) : Good c G (B.keep ss) ρ ∧ (boxes ρ G (B.keep ss)).sub (boxes ρ G B) := by
  have hg : Good c G (B.keep ss) ρ := ⟨fun s v hv => h.fresh s v (Env.keep_get B ss s v hv), fun s s' v v' hv hv' => h.inj s s' v v' (Env.keep_get B ss s v hv) (Env.keep_get B ss s' v' hv')⟩
  refine ⟨hg, fun b x hb => ?_⟩
  rcases boxes_cases hg b with ⟨s, v, h1, h2, h3⟩ | ⟨h1, h2⟩
  · rw [h3] at hb; injection hb with hb; subst hb
    rw [h2]; exact boxes_get h (Env.keep_get B ss s v h1)
  · rw [h2] at hb; exact boxes_sub h b x hb
theorem g_keep {env' B' : Env} {L' : LPtr} (ts ls ss : List Nat) (he : env.keep ts = env') (hl : lkeep L ls = L') (hb : B.keep ss = B') (hc : clear L ts = true) (h : GoalL c env' L' B' G K) : GoalL c env L B G K := fun ρ hρ => by
  subst he; subst hl; subst hb
  obtain ⟨h1, h2⟩ := boxes_keep hρ ss
  refine Goal.forget h2 (Goal.env (fun t v hv => ?_) (h ρ h1))
  rw [full_get] at hv ⊢
  cases hx : lget (lkeep L ls) t with
  | some u => rw [hx] at hv; rw [lkeep_get L ls t u hx]; exact hv
  | none =>
    rw [hx] at hv
    rw [clear_get hc (keep_mem hv)]
    exact Env.keep_get env ts t v hv
theorem sub_none {G G' : AHeap} (hs : G'.sub G) {b : Nat} (h : G b = none) : G' b = none := by
  cases hx : G' b with
  | none => rfl
  | some x => have := hs _ _ hx; rw [h] at this; cases this
theorem g_forget {G' : AHeap} (hs : G'.sub G) (h : GoalL c env L B G' K) : GoalL c env L B G K := fun ρ hρ => by
  have hg : Good c G' B ρ := ⟨fun s v hv => ⟨sub_none hs (hρ.fresh s v hv).1, (hρ.fresh s v hv).2⟩, hρ.inj⟩
  refine Goal.forget (fun b x hb => ?_) (h ρ hg)
  rcases boxes_cases hg b with ⟨s, v, h1, h2, h3⟩ | ⟨h1, h2⟩
  · rw [h3] at hb; injection hb with hb; subst hb
    rw [h2]; exact boxes_get hρ h1
  · rw [h2] at hb
    rw [boxes_other h1]; exact hs b x hb
theorem g_sub {a b : AV} (t : Nat) (ht : ev env L (.tmp t) = some a) (hs : ASub a b) (h : GoalL c ((t, b) :: env) (ldel L t) B G K) : GoalL c env L B G K := fun ρ hρ =>
  Goal.sub t (ev_full (x := .tmp t) ht) hs (Goal.env full_put (h ρ hρ))

/-! ### Code -/
theorem g_seq {x y : Code} (h : ∀ K : Act → World → Prop, (∀ a w, y.wp P Q a w → K a w) → GoalL c env L B G (x.wp P (Exit.then K Q))) : GoalL c env L B G ((Code.seq x y).wp P Q) := fun ρ hρ => Goal.seq fun K hK => h K hK ρ hρ
theorem g_next {x : Code} (hK : ∀ a w, x.wp P Q a w → K a w) (h : GoalL c env L B G (x.wp P Q)) : GoalL c env L B G (Exit.then K Q .normal) := fun ρ hρ => Goal.next hK (h ρ hρ)
theorem g_region {id : Nat} {l : List Oper} (h : GoalL c env L B G (wpList P l.toArray Q l)) : GoalL c env L B G ((Code.region id l.toArray false).wp P Q) := fun ρ hρ => Goal.region (h ρ hρ)
theorem g_nil {ops : Array Oper} (h : GoalL c env L B G (Q .normal)) : GoalL c env L B G (wpList P ops Q []) := h
theorem g_cond {x : Operand} {t e : Code} {b : Bool} (hx : ev env L x = some (.bool b)) (ht : b = true → GoalL c env L B G (t.wp P Q)) (he : b = false → GoalL c env L B G (e.wp P Q)) : GoalL c env L B G ((Code.cond x t e).wp P Q) := fun ρ hρ =>
  Goal.cond (ev_full hx) (fun h => ht h ρ hρ) (fun h => he h ρ hρ)
theorem g_block {id : Nat} {x : Code} (h : GoalL c env L B G (x.wp P (Exit.inBlock id Q))) : GoalL c env L B G ((Code.block id x).wp P Q) := fun ρ hρ => Goal.block (h ρ hρ)
theorem g_exit {id : Nat} (h : GoalL c env L B G (Q (.exit id))) : GoalL c env L B G ((Code.exit id).wp P Q) := fun ρ hρ => Goal.exit (h ρ hρ)
theorem g_ret (h : GoalL c env L B G (Q .ret)) : GoalL c env L B G (Code.ret.wp P Q) := fun ρ hρ => Goal.ret (h ρ hρ)
theorem g_skip (h : GoalL c env L B G (Q .normal)) : GoalL c env L B G (Code.skip.wp P Q) := fun ρ hρ => Goal.skip (h ρ hρ)
theorem g_then_exit {id : Nat} (h : GoalL c env L B G (Q (.exit id))) : GoalL c env L B G (Exit.then K Q (.exit id)) := h
theorem g_then_ret (h : GoalL c env L B G (Q .ret)) : GoalL c env L B G (Exit.then K Q .ret) := h
theorem g_block_normal {id : Nat} (h : GoalL c env L B G (Q .normal)) : GoalL c env L B G (Exit.inBlock id Q .normal) := h
theorem g_block_ret {id : Nat} (h : GoalL c env L B G (Q .ret)) : GoalL c env L B G (Exit.inBlock id Q .ret) := h
theorem g_block_same {id : Nat} (h : GoalL c env L B G (Q .normal)) : GoalL c env L B G (Exit.inBlock id Q (.exit id)) := fun ρ hρ => Goal.inBlock_same (h ρ hρ)
theorem g_block_other {id id' : Nat} (hne : Nat.beq id' id = false) (h : GoalL c env L B G (Q (.exit id'))) : GoalL c env L B G (Exit.inBlock id Q (.exit id')) := fun ρ hρ => Goal.inBlock_other hne (h ρ hρ)

/-- What a loop's round must come to, or a piece of code: a state that has I. -/
def Has (c : Ctx) (I : Env → LPtr → Env → AHeap → Prop) (a : Act) (w : World) : Prop := ∃ env L B G ρ, I env L B G ∧ Good c G B ρ ∧ St c (full ρ env L) (boxes ρ G B) a w
theorem g_has {I : Env → LPtr → Env → AHeap → Prop} (hI : I env L B G) : GoalL c env L B G (Exit.then (Has c I) Q .normal) := fun ρ hρ a w hs => ⟨env, L, B, G, ρ, hI, hρ, hs⟩
theorem g_cut {x y : Code} (I : Env → LPtr → Env → AHeap → Prop) (hx : GoalL c env L B G (x.wp P (Exit.then (Has c I) Q))) (hy : ∀ env L B G, I env L B G → GoalL c env L B G (y.wp P Q)) : GoalL c env L B G ((Code.seq x y).wp P Q) := fun ρ hρ =>
  Goal.seq fun K hK a w hs => Code.wp_mono (fun e a' w' h => by
    cases e with
    | normal => obtain ⟨env', L', B', G', ρ', h1, h2, h3⟩ := h; exact hK a' w' (hy env' L' B' G' h1 ρ' h2 a' w' h3)
    | _ => exact h) (hx ρ hρ a w hs)
def Round (c : Ctx) (I : Nat → Env → LPtr → Env → AHeap → Prop) (n : Nat) (a : Act) (w : World) : Prop := ∃ m env L B G ρ, m < n ∧ I m env L B G ∧ Good c G B ρ ∧ St c (full ρ env L) (boxes ρ G B) a w
theorem g_loop {x : Code} (I : Nat → Env → LPtr → Env → AHeap → Prop) (n : Nat) (h0 : I n env L B G) (round : ∀ n env L B G, I n env L B G → GoalL c env L B G (x.wp P (Exit.then (Round c I n) Q))) : GoalL c env L B G ((Code.loop x).wp P Q) := fun ρ hρ a w hs b k cs => by
  have key : ∀ n env L B G ρ a w, I n env L B G → Good c G B ρ → St c (full ρ env L) (boxes ρ G B) a w →
      ∃ e a' w', Q e a' w' ∧ Arrives P (lone (b.at a (.code x :: .inLoop x :: k)) cs w) b k cs e a' w' := by
    intro n
    induction n using Nat.strongRecOn with
    | _ n ih =>
      intro env L B G ρ a w hI hg hs
      obtain ⟨e, a₁, w₁, hq, harr⟩ := round n env L B G hI ρ hg a w hs b (.inLoop x :: k) cs
      cases e with
      | normal =>
        obtain ⟨m, env', L', B', G', ρ', hm, hI', hg', hs'⟩ := hq
        obtain ⟨e₂, a₂, w₂, hq₂, harr₂⟩ := ih m hm env' L' B' G' ρ' a₁ w₁ hI' hg' hs'
        exact ⟨e₂, a₂, w₂, hq₂, .of_steps (Steps.trans harr (.one step_inLoop)) harr₂⟩
      | exit id => exact ⟨_, a₁, w₁, hq, .pass (x := .inLoop x) rfl (fun _ _ => .inl (by simp)) harr⟩
      | goto l => exact ⟨_, a₁, w₁, hq, .pass (x := .inLoop x) rfl (fun _ _ => .inl (by simp)) harr⟩
      | ret => exact ⟨_, a₁, w₁, hq, .pass (x := .inLoop x) rfl (fun _ _ => .inl (by simp)) harr⟩
      | panic ch => exact ⟨_, a₁, w₁, hq, .pass (x := .inLoop x) rfl (fun _ _ => .inl (by simp)) harr⟩
      | outgrown => exact ⟨_, a₁, w₁, hq, .pass (x := .inLoop x) rfl (fun _ _ => .inl (by simp)) harr⟩
  obtain ⟨e, a', w', hq, harr⟩ := key n env L B G ρ a w h0 hρ hs
  exact ⟨e, a', w', hq, .of_steps (.one step_loop) harr⟩
theorem g_round {I : Nat → Env → LPtr → Env → AHeap → Prop} {n : Nat} (m : Nat) (hm : m < n) (hI : I m env L B G) : GoalL c env L B G (Exit.then (Round c I n) Q .normal) := fun ρ hρ a w hs => ⟨m, env, L, B, G, ρ, hm, hI, hρ, hs⟩
end
end Go.Proofs.Ytgedefcjngofkaa.AM

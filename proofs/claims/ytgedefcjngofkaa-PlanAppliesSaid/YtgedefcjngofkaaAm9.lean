/- The abstract machine, part 9: statements whose order is open. -/
import Derived.Test.YtgedefcjngofkaaAm8
set_option linter.unusedVariables false
set_option linter.unusedSimpArgs false
namespace Go.Proofs.Ytgedefcjngofkaa.AM
open Go

section
variable {P : Program} {ops : Array Oper} {Q : Exit → Act → World → Prop} {nS : Nat → Bool}

/-- Whatever order is picked from here on; an operation of nS leaves the old blocks as they are. -/
def wpM (P : Program) (ops : Array Oper) (Q : Exit → Act → World → Prop) (nS : Nat → Bool) : Nat → Array Bool → Act → World → Prop
  | 0, listed, a, w => Region.ready .any ops listed = [] ∧ Q .normal a w
  | fuel + 1, listed, a, w => (Region.ready .any ops listed = [] → Q .normal a w) ∧
      ∀ i ∈ Region.ready .any ops listed, wpOp P ops Q i (fun a' w' => (nS i = true → Same w w') ∧ wpM P ops Q nS fuel (listed.setIfInBounds i true) a' w') a w

theorem wpAny_of_wpM : ∀ (fuel : Nat) (listed : Array Bool) (a : Act) (w : World), wpM P ops Q nS fuel listed a w → wpAny P .any ops Q fuel listed a w
  | 0, _, _, _, h => h
  | fuel + 1, _, _, _, h => ⟨h.1, fun i hi => wpOp_mono (fun a' w' h' => wpAny_of_wpM fuel _ a' w' h'.2) (h.2 i hi)⟩

/-- In this state the operation yields v; with m: in every later world that holds the old blocks as they are; else in any. -/
def YieldsS (m : Bool) (P : Program) (ops : Array Oper) (o : Oper) (v : Value) (a : Act) (w : World) : Prop :=
  (Region.wanted o (yielded ops a.tmps) = true ∧ ∀ w', (m = true → Same w w') → (execOp a.eval o).run P w' = .ok (.value v) w') ∨
  (Region.wanted o (yielded ops a.tmps) = false ∧ v = undef)
theorem YieldsS.later {m : Bool} {o : Oper} {v : Value} {a : Act} {w w' : World} (h : YieldsS m P ops o v a w) (hs : m = true → Same w w') : YieldsS m P ops o v a w' :=
  h.imp (fun ⟨h1, h2⟩ => ⟨h1, fun w'' h'' => h2 w'' (fun e => (hs e).trans (h'' e))⟩) id
theorem YieldsS.same {m : Bool} {o : Oper} {v : Value} {a a' : Act} {w : World} (hy : YieldsS m P ops o v a w) (he : execOp a'.eval o = execOp a.eval o)
    (hw : Region.wanted o (yielded ops a'.tmps) = Region.wanted o (yielded ops a.tmps)) : YieldsS m P ops o v a' w := by
  unfold YieldsS at *; rw [he, hw]; exact hy
theorem YieldsS.wpOp {m : Bool} {i : Nat} {o : Oper} {v : Value} {a : Act} {w : World} (hi : ops[i]? = some o) (hy : YieldsS m P ops o v a w) {K : Act → World → Prop} (h : K (a.put o.dst v) w) : wpOp P ops Q i K a w := by
  unfold Go.wpOp
  simp only [hi]
  rcases hy with ⟨hw, hv⟩ | ⟨hw, rfl⟩
  · simp only [hw, if_true, Oper.wp, hv w (fun _ => Same.refl w), Oper.upon]; exact .inl h
  · simp only [hw, Bool.false_eq_true, if_false]; exact h

/-- An operation apart from this one: whether this one's value is there already makes no difference. -/
theorem wpOp_putS {m : Bool} {j : Nat} {oi oj : Oper} {v : Value} (hj : ops[j]? = some oj) (hap : oi.apart ops oj = true) (hsi : ∀ cs b, oi.op ≠ .select cs b) (hsj : ∀ cs b, oj.op ≠ .select cs b)
    (hQ : ∀ c a w, Q (.panic c) (a.put oi.dst v) w → Q (.panic c) a w) {K : Act → World → Prop} {a : Act} {w : World} (hy : YieldsS m P ops oi v a w) (h : wpOp P ops Q j K (a.put oi.dst v) w) :
    wpOp P ops Q j (fun a' w' => YieldsS m P ops oi v a' w ∧ K (a'.put oi.dst v) w') a w := by
  obtain ⟨h1, h2, h3⟩ := Oper.apart_spec hap
  have keep : ∀ (a : Act), YieldsS m P ops oi v a w → ∀ u, YieldsS m P ops oi v (a.put oj.dst u) w := fun a hy u => hy.same (execOp_put oi hsi a oj.dst u h3) (wanted_put oi a oj.dst u h3)
  have keepD : ∀ d, YieldsS m P ops oi v { a with defers := d :: a.defers } w := fun d => hy.same rfl rfl
  unfold wpOp at *
  simp only [hj] at *
  rw [wanted_put oj a oi.dst v h1] at h
  split
  · rename_i hw
    simp only [hw, if_true] at h
    rcases h with h | ⟨hasks, hlets⟩
    case inr => exact .inr ⟨by unfold Oper.asks at *; rw [execOp_put oj hsj a oi.dst v h1] at hasks; exact hasks, hlets⟩
    refine .inl ?_
    unfold Oper.wp at *
    rw [execOp_put oj hsj a oi.dst v h1] at h
    generalize (execOp a.eval oj).run P w = r at *
    cases r with
    | ok n w' =>
      cases n <;> simp only [Oper.upon] at h ⊢
      case value u => exact ⟨keep a hy u, by rw [← Act.put_comm a v u h2]; exact h⟩
      case skip => exact ⟨keep a hy _, by rw [← Act.put_comm a v undef h2]; exact h⟩
      case defer d => exact ⟨keep _ (keepD d) _, by rw [← Act.put_comm _ v undef h2, ← Act.put_defers]; exact h⟩
      case enter f args =>
        refine Calls.mono h fun e w'' he => ?_
        cases e with
        | returned u => exact ⟨keep a hy u, by rw [← Act.put_comm a v u h2]; exact he⟩
        | panicked c => exact hQ _ _ _ he
        | outgrown => exact he
      case row row args => exact Rows.mono h fun u w'' he => ⟨keep a hy u, by rw [← Act.put_comm a v u h2]; exact he⟩
    | halt x w' =>
      cases x <;> simp only [Oper.upon] at h ⊢
      case panic u => exact hQ _ _ _ h
  · rename_i hw
    simp only [hw] at h
    exact ⟨keep a hy _, by rw [← Act.put_comm a v undef h2]; exact h⟩

theorem wpM_first {m : Bool} {i : Nat} {oi : Oper} {v : Value} (hi : ops[i]? = some oi) (hsel : ∀ (j : Nat) (o : Oper) cs b, ops[j]? = some o → o.op ≠ .select cs b)
    (hQ : ∀ c a w, Q (.panic c) (a.put oi.dst v) w → Q (.panic c) a w) :
    ∀ (fuel : Nat) (listed : Array Bool) (a : Act) (w : World),
      (∀ j oj, ops[j]? = some oj → j ≠ i → listed.getD j true = false → (∀ e ∈ oj.after, Region.binds .any e = true → e.on ≠ i) → oi.apart ops oj = true ∧ (m = true → nS j = true)) →
      i ∈ Region.ready .any ops listed → YieldsS m P ops oi v a w → wpM P ops Q nS fuel (listed.setIfInBounds i true) (a.put oi.dst v) w → wpM P ops Q nS (fuel + 1) listed a w := by
  intro fuel
  induction fuel with
  | zero =>
    intro listed a w _ hr hy H
    refine ⟨fun h => (by rw [h] at hr; cases hr), fun j hj => ?_⟩
    by_cases hji : j = i
    · subst hji; exact hy.wpOp hi ⟨fun _ => Same.refl w, H⟩
    · have := ready_mono hj hji
      rw [H.1] at this
      cases this
  | succ fuel ih =>
    intro listed a w hfree hr hy H
    refine ⟨fun h => (by rw [h] at hr; cases hr), fun j hj => ?_⟩
    by_cases hji : j = i
    · subst hji; exact hy.wpOp hi ⟨fun _ => Same.refl w, H⟩
    · have h1 := H.2 j (ready_mono hj hji)
      obtain ⟨hjun, oj, hoj, hall⟩ := mem_ready.1 hj
      have hnot : ∀ e ∈ oj.after, Region.binds .any e = true → e.on ≠ i := fun e he hb heq => by
        have h1 := hall e he hb
        have h0 := (mem_ready.1 hr).1
        rw [heq] at h1
        rcases Nat.lt_or_ge i listed.size with h' | h'
        · simp [h'] at h0 h1; rw [h0] at h1; cases h1
        · simp [Array.getElem?_eq_none h'] at h1
      obtain ⟨hap, hns⟩ := hfree j oj hoj hji hjun hnot
      have h2 := wpOp_putS hoj hap (fun cs b => hsel i oi cs b hi) (fun cs b => hsel j oj cs b hoj) hQ hy h1
      have hfree' : ∀ k ok, ops[k]? = some ok → k ≠ i → (listed.setIfInBounds j true).getD k true = false →
          (∀ e ∈ ok.after, Region.binds .any e = true → e.on ≠ i) → oi.apart ops ok = true ∧ (m = true → nS k = true) := fun k ok hk hki hun hno => by
        refine hfree k ok hk hki ?_ hno
        by_cases hjk : j = k
        · subst hjk; exact hjun
        · rw [getD_set_ne true hjk] at hun; exact hun
      refine wpOp_mono (fun a' w' h3 => ⟨h3.2.1, ih (listed.setIfInBounds j true) a' w' hfree' (ready_mono hr (Ne.symm hji)) (h3.1.later (fun e => h3.2.1 (hns e))) ?_⟩) h2
      rw [Array.setIfInBounds_comm _ _ hji]
      exact h3.2.2

/-- Those who may come up ahead of number i are apart from it, and leave the old blocks (m). -/
def freeS (m : Bool) (nS : Nat → Bool) (ops : Array Oper) (listed : Array Bool) (i : Nat) : Bool :=
  match ops[i]? with
  | none => false
  | some oi => (List.range ops.size).all fun j => j == i || listed.getD j true || match ops[j]? with
      | some oj => oj.after.any (fun e => Region.binds .any e && e.on == i) || (oi.apart ops oj && (!m || nS j))
      | none => true
theorem freeS_spec {m : Bool} {i : Nat} {oi : Oper} {listed : Array Bool} (hi : ops[i]? = some oi) (h : freeS m nS ops listed i = true) (j : Nat) (oj : Oper) (hj : ops[j]? = some oj) (hne : j ≠ i) (hun : listed.getD j true = false)
    (hno : ∀ e ∈ oj.after, Region.binds .any e = true → e.on ≠ i) : oi.apart ops oj = true ∧ (m = true → nS j = true) := by
  simp only [freeS, hi, List.all_eq_true, List.mem_range] at h
  have h1 := h j (Array.getElem?_eq_some_iff.1 hj).1
  simp only [hj, Bool.or_eq_true, beq_iff_eq, hne, false_or, hun, Bool.false_eq_true] at h1
  rcases h1 with h1 | h1
  · obtain ⟨k, hk, hb⟩ := Array.any_eq_true.1 h1
    simp only [Bool.and_eq_true, beq_iff_eq] at hb
    exact absurd hb.2 (hno _ (Array.getElem_mem hk) hb.1)
  · simp only [Bool.and_eq_true, Bool.or_eq_true, Bool.not_eq_true'] at h1
    exact ⟨h1.1, fun e => h1.2.resolve_left (by simp [e])⟩
end

/-- The state inside such a statement: which operations have come up. -/
def GoalM (P : Program) (c : Ctx) (ops : Array Oper) (Q : Exit → Act → World → Prop) (nS : Nat → Bool) (fuel : Nat) (listed : Array Bool) (env : Env) (L : LPtr) (B : Env) (G : AHeap) : Prop :=
  GoalL c env L B G (wpM P ops Q nS fuel listed)

section
variable {md : Bool} {P : Program} {c : Ctx} {env B : Env} {L : LPtr} {G : AHeap} {ops : Array Oper} {Q : Exit → Act → World → Prop} {nS : Nat → Bool} {fuel : Nat} {listed : Array Bool}

theorem St.drew' {a : Act} {w : World} (hs : St c env G a w) : St c env G a { w with drawn := w.drawn + 1 } :=
  hs.move (D := fun _ => False) (sim_drew hs.sim) ext_drew (fun _ _ h => h.elim)
theorem g_draw {id n : Nat} (nS : Nat → Bool) (hm : P.follows .mixedOrders = true) (hn : ops.size = n) (h : GoalM P c ops Q nS n (Array.replicate n false) env L B G) : GoalL c env L B G ((Code.region id ops true).wp P Q) := fun ρ hρ a w hs =>
  wp_region_any hm (wpAny_of_wpM _ _ _ _ (by rw [hn]; exact h ρ hρ a _ hs.drew'))

/-- A value is taken first. -/
theorem m_take {o : Oper} {d : Nat} {av : AV} (i : Nat) (m : Bool) (hi : ops[i]? = some o) (hg : o.guard = none) (hs : Region.noSelect ops = true) (hf : freeS m nS ops listed i = true) (hr : (Region.ready .any ops listed).contains i = true)
    (hQ : ∀ ch a v w, Q (.panic ch) (a.put o.dst v) w → Q (.panic ch) a w) (hv : ValLM m P c o env L B G av) (ho : o.dst = some d) (hd : Nat.blt d c.nt = true)
    (h : GoalM P c ops Q nS fuel (listed.setIfInBounds i true) ((d, av) :: env) (ldel L d) B G) : GoalM P c ops Q nS (fuel + 1) listed env L B G := fun ρ hρ a w hst => by
  obtain ⟨v, h1, h2⟩ := hv ρ hρ a w hst
  refine wpM_first (m := m) hi (Region.noSelect_spec hs) (fun ch a w => hQ ch a v w) fuel listed a w (freeS_spec hi hf) (by simpa using hr) (.inl ⟨by simp [Region.wanted, hg], h2⟩) ?_
  rw [ho]
  exact Goal.env full_put (h ρ hρ) _ _ (hst.put hd h1)
theorem m_take_yes {o : Oper} {d j t : Nat} {b : Bool} {av : AV} (i : Nat) (m : Bool) (hi : ops[i]? = some o) (hg : o.guard = some (j, b)) (hj : (ops[j]?).bind (·.dst) = some t) (ht : ev env L (.tmp t) = some (.bool b)) (hlt : Nat.blt t c.nt = true)
    (hs : Region.noSelect ops = true) (hf : freeS m nS ops listed i = true) (hr : (Region.ready .any ops listed).contains i = true)
    (hQ : ∀ ch a v w, Q (.panic ch) (a.put o.dst v) w → Q (.panic ch) a w) (hv : ValLM m P c o env L B G av) (ho : o.dst = some d) (hd : Nat.blt d c.nt = true)
    (h : GoalM P c ops Q nS fuel (listed.setIfInBounds i true) ((d, av) :: env) (ldel L d) B G) : GoalM P c ops Q nS (fuel + 1) listed env L B G := fun ρ hρ a w hst => by
  obtain ⟨v, h1, h2⟩ := hv ρ hρ a w hst
  refine wpM_first (m := m) hi (Region.noSelect_spec hs) (fun ch a w => hQ ch a v w) fuel listed a w (freeS_spec hi hf) (by simpa using hr) (.inl ⟨by simp [Region.wanted, hg, yielded_of hst hj (full_bool ht) hlt], h2⟩) ?_
  rw [ho]
  exact Goal.env full_put (h ρ hρ) _ _ (hst.put hd h1)
theorem m_take_no {o : Oper} {d j t : Nat} {b b' : Bool} (i : Nat) (hi : ops[i]? = some o) (hg : o.guard = some (j, b)) (hj : (ops[j]?).bind (·.dst) = some t) (ht : ev env L (.tmp t) = some (.bool b')) (hb : (b' == b) = false) (hlt : Nat.blt t c.nt = true)
    (hs : Region.noSelect ops = true) (hf : freeS false nS ops listed i = true) (hr : (Region.ready .any ops listed).contains i = true)
    (hQ : ∀ ch a v w, Q (.panic ch) (a.put o.dst v) w → Q (.panic ch) a w) (ho : o.dst = some d) (hd : Nat.blt d c.nt = true)
    (h : GoalM P c ops Q nS fuel (listed.setIfInBounds i true) ((d, .tup []) :: env) (ldel L d) B G) : GoalM P c ops Q nS (fuel + 1) listed env L B G := fun ρ hρ a w hst => by
  refine wpM_first (m := false) hi (Region.noSelect_spec hs) (fun ch a w => hQ ch a undef w) fuel listed a w (freeS_spec hi hf) (by simpa using hr) (.inr ⟨by simp only [Region.wanted, hg, yielded_of hst hj (full_bool ht) hlt]; simpa using hb, rfl⟩) ?_
  rw [ho]
  exact Goal.env full_put (h ρ hρ) _ _ (hst.put hd (rep_undef _ _))
theorem m_take_und {o : Oper} {d j t : Nat} {b : Bool} (i : Nat) (hi : ops[i]? = some o) (hg : o.guard = some (j, b)) (hj : (ops[j]?).bind (·.dst) = some t) (ht : ev env L (.tmp t) = some (.tup [])) (hlt : Nat.blt t c.nt = true)
    (hs : Region.noSelect ops = true) (hf : freeS false nS ops listed i = true) (hr : (Region.ready .any ops listed).contains i = true)
    (hQ : ∀ ch a v w, Q (.panic ch) (a.put o.dst v) w → Q (.panic ch) a w) (ho : o.dst = some d) (hd : Nat.blt d c.nt = true)
    (h : GoalM P c ops Q nS fuel (listed.setIfInBounds i true) ((d, .tup []) :: env) (ldel L d) B G) : GoalM P c ops Q nS (fuel + 1) listed env L B G := fun ρ hρ a w hst => by
  refine wpM_first (m := false) hi (Region.noSelect_spec hs) (fun ch a w => hQ ch a undef w) fuel listed a w (freeS_spec hi hf) (by simpa using hr) (.inr ⟨by simp [Region.wanted, hg, yielded_und hst hj (ev_full (x := .tmp t) ht) hlt], rfl⟩) ?_
  rw [ho]
  exact Goal.env full_put (h ρ hρ) _ _ (hst.put hd (rep_undef _ _))
/-- An address of a variable of the call's own is taken first. -/
theorem m_takel {o : Oper} {d sl off : Nat} (i : Nat) (hi : ops[i]? = some o) (hg : o.guard = none) (hs : Region.noSelect ops = true) (hf : freeS false nS ops listed i = true) (hr : (Region.ready .any ops listed).contains i = true)
    (hQ : ∀ ch a v w, Q (.panic ch) (a.put o.dst v) w → Q (.panic ch) a w) (hv : ∀ ρ, ValM false P c o (full ρ env L) (boxes ρ G B) (.box (ρ sl) off)) (ho : o.dst = some d) (hd : Nat.blt d c.nt = true)
    (h : GoalM P c ops Q nS fuel (listed.setIfInBounds i true) env ((d, sl, off) :: L) B G) : GoalM P c ops Q nS (fuel + 1) listed env L B G := fun ρ hρ a w hst => by
  obtain ⟨v, h1, h2⟩ := hv ρ a w hst
  refine wpM_first (m := false) hi (Region.noSelect_spec hs) (fun ch a w => hQ ch a v w) fuel listed a w (freeS_spec hi hf) (by simpa using hr) (.inl ⟨by simp [Region.wanted, hg], h2⟩) ?_
  rw [ho]
  exact Goal.env full_put_l (h ρ hρ) _ _ (hst.put hd h1)
theorem m_takel_yes {o : Oper} {d sl off j t : Nat} {b : Bool} (i : Nat) (hi : ops[i]? = some o) (hg : o.guard = some (j, b)) (hj : (ops[j]?).bind (·.dst) = some t) (ht : ev env L (.tmp t) = some (.bool b)) (hlt : Nat.blt t c.nt = true)
    (hs : Region.noSelect ops = true) (hf : freeS false nS ops listed i = true) (hr : (Region.ready .any ops listed).contains i = true)
    (hQ : ∀ ch a v w, Q (.panic ch) (a.put o.dst v) w → Q (.panic ch) a w) (hv : ∀ ρ, ValM false P c o (full ρ env L) (boxes ρ G B) (.box (ρ sl) off)) (ho : o.dst = some d) (hd : Nat.blt d c.nt = true)
    (h : GoalM P c ops Q nS fuel (listed.setIfInBounds i true) env ((d, sl, off) :: L) B G) : GoalM P c ops Q nS (fuel + 1) listed env L B G := fun ρ hρ a w hst => by
  obtain ⟨v, h1, h2⟩ := hv ρ a w hst
  refine wpM_first (m := false) hi (Region.noSelect_spec hs) (fun ch a w => hQ ch a v w) fuel listed a w (freeS_spec hi hf) (by simpa using hr) (.inl ⟨by simp [Region.wanted, hg, yielded_of hst hj (full_bool ht) hlt], h2⟩) ?_
  rw [ho]
  exact Goal.env full_put_l (h ρ hρ) _ _ (hst.put hd h1)
theorem vl_fieldAddr {dst : Option Tmp} {ty : TypeId} {pos : String} {af : Array Edge} {gd : Option (Nat × Bool)} {S : TypeId} {fs : Array Go.Field} {sz by_ s b' : Nat} {z z' : Option Value} {x : Operand} {sl off f o FT : Nat} {dd : TypeDesc} (hS : TyI P S (.struct fs) s z' b')
    (hf : (fs[f]?).map (fun x => (x.offset, x.type)) = some (o, FT)) (hF : TyI P FT dd (sz + 1) z by_) (hx : evl L x = some (sl, off)) : ∀ ρ, ValM false P c ⟨dst, .fieldAddr S x f, ty, pos, af, gd⟩ (full ρ env L) (boxes ρ G B) (.box (ρ sl) (off + o)) := fun ρ => val_fieldAddr_box hS hf hF (evl_full hx)
theorem vl_move {dst : Option Tmp} {ty : TypeId} {pos : String} {af : Array Edge} {gd : Option (Nat × Bool)} {x : Operand} {sl off : Nat} (hx : evl L x = some (sl, off)) : ∀ ρ, ValM false P c ⟨dst, .move x, ty, pos, af, gd⟩ (full ρ env L) (boxes ρ G B) (.box (ρ sl) off) := fun ρ => val_move (evl_full hx)
theorem vl_nilCheck {dst : Option Tmp} {ty : TypeId} {pos : String} {af : Array Edge} {gd : Option (Nat × Bool)} {x : Operand} {sl off : Nat} (hx : evl L x = some (sl, off)) : ∀ ρ, ValM false P c ⟨dst, .nilCheck x, ty, pos, af, gd⟩ (full ρ env L) (boxes ρ G B) (.box (ρ sl) off) := fun ρ => val_nilCheck (evl_full hx) rfl

/-- A Bool is parted. -/
theorem m_split {b : Bool} (t : Nat) (ht : ev env L (.tmp t) = some (.bool b)) (h1 : b = true → GoalM P c ops Q nS fuel listed ((t, .bool true) :: env) (ldel L t) B G) (h2 : b = false → GoalM P c ops Q nS fuel listed ((t, .bool false) :: env) (ldel L t) B G) :
    GoalM P c ops Q nS fuel listed env L B G := g_split t ht h1 h2

/-- Each of those that may come up now. -/
def StepM (P : Program) (c : Ctx) (o : Oper) (ops : Array Oper) (Q : Exit → Act → World → Prop) (nS : Nat → Bool) (i : Nat) (env : Env) (L : LPtr) (B : Env) (G : AHeap) (K : Act → World → Prop) : Prop :=
  ∀ ρ, Good c G B ρ → ∀ a w, St c (full ρ env L) (boxes ρ G B) a w → o.wp P a w (fun a' w' => (nS i = true → Same w w') ∧ K a' w') Q
theorem m_all {is : List Nat} (hr : Region.ready .any ops listed = is) (hne : is.isEmpty = false) (h : ∀ i ∈ is, GoalL c env L B G (wpOp P ops Q i fun a w => True) → True)
    (h' : ∀ i ∈ is, ∃ o, ops[i]? = some o ∧ ((o.guard = none ∧ StepM P c o ops Q nS i env L B G (wpM P ops Q nS fuel (listed.setIfInBounds i true))) ∨
      ∃ j t b, o.guard = some (j, b) ∧ (ops[j]?).bind (·.dst) = some t ∧ ev env L (.tmp t) = some (.bool b) ∧ Nat.blt t c.nt = true ∧ StepM P c o ops Q nS i env L B G (wpM P ops Q nS fuel (listed.setIfInBounds i true)))) :
    GoalM P c ops Q nS (fuel + 1) listed env L B G := fun ρ hρ a w hs => by
  refine ⟨fun he => ?_, fun i hi => ?_⟩
  · rw [hr] at he; rw [he] at hne; cases hne
  · rw [hr] at hi
    obtain ⟨o, ho, hstep⟩ := h' i hi
    unfold wpOp
    simp only [ho]
    rcases hstep with ⟨hg, hst⟩ | ⟨j, t, b, hg, hj, ht, hlt, hst⟩
    · rw [if_pos (by simp [Region.wanted, hg])]
      exact .inl (hst ρ hρ a w hs)
    · rw [if_pos (by simp [Region.wanted, hg, yielded_of hs hj (full_bool ht) hlt])]
      exact .inl (hst ρ hρ a w hs)
theorem m_one {o : Oper} (i : Nat) (hr : Region.ready .any ops listed = [i]) (hi : ops[i]? = some o) (hg : o.guard = none) (h : StepM P c o ops Q nS i env L B G (wpM P ops Q nS fuel (listed.setIfInBounds i true))) : GoalM P c ops Q nS (fuel + 1) listed env L B G :=
  m_all hr rfl (fun _ _ _ => trivial) fun j hj => by
    have : j = i := by simpa using hj
    subst this
    exact ⟨o, hi, .inl ⟨hg, h⟩⟩
theorem m_one_yes {o : Oper} {j t : Nat} {b : Bool} (i : Nat) (hr : Region.ready .any ops listed = [i]) (hi : ops[i]? = some o) (hg : o.guard = some (j, b)) (hj : (ops[j]?).bind (·.dst) = some t) (ht : ev env L (.tmp t) = some (.bool b)) (hlt : Nat.blt t c.nt = true)
    (h : StepM P c o ops Q nS i env L B G (wpM P ops Q nS fuel (listed.setIfInBounds i true))) : GoalM P c ops Q nS (fuel + 1) listed env L B G :=
  m_all hr rfl (fun _ _ _ => trivial) fun k hk => by
    have : k = i := by simpa using hk
    subst this
    exact ⟨o, hi, .inr ⟨j, t, b, hg, hj, ht, hlt, h⟩⟩
theorem m_done (hr : Region.ready .any ops listed = []) (h : GoalL c env L B G (Q .normal)) : GoalM P c ops Q nS fuel listed env L B G := fun ρ hρ a w hs => by
  cases fuel with
  | zero => exact ⟨hr, h ρ hρ a w hs⟩
  | succ n => exact ⟨fun _ => h ρ hρ a w hs, by rw [hr]; simp⟩

/-- A step that need not keep the old blocks. -/
theorem sm_any {o : Oper} {i : Nat} {K : Act → World → Prop} (hn : nS i = false) (h : StepL P c o Q env L B G K) : StepM P c o ops Q nS i env L B G K := fun ρ hρ a w hs =>
  Oper.wp_mono (fun a' w' hk => ⟨fun e => by (rw [hn] at e; cases e), hk⟩) (h ρ hρ a w hs)
/-- A call that leaves all as it was. -/
theorem sm_callp {i : Nat} {K : Act → World → Prop} {x : Operand} {xs : Array Operand} {at_ : Array TypeId} {f : FuncId} {caps avs : List AV} {R : AV → Prop} {d : Nat} {ty : TypeId} {pos : String} {af : Array Edge} {gd : Option (Nat × Bool)}
    (hx : ev env L x = some (.fn (.func f) caps)) (hxs : xs.toList.mapM (ev env L) = some avs) (hd : Nat.blt d c.nt = true) (h : PCalls P f (avs ++ caps) G R)
    (hk : ∀ r, R r → GoalL c ((d, r) :: env) (ldel L d) B G K) : StepM P c ⟨some d, .call ⟨.value x, xs, at_⟩, ty, pos, af, gd⟩ ops Q nS i env L B G K := fun ρ hρ a w hs => by
  obtain ⟨⟨fn, hfn⟩, hcall⟩ := h _ (boxes_sub hρ)
  have hr := hs.eval (ev_full (ρ := ρ) hx)
  generalize hu : a.eval x = u at hr
  cases hr with
  | fn _ _ vs hl hcs =>
    have hargs := (eval_ops hs _ _ (evs_full hxs)).append ⟨hl, hcs⟩
    have hrun : (execOp a.eval ⟨some d, .call ⟨.value x, xs, at_⟩, ty, pos, af, gd⟩).run P w = .ok (.enter f ((xs.toList.map a.eval) ++ vs).toArray) w := by
      have e : xs.map a.eval ++ vs.toArray = ((xs.toList.map a.eval) ++ vs).toArray := by apply Array.ext'; simp
      simp [execOp, resolve, hu, Deferred.ofValue, invoke, run_callFunc hfn, e]
    unfold Oper.wp
    rw [hrun, Oper.upon_enter]
    refine (hcall w _ hs.sim hargs).mono ?_
    rintro e w' ⟨v, r, G', rfl, ⟨effs, ⟨rfl, hR⟩, _, rfl⟩, h3, h4, h5⟩
    refine ⟨fun _ => ⟨h5.size, fun b hb => h5.same b hb (fun h => h)⟩, ?_⟩
    exact Goal.env full_put (hk r hR ρ hρ) _ _ ((hs.move h4 h5 (fun b hb h => h.elim)).put hd h3)
theorem sm_box {i : Nat} {K : Act → World → Prop} {ty : TypeId} {pos : String} {af : Array Edge} {gd : Option (Nat × Bool)} {T : TypeId} {x : Operand} {d : Nat} {av : AV} (hd : Nat.blt d c.nt = true) (hx : ev env L x = some av) (hu : av.isUnk = false) (hno : (L.all fun p => !Nat.beq p.2.1 d) = true)
    (h : GoalL c env ((d, d, 0) :: L) ((d, av) :: edel B d) G K) : StepM P c ⟨some d, .box T x, ty, pos, af, gd⟩ ops Q nS i env L B G K := fun ρ hρ a w hs =>
  Oper.wp_mono (fun a' w' hk => ⟨fun _ => hk.1, hk.2⟩) (steps_box hd (ev_full hx) (by rintro rfl; cases hu) (fun r hr hn => newVar_core hno hρ hr hn h) a w hs)
theorem sm_alloc {i : Nat} {K : Act → World → Prop} {ty : TypeId} {pos : String} {af : Array Edge} {gd : Option (Nat × Bool)} {T : TypeId} {dd : TypeDesc} {sz b' : Nat} {zv : Value} {d : Nat} {av : AV} (hT : TyI P T dd sz (some zv) b') (hd : Nat.blt d c.nt = true) (hz : zAV zv = av) (hu : av.isUnk = false) (hno : (L.all fun p => !Nat.beq p.2.1 d) = true)
    (h : GoalL c env ((d, d, 0) :: L) ((d, av) :: edel B d) G K) : StepM P c ⟨some d, .alloc T, ty, pos, af, gd⟩ ops Q nS i env L B G K := fun ρ hρ a w hs =>
  Oper.wp_mono (fun a' w' hk => ⟨fun _ => hk.1, hk.2⟩) (steps_alloc hT hd hz (by rintro rfl; cases hu) (fun r hr hn => newVar_core hno hρ hr hn h) a w hs)
end
end Go.Proofs.Ytgedefcjngofkaa.AM

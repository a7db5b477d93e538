/- The abstract machine, part 13: a row's arguments as abstract values; what such values are, type by type; a law's call. -/
import Derived.Test.YtgedefcjngofkaaAm12
import Derived.WideShapes
import Derived.Below
set_option linter.unusedVariables false
set_option linter.unusedSimpArgs false
namespace Go.Proofs.Ytgedefcjngofkaa.AM
open Go

section
variable {P : Program}

theorem okWide_one {w : World} {r : Reach} {base : Nat} {t : TypeId} {v : Value} (h : Value.okWide P w r base t v) (ha : isAggT P t = false) : v.cells = #[v] := by
  cases ht : P.underlying t with
  | none => simp [Value.okWide, ht, Cell.okWide, Cell.ok] at h
  | some d =>
    cases v with
    | agg cs =>
      exfalso
      cases d <;> simp [isAggT, ht, aggDesc] at ha <;> simp [Value.okWide, ht, Cell.okWide, Cell.ok] at h
    | _ => rfl
theorem okWide_agg {w : World} {r : Reach} {base : Nat} {t : TypeId} {v : Value} (h : Value.okWide P w r base t v) (ha : isAggT P t = true) : ∃ cs, v = .agg cs := by
  cases ht : P.underlying t with
  | none => simp [isAggT, ht] at ha
  | some d =>
    cases d <;> simp [isAggT, ht, aggDesc] at ha
    all_goals
      simp only [Value.okWide, ht] at h
      obtain ⟨cs, h, _⟩ := h
      exact ⟨cs, h⟩
/-- An argument. -/
theorem arg_rep {H : Type} {enc : TypeId × Value → H} {w : World} {sp : Nat → Bool} {held : Bool} {r : Reach} {base : Nat} {t : TypeId} {v : Value} {d : DataW H} {ps : List MemPlace} (hl : laidOutB P = true) (hne : noEmpty P = true) (hv : isVar P t = true)
    (h : DataW.Trod enc P w 0 sp held t v d ps) (hok : Value.okWide P w r base t v) (hw : Light P t d) : ∃ avs, Shaped P t avs ∧ Rep noHeap w (pack P t avs) v := by
  obtain ⟨fuel, hf⟩ := h
  obtain ⟨avs, h1, h2⟩ := shaped_of_trod hl hne fuel t _ _ hv hf hw
  refine ⟨avs, h2, ?_⟩
  unfold pack
  cases ha : isAggT P t with
  | false =>
    rw [okWide_one hok ha] at h1
    obtain ⟨a, rfl, _⟩ := h2.one ha
    exact h1.2 0 (by simp) (by simp)
  | true =>
    obtain ⟨cs, rfl⟩ := okWide_agg hok ha
    have e : (Value.agg cs).cells.toList = cs.toList := rfl
    rw [e] at h1
    have := Rep.agg avs cs.toList h1.1 h1.2
    simpa using this

theorem TyI.bytesOf_eq {t : TypeId} {d : TypeDesc} {sz b : Nat} {z : Option Value} (h : TyI P t d sz z b) : P.bytesOf t = b := by
  have h1 := h.info
  unfold Program.bytesOf
  cases hi : P.info? t with
  | none => rw [hi] at h1; cases h1
  | some i => rw [hi] at h1; simp only [Option.map_some, Option.some.injEq, Prod.mk.injEq] at h1; simp [h1.2.2]
theorem reach_len {t : TypeId} {d : TypeDesc} {sz b n : Nat} {z : Option Value} (hT : TyI P t d sz z b) (h : n * P.bytesOf t ≤ reachBytes) : n * b ≤ 140737488351232 := by
  rw [hT.bytesOf_eq] at h; exact h
theorem pack_one {t : TypeId} {d : TypeDesc} {sz b : Nat} {z : Option Value} (h : TyI P t d sz z b) (hd : aggDesc d = false) (x : List AV) : pack P t x = x.headD .unk := by
  simp only [pack, isAggT, h.und, hd]
theorem pack_agg {t : TypeId} {d : TypeDesc} {sz b : Nat} {z : Option Value} (h : TyI P t d sz z b) (hd : aggDesc d = true) (x : List AV) : pack P t x = .agg x := by
  simp only [pack, isAggT, h.und, hd]

theorem shaped_int {t : TypeId} {k : IntKind} {sz b : Nat} {z : Option Value} {x : List AV} (h : TyI P t (.int k) sz z b) (hx : Shaped P t x) : ∃ n, x = [.int k n] ∧ k.min ≤ n ∧ n ≤ k.max := by
  have hu := h.und
  cases hx with
  | int n ht hw =>
    rw [hu] at ht; cases ht
    exact ⟨n, rfl, by simpa [Lit.wf] using hw⟩
  | other ht hd => rw [hu] at ht; cases ht; exact hd.elim
  | bool _ ht | str _ ht _ | slice _ ht _ _ | struct _ ht _ _ | array _ ht _ _ => rw [hu] at ht; cases ht
theorem shaped_bool {t : TypeId} {sz b : Nat} {z : Option Value} {x : List AV} (h : TyI P t .bool sz z b) (hx : Shaped P t x) : ∃ v, x = [.bool v] := by
  have hu := h.und
  cases hx with
  | bool n ht => exact ⟨n, rfl⟩
  | other ht hd => rw [hu] at ht; cases ht; exact hd.elim
  | int _ ht _ | str _ ht _ | slice _ ht _ _ | struct _ ht _ _ | array _ ht _ _ => rw [hu] at ht; cases ht
theorem shaped_str {t : TypeId} {sz b : Nat} {z : Option Value} {x : List AV} (h : TyI P t .string sz z b) (hx : Shaped P t x) : ∃ s, x = [.str s] ∧ s.size ≤ reachBytes := by
  have hu := h.und
  cases hx with
  | str s ht hs => exact ⟨s, rfl, hs⟩
  | other ht hd => rw [hu] at ht; cases ht; exact hd.elim
  | int _ ht _ | bool _ ht | slice _ ht _ _ | struct _ ht _ _ | array _ ht _ _ => rw [hu] at ht; cases ht
theorem shaped_slice {t e : TypeId} {sz b : Nat} {z : Option Value} {x : List AV} (h : TyI P t (.slice e) sz z b) (hx : Shaped P t x) : ∃ l : List (List AV), x = [.imm (l.map (pack P e))] ∧ l.length * P.bytesOf e ≤ reachBytes ∧ ∀ y ∈ l, Shaped P e y := by
  have hu := h.und
  cases hx with
  | slice l ht hl hs => rw [hu] at ht; cases ht; exact ⟨l, rfl, hl, hs⟩
  | other ht hd => rw [hu] at ht; cases ht; exact hd.elim
  | int _ ht _ | bool _ ht | str _ ht _ | struct _ ht _ _ | array _ ht _ _ => rw [hu] at ht; cases ht
/-- A list, its elements told. -/
theorem shaped_list {t e : TypeId} {sz b : Nat} {z : Option Value} {x : List AV} {α : Type} (en : α → AV) (good : α → Prop) (h : TyI P t (.slice e) sz z b) (hx : Shaped P t x) (he : ∀ y, Shaped P e y → ∃ a, pack P e y = en a ∧ good a) :
    ∃ l : List α, x = [.imm (l.map en)] ∧ l.length * P.bytesOf e ≤ reachBytes ∧ ∀ y ∈ l, good y := by
  obtain ⟨l, rfl, hl, hs⟩ := shaped_slice h hx
  have key : ∀ l : List (List AV), (∀ y ∈ l, Shaped P e y) → ∃ l' : List α, l.map (pack P e) = l'.map en ∧ l'.length = l.length ∧ ∀ y ∈ l', good y := by
    intro l
    induction l with
    | nil => exact fun _ => ⟨[], rfl, rfl, fun y hy => by cases hy⟩
    | cons y l ih =>
      intro hs
      obtain ⟨l', h1, h2, h3⟩ := ih fun z hz => hs z (List.mem_cons_of_mem _ hz)
      obtain ⟨a, h4, h5⟩ := he y (hs y List.mem_cons_self)
      exact ⟨a :: l', by simp [h1, h4], by simp [h2], fun z hz => by
        rcases List.mem_cons.1 hz with rfl | hz
        · exact h5
        · exact h3 z hz⟩
  obtain ⟨l', h1, h2, h3⟩ := key l hs
  exact ⟨l', by rw [h1], by rw [h2]; exact hl, h3⟩
def ShapedAll (P : Program) : List TypeId → List (List AV) → Prop
  | [], [] => True
  | t :: ts, x :: l => Shaped P t x ∧ ShapedAll P ts l
  | _, _ => False
theorem shapedAll_of : ∀ (ts : List TypeId) (l : List (List AV)), l.length = ts.length → (∀ i (h1 : i < l.length) (h2 : i < ts.length), Shaped P ts[i] l[i]) → ShapedAll P ts l
  | [], [], _, _ => trivial
  | [], _ :: _, h, _ => by simp at h
  | _ :: _, [], h, _ => by simp at h
  | t :: ts, x :: l, h, hr => ⟨hr 0 (by simp) (by simp), shapedAll_of ts l (by simpa using h) fun i h1 h2 => hr (i + 1) (Nat.succ_lt_succ h1) (Nat.succ_lt_succ h2)⟩
theorem shaped_struct {t : TypeId} {fs : Array Field} {sz b : Nat} {z : Option Value} {x : List AV} {ts : List TypeId} (h : TyI P t (.struct fs) sz z b) (hts : fs.toList.map (·.type) = ts) (hx : Shaped P t x) : ∃ l, x = l.flatten ∧ ShapedAll P ts l := by
  have hu := h.und
  subst hts
  cases hx with
  | struct l ht hl hs =>
    rw [hu] at ht; cases ht
    refine ⟨l, rfl, shapedAll_of _ _ (by simpa using hl) fun i h1 h2 => ?_⟩
    simpa using hs i h1 (by simpa using h2)
  | other ht hd => rw [hu] at ht; cases ht; exact hd.elim
  | int _ ht _ | bool _ ht | str _ ht _ | slice _ ht _ _ | array _ ht _ _ => rw [hu] at ht; cases ht
theorem shaped_array {t e : TypeId} {n : Nat} {sz b : Nat} {z : Option Value} {x : List AV} (h : TyI P t (.array n e) sz z b) (hx : Shaped P t x) : ∃ l : List (List AV), x = l.flatten ∧ l.length = n ∧ ∀ y ∈ l, Shaped P e y := by
  have hu := h.und
  cases hx with
  | array l ht hl hs => rw [hu] at ht; cases ht; exact ⟨l, rfl, hl, hs⟩
  | other ht hd => rw [hu] at ht; cases ht; exact hd.elim
  | int _ ht _ | bool _ ht | str _ ht _ | slice _ ht _ _ | struct _ ht _ _ => rw [hu] at ht; cases ht

/-- A law's call. -/
theorem law_calls {f : FuncId} {args : List AV} {vs : List Value} {w : World} (h : PCalls P f args noHeap (fun r => r = .bool true)) (hv : Reps noHeap w args vs) :
    Calls P f vs.toArray w fun e w' => e = .returned (.bool true) ∧ RowKit.Below w.heap.size w w' := by
  refine ((h noHeap (AHeap.sub_refl _)).2 w vs (fun b x hb => by cases hb) hv).mono ?_
  rintro e w' ⟨v, r, G', rfl, ⟨effs, ⟨_, rfl⟩, _, _⟩, hr, _, he⟩
  cases hr
  exact ⟨rfl, he.os, he.tape, he.output, he.size, fun k hk => he.same k hk (fun h => h)⟩
theorem reps_cons {w : World} {G : AHeap} {a : AV} {v : Value} {l : List AV} {vs : List Value} (h : Rep G w a v) (hl : Reps G w l vs) : Reps G w (a :: l) (v :: vs) := Reps.cons h hl
theorem reps_nil {w : World} {G : AHeap} : Reps G w [] [] := Reps.nil _ _
end
end Go.Proofs.Ytgedefcjngofkaa.AM

/- The abstract machine, part 12: what is read as data is an abstract value that fits its type. -/
import Derived.Test.YtgedefcjngofkaaAm11
import Derived.DeepKeys4
import Derived.Carry
set_option linter.unusedVariables false
set_option linter.unusedSimpArgs false
namespace Go.Proofs.Ytgedefcjngofkaa.AM
open Go

def noHeap : AHeap := fun _ => none
def isAggT (P : Program) (t : TypeId) : Bool := match P.underlying t with
  | some d => aggDesc d
  | none => false
def pack (P : Program) (t : TypeId) (x : List AV) : AV := match isAggT P t with
  | true => .agg x
  | false => x.headD .unk

inductive Shaped (P : Program) : TypeId → List AV → Prop
  | int {t : TypeId} {k : IntKind} (n : Int) (ht : P.underlying t = some (.int k)) (hw : (Lit.int k n).wf = true) : Shaped P t [.int k n]
  | bool {t : TypeId} (b : Bool) (ht : P.underlying t = some .bool) : Shaped P t [.bool b]
  | str {t : TypeId} (s : ByteArray) (ht : P.underlying t = some .string) (hs : s.size ≤ reachBytes) : Shaped P t [.str s]
  | slice {t e : TypeId} (l : List (List AV)) (ht : P.underlying t = some (.slice e)) (hl : l.length * P.bytesOf e ≤ reachBytes) (h : ∀ x ∈ l, Shaped P e x) : Shaped P t [.imm (l.map (pack P e))]
  | struct {t : TypeId} {fs : Array Field} (l : List (List AV)) (ht : P.underlying t = some (.struct fs)) (hl : l.length = fs.size)
      (h : ∀ i (h1 : i < l.length) (h2 : i < fs.size), Shaped P fs[i].type l[i]) : Shaped P t l.flatten
  | array {t e : TypeId} {n : Nat} (l : List (List AV)) (ht : P.underlying t = some (.array n e)) (hl : l.length = n) (h : ∀ x ∈ l, Shaped P e x) : Shaped P t l.flatten
  | other {t : TypeId} {d : TypeDesc} (ht : P.underlying t = some d)
      (hd : match d with | .int _ | .bool | .string | .slice _ | .struct _ | .array _ _ => False | _ => True) : Shaped P t [.unk]

theorem Shaped.one {P : Program} {t : TypeId} {x : List AV} (h : Shaped P t x) (ha : isAggT P t = false) : ∃ a, x = [a] ∧ a.cells = [a] := by
  cases h with
  | struct l ht _ _ => simp [isAggT, ht, aggDesc] at ha
  | array l ht _ _ => simp [isAggT, ht, aggDesc] at ha
  | _ => exact ⟨_, rfl, rfl⟩
theorem Shaped.pack_cells {P : Program} {t : TypeId} {x : List AV} (h : Shaped P t x) : (pack P t x).cells = x := by
  unfold pack
  cases ha : isAggT P t with
  | true => rfl
  | false => obtain ⟨a, rfl, h2⟩ := h.one ha; exact h2

theorem tile {α : Type} (cs : List α) : ∀ (ps : List (Nat × Nat)) (off : Nat), (∀ j p, ps[j]? = some p → p.1 = off + ((ps.take j).map (·.2)).sum) → off + (ps.map (·.2)).sum = cs.length →
    ps.flatMap (fun p => (cs.drop p.1).take p.2) = cs.drop off
  | [], off, h, hs => by simp at hs; simp [hs]
  | p :: ps, off, h, hs => by
    have h0 : p.1 = off := by simpa using h 0 p rfl
    have := tile cs ps (off + p.2) (fun j q hq => by have := h (j + 1) q (by simpa using hq); simpa [Nat.add_assoc] using this) (by simpa [Nat.add_assoc] using hs)
    rw [List.flatMap_cons, this, h0, ← List.drop_drop, List.take_append_drop]
theorem reps_flatten {G : AHeap} {w : World} : ∀ (l : List (List AV)) (cs : List (List Value)), l.length = cs.length → (∀ i (h1 : i < l.length) (h2 : i < cs.length), Reps G w l[i] cs[i]) → Reps G w l.flatten cs.flatten
  | [], [], _, _ => ⟨rfl, fun i h => by simp at h⟩
  | [], _ :: _, h, _ => by simp at h
  | _ :: _, [], h, _ => by simp at h
  | x :: l, c :: cs, h, hr => by
    simp only [List.flatten_cons]
    exact Reps.append (hr 0 (by simp) (by simp)) (reps_flatten l cs (by simpa using h) fun i h1 h2 => hr (i + 1) (Nat.succ_lt_succ h1) (Nat.succ_lt_succ h2))

theorem reps_one {G : AHeap} {w : World} {a : AV} {v : Value} (ha : Rep G w a v) : Reps G w [a] [v] := ⟨rfl, fun i h1 _ => by
  have : i = 0 := by simpa using h1
  subst this; exact ha⟩
theorem mapM_idx {α β : Type} {g : α → Option β} : ∀ {l : List α} {ys : List β}, l.mapM g = some ys → ys.length = l.length ∧ ∀ i (h : i < l.length), ∃ y, ys[i]? = some y ∧ g l[i] = some y
  | [], ys, h => by simp at h; subst h; exact ⟨rfl, fun i h => by simp at h⟩
  | a :: l, ys, h => by
    simp only [List.mapM_cons, Option.bind_eq_bind, Option.bind_eq_some_iff, Option.pure_def, Option.some.injEq] at h
    obtain ⟨y, hy, zs, hz, rfl⟩ := h
    obtain ⟨h1, h2⟩ := mapM_idx hz
    refine ⟨by simp [h1], fun i hi => ?_⟩
    cases i with
    | zero => exact ⟨y, rfl, hy⟩
    | succ i => simpa using h2 i (by simpa using hi)
def Light {H : Type} (P : Program) (t : TypeId) (d : DataW H) : Prop := ∀ n ∈ d.weights P t, n ≤ reachBytes
theorem weightsAll_mem {H : Type} {P : Program} {e : TypeId} : ∀ {ds : List (DataW H)} {i : Nat} {d : DataW H}, ds[i]? = some d → ∀ n ∈ d.weights P e, n ∈ DataW.weightsAll P e ds
  | [], i, d, h => by simp at h
  | x :: ds, 0, d, h => fun n hn => by
    simp at h; subst h
    unfold DataW.weightsAll; exact List.mem_append_left _ hn
  | x :: ds, i + 1, d, h => fun n hn => by
    unfold DataW.weightsAll; exact List.mem_append_right _ (weightsAll_mem (by simpa using h) n hn)
theorem weightsEach_mem {H : Type} {P : Program} : ∀ {ts : List TypeId} {ds : List (DataW H)} {i : Nat} {t : TypeId} {d : DataW H}, ts[i]? = some t → ds[i]? = some d → ∀ n ∈ d.weights P t, n ∈ DataW.weightsEach P ts ds
  | [], _, i, t, d, h, _ => by simp at h
  | _ :: _, [], i, t, d, _, h => by simp at h
  | t' :: ts, x :: ds, 0, t, d, h, h' => fun n hn => by
    simp at h h'; subst h; subst h'
    unfold DataW.weightsEach; exact List.mem_append_left _ hn
  | t' :: ts, x :: ds, i + 1, t, d, h, h' => fun n hn => by
    unfold DataW.weightsEach; exact List.mem_append_right _ (weightsEach_mem (by simpa using h) (by simpa using h') n hn)
theorem choose_list {β : Type} {p : Nat → β → Prop} : ∀ (n : Nat), (∀ i, i < n → ∃ y, p i y) → ∃ l : List β, l.length = n ∧ ∀ i (h : i < l.length), p i l[i]
  | 0, _ => ⟨[], rfl, fun i h => by simp at h⟩
  | n + 1, h => by
    obtain ⟨l, h1, h2⟩ := choose_list n fun i hi => h i (by omega)
    obtain ⟨y, hy⟩ := h n (by omega)
    refine ⟨l ++ [y], by simp [h1], fun i hi => ?_⟩
    rcases Nat.lt_or_ge i l.length with h' | h'
    · rw [List.getElem_append_left h']; exact h2 i h'
    · have : i = l.length := by simp at hi; omega
      subst this
      simp
      rw [h1]; exact hy

def noEmpty (P : Program) : Bool := (List.range P.types.size).all fun t => match P.underlying t with
  | some (.slice e) => Nat.blt 0 (P.cellsOf e)
  | _ => true

section
variable {H : Type} {enc : TypeId × Value → H} {P : Program} {w : World} {sp : Nat → Bool} {held : Bool}
theorem cells_some {a : Addr} {n : Nat} {cs : List Value} (h : w.cells? 0 a n = some cs) : cs.length = n ∧ ∀ j (hj : j < cs.length), w.cell? (a.add j) = some cs[j] := by
  unfold World.cells? at h
  rw [if_pos (Nat.zero_le _)] at h
  have := mapM_idx h
  refine ⟨by simpa using this.1, fun j hj => ?_⟩
  have key : ∀ (l : List Nat) (ys : List Value), l.mapM (fun i => w.cell? (a.add i)) = some ys → ∀ j (h1 : j < l.length) (h2 : j < ys.length), w.cell? (a.add l[j]) = some ys[j] := by
    intro l
    induction l with
    | nil => intro ys _ j h1; simp at h1
    | cons x l ih =>
      intro ys hy j h1 h2
      simp only [List.mapM_cons, Option.bind_eq_bind, Option.bind_eq_some_iff, Option.pure_def, Option.some.injEq] at hy
      obtain ⟨y, hy1, zs, hz, rfl⟩ := hy
      cases j with
      | zero => exact hy1
      | succ j => simpa using ih zs hz j (by simpa using h1) (by simpa using h2)
  have := key _ _ h j (by have := this.1; omega) hj
  simpa using this

theorem shaped_of_trod (hl : laidOutB P = true) (hne : noEmpty P = true) : ∀ (fuel : Nat) (t : TypeId) (cs : List Value) (x : DataW H × List MemPlace), isVar P t = true → DataW.trod enc P w 0 sp held fuel t cs = some x → Light P t x.1 →
    ∃ avs, Reps noHeap w avs cs ∧ Shaped P t avs
  | 0, t, cs, x, _, h, _ => by simp [DataW.trod] at h
  | fuel + 1, t, cs, x, hv, h, hw => by
    have hlt : t < P.types.size := by unfold isVar at hv; simp at hv; exact hv.1
    have hrow := rowFine_of_laidOut hl hlt
    unfold rowFine at hrow
    rw [hv] at hrow
    simp only [Bool.not_true, Bool.false_or] at hrow
    have one : ∀ (a : AV) (v : Value), Rep noHeap w a v → Reps noHeap w [a] [v] := fun a v ha => reps_one ha
    cases ht : P.underlying t with
    | none => simp [DataW.trod, ht] at h
    | some d =>
      cases d with
      | bool =>
        unfold DataW.trod at h; rw [ht] at h
        split at h <;> simp_all
        exact ⟨_, one _ _ (.bool _), .bool _ ht⟩
      | int k =>
        unfold DataW.trod at h; rw [ht] at h
        split at h <;> simp_all
        exact ⟨_, one _ _ (.int _ _), .int _ ht h.1.2⟩
      | string =>
        unfold DataW.trod at h; rw [ht] at h
        split at h <;> simp_all
        refine ⟨_, one _ _ (.str _), .str _ ht ?_⟩
        have h2 := hw
        rw [← h.2] at h2
        have h3 := h2 _ (by unfold DataW.weights; exact List.mem_singleton.2 rfl)
        simpa using h3
      | slice e =>
        rw [ht] at hrow
        simp only [Bool.and_eq_true, beq_iff_eq] at hrow
        have hc0 : 0 < P.cellsOf e := by
          have := List.all_eq_true.1 hne t (by simpa using hlt)
          rw [ht] at this
          simpa [Nat.blt_eq] using this
        unfold DataW.trod at h; rw [ht] at h
        match cs, h with
        | [.slice none 0 0], h => exact ⟨_, one _ _ (.imm0 _ _), .slice [] ht (by simp) (fun x hx => by simp at hx)⟩
        | [.slice (some a) len cap], h =>
          simp only [] at h
          split at h
          · rename_i hcond
            simp only [Option.bind_eq_some_iff, Option.map_eq_some_iff] at h
            obtain ⟨elems, he, rest, _, rfl⟩ := h
            obtain ⟨hel, he⟩ := mapM_idx he
            have hws : ((elems.map (·.1)).length + (rest.map (·.1)).length) * P.bytesOf e ≤ reachBytes ∧ ∀ n ∈ DataW.weightsAll P e (elems.map (·.1)), n ≤ reachBytes := by
              unfold Light DataW.weights at hw
              rw [ht] at hw
              exact ⟨hw _ List.mem_cons_self, fun n hn => hw n (List.mem_cons_of_mem _ (List.mem_append_left _ hn))⟩
            obtain ⟨l, h1, h2⟩ := choose_list (p := fun i (y : List AV × List Value) => w.cells? 0 (a.add (i * P.cellsOf e)) (P.cellsOf e) = some y.2 ∧ Reps noHeap w y.1 y.2 ∧ Shaped P e y.1) len fun i hi => by
              obtain ⟨y, hyi, hy⟩ := he i (by simpa using hi)
              simp only [List.getElem_range, Option.bind_eq_some_iff] at hy
              obtain ⟨ci, hc, ht2⟩ := hy
              obtain ⟨avs, g1, g2⟩ := shaped_of_trod hl hne fuel e ci _ hrow.1 ht2 (fun n hn => hws.2 n (weightsAll_mem (i := i) (d := y.1) (by simp [hyi]) n hn))
              exact ⟨(avs, ci), hc, g1, g2⟩
            have hsh : Shaped P t [.imm ((l.map (·.1)).map (pack P e))] := .slice _ ht (by simp only [List.length_map, h1]; simp only [List.length_map, hel, List.length_range] at hws; exact Nat.le_trans (Nat.mul_le_mul_right _ (Nat.le_add_right _ _)) hws.1) (fun x hx => by
              obtain ⟨y, hy, rfl⟩ := List.mem_map.1 hx
              obtain ⟨i, hi, rfl⟩ := List.getElem_of_mem hy
              exact (h2 i hi).2.2)
            refine ⟨_, one _ _ ?_, hsh⟩
            rcases Nat.eq_zero_or_pos len with h0 | h0
            · subst h0
              obtain rfl : l = [] := List.length_eq_zero_iff.1 h1
              exact .imm0 _ _
            · have hlen : len = ((l.map (·.1)).map (pack P e)).length := by simp [h1]
              have hcl : ∀ i (h : i < l.length), l[i].1.length = P.cellsOf e := fun i hi => by rw [(h2 i hi).2.1.1]; exact (cells_some (h2 i hi).1).1
              rw [hlen]
              refine .imm _ a cap (P.cellsOf e) (fun i j => (w.cell? (a.add (i * P.cellsOf e + j))).getD undef) (by rw [← hlen]; exact hcond.2.1) rfl ?_ (fun i hi => ?_) (fun i j hi hj => ?_) (fun i hi j hj => ?_)
              · have := (cells_some (h2 0 (by omega)).1)
                have hcell := this.2 0 (by rw [this.1]; exact hc0)
                rcases Nat.lt_or_ge a.block w.heap.size with h' | h'
                · exact h'
                · unfold World.cell? at hcell
                  rw [add_block, add_block, Array.getElem?_eq_none h'] at hcell
                  cases hcell
              · have hi' : i < l.length := by simpa using hi
                simp only [List.getElem_map]
                rw [(h2 i hi').2.2.pack_cells]; exact hcl i hi'
              · have hi' : i < l.length := by simpa using hi
                have := cells_some (h2 i hi').1
                have hc := this.2 j (by rw [this.1]; exact hj)
                rw [add_add] at hc
                rw [hc]; rfl
              · have hi' : i < l.length := by simpa using hi
                have hcs := cells_some (h2 i hi').1
                have hpk := (h2 i hi').2.2.pack_cells
                have hj' : j < l[i].1.length := by simp only [List.getElem_map] at hj; rw [hpk] at hj; exact hj
                have hj2 : j < l[i].2.length := by rw [hcs.1]; rw [hcl i hi'] at hj'; exact hj'
                have hc := hcs.2 j hj2
                rw [add_add] at hc
                rw [hc]
                have hr := (h2 i hi').2.1.2 j hj' hj2
                simp only [List.getElem_map, Option.getD_some]
                simpa [hpk] using hr
          · cases h
      | struct fs =>
        rw [ht] at hrow
        simp only [Bool.and_eq_true, beq_iff_eq, List.all_eq_true, List.mem_range] at hrow
        unfold DataW.trod at h; rw [ht] at h
        simp only [] at h
        split at h
        · rename_i hcs
          simp only [Option.map_eq_some_iff] at h
          obtain ⟨xs, hx, rfl⟩ := h
          obtain ⟨_, hx⟩ := mapM_idx hx
          have hws : ∀ n ∈ DataW.weightsEach P (fs.toList.map (·.type)) (xs.map (·.1)), n ≤ reachBytes := by
            unfold Light DataW.weights at hw
            rw [ht] at hw
            exact hw
          obtain ⟨l, h1, h2⟩ := choose_list (p := fun i (y : List AV) => ∀ h : i < fs.toList.length, Reps noHeap w y ((cs.drop fs.toList[i].offset).take (P.cellsOf fs.toList[i].type)) ∧ Shaped P fs.toList[i].type y) fs.toList.length fun i hi => by
            obtain ⟨y, hyi, hy⟩ := hx i hi
            obtain ⟨avs, g1, g2⟩ := shaped_of_trod hl hne fuel _ _ _ (hrow.1.1 _ (List.getElem_mem hi)) hy (fun n hn => hws n (weightsEach_mem (i := i) (t := fs.toList[i].type) (d := y.1) (by rw [List.getElem?_map, List.getElem?_eq_getElem hi]; rfl) (by simp [hyi]) n hn))
            exact ⟨avs, fun _ => ⟨g1, g2⟩⟩
          refine ⟨l.flatten, ?_, .struct l ht (by simpa using h1) (fun i i1 i2 => by
            have e : fs.toList[i]'(by simpa using i2) = fs[i] := Array.getElem_toList _
            rw [← e]; exact (h2 i i1 (by simpa using i2)).2)⟩
          have ht2 := tile cs (fs.toList.map fun f => (f.offset, P.cellsOf f.type)) 0 (fun j p hp => ?_) (by
            rw [hcs, hrow.1.2]; simp [List.map_map, Function.comp_def])
          · rw [List.drop_zero, List.flatMap_map] at ht2
            rw [← ht2, List.flatMap_def]
            exact reps_flatten _ _ (by simp [h1]) fun i i1 i2 => by
              have := (h2 i i1 (by simpa using i2)).1
              simpa using this
          · rw [List.getElem?_map, Option.map_eq_some_iff] at hp
            obtain ⟨f, hf, rfl⟩ := hp
            have hj : j < fs.toList.length := by
              rcases Nat.lt_or_ge j fs.toList.length with h' | h'
              · exact h'
              · rw [List.getElem?_eq_none h'] at hf; cases hf
            have := hrow.2 j hj
            rw [hf] at this
            simp only [beq_iff_eq] at this
            simp only [Nat.zero_add, this, ← List.map_take, List.map_map, Function.comp_def]
        · cases h
      | array n e =>
        rw [ht] at hrow
        simp only [Bool.and_eq_true, beq_iff_eq] at hrow
        unfold DataW.trod at h; rw [ht] at h
        simp only [] at h
        split at h
        · rename_i hcs
          simp only [Option.map_eq_some_iff] at h
          obtain ⟨xs, hx, rfl⟩ := h
          obtain ⟨_, hx⟩ := mapM_idx hx
          have hws : ∀ n ∈ DataW.weightsAll P e (xs.map (·.1)), n ≤ reachBytes := by
            unfold Light DataW.weights at hw
            rw [ht] at hw
            exact hw
          obtain ⟨l, h1, h2⟩ := choose_list (p := fun i (y : List AV) => Reps noHeap w y ((cs.drop (i * P.cellsOf e)).take (P.cellsOf e)) ∧ Shaped P e y) n fun i hi => by
            obtain ⟨y, hyi, hy⟩ := hx i (by simpa using hi)
            simp only [List.getElem_range] at hy
            obtain ⟨avs, g1, g2⟩ := shaped_of_trod hl hne fuel _ _ _ hrow.1 hy (fun n hn => hws n (weightsAll_mem (i := i) (d := y.1) (by simp [hyi]) n hn))
            exact ⟨avs, g1, g2⟩
          refine ⟨l.flatten, ?_, .array l ht h1 (fun x hx => by
            obtain ⟨i, hi, rfl⟩ := List.getElem_of_mem hx
            exact (h2 i hi).2)⟩
          have hsum : ∀ j, j ≤ n → (((List.range n).map fun i => (i * P.cellsOf e, P.cellsOf e)).take j |>.map (·.2)).sum = j * P.cellsOf e := fun j hj => by
            rw [← List.map_take, List.map_map]
            simp only [Function.comp_def, List.map_const', List.sum_replicate_nat, List.length_take, List.length_range]
            rw [Nat.min_eq_left hj]
          have ht2 := tile cs ((List.range n).map fun i => (i * P.cellsOf e, P.cellsOf e)) 0 (fun j p hp => ?_) (by
            have := hsum n (Nat.le_refl _)
            rw [List.take_of_length_le (by simp)] at this
            rw [this, hcs, hrow.2]; simp)
          · rw [List.drop_zero, List.flatMap_map] at ht2
            rw [← ht2, List.flatMap_def]
            exact reps_flatten _ _ (by simp [h1]) fun i i1 i2 => by
              have := (h2 i i1).1
              simpa using this
          · rw [List.getElem?_map, Option.map_eq_some_iff] at hp
            obtain ⟨f, hf, rfl⟩ := hp
            have hj : j < n := by
              rcases Nat.lt_or_ge j n with h' | h'
              · exact h'
              · rw [List.getElem?_eq_none (by simpa using h')] at hf; cases hf
            rw [List.getElem?_range hj] at hf
            cases hf
            rw [hsum _ (by omega)]; simp
        · cases h
      | _ =>
        have : ∃ v, cs = [v] := by
          unfold DataW.trod at h; rw [ht] at h
          split at h <;> first | exact ⟨_, rfl⟩ | simp_all
        obtain ⟨v, rfl⟩ := this
        exact ⟨[.unk], one _ _ (.unk _), .other ht trivial⟩
end
end Go.Proofs.Ytgedefcjngofkaa.AM

/- The abstract machine, part 16: maps whose keys are integers. -/
import Derived.Test.YtgedefcjngofkaaAm15
set_option linter.unusedVariables false
set_option linter.unusedSimpArgs false
namespace Go.Proofs.Ytgedefcjngofkaa.AM
open Go

abbrev MRow := List (Int × AV)
def mrow (k : IntKind) (m : MRow) : ARow := .map (m.map fun p => (.int k p.1, p.2))
def mget : MRow → Int → Option AV
  | [], _ => none
  | (a, v) :: m, n => if n = a then some v else mget m n
def mput : MRow → Int → AV → MRow
  | [], n, v => [(n, v)]
  | (a, u) :: m, n, v => if n = a then (n, v) :: m else (a, u) :: mput m n v
def mfind : List Int → Int → Nat → Option Nat
  | [], _, _ => none
  | a :: l, n, i => if n = a then some i else mfind l n (i + 1)

theorem findNow_int {k : IntKind} {n : Int} : ∀ (es : List MapEntry) (l : List Int) (i : Nat), es.map (·.key) = l.map (.int k) → Instr.findNow (.int k) (.int k n) es i = some ((mfind l n i).bind fun j => (es[j - i]?).map fun e => (j, e.val))
  | [], [], i, _ => rfl
  | [], _ :: _, i, h => by simp at h
  | _ :: _, [], i, h => by simp at h
  | e :: es, a :: l, i, h => by
    simp only [List.map_cons, List.cons.injEq] at h
    simp only [Instr.findNow, h.1, Instr.sameNow, if_true, mfind]
    by_cases hn : n = a
    · simp [hn]
    · have hb : (n == a) = false := by simpa using hn
      simp only [hb, if_neg hn]
      rw [findNow_int es l (i + 1) h.2]
      congr 1
      cases hm : mfind l n (i + 1) with
      | none => rfl
      | some j =>
        have hlt : i + 1 ≤ j := by
          have key : ∀ (l : List Int) (i j : Nat), mfind l n i = some j → i ≤ j := by
            intro l
            induction l with
            | nil => intro i j h; simp [mfind] at h
            | cons a l ih => intro i j h; simp only [mfind] at h; split at h
                             · simp at h; omega
                             · have := ih _ _ h; omega
          exact key _ _ _ hm
        have e1 : j - i = (j - (i + 1)) + 1 := by omega
        simp [e1]
theorem mfind_get : ∀ (m : MRow) (n : Int) (i : Nat), match mfind (m.map (·.1)) n i with
    | none => mget m n = none ∧ ∀ v, mput m n v = m ++ [(n, v)]
    | some j => ∃ h : j - i < m.length, i ≤ j ∧ mget m n = some (m[j - i].2) ∧ m[j - i].1 = n ∧ ∀ v, mput m n v = m.set (j - i) (n, v)
  | [], n, i => by simp [mfind, mget, mput]
  | (a, u) :: m, n, i => by
    simp only [List.map_cons, mfind]
    by_cases hn : n = a
    · subst hn; simp [mget, mput]
    · simp only [if_neg hn]
      have ih := mfind_get m n (i + 1)
      cases hm : mfind (m.map (·.1)) n (i + 1) with
      | none => rw [hm] at ih; simp only at ih ⊢; exact ⟨by simp [mget, hn, ih.1], fun v => by simp [mput, hn, ih.2]⟩
      | some j =>
        rw [hm] at ih; simp only at ih ⊢
        obtain ⟨h1, h2, h3, h4, h5⟩ := ih
        have e1 : j - i = (j - (i + 1)) + 1 := by omega
        refine ⟨by simp [e1]; exact h1, by omega, ?_, ?_, fun v => ?_⟩
        · simp [mget, hn, h3, e1]
        · simp [e1, h4]
        · simp [mput, hn, h5, e1]

section
variable {md : Bool} {P : Program} {c : Ctx} {env : Env} {G : AHeap} {dst : Option Tmp} {ty : TypeId} {pos : String} {af : Array Edge} {gd : Option (Nat × Bool)} {Q : Exit → Act → World → Prop} {K : Act → World → Prop}

/-- What is known of a map's block. -/
theorem map_block {w : World} {r : Nat} {k : IntKind} {m : MRow} (h : Sim G w) (hG : G r = some (mrow k m)) : ∃ (ents : Array MapEntry) (clock : Nat), w.heap[r]? = some (.map ents clock) ∧ ents.toList.map (·.key) = (m.map (·.1)).map (.int k) ∧
    ents.size = m.length ∧ (∀ i (h1 : i < m.length) (h2 : i < ents.size), Rep G w m[i].2 ents[i].val) ∧ (∀ i (h : i < ents.size), ents[i].born < clock) ∧ (∀ i j (h : i < ents.size) (h' : j < ents.size), i < j → ents[i].born < ents[j].born) := by
  obtain ⟨ents, clock, h1, h2, h3, h4, h5⟩ := h _ _ hG
  have hl : ents.size = m.length := by simpa using h2
  refine ⟨ents, clock, h1, ?_, hl, fun i i1 i2 => ?_, h4, h5⟩
  · refine List.ext_getElem (by simp [hl]) fun i i1 i2 => ?_
    have := (h3 i (by simpa [hl] using i1) (by simpa using i1)).1
    simp only [List.getElem_map] at this ⊢
    simp only [Array.getElem_toList]
    generalize (ents[i]'(by simpa using i1)).key = kv at this
    cases this; rfl
  · have := (h3 i (by simpa using i1) i2).2
    simpa using this
theorem run_checkKey {T : TypeId} {k : IntKind} {n : Int} {s b' : Nat} {z : Option Value} (hT : TyI P T (.int k) s z b') (e : Bool) (w : World) : (Instr.checkKey e 10000 T (.int k n)).run P w = .ok () w := by
  rw [show (10000 : Nat) = 9999 + 1 from rfl]
  unfold Instr.checkKey
  simp only [Sem.run_bind, hT.run_und, Result.andThen_ok]
  rfl
theorem run_findKey {T : TypeId} {k : IntKind} {n : Int} {s b' : Nat} {z : Option Value} {es : List MapEntry} {l : List Int} (hT : TyI P T (.int k) s z b') (h : es.map (·.key) = l.map (.int k)) (w : World) :
    (Instr.findKey T (.int k n) es).run P w = .ok ((mfind l n 0).bind fun j => (es[j]?).map fun e => (j, e.val)) w := by
  unfold Instr.findKey
  simp only [Sem.run_bind, hT.run_und, Result.andThen_ok, findNow_int es l 0 h]
  rfl
theorem val_lookup {T KT E : TypeId} {k : IntKind} {n : Int} {s b' sk bk se be r : Nat} {z zk : Option Value} {zv : Value} {de : TypeDesc} {x y : Operand} {m : MRow} {ok : Bool} (hT : TyI P T (.map KT E) s z b') (hK : TyI P KT (.int k) sk zk bk) (hE : TyI P E de se (some zv) be)
    (hx : aeval env x = some (.map r)) (hG : G r = some (mrow k m)) (hy : aeval env y = some (.int k n)) :
    Val P c ⟨dst, .lookup T x y ok, ty, pos, af, gd⟩ env G (if ok then .tup [(mget m n).getD (zAV zv), .bool (mget m n).isSome] else (mget m n).getD (zAV zv)) := fun a w hs => by
  obtain ⟨ents, clock, h1, h2, h3, h4, _, _⟩ := map_block hs.sim hG
  have hr := hs.eval hx
  have hlt : r < w.heap.size := by
    rcases Nat.lt_or_ge r w.heap.size with h' | h'
    · exact h'
    · rw [Array.getElem?_eq_none h'] at h1; cases h1
  generalize hu : a.eval x = u at hr
  cases hr
  have hm := mfind_get m n 0
  have key : ∃ v, Rep G w ((mget m n).getD (zAV zv)) v ∧ ∀ w', Same w w' → (Instr.lookup T (.map (some r)) (.int k n) ok).run P w' = .ok (if ok then .tuple #[v, .bool (mget m n).isSome] else v) w' := by
    cases hf : mfind (m.map (·.1)) n 0 with
    | none =>
      rw [hf] at hm; simp only at hm
      refine ⟨zv, by rw [hm.1]; exact zAV_rep _ _ _, fun w' hw' => ?_⟩
      have h1' : w'.heap[r]? = some (.map ents clock) := (hw'.2 r hlt).trans h1
      have hg : (getObj r).run P w' = .ok (.map ents clock) w' := by simp [getObj, Sem.run, h1']
      simp only [Instr.lookup, Sem.run_bind, hT.run_und, Result.andThen_ok, hg, Sem.run_pure, run_checkKey hK, run_findKey hK h2, hf, Option.bind_none, hE.run_zero, hm.1]
      cases ok <;> rfl
    | some j =>
      rw [hf] at hm; simp only [Nat.sub_zero] at hm
      obtain ⟨g1, _, g3, g4, _⟩ := hm
      have hj : j < ents.size := by omega
      refine ⟨ents[j].val, by rw [g3]; exact h4 j g1 hj, fun w' hw' => ?_⟩
      have h1' : w'.heap[r]? = some (.map ents clock) := (hw'.2 r hlt).trans h1
      have hg : (getObj r).run P w' = .ok (.map ents clock) w' := by simp [getObj, Sem.run, h1']
      have he : ents.toList[j]? = some ents[j] := by rw [Array.getElem?_toList]; exact Array.getElem?_eq_getElem hj
      simp only [Instr.lookup, Sem.run_bind, hT.run_und, Result.andThen_ok, hg, Sem.run_pure, run_checkKey hK, run_findKey hK h2, hf, Option.bind_some, he, Option.map_some, g3]
      cases ok <;> rfl
  obtain ⟨v, hv, hrun⟩ := key
  refine ⟨if ok then .tuple #[v, .bool (mget m n).isSome] else v, ?_, fun w' hw' => ?_⟩
  · cases ok with
    | false => exact hv
    | true => exact .tup [_, _] [v, .bool _] rfl (fun i i1 i2 => by
        match i, i1 with
        | 0, _ => exact hv
        | 1, _ => exact .bool _)
  · have := hrun w' (hw' rfl)
    simp only [execOp, hu, rep_int (hs.eval hy), Sem.run_bind, this, Result.andThen_ok, Sem.run_pure]
theorem equalIn_map_nil {T KT E s b' : Nat} {z : Option Value} (hT : TyI P T (.map KT E) s z b') (d : Nat) (p : Option Nat) (w : World) : (Op.equalIn (d + 1) T (.map p) (.map none)).run P w = .ok p.isNone w := by
  cases p <;> simp [Op.equalIn, hT.run_und]
theorem equal_map_nil {T KT E s b' : Nat} {z : Option Value} (hT : TyI P T (.map KT E) s z b') (p : Option Nat) (w : World) : (Op.equal T (.map p) (.map none)).run P w = .ok p.isNone w := equalIn_map_nil hT 9999 p w
theorem val_map_eql_nil {T KT E : TypeId} {s b' r : Nat} {z : Option Value} {x y : Operand} {T' : TypeId} (hT : TyI P T (.map KT E) s z b') (hx : aeval env x = some (.map r)) (hy : aeval env y = some .nilm) :
    ValM md P c ⟨dst, .binOp .eql T x y T', ty, pos, af, gd⟩ env G (.bool false) := fun a w hs => by
  have hr := hs.eval hx
  have hr2 := hs.eval hy
  generalize hu : a.eval x = u at hr
  generalize hu2 : a.eval y = u2 at hr2
  cases hr; cases hr2
  refine ⟨_, .bool _, fun w' _ => ?_⟩
  have hg : (eqGuard .eql T x y (.map (some r)) (.map none)).run P w' = .ok () w' := by
    unfold eqGuard; rfl
  simp only [execOp, hu, hu2, Sem.run_bind, hg, Result.andThen_ok]
  have : (binOp .eql T (.map (some r)) (.map none)).run P w' = .ok (.bool false) w' := by
    have e : binOp .eql T (.map (some r)) (.map none) = (do pure (.bool (← Op.equal T (.map (some r)) (.map none)))) := rfl
    rw [e]; simp [equal_map_nil hT]
  rw [this]; rfl

/-- A world with another object in a block's place. -/
def setO (w : World) (r : Nat) (o : Obj) : World := { w with heap := w.heap.setIfInBounds r o }
theorem setO_other (w : World) (r b : Nat) (o : Obj) (h : b ≠ r) : (setO w r o).heap[b]? = w.heap[b]? := by
  simp [setO, Array.getElem?_setIfInBounds_ne (Ne.symm h)]
theorem setO_self (w : World) (r : Nat) (o : Obj) (h : r < w.heap.size) : (setO w r o).heap[r]? = some o := by
  simp [setO, h]
theorem ext_setO {w : World} {r c0 c1 : Nat} {e0 e1 : Array MapEntry} {y : ARow} (hh : w.heap[r]? = some (.map e0 c0)) (hr : G r ≠ none) : Ext G w (fun b => b = r) (G.set r y) (setO w r (.map e1 c1)) where
  os := rfl
  tape := rfl
  output := rfl
  size := by simp [setO]
  same := fun b hb hn => setO_other w r b _ hn
  shape := fun b hb => by
    unfold World.shape?
    by_cases e : b = r
    · subst e; rw [setO_self w b _ hb, hh]
    · rw [setO_other w r b _ e]
  dom := fun b hb hg => by
    have : b ≠ r := fun e => hr (e ▸ hg)
    rw [AHeap.get_set_ne _ _ this]; exact hg
  lists := fun b e => by subst e; exact hr
theorem sim_setO {w : World} {r c0 c1 : Nat} {e0 e1 : Array MapEntry} {y : ARow} (hs : Sim G w) (hh : w.heap[r]? = some (.map e0 c0)) (hr : G r ≠ none) (hy : RowRep (G.set r y) (setO w r (.map e1 c1)) r y) : Sim (G.set r y) (setO w r (.map e1 c1)) := fun b x hb => by
  unfold AHeap.set at hb
  split at hb
  · rename_i e; subst e; cases hb; exact hy
  · rename_i e; exact (hs b x hb).mono (ext_setO hh hr) (setO_other w r b _ e)

theorem step_mapUpdate {T KT E : TypeId} {k : IntKind} {n : Int} {s b' sk bk r : Nat} {z zk : Option Value} {x y v : Operand} {m : MRow} {av : AV} (hT : TyI P T (.map KT E) s z b') (hK : TyI P KT (.int k) sk zk bk)
    (hx : aeval env x = some (.map r)) (hG : G r = some (mrow k m)) (hy : aeval env y = some (.int k n)) (hv : aeval env v = some av) (hD : c.D r ∨ c.w0.heap.size ≤ r)
    (h : Goal c env (G.set r (mrow k (mput m n av))) K) : Step P c ⟨none, .mapUpdate T x y v, ty, pos, af, gd⟩ Q env G K := fun a w hs => by
  obtain ⟨ents, clock, h1, h2, h3, h4, h5, h6⟩ := map_block hs.sim hG
  have hlt : r < w.heap.size := by
    rcases Nat.lt_or_ge r w.heap.size with h' | h'
    · exact h'
    · rw [Array.getElem?_eq_none h'] at h1; cases h1
  have hr := hs.eval hx
  generalize hu : a.eval x = u at hr
  cases hr
  have hne : G r ≠ none := by rw [hG]; simp
  have hg : (getObj r).run P w = .ok (.map ents clock) w := by simp [getObj, Sem.run, h1]
  have hset : ∀ o, (setObj r o).run P w = .ok () (setO w r o) := fun o => by simp [setObj, Sem.run, h1, setO]
  have hm := mfind_get m n 0
  have hrv := hs.eval hv
  have key : ∃ e1 c1, (Instr.mapUpdate T (.map (some r)) (.int k n) (a.eval v)).run P w = .ok () (setO w r (.map e1 c1)) ∧ e1.size = (mput m n av).length ∧
      (∀ i (h1 : i < (mput m n av).length) (h2 : i < e1.size), Rep G w (.int k (mput m n av)[i].1) e1[i].key ∧ Rep G w (mput m n av)[i].2 e1[i].val) ∧
      (∀ i (h : i < e1.size), e1[i].born < c1) ∧ (∀ i j (h : i < e1.size) (h' : j < e1.size), i < j → e1[i].born < e1[j].born) := by
    have hkey : ∀ i (h1 : i < m.length) (h2 : i < ents.size), Rep G w (.int k m[i].1) ents[i].key := fun i i1 i2 => by
      have := congrArg (fun l => l[i]?) h2
      simp [i2, i1] at this
      rw [this]; exact .int _ _
    cases hf : mfind (m.map (·.1)) n 0 with
    | none =>
      rw [hf] at hm; simp only at hm
      refine ⟨ents.push ⟨.int k n, a.eval v, clock⟩, clock + 1, ?_, ?_, ?_, ?_, ?_⟩
      · simp only [Instr.mapUpdate, Sem.run_bind, hT.run_und, Result.andThen_ok, hg, run_checkKey hK, run_findKey hK h2, hf, Option.bind_none, hset]
      · rw [hm.2]; simp [h3]
      · intro i i1 i2
        have e := hm.2 av
        simp only [e]
        rcases Nat.lt_or_ge i m.length with h' | h'
        · have hi : i < ents.size := by omega
          rw [List.getElem_append_left h', Array.getElem_push_lt hi]
          exact ⟨hkey i h' hi, h4 i h' hi⟩
        · have hi : i = ents.size := by simp at i2; omega
          have hi' : i = m.length := by omega
          subst hi'
          have e2 : (ents.push ⟨.int k n, a.eval v, clock⟩)[m.length]'i2 = ⟨.int k n, a.eval v, clock⟩ := by simp [hi]
          rw [e2]
          simp only [List.getElem_concat_length]
          exact ⟨.int _ _, hrv⟩
      · intro i i1
        rcases Nat.lt_or_ge i ents.size with h' | h'
        · rw [Array.getElem_push_lt h']; have := h5 i h'; omega
        · have : i = ents.size := by simp at i1; omega
          subst this; simp
      · intro i j i1 i2 hij
        have hi : i < ents.size := by simp at i2; omega
        rw [Array.getElem_push_lt hi]
        rcases Nat.lt_or_ge j ents.size with h' | h'
        · rw [Array.getElem_push_lt h']; exact h6 i j hi h' hij
        · have : j = ents.size := by simp at i2; omega
          subst this; simp; exact h5 i hi
    | some j =>
      rw [hf] at hm; simp only [Nat.sub_zero] at hm
      obtain ⟨g1, _, g3, g4, g5⟩ := hm
      have hj : j < ents.size := by omega
      have he : ents.toList[j]? = some ents[j] := by rw [Array.getElem?_toList]; exact Array.getElem?_eq_getElem hj
      have hkj : ents[j].key = .int k n := by
        have := hkey j g1 hj
        rw [g4] at this
        generalize ents[j].key = kv at this
        cases this; rfl
      have hstay : (Instr.keyThatStays (((ents[j]?).map (·.key)).getD (.int k n)) (.int k n)).run P w = .ok (.int k n) w := by
        rw [Array.getElem?_eq_getElem hj]
        simp only [Option.map_some, Option.getD_some, hkj, Instr.keyThatStays]
        rw [if_pos (by simp [Instr.sameBits])]
        rfl
      refine ⟨ents.modify j fun e => { e with key := .int k n, val := a.eval v }, clock, ?_, ?_, ?_, ?_, ?_⟩
      · simp only [Instr.mapUpdate, Sem.run_bind, hT.run_und, Result.andThen_ok, hg, run_checkKey hK, run_findKey hK h2, hf, Option.bind_some, he, Option.map_some, hset, hstay]
      · rw [g5]; simp [h3]
      · intro i i1 i2
        have e := g5 av
        simp only [e]
        have hi : i < ents.size := by simpa using i2
        have hi' : i < m.length := by omega
        rw [List.getElem_set, Array.getElem_modify]
        by_cases hij : j = i
        · simp only [hij, if_true]; exact ⟨.int _ _, hrv⟩
        · simp only [hij, if_false]; exact ⟨hkey i hi' hi, h4 i hi' hi⟩
      · intro i i1
        rw [Array.getElem_modify]
        have hi : i < ents.size := by simpa using i1
        split
        · exact h5 i hi
        · exact h5 i hi
      · intro i j' i1 i2 hij
        have hi : i < ents.size := by simpa using i1
        have hj' : j' < ents.size := by simpa using i2
        rw [Array.getElem_modify, Array.getElem_modify]
        have := h6 i j' hi hj' hij
        split <;> split <;> exact this
  obtain ⟨e1, c1, g1, g2, g3, g4, g5⟩ := key
  unfold Oper.wp
  have hrun : (execOp a.eval ⟨none, .mapUpdate T x y v, ty, pos, af, gd⟩).run P w = .ok .skip (setO w r (.map e1 c1)) := by
    simp only [execOp, hu, rep_int (hs.eval hy), Sem.run_bind, g1, Result.andThen_ok, Sem.run_pure]
  rw [hrun, Oper.upon_skip]
  have hext := ext_setO (G := G) (y := mrow k (mput m n av)) (e1 := e1) (c1 := c1) h1 hne
  refine h _ _ (hs.move (sim_setO hs.sim h1 hne ?_) hext (fun b hb hbr => by subst hbr; exact hD.resolve_right (by omega)))
  refine ⟨e1, c1, setO_self w r _ hlt, by simpa using g2, fun i i1 i2 => ?_, g4, g5⟩
  have := g3 i (by simpa using i1) i2
  simp only [List.getElem_map]
  exact ⟨this.1.mono hext, this.2.mono hext⟩
end

section
variable {md : Bool} {P : Program} {c : Ctx} {env B : Env} {L : LPtr} {G : AHeap} {dst : Option Tmp} {ty : TypeId} {pos : String} {af : Array Edge} {gd : Option (Nat × Bool)} {Q : Exit → Act → World → Prop} {K : Act → World → Prop}
theorem sm_val {ops : Array Oper} {nS : Nat → Bool} {i d : Nat} {o : Oper} {av : AV} (hv : ValL P c o env L B G av) (ho : o.dst = some d) (hd : Nat.blt d c.nt = true) (h : GoalL c ((d, av) :: env) (ldel L d) B G K) : StepM P c o ops Q nS i env L B G K := fun ρ hρ a w hs => by
  obtain ⟨v, hr, hrun⟩ := hv ρ hρ a w hs
  unfold Oper.wp
  rw [hrun w (fun _ => Same.refl w), Oper.upon_value, ho]
  exact ⟨fun _ => Same.refl w, Goal.env full_put (h ρ hρ) _ _ (hs.put hd hr)⟩
theorem s_makeMap {T : TypeId} {d : Nat} (k : IntKind) (hd : Nat.blt d c.nt = true) (h : ∀ r, G r = none → c.w0.heap.size ≤ r → GoalL c ((d, .map r) :: env) (ldel L d) B (G.set r (mrow k [])) K) : StepL P c ⟨some d, .makeMap T none, ty, pos, af, gd⟩ Q env L B G K := fun ρ hρ a w hs => by
  have hrun : (execOp a.eval ⟨some d, .makeMap T none, ty, pos, af, gd⟩).run P w = .ok (.value (.map (some w.heap.size))) (w.alloc (.map #[] 0)) := rfl
  unfold Oper.wp
  rw [hrun, Oper.upon_value]
  have hn := hs.sim.none (Nat.le_refl _)
  have hsim : Sim ((boxes ρ G B).set w.heap.size (mrow k [])) (w.alloc (.map #[] 0)) := sim_alloc hs.sim _ _ ⟨#[], 0, heap_alloc_new' w _, rfl, fun i h => by simp at h, fun i h => by simp at h, fun i j h => by simp at h⟩
  exact Goal.env full_put (goal_set hρ hn (h _ (sub_none (boxes_sub hρ) hn) hs.fresh)) _ _ ((hs.move hsim (ext_alloc hs.sim _ _) (fun _ _ h => h.elim)).put hd (.map _ (by simp)))
theorem v_lookup {T KT E : TypeId} {k : IntKind} {n : Int} {s b' sk bk se be r : Nat} {z zk : Option Value} {zv : Value} {de : TypeDesc} {x y : Operand} {m : MRow} {ok : Bool} {o : AV} {f : Bool} {za : AV} (hT : TyI P T (.map KT E) s z b') (hK : TyI P KT (.int k) sk zk bk) (hE : TyI P E de se (some zv) be) (hz : zAV zv = za)
    (hx : ev env L x = some (.map r)) (hy : ev env L y = some (.int k n)) (hG : G r = some (mrow k m)) (ho : (mget m n).getD za = o) (hf : (mget m n).isSome = f) :
    ValL P c ⟨dst, .lookup T x y ok, ty, pos, af, gd⟩ env L B G (if ok then .tup [o, .bool f] else o) := fun ρ hρ => by
  subst hz ho hf
  exact val_lookup hT hK hE (ev_full hx) (boxes_sub hρ _ _ hG) (ev_full hy)
theorem v_map_eql_nil {T KT E : TypeId} {s b' r : Nat} {z : Option Value} {x y : Operand} {T' : TypeId} (hT : TyI P T (.map KT E) s z b') (hx : ev env L x = some (.map r)) (hy : ev env L y = some .nilm) :
    ValLM md P c ⟨dst, .binOp .eql T x y T', ty, pos, af, gd⟩ env L B G (.bool false) := fun ρ hρ => val_map_eql_nil hT (ev_full hx) (ev_full hy)
theorem s_mapUpdate {T KT E : TypeId} {k : IntKind} {n : Int} {s b' sk bk r : Nat} {z zk : Option Value} {x y v : Operand} {m : MRow} {av : AV} (hT : TyI P T (.map KT E) s z b') (hK : TyI P KT (.int k) sk zk bk)
    (hx : ev env L x = some (.map r)) (hy : ev env L y = some (.int k n)) (hv : ev env L v = some av) (hG : G r = some (mrow k m)) (hD : c.D r ∨ c.w0.heap.size ≤ r)
    (h : GoalL c env L B (G.set r (mrow k (mput m n av))) K) : StepL P c ⟨none, .mapUpdate T x y v, ty, pos, af, gd⟩ Q env L B G K := fun ρ hρ => by
  have hne : ∀ s v, B.get s = some v → r ≠ ρ s := fun s v hv e => by have := (hρ.fresh s v hv).1; rw [← e, hG] at this; cases this
  obtain ⟨h3, h4⟩ := boxes_setG (x := mrow k (mput m n av)) hρ hne
  refine step_mapUpdate hT hK (ev_full hx) (boxes_sub hρ _ _ hG) (ev_full hy) (ev_full hv) hD ?_
  rw [h4]; exact h ρ h3
end
end Go.Proofs.Ytgedefcjngofkaa.AM

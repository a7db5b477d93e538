/- The abstract machine, part 28: an entry taken out of a map. -/
import Derived.Test.YtobigfbgaiglkaaAmB
set_option linter.unusedVariables false
set_option linter.unusedSimpArgs false
namespace Go.Proofs.Ytobigfbgaiglkaa.AM
open Go
def mdel : MRow → Int → MRow
  | [], _ => []
  | (a, v) :: m, n => if n = a then m else (a, v) :: mdel m n
theorem mfind_del : ∀ (m : MRow) (n : Int) (i : Nat), match mfind (m.map (·.1)) n i with
    | none => mdel m n = m
    | some j => i ≤ j ∧ j - i < m.length ∧ mdel m n = m.eraseIdx (j - i)
  | [], n, i => by simp [mfind, mdel]
  | (a, u) :: m, n, i => by
    simp only [List.map_cons, mfind]
    by_cases hn : n = a
    · subst hn; simp [mdel]
    · simp only [if_neg hn]
      have ih := mfind_del m n (i + 1)
      cases hm : mfind (m.map (·.1)) n (i + 1) with
      | none => rw [hm] at ih; simp only at ih ⊢; simp [mdel, hn, ih]
      | some j =>
        rw [hm] at ih; simp only at ih ⊢
        obtain ⟨h1, h2, h3⟩ := ih
        have e1 : j - i = (j - (i + 1)) + 1 := by omega
        exact ⟨by omega, by simp; omega, by simp [mdel, hn, h3, e1]⟩
section
variable {md : Bool} {P : Program} {c : Ctx} {env : Env} {G : AHeap} {dst : Option Tmp} {ty : TypeId} {pos : String} {af : Array Edge} {gd : Option (Nat × Bool)} {Q : Exit → Act → World → Prop} {K : Act → World → Prop}
theorem delete_exec {a : Act} {x y : Operand} {T KT : TypeId} {v u v' : Value} {w w' : World} (hx : a.eval x = v) (hy : a.eval y = u) (h : (Builtin.delete_ #[T, KT] ty #[v, u]).run P w = .ok v' w') :
    (execOp a.eval ⟨dst, .call ⟨.builtin .delete, #[x, y], #[T, KT]⟩, ty, pos, af, gd⟩).run P w = .ok (.value v') w' := by
  simp [execOp, resolve, invoke, builtin, hx, hy, h]
theorem world_delete {T KT E : TypeId} {k : IntKind} {n : Int} {s b' sk bk r : Nat} {z zk : Option Value} {m : MRow} {w : World} (hT : TyI P T (.map KT E) s z b') (hK : TyI P KT (.int k) sk zk bk) (hsim : Sim G w) (hG : G r = some (mrow k m)) :
    ∃ ents clock e1, w.heap[r]? = some (.map ents clock) ∧ (Builtin.delete_ #[T, KT] ty #[.map (some r), .int k n]).run P w = .ok (.tuple #[]) (setO w r (.map e1 clock)) ∧ e1.size = (mdel m n).length ∧
      (∀ i (h1 : i < (mdel m n).length) (h2 : i < e1.size), Rep G w (.int k (mdel m n)[i].1) e1[i].key ∧ Rep G w (mdel m n)[i].2 e1[i].val) ∧
      (∀ i (h : i < e1.size), e1[i].born < clock) ∧ (∀ i j (h : i < e1.size) (h' : j < e1.size), i < j → e1[i].born < e1[j].born) := by
  obtain ⟨ents, clock, h1, h2, h3, h4, h5, h6⟩ := map_block hsim hG
  have hg : (getObj r).run P w = .ok (.map ents clock) w := by simp [getObj, Sem.run, h1]
  have hset : ∀ o, (setObj r o).run P w = .ok () (setO w r o) := fun o => by simp [setObj, Sem.run, h1, setO]
  have hkey : ∀ i (h1 : i < m.length) (h2 : i < ents.size), Rep G w (.int k m[i].1) ents[i].key := fun i i1 i2 => by
    have := congrArg (fun l => l[i]?) h2
    simp [i2, i1] at this
    rw [this]; exact .int _ _
  have hm := mfind_del m n 0
  cases hf : mfind (m.map (·.1)) n 0 with
  | none =>
    rw [hf] at hm; simp only at hm
    refine ⟨ents, clock, ents, h1, ?_, by rw [hm]; exact h3, ?_, h5, h6⟩
    · unfold Builtin.delete_
      simp [hT.run_und, hg, run_checkKey hK, run_findKey hK h2, hf, hset]
    · intro i i1 i2
      simp only [hm] at i1 ⊢
      exact ⟨hkey i i1 i2, h4 i i1 i2⟩
  | some j =>
    rw [hf] at hm; simp only [Nat.sub_zero] at hm
    obtain ⟨_, g1, g2⟩ := hm
    have hj : j < ents.size := by omega
    have he : ents.toList[j]? = some ents[j] := by rw [Array.getElem?_toList]; exact Array.getElem?_eq_getElem hj
    have he2 : ents[j]? = some ents[j] := Array.getElem?_eq_getElem hj
    have hE : ents.eraseIdxIfInBounds j = ents.eraseIdx j hj := by simp [Array.eraseIdxIfInBounds, hj]
    refine ⟨ents, clock, ents.eraseIdx j hj, h1, ?_, ?_, ?_, ?_, ?_⟩
    · unfold Builtin.delete_
      simp [hT.run_und, hg, run_checkKey hK, run_findKey hK h2, hf, he2, hset, hE]
    · rw [g2]; simp [List.length_eraseIdx, g1, h3]
    · intro i i1 i2
      simp only [g2] at i1 ⊢
      have i3 : i < ents.size - 1 := by simpa using i2
      rw [List.getElem_eraseIdx, Array.getElem_eraseIdx]
      split
      · exact ⟨hkey i (by omega) (by omega), h4 i (by omega) (by omega)⟩
      · exact ⟨hkey (i + 1) (by omega) (by omega), h4 (i + 1) (by omega) (by omega)⟩
    · intro i i1
      have i3 : i < ents.size - 1 := by simpa using i1
      rw [Array.getElem_eraseIdx]
      split
      · exact h5 i (by omega)
      · exact h5 (i + 1) (by omega)
    · intro i i' i1 i2 hij
      have i3 : i < ents.size - 1 := by simpa using i1
      have i4 : i' < ents.size - 1 := by simpa using i2
      rw [Array.getElem_eraseIdx, Array.getElem_eraseIdx]
      split <;> split
      · exact h6 _ _ (by omega) (by omega) (by omega)
      · exact h6 _ _ (by omega) (by omega) (by omega)
      · exact h6 _ _ (by omega) (by omega) (by omega)
      · exact h6 _ _ (by omega) (by omega) (by omega)
theorem step_mapDelete {T KT E : TypeId} {k : IntKind} {n : Int} {s b' sk bk r d : Nat} {z zk : Option Value} {x y : Operand} {m : MRow} (hT : TyI P T (.map KT E) s z b') (hK : TyI P KT (.int k) sk zk bk) (hd : Nat.blt d c.nt = true)
    (hx : aeval env x = some (.map r)) (hG : G r = some (mrow k m)) (hy : aeval env y = some (.int k n)) (hD : c.D r ∨ c.w0.heap.size ≤ r)
    (h : Goal c ((d, .tup []) :: env) (G.set r (mrow k (mdel m n))) K) : Step P c ⟨some d, .call ⟨.builtin .delete, #[x, y], #[T, KT]⟩, ty, pos, af, gd⟩ Q env G K := fun a w hs => by
  obtain ⟨ents, clock, e1, h1, h2, g2, g3, g4, g5⟩ := world_delete (ty := ty) (n := n) hT hK hs.sim hG
  have hlt : r < w.heap.size := by
    rcases Nat.lt_or_ge r w.heap.size with h' | h'
    · exact h'
    · rw [Array.getElem?_eq_none h'] at h1; cases h1
  have hr := hs.eval hx
  generalize hu : a.eval x = u at hr
  cases hr
  have hne : G r ≠ none := by rw [hG]; simp
  unfold Oper.wp
  rw [delete_exec hu (rep_int (hs.eval hy)) h2, Oper.upon_value]
  have hext := ext_setO (G := G) (y := mrow k (mdel m n)) (e1 := e1) (c1 := clock) h1 hne
  have hmv := hs.move (sim_setO hs.sim h1 hne ?_) hext (fun b hb hbr => by subst hbr; exact hD.resolve_right (by omega))
  · exact h _ _ (hmv.put hd (.tup [] [] rfl (fun i i1 i2 => by simp at i1)))
  refine ⟨e1, clock, setO_self w r _ hlt, by simpa using g2, fun i i1 i2 => ?_, g4, g5⟩
  have := g3 i (by simpa using i1) i2
  simp only [List.getElem_map]
  exact ⟨this.1.mono hext, this.2.mono hext⟩
theorem step_mapDelete_none {T KT E : TypeId} {k : IntKind} {n : Int} {s b' sk bk r : Nat} {z zk : Option Value} {x y : Operand} {m : MRow} (hT : TyI P T (.map KT E) s z b') (hK : TyI P KT (.int k) sk zk bk)
    (hx : aeval env x = some (.map r)) (hG : G r = some (mrow k m)) (hy : aeval env y = some (.int k n)) (hD : c.D r ∨ c.w0.heap.size ≤ r)
    (h : Goal c env (G.set r (mrow k (mdel m n))) K) : Step P c ⟨none, .call ⟨.builtin .delete, #[x, y], #[T, KT]⟩, ty, pos, af, gd⟩ Q env G K := fun a w hs => by
  obtain ⟨ents, clock, e1, h1, h2, g2, g3, g4, g5⟩ := world_delete (ty := ty) (n := n) hT hK hs.sim hG
  have hlt : r < w.heap.size := by
    rcases Nat.lt_or_ge r w.heap.size with h' | h'
    · exact h'
    · rw [Array.getElem?_eq_none h'] at h1; cases h1
  have hr := hs.eval hx
  generalize hu : a.eval x = u at hr
  cases hr
  have hne : G r ≠ none := by rw [hG]; simp
  unfold Oper.wp
  rw [delete_exec hu (rep_int (hs.eval hy)) h2, Oper.upon_value]
  have hext := ext_setO (G := G) (y := mrow k (mdel m n)) (e1 := e1) (c1 := clock) h1 hne
  have hmv := hs.move (sim_setO hs.sim h1 hne ?_) hext (fun b hb hbr => by subst hbr; exact hD.resolve_right (by omega))
  · exact h _ _ (hmv.put_none _)
  refine ⟨e1, clock, setO_self w r _ hlt, by simpa using g2, fun i i1 i2 => ?_, g4, g5⟩
  have := g3 i (by simpa using i1) i2
  simp only [List.getElem_map]
  exact ⟨this.1.mono hext, this.2.mono hext⟩
end
section
variable {md : Bool} {P : Program} {c : Ctx} {env B : Env} {L : LPtr} {G : AHeap} {dst : Option Tmp} {ty : TypeId} {pos : String} {af : Array Edge} {gd : Option (Nat × Bool)} {Q : Exit → Act → World → Prop} {K : Act → World → Prop}
theorem s_mapDelete {T KT E : TypeId} {k : IntKind} {n : Int} {s b' sk bk r d : Nat} {z zk : Option Value} {x y : Operand} {m : MRow} (hT : TyI P T (.map KT E) s z b') (hK : TyI P KT (.int k) sk zk bk) (hd : Nat.blt d c.nt = true)
    (hx : ev env L x = some (.map r)) (hy : ev env L y = some (.int k n)) (hG : G r = some (mrow k m)) (hD : c.D r ∨ c.w0.heap.size ≤ r)
    (h : GoalL c ((d, .tup []) :: env) (ldel L d) B (G.set r (mrow k (mdel m n))) K) : StepL P c ⟨some d, .call ⟨.builtin .delete, #[x, y], #[T, KT]⟩, ty, pos, af, gd⟩ Q env L B G K := fun ρ hρ => by
  have hne : ∀ s v, B.get s = some v → r ≠ ρ s := fun s v hv e => by have := (hρ.fresh s v hv).1; rw [← e, hG] at this; cases this
  obtain ⟨h3, h4⟩ := boxes_setG (x := mrow k (mdel m n)) hρ hne
  refine step_mapDelete hT hK hd (ev_full hx) (boxes_sub hρ _ _ hG) (ev_full hy) hD ?_
  rw [h4]; exact Goal.env full_put (h ρ h3)
theorem s_mapDelete_none {T KT E : TypeId} {k : IntKind} {n : Int} {s b' sk bk r : Nat} {z zk : Option Value} {x y : Operand} {m : MRow} (hT : TyI P T (.map KT E) s z b') (hK : TyI P KT (.int k) sk zk bk)
    (hx : ev env L x = some (.map r)) (hy : ev env L y = some (.int k n)) (hG : G r = some (mrow k m)) (hD : c.D r ∨ c.w0.heap.size ≤ r)
    (h : GoalL c env L B (G.set r (mrow k (mdel m n))) K) : StepL P c ⟨none, .call ⟨.builtin .delete, #[x, y], #[T, KT]⟩, ty, pos, af, gd⟩ Q env L B G K := fun ρ hρ => by
  have hne : ∀ s v, B.get s = some v → r ≠ ρ s := fun s v hv e => by have := (hρ.fresh s v hv).1; rw [← e, hG] at this; cases this
  obtain ⟨h3, h4⟩ := boxes_setG (x := mrow k (mdel m n)) hρ hne
  refine step_mapDelete_none hT hK (ev_full hx) (boxes_sub hρ _ _ hG) (ev_full hy) hD ?_
  rw [h4]; exact h ρ h3
end
end Go.Proofs.Ytobigfbgaiglkaa.AM

/- The abstract machine, part 23: ranges over maps. -/
import Derived.Test.YtgedefcjngofkaaAm22
import Derived.Laws.IdiomRangeMap
set_option linter.unusedVariables false
set_option linter.unusedSimpArgs false
namespace Go.Proofs.Ytgedefcjngofkaa.AM
open Go
section
variable {G : AHeap}
theorem mapb_of_map {w : World} {b : Nat} {es : List (AV × AV)} (h : RowRep G w b (.map es)) : ∃ bs clk, RowRep G w b (.mapb es bs clk) := by
  obtain ⟨ents, clock, h1, h2, h3, h4, h5⟩ := h
  refine ⟨ents.toList.map (·.born), clock, ents, h1, h2, h3, rfl, fun x hx => ?_, ?_⟩
  · obtain ⟨e, he, rfl⟩ := List.mem_map.1 hx
    obtain ⟨i, hi, rfl⟩ := List.getElem_of_mem he
    simpa using h4 i (by simpa using hi)
  · rw [List.pairwise_iff_getElem]
    intro i j hi hj hij
    simpa using h5 i j (by simpa using hi) (by simpa using hj) hij
theorem map_of_mapb {w : World} {b : Nat} {es : List (AV × AV)} {bs : List Nat} {clk : Nat} (h : RowRep G w b (.mapb es bs clk)) : RowRep G w b (.map es) := by
  obtain ⟨ents, h1, h2, h3, rfl, h4, h5⟩ := h
  refine ⟨ents, clk, h1, h2, h3, fun i hi => h4 _ (List.mem_map.2 ⟨ents[i], by simp, rfl⟩), fun i j hi hj hij => ?_⟩
  have := List.pairwise_iff_getElem.1 h5 i j (by simpa using hi) (by simpa using hj) hij
  simpa using this
theorem sim_know {w : World} {b : Nat} {x y : ARow} (hs : Sim G w) (hG : G b = some x) (hy : RowRep G w b y) : Sim (G.set b y) w := fun b' z hb => by
  have he : Ext G w (fun _ => False) (G.set b y) w := ext_know hG
  by_cases e : b' = b
  · subst e
    rw [AHeap.get_set] at hb
    injection hb with hb
    subst hb
    exact hy.mono he rfl
  · rw [AHeap.get_set_ne _ _ e] at hb
    exact (hs b' z hb).mono he rfl
theorem ext_setI {w : World} {b : Nat} {m m' : Option Nat} {s0 s1 l0 l1 : Nat} {e0 e1 : Array Nat} {y : ARow} (hh : w.heap[b]? = some (.mapIter m s0 e0 l0)) (hr : G b ≠ none) : Ext G w (fun x => x = b) (G.set b y) (setO w b (.mapIter m' s1 e1 l1)) where
  os := rfl
  tape := rfl
  output := rfl
  size := by simp [setO]
  same := fun b' hb hn => setO_other w b b' _ hn
  shape := fun b' hb => by
    unfold World.shape?
    by_cases e : b' = b
    · subst e; rw [setO_self w b' _ hb, hh]
    · rw [setO_other w b b' _ e]
  dom := fun b' hb hg => by
    have : b' ≠ b := fun e => hr (e ▸ hg)
    rw [AHeap.get_set_ne _ _ this]; exact hg
  lists := fun b' e => by subst e; exact hr
end
section
variable {md : Bool} {P : Program} {c : Ctx} {env B : Env} {L : LPtr} {G : AHeap} {dst : Option Tmp} {ty : TypeId} {pos : String} {af : Array Edge} {gd : Option (Nat × Bool)} {Q : Exit → Act → World → Prop} {K : Act → World → Prop}
theorem g_mapb {r : Nat} {es : List (AV × AV)} (hG : G r = some (.map es)) (h : ∀ bs clk, bs.length = es.length → (∀ x ∈ bs, x < clk) → bs.Pairwise (· < ·) → GoalL c env L B (G.set r (.mapb es bs clk)) K) : GoalL c env L B G K := fun ρ hρ a w hs => by
  have hGb := boxes_sub hρ _ _ hG
  obtain ⟨bs, clk, hm⟩ := mapb_of_map (hs.sim _ _ hGb)
  have hm0 := hm
  obtain ⟨ents, _, h2, _, h4, h5, h6⟩ := hm0
  obtain ⟨h7, h8⟩ := boxes_setR (x := .mapb es bs clk) hρ hG
  have h9 := hs.move (sim_know hs.sim hGb hm) (ext_know hGb) (fun _ _ h => h.elim)
  rw [h8] at h9
  exact h bs clk (by rw [← h4]; simp [h2]) h5 h6 ρ h7 a w h9
theorem g_unmapb {r clk : Nat} {es : List (AV × AV)} {bs : List Nat} (hG : G r = some (.mapb es bs clk)) (h : GoalL c env L B (G.set r (.map es)) K) : GoalL c env L B G K := fun ρ hρ a w hs => by
  have hGb := boxes_sub hρ _ _ hG
  obtain ⟨h7, h8⟩ := boxes_setR (x := .map es) hρ hG
  have h9 := hs.move (sim_know hs.sim hGb (map_of_mapb (hs.sim _ _ hGb))) (ext_know hGb) (fun _ _ h => h.elim)
  rw [h8] at h9
  exact h ρ h7 a w h9
theorem s_range {T KT E s b' r clk d : Nat} {z : Option Value} {x : Operand} {es : List (AV × AV)} {bs : List Nat} (hT : TyI P T (.map KT E) s z b') (hd : Nat.blt d c.nt = true) (hx : ev env L x = some (.map r)) (hG : G r = some (.mapb es bs clk))
    (h : ∀ b, G b = none → c.w0.heap.size ≤ b → GoalL c ((d, .box b 0) :: env) (ldel L d) B (G.set b (.iter r clk [] clk)) K) : StepL P c ⟨some d, .range T x, ty, pos, af, gd⟩ Q env L B G K := fun ρ hρ a w hs => by
  obtain ⟨ents, h1, _⟩ := hs.sim _ _ (boxes_sub hρ _ _ hG)
  have hr := hs.eval (ev_full (ρ := ρ) hx)
  generalize hu : a.eval x = u at hr
  cases hr
  have hrun : (execOp a.eval ⟨some d, .range T x, ty, pos, af, gd⟩).run P w = .ok (.value (.pointer (some ⟨w.heap.size, 0, none⟩))) (w.alloc (.mapIter (some r) clk #[] clk)) := by
    simp only [execOp, hu, Sem.run_bind, run_range_map w T KT E r ents clk hT.und h1, Result.andThen_ok, Sem.run_pure]
  unfold Oper.wp
  rw [hrun, Oper.upon_value]
  have hn := hs.sim.none (Nat.le_refl _)
  have hsim : Sim ((boxes ρ G B).set w.heap.size (.iter r clk [] clk)) (w.alloc (.mapIter (some r) clk #[] clk)) := sim_alloc hs.sim _ _ (heap_alloc_new' w _)
  exact Goal.env full_put (goal_set hρ hn (h _ (sub_none (boxes_sub hρ) hn) hs.fresh)) _ _ ((hs.move hsim (ext_alloc hs.sim _ _) (fun _ _ h => h.elim)).put hd (.box _ 0 (by simp)))
theorem contains_iff (seen : List Nat) (x : Nat) : seen.toArray.contains x = decide (x ∈ seen) := by
  rw [Bool.eq_iff_iff]; simp
theorem s_next {r b since last clk d : Nat} {x : Operand} {es : List (AV × AV)} {bs seen : List Nat} (hd : Nat.blt d c.nt = true) (hx : ev env L x = some (.box b 0)) (hG : G r = some (.mapb es bs clk)) (hI : G b = some (.iter r since seen last))
    (hold : ∀ x ∈ bs, x < since) (hsl : since ≤ last) (hD : c.D b ∨ c.w0.heap.size ≤ b)
    (h1 : (∀ x ∈ bs, x ∈ seen) → GoalL c ((d, .tup [.bool false]) :: env) (ldel L d) B G K)
    (h2 : ∀ i (hi : i < es.length) (hb : i < bs.length), bs[i] ∉ seen → GoalL c ((d, .tup [.bool true, es[i].1, es[i].2]) :: env) (ldel L d) B (G.set b (.iter r since (seen ++ [bs[i]]) clk)) K) :
    StepL P c ⟨some d, .next x false, ty, pos, af, gd⟩ Q env L B G K := fun ρ hρ a w hs => by
  have hGb := boxes_sub hρ _ _ hG
  have hIb := boxes_sub hρ _ _ hI
  obtain ⟨ents, g1, g2, g3, g4, g5, g6⟩ := hs.sim _ _ hGb
  have k1 : w.heap[b]? = some (.mapIter (some r) since seen.toArray last) := hs.sim _ _ hIb
  have hr := hs.eval (ev_full (ρ := ρ) hx)
  generalize hu : a.eval x = u at hr
  cases hr
  have hbl : b < w.heap.size := hs.sim.lt hIb
  have holde : ∀ e ∈ ents.toList, e.born < since := fun e he => hold _ (by rw [← g4]; exact List.mem_map.2 ⟨e, he, rfl⟩)
  have hgi : (getObj b).run P w = .ok (.mapIter (some r) since seen.toArray last) w := by simp [getObj, Sem.run, k1]
  have hgm : (getObj r).run P w = .ok (.map ents clk) w := by simp [getObj, Sem.run, g1]
  have hcases : ((leftOf ents seen.toArray).size = 0 ∧ (Instr.next (.pointer (some ⟨b, 0, none⟩)) false ty).run P w = .ok (.tuple #[.bool false]) w) ∨
      ∃ e ∈ (leftOf ents seen.toArray).toList, ∃ w1 : World, (w1 = w ∨ w1 = w.drew) ∧ (Instr.next (.pointer (some ⟨b, 0, none⟩)) false ty).run P w = .ok (.tuple #[.bool true, e.key, e.val]) (setO w1 b (.mapIter (some r) since (seen.toArray.push e.born) clk)) := by
    simp only [Instr.next, Sem.run_bind, hgi, Result.andThen_ok, hgm, next_test_false seen.toArray ents since last holde hsl, Bool.false_eq_true, if_false]
    unfold leftOf
    have hmem : ∀ x ∈ (Array.filter (fun e => !seen.toArray.contains e.born) ents).toList, x.born < since := fun x hx => holde x (by simp at hx ⊢; exact hx.1)
    generalize Array.filter (fun e => !seen.toArray.contains e.born) ents = LL at hmem ⊢
    have e1 : LL.filter (fun x => decide (x.born < since)) = LL := Array.filter_eq_self.2 (fun x hx => by simpa using hmem x (by simpa using hx))
    have e2 : LL.filter (fun x => decide (x.born ≥ since)) = #[] := by
      rw [Array.filter_eq_empty_iff]
      intro x hx
      have := hmem x (by simpa using hx)
      simp
      omega
    simp only [e1, e2, Array.append_empty]
    by_cases h0 : LL.size = 0
    · left
      have : LL = #[] := Array.eq_empty_of_size_eq_zero h0
      subst this
      refine ⟨rfl, ?_⟩
      simp [choose, Sem.run, Question.forced]
    · right
      have hne : LL.isEmpty = false := by simp [Array.isEmpty, h0]
      simp only [hne, Bool.false_eq_true, if_false, Array.empty_append, Array.size_map]
      have hch : ∃ (j : Nat) (w1 : World), j < LL.size ∧ (w1 = w ∨ w1 = w.drew) ∧ (choose (Question.mapNext LL.size)).run P w = .ok j w1 := by
        by_cases hf : LL.size ≤ 1
        · exact ⟨0, w, by omega, .inl rfl, by simp [choose, Sem.run, Question.forced, hf]⟩
        · exact ⟨_, w.drew, Nat.mod_lt _ (by omega), .inr rfl, by
            simp only [choose, Sem.run, Question.forced, decide_eq_true_eq, hf, if_false, Question.cut]
            rfl⟩
      obtain ⟨j, w1, hj, hal, hrun⟩ := hch
      refine ⟨LL[j], by simp, w1, hal, ?_⟩
      have hset : ∀ o', (setObj b o').run P w1 = .ok () (setO w1 b o') := fun o' => by
        have : w1.heap[b]? = some (.mapIter (some r) since seen.toArray last) := by rcases hal with rfl | rfl <;> exact k1
        simp [setObj, Sem.run, this, setO]
      simp only [hrun, Array.getElem?_map, Array.getElem?_eq_getElem hj, Option.map_some, Sem.run_bind, hset, Result.andThen_ok, Sem.run_pure]
  rcases hcases with ⟨hz, hrun⟩ | ⟨e, he, w1, hw1, hrun⟩
  · have hexec : (execOp a.eval ⟨some d, .next x false, ty, pos, af, gd⟩).run P w = .ok (.value (.tuple #[.bool false])) w := by
      simp only [execOp, hu, Sem.run_bind, hrun, Result.andThen_ok, Sem.run_pure]
    unfold Oper.wp
    rw [hexec, Oper.upon_value]
    refine Goal.env full_put (h1 (fun y hy => ?_) ρ hρ) _ _ (hs.put hd (.tup [.bool false] [.bool false] rfl (fun i i1 i2 => by
      match i, i1 with
      | 0, _ => exact .bool _)))
    rw [← g4] at hy
    obtain ⟨e, he, rfl⟩ := List.mem_map.1 hy
    have := all_seen ents seen.toArray hz e he
    rw [contains_iff] at this
    simpa using this
  · obtain ⟨m1, m2⟩ := mem_left he
    obtain ⟨i, hi, hie⟩ := List.getElem_of_mem m1
    have hi2 : i < ents.size := by simpa using hi
    have hie2 : ents[i] = e := by simpa using hie
    have hil : i < es.length := by omega
    have hib : i < bs.length := by rw [← g4]; simpa using hi2
    have hbi : bs[i] = e.born := by
      have : bs[i]? = some e.born := by rw [← g4]; simp [hi2, hie2]
      rw [List.getElem?_eq_getElem hib] at this
      exact Option.some.inj this
    have hnot : bs[i] ∉ seen := by
      rw [hbi]; rw [contains_iff] at m2; simpa using m2
    have hexec : (execOp a.eval ⟨some d, .next x false, ty, pos, af, gd⟩).run P w = .ok (.value (.tuple #[.bool true, e.key, e.val])) (setO w1 b (.mapIter (some r) since (seen.toArray.push e.born) clk)) := by
      simp only [execOp, hu, Sem.run_bind, hrun, Result.andThen_ok, Sem.run_pure]
    have hs1 : St c (full ρ env L) (boxes ρ G B) a w1 := by
      rcases hw1 with rfl | rfl
      · exact hs
      · exact hs.move (D := fun _ => False) (sim_drew hs.sim) ext_drew (fun _ _ h => h.elim)
    have k1' : w1.heap[b]? = some (.mapIter (some r) since seen.toArray last) := by rcases hw1 with rfl | rfl <;> exact k1
    have hbl1 : b < w1.heap.size := by rcases hw1 with rfl | rfl <;> exact hbl
    have hneb : (boxes ρ G B) b ≠ none := by rw [hIb]; simp
    have hpush : seen.toArray.push e.born = (seen ++ [bs[i]]).toArray := by rw [hbi]; simp
    have hext := ext_setI (G := boxes ρ G B) (y := .iter r since (seen ++ [bs[i]]) clk) (m' := some r) (s1 := since) (e1 := seen.toArray.push e.born) (l1 := clk) k1' hneb
    have hsim : Sim ((boxes ρ G B).set b (.iter r since (seen ++ [bs[i]]) clk)) (setO w1 b (.mapIter (some r) since (seen.toArray.push e.born) clk)) := fun b' y hb => by
      by_cases e' : b' = b
      · subst e'
        rw [AHeap.get_set] at hb
        injection hb with hb
        subst hb
        show (setO w1 b' _).heap[b']? = _
        rw [setO_self w1 b' _ hbl1, hpush]
      · rw [AHeap.get_set_ne _ _ e'] at hb
        exact (hs1.sim b' y hb).mono hext (setO_other w1 b b' _ e')
    unfold Oper.wp
    rw [hexec, Oper.upon_value]
    obtain ⟨h7, h8⟩ := boxes_setR (x := .iter r since (seen ++ [bs[i]]) clk) hρ hI
    have h9 := hs1.move hsim hext (fun b' hb e' => by subst e'; exact hD.resolve_right (by omega))
    rw [h8] at h9
    have hk := g3 i hil hi2
    rw [hie2] at hk
    have hk2 : Rep (boxes ρ (G.set b (.iter r since (seen ++ [bs[i]]) clk)) B) (setO w1 b (.mapIter (some r) since (seen.toArray.push e.born) clk)) (.tup [.bool true, es[i].1, es[i].2]) (.tuple #[.bool true, e.key, e.val]) := by
      have hmono : ∀ {a v}, Rep (boxes ρ G B) w a v → Rep (boxes ρ (G.set b (.iter r since (seen ++ [bs[i]]) clk)) B) (setO w1 b (.mapIter (some r) since (seen.toArray.push e.born) clk)) a v := fun {a v} hr => by
        rw [← h8]
        refine Rep.mono hext ?_
        rcases hw1 with rfl | rfl
        · exact hr
        · exact hr.mono ext_drew
      exact .tup [.bool true, es[i].1, es[i].2] [.bool true, e.key, e.val] rfl (fun j j1 j2 => by
        match j, j1 with
        | 0, _ => exact .bool _
        | 1, _ => exact hmono hk.1
        | 2, _ => exact hmono hk.2)
    exact Goal.env full_put (h2 i hil hib hnot ρ h7) _ _ (h9.put hd hk2)
theorem v_entry {r b since clk : Nat} {x : Operand} {es : List (AV × AV)} {bs seen : List Nat} (hx : ev env L x = some (.box b 0)) (hG : G r = some (.mapb es bs clk)) {i : Nat} (hi : i < es.length) (hb : i < bs.length) (hI : G b = some (.iter r since (seen ++ [bs[i]]) clk)) :
    ValL P c ⟨dst, .entry x, ty, pos, af, gd⟩ env L B G (.tup [es[i].1, es[i].2]) := fun ρ hρ a w hs => by
  have hGb := boxes_sub hρ _ _ hG
  have hIb := boxes_sub hρ _ _ hI
  obtain ⟨ents, g1, g2, g3, g4, g5, g6⟩ := hs.sim _ _ hGb
  have k1 : w.heap[b]? = some (.mapIter (some r) since (seen ++ [bs[i]]).toArray clk) := hs.sim _ _ hIb
  have hr := hs.eval (ev_full (ρ := ρ) hx)
  generalize hu : a.eval x = u at hr
  cases hr
  have hi2 : i < ents.size := by omega
  have hbi : bs[i] = ents[i].born := by
    have : bs[i]? = some ents[i].born := by rw [← g4]; simp [hi2]
    rw [List.getElem?_eq_getElem hb] at this
    exact Option.some.inj this
  have hnod : (ents.toList.map (·.born)).Nodup := by rw [g4]; exact g6.imp (fun h e => by omega)
  have hf : ents.find? (·.born == ents[i].born) = some ents[i] := by rw [← Array.find?_toList]; exact find_born ents[i] ents.toList hnod (by simp)
  have hk := g3 i hi hi2
  refine ⟨.tuple #[ents[i].key, ents[i].val], .tup [es[i].1, es[i].2] [ents[i].key, ents[i].val] rfl (fun j j1 j2 => by
    match j, j1 with
    | 0, _ => exact hk.1
    | 1, _ => exact hk.2), fun w' hw' => ?_⟩
  have hsm := hw' rfl
  have k1' := (hsm.2 b (hs.sim.lt hIb)).trans k1
  have g1' := (hsm.2 r (hs.sim.lt hGb)).trans g1
  have hback : (seen ++ [bs[i]]).toArray.back? = some ents[i].born := by rw [hbi]; simp
  have hrun : (Instr.entry (.pointer (some ⟨b, 0, none⟩))).run P w' = .ok (.tuple #[ents[i].key, ents[i].val]) w' := by
    simp only [Instr.entry, getObj, Sem.run_bind, Sem.run, k1', g1', Result.andThen_ok, hback, bne_self_eq_false, Bool.false_eq_true, if_false, hf]
    rfl
  simp only [execOp, hu, Sem.run_bind, hrun, Result.andThen_ok, Sem.run_pure]
end
end Go.Proofs.Ytgedefcjngofkaa.AM

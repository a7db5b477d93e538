/- The abstract machine, part 30: arrays inside a variable; cells that a callee sets one by one. -/
import Derived.Test.YtgedefcjngofkaaAmB
import Derived.Laws.LoneSync
set_option linter.unusedVariables false
set_option linter.unusedSimpArgs false
namespace Go.Proofs.Ytgedefcjngofkaa.AM
open Go
section
variable {md : Bool} {P : Program} {c : Ctx} {env : Env} {G : AHeap} {dst : Option Tmp} {ty : TypeId} {pos : String} {af : Array Edge} {gd : Option (Nat × Bool)} {L : LPtr} {B : Env}
theorem val_indexAddr_arr {T E : TypeId} {d : TypeDesc} {sz by_ s b' n k r off : Nat} {z z' : Option Value} {x y : Operand} {kd : IntKind} {m : Int} (hT : TyI P T (.array n E) s z' b') (hE : TyI P E d sz z by_)
    (hx : aeval env x = some (.box r off)) (hy : aeval env y = some (.int kd m)) (hm : m = (k : Int)) (hk : k < n) : ValM md P c ⟨dst, .indexAddr T x y, ty, pos, af, gd⟩ env G (.box r (off + k * sz)) := fun a w hs => by
  have hr := hs.eval hx
  generalize hu : a.eval x = u at hr
  cases hr with
  | box _ _ hb =>
    refine ⟨.pointer (some ⟨r, off + k * sz, none⟩), .box r _ hb, fun w' _ => ?_⟩
    subst hm
    have h0 : (0 : Int) ≤ (k : Int) ∧ (k : Int) < (n : Int) := by omega
    simp only [execOp, hu, rep_int (hs.eval hy), Instr.indexAt, asIntOf, Sem.run_bind, Sem.run_pure, Result.andThen_ok, hT.run_und, Instr.sureAddr]
    rw [if_pos h0]
    simp [hE.run_size, add_mk]
theorem v_indexAddr_arr {T E : TypeId} {d : TypeDesc} {sz by_ s b' n k r off : Nat} {z z' : Option Value} {x y : Operand} {kd : IntKind} {m : Int} (hT : TyI P T (.array n E) s z' b') (hE : TyI P E d sz z by_)
    (hx : ev env L x = some (.box r off)) (hy : ev env L y = some (.int kd m)) (hm : m = (k : Int)) (hk : k < n) : ValLM md P c ⟨dst, .indexAddr T x y, ty, pos, af, gd⟩ env L B G (.box r (off + k * sz)) := fun ρ hρ => val_indexAddr_arr hT hE (ev_full hx) (ev_full hy) hm hk
end
theorem setCell_row {w : World} {b off : Nat} {v : Value} {C : Array Value} {T : TypeId} (hh : w.heap[b]? = some (.cells C T (0, 0))) : w.setCell ⟨b, off, none⟩ v = w.setRow b (C.setIfInBounds off v) := by
  unfold World.setCell World.setRow
  congr 1
  apply Array.ext_getElem?
  intro k
  rw [Array.getElem?_modify, Array.getElem?_modify]
  by_cases hk : b = k
  · subst hk
    simp [hh]
  · simp [hk]
section
variable {G : AHeap} {w : World} {b : Nat} {cs : List AV}
/-- What stands in a cell of a variable. -/
theorem box_cell (hs : Sim G w) (hG : G b = some (.box (.agg cs))) {off : Nat} {k : IntKind} {n : Int} (hc : cs[off]? = some (.int k n)) : w.cell? ⟨b, off, none⟩ = some (.int k n) ∧ w.frozen? ⟨b, off, none⟩ = false := by
  obtain ⟨C, T, hh, hl, hcs⟩ := hs b _ hG
  have hlt := (List.getElem?_eq_some_iff.1 hc).1
  obtain ⟨u, h1, h2⟩ := hcs off hlt
  have he : (AV.agg cs).cells[off]'hlt = .int k n := (List.getElem?_eq_some_iff.1 hc).2
  rw [he] at h2
  cases h2
  refine ⟨?_, ?_⟩
  · unfold World.cell?; rw [hh]; simp [h1]
  · unfold World.frozen?; rw [hh]; simp
/-- A cell that is set. -/
theorem sim_setCell (hs : Sim G w) (hG : G b = some (.box (.agg cs))) {off : Nat} (hlt : off < cs.length) (k : IntKind) (n : Int) :
    Sim (G.set b (.box (.agg (cs.set off (.int k n))))) (w.setCell ⟨b, off, none⟩ (.int k n)) ∧ Ext G w (fun x => x = b) (G.set b (.box (.agg (cs.set off (.int k n))))) (w.setCell ⟨b, off, none⟩ (.int k n)) := by
  obtain ⟨C, T, hh, hl, hcs⟩ := hs b _ hG
  have hl : cs.length ≤ C.size := hl
  have hne : G b ≠ none := by rw [hG]; simp
  have hsz : (C.setIfInBounds off (.int k n)).size = C.size := by simp
  rw [setCell_row hh]
  have he := ext_setRow (y := .box (.agg (cs.set off (.int k n)))) hh hsz hne
  refine ⟨sim_setRow hs hh hsz hne ⟨_, T, setRow_heap w b C _ T _ hh, by rw [hsz]; show (cs.set off _).length ≤ _; rw [List.length_set]; exact hl, fun j hj => ?_⟩, he⟩
  have hj' : j < cs.length := by have h9 : j < (cs.set off (.int k n)).length := hj; rw [List.length_set] at h9; exact h9
  obtain ⟨u, h1, h2⟩ := hcs j hj'
  show ∃ u, _ ∧ Rep _ _ ((cs.set off (.int k n))[j]'(by rw [List.length_set]; exact hj')) u
  rw [Array.getElem?_setIfInBounds]
  by_cases e : off = j
  · subst e
    rw [if_pos rfl, if_pos (by omega)]
    exact ⟨_, rfl, by rw [List.getElem_set_self]; exact .int k n⟩
  · rw [if_neg e]
    refine ⟨u, h1, ?_⟩
    rw [List.getElem_set_ne e]
    exact Rep.mono he h2
end
/-- From w to w' the cells of block b alone have turned. -/
def Cel (G : AHeap) (w : World) (b : Nat) (cs : List AV) (w' : World) : Prop := Sim (G.set b (.box (.agg cs))) w' ∧ Ext G w (fun x => x = b) (G.set b (.box (.agg cs))) w'
section
variable {G : AHeap} {w w' : World} {b : Nat} {cs : List AV}
theorem Cel.zero (hs : Sim G w) (hG : G b = some (.box (.agg cs))) : Cel G w b cs w := by
  unfold Cel
  rw [AHeap.set_same _ _ _ hG]
  exact ⟨hs, ⟨rfl, rfl, rfl, Nat.le_refl _, fun _ _ _ => rfl, fun _ _ => rfl, fun _ _ h => h, fun x e => by subst e; rw [hG]; simp⟩⟩
theorem Cel.cell (h : Cel G w b cs w') {off : Nat} (hlt : off < cs.length) (k : IntKind) (n : Int) : Cel G w b (cs.set off (.int k n)) (w'.setCell ⟨b, off, none⟩ (.int k n)) := by
  obtain ⟨g1, g2⟩ := sim_setCell h.1 (AHeap.get_set _ _ _) hlt k n
  rw [AHeap.set_set] at g1 g2
  exact ⟨g1, h.2.trans g2 fun x _ e => e⟩
theorem Cel.drew (h : Cel G w b cs w') : Cel G w b cs w'.drew := ⟨sim_drew h.1, h.2.trans ext_drew fun x _ e => e.elim⟩
theorem Cel.get (h : Cel G w b cs w') {off : Nat} {k : IntKind} {n : Int} (hc : cs[off]? = some (.int k n)) : w'.cell? ⟨b, off, none⟩ = some (.int k n) ∧ w'.frozen? ⟨b, off, none⟩ = false := box_cell h.1 (AHeap.get_set _ _ _) hc
end
theorem Ext.wider {G G' : AHeap} {w w' : World} {D D' : Nat → Prop} (h : Ext G w D G' w') (hD : ∀ b, D b → D' b) (hl : ∀ b, D' b → G b ≠ none) : Ext G w D' G' w' :=
  ⟨h.os, h.tape, h.output, h.size, fun b hb hn => h.same b hb (fun hd => hn (hD b hd)), h.shape, h.dom, hl⟩
/-- A callee that is known world by world, and turns cells of one block alone. -/
theorem lcalls_cel {P : Program} {f : FuncId} {args : List AV} {G : AHeap} {b : Nat} {cs cs' : List AV} {r : AV} (hfn : ∃ fn, FnI P f fn) (hG : G b = some (.box (.agg cs)))
    (h : ∀ (H : AHeap) (w : World) (vs : List Value), G.sub H → Sim H w → Reps H w args vs → ∃ v, (∀ G' w', Rep G' w' r v) ∧ Calls P f vs.toArray w fun e w' => e = .returned v ∧ Cel H w b cs' w') :
    LCalls P f args G (fun x => x = b) fun n r' effs => r' = r ∧ effs = [(b, .box (.agg cs'))] := fun H hH => by
  refine ⟨hfn, fun w vs hs hr => ?_⟩
  obtain ⟨v, hv, hc⟩ := h H w vs hH hs hr
  refine hc.mono ?_
  rintro e w' ⟨rfl, h1, h2⟩
  refine ⟨v, r, _, rfl, ⟨_, ⟨rfl, rfl⟩, fun p hp => ?_, rfl⟩, hv _ _, h1, h2⟩
  rw [List.mem_singleton.1 hp]; left; rw [hG]; simp
/-- A callee that turns nothing. -/
theorem pcalls_cel {P : Program} {f : FuncId} {args : List AV} {G : AHeap} {r : AV} (hfn : ∃ fn, FnI P f fn)
    (h : ∀ (H : AHeap) (w : World) (vs : List Value), G.sub H → Sim H w → Reps H w args vs → ∃ v, (∀ G' w', Rep G' w' r v) ∧ Calls P f vs.toArray w fun e w' => e = .returned v ∧ (w' = w ∨ w' = w.drew)) :
    PCalls P f args G fun r' => r' = r := fun H hH => by
  refine ⟨hfn, fun w vs hs hr => ?_⟩
  obtain ⟨v, hv, hc⟩ := h H w vs hH hs hr
  refine hc.mono ?_
  rintro e w' ⟨rfl, h1⟩
  refine ⟨v, r, H, rfl, ⟨[], ⟨rfl, rfl⟩, fun p hp => (by cases hp), rfl⟩, hv _ _, ?_⟩
  rcases h1 with rfl | rfl
  · exact ⟨hs, Ext.refl _ _⟩
  · exact ⟨sim_drew hs, ext_drew⟩
end Go.Proofs.Ytgedefcjngofkaa.AM

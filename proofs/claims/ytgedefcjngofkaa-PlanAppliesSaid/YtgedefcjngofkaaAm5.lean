/- The abstract machine, part 5: literals and made slices, stores, calls; code; a function's beginning and end. -/
import Derived.Test.YtgedefcjngofkaaAm4
set_option linter.unusedVariables false
set_option linter.unusedSimpArgs false
namespace Go.Proofs.Ytgedefcjngofkaa.AM
open Go

def AV.isCell : AV → Bool
  | .agg _ | .tup _ | .unk => false
  | _ => true
theorem Rep.oneCell {G : AHeap} {w : World} {a : AV} {v : Value} (h : Rep G w a v) (hc : a.isCell = true) : v.oneCell' = true := by
  cases h <;> first | rfl | cases hc
theorem Reps.oneCell {G : AHeap} {w : World} {l : List AV} {vs : List Value} (h : Reps G w l vs) (hc : l.all AV.isCell = true) : ∀ v ∈ vs, v.oneCell' = true := fun v hv => by
  obtain ⟨i, hi, rfl⟩ := List.getElem_of_mem hv
  have hi' : i < l.length := by rw [h.1]; exact hi
  exact (h.2 i hi' hi).oneCell (List.all_eq_true.1 hc _ (List.getElem_mem hi'))

section
variable {P : Program} {c : Ctx} {env : Env} {G : AHeap} {dst : Option Tmp} {ty : TypeId} {pos : String} {af : Array Edge} {gd : Option (Nat × Bool)} {Q : Exit → Act → World → Prop} {K : Act → World → Prop}

/-- A slice literal, all of whose elements are given. -/
theorem step_buildSlice {T E : TypeId} {de : TypeDesc} {s b' sz by_ n d : Nat} {z : Option Value} {zv : Value} {parts : Array (Nat × Operand)} {vs : List (Nat × AV)} {l : List AV}
    (hT : TyI P T (.slice E) s z b') (hE : TyI P E de sz (some zv) by_) (hd : Nat.blt d c.nt = true) (hvs : parts.toList.mapM (fun x => (aeval env x.2).map fun v => (x.1, v)) = some vs)
    (hf : afill (fun i => some (i * sz, sz)) (List.replicate (n * sz) .unk) vs = some (flat l)) (he : Even sz l) (hn : l.length = n) (hsm : n * sz ≤ 16777216)
    (h : ∀ r, G r = none → c.w0.heap.size ≤ r → Goal c ((d, .own r sz 0 l.length) :: env) (G.set r (.row sz l)) K) : Step P c ⟨some d, .buildSlice T n parts, ty, pos, af, gd⟩ Q env G K :=
  step_newRow rfl hd he (fun a w hs => by
    obtain ⟨h1, h2⟩ := eval_list hs _ _ hvs
    have hzr : ∀ C : Array Value, C.size = n * sz → Reps G w (List.replicate (n * sz) .unk) C.toList := fun C hC =>
      ⟨by simp [hC], fun i hi1 hi2 => by simpa using Rep.unk _⟩
    have e : (parts.map fun x => (x.1, a.eval x.2)).toList = parts.toList.map fun x => (x.1, a.eval x.2) := by simp
    have hsm' : ¬ (n * sz > 2 ^ 24) := by simp; omega
    by_cases h0 : n * sz = 0
    · obtain ⟨vo, h3, h4⟩ := afill_rep (fun i => some (i * sz, sz)) vs _ _ (flat l) #[] h1 h2 (by have := hzr #[] (by simp [h0]); exact this) hf
      refine ⟨vo, E, h4, ?_⟩
      simp only [execOp, Instr.buildSlice, Sem.run_bind, hT.run_und, Result.andThen_ok, hE.run_size, if_neg hsm', h0, e]
      have e0 : ∀ f : Nat → Value, Array.map f (Array.range 0) = #[] := fun f => Array.eq_empty_of_size_eq_zero (by simp)
      simp [h0, e0, h3, newRow, hn]
    · obtain ⟨vo, h3, h4⟩ := afill_rep (fun i => some (i * sz, sz)) vs _ _ (flat l) ((Array.range (n * sz)).map (zv.cells[· % zv.cells.size]!)) h1 h2 (hzr _ (by simp)) hf
      refine ⟨vo, E, h4, ?_⟩
      simp only [execOp, Instr.buildSlice, Sem.run_bind, hT.run_und, Result.andThen_ok, hE.run_size, if_neg hsm', h0, e]
      simp [h0, hE.run_zero, h3, newRow, hn]) h

theorem flat_replicate (n : Nat) (z : AV) : flat (List.replicate n z) = (List.replicate n z.cells).flatten := by
  simp [flat, List.flatMap_replicate]
/-- make([]T, n) -/
theorem step_makeSlice {T E : TypeId} {de : TypeDesc} {s b' sz by_ d n : Nat} {z : Option Value} {zv : Value} {x : Operand} {k : IntKind} {m : Int} {za : AV} (hT : TyI P T (.slice E) s z b') (hE : TyI P E de sz (some zv) by_) (hd : Nat.blt d c.nt = true)
    (hx : aeval env x = some (.int k m)) (hm : m = (n : Int)) (hz : zAV zv = za) (hzs : za.cells.length = sz) (hzu : za.isUnk = false) (hb : n * by_ ≤ 140737488355328) (hn : n ≤ 140737488355328)
    (h : ∀ r, G r = none → c.w0.heap.size ≤ r → Goal c ((d, .own r sz 0 (List.replicate n za).length) :: env) (G.set r (.row sz (List.replicate n za))) K) : Step P c ⟨some d, .makeSlice T x x, ty, pos, af, gd⟩ Q env G K :=
  step_newRow rfl hd (fun y hy => by rw [List.eq_of_mem_replicate hy]; exact hzs) (fun a w hs => by
    subst hm
    have hzr := (zAV_rep G w zv); rw [hz] at hzr
    have hzc := hzr.cells' hzu
    have hvz : zv.cells.size = sz := by have := hzc.1; simp at this; omega
    have hw : IntKind.i64.wrap (n : Int) = n := wrap64_id (by omega)
    refine ⟨(Array.range (n * sz)).map (zv.cells[· % zv.cells.size]!), E, ⟨?_, fun i h1 h2 => ?_⟩, ?_⟩
    · rw [flat_len (sz := sz) (fun y hy => by rw [List.eq_of_mem_replicate hy]; exact hzs)]; simp
    · have hsp : 0 < sz := by
        rcases Nat.eq_zero_or_pos sz with h0 | h0
        · subst h0; simp at h2
        · exact h0
      have hi : i < n * sz := by simpa using h2
      have hq : i / sz < (List.replicate n za).length := by simpa using (Nat.div_lt_iff_lt_mul hsp).2 hi
      have hr : i % sz < (List.replicate n za)[i / sz].cells.length := by simp only [List.getElem_replicate, hzs]; exact Nat.mod_lt _ hsp
      have hkk : i / sz * sz + i % sz = i := by rw [Nat.mul_comm]; exact Nat.div_add_mod i sz
      have h3 := flat_get (sz := sz) (l := List.replicate n za) (fun y hy => by rw [List.eq_of_mem_replicate hy]; exact hzs) (i / sz) hq (i % sz) hr (by rw [hkk]; exact h1)
      simp only [hkk, List.getElem_replicate] at h3
      rw [h3]
      have hlt : i % sz < zv.cells.toList.length := by simp [hvz]; exact Nat.mod_lt _ hsp
      have := hzc.2 (i % sz) (by rw [hzs]; exact Nat.mod_lt _ hsp) hlt
      have e2 : zv.cells.toList[i % sz] = zv.cells[i % zv.cells.size]! := by
        rw [hvz, getElem!_pos _ _ (by rw [hvz]; exact Nat.mod_lt _ hsp)]; simp
      rw [e2] at this
      simpa using this
    · obtain ⟨i0, g1, g2, g3, g4, g5⟩ := hE.run_info w
      have hby : ¬ ((by_ : Int) * (n : Int) > 2 ^ 48) := by
        have : ((n * by_ : Nat) : Int) ≤ ((140737488355328 : Nat) : Int) := Int.ofNat_le.2 hb
        rw [Int.natCast_mul, Int.mul_comm] at this
        have e48 : (2 : Int) ^ 48 = 281474976710656 := by decide
        rw [e48]
        omega
      simp only [execOp, Instr.makeSlice, Sem.run_bind, hT.run_und, Result.andThen_ok, rep_int (hs.eval hx), asInt, asIntOf, Sem.run_pure, g1, g5, hw]
      have c1 : (decide ((n : Int) < 0) || decide ((by_ : Int) * (n : Int) > 2 ^ 48) || decide ((n : Int) < 0) || decide ((n : Int) > (n : Int))) = false := by
        simp; omega
      simp only [c1, Bool.false_eq_true, if_false, Sem.run_bind, run_askRoom, Result.andThen_ok, hE.run_size, Int.toNat_natCast]
      by_cases h0 : n * sz = 0
      · have e0 : ∀ f : Nat → Value, Array.map f (Array.range 0) = #[] := fun f => Array.eq_empty_of_size_eq_zero (by simp)
        simp [h0, e0, newRow]
      · simp [h0, hE.run_zero, newRow]) h

/-! ### Stores -/
def splice (l : List AV) (off : Nat) (m : List AV) : List AV := l.take off ++ m ++ l.drop (off + m.length)

theorem store_at {a : Act} {w : World} {r off sz b' : Nat} {T : TypeId} {d : TypeDesc} {z : Option Value} {x y : Operand} {v : Value} {vs : List Value} {C : Array Value} {Tc : TypeId}
    (hT : TyI P T d sz z b') (hy : a.eval y = .pointer (some ⟨r, off, none⟩)) (hx : a.eval x = v) (hv : v.cells.toList = vs) (hl : vs.length = sz) (h1 : ∀ u ∈ vs, u.oneCell' = true)
    (hh : w.heap[r]? = some (.cells C Tc (0, 0))) (hb : off + vs.length ≤ C.size) :
    (execOp a.eval ⟨dst, .store T y x, ty, pos, af, gd⟩).run P w = .ok .skip (w.setRow r (C.toList.take off ++ vs ++ C.toList.drop (off + vs.length)).toArray) := by
  have hst := run_storeCells_at P r off Tc vs 0 C w hh (by simpa using hb) h1
  simp only [Nat.add_zero] at hst
  have hs : v.cells.size = sz := by rw [← hl, ← hv]; simp
  simp [execOp, hx, hy, Instr.storeAt, Instr.sureAddr, storeVar, hT.run_size, hs, hv, hst]

/-- A store into a variable. -/
theorem step_store {T : TypeId} {d : TypeDesc} {sz b' r off : Nat} {z : Option Value} {x y : Operand} {av old new : AV} (hT : TyI P T d sz z b') (hy : aeval env y = some (.box r off)) (hx : aeval env x = some av)
    (hG : G r = some (.box old)) (hsz : av.cells.length = sz) (hc : av.cells.all AV.isCell = true) (hoff : off + sz ≤ old.cells.length) (hnew : new.cells = splice old.cells off av.cells)
    (hD : c.D r ∨ c.w0.heap.size ≤ r) (h : Goal c env (G.set r (.box new)) K) : Step P c ⟨none, .store T y x, ty, pos, af, gd⟩ Q env G K := fun a w hs => by
  have hu : av.isUnk = false := by
    cases av <;> first | rfl | (simp [AV.cells, AV.isCell] at hc)
  have hr := (hs.eval hx).cells' hu
  obtain ⟨C, Tc, hh, hl, hcs⟩ := hs.sim r _ hG
  have hp : a.eval y = .pointer (some ⟨r, off, none⟩) := by
    have := hs.eval hy
    generalize a.eval y = u at this
    cases this; rfl
  have hvl : (a.eval x).cells.toList.length = sz := by rw [← hr.1]; exact hsz
  have hrun := store_at (dst := none) (ty := ty) (pos := pos) (af := af) (gd := gd) hT hp rfl rfl hvl (hr.oneCell hc) hh (by omega)
  unfold Oper.wp
  rw [hrun, Oper.upon_skip]
  have hsize : (C.toList.take off ++ (a.eval x).cells.toList ++ C.toList.drop (off + (a.eval x).cells.toList.length)).toArray.size = C.size := by simp at hvl ⊢; omega
  have hne : G r ≠ none := by rw [hG]; simp
  have he := ext_setRow (y := .box new) hh hsize hne
  refine h _ _ (hs.move (sim_setRow hs.sim hh hsize hne ⟨_, Tc, setRow_heap w r C _ Tc _ hh, ?_, fun j hj => ?_⟩) he (fun b hb hbr => ?_))
  · rw [hsize, hnew]; simp [splice]; omega
  · have hj' : j < (splice old.cells off av.cells).length := by rw [← hnew]; exact hj
    have hspl : (splice old.cells off av.cells).length = old.cells.length := by simp [splice]; omega
    have hcj : (C.toList.take off ++ (a.eval x).cells.toList ++ C.toList.drop (off + (a.eval x).cells.toList.length)).toArray[j]? = some ((C.toList.take off ++ (a.eval x).cells.toList ++ C.toList.drop (off + (a.eval x).cells.toList.length))[j]'(by
      have : j < C.size := by omega
      simp at hvl hsize ⊢; omega)) := by simp
    refine ⟨_, hcj, ?_⟩
    have hreps : Reps G w (splice old.cells off av.cells) ((C.toList.take off ++ (a.eval x).cells.toList ++ C.toList.drop (off + (a.eval x).cells.toList.length)).take old.cells.length) := by
      have hold : Reps G w old.cells (C.toList.take old.cells.length) := ⟨by simp; omega, fun i h1 h2 => by
        obtain ⟨u, hu1, hu2⟩ := hcs i h1
        have : C.toList[i]? = some u := by rw [Array.getElem?_toList]; exact hu1
        have h4 : (C.toList.take old.cells.length)[i]? = some u := by rw [List.getElem?_take, if_pos h1]; exact this
        rw [List.getElem?_eq_getElem h2] at h4
        injection h4 with h4
        rw [h4]; exact hu2⟩
      have h5 := ((hold.take off).append hr).append (hold.drop (off + av.cells.length))
      have e1 : (C.toList.take old.cells.length).take off = C.toList.take off := by rw [List.take_take]; congr 1; omega
      have e2 : (C.toList.take off ++ (a.eval x).cells.toList ++ C.toList.drop (off + (a.eval x).cells.toList.length)).take old.cells.length = C.toList.take off ++ (a.eval x).cells.toList ++ (C.toList.take old.cells.length).drop (off + av.cells.length) := by
        have hlt : (C.toList.take off ++ (a.eval x).cells.toList).length = off + av.cells.length := by simp at hvl ⊢; omega
        rw [List.take_append, List.take_of_length_le (by omega), hlt, List.take_drop, ← hr.1]
        rw [show off + av.cells.length + (old.cells.length - (off + av.cells.length)) = old.cells.length from by omega]
      rw [e1] at h5
      rw [e2]
      exact h5
    have := hreps.2 j hj' (by simp at hvl ⊢; omega)
    rw [List.getElem_take] at this
    have e : new.cells[j] = (splice old.cells off av.cells)[j] := by simp only [hnew]
    rw [e]
    exact this.mono he
  · subst hbr
    rcases hD with hD | hD
    · exact hD
    · omega
end
end Go.Proofs.Ytgedefcjngofkaa.AM

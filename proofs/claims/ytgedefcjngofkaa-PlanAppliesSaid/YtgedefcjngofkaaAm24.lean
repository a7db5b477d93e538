/- The abstract machine, part 24: slices.Sort of integers, by the library's own contract. -/
import Derived.Test.YtgedefcjngofkaaAm23
import Derived.Sort.EveryDepth
import Derived.Shelf.Sort.AssemblyIn
set_option linter.unusedVariables false
set_option linter.unusedSimpArgs false
namespace Go.Proofs.Ytgedefcjngofkaa.AM
open Go
section
variable {P : Program} {G : AHeap}
theorem putRow_at (w : World) (r off : Nat) (d : Array Int) {C : Array Value} {T : TypeId} (h : w.heap[r]? = some (.cells C T (0, 0))) :
    (Sort.putRow (Value.int .i64) w r off d).heap[r]? = some (.cells (Sort.putCells (Value.int .i64) off d C) T (0, 0)) := by
  simp [Sort.putRow, Sort.mapBlock, Array.getElem?_modify, h, Sort.onCells]
theorem putRow_ne (w : World) (r off b : Nat) (d : Array Int) (h : b ≠ r) : (Sort.putRow (Value.int .i64) w r off d).heap[b]? = w.heap[b]? := by
  simp [Sort.putRow, Sort.mapBlock, Array.getElem?_modify, Ne.symm h]
theorem grow_old (w : World) (os : Array Obj) {b : Nat} (h : b < w.heap.size) : (Sort.grow w os).heap[b]? = w.heap[b]? := by
  simp only [Sort.grow]; rw [Array.getElem?_append_left h]
theorem sort_calls {ρ : Go.Shelf.Ren} (Ly : Go.Proofs.Lays.n189 P ρ) {fn : Func} (hf : FnI P (ρ.f 189) fn) (r : Nat) (l : List Int) (hG : G r = some (.row 1 (l.map (.int .i64)))) (hl : l.length ≤ 1000000) :
    LCalls P (ρ.f 189) [.own r 1 0 l.length] G (· = r) (fun n v effs => v = .tup [] ∧ effs = [(r, .row 1 ((l.mergeSort fun x y => decide (x ≤ y)).map (.int .i64)))]) := fun H hH => ⟨⟨fn, hf⟩, fun w vs hs hr => by
  have hHr := hH _ _ hG
  obtain ⟨v, rfl⟩ : ∃ v, vs = [v] := by
    have := hr.1
    match vs, this with
    | [v], _ => exact ⟨v, rfl⟩
  have hv : Rep H w (.own r 1 0 l.length) v := hr.2 0 (by simp) (by simp)
  obtain ⟨C, T, h1, h2, h3, h4⟩ := hs _ _ hHr
  have hlt : r < w.heap.size := hs.lt hHr
  have hCl : l.length ≤ C.size := by simpa using h2
  have hcell : ∀ j (hj : j < l.length), C[j]? = some (.int .i64 l[j]) := fun j hj => by
    obtain ⟨u, hu, hru⟩ := h4 j (by simpa using hj) 0 (by simp [AV.cells])
    simp only [List.getElem_map, AV.cells, List.getElem_cons_zero, Nat.mul_one, Nat.add_zero] at hu hru
    cases hru
    exact hu
  cases hv with
  | own _ _ _ _ cp hc hsh =>
    have hH0 : Sort.Holds (Value.int .i64) w r 0 l.toArray := fun j hj => by
      have hj' : j < l.length := by simpa using hj
      refine ⟨?_, by simp [World.frozen?, h1]⟩
      have e : l.toArray[j]! = l[j] := by rw [getElem!_pos _ j hj]; simp
      rw [e, Nat.zero_add]
      simp [World.cell?, h1, hcell j hj']
    have hcall := calls_of_every_depth fun D => Go.Proofs.AnyS.slices_Sort_int_in Ly D r 0 cp l w hH0 hlt (by omega)
    obtain ⟨s, hsdef⟩ : ∃ s, s = l.mergeSort fun x y => decide (x ≤ y) := ⟨_, rfl⟩
    have hsl : s.length = l.length := by rw [hsdef]; exact List.length_mergeSort _
    rw [← hsdef] at hcall ⊢
    rw [show (0 : Nat) * 1 = 0 from rfl]
    refine hcall.mono fun e w' ⟨he, n, os, hw'⟩ => ?_
    subst hw'
    have hw1 : (Sort.ahead w n).heap[r]? = some (.cells C T (0, 0)) := h1
    have hr' : (Sort.grow (Sort.putRow (Value.int .i64) (Sort.ahead w n) r 0 s.toArray) os).heap[r]? = some (.cells (Sort.putCells (Value.int .i64) 0 s.toArray C) T (0, 0)) := by
      rw [grow_old _ _ (by simpa using hlt)]; exact putRow_at _ _ _ _ hw1
    have hother : ∀ b, b < w.heap.size → b ≠ r → (Sort.grow (Sort.putRow (Value.int .i64) (Sort.ahead w n) r 0 s.toArray) os).heap[b]? = w.heap[b]? := fun b hb hne => by
      rw [grow_old _ _ (by simpa using hb), putRow_ne _ _ _ _ _ hne]; rfl
    have hsz : (Sort.putCells (Value.int .i64) 0 s.toArray C).size = C.size := by simp [Sort.putCells]
    have hext : Ext H w (fun b => b = r) (H.set r (.row 1 (s.map (.int .i64)))) (Sort.grow (Sort.putRow (Value.int .i64) (Sort.ahead w n) r 0 s.toArray) os) := {
      os := rfl, tape := rfl, output := rfl
      size := by simp
      same := fun b hb hn => hother b hb hn
      shape := fun b hb => by
        unfold World.shape?
        by_cases e : b = r
        · subst e; rw [hr', h1]; simp [hsz]
        · rw [hother b hb e]
      dom := fun b hb hg => by
        have : b ≠ r := fun e => by subst e; rw [hHr] at hg; cases hg
        rw [AHeap.get_set_ne _ _ this]; exact hg
      lists := fun b e => by subst e; rw [hHr]; simp }
    refine ⟨.tuple #[], .tup [], H.set r (.row 1 (s.map (.int .i64))), he, ⟨[(r, .row 1 (s.map (.int .i64)))], ⟨rfl, rfl⟩, fun p hp => .inl (by simp at hp; subst hp; rw [hG]; simp), rfl⟩, .tup [] [] rfl (fun i h => by simp at h), fun b y hb => ?_, hext⟩
    by_cases e : b = r
    · subst e
      rw [AHeap.get_set] at hb
      injection hb with hb
      subst hb
      refine ⟨_, T, hr', by rw [hsz]; simp [hsl]; exact hCl, fun i hi => by simp [AV.cells], fun i hi j hj => ?_⟩
      have hi' : i < s.length := by simpa using hi
      have hj0 : j = 0 := by simp only [List.getElem_map, AV.cells, List.length_singleton] at hj; omega
      subst hj0
      refine ⟨.int .i64 s[i], ?_, ?_⟩
      · have hiC : i < C.size := by omega
        rw [Nat.mul_one, Nat.add_zero]
        simp only [Sort.putCells, Array.getElem?_mapIdx, Array.getElem?_eq_getElem hiC, Option.map_some]
        rw [if_pos ⟨Nat.zero_le _, by simpa using hi'⟩, Nat.sub_zero, getElem!_pos _ i (by simpa using hi')]
        simp
      · simp only [List.getElem_map, AV.cells, List.getElem_cons_zero]
        exact .int _ _
    · rw [AHeap.get_set_ne _ _ e] at hb
      exact (hs b y hb).mono hext (hother b (hs.lt hb) e)⟩
end
section
variable {md : Bool} {P : Program} {c : Ctx} {env : Env} {G : AHeap} {dst : Option Tmp} {ty : TypeId} {pos : String} {af : Array Edge} {gd : Option (Nat × Bool)}
theorem val_conv_int {T D s b' s2 b2 : Nat} {z z2 : Option Value} {k0 ks k : IntKind} {n : Int} {x : Operand} (hT : TyI P T (.int ks) s z b') (hD : TyI P D (.int k) s2 z2 b2) (hx : aeval env x = some (.int k0 n)) :
    ValM md P c ⟨dst, .convert T D x, ty, pos, af, gd⟩ env G (.int k (k.wrap n)) := fun a w hs => by
  refine ⟨_, .int .., fun w' _ => ?_⟩
  simp [execOp, rep_int (hs.eval hx), convert, hT.run_und, hD.run_und, Conv.intToInt]
theorem val_index_str {T s b' i : Nat} {z : Option Value} {x y : Operand} {m : ByteArray} {kd : IntKind} {n : Int} {b : UInt8} (hT : TyI P T .string s z b') (hx : aeval env x = some (.str m)) (hy : aeval env y = some (.int kd n)) (hn : n = (i : Int)) (hb : m[i]? = some b) :
    ValM md P c ⟨dst, .index T x y, ty, pos, af, gd⟩ env G (.int .u8 b.toNat) := fun a w hs => by
  subst hn
  refine ⟨_, .int .., fun w' _ => ?_⟩
  have h0 : (0 : Int) ≤ (i : Int) := by omega
  simp only [execOp, rep_str (hs.eval hx), rep_int (hs.eval hy), Instr.index, asIntOf, Sem.run_bind, Sem.run_pure, Result.andThen_ok, hT.run_und, if_pos h0, Int.toNat_natCast, hb]
end
section
variable {md : Bool} {P : Program} {c : Ctx} {env B : Env} {L : LPtr} {G : AHeap} {dst : Option Tmp} {ty : TypeId} {pos : String} {af : Array Edge} {gd : Option (Nat × Bool)}
theorem v_conv_int {T D s b' s2 b2 : Nat} {z z2 : Option Value} {k0 ks k : IntKind} {n m : Int} {x : Operand} (hT : TyI P T (.int ks) s z b') (hD : TyI P D (.int k) s2 z2 b2) (hx : ev env L x = some (.int k0 n)) (hm : k.wrap n = m) :
    ValLM md P c ⟨dst, .convert T D x, ty, pos, af, gd⟩ env L B G (.int k m) := fun ρ hρ => hm ▸ val_conv_int hT hD (ev_full hx)
theorem v_index_str {T s b' i : Nat} {z : Option Value} {x y : Operand} {m : ByteArray} {kd : IntKind} {n : Int} {b : UInt8} (hT : TyI P T .string s z b') (hx : ev env L x = some (.str m)) (hy : ev env L y = some (.int kd n)) (hn : n = (i : Int)) (hb : m[i]? = some b) :
    ValLM md P c ⟨dst, .index T x y, ty, pos, af, gd⟩ env L B G (.int .u8 b.toNat) := fun ρ hρ => val_index_str hT (ev_full hx) (ev_full hy) hn hb
/-- A row of the call's own beside another row that is set. -/
theorem own_put {n0 sz b : Nat} {H G : AHeap} {av : AV} {l : List AV} {x : ARow} (y : ARow) (h : Own n0 sz H av l G) (hb : H b = some x) : Own n0 sz (H.set b y) av l (G.set b y) := by
  rcases h with ⟨e1, e2, rfl⟩ | ⟨r, g1, g2, g3, rfl⟩
  · exact .inl ⟨e1, e2, rfl⟩
  · have hne : r ≠ b := fun e => by subst e; rw [hb] at g1; cases g1
    refine .inr ⟨r, by rw [AHeap.get_set_ne _ _ hne]; exact g1, g2, g3, ?_⟩
    refine AHeap.ext fun b' => ?_
    by_cases e1 : b' = b
    · subst e1; rw [AHeap.get_set, AHeap.get_set_ne _ _ (Ne.symm hne), AHeap.get_set]
    · rw [AHeap.get_set_ne _ _ e1]
      by_cases e2 : b' = r
      · subst e2; rw [AHeap.get_set, AHeap.get_set]
      · rw [AHeap.get_set_ne _ _ e2, AHeap.get_set_ne _ _ e2, AHeap.get_set_ne _ _ e1]
end
end Go.Proofs.Ytgedefcjngofkaa.AM
namespace Go.Proofs.Ytgedefcjngofkaa.AM
open Go
section
variable {c : Ctx} {env B : Env} {L : LPtr} {G : AHeap} {K : Act → World → Prop}
/-- A variable's value said with less. -/
theorem g_wkB (s : Nat) {cs : List AV} {v' : AV} (hB : B.get s = some (.agg cs)) (hv : AV.agg (cs.map AV.wk1) = v') (h : GoalL c env L ((s, v') :: edel B s) G K) : GoalL c env L B G K := fun ρ hρ a w hs => by
  subst hv
  obtain ⟨h7, h8⟩ := boxes_set (new := .agg (cs.map AV.wk1)) hρ hB
  have hG := boxes_get hρ hB
  have hrow : RowRep (boxes ρ G B) w (ρ s) (.box (.agg (cs.map AV.wk1))) := by
    obtain ⟨C, T, g1, g2, g3⟩ := hs.sim _ _ hG
    refine ⟨C, T, g1, by simpa [AV.cells] using g2, fun j hj => ?_⟩
    have hj' : j < cs.length := by simpa [AV.cells] using hj
    obtain ⟨u, hu, hr⟩ := g3 j hj'
    refine ⟨u, hu, ?_⟩
    simp only [AV.cells, List.getElem_map] at hr ⊢
    exact ASub.wk1 _ _ _ _ hr
  have h9 := hs.move (sim_know hs.sim hG hrow) (ext_know hG) (fun _ _ h => h.elim)
  rw [← h8] at h9
  exact h ρ h7 a w h9
end
end Go.Proofs.Ytgedefcjngofkaa.AM
namespace Go.Proofs.Ytgedefcjngofkaa.AM
open Go
/-- What is kept, told whole: so that no later look-up works it out again. -/
theorem keep_nil {env : Env} : env.keep [] = [] := rfl
theorem keep_cons {env e : Env} {t : Nat} {ts : List Nat} {v : AV} (h : env.get t = some v) (h2 : env.keep ts = e) : env.keep (t :: ts) = (t, v) :: e := by
  rw [Env.keep, h, h2]
theorem keep_skip {env e : Env} {t : Nat} {ts : List Nat} (h : env.get t = none) (h2 : env.keep ts = e) : env.keep (t :: ts) = e := by
  rw [Env.keep, h, h2]
theorem lkeep_nil {L : LPtr} : lkeep L [] = [] := rfl
theorem lkeep_cons {L e : LPtr} {t : Nat} {ts : List Nat} {v : Nat × Nat} (h : lget L t = some v) (h2 : lkeep L ts = e) : lkeep L (t :: ts) = (t, v) :: e := by
  rw [lkeep, h, h2]
theorem lkeep_skip {L e : LPtr} {t : Nat} {ts : List Nat} (h : lget L t = none) (h2 : lkeep L ts = e) : lkeep L (t :: ts) = e := by
  rw [lkeep, h, h2]
end Go.Proofs.Ytgedefcjngofkaa.AM

/- The abstract machine, part 20: slices whose room is known: cap, slicing up to it, append where it is known whether there is room; clear; overlaps. -/
import Derived.Test.YtgedefcjngofkaaAm19
import Derived.Lib.AppendZerosOnto
import Derived.Lib.Overlaps
set_option linter.unusedVariables false
set_option linter.unusedSimpArgs false
namespace Go.Proofs.Ytgedefcjngofkaa.AM
open Go
theorem ASub.ownc (r sz o n cp : Nat) : ASub (.ownc r sz o n cp) (.own r sz o n) := fun _ _ _ h => by
  cases h with
  | ownc _ _ _ _ _ hc hs => exact .own _ _ _ _ _ hc hs
section
variable {md : Bool} {P : Program} {c : Ctx} {env : Env} {G : AHeap} {dst : Option Tmp} {ty : TypeId} {pos : String} {af : Array Edge} {gd : Option (Nat × Bool)} {Q : Exit → Act → World → Prop} {K : Act → World → Prop}
theorem val_cap {T E r sz o n cp : Nat} {s b' : Nat} {z : Option Value} {x : Operand} (hT : TyI P T (.slice E) s z b') (hx : aeval env x = some (.ownc r sz o n cp)) :
    ValM md P c ⟨dst, .call ⟨.builtin .cap, #[x], #[T]⟩, ty, pos, af, gd⟩ env G (.int .i64 (cp : Int)) := fun a w hs => by
  have hr := hs.eval hx
  generalize hu : a.eval x = u at hr
  cases hr with
  | ownc _ _ _ _ _ hc hsh =>
    refine ⟨_, .int .., fun w' _ => ?_⟩
    simp [execOp, resolve, invoke, builtin, Builtin.cap_, hu, hT.run_und, goInt]
theorem val_slice_ownc {T E : TypeId} {d : TypeDesc} {sz by_ s b' lo hi r o n cp : Nat} {z z' : Option Value} {x : Operand} {low high : Option Operand} {m1 m2 : Int} (hT : TyI P T (.slice E) s z' b') (hE : TyI P E d sz z by_)
    (hx : aeval env x = some (.ownc r sz o n cp)) (hlo : aevb env 0 low = some m1) (hhi : aevb env (n : Int) high = some m2) (h1 : m1 = (lo : Int)) (h2 : m2 = (hi : Int)) (hle : lo ≤ hi) (hc : hi ≤ cp) (hne : lo = 0 ∨ lo < cp) :
    ValM md P c ⟨dst, .slice T x low high none, ty, pos, af, gd⟩ env G (.ownc r sz (o + lo) (hi - lo) (cp - lo)) := fun a w hs => by
  have hr := hs.eval hx
  generalize hu : a.eval x = u at hr
  cases hr with
  | ownc _ _ _ _ _ hcp hsh =>
    obtain ⟨T', N, g1, g2⟩ := hsh
    have hb := fun w' => run_bounds (P := P) (iss := true) (cap := cp) hs hlo hhi h1 h2 hle hc w'
    refine ⟨_, ?_, fun w' _ => by
      simp only [execOp, hu, Instr.sliceAt, Sem.run_bind, hT.run_und, Result.andThen_ok, Instr.slice, Option.map_none, hb w', hE.run_size, Sem.run_pure]; rfl⟩
    have e : (if cp = lo then (some (⟨r, o * sz, none⟩ : Addr)) else (some (⟨r, o * sz, none⟩ : Addr)).map (·.add (lo * sz))) = some ⟨r, (o + lo) * sz, none⟩ := by
      split
      · have : lo = 0 := by omega
        subst this; simp
      · simp [add_mk, Nat.add_mul]
    rw [e]
    exact .ownc r sz (o + lo) (hi - lo) (cp - lo) (by omega) ⟨T', N, g1, Nat.le_trans (Nat.mul_le_mul_right _ (by omega)) g2⟩
/-- An element of which nothing is known. -/
def unkE (sz : Nat) : AV := .agg (List.replicate sz .unk)
theorem ext_know {r : Nat} {x y : ARow} {w : World} (h : G r = some x) : Ext G w (fun _ => False) (G.set r y) w where
  os := rfl
  tape := rfl
  output := rfl
  size := Nat.le_refl _
  same := fun _ _ _ => rfl
  shape := fun _ _ => rfl
  dom := fun b _ hg => by
    have : b ≠ r := fun e => by subst e; rw [h] at hg; cases hg
    rw [AHeap.get_set_ne _ _ this]; exact hg
  lists := fun _ h => h.elim
theorem sim_room {w : World} {r sz o n cp k t : Nat} {l : List AV} (hs : Sim G w) (hG : G r = some (.row sz l)) (hl : l.length = o + n) (hk : n + k ≤ cp) {v : Value} (hr : Rep G w (.ownc r sz o n cp) v) :
    Sim (G.set r (.row sz (l ++ List.replicate k (unkE sz)))) w := fun b x hb => by
  have he : Ext G w (fun _ => False) (G.set r (.row sz (l ++ List.replicate k (unkE sz)))) w := ext_know hG
  by_cases hbr : b = r
  · subst hbr
    rw [AHeap.get_set] at hb
    injection hb with hb
    subst hb
    obtain ⟨C, T, h1, h2, h3, h4⟩ := hs b _ hG
    cases hr with
    | ownc _ _ _ _ _ hc hsh =>
      obtain ⟨T', N, g1, g2⟩ := hsh
      have hN : N = C.size := by unfold World.shape? at g1; rw [h1] at g1; simp at g1; exact g1.2.symm
      have hu : (unkE sz).cells.length = sz := by simp [unkE, AV.cells]
      have hfit : (l ++ List.replicate k (unkE sz)).length * sz ≤ C.size := by
        rw [← hN]; simp only [List.length_append, List.length_replicate]
        exact Nat.le_trans (Nat.mul_le_mul_right _ (by omega)) g2
      refine ⟨C, T, h1, hfit, fun i hi => ?_, fun i hi j hj => ?_⟩
      · rcases Nat.lt_or_ge i l.length with h' | h'
        · rw [List.getElem_append_left h']; exact h3 i h'
        · rw [List.getElem_append_right h', List.getElem_replicate]; exact hu
      · rcases Nat.lt_or_ge i l.length with h' | h'
        · simp only [List.getElem_append_left h'] at hj ⊢
          obtain ⟨v, hv, hr⟩ := h4 i h' j hj
          exact ⟨v, hv, hr.mono he⟩
        · simp only [List.getElem_append_right h', List.getElem_replicate] at hj ⊢
          have hlt : i * sz + j < C.size := by
            have h5 : (i + 1) * sz ≤ (l ++ List.replicate k (unkE sz)).length * sz := Nat.mul_le_mul_right _ hi
            rw [Nat.add_mul] at h5
            rw [hu] at hj
            omega
          refine ⟨C[i * sz + j], Array.getElem?_eq_getElem hlt, ?_⟩
          have : (unkE sz).cells[j] = .unk := by simp [unkE, AV.cells]
          rw [this]; exact .unk _
  · rw [AHeap.get_set_ne _ _ hbr] at hb
    exact (hs b x hb).mono he rfl
theorem run_view_cells {w : World} {r sz : Nat} {l : List AV} (hs : Sim G w) (hG : G r = some (.row sz l)) (o n : Nat) (h : o + n ≤ l.length) :
    ∃ vs, Reps G w (flat ((l.drop o).take n)) vs ∧ vs.length = n * sz ∧ ∀ j v, vs[j]? = some v → w.cell? ((⟨r, o * sz, none⟩ : Addr).add j) = some v := by
  obtain ⟨C, Tc, os, rest, hh, hle, hC, hos⟩ := row_block hs hG
  have hol : os.length = l.length * sz := by rw [← hos.1, flat_len hle]
  have hfit : o * sz + n * sz ≤ l.length * sz := by rw [← Nat.add_mul]; exact Nat.mul_le_mul_right _ h
  refine ⟨(os.drop (o * sz)).take (n * sz), ?_, by rw [List.length_take, List.length_drop]; omega, fun j v hj => ?_⟩
  · rw [flat_take (hle.drop o), flat_drop hle]; exact (hos.drop _).take _
  · have hjn : j < n * sz := by
      rcases Nat.lt_or_ge j (n * sz) with h' | h'
      · exact h'
      · rw [List.getElem?_eq_none (by rw [List.length_take]; omega)] at hj; cases hj
    rw [List.getElem?_take, if_pos hjn, List.getElem?_drop] at hj
    rw [add_mk]
    have : C[o * sz + j]? = some v := by
      rw [← Array.getElem?_toList, hC, List.getElem?_append_left (by omega)]; exact hj
    simp [World.cell?, hh, this]
theorem step_append_in {T E s b' by_ sz d r o n cp : Nat} {z' z : Option Value} {de : TypeDesc} {x y : Operand} {b : AV} {l m : List AV} (hT : TyI P T (.slice E) s z' b') (hE : TyI P E de sz z by_) (hd : Nat.blt d c.nt = true)
    (hx : aeval env x = some (.ownc r sz o n cp)) (hG : G r = some (.row sz l)) (hon : o + n + m.length ≤ l.length) (hcp : n + m.length ≤ cp) (hy : aeval env y = some b) (hm : b.view G = some m) (hme : Even sz m) (hcell : ∀ x ∈ m, x.cells.all AV.isCell = true)
    (hD : c.D r ∨ c.w0.heap.size ≤ r) (h : Goal c ((d, .ownc r sz o (n + m.length) cp) :: env) (G.set r (.row sz (l.take (o + n) ++ m ++ l.drop (o + n + m.length)))) K) :
    Step P c ⟨some d, .call ⟨.builtin .append, #[x, y], #[T, T]⟩, ty, pos, af, gd⟩ Q env G K := fun a w hs => by
  have hrx := hs.eval hx
  have hry := hs.eval hy
  obtain ⟨A, cu, vs, hu, hvs, hvl, hrun⟩ := run_first (P := P) hs.sim hry hm hme m.length (Nat.le_refl _)
  rw [List.take_length] at hvs
  obtain ⟨C, Tc, os, rest, hh, hle, hC, hos⟩ := row_block hs.sim hG
  have hol : os.length = l.length * sz := by rw [← hos.1, flat_len hle]
  have hCs : C.size = os.length + rest.length := by rw [← Array.length_toList, hC]; simp
  have hfit : (o + n) * sz + vs.length ≤ C.size := by
    rw [hvl, ← Nat.add_mul, hCs, hol]
    exact Nat.le_trans (Nat.mul_le_mul_right sz hon) (Nat.le_add_right _ _)
  have hone : ∀ u ∈ vs, u.oneCell' = true := hvs.oneCell (List.all_eq_true.2 fun x hx => by
    obtain ⟨y, hy1, hy2⟩ := flat_mem hx
    exact List.all_eq_true.1 (hcell y hy1) x hy2)
  generalize hv : a.eval x = v at hrx
  cases hrx with
  | ownc _ _ _ _ _ hc hsh =>
    obtain ⟨T', N, hsh1, hsh2⟩ := hsh
    have hst := run_storeCells_at P r ((o + n) * sz) Tc vs 0 C w hh (by simpa using hfit) hone
    simp only [Nat.add_zero] at hst
    have hlen : (Builtin.lenOf (a.eval y)).run P w = .ok m.length w := by rw [hu]; simp [Builtin.lenOf]
    have e1 : o * sz + n * sz = (o + n) * sz := (Nat.add_mul _ _ _).symm
    have happ : (Builtin.append_ #[T, T] ty #[.slice (some ⟨r, o * sz, none⟩) n cp, a.eval y]).run P w = .ok (.slice (some ⟨r, o * sz, none⟩) (n + m.length) cp) (w.setRow r (C.toList.take ((o + n) * sz) ++ vs ++ C.toList.drop ((o + n) * sz + vs.length)).toArray) := by
      simp [Builtin.append_, hT.run_und, hE.run_size, hlen, hcp, hrun, add_mk, e1, hst]
    unfold Oper.wp
    rw [append_exec hv rfl happ, Oper.upon_value]
    obtain ⟨hsim, hext⟩ := row_store hs.sim hG hh hle hme hC hos hvs (show o + n ≤ l.length by omega) hfit
    refine h _ _ ((hs.move hsim hext (fun b hb e => by subst e; exact hD.resolve_right (by omega))).put hd ?_)
    exact .ownc r sz o (n + m.length) cp hcp ⟨T', N, (hext.shape r (shape_lt hsh1)).trans hsh1, hsh2⟩
theorem step_append_out {T E s b' by_ sz d r o n cp : Nat} {z' : Option Value} {zv : Value} {de : TypeDesc} {x y : Operand} {b : AV} {l m : List AV} (hT : TyI P T (.slice E) s z' b') (hE : TyI P E de sz (some zv) by_) (hd : Nat.blt d c.nt = true)
    (hx : aeval env x = some (.ownc r sz o n cp)) (hG : G r = some (.row sz l)) (hon : o + n ≤ l.length) (hcp : cp < n + m.length) (hy : aeval env y = some b) (hm : b.view G = some m) (hme : Even sz m)
    (hzs : zv.cells.size = sz) (hb1 : n + m.length ≤ 140737488355328) (hb2 : (n + m.length) * by_ ≤ 140737488355328)
    (h : ∀ p, G p = none → c.w0.heap.size ≤ p → Goal c ((d, .own p sz 0 ((l.drop o).take n ++ m).length) :: env) (G.set p (.row sz ((l.drop o).take n ++ m))) K) :
    Step P c ⟨some d, .call ⟨.builtin .append, #[x, y], #[T, T]⟩, ty, pos, af, gd⟩ Q env G K := fun a w hs => by
  obtain ⟨i0, g1, g2, g3, g4, g5⟩ := hE.run_info w
  have hrx := hs.eval hx
  have hry := hs.eval hy
  obtain ⟨C0, T0, os0, rest0, hh0, hle, hC0, hos0⟩ := row_block hs.sim hG
  obtain ⟨os, hos, hol, holds⟩ := run_view_cells hs.sim hG o n hon
  generalize hv : a.eval x = v at hrx
  cases hrx with
  | ownc _ _ _ _ _ hc hsh =>
    obtain ⟨ad, cu, vs, hu, hvs, hvl, hcells⟩ := view_cells hs.sim hry hm hme (by omega)
    have hvl' : vs.length = m.length * i0.size := by rw [g3]; exact hvl
    have hdrew : St c env G a w.drew := hs.move (D := fun _ => False) (sim_drew hs.sim) ext_drew (fun _ _ h => h.elim)
    have hby : (n + m.length) * i0.bytes ≤ 140737488355328 := by rw [g5]; exact hb2
    have hr := run_append_grow (P := P) w T ty E i0 zv hT.und g2 g4 ⟨r, o * sz, none⟩ n cp os (by rw [g3]; exact hol) holds ad m.length cu vs hvl' hcells hcp (by omega) (growslice_fits (by omega) hby)
    unfold Oper.wp
    rw [append_exec hv hu hr, Oper.upon_value]
    have hge := grownCap_ge w (n + m.length) cp E
    have hln : ((l.drop o).take n).length = n := by rw [List.length_take, List.length_drop]; omega
    have hreps : Reps G w.drew (flat ((l.drop o).take n ++ m)) (os ++ vs) := by rw [flat_append]; exact (hos.append hvs).mono ext_drew
    have hsz : grownCap w (n + m.length) cp E * sz ≤ (os.toArray ++ vs.toArray ++ Builtin.zeroCells zv.cells (grownCap w (n + m.length) cp E - (n + m.length))).size := by
      simp only [Array.size_append, List.size_toArray, size_zeroCells, hzs, hol, hvl, ← Nat.add_mul]
      exact Nat.mul_le_mul_right _ (by omega)
    have hev : Even sz ((l.drop o).take n ++ m) := ((hle.drop o).take n).append hme
    have h7 := hdrew.newRow (C := os.toArray ++ vs.toArray ++ Builtin.zeroCells zv.cells (grownCap w (n + m.length) cp E - (n + m.length))) (T := E) (cap := grownCap w (n + m.length) cp E) hd hev
      (vs := os ++ vs) (rest := (Builtin.zeroCells zv.cells (grownCap w (n + m.length) cp E - (n + m.length))).toList) (by simp) hreps (by rw [List.length_append, hln]; exact hge) hsz
    have h8 := h w.drew.heap.size (hdrew.sim.none (Nat.le_refl _)) hdrew.fresh _ _ h7
    rw [List.length_append, hln] at h8
    simpa using h8
theorem reps_zeros {w : World} {zv : Value} {za : AV} {sz : Nat} (hz : zAV zv = za) (hzs : za.cells.length = sz) (hzu : za.isUnk = false) (n : Nat) : Reps G w (flat (List.replicate n za)) (Builtin.zeroCells zv.cells n).toList := by
  have hzr := (zAV_rep G w zv); rw [hz] at hzr
  have hzc := hzr.cells' hzu
  have hvz : zv.cells.size = sz := by have := hzc.1; simp at this; omega
  refine ⟨?_, fun i h1 h2 => ?_⟩
  · rw [flat_len (sz := sz) (fun y hy => by rw [List.eq_of_mem_replicate hy]; exact hzs)]; simp [size_zeroCells, hvz]
  · have hsp : 0 < sz := by
      rcases Nat.eq_zero_or_pos sz with h0 | h0
      · subst h0; simp [size_zeroCells, hvz] at h2
      · exact h0
    have hi : i < n * sz := by simpa [size_zeroCells, hvz] using h2
    have hq : i / sz < (List.replicate n za).length := by simpa using (Nat.div_lt_iff_lt_mul hsp).2 hi
    have hr : i % sz < (List.replicate n za)[i / sz].cells.length := by simp only [List.getElem_replicate, hzs]; exact Nat.mod_lt _ hsp
    have hkk : i / sz * sz + i % sz = i := by rw [Nat.mul_comm]; exact Nat.div_add_mod i sz
    have h3 := flat_get (sz := sz) (l := List.replicate n za) (fun y hy => by rw [List.eq_of_mem_replicate hy]; exact hzs) (i / sz) hq (i % sz) hr (by rw [hkk]; exact h1)
    simp only [hkk, List.getElem_replicate] at h3
    rw [h3]
    have hlt : i % sz < zv.cells.toList.length := by simp [hvz]; exact Nat.mod_lt _ hsp
    have := hzc.2 (i % sz) (by rw [hzs]; exact Nat.mod_lt _ hsp) hlt
    have e2 : zv.cells.toList[i % sz] = zv.cells[i % zv.cells.size]! := by
      rw [hvz, getElem!_pos _ _ (by rw [hvz]; exact Nat.mod_lt _ hsp)]; simp
    rw [e2] at this
    simpa [Builtin.zeroCells] using this
theorem step_append_zeros {T TN E s b' by_ sz d r o n cp k : Nat} {kn kq : IntKind} {sn bn : Nat} {zn : Option Value} {z' : Option Value} {zv : Value} {za : AV} {de : TypeDesc} {x y : Operand} {l : List AV} {mk : Int} (hT : TyI P T (.slice E) s z' b') (hN : TyI P TN (.int kn) sn zn bn) (hE : TyI P E de sz (some zv) by_) (hd : Nat.blt d c.nt = true)
    (hx : aeval env x = some (.ownc r sz o n cp)) (hG : G r = some (.row sz l)) (hon : o + n ≤ l.length) (hcp : cp < n + k) (hy : aeval env y = some (.int kq mk)) (hmk : mk = (k : Int)) (hz : zAV zv = za) (hzs : za.cells.length = sz) (hzu : za.isUnk = false) (hsz0 : 0 < sz)
    (hb1 : n + k ≤ 140737488355328) (hb2 : (n + k) * by_ ≤ 140737488355328)
    (h : ∀ p, G p = none → c.w0.heap.size ≤ p → Goal c ((d, .own p sz 0 ((l.drop o).take n ++ List.replicate k za).length) :: env) (G.set p (.row sz ((l.drop o).take n ++ List.replicate k za))) K) :
    Step P c ⟨some d, .call ⟨.builtin .append, #[x, y], #[T, TN]⟩, ty, pos, af, gd⟩ Q env G K := fun a w hs => by
  subst hmk
  obtain ⟨i0, g1, g2, g3, g4, g5⟩ := hE.run_info w
  have hrx := hs.eval hx
  have hry := rep_int (hs.eval hy)
  obtain ⟨C0, T0, os0, rest0, hh0, hle, hC0, hos0⟩ := row_block hs.sim hG
  obtain ⟨os, hos, hol, holds⟩ := run_view_cells hs.sim hG o n hon
  have hvz : zv.cells.size = sz := by have hzr := (zAV_rep G w zv); rw [hz] at hzr; have := (hzr.cells' hzu).1; simp at this; omega
  generalize hv : a.eval x = v at hrx
  cases hrx with
  | ownc _ _ _ _ _ hc hsh =>
    have hdrew : St c env G a w.drew := hs.move (D := fun _ => False) (sim_drew hs.sim) ext_drew (fun _ _ h => h.elim)
    have hby : (n + k) * i0.bytes ≤ 140737488355328 := by rw [g5]; exact hb2
    have hkb : k * i0.bytes ≤ (n + k) * i0.bytes := Nat.mul_le_mul_right _ (by omega)
    have hfirst : (Builtin.firstCells i0.size n (.slice (some ⟨r, o * sz, none⟩) n cp)).run P w.drew = .ok os.toArray w.drew :=
      run_firstCells_some (P := P) w.drew i0.size n ⟨r, o * sz, none⟩ n cp os (by rw [g3]; exact hol) (by simpa using holds)
    have hr := Go.Lib.run_append_grow_zeros (P := P) w T TN ty E i0 zv kq kn hT.und hN.und g2 g4 (some ⟨r, o * sz, none⟩) n cp os hfirst k (by omega) (by omega) hcp (by omega) (by omega) (growslice_fits (by omega) hby)
    have hexec : (execOp a.eval ⟨some d, .call ⟨.builtin .append, #[x, y], #[T, TN]⟩, ty, pos, af, gd⟩).run P w = .ok (.value (.slice (some ⟨w.heap.size, 0, none⟩) (n + k) (grownCap w (n + k) cp E)))
        (w.drew.alloc (.cells (os.toArray ++ Builtin.zeroCells zv.cells k ++ Builtin.zeroCells zv.cells (grownCap w (n + k) cp E - (n + k))) E)) := by
      simp [execOp, resolve, invoke, builtin, hv, hry, hr]
    unfold Oper.wp
    rw [hexec, Oper.upon_value]
    have hge := grownCap_ge w (n + k) cp E
    have hln : ((l.drop o).take n).length = n := by rw [List.length_take, List.length_drop]; omega
    have hze : Even sz (List.replicate k za) := fun y hy => by rw [List.eq_of_mem_replicate hy]; exact hzs
    have hreps : Reps G w.drew (flat ((l.drop o).take n ++ List.replicate k za)) (os ++ (Builtin.zeroCells zv.cells k).toList) := by rw [flat_append]; exact (hos.mono ext_drew).append (reps_zeros hz hzs hzu k)
    have hsz : grownCap w (n + k) cp E * sz ≤ (os.toArray ++ Builtin.zeroCells zv.cells k ++ Builtin.zeroCells zv.cells (grownCap w (n + k) cp E - (n + k))).size := by
      simp only [Array.size_append, List.size_toArray, size_zeroCells, hvz, hol, ← Nat.add_mul]
      exact Nat.mul_le_mul_right _ (by omega)
    have hev : Even sz ((l.drop o).take n ++ List.replicate k za) := ((hle.drop o).take n).append hze
    have h7 := hdrew.newRow (C := os.toArray ++ Builtin.zeroCells zv.cells k ++ Builtin.zeroCells zv.cells (grownCap w (n + k) cp E - (n + k))) (T := E) (cap := grownCap w (n + k) cp E) hd hev
      (vs := os ++ (Builtin.zeroCells zv.cells k).toList) (rest := (Builtin.zeroCells zv.cells (grownCap w (n + k) cp E - (n + k))).toList) (by simp) hreps (by rw [List.length_append, hln, List.length_replicate]; exact hge) hsz
    have h8 := h w.drew.heap.size (hdrew.sim.none (Nat.le_refl _)) hdrew.fresh _ _ h7
    rw [List.length_append, hln, List.length_replicate] at h8
    simpa using h8
theorem step_clear {T E s b' by_ sz r o n : Nat} {z' : Option Value} {zv : Value} {za : AV} {de : TypeDesc} {x : Operand} {l : List AV} (hT : TyI P T (.slice E) s z' b') (hE : TyI P E de sz (some zv) by_)
    (hx : aeval env x = some (.own r sz o n)) (hG : G r = some (.row sz l)) (hon : o + n ≤ l.length) (hz : zAV zv = za) (hzs : za.cells.length = sz) (hzu : za.isUnk = false) (hzc : za.cells.all AV.isCell = true)
    (hD : c.D r ∨ c.w0.heap.size ≤ r) (h : Goal c env (G.set r (.row sz (l.take o ++ List.replicate n za ++ l.drop (o + n)))) K) :
    Step P c ⟨none, .call ⟨.builtin .clear, #[x], #[T]⟩, ty, pos, af, gd⟩ Q env G K := fun a w hs => by
  have hrx := hs.eval hx
  obtain ⟨C, Tc, os, rest, hh, hle, hC, hos⟩ := row_block hs.sim hG
  have hol : os.length = l.length * sz := by rw [← hos.1, flat_len hle]
  have hCs : C.size = os.length + rest.length := by rw [← Array.length_toList, hC]; simp
  have hvz : zv.cells.size = sz := by have hzr := (zAV_rep G w zv); rw [hz] at hzr; have := (hzr.cells' hzu).1; simp at this; omega
  have hvs : Reps G w (flat (List.replicate n za)) (Builtin.zeroCells zv.cells n).toList := reps_zeros hz hzs hzu n
  have hvl : (Builtin.zeroCells zv.cells n).toList.length = n * sz := by simp [size_zeroCells, hvz]
  have hze : Even sz (List.replicate n za) := fun y hy => by rw [List.eq_of_mem_replicate hy]; exact hzs
  have hfit : o * sz + (Builtin.zeroCells zv.cells n).toList.length ≤ C.size := by
    rw [hvl, ← Nat.add_mul, hCs, hol]
    exact Nat.le_trans (Nat.mul_le_mul_right sz hon) (Nat.le_add_right _ _)
  have hone : ∀ u ∈ (Builtin.zeroCells zv.cells n).toList, u.oneCell' = true := hvs.oneCell (List.all_eq_true.2 fun x hx => by
    obtain ⟨y, hy1, hy2⟩ := flat_mem hx
    rw [List.eq_of_mem_replicate hy1] at hy2
    exact List.all_eq_true.1 hzc x hy2)
  generalize hv : a.eval x = v at hrx
  cases hrx with
  | own _ _ _ _ cap hc hsh =>
    have hst := run_storeCells_at P r (o * sz) Tc (Builtin.zeroCells zv.cells n).toList 0 C w hh (by simpa using hfit) hone
    simp only [Nat.add_zero] at hst
    have hset : w.setRow r (C.toList.take (o * sz) ++ (Builtin.zeroCells zv.cells n).toList ++ C.toList.drop (o * sz + (Builtin.zeroCells zv.cells n).toList.length)).toArray = w.setRow r (C.toList.take (o * sz) ++ (Builtin.zeroCells zv.cells n).toList ++ C.toList.drop (o * sz + (Builtin.zeroCells zv.cells n).toList.length)).toArray := rfl
    obtain ⟨hsim, hext⟩ := row_store hs.sim hG hh hle hze hC hos hvs (show o ≤ l.length by omega) hfit
    rw [List.length_replicate] at hsim hext
    by_cases h0 : n = 0
    · subst h0
      have hexec : (execOp a.eval ⟨none, .call ⟨.builtin .clear, #[x], #[T]⟩, ty, pos, af, gd⟩).run P w = .ok (.value (.tuple #[])) w := by
        simp [execOp, resolve, invoke, builtin, hv, Builtin.clear_, hT.run_und]
      unfold Oper.wp
      rw [hexec, Oper.upon_value]
      have e : l.take o ++ List.replicate 0 za ++ l.drop (o + 0) = l := by simp
      rw [e, AHeap.set_same _ _ _ hG] at h
      exact h _ _ hs
    · have hexec : (execOp a.eval ⟨none, .call ⟨.builtin .clear, #[x], #[T]⟩, ty, pos, af, gd⟩).run P w = .ok (.value (.tuple #[])) (w.setRow r (C.toList.take (o * sz) ++ (Builtin.zeroCells zv.cells n).toList ++ C.toList.drop (o * sz + (Builtin.zeroCells zv.cells n).toList.length)).toArray) := by
        cases n with
        | zero => exact absurd rfl h0
        | succ n => simp [execOp, resolve, invoke, builtin, hv, Builtin.clear_, hT.run_und, hE.run_zero, hst]
      unfold Oper.wp
      rw [hexec, Oper.upon_value]
      exact h _ _ (hs.move hsim hext (fun b hb e => by subst e; exact hD.resolve_right (by omega)))
theorem step_copyk {T E T2 s b' by_ sz d r o n : Nat} {z' z : Option Value} {de : TypeDesc} {x y : Operand} {b : AV} {l m : List AV} (hT : TyI P T (.slice E) s z' b') (hE : TyI P E de sz z by_) (hd : Nat.blt d c.nt = true)
    (hx : aeval env x = some (.own r sz o n)) (hG : G r = some (.row sz l)) (hon : o + n ≤ l.length) (hy : aeval env y = some b) (hm : b.view G = some m) (hme : Even sz m) (hcell : ∀ x ∈ m.take (min m.length n), x.cells.all AV.isCell = true)
    (hD : c.D r ∨ c.w0.heap.size ≤ r) (h : Goal c ((d, .int .i64 (min m.length n : Nat)) :: env) (G.set r (.row sz (l.take o ++ m.take (min m.length n) ++ l.drop (o + (m.take (min m.length n)).length)))) K) :
    Step P c ⟨some d, .call ⟨.builtin .copy, #[x, y], #[T, T2]⟩, ty, pos, af, gd⟩ Q env G K := fun a w hs => by
  have hrx := hs.eval hx
  have hry := hs.eval hy
  obtain ⟨k, hk⟩ : ∃ k, k = min m.length n := ⟨_, rfl⟩
  rw [← hk] at h
  obtain ⟨A, cp, vs, hu, hvs, hvl, hrun⟩ := run_first (P := P) hs.sim hry hm hme k (by omega)
  obtain ⟨C, Tc, os, rest, hh, hle, hC, hos⟩ := row_block hs.sim hG
  have hol : os.length = l.length * sz := by rw [← hos.1, flat_len hle]
  have hCs : C.size = os.length + rest.length := by rw [← Array.length_toList, hC]; simp
  have hfit : o * sz + vs.length ≤ C.size := by
    rw [hvl, ← Nat.add_mul, hCs, hol]
    exact Nat.le_trans (Nat.mul_le_mul_right sz (show o + k ≤ l.length by omega)) (Nat.le_add_right _ _)
  have hmk : Even sz (m.take k) := hme.take k
  have hone : ∀ u ∈ vs, u.oneCell' = true := hvs.oneCell (List.all_eq_true.2 fun x hx => by
    obtain ⟨y, hy1, hy2⟩ := flat_mem hx
    exact List.all_eq_true.1 (hcell y (by rw [← hk]; exact hy1)) x hy2)
  generalize hv : a.eval x = v at hrx
  cases hrx with
  | own _ _ _ _ cap hc hsh =>
    have hst := run_storeCells_at P r (o * sz) Tc vs 0 C w hh (by simpa using hfit) hone
    simp only [Nat.add_zero] at hst
    have hlen : (Builtin.lenOf (a.eval y)).run P w = .ok m.length w := by rw [hu]; simp [Builtin.lenOf]
    have hcopy : (Builtin.copy_ #[T, T2] ty #[.slice (some ⟨r, o * sz, none⟩) n cap, a.eval y]).run P w = .ok (.int .i64 (k : Int)) (w.setRow r (C.toList.take (o * sz) ++ vs ++ C.toList.drop (o * sz + vs.length)).toArray) := by
      have hkk : Nat.min m.length n = k := hk.symm
      simp [Builtin.copy_, hT.run_und, hE.run_size, hlen, hkk, hrun, hst, goInt]
    have hexec : (execOp a.eval ⟨some d, .call ⟨.builtin .copy, #[x, y], #[T, T2]⟩, ty, pos, af, gd⟩).run P w = .ok (.value (.int .i64 (k : Int))) (w.setRow r (C.toList.take (o * sz) ++ vs ++ C.toList.drop (o * sz + vs.length)).toArray) := by
      have e : #[x, y].map a.eval = #[.slice (some ⟨r, o * sz, none⟩) n cap, a.eval y] := by simp [hv]
      simp [execOp, resolve, invoke, builtin, hv, hcopy]
    unfold Oper.wp
    rw [hexec, Oper.upon_value]
    obtain ⟨hsim, hext⟩ := row_store hs.sim hG hh hle hmk hC hos hvs (show o ≤ l.length by omega) hfit
    exact h _ _ ((hs.move hsim hext (fun b hb e => by subst e; exact hD.resolve_right (by omega))).put hd (.int _ _))
/-- slices.overlaps, by the facts of its row. -/
structure OvI (P : Program) (f : FuncId) (T : TypeId) : Prop where
  fn : ∃ (fn : Func) (tR : TypeId), P.funcs[f]? = some fn ∧ (fn.name == "runtime.NumGoroutine") = false ∧ fn.body.isNone = true ∧ Extern.findNext fn = none ∧ Extern.find fn = some (Extern.SlicesOverlaps.overlaps #[T, T] #[tR])
theorem frozen_no {w : World} {r off : Nat} {C : Array Value} {T : TypeId} (h : w.heap[r]? = some (.cells C T (0, 0))) : w.frozen? ⟨r, off, none⟩ = false := by
  simp [World.frozen?, h]
theorem val_overlaps {T E f s b' by_ sz r o n r2 o2 n2 cp2 : Nat} {z z' : Option Value} {de : TypeDesc} {x y : Operand} {at_ : Array TypeId} {l m : List AV} (hf : OvI P f T) (hT : TyI P T (.slice E) s z' b') (hE : TyI P E de sz z by_)
    (hx : aeval env x = some (.own r sz o n)) (hy : aeval env y = some (.ownc r2 sz o2 n2 cp2)) (hG : G r = some (.row sz l)) (hG2 : G r2 = some (.row sz m)) (hne : r ≠ r2) (hn2 : 0 < n2) (hsz : 0 < sz) :
    ValM true P c ⟨dst, .call ⟨.value (.func f), #[x, y], at_⟩, ty, pos, af, gd⟩ env G (.bool false) := fun a w hs => by
  obtain ⟨fn, tR, h1, h2, h3, h4, h5⟩ := hf.fn
  have hrx := hs.eval hx
  have hry := hs.eval hy
  obtain ⟨C, Tc, os, rest, hh, hle, hC, hos⟩ := row_block hs.sim hG
  obtain ⟨C2, Tc2, os2, rest2, hh2, hle2, hC2, hos2⟩ := row_block hs.sim hG2
  generalize hu : a.eval x = u at hrx
  generalize hv : a.eval y = v at hry
  cases hrx with
  | own _ _ _ _ cp hc hsh =>
    cases hry with
    | ownc _ _ _ _ _ hc2 hsh2 =>
      refine ⟨.bool false, .bool _, fun w' hw' => ?_⟩
      have hsm := hw' rfl
      have hl1 : r < w.heap.size := hs.sim.lt hG
      have hl2 : r2 < w.heap.size := hs.sim.lt hG2
      have hh' := (hsm.2 r hl1).trans hh
      have hh2' := (hsm.2 r2 hl2).trans hh2
      obtain ⟨T', N, g1, g2⟩ := hsh2
      have hN : N = C2.size := by unfold World.shape? at g1; rw [hh2] at g1; simp at g1; exact g1.2.symm
      have hpos : 0 < (o2 + cp2) * sz := Nat.mul_pos (by omega) hsz
      have hrun := Go.Lib.run_overlaps_apart (P := P) w' T tR E hT.und sz (fun w => hE.run_size w) ⟨r, o * sz, none⟩ ⟨r2, o2 * sz, none⟩ n cp n2 cp2 hne Tc Tc2 C.size C2.size
        (by simp [World.shape?, hh']) (by simp [World.shape?, hh2']) (by omega) (frozen_no hh') (frozen_no hh')
      have hcall := run_callFunc_extern (P := P) h1 h2 h3 h4 h5 #[.slice (some ⟨r, o * sz, none⟩) n cp, .slice (some ⟨r2, o2 * sz, none⟩) n2 cp2] w'
      rw [hrun] at hcall
      have e : #[x, y].map a.eval = #[.slice (some ⟨r, o * sz, none⟩) n cp, .slice (some ⟨r2, o2 * sz, none⟩) n2 cp2] := by simp [hu, hv]
      have hfe : a.eval (.func f) = .func (.func f) #[] #[] := rfl
      simp [execOp, resolve, Deferred.ofValue, invoke, hfe, hu, hv, hcall]
end
section
variable {md : Bool} {P : Program} {c : Ctx} {env B : Env} {L : LPtr} {G : AHeap} {dst : Option Tmp} {ty : TypeId} {pos : String} {af : Array Edge} {gd : Option (Nat × Bool)} {Q : Exit → Act → World → Prop} {K : Act → World → Prop}
theorem g_cap {r sz o n : Nat} (t : Nat) (ht : ev env L (.tmp t) = some (.own r sz o n)) (h : ∀ cp, n ≤ cp → GoalL c ((t, .ownc r sz o n cp) :: env) (ldel L t) B G K) : GoalL c env L B G K := fun ρ hρ a w hs => by
  have hr := hs.rep t _ (by have := ev_full (ρ := ρ) ht; exact this)
  have key : ∃ cp, n ≤ cp ∧ Rep (boxes ρ G B) w (.ownc r sz o n cp) (a.tmps.getD t undef) := by
    generalize a.tmps.getD t undef = v at hr
    cases hr with
    | own _ _ _ _ cp hc hsh => exact ⟨cp, hc, .ownc _ _ _ _ _ hc hsh⟩
  obtain ⟨cp, hc, hr'⟩ := key
  refine Goal.env full_put (h cp hc ρ hρ) a w ⟨hs.sim, fun t' v hv => ?_, hs.size, hs.dfr, hs.ext⟩
  simp only [Env.get] at hv
  cases hb : Nat.beq t t' with
  | true => rw [hb] at hv; injection hv with hv; rw [← hv, ← Nat.eq_of_beq_eq_true hb]; exact hr'
  | false => rw [hb] at hv; exact hs.rep t' v hv
theorem g_room {r sz o n cp : Nat} {l : List AV} (t k : Nat) (ht : ev env L (.tmp t) = some (.ownc r sz o n cp)) (hG : G r = some (.row sz l)) (hl : l.length = o + n) (hk : n + k ≤ cp)
    (h : GoalL c env L B (G.set r (.row sz (l ++ List.replicate k (unkE sz)))) K) : GoalL c env L B G K := fun ρ hρ a w hs => by
  have hr := hs.rep t _ (by have := ev_full (ρ := ρ) ht; exact this)
  have hGb := boxes_sub hρ _ _ hG
  have hne : ∀ s v, B.get s = some v → r ≠ ρ s := fun s v hv e => by have := (hρ.fresh s v hv).1; rw [← e, hG] at this; cases this
  obtain ⟨h3, h4⟩ := boxes_setG (x := .row sz (l ++ List.replicate k (unkE sz))) hρ hne
  have he : Ext (boxes ρ G B) w (fun _ => False) ((boxes ρ G B).set r (.row sz (l ++ List.replicate k (unkE sz)))) w := ext_know hGb
  have hsim := sim_room (t := t) hs.sim hGb hl hk hr
  have h5 := hs.move hsim he (fun _ _ h => h.elim)
  rw [h4] at h5
  exact h ρ h3 a w h5
theorem v_cap {T E r sz o n cp : Nat} {s b' : Nat} {z : Option Value} {x : Operand} (hT : TyI P T (.slice E) s z b') (hx : ev env L x = some (.ownc r sz o n cp)) :
    ValLM md P c ⟨dst, .call ⟨.builtin .cap, #[x], #[T]⟩, ty, pos, af, gd⟩ env L B G (.int .i64 (cp : Int)) := fun ρ hρ => val_cap hT (ev_full hx)
theorem v_slice_ownc {T E : TypeId} {d : TypeDesc} {sz by_ s b' lo hi r o n cp : Nat} {z z' : Option Value} {x : Operand} {low high : Option Operand} {m1 m2 : Int} (hT : TyI P T (.slice E) s z' b') (hE : TyI P E d sz z by_)
    (hx : ev env L x = some (.ownc r sz o n cp)) (hlo : evb env L 0 low = some m1) (hhi : evb env L (n : Int) high = some m2) (h1 : m1 = (lo : Int)) (h2 : m2 = (hi : Int)) (hle : lo ≤ hi) (hc : hi ≤ cp) (hne : lo = 0 ∨ lo < cp) :
    ValLM md P c ⟨dst, .slice T x low high none, ty, pos, af, gd⟩ env L B G (.ownc r sz (o + lo) (hi - lo) (cp - lo)) := fun ρ hρ => val_slice_ownc hT hE (ev_full hx) (evb_full hlo) (evb_full hhi) h1 h2 hle hc hne
theorem v_slice_ownc' {T E : TypeId} {d : TypeDesc} {sz by_ s b' lo hi r o n cp : Nat} {z z' : Option Value} {x : Operand} {low high : Option Operand} {m1 m2 : Int} (hT : TyI P T (.slice E) s z' b') (hE : TyI P E d sz z by_)
    (hx : ev env L x = some (.ownc r sz o n cp)) (hlo : evb env L 0 low = some m1) (hhi : evb env L (n : Int) high = some m2) (h1 : m1 = (lo : Int)) (h2 : m2 = (hi : Int)) (hle : lo ≤ hi) (hc : hi ≤ cp) (hne : lo = 0 ∨ lo < cp) :
    ValLM md P c ⟨dst, .slice T x low high none, ty, pos, af, gd⟩ env L B G (.own r sz (o + lo) (hi - lo)) := v_sub (v_slice_ownc hT hE hx hlo hhi h1 h2 hle hc hne) (ASub.ownc _ _ _ _ _)
theorem v_move_ownc {x : Operand} {r sz o n cp : Nat} (hx : ev env L x = some (.ownc r sz o n cp)) : ValLM md P c ⟨dst, .move x, ty, pos, af, gd⟩ env L B G (.own r sz o n) := v_sub (v_move hx) (ASub.ownc _ _ _ _ _)
theorem boxes_setR {ρ : Nat → Nat} (hρ : Good c G B ρ) {r : Nat} {x y : ARow} (hG : G r = some y) : Good c (G.set r x) B ρ ∧ (boxes ρ G B).set r x = boxes ρ (G.set r x) B :=
  boxes_setG hρ (fun s v hv e => by have := (hρ.fresh s v hv).1; rw [← e, hG] at this; cases this)
theorem s_append_in {T E s b' by_ sz d r o n cp : Nat} {z' z : Option Value} {de : TypeDesc} {x y : Operand} {b : AV} {l m l' : List AV} (hT : TyI P T (.slice E) s z' b') (hE : TyI P E de sz z by_) (hd : Nat.blt d c.nt = true)
    (hx : ev env L x = some (.ownc r sz o n cp)) (hG : G r = some (.row sz l)) (hon : o + n + m.length ≤ l.length) (hcp : n + m.length ≤ cp) (hy : ev env L y = some b) (hm : b.view G = some m) (hme : Even sz m) (hcell : ∀ x ∈ m, x.cells.all AV.isCell = true)
    (hD : c.D r ∨ c.w0.heap.size ≤ r) (hl' : l.take (o + n) ++ m ++ l.drop (o + n + m.length) = l') (h : GoalL c ((d, .ownc r sz o (n + m.length) cp) :: env) (ldel L d) B (G.set r (.row sz l')) K) :
    StepL P c ⟨some d, .call ⟨.builtin .append, #[x, y], #[T, T]⟩, ty, pos, af, gd⟩ Q env L B G K := fun ρ hρ => by
  subst hl'
  obtain ⟨h3, h4⟩ := boxes_setR (x := .row sz (l.take (o + n) ++ m ++ l.drop (o + n + m.length))) hρ hG
  refine step_append_in hT hE hd (ev_full hx) (boxes_sub hρ _ _ hG) hon hcp (ev_full hy) (view_sub (boxes_sub hρ) hm) hme hcell hD ?_
  rw [h4]
  exact Goal.env full_put (h ρ h3)
theorem s_append_out {T E s b' by_ sz d r o n cp : Nat} {z' : Option Value} {zv : Value} {de : TypeDesc} {x y : Operand} {b : AV} {l m l' : List AV} (hT : TyI P T (.slice E) s z' b') (hE : TyI P E de sz (some zv) by_) (hd : Nat.blt d c.nt = true)
    (hx : ev env L x = some (.ownc r sz o n cp)) (hG : G r = some (.row sz l)) (hon : o + n ≤ l.length) (hcp : cp < n + m.length) (hy : ev env L y = some b) (hm : b.view G = some m) (hme : Even sz m)
    (hzs : zv.cells.size = sz) (hb1 : n + m.length ≤ 140737488355328) (hb2 : (n + m.length) * by_ ≤ 140737488355328) (hl' : (l.drop o).take n ++ m = l')
    (h : ∀ p, G p = none → c.w0.heap.size ≤ p → GoalL c ((d, .own p sz 0 l'.length) :: env) (ldel L d) B (G.set p (.row sz l')) K) :
    StepL P c ⟨some d, .call ⟨.builtin .append, #[x, y], #[T, T]⟩, ty, pos, af, gd⟩ Q env L B G K := fun ρ hρ => by
  subst hl'
  exact step_append_out hT hE hd (ev_full hx) (boxes_sub hρ _ _ hG) hon hcp (ev_full hy) (view_sub (boxes_sub hρ) hm) hme hzs hb1 hb2 fun p hp hn =>
    Goal.env full_put (goal_set hρ hp (h p (sub_none (boxes_sub hρ) hp) hn))
theorem s_append_zeros {T TN E s b' by_ sz d r o n cp k : Nat} {kn kq : IntKind} {sn bn : Nat} {zn : Option Value} {z' : Option Value} {zv : Value} {za : AV} {de : TypeDesc} {x y : Operand} {l l' : List AV} {mk : Int} (hT : TyI P T (.slice E) s z' b') (hN : TyI P TN (.int kn) sn zn bn) (hE : TyI P E de sz (some zv) by_) (hd : Nat.blt d c.nt = true)
    (hx : ev env L x = some (.ownc r sz o n cp)) (hG : G r = some (.row sz l)) (hon : o + n ≤ l.length) (hcp : cp < n + k) (hy : ev env L y = some (.int kq mk)) (hmk : mk = (k : Int)) (hz : zAV zv = za) (hzs : za.cells.length = sz) (hzu : za.isUnk = false) (hsz0 : Nat.blt 0 sz = true)
    (hb1 : n + k ≤ 140737488355328) (hb2 : (n + k) * by_ ≤ 140737488355328) (hl' : (l.drop o).take n ++ List.replicate k za = l')
    (h : ∀ p, G p = none → c.w0.heap.size ≤ p → GoalL c ((d, .own p sz 0 l'.length) :: env) (ldel L d) B (G.set p (.row sz l')) K) :
    StepL P c ⟨some d, .call ⟨.builtin .append, #[x, y], #[T, TN]⟩, ty, pos, af, gd⟩ Q env L B G K := fun ρ hρ => by
  subst hl'
  exact step_append_zeros hT hN hE hd (ev_full hx) (boxes_sub hρ _ _ hG) hon hcp (ev_full hy) hmk hz hzs hzu (Nat.le_of_ble_eq_true hsz0) hb1 hb2 fun p hp hn =>
    Goal.env full_put (goal_set hρ hp (h p (sub_none (boxes_sub hρ) hp) hn))
theorem s_clear {T E s b' by_ sz r o n : Nat} {z' : Option Value} {zv : Value} {za : AV} {de : TypeDesc} {x : Operand} {l l' : List AV} (hT : TyI P T (.slice E) s z' b') (hE : TyI P E de sz (some zv) by_)
    (hx : ev env L x = some (.own r sz o n)) (hG : G r = some (.row sz l)) (hon : o + n ≤ l.length) (hz : zAV zv = za) (hzs : za.cells.length = sz) (hzu : za.isUnk = false) (hzc : za.cells.all AV.isCell = true)
    (hD : c.D r ∨ c.w0.heap.size ≤ r) (hl' : l.take o ++ List.replicate n za ++ l.drop (o + n) = l') (h : GoalL c env L B (G.set r (.row sz l')) K) :
    StepL P c ⟨none, .call ⟨.builtin .clear, #[x], #[T]⟩, ty, pos, af, gd⟩ Q env L B G K := fun ρ hρ => by
  subst hl'
  obtain ⟨h3, h4⟩ := boxes_setR (x := .row sz (l.take o ++ List.replicate n za ++ l.drop (o + n))) hρ hG
  refine step_clear hT hE (ev_full hx) (boxes_sub hρ _ _ hG) hon hz hzs hzu hzc hD ?_
  rw [h4]
  exact h ρ h3
theorem s_copyk {T E T2 s b' by_ sz d r o n k : Nat} {z' z : Option Value} {de : TypeDesc} {x y : Operand} {b : AV} {l m l' : List AV} (hT : TyI P T (.slice E) s z' b') (hE : TyI P E de sz z by_) (hd : Nat.blt d c.nt = true)
    (hx : ev env L x = some (.own r sz o n)) (hG : G r = some (.row sz l)) (hon : o + n ≤ l.length) (hy : ev env L y = some b) (hm : b.view G = some m) (hme : Even sz m) (hcell : ∀ x ∈ m.take k, x.cells.all AV.isCell = true)
    (hD : c.D r ∨ c.w0.heap.size ≤ r) (hk : k = min m.length n) (hl' : l.take o ++ m.take k ++ l.drop (o + k) = l') (h : GoalL c ((d, .int .i64 (k : Nat)) :: env) (ldel L d) B (G.set r (.row sz l')) K) :
    StepL P c ⟨some d, .call ⟨.builtin .copy, #[x, y], #[T, T2]⟩, ty, pos, af, gd⟩ Q env L B G K := fun ρ hρ => by
  have hne : ∀ s v, B.get s = some v → r ≠ ρ s := fun s v hv e => by have := (hρ.fresh s v hv).1; rw [← e, hG] at this; cases this
  obtain ⟨h3, h4⟩ := boxes_setG (x := .row sz l') hρ hne
  refine step_copyk hT hE hd (ev_full hx) (boxes_sub hρ _ _ hG) hon (ev_full hy) (view_sub (boxes_sub hρ) hm) hme (by rw [← hk]; exact hcell) hD ?_
  have e : (m.take (min m.length n)).length = k := by rw [List.length_take, hk]; omega
  rw [e, ← hk, hl', h4]
  exact Goal.env full_put (h ρ h3)
theorem v_overlaps {T E f s b' by_ sz r o n r2 o2 n2 cp2 : Nat} {z z' : Option Value} {de : TypeDesc} {x y : Operand} {at_ : Array TypeId} {l m : List AV} (hf : OvI P f T) (hT : TyI P T (.slice E) s z' b') (hE : TyI P E de sz z by_)
    (hx : ev env L x = some (.own r sz o n)) (hy : ev env L y = some (.ownc r2 sz o2 n2 cp2)) (hG : G r = some (.row sz l)) (hG2 : G r2 = some (.row sz m)) (hne : r ≠ r2) (hn2 : 0 < n2) (hsz : Nat.blt 0 sz = true) :
    ValLM true P c ⟨dst, .call ⟨.value (.func f), #[x, y], at_⟩, ty, pos, af, gd⟩ env L B G (.bool false) := fun ρ hρ => val_overlaps hf hT hE (ev_full hx) (ev_full hy) (boxes_sub hρ _ _ hG) (boxes_sub hρ _ _ hG2) hne hn2 (Nat.le_of_ble_eq_true hsz)
end
end Go.Proofs.Ytgedefcjngofkaa.AM

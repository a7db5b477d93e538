/- The abstract machine, part 10: rows of the call's own: literals, append, stores, copies, slicing; and lists that nobody writes any more. -/
import Derived.Test.YtgedefcjngofkaaAm9
import Derived.Laws.AppendOwn
set_option linter.unusedVariables false
set_option linter.unusedSimpArgs false
namespace Go.Proofs.Ytgedefcjngofkaa.AM
open Go

/-- A listed row's block and its cells. -/
theorem row_block {G : AHeap} {w : World} {r sz : Nat} {l : List AV} (hs : Sim G w) (h : G r = some (.row sz l)) : ∃ C T vs rest, w.heap[r]? = some (.cells C T (0, 0)) ∧ Even sz l ∧ C.toList = vs ++ rest ∧ Reps G w (flat l) vs := row_flat (hs r _ h)

theorem flat_mem {l : List AV} {x : AV} (h : x ∈ flat l) : ∃ y ∈ l, x ∈ y.cells := by simpa [flat, List.mem_flatMap] using h

/-- The cells that a slice shows, as values. -/
theorem view_cells {G : AHeap} {w : World} {b : AV} {v : Value} {l : List AV} {sz : Nat} (hs : Sim G w) (hr : Rep G w b v) (hv : b.view G = some l) (he : Even sz l) (h0 : 0 < l.length) :
    ∃ ad c vs, v = .slice (some ad) l.length c ∧ Reps G w (flat l) vs ∧ vs.length = l.length * sz ∧ ∀ j u, vs[j]? = some u → w.cell? (ad.add j) = some u := by
  obtain ⟨ad, c, h1, _, _⟩ := view_at hs hr hv h0
  have hall : ∀ k (hk : k < l.length) j (hj : j < l[k].cells.length), ∃ u, w.cell? (ad.add (k * sz + j)) = some u ∧ Rep G w l[k].cells[j] u := fun k hk j hj => by
    obtain ⟨ad', c', h1', _, h3⟩ := view_at hs hr hv hk
    rw [h1] at h1'
    injection h1' with ha
    injection ha with ha
    subst ha
    obtain ⟨u, hu, hru⟩ := h3 j hj
    rw [add_add, he _ (List.getElem_mem hk)] at hu
    exact ⟨u, hu, hru⟩
  have hfl := flat_len he
  have hex : ∀ i, ∃ u, ∀ (hi : i < (flat l).length), w.cell? (ad.add i) = some u ∧ Rep G w (flat l)[i] u := fun i => by
    by_cases hi : i < (flat l).length
    · have hs0 : 0 < sz := by
        rcases Nat.eq_zero_or_pos sz with h0 | h0
        · subst h0; rw [hfl] at hi; simp at hi
        · exact h0
      have hk : i / sz < l.length := (Nat.div_lt_iff_lt_mul hs0).2 (by omega)
      have hj : i % sz < l[i / sz].cells.length := by rw [he _ (List.getElem_mem hk)]; exact Nat.mod_lt _ hs0
      have hkk : i / sz * sz + i % sz = i := by rw [Nat.mul_comm]; exact Nat.div_add_mod i sz
      obtain ⟨u, hu, hru⟩ := hall (i / sz) hk (i % sz) hj
      rw [hkk] at hu
      have := flat_get he (i / sz) hk (i % sz) hj (by rw [hkk]; exact hi)
      simp only [hkk] at this
      exact ⟨u, fun _ => ⟨hu, by rw [this]; exact hru⟩⟩
    · exact ⟨undef, fun h => absurd h hi⟩
  obtain ⟨u, hu⟩ := Classical.axiomOfChoice hex
  have hgl : ((List.range (flat l).length).map u).length = (flat l).length := by simp
  refine ⟨ad, c, (List.range (flat l).length).map u, h1, ⟨hgl.symm, fun i h1 h2 => by simpa using (hu i h1).2⟩, by rw [hgl, hfl], fun j x hj => ?_⟩
  have hjl : j < (flat l).length := by
    rcases Nat.lt_or_ge j (flat l).length with h' | h'
    · exact h'
    · rw [List.getElem?_eq_none (by simp; omega)] at hj; cases hj
  simp [hjl] at hj
  subst hj
  exact (hu j hjl).1

/-- A list that nobody writes any more, out of a row of the call's own. -/
theorem rep_freeze {H M : AHeap} {w : World} {r sz o n : Nat} {l : List AV} {v : Value} (hs : Sim M w) (hr : M r = some (.row sz l)) (hl : o + n ≤ l.length) (h : Rep M w (.own r sz o n) v) (hsub : H.sub M) (hn : H r = none) :
    Rep H w (.imm ((l.drop o).take n)) v := by
  obtain ⟨C, T, hh, hle, hsz, hc⟩ := hs r _ hr
  cases h with
  | own _ _ _ _ c hc' hsh =>
    have hex : ∀ i j, ∃ u, ∀ (hi : i < ((l.drop o).take n).length) (hj : j < sz), w.cell? ((⟨r, o * sz, none⟩ : Addr).add (i * sz + j)) = some u ∧
        ∀ (hj : j < ((l.drop o).take n)[i].cells.length), Rep H w (((l.drop o).take n)[i].cells[j]) u := fun i j => by
      by_cases hi : i < ((l.drop o).take n).length
      · by_cases hj : j < sz
        · have hil : o + i < l.length := by simp at hi; omega
          have hel : ((l.drop o).take n)[i] = l[o + i] := by simp
          obtain ⟨u, hu, hru⟩ := hc (o + i) hil j (by rw [hsz _ hil]; exact hj)
          refine ⟨u, fun _ _ => ⟨?_, fun hj' => ?_⟩⟩
          · rw [add_mk, ← Nat.add_assoc, ← Nat.add_mul]
            simp [World.cell?, hh, hu]
          · simp only [hel] at hj' ⊢
            exact hru.mono (Ext.forget w hsub)
        · exact ⟨undef, fun _ h => absurd h hj⟩
      · exact ⟨undef, fun h => absurd h hi⟩
    obtain ⟨u, hu⟩ := Classical.axiomOfChoice fun i => Classical.axiomOfChoice (hex i)
    have hlen : ((l.drop o).take n).length = n := by simp; omega
    have hszi : ∀ i (h : i < ((l.drop o).take n).length), ((l.drop o).take n)[i].cells.length = sz := fun i h => by
      have : o + i < l.length := by simp at h; omega
      simpa using hsz (o + i) this
    have := Rep.imm (G := H) (w := w) ((l.drop o).take n) ⟨r, o * sz, none⟩ c sz u (by rw [hlen]; exact hc') hn (shape_lt hsh.choose_spec.choose_spec.1) hszi
      (fun i j hi hj => (hu i j hi hj).1) (fun i hi j hj => (hu i j hi (by rw [← hszi i hi]; exact hj)).2 hj)
    rw [hlen] at this
    exact this

section
variable {md : Bool} {P : Program} {c : Ctx} {env : Env} {G : AHeap} {dst : Option Tmp} {ty : TypeId} {pos : String} {af : Array Edge} {gd : Option (Nat × Bool)} {Q : Exit → Act → World → Prop} {K : Act → World → Prop}

/-- A new list that nobody will write. -/
theorem steps_newImm {o : Oper} {d : Nat} {l : List AV} {sz : Nat} (ho : o.dst = some d) (hd : Nat.blt d c.nt = true) (he : Even sz l)
    (hrun : ∀ a w, St c env G a w → ∃ C T, Reps G w (flat l) C.toList ∧ (execOp a.eval o).run P w = .ok (.value (.slice (some ⟨w.heap.size, 0, none⟩) l.length l.length)) (w.alloc (.cells C T)))
    (h : Goal c ((d, .imm l) :: env) G K) : StepS P c o Q env G K := fun a w hs => by
  obtain ⟨C, T, hr, hrun⟩ := hrun a w hs
  unfold Oper.wp
  rw [hrun, Oper.upon_value, ho]
  have hC : C.size = l.length * sz := by have := hr.1; rw [flat_len he] at this; simpa using this.symm
  have h1 := hs.newRow (C := C) hd he (rest := []) (T := T) (by simp) hr (Nat.le_refl _) (by omega)
  have hx : Ext G w (fun _ => False) G (w.alloc (.cells C T)) := ext_alloc' _
  refine ⟨same_alloc w _, h _ _ ((hs.move (sim_alloc' hs.sim _) hx (fun _ _ h => h.elim)).put hd ?_)⟩
  have hrow : (G.set w.heap.size (.row sz l)) w.heap.size = some (.row sz l) := AHeap.get_set _ _ _
  have hown := Rep.own (G := G.set w.heap.size (.row sz l)) (w := w.alloc (.cells C T)) w.heap.size sz 0 l.length l.length (Nat.le_refl _) ⟨T, C.size, by unfold World.shape?; rw [heap_alloc_new'], by simp; omega⟩
  have := rep_freeze (H := G) h1.sim hrow (by simp) hown (AHeap.sub_set (AHeap.sub_refl _) (hs.sim.none (Nat.le_refl _))) (hs.sim.none (Nat.le_refl _))
  simpa using this

/-- Cells stored into a listed row, from element p on. -/
theorem row_store {w : World} {r sz p : Nat} {l m : List AV} {C : Array Value} {T : TypeId} {vs rest us : List Value} (hs : Sim G w) (hr : G r = some (.row sz l)) (hh : w.heap[r]? = some (.cells C T (0, 0))) (he : Even sz l) (hm : Even sz m)
    (hC : C.toList = vs ++ rest) (hvs : Reps G w (flat l) vs) (hus : Reps G w (flat m) us) (hp : p ≤ l.length) (hfit : p * sz + us.length ≤ C.size) :
    let C' := (C.toList.take (p * sz) ++ us ++ C.toList.drop (p * sz + us.length)).toArray
    Sim (G.set r (.row sz (l.take p ++ m ++ l.drop (p + m.length)))) (w.setRow r C') ∧ Ext G w (fun b => b = r) (G.set r (.row sz (l.take p ++ m ++ l.drop (p + m.length)))) (w.setRow r C') := by
  intro C'
  have hsize : C'.size = C.size := by simp [C']; omega
  have hne : G r ≠ none := by rw [hr]; simp
  have hx := ext_setRow (y := .row sz (l.take p ++ m ++ l.drop (p + m.length))) hh hsize hne
  have hvl : vs.length = l.length * sz := by rw [← hvs.1, flat_len he]
  have hul : us.length = m.length * sz := by rw [← hus.1, flat_len hm]
  have hpsz : p * sz ≤ vs.length := by rw [hvl]; exact Nat.mul_le_mul_right _ hp
  have hcl : C.size = vs.length + rest.length := by rw [← Array.length_toList, hC]; simp
  refine ⟨sim_setRow hs hh hsize hne ?_, hx⟩
  refine row_mk (C := C') (T := T) (vs := vs.take (p * sz) ++ us ++ vs.drop (p * sz + us.length)) (rest := rest.drop (p * sz + us.length - vs.length)) (setRow_heap w r C _ T _ hh) ((he.take p |>.append hm).append (he.drop _)) ?_ ?_
  · simp only [C', hC, List.append_assoc]
    rw [List.take_append_of_le_length hpsz, List.drop_append]
  · have h1 := ((hvs.take (p * sz)).append hus).append (hvs.drop (p * sz + us.length))
    have e : flat (l.take p ++ m ++ l.drop (p + m.length)) = (flat l).take (p * sz) ++ flat m ++ (flat l).drop (p * sz + us.length) := by
      rw [flat_append, flat_append, flat_take he, flat_drop he, hul, ← Nat.add_mul]
    rw [e]
    exact h1.mono hx

/-- What is behind append: nil, or a row of the call's own. -/
def Own (n0 sz : Nat) (H : AHeap) (av : AV) (l : List AV) (G : AHeap) : Prop :=
  (av = .nil0 ∧ l = [] ∧ G = H) ∨ ∃ r, H r = none ∧ n0 ≤ r ∧ av = .own r sz 0 l.length ∧ G = H.set r (.row sz l)
theorem Own.nil (n0 sz : Nat) (H : AHeap) : Own n0 sz H .nil0 [] H := .inl ⟨rfl, rfl, rfl⟩
theorem Own.view {n0 sz : Nat} {H G : AHeap} {av : AV} {l : List AV} (h : Own n0 sz H av l G) : av.view G = some l := by
  rcases h with ⟨rfl, rfl, rfl⟩ | ⟨r, _, _, rfl, rfl⟩
  · rfl
  · exact AV.view_own_all (AHeap.get_set _ _ _) rfl
theorem Own.sub {n0 sz : Nat} {H G : AHeap} {av : AV} {l : List AV} (h : Own n0 sz H av l G) : H.sub G := by
  rcases h with ⟨rfl, rfl, rfl⟩ | ⟨r, h1, _, rfl, rfl⟩
  · exact AHeap.sub_refl _
  · exact AHeap.sub_set (AHeap.sub_refl _) h1

theorem run_append_zero {T E s b' by_ sz n cp m : Nat} {z z' : Option Value} {d : TypeDesc} {A A' : Option Addr} {tyy : TypeId} (hT : TyI P T (.slice E) s z' b') (hE : TyI P E d sz z by_) (hn : n ≤ cp) (w : World) :
    (Builtin.append_ #[T, T] tyy #[.slice A n cp, .slice A' 0 m]).run P w = .ok (.slice A n cp) w := by
  have h1 : ∀ w, (Builtin.firstCells sz 0 (.slice A' 0 m)).run P w = .ok #[] w := fun w => by
    cases A' <;> simp [Builtin.firstCells, loadCells, loadCellsFrom]
  cases A <;> simp [Builtin.append_, hT.run_und, hE.run_size, Builtin.lenOf, hn, h1, storeCells]

theorem append_exec {a : Act} {x y : Operand} {T : TypeId} {v u v' : Value} {w w' : World} (hx : a.eval x = v) (hy : a.eval y = u) (h : (Builtin.append_ #[T, T] ty #[v, u]).run P w = .ok v' w') :
    (execOp a.eval ⟨dst, .call ⟨.builtin .append, #[x, y], #[T, T]⟩, ty, pos, af, gd⟩).run P w = .ok (.value v') w' := by
  simp [execOp, resolve, invoke, builtin, hx, hy, h]

theorem sub_set_set {H M : AHeap} (h : H.sub M) (r : Nat) (x : ARow) : (H.set r x).sub (M.set r x) := fun b y hb => by
  by_cases e : b = r
  · subst e; rw [AHeap.get_set] at hb ⊢; exact hb
  · rw [AHeap.get_set_ne _ _ e] at hb ⊢; exact h b y hb
theorem sub_of_set {H M : AHeap} (h : H.sub M) {r : Nat} {x : ARow} (hr : M r = some x) : (H.set r x).sub M := fun b y hb => by
  by_cases e : b = r
  · subst e; rw [AHeap.get_set] at hb; rw [hr]; exact hb
  · rw [AHeap.get_set_ne _ _ e] at hb; exact h b y hb

/-- append: behind it a row of the call's own that holds both. -/
theorem step_append {T E s b' by_ sz d : Nat} {z' : Option Value} {zv : Value} {de : TypeDesc} {x y : Operand} {av b : AV} {l m : List AV} {H : AHeap} (hT : TyI P T (.slice E) s z' b') (hE : TyI P E de sz (some zv) by_) (hd : Nat.blt d c.nt = true)
    (hx : aeval env x = some av) (hH : H.sub G) (hown : (av = .nil0 ∧ l = []) ∨ ∃ r, H r = none ∧ c.w0.heap.size ≤ r ∧ av = .own r sz 0 l.length ∧ G r = some (.row sz l)) (hy : aeval env y = some b) (hm : b.view G = some m) (hme : Even sz m)
    (hcell : ∀ x ∈ m, x.cells.all AV.isCell = true) (hzs : zv.cells.size = sz) (hb1 : l.length + m.length ≤ 140737488355328) (hb2 : (l.length + m.length) * by_ ≤ 140737488355328)
    (hn : l ++ m = [] → Goal c ((d, .nil0) :: env) H K) (hk : ∀ r, H r = none → c.w0.heap.size ≤ r → Goal c ((d, .own r sz 0 (l ++ m).length) :: env) (H.set r (.row sz (l ++ m))) K) :
    Step P c ⟨some d, .call ⟨.builtin .append, #[x, y], #[T, T]⟩, ty, pos, af, gd⟩ Q env G K := fun a w hs => by
  obtain ⟨i0, g1, g2, g3, g4, g5⟩ := hE.run_info w
  have hrx := hs.eval hx
  have hry := hs.eval hy
  unfold Oper.wp
  rcases Nat.eq_zero_or_pos m.length with h0 | h0
  · have hm0 : m = [] := List.eq_nil_of_length_eq_zero h0
    subst hm0
    obtain ⟨A', cp', hu⟩ := view_len hs.sim hry hm
    rcases hown with ⟨rfl, rfl⟩ | ⟨r, hr1, hr2, rfl, hr3⟩
    · generalize hv : a.eval x = v at hrx
      cases hrx with
      | nil0 A =>
        rw [append_exec hv hu (run_append_zero hT hE (Nat.le_refl _) w), Oper.upon_value]
        exact hn rfl _ _ ((hs.forget hH).put hd (.nil0 A))
    · generalize hv : a.eval x = v at hrx
      have hrx0 := hrx
      cases hrx with
      | own _ _ _ _ cp hc hsh =>
        rw [append_exec hv hu (run_append_zero hT hE hc w), Oper.upon_value]
        have hsub : (H.set r (.row sz (l ++ []))).sub G := by rw [List.append_nil]; exact sub_of_set hH hr3
        refine hk r hr1 hr2 _ _ ((hs.forget hsub).put hd ?_)
        rw [List.append_nil]
        exact hrx0.mono (Ext.forget w (sub_of_set hH hr3))
  · obtain ⟨ad, cu, vs, hu, hvs, hvl, hcells⟩ := view_cells hs.sim hry hm hme h0
    have hvl' : vs.length = m.length * i0.size := by rw [g3]; exact hvl
    have hone : ∀ u ∈ vs, u.oneCell' = true := hvs.oneCell (List.all_eq_true.2 fun x hx => by
      obtain ⟨y, hy1, hy2⟩ := flat_mem hx
      exact List.all_eq_true.1 (hcell y hy1) x hy2)
    have hby : (l.length + m.length) * i0.bytes ≤ 140737488355328 := by rw [g5]; exact hb2
    have hdrew : St c env G a w.drew := hs.move (D := fun _ => False) (sim_drew hs.sim) ext_drew (fun _ _ h => h.elim)
    rcases hown with ⟨rfl, rfl⟩ | ⟨r, hr1, hr2, rfl, hr3⟩
    · have hfin : ∀ (cap : Nat) (C : Array Value) (rest : List Value), m.length ≤ cap → C.toList = vs ++ rest → cap * sz ≤ C.size →
          K (a.put (some d) (.slice (some ⟨w.drew.heap.size, 0, none⟩) m.length cap)) (w.drew.alloc (.cells C E)) := fun cap C rest h1 h2 h3 => by
        have := hdrew.newRow (C := C) (T := E) hd hme h2 (hvs.mono ext_drew) h1 h3
        have hsub : (H.set w.drew.heap.size (.row sz ([] ++ m))).sub (G.set w.drew.heap.size (.row sz m)) := sub_set_set hH _ _
        exact hk w.drew.heap.size (sub_none hH (hdrew.sim.none (Nat.le_refl _))) hdrew.fresh _ _ (this.forget hsub)
      generalize hv : a.eval x = v at hrx
      cases hrx with
      | nil0 A =>
        have hby0 : m.length * i0.bytes ≤ 140737488355328 := by simpa using hby
        have hm63 : m.length ≤ 140737488355328 := by simpa using hb1
        cases A with
        | none =>
          have hr := run_append_nil (P := P) w T ty E i0 zv hT.und g2 g4 ad m.length cu vs hvl' hcells h0 (by omega) (by omega)
          rw [append_exec hv hu hr, Oper.upon_value]
          have hge := grownCap_ge w m.length 0 E
          refine hfin _ _ (Builtin.zeroCells zv.cells (grownCap w m.length 0 E - m.length)).toList hge (by simp) ?_
          simp only [Array.size_append, List.size_toArray, size_zeroCells, hzs, hvl, ← Nat.add_mul]
          exact Nat.mul_le_mul_right _ (by omega)
        | some A =>
          have hr := run_append_grow (P := P) w T ty E i0 zv hT.und g2 g4 A 0 0 [] (by simp) (fun j v h => by simp at h) ad m.length cu vs hvl' hcells (by omega) (by simp; omega) (by simpa using growslice_fits (by omega) hby0)
          simp only [Nat.zero_add] at hr
          rw [append_exec hv hu hr, Oper.upon_value]
          have hge := grownCap_ge w m.length 0 E
          refine hfin _ _ (Builtin.zeroCells zv.cells (grownCap w m.length 0 E - m.length)).toList hge (by simp) ?_
          simp only [Array.size_append, List.size_toArray, size_zeroCells, hzs, hvl, List.length_nil, Nat.zero_add, ← Nat.add_mul]
          exact Nat.mul_le_mul_right _ (by omega)
    · obtain ⟨C, Tc, os, rest, hh, hle, hC, hos⟩ := row_block hs.sim hr3
      have hol : os.length = l.length * sz := by rw [← hos.1, flat_len hle]
      have hCs : C.size = os.length + rest.length := by rw [← Array.length_toList, hC]; simp
      generalize hv : a.eval x = v at hrx
      cases hrx with
      | own _ _ _ _ cp hc hsh =>
        obtain ⟨T', N, hsh1, hsh2⟩ := hsh
        have hN : N = C.size := by unfold World.shape? at hsh1; rw [hh] at hsh1; simp at hsh1; exact hsh1.2.symm
        have hcap : cp * sz ≤ C.size := by rw [← hN]; simpa using hsh2
        by_cases hroom : l.length + m.length ≤ cp
        · have hfit : l.length * sz + vs.length ≤ C.size := by
            rw [hvl, ← Nat.add_mul]; exact Nat.le_trans (Nat.mul_le_mul_right _ hroom) hcap
          have hTc : ∃ v', (Builtin.append_ #[T, T] ty #[.slice (some ⟨r, 0, none⟩) l.length cp, .slice (some ad) m.length cu]).run P w = .ok (.slice (some ⟨r, 0, none⟩) (l.length + m.length) cp) v' ∧ v' = w.setRow r (C.toList.take (l.length * sz) ++ vs ++ C.toList.drop (l.length * sz + vs.length)).toArray := by
            have hf := run_firstCells_some (P := P) w sz m.length ad m.length cu vs hvl hcells
            have hst := run_storeCells_at P r (l.length * sz) Tc vs 0 C w hh (by simpa using hfit) hone
            simp only [Nat.add_zero] at hst
            exact ⟨_, by simp [Builtin.append_, hT.run_und, hE.run_size, Builtin.lenOf, hroom, hf, Addr.add_lit, hst], rfl⟩
          obtain ⟨w', hrun, rfl⟩ := hTc
          have hz0 : 0 * sz = 0 := Nat.zero_mul _
          rw [hz0] at hv
          rw [append_exec hv hu hrun, Oper.upon_value]
          obtain ⟨hsim, hext⟩ := row_store hs.sim hr3 hh hle hme hC hos hvs (Nat.le_refl _) hfit
          have hl2 : l.take l.length ++ m ++ l.drop (l.length + m.length) = l ++ m := by simp
          rw [hl2] at hsim hext
          have h5 := hs.move hsim hext (fun b hb e => by omega)
          refine hk r hr1 hr2 _ _ ((h5.forget (sub_set_set hH _ _)).put hd ?_)
          have h6 := Rep.own (G := H.set r (.row sz (l ++ m))) (w := w.setRow r (C.toList.take (l.length * sz) ++ vs ++ C.toList.drop (l.length * sz + vs.length)).toArray) r sz 0 (l ++ m).length cp (by simpa using hroom)
            ⟨T', N, (hext.shape r (shape_lt hsh1)).trans hsh1, hsh2⟩
          simpa using h6
        · have hz0 : 0 * sz = 0 := Nat.zero_mul _
          rw [hz0] at hv
          have holds : ∀ j v, os[j]? = some v → w.cell? ((⟨r, 0, none⟩ : Addr).add j) = some v := fun j v hj => by
            rw [add_mk, Nat.zero_add]
            have : C[j]? = some v := by
              rw [← Array.getElem?_toList, hC, List.getElem?_append_left (by
                rcases Nat.lt_or_ge j os.length with h' | h'
                · exact h'
                · rw [List.getElem?_eq_none h'] at hj; cases hj)]
              exact hj
            simp [World.cell?, hh, this]
          have hr := run_append_grow (P := P) w T ty E i0 zv hT.und g2 g4 ⟨r, 0, none⟩ l.length cp os (by rw [g3]; exact hol) holds ad m.length cu vs hvl' hcells (by omega) (by omega) (growslice_fits (by omega) hby)
          rw [append_exec hv hu hr, Oper.upon_value]
          have hge := grownCap_ge w (l.length + m.length) cp E
          have hreps : Reps G w.drew (flat (l ++ m)) (os ++ vs) := by rw [flat_append]; exact (hos.append hvs).mono ext_drew
          have hsz : grownCap w (l.length + m.length) cp E * sz ≤ (os.toArray ++ vs.toArray ++ Builtin.zeroCells zv.cells (grownCap w (l.length + m.length) cp E - (l.length + m.length))).size := by
            simp only [Array.size_append, List.size_toArray, size_zeroCells, hzs, hol, hvl, ← Nat.add_mul]
            exact Nat.mul_le_mul_right _ (by omega)
          have h7 := hdrew.newRow (C := os.toArray ++ vs.toArray ++ Builtin.zeroCells zv.cells (grownCap w (l.length + m.length) cp E - (l.length + m.length))) (T := E) (cap := grownCap w (l.length + m.length) cp E) hd (hle.append hme)
            (vs := os ++ vs) (rest := (Builtin.zeroCells zv.cells (grownCap w (l.length + m.length) cp E - (l.length + m.length))).toList) (by simp) hreps (by simpa using hge) hsz
          have h8 := hk w.drew.heap.size (sub_none hH (hdrew.sim.none (Nat.le_refl _))) hdrew.fresh _ _ (h7.forget (sub_set_set hH _ _))
          simpa using h8
end
end Go.Proofs.Ytgedefcjngofkaa.AM

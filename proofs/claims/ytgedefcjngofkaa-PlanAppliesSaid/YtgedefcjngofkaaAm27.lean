/- The abstract machine, part 27: append onto a row that came in. -/
import Derived.Test.YtgedefcjngofkaaAm26
import Derived.Laws.AppendOwn
set_option linter.unusedVariables false
set_option linter.unusedSimpArgs false
namespace Go.Proofs.Ytgedefcjngofkaa.AM
open Go
section
variable {md : Bool} {P : Program} {c : Ctx} {env : Env} {G : AHeap} {dst : Option Tmp} {ty : TypeId} {pos : String} {af : Array Edge} {gd : Option (Nat × Bool)} {Q : Exit → Act → World → Prop} {K : Act → World → Prop}
/-- append onto a listed row that the call may write. -/
theorem step_appendR {T E s b' by_ sz d r : Nat} {z' : Option Value} {zv : Value} {de : TypeDesc} {x y : Operand} {b : AV} {l m : List AV} (hT : TyI P T (.slice E) s z' b') (hE : TyI P E de sz (some zv) by_) (hd : Nat.blt d c.nt = true)
    (hx : aeval env x = some (.own r sz 0 l.length)) (hr3 : G r = some (.row sz l)) (hr2 : c.D r ∨ c.w0.heap.size ≤ r) (hy : aeval env y = some b) (hm : b.view G = some m) (hme : Even sz m)
    (hcell : ∀ x ∈ m, x.cells.all AV.isCell = true) (hzs : zv.cells.size = sz) (h0 : 0 < m.length) (hb1 : l.length + m.length ≤ 140737488355328) (hb2 : (l.length + m.length) * by_ ≤ 140737488355328)
    (hk : ∀ r', (r' = r ∨ (G r' = none ∧ c.w0.heap.size ≤ r')) → Goal c ((d, .own r' sz 0 (l ++ m).length) :: env) (G.set r' (.row sz (l ++ m))) K) :
    Step P c ⟨some d, .call ⟨.builtin .append, #[x, y], #[T, T]⟩, ty, pos, af, gd⟩ Q env G K := fun a w hs => by
  obtain ⟨i0, g1, g2, g3, g4, g5⟩ := hE.run_info w
  have hrx := hs.eval hx
  have hry := hs.eval hy
  unfold Oper.wp
  obtain ⟨ad, cu, vs, hu, hvs, hvl, hcells⟩ := view_cells hs.sim hry hm hme h0
  have hvl' : vs.length = m.length * i0.size := by rw [g3]; exact hvl
  have hone : ∀ u ∈ vs, u.oneCell' = true := hvs.oneCell (List.all_eq_true.2 fun x hx => by
    obtain ⟨y, hy1, hy2⟩ := flat_mem hx
    exact List.all_eq_true.1 (hcell y hy1) x hy2)
  have hby : (l.length + m.length) * i0.bytes ≤ 140737488355328 := by rw [g5]; exact hb2
  have hdrew : St c env G a w.drew := hs.move (D := fun _ => False) (sim_drew hs.sim) ext_drew (fun _ _ h => h.elim)
  obtain ⟨C, Tc, os, rest, hh, hle, hC, hos⟩ := row_block hs.sim hr3
  have hol : os.length = l.length * sz := by rw [← hos.1, flat_len hle]
  have hCs : C.size = os.length + rest.length := by rw [← Array.length_toList, hC]; simp
  generalize hv : a.eval x = v at hrx
  cases hrx with
  | own _ _ _ _ cp hc hsh =>
    obtain ⟨T', N, hsh1, hsh2⟩ := hsh
    have hN : N = C.size := by unfold World.shape? at hsh1; rw [hh] at hsh1; simp at hsh1; exact hsh1.2.symm
    have hcap : cp * sz ≤ C.size := by rw [← hN]; simpa using hsh2
    by_cases hroom : l.length + m.length ≤ cp
    · have hfit : l.length * sz + vs.length ≤ C.size := by
        rw [hvl, ← Nat.add_mul]; exact Nat.le_trans (Nat.mul_le_mul_right _ hroom) hcap
      have hTc : ∃ v', (Builtin.append_ #[T, T] ty #[.slice (some ⟨r, 0, none⟩) l.length cp, .slice (some ad) m.length cu]).run P w = .ok (.slice (some ⟨r, 0, none⟩) (l.length + m.length) cp) v' ∧ v' = w.setRow r (C.toList.take (l.length * sz) ++ vs ++ C.toList.drop (l.length * sz + vs.length)).toArray := by
        have hf := run_firstCells_some (P := P) w sz m.length ad m.length cu vs hvl hcells
        have hst := run_storeCells_at P r (l.length * sz) Tc vs 0 C w hh (by simpa using hfit) hone
        simp only [Nat.add_zero] at hst
        exact ⟨_, by simp [Builtin.append_, hT.run_und, hE.run_size, Builtin.lenOf, hroom, hf, Addr.add_lit, hst], rfl⟩
      obtain ⟨w', hrun, rfl⟩ := hTc
      have hz0 : 0 * sz = 0 := Nat.zero_mul _
      rw [hz0] at hv
      rw [append_exec hv hu hrun, Oper.upon_value]
      obtain ⟨hsim, hext⟩ := row_store hs.sim hr3 hh hle hme hC hos hvs (Nat.le_refl _) hfit
      have hl2 : l.take l.length ++ m ++ l.drop (l.length + m.length) = l ++ m := by simp
      rw [hl2] at hsim hext
      have h5 := hs.move hsim hext (fun b hb e => by subst e; rcases hr2 with h | h; exact h; omega)
      refine hk r (.inl rfl) _ _ (h5.put hd ?_)
      have h6 := Rep.own (G := G.set r (.row sz (l ++ m))) (w := w.setRow r (C.toList.take (l.length * sz) ++ vs ++ C.toList.drop (l.length * sz + vs.length)).toArray) r sz 0 (l ++ m).length cp (by simpa using hroom)
        ⟨T', N, (hext.shape r (shape_lt hsh1)).trans hsh1, hsh2⟩
      simpa using h6
    · have hz0 : 0 * sz = 0 := Nat.zero_mul _
      rw [hz0] at hv
      have holds : ∀ j v, os[j]? = some v → w.cell? ((⟨r, 0, none⟩ : Addr).add j) = some v := fun j v hj => by
        rw [add_mk, Nat.zero_add]
        have : C[j]? = some v := by
          rw [← Array.getElem?_toList, hC, List.getElem?_append_left (by
            rcases Nat.lt_or_ge j os.length with h' | h'
            · exact h'
            · rw [List.getElem?_eq_none h'] at hj; cases hj)]
          exact hj
        simp [World.cell?, hh, this]
      have hr := run_append_grow (P := P) w T ty E i0 zv hT.und g2 g4 ⟨r, 0, none⟩ l.length cp os (by rw [g3]; exact hol) holds ad m.length cu vs hvl' hcells (by omega) (by omega) (growslice_fits (by omega) hby)
      rw [append_exec hv hu hr, Oper.upon_value]
      have hge := grownCap_ge w (l.length + m.length) cp E
      have hreps : Reps G w.drew (flat (l ++ m)) (os ++ vs) := by rw [flat_append]; exact (hos.append hvs).mono ext_drew
      have hsz : grownCap w (l.length + m.length) cp E * sz ≤ (os.toArray ++ vs.toArray ++ Builtin.zeroCells zv.cells (grownCap w (l.length + m.length) cp E - (l.length + m.length))).size := by
        simp only [Array.size_append, List.size_toArray, size_zeroCells, hzs, hol, hvl, ← Nat.add_mul]
        exact Nat.mul_le_mul_right _ (by omega)
      have h7 := hdrew.newRow (C := os.toArray ++ vs.toArray ++ Builtin.zeroCells zv.cells (grownCap w (l.length + m.length) cp E - (l.length + m.length))) (T := E) (cap := grownCap w (l.length + m.length) cp E) hd (hle.append hme)
        (vs := os ++ vs) (rest := (Builtin.zeroCells zv.cells (grownCap w (l.length + m.length) cp E - (l.length + m.length))).toList) (by simp) hreps (by simpa using hge) hsz
      have h8 := hk w.drew.heap.size (.inr ⟨hdrew.sim.none (Nat.le_refl _), hdrew.fresh⟩) _ _ h7
      simpa using h8
end
/-- A slice that is nil, or a whole listed row. -/
def SV (G : AHeap) (sz : Nat) (av : AV) (l : List AV) : Prop := (av = .nil0 ∧ l = []) ∨ ∃ r, av = .own r sz 0 l.length ∧ G r = some (.row sz l)
theorem SV.view {G : AHeap} {sz : Nat} {av : AV} {l : List AV} (h : SV G sz av l) : av.view G = some l := by
  rcases h with ⟨rfl, rfl⟩ | ⟨r, rfl, hr⟩
  · rfl
  · exact AV.view_own_all hr rfl
theorem SV.one {G : AHeap} {sz : Nat} {av : AV} {l : List AV} (h : SV G sz av l) : av.cells = [av] ∧ av.cells.all AV.isCell = true := by
  rcases h with ⟨rfl, _⟩ | ⟨r, rfl, _⟩ <;> exact ⟨rfl, rfl⟩
theorem Own.sv {n0 sz : Nat} {H G : AHeap} {av : AV} {l : List AV} (h : Own n0 sz H av l G) : SV G sz av l := h.imp (fun h => ⟨h.1, h.2.1⟩) (fun ⟨r, h1, h2, h3, h4⟩ => ⟨r, h3, by rw [h4]; exact AHeap.get_set _ _ _⟩)
theorem SV.mono {G H : AHeap} {sz : Nat} {av : AV} {l : List AV} (h : SV G sz av l) (hs : G.sub H) : SV H sz av l := h.imp id fun ⟨r, h1, h2⟩ => ⟨r, h1, hs _ _ h2⟩
section
variable {md : Bool} {P : Program} {c : Ctx} {env B : Env} {L : LPtr} {G : AHeap} {dst : Option Tmp} {ty : TypeId} {pos : String} {af : Array Edge} {gd : Option (Nat × Bool)} {Q : Exit → Act → World → Prop} {K : Act → World → Prop}
/-- append onto what a variable had: a row that is new, or the one that was there. -/
theorem s_appendV {T E s b' by_ sz d : Nat} {z' : Option Value} {zv : Value} {de : TypeDesc} {x y : Operand} {av b : AV} {l m : List AV} (hT : TyI P T (.slice E) s z' b') (hE : TyI P E de sz (some zv) by_) (hd : Nat.blt d c.nt = true)
    (hx : ev env L x = some av) (hsv : (av = .nil0 ∧ l = []) ∨ ∃ r, av = .own r sz 0 l.length ∧ G r = some (.row sz l) ∧ (c.D r ∨ c.w0.heap.size ≤ r)) (hy : ev env L y = some b) (hm : b.view G = some m) (hme : Even sz m)
    (hcell : ∀ x ∈ m, x.cells.all AV.isCell = true) (hzs : zv.cells.size = sz) (h0 : 0 < m.length) (hb1 : l.length + m.length ≤ 140737488355328) (hb2 : (l.length + m.length) * by_ ≤ 140737488355328)
    (h : ∀ r', ((G r' = none ∧ c.w0.heap.size ≤ r') ∨ av = .own r' sz 0 l.length) → GoalL c ((d, .own r' sz 0 (l ++ m).length) :: env) (ldel L d) B (G.set r' (.row sz (l ++ m))) K) : StepL P c ⟨some d, .call ⟨.builtin .append, #[x, y], #[T, T]⟩, ty, pos, af, gd⟩ Q env L B G K := fun ρ hρ => by
  rcases hsv with ⟨rfl, rfl⟩ | ⟨r, rfl, hr, hD⟩
  · refine step_append (H := boxes ρ G B) (l := []) hT hE hd (ev_full hx) (AHeap.sub_refl _) (.inl ⟨rfl, rfl⟩) (ev_full hy) (view_sub (boxes_sub hρ) hm) hme hcell hzs hb1 hb2 (fun he => ?_) (fun r hr hn => ?_)
    · rw [List.nil_append] at he; rw [he] at h0; simp at h0
    · exact Goal.env full_put (goal_set hρ hr (h r (.inl ⟨sub_none (boxes_sub hρ) hr, hn⟩)))
  · refine step_appendR hT hE hd (ev_full hx) (boxes_sub hρ _ _ hr) hD (ev_full hy) (view_sub (boxes_sub hρ) hm) hme hcell hzs h0 hb1 hb2 (fun r' hr' => ?_)
    rcases hr' with rfl | ⟨h1, h2⟩
    · obtain ⟨h3, h4⟩ := boxes_setR hρ (x := .row sz (l ++ m)) hr
      rw [h4]
      exact Goal.env full_put (h r' (.inr rfl) ρ h3)
    · exact Goal.env full_put (goal_set hρ h1 (h r' (.inl ⟨sub_none (boxes_sub hρ) h1, h2⟩)))
/-- From here on nobody writes what a variable had. -/
theorem g_freezeV {sz : Nat} {av : AV} {l : List AV} {H : AHeap} (t : Nat) (ht : ev env L (.tmp t) = some av) (hsv : SV G sz av l) (hsub : H.sub G) (hn : ∀ r k, av = .own r sz 0 k → H r = none) (h : GoalL c ((t, .imm l) :: env) (ldel L t) B H K) : GoalL c env L B G K := by
  rcases hsv with ⟨rfl, rfl⟩ | ⟨r, rfl, hr⟩
  · exact g_forget hsub (g_sub t ht ASub.nil0 h)
  · exact g_freezeG (l := l) (m := l) t ht hr hsub (hn r _ rfl) (by simp) (by simp) h
end
end Go.Proofs.Ytgedefcjngofkaa.AM

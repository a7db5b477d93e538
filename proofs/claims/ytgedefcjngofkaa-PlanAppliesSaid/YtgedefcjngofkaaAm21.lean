/- The abstract machine, part 21: bytes as text. -/
import Derived.Test.YtgedefcjngofkaaAm20
import Derived.Laws.BytesString
set_option linter.unusedVariables false
set_option linter.unusedSimpArgs false
namespace Go.Proofs.Ytgedefcjngofkaa.AM
open Go
def bytesOf (l : List Int) : ByteArray := l.foldl (fun r n => r.push (UInt8.ofNat n.toNat)) ByteArray.empty
theorem foldl_push : ∀ (l : List Int) (s : ByteArray), (l.foldl (fun r n => r.push (UInt8.ofNat n.toNat)) s).data.toList = s.data.toList ++ l.map (fun n => UInt8.ofNat n.toNat)
  | [], s => by simp
  | n :: l, s => by
    rw [List.foldl_cons, foldl_push l]
    simp [ByteArray.push]
theorem bytesOf_toList (l : List Int) : (bytesOf l).toList = l.map (fun n => UInt8.ofNat n.toNat) := by
  rw [ByteArray.toList_eq, bytesOf, foldl_push]; rfl
theorem u8_inj {a b : Int} (ha : 0 ≤ a ∧ a ≤ 255) (hb : 0 ≤ b ∧ b ≤ 255) : UInt8.ofNat a.toNat = UInt8.ofNat b.toNat ↔ a = b := by
  constructor
  · intro h
    have := congrArg UInt8.toNat h
    simp only [UInt8.toNat_ofNat'] at this
    omega
  · intro h; rw [h]
theorem u8_lt {a b : Int} (ha : 0 ≤ a ∧ a ≤ 255) (hb : 0 ≤ b ∧ b ≤ 255) : UInt8.ofNat a.toNat < UInt8.ofNat b.toNat ↔ a < b := by
  rw [UInt8.lt_iff_toNat_lt]
  simp only [UInt8.toNat_ofNat']
  omega
theorem bytesOf_inj : ∀ {a b : List Int}, (∀ y ∈ a, 0 ≤ y ∧ y ≤ 255) → (∀ y ∈ b, 0 ≤ y ∧ y ≤ 255) → (bytesOf a = bytesOf b ↔ a = b) := by
  have key : ∀ (a b : List Int), (∀ y ∈ a, 0 ≤ y ∧ y ≤ 255) → (∀ y ∈ b, 0 ≤ y ∧ y ≤ 255) → a.map (fun n => UInt8.ofNat n.toNat) = b.map (fun n => UInt8.ofNat n.toNat) → a = b := by
    intro a
    induction a with
    | nil => intro b _ _ h; cases b with
      | nil => rfl
      | cons y b => simp at h
    | cons x a ih => intro b ha hb h; cases b with
      | nil => simp at h
      | cons y b =>
        simp only [List.map_cons, List.cons.injEq] at h
        rw [(u8_inj (ha x (by simp)) (hb y (by simp))).1 h.1, ih b (fun z hz => ha z (by simp [hz])) (fun z hz => hb z (by simp [hz])) h.2]
  intro a b ha hb
  constructor
  · intro h; exact key a b ha hb (by rw [← bytesOf_toList, ← bytesOf_toList, h])
  · intro h; rw [h]
theorem flat_u8 : ∀ l : List Int, flat (l.map (AV.int .u8)) = l.map (AV.int .u8)
  | [] => rfl
  | x :: l => by rw [List.map_cons, flat_cons, flat_u8 l]; rfl
section
variable {P : Program} {c : Ctx} {env : Env} {G : AHeap} {dst : Option Tmp} {ty : TypeId} {pos : String} {af : Array Edge} {gd : Option (Nat × Bool)}
theorem val_bytes_str {T E D s b' by_ sz s2 b2 : Nat} {z' z z2 : Option Value} {x : Operand} {b : AV} {l : List Int} (hT : TyI P T (.slice E) s z' b') (hE : TyI P E (.int .u8) sz z by_) (hD : TyI P D .string s2 z2 b2)
    (hx : aeval env x = some b) (hv : b.view G = some (l.map (.int .u8))) : ValM true P c ⟨dst, .convert T D x, ty, pos, af, gd⟩ env G (.str (bytesOf l)) := fun a w hs => by
  have hr := hs.eval hx
  obtain ⟨A, cp, hu⟩ := view_len hs.sim hr hv
  refine ⟨.string (bytesOf l), .str _, fun w' hw' => ?_⟩
  have hconv := run_convert_bytes_string (P := P) w' T D E A (l.map (AV.int .u8)).length cp hT.und hE.und hD.und
  have hgoal : (Conv.bytesToString (.slice A (l.map (AV.int .u8)).length cp)).run P w' = .ok (.string (bytesOf l)) w' := by
    rcases Nat.eq_zero_or_pos l.length with h0 | h0
    · have : l = [] := List.eq_nil_of_length_eq_zero h0
      subst this
      cases A with
      | none => rfl
      | some ad => exact run_bytesToString (P := P) w' ad 0 cp [] (by simp [loadCells, loadCellsFrom])
    · obtain ⟨ad, cu, vs, hu2, hvs, hvl, hcells⟩ := view_cells (sz := 1) hs.sim hr hv (Even.map (AV.int .u8) (fun _ => rfl) l) (by simpa using h0)
      rw [hu] at hu2
      injection hu2 with e1 e2 e3
      subst e1
      have hfl := flat_u8 l
      have hvs' : vs = l.map (Value.int .u8) := by
        rw [hfl] at hvs
        refine List.ext_getElem (by have := hvs.1; simp at this ⊢; omega) (fun i h1 h2 => ?_)
        have hi : i < l.length := by simpa using h2
        have h3 := hvs.2 i (by simpa using hi) h1
        simp only [List.getElem_map] at h3 ⊢
        generalize vs[i] = v at h3
        cases h3; rfl
      have hsm := hw' rfl
      have hcell' : ∀ j v, vs[j]? = some v → w'.cell? (ad.add j) = some v := fun j v hj => by
        have h1 := hcells j v hj
        have hlt : (ad.add j).block < w.heap.size := by
          rcases Nat.lt_or_ge (ad.add j).block w.heap.size with h' | h'
          · exact h'
          · unfold World.cell? at h1; rw [Array.getElem?_eq_none h'] at h1; simp at h1
        rw [cell_of_block (hsm.2 _ hlt)]; exact h1
      have hf := run_firstCells_some (P := P) w' 1 l.length ad l.length cp vs (by rw [hvl]; simp) hcell'
      simp only [Builtin.firstCells, Nat.mul_one] at hf
      rw [hvs'] at hf
      have := run_bytesToString (P := P) w' ad l.length cp l hf
      simpa [bytesOf] using this
  simp only [execOp, hu, Sem.run_bind, hconv, hgoal, Result.andThen_ok]
  rfl
end
section
variable {P : Program} {c : Ctx} {env B : Env} {L : LPtr} {G : AHeap} {dst : Option Tmp} {ty : TypeId} {pos : String} {af : Array Edge} {gd : Option (Nat × Bool)}
theorem v_bytes_str {T E D s b' by_ sz s2 b2 : Nat} {z' z z2 : Option Value} {x : Operand} {b : AV} {l : List Int} (hT : TyI P T (.slice E) s z' b') (hE : TyI P E (.int .u8) sz z by_) (hD : TyI P D .string s2 z2 b2)
    (hx : ev env L x = some b) (hv : b.view G = some (l.map (.int .u8))) : ValLM true P c ⟨dst, .convert T D x, ty, pos, af, gd⟩ env L B G (.str (bytesOf l)) := fun ρ hρ => val_bytes_str hT hE hD (ev_full hx) (view_sub (boxes_sub hρ) hv)
end
end Go.Proofs.Ytgedefcjngofkaa.AM

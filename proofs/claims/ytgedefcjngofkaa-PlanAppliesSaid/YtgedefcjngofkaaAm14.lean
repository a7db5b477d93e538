/- The abstract machine, part 14: slices of slices and of strings. -/
import Derived.Test.YtgedefcjngofkaaAm11
set_option linter.unusedVariables false
set_option linter.unusedSimpArgs false
namespace Go.Proofs.Ytgedefcjngofkaa.AM
open Go

def aevb (env : Env) (dflt : Int) : Option Operand → Option Int
  | none => some dflt
  | some x => match aeval env x with
    | some (.int _ n) => some n
    | _ => none
def evb (env : Env) (L : LPtr) (dflt : Int) : Option Operand → Option Int
  | none => some dflt
  | some x => match ev env L x with
    | some (.int _ n) => some n
    | _ => none
theorem evb_full {ρ : Nat → Nat} {env : Env} {L : LPtr} {dflt n : Int} {x : Option Operand} (h : evb env L dflt x = some n) : aevb (full ρ env L) dflt x = some n := by
  cases x with
  | none => exact h
  | some x =>
    simp only [evb] at h
    simp only [aevb]
    split at h <;> try cases h
    rename_i hx
    rw [ev_full hx]

section
variable {md : Bool} {P : Program} {c : Ctx} {env : Env} {L : LPtr} {B : Env} {G : AHeap} {dst : Option Tmp} {ty : TypeId} {pos : String} {af : Array Edge} {gd : Option (Nat × Bool)}

theorem run_bounds {a : Act} {w : World} (hs : St c env G a w) {low high : Option Operand} {len cap lo hi : Nat} {m1 m2 : Int} {iss : Bool} (hlo : aevb env 0 low = some m1) (hhi : aevb env (len : Int) high = some m2)
    (h1 : m1 = (lo : Int)) (h2 : m2 = (hi : Int)) (hle : lo ≤ hi) (hc : hi ≤ cap) (w' : World) :
    (Instr.sliceBounds iss len cap (low.map a.eval) (high.map a.eval) none).run P w' = .ok (lo, hi, cap) w' := by
  subst h1; subst h2
  have hb : ∀ (x : Operand) (n y : Nat) (code : BoundsCode) (k : IntKind), aeval env x = some (.int k (n : Int)) → n ≤ y → (Instr.sliceBound (a.eval x) y code).run P w' = .ok n w' := by
    intro x n y code k hx hn
    rw [rep_int (hs.eval hx)]
    have h0 : (0 : Int) ≤ (n : Int) ∧ (n : Int) ≤ (y : Int) := by omega
    simp only [Instr.sliceBound, asIntOf, Sem.run_bind, Sem.run_pure, Result.andThen_ok, if_pos h0, Int.toNat_natCast]
  have key : ∀ (x : Option Operand) (d : Int) (n : Nat), aevb env d x = some (n : Int) → (∃ y k, x = some y ∧ aeval env y = some (.int k (n : Int))) ∨ (x = none ∧ d = (n : Int)) := by
    intro x d n h
    cases x with
    | none => exact .inr ⟨rfl, by simpa [aevb] using h⟩
    | some y =>
      simp only [aevb] at h
      split at h <;> try cases h
      rename_i k hx
      exact .inl ⟨y, k, rfl, hx⟩
  unfold Instr.sliceBounds
  rcases key high _ hi hhi with ⟨y, k, rfl, hy⟩ | ⟨rfl, hh⟩ <;> rcases key low _ lo hlo with ⟨y', k', rfl, hy'⟩ | ⟨rfl, hl⟩
  · simp only [Option.map_some, Sem.run_bind, Sem.run_pure, Result.andThen_ok, hb y hi cap _ k hy hc, Option.isSome_none, hb y' lo hi _ k' hy' hle]
  · have : lo = 0 := by omega
    subst this
    simp only [Option.map_some, Option.map_none, Sem.run_bind, Sem.run_pure, Result.andThen_ok, hb y hi cap _ k hy hc]
  · have : hi = len := by omega
    subst this
    simp only [Option.map_some, Option.map_none, Sem.run_bind, Sem.run_pure, Result.andThen_ok, Option.isSome_none, Bool.false_eq_true, if_false, hb y' lo hi _ k' hy' hle]
  · have e1 : hi = len := by omega
    have e2 : lo = 0 := by omega
    subst e1; subst e2
    simp only [Option.map_none, Sem.run_bind, Sem.run_pure, Result.andThen_ok]

theorem val_slice_imm {T E : TypeId} {d : TypeDesc} {sz by_ s b' lo hi : Nat} {z z' : Option Value} {x : Operand} {low high : Option Operand} {l : List AV} {m1 m2 : Int} (hT : TyI P T (.slice E) s z' b') (hE : TyI P E d sz z by_)
    (hx : aeval env x = some (.imm l)) (hlo : aevb env 0 low = some m1) (hhi : aevb env (l.length : Int) high = some m2) (h1 : m1 = (lo : Int)) (h2 : m2 = (hi : Int)) (hle : lo ≤ hi) (hc : hi ≤ l.length) (hev : Even sz l) :
    ValM md P c ⟨dst, .slice T x low high none, ty, pos, af, gd⟩ env G (.imm ((l.take hi).drop lo)) := fun a w hs => by
  have hr := hs.eval hx
  generalize hu : a.eval x = u at hr
  have hlen : ((l.take hi).drop lo).length = hi - lo := by simp; omega
  have run : ∀ (A : Option Addr) (cap : Nat), u = .slice A l.length cap → l.length ≤ cap → ∀ w', (execOp a.eval ⟨dst, .slice T x low high none, ty, pos, af, gd⟩).run P w' = .ok (.value (.slice (if cap = lo then A else A.map (·.add (lo * sz))) (hi - lo) (cap - lo))) w' := by
    intro A cap hu' hcap w'
    have hb := run_bounds (P := P) (iss := true) (cap := cap) hs hlo hhi h1 h2 hle (by omega) w'
    simp only [execOp, hu, hu', Instr.sliceAt, Sem.run_bind, hT.run_und, Result.andThen_ok, Instr.slice, Option.map_none, hb, hE.run_size, Sem.run_pure]
  rcases Nat.lt_or_ge lo hi with hlt | hge
  · cases hr with
    | imm0 A cp => simp at hc; omega
    | imm _ ad cp sz' u' hcp hG hbb hsz hcell hrep =>
      have hsz' : sz' = sz := by
        have h0 := hsz 0 (by omega)
        rw [← h0]; exact hev _ (List.getElem_mem _)
      subst hsz'
      refine ⟨_, ?_, fun w' _ => run _ cp rfl hcp w'⟩
      rw [if_neg (by omega), ← hlen]
      refine .imm _ (ad.add (lo * sz')) _ sz' (fun i j => u' (lo + i) j) (by rw [hlen]; omega) (by rw [add_block]; exact hG) (by rw [add_block]; exact hbb) (fun i hi' => ?_) (fun i j hi' hj => ?_) (fun i hi' j hj => ?_)
      · simp only [List.getElem_drop, List.getElem_take]; exact hsz _ _
      · rw [add_add, ← Nat.add_assoc, ← Nat.add_mul]
        exact hcell _ _ (by rw [hlen] at hi'; omega) hj
      · have := hrep (lo + i) (by rw [hlen] at hi'; omega) j (by simpa [List.getElem_drop, List.getElem_take] using hj)
        simpa [List.getElem_drop, List.getElem_take] using this
  · have h0 : hi - lo = 0 := by omega
    have e0 : (l.take hi).drop lo = [] := List.length_eq_zero_iff.1 (by rw [hlen, h0])
    rw [e0]
    cases hr with
    | imm0 A cp => exact ⟨_, by rw [h0]; exact .imm0 _ _, fun w' _ => run A cp rfl (by simp) w'⟩
    | imm _ ad cp sz' u' hcp hG hbb hsz hcell hrep => exact ⟨_, by rw [h0]; exact .imm0 _ _, fun w' _ => run _ cp rfl hcp w'⟩
theorem val_slice_own {T E : TypeId} {d : TypeDesc} {sz by_ s b' lo hi r o n : Nat} {z z' : Option Value} {x : Operand} {low high : Option Operand} {m1 m2 : Int} (hT : TyI P T (.slice E) s z' b') (hE : TyI P E d sz z by_)
    (hx : aeval env x = some (.own r sz o n)) (hlo : aevb env 0 low = some m1) (hhi : aevb env (n : Int) high = some m2) (h1 : m1 = (lo : Int)) (h2 : m2 = (hi : Int)) (hle : lo ≤ hi) (hc : hi ≤ n) (hne : lo = 0 ∨ lo < n) :
    ValM md P c ⟨dst, .slice T x low high none, ty, pos, af, gd⟩ env G (.own r sz (o + lo) (hi - lo)) := fun a w hs => by
  have hr := hs.eval hx
  generalize hu : a.eval x = u at hr
  cases hr with
  | own _ _ _ _ cp hcp hsh =>
    obtain ⟨T', N, g1, g2⟩ := hsh
    have hb := fun w' => run_bounds (P := P) (iss := true) (cap := cp) hs hlo hhi h1 h2 hle (by omega) w'
    refine ⟨_, ?_, fun w' _ => by
      simp only [execOp, hu, Instr.sliceAt, Sem.run_bind, hT.run_und, Result.andThen_ok, Instr.slice, Option.map_none, hb w', hE.run_size, Sem.run_pure]; rfl⟩
    have e : (if cp = lo then (some (⟨r, o * sz, none⟩ : Addr)) else (some (⟨r, o * sz, none⟩ : Addr)).map (·.add (lo * sz))) = some ⟨r, (o + lo) * sz, none⟩ := by
      split
      · have : lo = 0 := by omega
        subst this; simp
      · simp [add_mk, Nat.add_mul]
    rw [e]
    exact .own r sz (o + lo) (hi - lo) (cp - lo) (by omega) ⟨T', N, g1, Nat.le_trans (Nat.mul_le_mul_right _ (by omega)) g2⟩
theorem val_slice_nil {T E : TypeId} {d : TypeDesc} {sz by_ s b' : Nat} {z z' : Option Value} {x : Operand} {low high : Option Operand} {m1 m2 : Int} (hT : TyI P T (.slice E) s z' b') (hE : TyI P E d sz z by_)
    (hx : aeval env x = some .nil0) (hlo : aevb env 0 low = some m1) (hhi : aevb env 0 high = some m2) (h1 : m1 = 0) (h2 : m2 = 0) :
    ValM md P c ⟨dst, .slice T x low high none, ty, pos, af, gd⟩ env G .nil0 := fun a w hs => by
  have hr := hs.eval hx
  generalize hu : a.eval x = u at hr
  cases hr with
  | nil0 A =>
    have hb := fun w' => run_bounds (P := P) (iss := true) (len := 0) (cap := 0) (lo := 0) (hi := 0) hs hlo (by simpa using hhi) (by simpa using h1) (by simpa using h2) (by omega) (by omega) w'
    exact ⟨_, .nil0 _, fun w' _ => by
      simp only [execOp, hu, Instr.sliceAt, Sem.run_bind, hT.run_und, Result.andThen_ok, Instr.slice, Option.map_none, hb w', hE.run_size, Sem.run_pure]; rfl⟩
theorem val_slice_str {T : TypeId} {s b' lo hi : Nat} {z' : Option Value} {x : Operand} {low high : Option Operand} {m : ByteArray} {m1 m2 : Int} (hT : TyI P T .string s z' b')
    (hx : aeval env x = some (.str m)) (hlo : aevb env 0 low = some m1) (hhi : aevb env (m.size : Int) high = some m2) (h1 : m1 = (lo : Int)) (h2 : m2 = (hi : Int)) (hle : lo ≤ hi) (hc : hi ≤ m.size) :
    ValM md P c ⟨dst, .slice T x low high none, ty, pos, af, gd⟩ env G (.str (m.extract lo hi)) := fun a w hs => by
  have hr := hs.eval hx
  generalize hu : a.eval x = u at hr
  cases hr with
  | str =>
    have hb := fun w' => run_bounds (P := P) (iss := false) (cap := m.size) hs hlo hhi h1 h2 hle hc w'
    exact ⟨_, .str _, fun w' _ => by
      simp only [execOp, hu, Instr.sliceAt, Sem.run_bind, hT.run_und, Result.andThen_ok, Instr.slice, Option.map_none, Option.isSome_none, Bool.false_eq_true, if_false, hb w', Sem.run_pure]⟩

theorem v_slice_imm {T E : TypeId} {d : TypeDesc} {sz by_ s b' lo hi : Nat} {z z' : Option Value} {x : Operand} {low high : Option Operand} {l m : List AV} {m1 m2 : Int} (hT : TyI P T (.slice E) s z' b') (hE : TyI P E d sz z by_)
    (hx : ev env L x = some (.imm l)) (hlo : evb env L 0 low = some m1) (hhi : evb env L (l.length : Int) high = some m2) (h1 : m1 = (lo : Int)) (h2 : m2 = (hi : Int)) (hle : lo ≤ hi) (hc : hi ≤ l.length) (hev : Even sz l)
    (hm : (l.take hi).drop lo = m) : ValLM md P c ⟨dst, .slice T x low high none, ty, pos, af, gd⟩ env L B G (.imm m) := fun ρ hρ => hm ▸ val_slice_imm hT hE (ev_full hx) (evb_full hlo) (evb_full hhi) h1 h2 hle hc hev
theorem v_slice_own {T E : TypeId} {d : TypeDesc} {sz by_ s b' lo hi r o n : Nat} {z z' : Option Value} {x : Operand} {low high : Option Operand} {m1 m2 : Int} (hT : TyI P T (.slice E) s z' b') (hE : TyI P E d sz z by_)
    (hx : ev env L x = some (.own r sz o n)) (hlo : evb env L 0 low = some m1) (hhi : evb env L (n : Int) high = some m2) (h1 : m1 = (lo : Int)) (h2 : m2 = (hi : Int)) (hle : lo ≤ hi) (hc : hi ≤ n) (hne : lo = 0 ∨ lo < n) :
    ValLM md P c ⟨dst, .slice T x low high none, ty, pos, af, gd⟩ env L B G (.own r sz (o + lo) (hi - lo)) := fun ρ hρ => val_slice_own hT hE (ev_full hx) (evb_full hlo) (evb_full hhi) h1 h2 hle hc hne
theorem v_slice_nil {T E : TypeId} {d : TypeDesc} {sz by_ s b' : Nat} {z z' : Option Value} {x : Operand} {low high : Option Operand} {m1 m2 : Int} (hT : TyI P T (.slice E) s z' b') (hE : TyI P E d sz z by_)
    (hx : ev env L x = some .nil0) (hlo : evb env L 0 low = some m1) (hhi : evb env L 0 high = some m2) (h1 : m1 = 0) (h2 : m2 = 0) :
    ValLM md P c ⟨dst, .slice T x low high none, ty, pos, af, gd⟩ env L B G .nil0 := fun ρ hρ => val_slice_nil hT hE (ev_full hx) (evb_full hlo) (evb_full hhi) h1 h2
theorem v_slice_str {T : TypeId} {s b' lo hi : Nat} {z' : Option Value} {x : Operand} {low high : Option Operand} {m : ByteArray} {m1 m2 : Int} (hT : TyI P T .string s z' b')
    (hx : ev env L x = some (.str m)) (hlo : evb env L 0 low = some m1) (hhi : evb env L (m.size : Int) high = some m2) (h1 : m1 = (lo : Int)) (h2 : m2 = (hi : Int)) (hle : lo ≤ hi) (hc : hi ≤ m.size) :
    ValLM md P c ⟨dst, .slice T x low high none, ty, pos, af, gd⟩ env L B G (.str (m.extract lo hi)) := fun ρ hρ => val_slice_str hT (ev_full hx) (evb_full hlo) (evb_full hhi) h1 h2 hle hc
end
end Go.Proofs.Ytgedefcjngofkaa.AM

import Derived.Test.YtgedefcjngofkaaSync
import Derived.Deep.RegionWith
set_option maxHeartbeats 8000000
set_option linter.unusedSimpArgs false
set_option linter.unusedVariables false
set_option maxRecDepth 100000
namespace Go.Proofs.Ytgedefcjngofkaa
open Go Go.Proofs.Ytgedefcjngofkaa.AM

/-- What is done once: since when, and that it is. -/
theorem clo_any (b off : Nat) (pf pn : Addr) (hbf : ¬ b = pf.block) (now x3 : Int) (x4 : Value) (w : World) (hpf : w.cell? pf = some (.pointer (some ⟨b, off, none⟩))) (hpn : w.cell? pn = some (.int .i64 now)) (h3 : w.cell? ⟨b, off + 3, none⟩ = some (.int .i64 x3)) (h4 : w.cell? ⟨b, off + 4, none⟩ = some x4) (f3 : w.frozen? ⟨b, off + 3, none⟩ = false) (f4 : w.frozen? ⟨b, off + 4, none⟩ = false) :
    Calls Try.prog 70 #[.pointer (some pf), .pointer (some pn)] w fun e w' => e = .returned (.tuple #[]) ∧ w' = (w.drew.setCell ⟨b, off + 3, none⟩ (.int .i64 now)).drew.setCell ⟨b, off + 4, none⟩ (.int .u32 1) := by
  have g3 : w.drew.cell? ⟨b, off + 3, none⟩ = some (.int .i64 x3) := h3
  have k3 : w.drew.frozen? ⟨b, off + 3, none⟩ = false := f3
  have gf : w.drew.cell? pf = some (.pointer (some ⟨b, off, none⟩)) := hpf
  have gn : w.drew.cell? pn = some (.int .i64 now) := hpn
  have hst := run_call_store (P := Try.prog) Try.func93 (by kernel_rfl) (by kernel_rfl) (by kernel_rfl) (by kernel_rfl) (k := .i64) (y := now) g3 k3
  have p1 : (w.drew.setCell ⟨b, off + 3, none⟩ (.int .i64 now)).cell? pf = some (.pointer (some ⟨b, off, none⟩)) := (World.cell?_setCell_other _ ⟨b, off + 3, none⟩ pf _ (fun h => hbf (by rw [← h]))).trans hpf
  have c4 : (w.drew.setCell ⟨b, off + 3, none⟩ (.int .i64 now)).cell? ⟨b, off + 4, none⟩ = some x4 := (World.cell?_setCell_other _ ⟨b, off + 3, none⟩ ⟨b, off + 4, none⟩ _ (by simp)).trans h4
  have p1' : (w.setCell ⟨b, off + 3, none⟩ (.int .i64 now)).cell? pf = some (.pointer (some ⟨b, off, none⟩)) := p1
  go_enter Try.func70, Try.ntmps70
  go_wp2
  go_region_with (go_at_call 71; refine (istore_any ⟨b, off + 3, none⟩ x3 now _ ?_ ?_).mono ?_; exact g3; exact k3; rintro e w' ⟨rfl, rfl⟩)
  all_goals (go_wp2_with (go_at_call 72; refine (bstore_any ⟨b, off + 4, none⟩ x4 _ c4 (by simp [f4])).mono ?_; rintro e w' ⟨rfl, rfl⟩))
  all_goals (go_end0; exact ⟨rfl, rfl⟩)
set_option maxRecDepth 100000 in
/-- The slow road: not yet done, the lock free. -/
theorem slow_any (b off : Nat) (pf pn : Addr) (hbf : ¬ b = pf.block) (hbn : ¬ b = pn.block) (now x3 : Int) (x4 : Value) (w : World) (hpf : w.cell? pf = some (.pointer (some ⟨b, off, none⟩))) (hpn : w.cell? pn = some (.int .i64 now)) (h0 : w.cell? ⟨b, off, none⟩ = some (.int .u32 0)) (h1 : w.cell? ⟨b, off + 1, none⟩ = some (.int .i32 0)) (h3 : w.cell? ⟨b, off + 3, none⟩ = some (.int .i64 x3)) (h4 : w.cell? ⟨b, off + 4, none⟩ = some x4)
    (f0 : w.frozen? ⟨b, off, none⟩ = false) (f1 : w.frozen? ⟨b, off + 1, none⟩ = false) (f3 : w.frozen? ⟨b, off + 3, none⟩ = false) (f4 : w.frozen? ⟨b, off + 4, none⟩ = false) :
    Calls Try.prog 92 #[.pointer (some ⟨b, off, none⟩), .func (.func 70) #[] #[.pointer (some pf), .pointer (some pn)]] w fun e w' => e = .returned (.tuple #[]) ∧
      w' = ((((w.setCell ⟨b, off + 1, none⟩ (.int .i32 1)).drew.setCell ⟨b, off + 3, none⟩ (.int .i64 now)).drew.setCell ⟨b, off + 4, none⟩ (.int .u32 1)).drew.setCell ⟨b, off, none⟩ (.int .u32 1)).setCell ⟨b, off + 1, none⟩ (.int .i32 0) := by
  have oth : ∀ (i j : Nat) (v : Value) (u : World), i ≠ j → (u.setCell ⟨b, i, none⟩ v).cell? ⟨b, j, none⟩ = u.cell? ⟨b, j, none⟩ := fun i j v u h => World.cell?_setCell_other _ ⟨b, i, none⟩ ⟨b, j, none⟩ _ (by simp [h])
  have hl := run_call_load (P := Try.prog) Try.func98 (by kernel_rfl) (by kernel_rfl) (by kernel_rfl) .u32 (by kernel_rfl) (w := w.setCell ⟨b, off + 1, none⟩ (.int .i32 1)) (a := ⟨b, off, none⟩) (x := 0) ((oth _ _ _ _ (by omega)).trans h0)
  have qf : (w.setCell ⟨b, off + 1, none⟩ (.int .i32 1)).cell? pf = some (.pointer (some ⟨b, off, none⟩)) := (World.cell?_setCell_other _ ⟨b, off + 1, none⟩ pf _ (fun h => hbf (by rw [← h]))).trans hpf
  have qn : (w.setCell ⟨b, off + 1, none⟩ (.int .i32 1)).cell? pn = some (.int .i64 now) := (World.cell?_setCell_other _ ⟨b, off + 1, none⟩ pn _ (fun h => hbn (by rw [← h]))).trans hpn
  have q3 : (w.setCell ⟨b, off + 1, none⟩ (.int .i32 1)).cell? ⟨b, off + 3, none⟩ = some (.int .i64 x3) := (oth _ _ _ _ (by omega)).trans h3
  have q4 : (w.setCell ⟨b, off + 1, none⟩ (.int .i32 1)).cell? ⟨b, off + 4, none⟩ = some x4 := (oth _ _ _ _ (by omega)).trans h4
  have hnot : ∀ (x : Bool) (w : World), (Op.unary .not (.bool x)).run Try.prog w = .ok (.bool (!x)) w := fun _ _ => rfl
  go_enter_defers Try.func92, Try.ntmps92
  go_wp2_with (first | (go_at_call 106; refine (lock_free ⟨b, off + 1, none⟩ _ (by go_simp) (by go_simp)).mono ?_; rintro e w' ⟨rfl, rfl⟩) | (go_at_call 70; refine (clo_any b off pf pn hbf now x3 x4 _ qf qn q3 q4 (by simp [f3]) (by simp [f4])).mono ?_; rintro e w' ⟨rfl, rfl⟩) | (go_at_call 78; go_in))
  refine leaves_cons (f := 72) (args := #[.pointer (some ⟨b, off, none⟩), .bool true]) (by simp) (by simp [go_sem]) ?_
  refine (store_deferred ⟨b, off, none⟩ (.int .u32 0) .returning _ ?_ (by simp [f0])).mono ?_
  · exact (oth _ _ _ _ (by omega)).trans ((oth _ _ _ _ (by omega)).trans ((oth _ _ _ _ (by omega)).trans h0))
  rintro e u' w'' ⟨rfl, rfl, rfl⟩
  refine leaves_cons (f := 107) (args := #[.pointer (some ⟨b, off + 1, none⟩)]) (by simp [settle]) (by simp [go_sem]) ?_
  refine (unlock_deferred ⟨b, off + 1, none⟩ _ _ ?_ (by simp [f1])).mono ?_
  · exact (oth _ _ _ _ (by omega)).trans ((oth _ _ _ _ (by omega)).trans ((oth _ _ _ _ (by omega)).trans (World.cell?_setCell_same w _ _ h1)))
  rintro e u' w'' ⟨rfl, rfl, rfl⟩
  simp [Leaves, settle, results, Try.results92]
  rfl
/-- Done once. -/
theorem do_first (b off : Nat) (pf pn : Addr) (hbf : ¬ b = pf.block) (hbn : ¬ b = pn.block) (now x3 : Int) (x4 : Value) (w : World) (hpf : w.cell? pf = some (.pointer (some ⟨b, off, none⟩))) (hpn : w.cell? pn = some (.int .i64 now)) (h0 : w.cell? ⟨b, off, none⟩ = some (.int .u32 0)) (h1 : w.cell? ⟨b, off + 1, none⟩ = some (.int .i32 0)) (h3 : w.cell? ⟨b, off + 3, none⟩ = some (.int .i64 x3)) (h4 : w.cell? ⟨b, off + 4, none⟩ = some x4)
    (f0 : w.frozen? ⟨b, off, none⟩ = false) (f1 : w.frozen? ⟨b, off + 1, none⟩ = false) (f3 : w.frozen? ⟨b, off + 3, none⟩ = false) (f4 : w.frozen? ⟨b, off + 4, none⟩ = false) :
    Calls Try.prog 69 #[.pointer (some ⟨b, off, none⟩), .func (.func 70) #[] #[.pointer (some pf), .pointer (some pn)]] w fun e w' => e = .returned (.tuple #[]) ∧
      w' = ((((w.setCell ⟨b, off + 1, none⟩ (.int .i32 1)).drew.setCell ⟨b, off + 3, none⟩ (.int .i64 now)).drew.setCell ⟨b, off + 4, none⟩ (.int .u32 1)).drew.setCell ⟨b, off, none⟩ (.int .u32 1)).setCell ⟨b, off + 1, none⟩ (.int .i32 0) := by
  have hl := run_call_load (P := Try.prog) Try.func98 (by kernel_rfl) (by kernel_rfl) (by kernel_rfl) .u32 (by kernel_rfl) h0
  have hnot : ∀ (x : Bool) (w : World), (Op.unary .not (.bool x)).run Try.prog w = .ok (.bool (!x)) w := fun _ _ => rfl
  go_enter Try.func69, Try.ntmps69
  go_wp2_with (first | (go_at_call 92; refine (slow_any b off pf pn hbf hbn now x3 x4 _ hpf hpn h0 h1 h3 h4 f0 f1 f3 f4).mono ?_; rintro e w' ⟨rfl, rfl⟩) | (go_at_call 78; go_in))
  go_end0
  exact ⟨rfl, rfl⟩
/-- Done already. -/
theorem do_done (a : Addr) (fv : Value) (w : World) (h0 : w.cell? a = some (.int .u32 1)) : Calls Try.prog 69 #[.pointer (some a), fv] w fun e w' => e = .returned (.tuple #[]) ∧ w' = w := by
  have hl := run_call_load (P := Try.prog) Try.func98 (by kernel_rfl) (by kernel_rfl) (by kernel_rfl) .u32 (by kernel_rfl) h0
  have hnot : ∀ (x : Bool) (w : World), (Op.unary .not (.bool x)).run Try.prog w = .ok (.bool (!x)) w := fun _ _ => rfl
  go_enter Try.func69, Try.ntmps69
  go_wp2
  go_end0
  exact ⟨rfl, rfl⟩

end Go.Proofs.Ytgedefcjngofkaa

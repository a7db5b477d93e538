import Derived.Test.YtobigfbgaiglkaaFacts
import Derived.Test.YtobigfbgaiglkaaPDice
import Derived.Test.YtobigfbgaiglkaaPTimer
import Derived.Test.YtobigfbgaiglkaaAmB
set_option maxHeartbeats 8000000
set_option linter.unusedSimpArgs false
set_option linter.unusedVariables false
set_option maxRecDepth 100000
namespace Go.Proofs.Ytobigfbgaiglkaa
open Go Go.Proofs.Ytobigfbgaiglkaa.AM
theorem dec_int {x : List AV} (h : Shaped Try.prog 3 x) : ∃ n : Int, pack Try.prog 3 x = AV.int .i64 n ∧ x = [.int .i64 n] ∧ I64 n := by
  obtain ⟨n, rfl, h1, h2⟩ := shaped_int ty3 h
  exact ⟨n, pack_one ty3 rfl _, rfl, h1, h2⟩
theorem dec_Lint {x : List AV} (h : Shaped Try.prog 41 x) : ∃ l : List Int, pack Try.prog 41 x = AV.imm (l.map (AV.int .i64)) ∧ x = [.imm (l.map (AV.int .i64))] ∧ l.length * 8 ≤ 140737488351232 ∧ ∀ y ∈ l, I64 y := by
  obtain ⟨l, rfl, hb, hg⟩ := shaped_list (AV.int .i64) I64 ty41 h (fun y hy => by obtain ⟨n, h1, _, h2⟩ := dec_int hy; exact ⟨n, h1, h2⟩)
  exact ⟨l, pack_one ty41 rfl _, rfl, reach_len ty3 hb, hg⟩
theorem dec_polyglotlaw21_Act {x : List AV} (h : Shaped Try.prog 28 x) : ∃ s : TAct, pack Try.prog 28 x = encTA s ∧ .agg x = encTA s ∧ (fun _ => True) s := by
  obtain ⟨l, rfl, hs⟩ := shaped_struct (ts := [3, 3, 3, 3]) ty28 (by kernel_rfl) h
  match l, hs with
  | [l0, l1, l2, l3], ⟨h0, h1, h2, h3, _⟩ =>
    obtain ⟨x0, _, e0, g0⟩ := dec_int h0
    obtain ⟨x1, _, e1, g1⟩ := dec_int h1
    obtain ⟨x2, _, e2, g2⟩ := dec_int h2
    obtain ⟨x3, _, e3, g3⟩ := dec_int h3
    have c0 := e0
    have c1 := e1
    have c2 := e2
    have c3 := e3
    refine ⟨⟨x0, x1, x2, x3⟩, ?_, ?_, trivial⟩
    · rw [pack_agg ty28 rfl]; rw [c0, c1, c2, c3]; rfl
    · rw [c0, c1, c2, c3]; rfl
theorem dec_Lpolyglotlaw21_Act {x : List AV} (h : Shaped Try.prog 22 x) : ∃ l : List TAct, pack Try.prog 22 x = AV.imm (l.map encTA) ∧ x = [.imm (l.map encTA)] ∧ l.length * 32 ≤ 140737488351232 ∧ ∀ y ∈ l, (fun _ => True) y := by
  obtain ⟨l, rfl, hb, hg⟩ := shaped_list encTA (fun _ => True) ty22 h (fun y hy => by obtain ⟨n, h1, _, h2⟩ := dec_polyglotlaw21_Act hy; exact ⟨n, h1, h2⟩)
  exact ⟨l, pack_one ty22 rfl _, rfl, reach_len ty28 hb, hg⟩
end Go.Proofs.Ytobigfbgaiglkaa

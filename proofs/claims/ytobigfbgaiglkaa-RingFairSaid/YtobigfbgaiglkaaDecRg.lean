import Derived.Test.YtobigfbgaiglkaaFacts
import Derived.Test.YtobigfbgaiglkaaPDice
import Derived.Test.YtobigfbgaiglkaaAmB
set_option maxHeartbeats 8000000
set_option linter.unusedSimpArgs false
set_option linter.unusedVariables false
set_option maxRecDepth 100000
namespace Go.Proofs.Ytobigfbgaiglkaa
open Go Go.Proofs.Ytobigfbgaiglkaa.AM
theorem dec_int {x : List AV} (h : Shaped Try.prog 3 x) : ∃ n : Int, pack Try.prog 3 x = AV.int .i64 n ∧ x = [.int .i64 n] ∧ I64 n := by
  obtain ⟨n, rfl, h1, h2⟩ := shaped_int ty3 h
  exact ⟨n, pack_one ty3 rfl _, rfl, h1, h2⟩
theorem dec_Lint {x : List AV} (h : Shaped Try.prog 41 x) : ∃ l : List Int, pack Try.prog 41 x = AV.imm (l.map (AV.int .i64)) ∧ x = [.imm (l.map (AV.int .i64))] ∧ l.length * 8 ≤ 140737488351232 ∧ ∀ y ∈ l, I64 y := by
  obtain ⟨l, rfl, hb, hg⟩ := shaped_list (AV.int .i64) I64 ty41 h (fun y hy => by obtain ⟨n, h1, _, h2⟩ := dec_int hy; exact ⟨n, h1, h2⟩)
  exact ⟨l, pack_one ty41 rfl _, rfl, reach_len ty3 hb, hg⟩
theorem dec_LLint {x : List AV} (h : Shaped Try.prog 43 x) : ∃ l : List (List Int), pack Try.prog 43 x = AV.imm (l.map (fun (l : List Int) => AV.imm (l.map (AV.int .i64)))) ∧ x = [.imm (l.map (fun (l : List Int) => AV.imm (l.map (AV.int .i64))))] ∧ l.length * 24 ≤ 140737488351232 ∧ ∀ y ∈ l, (fun (l : List Int) => l.length * 8 ≤ 140737488351232 ∧ ∀ y ∈ l, I64 y) y := by
  obtain ⟨l, rfl, hb, hg⟩ := shaped_list (fun (l : List Int) => AV.imm (l.map (AV.int .i64))) (fun (l : List Int) => l.length * 8 ≤ 140737488351232 ∧ ∀ y ∈ l, I64 y) ty43 h (fun y hy => by obtain ⟨n, h1, _, h2⟩ := dec_Lint hy; exact ⟨n, h1, h2⟩)
  exact ⟨l, pack_one ty43 rfl _, rfl, reach_len ty41 hb, hg⟩
end Go.Proofs.Ytobigfbgaiglkaa

import Derived.Test.YtobigfbgaiglkaaFacts
import Derived.Test.YtobigfbgaiglkaaPDice
import Derived.Test.YtobigfbgaiglkaaPPeers
import Derived.Test.YtobigfbgaiglkaaAmB
set_option maxHeartbeats 8000000
set_option linter.unusedSimpArgs false
set_option linter.unusedVariables false
set_option maxRecDepth 100000
namespace Go.Proofs.Ytobigfbgaiglkaa
open Go Go.Proofs.Ytobigfbgaiglkaa.AM
theorem dec_int {x : List AV} (h : Shaped Try.prog 3 x) : ∃ n : Int, pack Try.prog 3 x = AV.int .i64 n ∧ x = [.int .i64 n] ∧ I64 n := by
  obtain ⟨n, rfl, h1, h2⟩ := shaped_int ty3 h
  exact ⟨n, pack_one ty3 rfl _, rfl, h1, h2⟩
theorem dec_api_Span {x : List AV} (h : Shaped Try.prog 107 x) : ∃ s : Sp, pack Try.prog 107 x = encSp s ∧ .agg x = encSp s ∧ (fun s => I64 s.lo ∧ I64 s.hi) s := by
  obtain ⟨l, rfl, hs⟩ := shaped_struct (ts := [3, 3]) ty107 (by kernel_rfl) h
  match l, hs with
  | [l0, l1], ⟨h0, h1, _⟩ =>
    obtain ⟨x0, _, e0, g0⟩ := dec_int h0
    obtain ⟨x1, _, e1, g1⟩ := dec_int h1
    have c0 := e0
    have c1 := e1
    refine ⟨⟨x0, x1⟩, ?_, ?_, ⟨g0, g1⟩⟩
    · rw [pack_agg ty107 rfl]; rw [c0, c1]; rfl
    · rw [c0, c1]; rfl
theorem dec_polyglotlaw23_News {x : List AV} (h : Shaped Try.prog 113 x) : ∃ s : News, pack Try.prog 113 x = encN s ∧ .agg x = encN s ∧ (fun _ => True) s := by
  obtain ⟨l, rfl, hs⟩ := shaped_struct (ts := [3, 3, 107]) ty113 (by kernel_rfl) h
  match l, hs with
  | [l0, l1, l2], ⟨h0, h1, h2, _⟩ =>
    obtain ⟨x0, _, e0, g0⟩ := dec_int h0
    obtain ⟨x1, _, e1, g1⟩ := dec_int h1
    obtain ⟨x2, _, e2, g2⟩ := dec_api_Span h2
    have c0 := e0
    have c1 := e1
    have c2 := AV.agg.inj e2
    refine ⟨⟨x0, x1, x2⟩, ?_, ?_, trivial⟩
    · rw [pack_agg ty113 rfl]; rw [c0, c1, c2]; rfl
    · rw [c0, c1, c2]; rfl
theorem dec_Lpolyglotlaw23_News {x : List AV} (h : Shaped Try.prog 103 x) : ∃ l : List News, pack Try.prog 103 x = AV.imm (l.map encN) ∧ x = [.imm (l.map encN)] ∧ l.length * 32 ≤ 140737488351232 ∧ ∀ y ∈ l, (fun _ => True) y := by
  obtain ⟨l, rfl, hb, hg⟩ := shaped_list encN (fun _ => True) ty103 h (fun y hy => by obtain ⟨n, h1, _, h2⟩ := dec_polyglotlaw23_News hy; exact ⟨n, h1, h2⟩)
  exact ⟨l, pack_one ty103 rfl _, rfl, reach_len ty113 hb, hg⟩
end Go.Proofs.Ytobigfbgaiglkaa

import Derived.Test.YtmnngdbcfdnefaaFacts
import Derived.Test.YtmnngdbcfdnefaaPDice
import Derived.Test.YtmnngdbcfdnefaaPPeers
import Derived.Test.YtmnngdbcfdnefaaAm13
set_option linter.unusedSimpArgs false
set_option linter.unusedVariables false
set_option maxRecDepth 100000
namespace Go.Proofs.Ytmnngdbcfdnefaa
open Go Go.Proofs.Ytmnngdbcfdnefaa.AM
theorem dec_int {x : List AV} (h : Shaped Try.prog 3 x) : ∃ n : Int, pack Try.prog 3 x = AV.int .i64 n ∧ x = [.int .i64 n] ∧ I64 n := by
  obtain ⟨n, rfl, h1, h2⟩ := shaped_int ty3 h
  exact ⟨n, pack_one ty3 rfl _, rfl, h1, h2⟩
theorem dec_Lint {x : List AV} (h : Shaped Try.prog 22 x) : ∃ l : List Int, pack Try.prog 22 x = AV.imm (l.map (AV.int .i64)) ∧ x = [.imm (l.map (AV.int .i64))] ∧ ∀ y ∈ l, I64 y := by
  obtain ⟨l, rfl, _, hg⟩ := shaped_list (AV.int .i64) I64 ty22 h (fun y hy => by obtain ⟨n, h1, _, h2⟩ := dec_int hy; exact ⟨n, h1, h2⟩)
  exact ⟨l, pack_one ty22 rfl _, rfl, hg⟩
theorem dec_api_Span {x : List AV} (h : Shaped Try.prog 37 x) : ∃ s : Sp, pack Try.prog 37 x = encSp s ∧ .agg x = encSp s ∧ (fun s => I64 s.lo ∧ I64 s.hi) s := by
  obtain ⟨l, rfl, hs⟩ := shaped_struct (ts := [3, 3]) ty37 (by kernel_rfl) h
  match l, hs with
  | [l0, l1], ⟨h0, h1, _⟩ =>
    obtain ⟨x0, _, e0, g0⟩ := dec_int h0
    obtain ⟨x1, _, e1, g1⟩ := dec_int h1
    have c0 := e0
    have c1 := e1
    refine ⟨⟨x0, x1⟩, ?_, ?_, ⟨g0, g1⟩⟩
    · rw [pack_agg ty37 rfl]; rw [c0, c1]; rfl
    · rw [c0, c1]; rfl
theorem dec_polyglotlaw23_News {x : List AV} (h : Shaped Try.prog 42 x) : ∃ s : News, pack Try.prog 42 x = encN s ∧ .agg x = encN s ∧ (fun _ => True) s := by
  obtain ⟨l, rfl, hs⟩ := shaped_struct (ts := [3, 3, 37]) ty42 (by kernel_rfl) h
  match l, hs with
  | [l0, l1, l2], ⟨h0, h1, h2, _⟩ =>
    obtain ⟨x0, _, e0, g0⟩ := dec_int h0
    obtain ⟨x1, _, e1, g1⟩ := dec_int h1
    obtain ⟨x2, _, e2, g2⟩ := dec_api_Span h2
    have c0 := e0
    have c1 := e1
    have c2 := AV.agg.inj e2
    refine ⟨⟨x0, x1, x2⟩, ?_, ?_, trivial⟩
    · rw [pack_agg ty42 rfl]; rw [c0, c1, c2]; rfl
    · rw [c0, c1, c2]; rfl
theorem dec_Lpolyglotlaw23_News {x : List AV} (h : Shaped Try.prog 35 x) : ∃ l : List News, pack Try.prog 35 x = AV.imm (l.map encN) ∧ x = [.imm (l.map encN)] ∧ ∀ y ∈ l, (fun _ => True) y := by
  obtain ⟨l, rfl, _, hg⟩ := shaped_list encN (fun _ => True) ty35 h (fun y hy => by obtain ⟨n, h1, _, h2⟩ := dec_polyglotlaw23_News hy; exact ⟨n, h1, h2⟩)
  exact ⟨l, pack_one ty35 rfl _, rfl, hg⟩
end Go.Proofs.Ytmnngdbcfdnefaa

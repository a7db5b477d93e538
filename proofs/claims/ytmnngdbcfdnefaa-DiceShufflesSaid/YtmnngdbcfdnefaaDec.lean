import Derived.Test.YtmnngdbcfdnefaaFacts
import Derived.Test.YtmnngdbcfdnefaaPDice
import Derived.Test.YtmnngdbcfdnefaaAm13
namespace Go.Proofs.Ytmnngdbcfdnefaa
open Go Go.Proofs.Ytmnngdbcfdnefaa.AM
theorem decI {x : List AV} (h : Shaped Try.prog 22 x) : ∃ l : List Int, pack Try.prog 22 x = encI l ∧ ∀ y ∈ l, I64 y := by
  obtain ⟨l, rfl, _, hg⟩ := shaped_list (.int .i64) I64 ty22 h (fun y hy => by obtain ⟨n, rfl, h1, h2⟩ := shaped_int ty3 hy; exact ⟨n, pack_one ty3 rfl _, h1, h2⟩)
  exact ⟨l, pack_one ty22 rfl _, hg⟩
theorem decInt {x : List AV} (h : Shaped Try.prog 3 x) : ∃ n : Int, pack Try.prog 3 x = .int .i64 n ∧ I64 n := by
  obtain ⟨n, rfl, h1, h2⟩ := shaped_int ty3 h
  exact ⟨n, pack_one ty3 rfl _, h1, h2⟩
end Go.Proofs.Ytmnngdbcfdnefaa

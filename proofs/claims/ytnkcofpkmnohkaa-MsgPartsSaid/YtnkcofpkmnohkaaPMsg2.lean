/- Plain: many records in a message. -/
import Derived.Test.YtnkcofpkmnohkaaPMsg
set_option linter.unusedVariables false
namespace Go.Proofs.Ytnkcofpkmnohkaa
open Go Go.Proofs.Ytnkcofpkmnohkaa.AM
theorem kLast (s : ByteArray) : lastI (kNames.drop 1) 1 s 0 = kOf s := by
  simp only [lastI, kOf, kIdx, kNames, List.drop_succ_cons, List.drop_zero]
  by_cases h1 : (⟨#[104, 101, 108, 108, 111]⟩ : ByteArray) = s
  · subst h1; decide
  by_cases h2 : (⟨#[119, 101, 108, 99, 111, 109, 101]⟩ : ByteArray) = s
  · subst h2; decide
  by_cases h3 : (⟨#[114, 101, 106, 101, 99, 116]⟩ : ByteArray) = s
  · subst h3; decide
  by_cases h4 : (⟨#[112, 105, 110, 103]⟩ : ByteArray) = s
  · subst h4; decide
  by_cases h5 : (⟨#[97, 99, 107]⟩ : ByteArray) = s
  · subst h5; decide
  by_cases h6 : (⟨#[97, 115, 107]⟩ : ByteArray) = s
  · subst h6; decide
  by_cases h7 : (⟨#[112, 117, 115, 104]⟩ : ByteArray) = s
  · subst h7; decide
  by_cases h8 : (⟨#[112, 117, 108, 108]⟩ : ByteArray) = s
  · subst h8; decide
  by_cases h9 : (⟨#[114, 101, 115, 101, 116]⟩ : ByteArray) = s
  · subst h9; decide
  simp [h1, h2, h3, h4, h5, h6, h7, h8, h9]
def manyR (i : Nat) : Rc := ⟨(i : Int), 0, 0, ⟨1, 1⟩, false, []⟩
def manyL (n : Nat) : List Rc := (List.range n).map manyR
theorem manyL_succ (n : Nat) : manyL (n + 1) = manyL n ++ [manyR n] := by simp [manyL, List.range_succ]
theorem manyL_length (n : Nat) : (manyL n).length = n := by simp [manyL]
theorem manyL_small (n : Nat) : ∀ x ∈ manyL n, Small x.bag := by
  intro x hx
  simp only [manyL, List.mem_map] at hx
  obtain ⟨i, _, rfl⟩ := hx
  exact ⟨by simp [manyR], by simp [manyR, bsize]⟩
theorem many_go : ∀ (j i n : Nat), i + j = n → n ≤ 4096 → srtGo ((i : Int) - 1) ((List.range' i j).map manyR) = true
  | 0, i, n, _, _ => rfl
  | j + 1, i, n, h, hn => by
    rw [List.range'_succ, List.map_cons, srtGo]
    have ih := many_go j (i + 1) n (by omega) hn
    have e : (manyR i).id = ((i + 1 : Nat) : Int) - 1 := by simp [manyR]
    rw [e, ih]
    have hv : recValid (manyR i) = true := by
      have h0 : (0 : Int) ≤ i ∧ (i : Int) ≤ 4095 := by omega
      have hsp : spValid (⟨1, 1⟩ : Sp) = true := by decide
      simp [recValid, manyR, h0, hsp, bagValid, bvGo]
    rw [hv, decide_eq_true (by omega)]; rfl
theorem many_srt {n : Nat} (h : n ≤ 4096) : srt (manyL n) = true := by
  have := many_go n 0 n (by omega) h
  rw [manyL, List.range_eq_range']
  exact this
theorem many_valid {k : Int} {n : Nat} (hk : 4 ≤ k ∧ k ≤ 8) (hn : n ≤ 300) : mvalid ⟨k, 0, 0, ⟨1, 1⟩, 0, 0, 0, 0, 0, manyL n⟩ = decide ((n : Int) ≤ 255) := by
  rw [mvalid_eq, many_srt (by omega), Bool.or_true, Bool.and_true]
  have hsp : spValid (⟨1, 1⟩ : Sp) = true := by decide
  show (spValid (⟨1, 1⟩ : Sp) && _) = _
  rw [hsp, Bool.true_and]
  refine decide_eq_decide.2 ?_
  unfold ValidP LivesP
  simp [manyL_length]
  omega
end Go.Proofs.Ytnkcofpkmnohkaa

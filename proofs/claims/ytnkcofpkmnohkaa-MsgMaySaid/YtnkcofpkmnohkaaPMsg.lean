/- Plain: messages. -/
import Derived.Test.YtnkcofpkmnohkaaPRec3
import Derived.Test.YtnkcofpkmnohkaaAm25
set_option linter.unusedVariables false
namespace Go.Proofs.Ytnkcofpkmnohkaa
open Go Go.Proofs.Ytnkcofpkmnohkaa.AM
structure Mg where
  kind : Int
  frm : Int
  inc : Int
  sp : Sp
  seq : Int
  target : Int
  life : Int
  epoch : Int
  base : Int
  recs : List Rc
  deriving DecidableEq
def encM (m : Mg) : AV := .agg [.int .i64 m.kind, .int .i64 m.frm, .int .i64 m.inc, .int .i64 m.sp.lo, .int .i64 m.sp.hi, .int .i64 m.seq, .int .i64 m.target, .int .i64 m.life, .int .i64 m.epoch, .int .i64 m.base, encRs m.recs]
def kNames : List ByteArray := [⟨#[]⟩, ⟨#[104, 101, 108, 108, 111]⟩, ⟨#[119, 101, 108, 99, 111, 109, 101]⟩, ⟨#[114, 101, 106, 101, 99, 116]⟩, ⟨#[112, 105, 110, 103]⟩, ⟨#[97, 99, 107]⟩, ⟨#[97, 115, 107]⟩, ⟨#[112, 117, 115, 104]⟩, ⟨#[112, 117, 108, 108]⟩, ⟨#[114, 101, 115, 101, 116]⟩]
def kParts : List Int := [0, 1, 1, 2, 17, 17, 19, 28, 20, 4]
def kTable : List AV := ((kNames.zip kParts).map fun p => [AV.str p.1, AV.int .u8 p.2]).flatten
def kName (k : Int) : ByteArray := if k < 1 ∨ 9 < k then ⟨#[]⟩ else (kNames[k.toNat]?).getD ⟨#[]⟩
def kPart (k : Int) : Int := if k < 1 ∨ 9 < k then 0 else (kParts[k.toNat]?).getD 0
def encRow (k : Int) : AV := .agg [.str (kName k), .int .u8 (kPart k)]
theorem k_cases {k : Int} (h : ¬ (k < 1 ∨ 9 < k)) : k = 1 ∨ k = 2 ∨ k = 3 ∨ k = 4 ∨ k = 5 ∨ k = 6 ∨ k = 7 ∨ k = 8 ∨ k = 9 := by omega
theorem kTable_at {k : Int} (h : ¬ (k < 1 ∨ 9 < k)) : (kTable.drop (k.toNat * 2)).take 2 = [.str (kName k), .int .u8 (kPart k)] := by
  rcases k_cases h with h | h | h | h | h | h | h | h | h <;> subst h <;> rfl
def has10 (k p : Int) : Bool :=
  if p = 0 then decide (k = 1) || decide (k = 2) || decide (k = 4) || decide (k = 5) || decide (k = 6)
  else if p = 1 then decide (k = 3) || decide (k = 6)
  else if p = 2 then decide (k = 7) || decide (k = 8) || decide (k = 9)
  else if p = 3 then decide (k = 7)
  else decide (p = 4) && decide (4 ≤ k) && decide (k ≤ 8)
theorem has10_in {k p : Int} (h : has10 k p = true) : 1 ≤ k ∧ k ≤ 9 := by
  unfold has10 at h
  repeat' split at h
  all_goals simp only [Bool.or_eq_true, Bool.and_eq_true, decide_eq_true_eq] at h
  all_goals omega
theorem has10_part {k p : Int} (h : ¬ (0 ≤ p ∧ p ≤ 4)) : has10 k p = false := by
  refine Bool.eq_false_iff.2 fun h2 => ?_
  unfold has10 at h2
  repeat' split at h2
  all_goals simp only [Bool.or_eq_true, Bool.and_eq_true, decide_eq_true_eq] at h2
  all_goals omega
theorem kBit {k p : Int} (h0 : 0 ≤ p) (h4 : p ≤ 4) : decide (IntKind.wrap .u8 ((BitVec.ofInt (IntKind.bits .u8) ((kPart k).fdiv (2 ^ (min p.toNat (IntKind.bits .u8)))) &&& BitVec.ofInt (IntKind.bits .u8) 1).toNat) = 1) = has10 k p := by
  obtain hp | hp | hp | hp | hp : p = 0 ∨ p = 1 ∨ p = 2 ∨ p = 3 ∨ p = 4 := by omega
  all_goals subst hp
  all_goals by_cases hk : k < 1 ∨ 9 < k
  all_goals first
    | (rcases k_cases hk with h | h | h | h | h | h | h | h | h <;> subst h <;> decide)
    | (rw [show kPart k = 0 from if_pos hk]; refine Eq.trans (b := false) (by decide) (Eq.symm (Bool.eq_false_iff.2 fun h => ?_)); have := has10_in h; omega)
def kIdx (l : List ByteArray) (s : ByteArray) (i : Int) : Int := match l with
  | [] => 0
  | x :: r => if 0 < i ∧ x = s then i else kIdx r s (i + 1)
def kOf (s : ByteArray) : Int := kIdx kNames s 0
theorem kName_get {k : Int} (h : ¬ (k < 1 ∨ 9 < k)) : kNames[k.toNat]? = some (kName k) := by
  rcases k_cases h with h | h | h | h | h | h | h | h | h <;> subst h <;> rfl
theorem kName_none {k : Int} : decide (kName k = ⟨#[]⟩) = !decide (1 ≤ k ∧ k ≤ 9) := by
  by_cases h : k < 1 ∨ 9 < k
  · rw [show kName k = ⟨#[]⟩ from if_pos h, decide_eq_true rfl, decide_eq_false (by omega)]; rfl
  · rw [decide_eq_true (p := 1 ≤ k ∧ k ≤ 9) (by omega)]
    rcases k_cases h with h | h | h | h | h | h | h | h | h <;> subst h <;> decide
theorem kTable_nth {k : Nat} {x : ByteArray} (h : kNames[k]? = some x) : ∃ q, (kTable.drop (k * 2)).take 2 = [.str x, .int .u8 q] := by
  obtain ⟨hk, _⟩ := List.getElem?_eq_some_iff.1 h
  have hk' : k < 10 := hk
  obtain hk | hk | hk | hk | hk | hk | hk | hk | hk | hk : k = 0 ∨ k = 1 ∨ k = 2 ∨ k = 3 ∨ k = 4 ∨ k = 5 ∨ k = 6 ∨ k = 7 ∨ k = 8 ∨ k = 9 := by omega
  all_goals (subst hk; cases h; exact ⟨_, rfl⟩)
def mwithin (had : Bool) (v lo hi : Int) : Bool := if had then decide (lo ≤ v ∧ v ≤ hi) else decide (v = 0)
def mlives (m : Mg) : Bool := mwithin (has10 m.kind 2) m.life 0 281474976710655 && mwithin (has10 m.kind 2) m.epoch 0 65535 && !(decide (m.epoch = 0) && (!decide (m.life = 0) || decide (m.kind = 9))) && (decide (m.base = 0) || has10 m.kind 3 && decide (0 < m.base ∧ m.base < m.epoch))
def mvalid (m : Mg) : Bool := decide (1 ≤ m.kind ∧ m.kind ≤ 9 ∧ 0 ≤ m.frm ∧ m.frm ≤ 4095 ∧ 0 ≤ m.inc ∧ m.inc ≤ 281474976710655) && spValid m.sp && mwithin (has10 m.kind 0) m.seq 0 65535 && mwithin (has10 m.kind 1) m.target (if m.kind = 3 then 1 else 0) (if m.kind = 3 then 3 else 4095) && mlives m && (if has10 m.kind 4 then decide (m.recs.length ≤ 255) && srt m.recs else decide (m.recs.length = 0))
theorem kName_in {k : Int} (h : ¬ kName k = ⟨#[]⟩) : 1 ≤ k ∧ k ≤ 9 := by
  have := @kName_none k
  rw [decide_eq_false h] at this
  simpa using this
theorem kName_out {k : Int} (h : kName k = ⟨#[]⟩) : ¬ (1 ≤ k ∧ k ≤ 9) := by
  have := @kName_none k
  rw [decide_eq_true h] at this
  simp at this
  omega
theorem mg_eq (a b : Mg) : a = b ↔ a.kind = b.kind ∧ a.frm = b.frm ∧ a.inc = b.inc ∧ a.sp.lo = b.sp.lo ∧ a.sp.hi = b.sp.hi ∧ a.seq = b.seq ∧ a.target = b.target ∧ a.life = b.life ∧ a.epoch = b.epoch ∧ a.base = b.base ∧ a.recs = b.recs := by
  obtain ⟨_, _, _, ⟨_, _⟩, _, _, _, _, _, _⟩ := a
  obtain ⟨_, _, _, ⟨_, _⟩, _, _, _, _, _, _⟩ := b
  simp [and_assoc]
def mhead (m : Mg) : Mg := { m with recs := [] }
theorem has10_0 (k : Int) : has10 k 0 = decide (k = 1 ∨ k = 2 ∨ k = 4 ∨ k = 5 ∨ k = 6) := by simp [has10, Bool.or_assoc]
theorem has10_1 (k : Int) : has10 k 1 = decide (k = 3 ∨ k = 6) := by simp [has10]
theorem has10_2 (k : Int) : has10 k 2 = decide (k = 7 ∨ k = 8 ∨ k = 9) := by simp [has10, Bool.or_assoc]
theorem has10_3 (k : Int) : has10 k 3 = decide (k = 7) := by simp [has10]
theorem has10_4 (k : Int) : has10 k 4 = decide (4 ≤ k ∧ k ≤ 8) := by simp [has10]
theorem has10_dec (k p : Int) : has10 k p = decide ((p = 0 ∧ (k = 1 ∨ k = 2 ∨ k = 4 ∨ k = 5 ∨ k = 6)) ∨ (p = 1 ∧ (k = 3 ∨ k = 6)) ∨ (p = 2 ∧ (k = 7 ∨ k = 8 ∨ k = 9)) ∨ (p = 3 ∧ k = 7) ∨ (p = 4 ∧ 4 ≤ k ∧ k ≤ 8)) := by
  rw [Bool.eq_iff_iff, decide_eq_true_eq]
  unfold has10
  repeat' split
  all_goals simp only [Bool.or_eq_true, Bool.and_eq_true, decide_eq_true_eq]
  all_goals omega
theorem mwithin_eq (p : Prop) [Decidable p] (v lo hi : Int) : mwithin (decide p) v lo hi = decide ((p ∧ lo ≤ v ∧ v ≤ hi) ∨ (¬ p ∧ v = 0)) := by
  by_cases h : p <;> simp [mwithin, h]
def LivesP (m : Mg) : Prop :=
  (((m.kind = 7 ∨ m.kind = 8 ∨ m.kind = 9) ∧ 0 ≤ m.life ∧ m.life ≤ 281474976710655 ∧ 0 ≤ m.epoch ∧ m.epoch ≤ 65535) ∨ (¬ (m.kind = 7 ∨ m.kind = 8 ∨ m.kind = 9) ∧ m.life = 0 ∧ m.epoch = 0)) ∧
  ¬ (m.epoch = 0 ∧ (m.life ≠ 0 ∨ m.kind = 9)) ∧ (m.base = 0 ∨ (m.kind = 7 ∧ 0 < m.base ∧ m.base < m.epoch))
instance (m : Mg) : Decidable (LivesP m) := by unfold LivesP; infer_instance
theorem mlives_eq (m : Mg) : mlives m = decide (LivesP m) := by
  rw [Bool.eq_iff_iff, decide_eq_true_eq]
  unfold mlives LivesP
  rw [has10_2, has10_3, mwithin_eq, mwithin_eq]
  simp only [Bool.and_eq_true, Bool.or_eq_true, Bool.not_eq_true', Bool.and_eq_false_iff, Bool.or_eq_false_iff, Bool.not_eq_false', decide_eq_true_eq, decide_eq_false_iff_not]
  omega
def ValidP (m : Mg) : Prop := (1 ≤ m.kind ∧ m.kind ≤ 9 ∧ 0 ≤ m.frm ∧ m.frm ≤ 4095 ∧ 0 ≤ m.inc ∧ m.inc ≤ 281474976710655) ∧
  (((m.kind = 1 ∨ m.kind = 2 ∨ m.kind = 4 ∨ m.kind = 5 ∨ m.kind = 6) ∧ 0 ≤ m.seq ∧ m.seq ≤ 65535) ∨ (¬ (m.kind = 1 ∨ m.kind = 2 ∨ m.kind = 4 ∨ m.kind = 5 ∨ m.kind = 6) ∧ m.seq = 0)) ∧
  ((m.kind = 3 ∧ 1 ≤ m.target ∧ m.target ≤ 3) ∨ (m.kind = 6 ∧ 0 ≤ m.target ∧ m.target ≤ 4095) ∨ (¬ (m.kind = 3 ∨ m.kind = 6) ∧ m.target = 0)) ∧ LivesP m ∧
  (((4 ≤ m.kind ∧ m.kind ≤ 8) ∧ (m.recs.length : Int) ≤ 255) ∨ (¬ (4 ≤ m.kind ∧ m.kind ≤ 8) ∧ (m.recs.length : Int) = 0))
instance (m : Mg) : Decidable (ValidP m) := by unfold ValidP; infer_instance
theorem mvalid_eq (m : Mg) : mvalid m = (spValid m.sp && (decide (ValidP m) && (!decide (4 ≤ m.kind ∧ m.kind ≤ 8) || srt m.recs))) := by
  rw [Bool.eq_iff_iff]
  unfold mvalid ValidP
  rw [has10_0, has10_1, has10_4, mwithin_eq, mwithin_eq, mlives_eq]
  by_cases hL : LivesP m <;> by_cases hp : spValid m.sp = true <;> by_cases hs : srt m.recs = true <;> by_cases h3 : m.kind = 3 <;> by_cases h4 : 4 ≤ m.kind ∧ m.kind ≤ 8
  all_goals first | simp only [hL, hp, hs, eq_true h3, h4, and_true, true_and, and_false, false_and, true_or, or_true, false_or, or_false, not_true, not_false_eq_true, if_true, if_false, decide_true, decide_false, Bool.and_eq_true, Bool.or_eq_true, Bool.not_eq_true', decide_eq_true_eq, decide_eq_false_iff_not, Bool.false_eq_true, if_pos, if_neg, Bool.not_true, Bool.not_false, Bool.or_true, Bool.or_false, Bool.true_or, Bool.false_or, Bool.and_true] | simp only [hL, hp, hs, eq_false h3, h4, and_true, true_and, and_false, false_and, true_or, or_true, false_or, or_false, not_true, not_false_eq_true, if_true, if_false, decide_true, decide_false, Bool.and_eq_true, Bool.or_eq_true, Bool.not_eq_true', decide_eq_true_eq, decide_eq_false_iff_not, Bool.false_eq_true, if_pos, if_neg, Bool.not_true, Bool.not_false, Bool.or_true, Bool.or_false, Bool.true_or, Bool.false_or, Bool.and_true]
  all_goals omega
end Go.Proofs.Ytnkcofpkmnohkaa

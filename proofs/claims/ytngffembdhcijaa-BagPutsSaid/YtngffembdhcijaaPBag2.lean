/- Plain: bags with one field more, without a tag; bags as the law tells them. -/
import Derived.Test.YtngffembdhcijaaPRec3
import Derived.Test.YtngffembdhcijaaPIns
import Derived.Test.YtngffembdhcijaaAm22
set_option linter.unusedVariables false
namespace Go.Proofs.Ytngffembdhcijaa
open Go.Proofs.Ytngffembdhcijaa.AM
def U8s (b : List Fd) : Prop := ∀ f ∈ b, ∀ y ∈ f.data, 0 ≤ y ∧ y ≤ 255
def insPt (b : List Fd) (t : Int) : Nat := (b.takeWhile (fun x => decide (x.tag ≤ t))).length
def bins (b : List Fd) (f : Fd) : List Fd := b.take (insPt b f.tag) ++ [f] ++ b.drop (insPt b f.tag)
theorem insPt_at {b : List Fd} {t : Int} {k : Nat} (h : (b.take k).all (fun x => decide (x.tag ≤ t)) = true) (hk : k ≤ b.length) (he : ∀ x, b[k]? = some x → t < x.tag) : insPt b t = k := by
  unfold insPt
  induction b generalizing k with
  | nil => simp at hk; subst hk; rfl
  | cons y b ih =>
    cases k with
    | zero =>
      have := he y rfl
      rw [List.takeWhile_cons, if_neg (by simp; omega)]; rfl
    | succ k =>
      simp only [List.take_succ_cons, List.all_cons, Bool.and_eq_true, decide_eq_true_eq] at h
      rw [List.takeWhile_cons, if_pos (by simp; exact h.1), List.length_cons, ih h.2 (by simpa using hk) (fun x hx => he x (by simpa using hx))]
theorem insPt_le (b : List Fd) (t : Int) : insPt b t ≤ b.length := by
  unfold insPt
  induction b with
  | nil => simp
  | cons y b ih => rw [List.takeWhile_cons]; split <;> simp <;> omega
def bput (b : List Fd) (f : Fd) : List Fd × Int := if (bagValid b && bagValid [f]) = true then (if bagValid (bins b f) = true then (bins b f, 0) else ([], 6)) else ([], 1)
theorem bsize_append (a b : List Fd) : bsize (a ++ b) = bsize a + bsize b := by
  induction a with
  | nil => simp [bsize]
  | cons f a ih => simp only [List.cons_append, bsize, ih]; omega
theorem bvGo_size : ∀ (b : List Fd) (last s : Int), bvGo b last s = true → b = [] ∨ s + bsize b ≤ 4096
  | [], _, _, _ => .inl rfl
  | f :: l, last, s, h => by
    simp only [bvGo] at h
    split at h
    · cases h
    · split at h
      · cases h
      · right
        rcases bvGo_size l _ _ h with rfl | h2
        · simp [bsize]; omega
        · simp only [bsize]; omega
theorem bagValid_size {b : List Fd} (h : bagValid b = true) : b.length ≤ 32 ∧ bsize b ≤ 4096 := by
  unfold bagValid at h
  split at h
  · cases h
  · refine ⟨by omega, ?_⟩
    rcases bvGo_size b 32 0 h with rfl | h2
    · simp [bsize]
    · omega
theorem bins_small {b : List Fd} {f : Fd} (h : bagValid b = true) (hf : bagValid [f] = true) : Small (bins b f) := by
  have h1 := bagValid_size h
  have h2 := bagValid_size hf
  have h3 := insPt_le b f.tag
  have h4 : bsize (b.take (insPt b f.tag)) + bsize (b.drop (insPt b f.tag)) = bsize b := by rw [← bsize_append, List.take_append_drop]
  refine ⟨by simp [bins]; omega, ?_⟩
  simp only [bins, bsize_append]
  omega
/-- In order, as the law tells it. -/
def ordGo : Int → List Fd → Bool
  | _, [] => true
  | last, f :: l => decide (last ≤ f.tag ∧ f.tag ≤ 255) && ordGo f.tag l
theorem bvGo_iff : ∀ (b : List Fd) (last s : Int), bvGo b last s = true ↔ ordGo last b = true ∧ (b = [] ∨ s + bsize b ≤ 4096)
  | [], _, _ => by simp [bvGo, ordGo]
  | f :: l, last, s => by
    have ih := bvGo_iff l f.tag (s + f.data.length)
    have hb := bsize_nonneg l
    have e : bsize (f :: l) = f.data.length + bsize l := rfl
    have e2 : bvGo (f :: l) last s = if f.tag < last ∨ 255 < f.tag then false else if 4096 < s + f.data.length then false else bvGo l f.tag (s + f.data.length) := rfl
    have e3 : ordGo last (f :: l) = true ↔ (last ≤ f.tag ∧ f.tag ≤ 255) ∧ ordGo f.tag l = true := by simp [ordGo]
    rw [e2, e3, e]
    by_cases h1 : f.tag < last ∨ 255 < f.tag
    · rw [if_pos h1]
      constructor
      · intro h; cases h
      · intro h; omega
    · rw [if_neg h1]
      by_cases h2 : 4096 < s + f.data.length
      · rw [if_pos h2]
        constructor
        · intro h; cases h
        · intro h; rcases h.2 with h | h
          · cases h
          · omega
      · rw [if_neg h2, ih]
        constructor
        · rintro ⟨h3, h4⟩
          refine ⟨⟨by omega, h3⟩, .inr ?_⟩
          rcases h4 with rfl | h4
          · simp only [bsize]; omega
          · omega
        · rintro ⟨h3, h4⟩
          refine ⟨h3.2, .inr ?_⟩
          rcases h4 with h4 | h4
          · cases h4
          · omega
theorem bagValid_iff (b : List Fd) : bagValid b = true ↔ b.length ≤ 32 ∧ bsize b ≤ 4096 ∧ ordGo 32 b = true := by
  unfold bagValid
  by_cases h : 32 < b.length
  · rw [if_pos h]
    constructor
    · intro h; cases h
    · intro h; omega
  · rw [if_neg h, bvGo_iff]
    constructor
    · rintro ⟨h1, h2⟩
      refine ⟨by omega, ?_, h1⟩
      rcases h2 with rfl | h2
      · simp [bsize]
      · omega
    · rintro ⟨h1, h2, h3⟩; exact ⟨h3, .inr (by omega)⟩
/-- Each field against the one ahead. -/
def lastTag : Int → List Fd → Int
  | last, [] => last
  | _, f :: l => lastTag f.tag l
theorem ordGo_snoc : ∀ (b : List Fd) (last : Int) (x : Fd), ordGo last (b ++ [x]) = (ordGo last b && decide (lastTag last b ≤ x.tag ∧ x.tag ≤ 255))
  | [], last, x => by
    show (decide (last ≤ x.tag ∧ x.tag ≤ 255) && true) = (true && decide (last ≤ x.tag ∧ x.tag ≤ 255))
    rw [Bool.and_true, Bool.true_and]
  | f :: l, last, x => by
    have ih := ordGo_snoc l f.tag x
    show (decide (last ≤ f.tag ∧ f.tag ≤ 255) && ordGo f.tag (l ++ [x])) = (decide (last ≤ f.tag ∧ f.tag ≤ 255) && ordGo f.tag l && decide (lastTag f.tag l ≤ x.tag ∧ x.tag ≤ 255))
    rw [ih, Bool.and_assoc]
theorem lastTag_take : ∀ (b : List Fd) (last : Int) (k : Nat) (y : Fd), b[k]? = some y → lastTag last (b.take (k + 1)) = y.tag
  | [], _, _, _, h => by simp at h
  | f :: l, last, 0, y, h => by simp at h; subst h; rfl
  | f :: l, last, k + 1, y, h => by simp only [List.take_succ_cons, lastTag]; exact lastTag_take l f.tag k y (by simpa using h)
theorem ordGo_take {b : List Fd} {k : Nat} {x : Fd} (hx : b[k]? = some x) : ordGo 32 (b.take (k + 1)) = (ordGo 32 (b.take k) && decide (lastTag 32 (b.take k) ≤ x.tag ∧ x.tag ≤ 255)) := by
  rw [List.take_add_one, hx]; exact ordGo_snoc _ _ _
theorem ordGo_take_false {b : List Fd} {k : Nat} (h : ordGo 32 (b.take k) = false) : ordGo 32 b = false := by
  have key : ∀ (a c : List Fd) (last : Int), ordGo last a = false → ordGo last (a ++ c) = false := by
    intro a
    induction a with
    | nil => intro c last h; simp [ordGo] at h
    | cons f a ih =>
      intro c last h
      simp only [List.cons_append, ordGo, Bool.and_eq_false_iff] at h ⊢
      rcases h with h | h
      · exact .inl h
      · exact .inr (ih c _ h)
  rw [← List.take_append_drop k b]; exact key _ _ _ h
theorem ordGo_last {b : List Fd} {k : Nat} (h : ordGo 32 (b.take k) = true) (hk : k ≤ b.length) : 32 ≤ lastTag 32 (b.take k) := by
  have key : ∀ (a : List Fd) (last : Int), 32 ≤ last → ordGo last a = true → 32 ≤ lastTag last a := by
    intro a
    induction a with
    | nil => intro last h _; exact h
    | cons f a ih =>
      intro last h h2
      simp only [ordGo, Bool.and_eq_true, decide_eq_true_eq] at h2
      exact ih f.tag (by omega) h2.2
  exact key _ _ (by omega) h
theorem bytesLess_cmp : ∀ (a b : List Int), (∀ y ∈ a, 0 ≤ y ∧ y ≤ 255) → (∀ y ∈ b, 0 ≤ y ∧ y ≤ 255) → Go.Op.bytesLess (a.map fun n => UInt8.ofNat n.toNat) (b.map fun n => UInt8.ofNat n.toNat) = decide (cmpB a b < 0)
  | [], [], _, _ => rfl
  | [], _ :: _, _, _ => rfl
  | _ :: _, [], _, _ => rfl
  | x :: a, y :: b, ha, hb => by
    have ih := bytesLess_cmp a b (fun z hz => ha z (by simp [hz])) (fun z hz => hb z (by simp [hz]))
    have hx := ha x (by simp)
    have hy := hb y (by simp)
    have e0 : cmpB (x :: a) (y :: b) = if x < y then -1 else if y < x then 1 else cmpB a b := rfl
    have e1 := u8_lt hx hy
    have e2 := u8_inj hx hy
    rcases Int.lt_trichotomy x y with h | h | h
    · rw [if_pos h] at e0
      simp only [List.map_cons, Go.Op.bytesLess, ih, e0, decide_eq_true (e1.2 h)]; rfl
    · subst h
      rw [if_neg (Int.lt_irrefl _), if_neg (Int.lt_irrefl _)] at e0
      simp [Go.Op.bytesLess, ih, e0]
    · rw [if_neg (by omega), if_pos h] at e0
      have n1 : ¬ (UInt8.ofNat x.toNat < UInt8.ofNat y.toNat) := fun hh => by have := e1.1 hh; omega
      have n2 : ¬ (UInt8.ofNat x.toNat = UInt8.ofNat y.toNat) := fun hh => by have := e2.1 hh; omega
      simp [Go.Op.bytesLess, e0, n1, n2]
theorem str_less {a b : List Int} (ha : ∀ y ∈ a, 0 ≤ y ∧ y ≤ 255) (hb : ∀ y ∈ b, 0 ≤ y ∧ y ≤ 255) : Go.Op.bytesLess (bytesOf a).toList (bytesOf b).toList = decide (cmpB a b < 0) := by
  rw [bytesOf_toList, bytesOf_toList, bytesLess_cmp a b ha hb]
theorem str_more {a b : List Int} (ha : ∀ y ∈ a, 0 ≤ y ∧ y ≤ 255) (hb : ∀ y ∈ b, 0 ≤ y ∧ y ≤ 255) : (!(Go.Op.bytesLess (bytesOf a).toList (bytesOf b).toList || (bytesOf a).toList == (bytesOf b).toList)) = decide (0 < cmpB a b) := by
  rw [str_less ha hb, bytes_beq]
  have h1 := bytesOf_inj ha hb
  have h2 := cmpB_zero a b
  by_cases h : a = b
  · subst h; have := h2.2 rfl; simp [this]
  · have h3 : ¬ bytesOf a = bytesOf b := fun e => h (h1.1 e)
    have h4 : cmpB a b ≠ 0 := fun e => h (h2.1 e)
    rw [Bool.eq_iff_iff]; simp [h3]; omega
def bget (b : List Fd) (t : Int) : List Int × Bool := match b.find? (fun x => decide (x.tag = t)) with
  | none => ([], false)
  | some x => (x.data, true)
def bdrop (b : List Fd) (t : Int) : List Fd := b.filter (fun x => !decide (x.tag = t))
theorem ordGo_split : ∀ (b : List Fd) (last t : Int), ordGo last b = true → b.take (insPt b t) = b.filter (fun x => decide (x.tag ≤ t)) ∧ b.drop (insPt b t) = b.filter (fun x => !decide (x.tag ≤ t))
  | [], _, _, _ => ⟨rfl, rfl⟩
  | f :: l, last, t, h => by
    have h1 : (last ≤ f.tag ∧ f.tag ≤ 255) ∧ ordGo f.tag l = true := by simpa [ordGo] using h
    have ih := ordGo_split l f.tag t h1.2
    by_cases hf : f.tag ≤ t
    · have e : insPt (f :: l) t = insPt l t + 1 := by unfold insPt; rw [List.takeWhile_cons, if_pos (by simpa using hf)]; rfl
      rw [e]
      simp only [List.take_succ_cons, List.drop_succ_cons]
      rw [ih.1, ih.2]
      simp [List.filter_cons, hf]
    · have e : insPt (f :: l) t = 0 := by unfold insPt; rw [List.takeWhile_cons, if_neg (by simpa using hf)]; rfl
      have hall : ∀ (l : List Fd) (last : Int), t < last → ordGo last l = true → l.filter (fun x => decide (x.tag ≤ t)) = [] ∧ l.filter (fun x => !decide (x.tag ≤ t)) = l := by
        intro l
        induction l with
        | nil => intro _ _ _; exact ⟨rfl, rfl⟩
        | cons g l ihl =>
          intro last hlast hg
          have h2 : (last ≤ g.tag ∧ g.tag ≤ 255) ∧ ordGo g.tag l = true := by simpa [ordGo] using hg
          have := ihl g.tag (by omega) h2.2
          have hn : ¬ g.tag ≤ t := by omega
          constructor
          · rw [List.filter_cons_of_neg (by simpa using hn)]; exact this.1
          · rw [List.filter_cons_of_pos (by simpa using hn), this.2]
      have h3 := hall l f.tag (by omega) h1.2
      rw [e, List.take_zero, List.drop_zero]
      constructor
      · rw [List.filter_cons_of_neg (by simpa using hf), h3.1]
      · rw [List.filter_cons_of_pos (by simpa using hf), h3.2]
theorem bins_filter {b : List Fd} {f : Fd} (h : bagValid b = true) : bins b f = b.filter (fun x => decide (x.tag ≤ f.tag)) ++ [f] ++ b.filter (fun x => !decide (x.tag ≤ f.tag)) := by
  have := ordGo_split b 32 f.tag ((bagValid_iff b).1 h).2.2
  rw [bins, this.1, this.2]
theorem bget_of {b : List Fd} {t : Int} {k : Nat} {x : Fd} (h : (b.take k).all (fun x => !decide (x.tag = t)) = true) (hx : b[k]? = some x) (ht : x.tag = t) : bget b t = (x.data, true) := by
  have : b.find? (fun x => decide (x.tag = t)) = some x := by
    induction b generalizing k with
    | nil => simp at hx
    | cons y b ih =>
      cases k with
      | zero => simp at hx; subst hx; rw [List.find?_cons_of_pos (by simpa using ht)]
      | succ k =>
        simp only [List.take_succ_cons, List.all_cons, Bool.and_eq_true] at h
        rw [List.find?_cons_of_neg (by simpa using h.1)]
        exact ih h.2 (by simpa using hx)
  rw [bget, this]
theorem bget_none {b : List Fd} {t : Int} (h : b.all (fun x => !decide (x.tag = t)) = true) : bget b t = ([], false) := by
  have : b.find? (fun x => decide (x.tag = t)) = none := by
    rw [List.find?_eq_none]
    intro x hx
    have := List.all_eq_true.1 h x hx
    simpa using this
  rw [bget, this]
theorem bget_hu {b : List Fd} {t u : Int} (hu : (u = -1 ∧ b.all (fun x => !decide (x.tag = t)) = true) ∨ ∃ (j : Nat) (y : Fd), u = (j : Int) ∧ b[j]? = some y ∧ y.tag = t ∧ (b.take j).all (fun x => !decide (x.tag = t)) = true) :
    (bget b t).2 = decide (0 ≤ u) ∧ (u < 0 → (bget b t).1 = []) ∧ (0 ≤ u → ∃ (j : Nat) (y : Fd), u = (j : Int) ∧ b[j]? = some y ∧ (bget b t).1 = y.data) := by
  rcases hu with ⟨rfl, h⟩ | ⟨j, y, rfl, h1, h2, h3⟩
  · rw [bget_none h]; exact ⟨rfl, fun _ => rfl, fun h => by omega⟩
  · rw [bget_of h3 h1 h2]; exact ⟨by simp, fun h => by omega, fun _ => ⟨j, y, rfl, h1, rfl⟩⟩
theorem U8s_sub {a b : List Fd} (h : U8s b) (hs : ∀ x ∈ a, x ∈ b) : U8s a := fun f hf => h f (hs f hf)
theorem cmpBag_swap {a b : List Fd} : cmpBag b a = - cmpBag a b := cmpBag_neg a b
end Go.Proofs.Ytngffembdhcijaa

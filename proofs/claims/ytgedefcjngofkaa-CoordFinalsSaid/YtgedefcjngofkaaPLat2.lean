/- Plain: the join commutes, is idempotent, associative. -/
import Derived.Test.YtgedefcjngofkaaPLat
set_option linter.unusedVariables false
namespace Go.Proofs.Ytgedefcjngofkaa
open Go.Proofs.Ytgedefcjngofkaa.AM
theorem cmpB_trans : ∀ a b c : List Int, cmpB a b ≤ 0 → cmpB b c ≤ 0 → cmpB a c ≤ 0
  | [], _, [], _, _ => by simp [cmpB]
  | [], _, _ :: _, _, _ => by simp [cmpB]
  | _ :: _, [], _, h, _ => by simp [cmpB] at h
  | _ :: _, _ :: _, [], _, h => by simp [cmpB] at h
  | x :: a, y :: b, z :: c, h1, h2 => by
    have ih := cmpB_trans a b c
    simp only [cmpB] at h1 h2 ⊢
    rcases Int.lt_trichotomy x y with h | h | h <;> rcases Int.lt_trichotomy y z with g | g | g
    all_goals first
      | (rw [if_pos (show x < z by omega)]; omega)
      | (exfalso; rw [if_neg (show ¬ x < y by omega), if_pos (show y < x by omega)] at h1; omega)
      | (exfalso; rw [if_neg (show ¬ y < z by omega), if_pos (show z < y by omega)] at h2; omega)
      | (rw [if_neg (show ¬ x < y by omega), if_neg (show ¬ y < x by omega)] at h1
         rw [if_neg (show ¬ y < z by omega), if_neg (show ¬ z < y by omega)] at h2
         rw [if_neg (show ¬ x < z by omega), if_neg (show ¬ z < x by omega)]
         exact ih h1 h2)
theorem signF_trans (f g h : Fd) (h1 : signF f g ≤ 0) (h2 : signF g h ≤ 0) : signF f h ≤ 0 := by
  have ih := cmpB_trans f.data g.data h.data
  simp only [signF] at h1 h2 ⊢
  rcases Int.lt_trichotomy f.tag g.tag with a | a | a <;> rcases Int.lt_trichotomy g.tag h.tag with b | b | b
  all_goals first
    | (rw [if_neg (show ¬ f.tag = h.tag by omega), if_pos (show f.tag < h.tag by omega)]; omega)
    | (exfalso; rw [if_neg (show ¬ f.tag = g.tag by omega), if_neg (show ¬ f.tag < g.tag by omega)] at h1; omega)
    | (exfalso; rw [if_neg (show ¬ g.tag = h.tag by omega), if_neg (show ¬ g.tag < h.tag by omega)] at h2; omega)
    | (rw [if_pos a] at h1; rw [if_pos b] at h2; rw [if_pos (a.trans b)]; exact ih h1 h2)
theorem cmpBag_trans : ∀ a b c : List Fd, cmpBag a b ≤ 0 → cmpBag b c ≤ 0 → cmpBag a c ≤ 0
  | [], _, [], _, _ => by simp [cmpBag]
  | [], _, _ :: _, _, _ => by simp [cmpBag]
  | _ :: _, [], _, h, _ => by simp [cmpBag] at h
  | _ :: _, _ :: _, [], _, h => by simp [cmpBag] at h
  | f :: a, g :: b, h :: c, h1, h2 => by
    have ih := cmpBag_trans a b c
    have ht := signF_trans f g h
    simp only [cmpBag] at h1 h2 ⊢
    by_cases e1 : signF f g = 0
    · rw [if_pos e1] at h1
      have e := (signF_zero f g).1 e1; subst e
      by_cases e2 : signF f h = 0
      · rw [if_pos e2] at h2 ⊢; exact ih h1 h2
      · rw [if_neg e2] at h2 ⊢; exact h2
    · rw [if_neg e1] at h1
      by_cases e2 : signF g h = 0
      · have e := (signF_zero g h).1 e2; subst e
        rw [if_neg e1]; exact h1
      · rw [if_neg e2] at h2
        have h3 := ht h1 h2
        by_cases e3 : signF f h = 0
        · have e := (signF_zero f h).1 e3; subst e
          have := signF_neg f g; omega
        · rw [if_neg e3]; exact h3
theorem weigh_zero (a b : Rc) : weigh a b = 0 ↔ a.cut = b.cut ∧ a.sp = b.sp ∧ a.bag = b.bag := by
  obtain ⟨_, _, _, ⟨l, h⟩, c, g⟩ := a
  obtain ⟨_, _, _, ⟨l', h'⟩, c', g'⟩ := b
  have hz := cmpBag_zero g g'
  have ho : ∀ x y, ordI x y = 0 ↔ x = y := fun x y => by unfold ordI; split <;> (try split) <;> omega
  simp only [weigh, Sp.mk.injEq]
  by_cases e1 : c = c'
  · rw [if_pos e1]
    by_cases e2 : ordI l l' = 0
    · rw [if_pos e2]
      by_cases e3 : ordI h h' = 0
      · rw [if_pos e3, hz]; have := (ho _ _).1 e2; have := (ho _ _).1 e3; constructor
        · intro k; exact ⟨e1, ⟨by assumption, by assumption⟩, k⟩
        · exact fun k => k.2.2
      · rw [if_neg e3]; constructor
        · intro k; exact absurd k e3
        · exact fun k => absurd ((ho _ _).2 k.2.1.2) e3
    · rw [if_neg e2]; constructor
      · intro k; exact absurd k e2
      · exact fun k => absurd ((ho _ _).2 k.2.1.1) e2
  · rw [if_neg e1]; constructor
    · intro k; split at k <;> omega
    · exact fun k => absurd k.1 e1
theorem weigh_trans (a b c : Rc) (h1 : weigh a b ≤ 0) (h2 : weigh b c ≤ 0) : weigh a c ≤ 0 := by
  obtain ⟨_, _, _, ⟨l, h⟩, u, g⟩ := a
  obtain ⟨_, _, _, ⟨l', h'⟩, u', g'⟩ := b
  obtain ⟨_, _, _, ⟨l2, h2'⟩, u2, g2⟩ := c
  have ht := cmpBag_trans g g' g2
  have ho : ∀ x y, (ordI x y = 0 ∧ x = y) ∨ (ordI x y = -1 ∧ x < y) ∨ (ordI x y = 1 ∧ y < x) := fun x y => by unfold ordI; split <;> (try split) <;> omega
  have key : ∀ (p q r : Int) (x y z : Int), ((if ordI p q = 0 then x else ordI p q) ≤ 0) → ((if ordI q r = 0 then y else ordI q r) ≤ 0) → (x ≤ 0 → y ≤ 0 → z ≤ 0) → (if ordI p r = 0 then z else ordI p r) ≤ 0 := by
    intro p q r x y z k1 k2 k3
    rcases ho p q with ⟨e1, f1⟩ | ⟨e1, f1⟩ | ⟨e1, f1⟩ <;> rcases ho q r with ⟨e2, f2⟩ | ⟨e2, f2⟩ | ⟨e2, f2⟩ <;> rcases ho p r with ⟨e3, f3⟩ | ⟨e3, f3⟩ | ⟨e3, f3⟩ <;> simp only [e1, e2, e3] at k1 k2 ⊢ <;> first | omega | (simp at k1 k2 ⊢; first | omega | exact k3 k1 k2) | simp
  cases u <;> cases u' <;> cases u2 <;> simp [weigh] at h1 h2 ⊢
  all_goals exact key _ _ _ _ _ _ h1 h2 (fun a1 a2 => key _ _ _ _ _ _ a1 a2 ht)
theorem withSt_eq {a b : Rc} (h1 : a.id = b.id) (h2 : a.inc = b.inc) (h3 : weigh a b = 0) (s : Int) : withSt a s = withSt b s := by
  obtain ⟨e1, e2, e3⟩ := (weigh_zero a b).1 h3
  simp [withSt, h1, h2, e1, e2, e3]
theorem jn_comm {a b : Rc} (h : a.id = b.id) : jn a b = jn b a := by
  have hn := weigh_neg a b
  unfold jn
  rcases Int.lt_trichotomy a.inc b.inc with e | e | e
  · rw [if_pos e, if_neg (show ¬ b.inc < a.inc by omega), if_neg (show ¬ b.inc = a.inc by omega)]
  · rw [if_neg (show ¬ a.inc < b.inc by omega), if_pos e, if_neg (show ¬ b.inc < a.inc by omega), if_pos e.symm, Int.max_comm b.st a.st]
    rcases Int.lt_trichotomy (weigh a b) 0 with g | g | g
    · rw [if_pos g, if_neg (show ¬ weigh b a < 0 by omega)]
    · rw [if_neg (show ¬ weigh a b < 0 by omega), if_neg (show ¬ weigh b a < 0 by omega)]; exact withSt_eq h e g _
    · rw [if_neg (show ¬ weigh a b < 0 by omega), if_pos (show weigh b a < 0 by omega)]
  · rw [if_neg (show ¬ a.inc < b.inc by omega), if_neg (show ¬ a.inc = b.inc by omega), if_pos e]
theorem jn_idem (a : Rc) : jn a a = a := by
  unfold jn
  rw [if_neg (Int.lt_irrefl _), if_pos rfl, if_neg (by have := weigh_neg a a; omega), Int.max_self]
  rfl
theorem jn_lt {a b : Rc} (h : a.inc < b.inc) : jn a b = b := by rw [jn, if_pos h]
theorem jn_gt {a b : Rc} (h : b.inc < a.inc) : jn a b = a := by rw [jn, if_neg (by omega), if_neg (by omega)]
theorem jn_eq {a b : Rc} (h : a.inc = b.inc) : jn a b = withSt (if weigh a b < 0 then b else a) (max a.st b.st) := by rw [jn, if_neg (by omega), if_pos h]
theorem jn_eq_inc {a b : Rc} (h : a.inc = b.inc) : (jn a b).inc = a.inc := by rw [jn_eq h]; simp only [withSt]; split <;> omega
theorem jn_assoc (a b c : Rc) : jn (jn a b) c = jn a (jn b c) := by
  rcases Int.lt_trichotomy a.inc b.inc with e | e | e
  · rw [jn_lt e]
    rcases Int.lt_trichotomy b.inc c.inc with g | g | g
    · rw [jn_lt g, jn_lt (show a.inc < c.inc by omega)]
    · rw [jn_lt (show a.inc < (jn b c).inc by rw [jn_eq_inc g]; exact e)]
    · rw [jn_gt g, jn_lt e]
  · rcases Int.lt_trichotomy b.inc c.inc with g | g | g
    · rw [jn_lt g, jn_lt (show (jn a b).inc < c.inc by rw [jn_eq_inc e]; omega), jn_lt (show a.inc < c.inc by omega)]
    · have h1 := weigh_neg a b
      have h2 := weigh_neg b c
      have h3 := weigh_neg a c
      have t1 := weigh_trans b c a
      have t2 := weigh_trans c b a
      have t3 := weigh_trans a b c
      rw [jn_eq (a := jn a b) (by rw [jn_eq_inc e]; omega), jn_eq (b := jn b c) (by rw [jn_eq_inc g]; omega), jn_eq e, jn_eq g]
      have w1 : ∀ (x y : Rc) (s : Int), weigh (withSt x s) y = weigh x y := fun _ _ _ => rfl
      have w2 : ∀ (x y : Rc) (s : Int), weigh x (withSt y s) = weigh x y := fun _ _ _ => rfl
      have w3 : ∀ (x : Rc) (s t : Int), withSt (withSt x s) t = withSt x t := fun _ _ _ => rfl
      have w4 : ∀ (x : Rc) (s : Int), (withSt x s).st = s := fun _ _ => rfl
      rw [w1, w2, w4, w4, Int.max_assoc]
      by_cases k1 : weigh a b < 0
      · by_cases k2 : weigh b c < 0
        · rw [if_pos k1, if_pos k2, if_pos k2, if_pos (show weigh a c < 0 by omega), w3]
        · rw [if_pos k1, if_neg k2, if_neg k2, if_pos k1, w3, w3]
      · by_cases k2 : weigh b c < 0
        · rw [if_neg k1, if_pos k2]; by_cases k3 : weigh a c < 0
          · rw [if_pos k3, if_pos k3, w3]
          · rw [if_neg k3, if_neg k3, w3]
        · rw [if_neg k1, if_neg k2, if_neg (show ¬ weigh a c < 0 by omega), if_neg k1, w3]
    · rw [jn_gt g, jn_gt (show c.inc < (jn a b).inc by rw [jn_eq_inc e]; omega)]
  · rw [jn_gt e]
    rcases Int.lt_trichotomy b.inc c.inc with g | g | g
    · rw [jn_lt g]
    · rw [jn_gt (show c.inc < a.inc by omega), jn_gt (show (jn b c).inc < a.inc by rw [jn_eq_inc g]; exact e)]
    · rw [jn_gt g, jn_gt e, jn_gt (show c.inc < a.inc by omega)]
end Go.Proofs.Ytgedefcjngofkaa

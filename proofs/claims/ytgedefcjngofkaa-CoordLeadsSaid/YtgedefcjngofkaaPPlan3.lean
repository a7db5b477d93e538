/- Plain: a plan's moves, as the law tells them. -/
import Derived.Test.YtgedefcjngofkaaPPlan2
set_option linter.unusedVariables false
namespace Go.Proofs.Ytgedefcjngofkaa
open Go Go.Proofs.Ytgedefcjngofkaa.AM
def lawSp (t : Sp) (w c : Int) (s : Sp) : Sp := if c < t.hi ∧ s.hi = c then upSp w c s else if c = 3 then t else s
def lawF (t : Sp) (w c : Int) (r : Rc) : Rc := setSp r (lawSp t w c r.sp)
def lawS (t : Sp) (w c : Int) (r : Rc) : Rc := if cnt r = true then lawF t w c r else r
def lawM (t : Sp) (w c : Int) (r : Rc) : Option Mv := if (cnt r && !decide (lawSp t w c r.sp = r.sp)) = true then some ⟨r.id, lawSp t w c r.sp⟩ else none
def nowS (t : Sp) (w : Int) (l : List Rc) : Nat → List Rc
  | 0 => l
  | k + 1 => (nowS t w l k).map (lawS t w ((k : Int) + 1))
def doneL (t : Sp) (w : Int) (l : List Rc) : Nat → List Mv
  | 0 => []
  | k + 1 => doneL t w l k ++ (nowS t w l k).filterMap (lawM t w ((k : Int) + 1))
theorem nowS_length (t : Sp) (w : Int) (l : List Rc) : ∀ k, (nowS t w l k).length = l.length
  | 0 => rfl
  | k + 1 => by rw [nowS, List.length_map]; exact nowS_length t w l k
theorem cnt_setSp (r : Rc) (s : Sp) : cnt (setSp r s) = cnt r := rfl
theorem membs_map (f : Rc → Rc) (g : Mv → Mv) (hc : ∀ r, cnt (f r) = cnt r) (hg : ∀ r, cnt r = true → toMv (f r) = g (toMv r)) : ∀ X : List Rc, membs (X.map f) = (membs X).map g
  | [] => rfl
  | x :: X => by
    have ih := membs_map f g hc hg X
    simp only [membs, List.map_cons, List.filter_cons] at ih ⊢
    rw [hc x]
    by_cases h : cnt x = true
    · rw [if_pos h, if_pos h, List.map_cons, List.map_cons, List.map_cons, ih, hg x h]
    · rw [if_neg h, if_neg h, ih]
theorem cnt_lawS (t : Sp) (w c : Int) (r : Rc) : cnt (lawS t w c r) = cnt r := by unfold lawS; split <;> rfl
theorem mv_eta (m : Mv) : (⟨m.id, m.sp⟩ : Mv) = m := rfl
theorem pass_now {t : Sp} {w c : Int} (hc : c < t.hi) (h3 : c ≠ 3) (X : List Rc) : membs (X.map (lawS t w c)) = passN w c (membs X) := by
  refine membs_map _ _ (cnt_lawS t w c) (fun r hr => ?_) X
  unfold lawS lawF lawSp
  rw [if_pos hr]
  by_cases h : r.sp.hi = c
  · rw [if_pos ⟨hc, h⟩, if_pos (show atP c (toMv r) = true from decide_eq_true h)]; rfl
  · rw [if_neg (fun h' => h h'.2), if_neg h3, if_neg (show ¬ atP c (toMv r) = true from fun e => h (of_decide_eq_true e))]; rfl
theorem upSp_ne {w c : Int} {s : Sp} (h : s.hi = c) : upSp w c s ≠ s := fun e => by
  have := congrArg Sp.hi e
  simp [upSp] at this; omega
theorem pass_out {t : Sp} {w c : Int} (hc : c < t.hi) (h3 : c ≠ 3) : ∀ X : List Rc, X.filterMap (lawM t w c) = passO w c (membs X)
  | [] => rfl
  | x :: X => by
    have ih := pass_out (w := w) hc h3 X
    simp only [passO, membs, List.filter_cons, List.filterMap_cons] at ih ⊢
    by_cases h : cnt x = true
    · rw [if_pos h, List.map_cons, List.filter_cons]
      by_cases h2 : x.sp.hi = c
      · have e : lawSp t w c x.sp = upSp w c x.sp := if_pos ⟨hc, h2⟩
        rw [lawM, e, if_pos (by simp [h, upSp_ne h2]), if_pos (show atP c (toMv x) = true from decide_eq_true h2), List.map_cons, ih]; rfl
      · have e : lawSp t w c x.sp = x.sp := by rw [lawSp, if_neg (fun h' => h2 h'.2), if_neg h3]
        rw [lawM, e, if_neg (by simp), if_neg (show ¬ atP c (toMv x) = true from fun e => h2 (of_decide_eq_true e)), ih]
    · rw [if_neg h, lawM, if_neg (by simp [h]), ih]
theorem rest_now {t : Sp} {w c : Int} (hc : ¬ c < t.hi) (h3 : c ≠ 3) (X : List Rc) : X.map (lawS t w c) = X := by
  have : ∀ r, lawS t w c r = r := fun r => by
    have e : lawSp t w c r.sp = r.sp := by rw [lawSp, if_neg (fun h' => hc h'.1), if_neg h3]
    unfold lawS lawF
    rw [e]
    split <;> rfl
  rw [List.map_congr_left (fun r _ => this r), List.map_id']
theorem rest_out {t : Sp} {w c : Int} (hc : ¬ c < t.hi) (h3 : c ≠ 3) (X : List Rc) : X.filterMap (lawM t w c) = [] := by
  rw [List.filterMap_eq_nil_iff]
  intro r _
  have e : lawSp t w c r.sp = r.sp := by rw [lawSp, if_neg (fun h' => hc h'.1), if_neg h3]
  rw [lawM, e, if_neg (by simp)]
theorem end_out {t : Sp} {w : Int} (ht : t.hi ≤ 3) : ∀ X : List Rc, X.filterMap (lawM t w 3) = endO t (membs X)
  | [] => rfl
  | x :: X => by
    have ih := end_out (w := w) ht X
    have e : lawSp t w 3 x.sp = t := by rw [lawSp, if_neg (by omega), if_pos rfl]
    simp only [endO, membs, List.filter_cons, List.filterMap_cons] at ih ⊢
    rw [lawM, e]
    by_cases h : cnt x = true
    · rw [if_pos h, List.map_cons, List.filter_cons]
      by_cases h2 : x.sp = t
      · rw [if_neg (by simp [h2]), if_neg (by simp [endP, toMv, h2]), ih]
      · rw [if_pos (by simp [h, Ne.symm h2]), if_pos (by simp [endP, toMv, h2]), List.map_cons, ih]; rfl
    · rw [if_neg (by simp [h]), if_neg h, ih]
theorem plan_done {l : List Rc} {t : Sp} {w : Int} (h : spValid t = true) : planL l t w = doneL t w l 3 := by
  have hv : 1 ≤ t.lo ∧ t.lo ≤ t.hi ∧ t.hi ≤ 3 := by simpa [spValid] using h
  have hd : doneL t w l 3 = ((nowS t w l 0).filterMap (lawM t w 1) ++ (nowS t w l 1).filterMap (lawM t w 2)) ++ (nowS t w l 2).filterMap (lawM t w 3) := rfl
  have h1 : nowS t w l 1 = l.map (lawS t w 1) := rfl
  have h2 : nowS t w l 2 = (nowS t w l 1).map (lawS t w 2) := rfl
  rw [hd, end_out hv.2.2, planL]
  obtain e | e | e : t.hi = 1 ∨ t.hi = 2 ∨ t.hi = 3 := by omega
  · have eN : (t.hi - 1).toNat = 0 := by omega
    rw [eN, rest_out (by omega) (by omega), rest_out (by omega) (by omega), h2, rest_now (by omega) (by omega), h1, rest_now (by omega) (by omega)]; rfl
  · have eN : (t.hi - 1).toNat = 1 := by omega
    rw [eN, pass_out (by omega) (by omega), rest_out (c := 2) (by omega) (by omega), h2, rest_now (by omega) (by omega), h1, pass_now (by omega) (by omega), List.append_nil]; rfl
  · have eN : (t.hi - 1).toNat = 2 := by omega
    rw [eN, pass_out (by omega) (by omega), pass_out (c := 2) (by omega) (by omega), h2, pass_now (by omega) (by omega), h1, pass_now (by omega) (by omega)]; rfl
theorem filterMap_snoc {α β : Type} {f : α → Option β} {l : List α} {k : Nat} {x : α} (hx : l[k]? = some x) : (l.take (k + 1)).filterMap f = (l.take k).filterMap f ++ (f x).toList := by
  rw [List.take_add_one, hx, List.filterMap_append]
  cases h : f x <;> simp [h]
theorem filterMap_at {α β : Type} {f : α → Option β} {l : List α} {k : Nat} {x : α} {y : β} (hx : l[k]? = some x) (hy : f x = some y) : ∃ r, l.filterMap f = (l.take k).filterMap f ++ y :: r := by
  refine ⟨(l.drop (k + 1)).filterMap f, ?_⟩
  have : l = l.take k ++ x :: l.drop (k + 1) := by rw [← drop_cons hx]; exact (List.take_append_drop k l).symm
  conv => lhs; rw [this]
  rw [List.filterMap_append, List.filterMap_cons, hy]
theorem doneL_pre (t : Sp) (w : Int) (l : List Rc) {k : Nat} (hk : k < 3) : ∃ r, doneL t w l 3 = doneL t w l (k + 1) ++ r := by
  obtain h | h | h : k = 0 ∨ k = 1 ∨ k = 2 := by omega
  · subst h; exact ⟨_, List.append_assoc _ _ _⟩
  · subst h; exact ⟨_, rfl⟩
  · subst h; exact ⟨[], (List.append_nil _).symm⟩
theorem done_at {t : Sp} {w : Int} {l : List Rc} {k i : Nat} {x : Rc} {m : Mv} (hk : k < 3) (hx : (nowS t w l k)[i]? = some x) (hm : lawM t w ((k : Int) + 1) x = some m) :
    (doneL t w l 3)[(doneL t w l k ++ ((nowS t w l k).take i).filterMap (lawM t w ((k : Int) + 1))).length]? = some m := by
  obtain ⟨r, h1⟩ := doneL_pre t w l hk
  obtain ⟨r2, h2⟩ := filterMap_at hx hm
  rw [h1, doneL, h2, ← List.append_assoc, List.append_assoc, List.getElem?_append_right (Nat.le_refl _)]
  simp
theorem lawM_len {t : Sp} {w : Int} {l : List Rc} : ∀ k, (doneL t w l k).length ≤ k * l.length
  | 0 => by simp [doneL]
  | k + 1 => by
    have ih := lawM_len (t := t) (w := w) (l := l) k
    have h := List.length_filterMap_le (lawM t w ((k : Int) + 1)) (nowS t w l k)
    rw [nowS_length] at h
    rw [doneL, List.length_append, Nat.add_mul]; omega
theorem lawSp_up {t : Sp} {w c : Int} {s : Sp} (h1 : c < t.hi) (h2 : s.hi = c) : lawSp t w c s = upSp w c s := if_pos ⟨h1, h2⟩
theorem lawSp_end {t : Sp} {w c : Int} {s : Sp} (h1 : ¬ (c < t.hi ∧ s.hi = c)) (h2 : c = 3) : lawSp t w c s = t := by rw [lawSp, if_neg h1, if_pos h2]
theorem lawSp_same {t : Sp} {w c : Int} {s : Sp} (h1 : ¬ (c < t.hi ∧ s.hi = c)) (h2 : c ≠ 3) : lawSp t w c s = s := by rw [lawSp, if_neg h1, if_neg h2]
theorem lawM_some {t : Sp} {w c : Int} {r : Rc} (hc : cnt r = true) (h : lawSp t w c r.sp ≠ r.sp) : lawM t w c r = some ⟨r.id, lawSp t w c r.sp⟩ := if_pos (by simp [hc, h])
theorem lawM_none {t : Sp} {w c : Int} {r : Rc} (h : cnt r = false ∨ lawSp t w c r.sp = r.sp) : lawM t w c r = none := if_neg (by rcases h with h | h <;> simp [h])
theorem sp_ext {a b : Sp} (h1 : a.lo = b.lo) (h2 : a.hi = b.hi) : a = b := by cases a; cases b; simp_all
end Go.Proofs.Ytgedefcjngofkaa

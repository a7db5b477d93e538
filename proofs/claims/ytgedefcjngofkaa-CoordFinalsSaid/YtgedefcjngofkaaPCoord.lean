/- Plain: a coordinator's cells; what is final. -/
import Derived.Test.YtgedefcjngofkaaPPlan
import Derived.Test.YtgedefcjngofkaaAmE
set_option linter.unusedVariables false
namespace Go.Proofs.Ytgedefcjngofkaa
open Go Go.Proofs.Ytgedefcjngofkaa.AM
structure Co where
  t : Sp
  wd : Int
  a : Option Int
  b : Option Int
  c : Option Int
  ask : Int
def dnI : Option Int → Int
  | none => 0
  | some _ => 1
def snI : Option Int → Int
  | none => 0
  | some t => t
def coL (k : Co) : List AV := [.int .i64 k.t.lo, .int .i64 k.t.hi, .int .i64 k.wd, .int .u32 (dnI k.a), .int .i32 0, .int .u32 0, .int .i64 (snI k.a), .int .u32 (dnI k.a), .int .u32 (dnI k.b), .int .i32 0, .int .u32 0, .int .i64 (snI k.b), .int .u32 (dnI k.b), .int .u32 (dnI k.c), .int .i32 0, .int .u32 0, .int .i64 (snI k.c), .int .u32 (dnI k.c), .int .i64 k.ask]
def encCo (k : Co) : AV := .agg (coL k)
def Co.fin (k : Co) : Nat → Option Int
  | 0 => k.a
  | 1 => k.b
  | _ => k.c
def Co.once (k : Co) (i : Nat) (now : Int) : Co := match i with
  | 0 => ⟨k.t, k.wd, some (k.a.getD now), k.b, k.c, k.ask⟩
  | 1 => ⟨k.t, k.wd, k.a, some (k.b.getD now), k.c, k.ask⟩
  | _ => ⟨k.t, k.wd, k.a, k.b, some (k.c.getD now), k.ask⟩
def Co.up (k : Co) : Co := ⟨k.t, k.wd, k.a, k.b, k.c, k.ask + 1⟩
def Co.run (k : Co) (now : Int) : Nat → Co
  | 0 => k
  | n + 1 => (k.run now n).once n now
def Co.lvTo (k : Co) : Nat → Int
  | 0 => 0
  | n + 1 => if (k.fin n).isSome = true then (n : Int) + 1 else k.lvTo n
def Co.level (k : Co) : Int := k.lvTo 3
theorem Co.once_same {k : Co} {i : Nat} {now t : Int} (hi : i < 3) (h : k.fin i = some t) : k.once i now = k := by
  obtain ⟨s, w, a, b, c, q⟩ := k
  rcases (by omega : i = 0 ∨ i = 1 ∨ i = 2) with rfl | rfl | rfl
  · have h : a = some t := h
    subst h; rfl
  · have h : b = some t := h
    subst h; rfl
  · have h : c = some t := h
    subst h; rfl
/-- Once done, world by world: the five cells. -/
theorem Co.once_cells (k : Co) (i : Nat) (now : Int) (hi : i < 3) (h : k.fin i = none) : (((((coL k).set (3 + i * 5 + 1) (.int .i32 1)).set (3 + i * 5 + 3) (.int .i64 now)).set (3 + i * 5 + 4) (.int .u32 1)).set (3 + i * 5) (.int .u32 1)).set (3 + i * 5 + 1) (.int .i32 0) = coL (k.once i now) := by
  obtain ⟨s, w, a, b, c, q⟩ := k
  rcases (by omega : i = 0 ∨ i = 1 ∨ i = 2) with rfl | rfl | rfl
  · have h : a = none := h
    subst h; rfl
  · have h : b = none := h
    subst h; rfl
  · have h : c = none := h
    subst h; rfl
theorem Co.cell (k : Co) (i : Nat) (hi : i < 3) : (coL k)[3 + i * 5]? = some (.int .u32 (dnI (k.fin i))) ∧ (coL k)[3 + i * 5 + 1]? = some (.int .i32 0) ∧ (coL k)[3 + i * 5 + 3]? = some (.int .i64 (snI (k.fin i))) ∧ (coL k)[3 + i * 5 + 4]? = some (.int .u32 (dnI (k.fin i))) := by
  rcases (by omega : i = 0 ∨ i = 1 ∨ i = 2) with rfl | rfl | rfl <;> exact ⟨rfl, rfl, rfl, rfl⟩
theorem dnI_ne (o : Option Int) : (dnI o != 0) = o.isSome := by cases o <;> rfl
theorem reps1 {H : AHeap} {w : World} {a : AV} {vs : List Value} (h : Reps H w [a] vs) : ∃ v, vs = [v] ∧ Rep H w a v := by
  obtain ⟨h1, h2⟩ := h
  match vs, h1 with
  | [v], _ => exact ⟨v, rfl, h2 0 (by simp) (by simp)⟩
theorem reps2 {H : AHeap} {w : World} {a b : AV} {vs : List Value} (h : Reps H w [a, b] vs) : ∃ v u, vs = [v, u] ∧ Rep H w a v ∧ Rep H w b u := by
  obtain ⟨h1, h2⟩ := h
  match vs, h1 with
  | [v, u], _ => exact ⟨v, u, rfl, h2 0 (by simp) (by simp), h2 1 (by simp) (by simp)⟩
theorem rep_box {H : AHeap} {w : World} {p o : Nat} {v : Value} (h : Rep H w (.box p o) v) : v = .pointer (some ⟨p, o, none⟩) := by cases h; rfl
theorem rep_int9 {H : AHeap} {w : World} {k : IntKind} {n : Int} {v : Value} (h : Rep H w (.int k n) v) : v = .int k n := by cases h; rfl
theorem rep_clo {H : AHeap} {w : World} {f : Fn} {p q : Nat} {v : Value} (h : Rep H w (.fn f [.box p 0, .box q 0]) v) : v = .func f #[] #[.pointer (some ⟨p, 0, none⟩), .pointer (some ⟨q, 0, none⟩)] := by
  cases h with
  | fn f cs vs hl hr =>
    obtain ⟨x, y, rfl, hx, hy⟩ := reps2 (H := H) (w := w) ⟨hl, hr⟩
    rw [rep_box hx, rep_box hy]
/-- What a variable of one cell holds. -/
theorem box_one {H : AHeap} {w : World} {p : Nat} {v : AV} (hs : Sim H w) (hG : H p = some (.box v)) (hv : v.cells = [v]) : ∃ u, w.cell? ⟨p, 0, none⟩ = some u ∧ Rep H w v u := by
  obtain ⟨C, T, hh, hl, hcs⟩ := hs p _ hG
  have h0 : 0 < v.cells.length := by rw [hv]; simp
  obtain ⟨u, h1, h2⟩ := hcs 0 h0
  have he : v.cells[0]'h0 = v := by simp [hv]
  rw [he] at h2
  exact ⟨u, by unfold World.cell?; rw [hh]; simp [h1], h2⟩
def Co.at (k : Co) (g : Int) : Option Int := if 1 ≤ g ∧ g ≤ 3 then k.fin (g - 1).toNat else none
theorem Co.at_is {k : Co} {g : Int} {i : Nat} (h : g - 1 = (i : Int)) (hi : i < 3) : k.at g = k.fin i := by
  rw [Co.at, if_pos (by omega), h, Int.toNat_natCast]
theorem Co.at_no {k : Co} {g : Int} (h : g < 1 ∨ 3 < g) : k.at g = none := by rw [Co.at, if_neg (by omega)]
theorem Co.lv_yes {k : Co} {g : Int} {j : Nat} (hg : g = 3 - (j : Int)) (h0 : 0 < g) (hs : (k.at g).isSome = true) (hlv : k.level = k.lvTo (3 - j)) : k.level = g := by
  obtain ⟨n, hn⟩ : ∃ n, 3 - j = n + 1 := ⟨2 - j, by omega⟩
  rw [hlv, hn, Co.lvTo, if_pos (by rw [← Co.at_is (g := g) (i := n) (by omega) (by omega)]; exact hs)]
  omega
theorem Co.lv_no {k : Co} {g : Int} {j : Nat} (hg : g = 3 - (j : Int)) (h0 : 0 < g) (hs : (k.at g).isSome = false) (hlv : k.level = k.lvTo (3 - j)) : k.level = k.lvTo (3 - (j + 1)) := by
  obtain ⟨n, hn⟩ : ∃ n, 3 - j = n + 1 := ⟨2 - j, by omega⟩
  rw [hlv, hn, Co.lvTo, if_neg (by rw [← Co.at_is (g := g) (i := n) (by omega) (by omega), hs]; simp)]
  congr 1; omega
def mv0 : Mv := ⟨0, ⟨0, 0⟩⟩
def nextL (k : Co) (l : List Rc) : List Mv := if mayE l k.t k.wd = 0 then planL l k.t k.wd else []
def Co.finE (k : Co) (l : List Rc) (g : Int) : Int := if g < 1 ∨ 3 < g then 5 else if srt l = false then 1 else if openB l g = false then 9 else 0
def Co.finB (k : Co) (l : List Rc) (g : Int) : List Int := if k.finE l g = 9 then barsL l g else []
def Co.finK (k : Co) (l : List Rc) (g now : Int) : Co := if k.finE l g = 0 then k.up.run now g.toNat else k.up
theorem sub_turn {H G G0 : AHeap} {p : Nat} {x y : ARow} (h : (H.set p x).sub G) (h0 : G.sub G0) : (H.set p y).sub (G0.set p y) := by
  have := sub_set_set (AHeap.sub_trans h h0) p y
  rw [AHeap.set_set] at this
  exact this
def cwL : List Rc := [⟨4, 0, 0, ⟨1, 2⟩, false, []⟩, ⟨6, 0, 0, ⟨1, 2⟩, false, []⟩]
def cwK0 : Co := ⟨⟨1, 2⟩, 2, none, none, none, 0⟩
def cwK1 : Co := ⟨⟨1, 2⟩, 2, some 10, some 10, none, 1⟩
def cwK2 : Co := ⟨⟨1, 2⟩, 2, some 10, some 10, none, 2⟩
theorem cw1 : cwK0.finE cwL 2 = 0 ∧ cwK0.finB cwL 2 = [] ∧ cwK0.finK cwL 2 10 = cwK1 := ⟨rfl, rfl, rfl⟩
theorem cw2 : cwK1.finE cwL 3 = 9 ∧ cwK1.finB cwL 3 = [4, 6] ∧ cwK1.finK cwL 3 11 = cwK2 := ⟨rfl, rfl, rfl⟩
theorem cn_cases (t : Sp) (wd : Int) : spValid t = false ∨ (spValid t = true ∧ (wd < 1 ∨ 3 < wd ∨ wd ≤ t.hi - t.lo)) ∨ (spValid t = true ∧ 1 ≤ wd ∧ wd ≤ 3 ∧ t.hi - t.lo < wd) := by
  cases h : spValid t with
  | false => exact .inl rfl
  | true =>
    by_cases hb : wd < 1 ∨ 3 < wd ∨ wd ≤ t.hi - t.lo
    · exact .inr (.inl ⟨rfl, hb⟩)
    · exact .inr (.inr ⟨rfl, by omega⟩)
theorem spValid_is {t : Sp} (h : spValid t = true) : 1 ≤ t.lo ∧ t.lo ≤ t.hi ∧ t.hi ≤ 3 := by simpa [spValid] using h
theorem nextL_may {k : Co} {l : List Rc} {q : Mv} {r : List Mv} (h : nextL k l = q :: r) : mayE l k.t k.wd = 0 := by
  by_cases hm : mayE l k.t k.wd = 0
  · exact hm
  · rw [nextL, if_neg hm] at h; cases h
end Go.Proofs.Ytgedefcjngofkaa

/- Plain: what the law says is kept of a peer, and what is. -/
import Derived.Test.YtobigfbgaiglkaaPBase3
import Derived.Test.YtobigfbgaiglkaaPBase4
set_option linter.unusedVariables false
namespace Go.Proofs.Ytobigfbgaiglkaa
open Go.Proofs.Ytobigfbgaiglkaa.AM
structure IP where
  known : Bool
  life : Int
  rows : List BRow
def ip0 : IP := ⟨false, 0, []⟩
def encIP (p : IP) : AV := .agg [.bool p.known, .int .i64 p.life, .imm (p.rows.map encW)]
structure IAct where
  peer : Int
  life : Int
  epoch : Int
  base : Int
  recs : List Rc
def encIA (a : IAct) : AV := .agg [.int .i64 a.peer, .int .i64 a.life, .int .i64 a.epoch, .int .i64 a.base, encRs a.recs]
def lbad (p : IP) (a : IAct) : Bool := decide (a.epoch < 1) || !srt a.recs || (p.known && decide (a.life < p.life))
def lsame (p : IP) (a : IAct) : Bool := p.known && decide (a.life = p.life)
def lrow (a : IAct) : BRow := ⟨a.recs, a.epoch⟩
def lpart (p : IP) (a : IAct) : List BRow := if lsame p a then p.rows.filter (fun x => !isUnder a.base x) else []
def lrows (p : IP) (a : IAct) : List BRow := lpart p a ++ [lrow a]
/-- What the law keeps. -/
def LKeep (p : IP) (a : IAct) (p' : IP) (ok : Bool) : Prop :=
  (ok = false ∧ p' = p ∧ (lbad p a = true ∨ (lsame p a = true ∧ p.rows.any (hasEp a.epoch) = true))) ∨
  (ok = true ∧ lbad p a = false ∧ ¬ (lsame p a = true ∧ p.rows.any (hasEp a.epoch) = true) ∧ p'.known = true ∧ p'.life = a.life ∧
    (((lrows p a).length ≤ 4 ∧ p'.rows = lrows p a) ∨ (4 < (lrows p a).length ∧ ∃ (i : Nat) (w : BRow), (lrows p a)[i]? = some w ∧ w.epoch ≠ a.base ∧ (∀ x ∈ lrows p a, x.epoch ≠ a.base → w.epoch ≤ x.epoch) ∧ p'.rows = (lrows p a).take i ++ (lrows p a).drop (i + 1))))
/-- The least epoch but the base's, as the law looks for it. -/
def LeastU (l : List BRow) (base : Int) (k : Nat) (u : Int) : Prop :=
  (u = -1 ∧ ∀ x ∈ l.take k, x.epoch = base) ∨ ∃ (i : Nat) (w : BRow), u = (i : Int) ∧ l[i]? = some w ∧ w.epoch ≠ base ∧ ∀ x ∈ l.take k, x.epoch ≠ base → w.epoch ≤ x.epoch
theorem LeastU.zero (l : List BRow) (base : Int) : LeastU l base 0 (-1) := .inl ⟨rfl, fun x hx => by simp at hx⟩
theorem LeastU.hit {l : List BRow} {base u : Int} {k : Nat} {x : BRow} (h : LeastU l base k u) (hx : l[k]? = some x) (h1 : x.epoch ≠ base) (h2 : u < 0 ∨ ∃ (i : Nat) (w : BRow), u = (i : Int) ∧ l[i]? = some w ∧ x.epoch < w.epoch) : LeastU l base (k + 1) (k : Int) := by
  refine .inr ⟨k, x, rfl, hx, h1, fun y hy hyb => ?_⟩
  rw [List.take_add_one, hx] at hy
  rcases List.mem_append.1 hy with hy | hy
  · rcases h with ⟨g1, g2⟩ | ⟨i, w, g1, g2, g3, g4⟩
    · exact absurd (g2 y hy) hyb
    · rcases h2 with h2 | ⟨i', w', e1, e2, e3⟩
      · omega
      · have : i = i' := by omega
        subst this; rw [g2] at e2; injection e2 with e2; subst e2
        have := g4 y hy hyb; omega
  · simp at hy; subst hy; omega
theorem LeastU.miss {l : List BRow} {base u : Int} {k : Nat} {x : BRow} (h : LeastU l base k u) (hx : l[k]? = some x) (h1 : x.epoch = base ∨ ∃ (i : Nat) (w : BRow), u = (i : Int) ∧ l[i]? = some w ∧ w.epoch ≤ x.epoch) : LeastU l base (k + 1) u := by
  rcases h with ⟨g1, g2⟩ | ⟨i, w, g1, g2, g3, g4⟩
  · refine .inl ⟨g1, fun y hy => ?_⟩
    rw [List.take_add_one, hx] at hy
    rcases List.mem_append.1 hy with hy | hy
    · exact g2 y hy
    · simp at hy; subst hy
      rcases h1 with h1 | ⟨i', w', e1, e2, e3⟩
      · exact h1
      · omega
  · refine .inr ⟨i, w, g1, g2, g3, fun y hy hyb => ?_⟩
    rw [List.take_add_one, hx] at hy
    rcases List.mem_append.1 hy with hy | hy
    · exact g4 y hy hyb
    · simp at hy; subst hy
      rcases h1 with h1 | ⟨i', w', e1, e2, e3⟩
      · exact absurd h1 hyb
      · have : i = i' := by omega
        subst this; rw [g2] at e2; injection e2 with e2; subst e2; exact e3
theorem LeastU.done {l : List BRow} {base u : Int} (h : LeastU l base l.length u) (hn : (l.map BRow.epoch).Nodup) (h2 : 2 ≤ l.length) : ∃ (i : Nat) (w : BRow), u = (i : Int) ∧ l[i]? = some w ∧ w.epoch ≠ base ∧ ∀ x ∈ l, x.epoch ≠ base → w.epoch ≤ x.epoch := by
  rcases h with ⟨_, g2⟩ | ⟨i, w, g1, g2, g3, g4⟩
  · rw [List.take_length] at g2
    match l, hn, h2, g2 with
    | a :: b :: l, hn, _, g2 =>
      have := g2 a (by simp); have := g2 b (by simp)
      simp only [List.map_cons, List.nodup_cons, List.mem_cons, not_or] at hn
      exact absurd (show a.epoch = b.epoch by omega) hn.1.1
  · rw [List.take_length] at g4; exact ⟨i, w, g1, g2, g3, g4⟩
def Rel (p : IP) (o : Option Gt) : Prop := (p.known = false ∧ p.rows = [] ∧ o = none) ∨ (p.known = true ∧ ∃ g, o = some g ∧ g.life = p.life ∧ p.rows.Perm g.rows ∧ GOk g)
theorem Rel.zero : Rel ip0 none := .inl ⟨rfl, rfl, rfl⟩
theorem Rel.ok {p : IP} {o : Option Gt} (h : Rel p o) : ∀ g, o = some g → GOk g := fun g hg => by
  rcases h with ⟨_, _, h⟩ | ⟨_, g', h, _, _, hk⟩
  · rw [h] at hg; cases hg
  · rw [h] at hg; injection hg with hg; subst hg; exact hk
theorem rise_nodup {l : List BRow} (h : l.Pairwise (fun a b => a.epoch < b.epoch)) : (l.map BRow.epoch).Nodup := by
  rw [List.Nodup, List.pairwise_map]
  exact h.imp fun {a b} hab => by omega
theorem Rel.nodup {p : IP} {o : Option Gt} (h : Rel p o) : (p.rows.map BRow.epoch).Nodup ∧ p.rows.length ≤ 4 := by
  rcases h with ⟨_, h, _⟩ | ⟨_, g, _, _, hp, hk⟩
  · rw [h]; simp
  · exact ⟨(hp.map _).nodup_iff.2 (rise_nodup hk.rise), by rw [hp.length_eq]; exact hk.len⟩
theorem any_fidx {l m : List BRow} (h : l.Perm m) (e : Int) : l.any (hasEp e) = decide (fidx (hasEp e) m < m.length) := by
  rw [fidx_lt_any]
  have h1 : ∀ {l m : List BRow}, l.Perm m → l.any (hasEp e) = true → m.any (hasEp e) = true := fun {l m} hp h => by
    obtain ⟨x, hx, hxe⟩ := List.any_eq_true.1 h
    exact List.any_eq_true.2 ⟨x, hp.mem_iff.1 hx, hxe⟩
  exact Bool.eq_iff_iff.2 ⟨h1 h, h1 h.symm⟩
theorem insRow_perm (l : List BRow) (x : BRow) : (l ++ [x]).Perm (insRow l x) := by
  unfold insRow
  have e : l = l.takeWhile (isUnder x.epoch) ++ l.dropWhile (isUnder x.epoch) := (List.takeWhile_append_dropWhile).symm
  conv => lhs; rw [e]
  rw [List.append_assoc, List.append_assoc]
  exact List.Perm.append_left _ List.perm_append_comm
theorem erase_perm {l : List BRow} {i : Nat} {w : BRow} (h : l[i]? = some w) : l.Perm (w :: (l.take i ++ l.drop (i + 1))) := by
  have hlt := (List.getElem?_eq_some_iff.1 h).1
  have e : l = l.take i ++ w :: l.drop (i + 1) := by
    conv => lhs; rw [← List.take_append_drop i l]
    rw [List.drop_eq_getElem_cons hlt, (List.getElem?_eq_some_iff.1 h).2]
  conv => lhs; rw [e]
  exact List.perm_middle
theorem least_first {l : List BRow} (hr : l.Pairwise (fun a b => a.epoch < b.epoch)) {base : Int} {w : BRow} (hw : w ∈ l) (h1 : w.epoch ≠ base) (h2 : ∀ x ∈ l, x.epoch ≠ base → w.epoch ≤ x.epoch) : l[fidx (notEp base) l]? = some w := by
  induction l with
  | nil => cases hw
  | cons y l ih =>
    have hr' := List.pairwise_cons.1 hr
    by_cases hy : y.epoch = base
    · have hn : notEp base y = false := by simp [notEp, hy]
      rw [fidx, if_neg (by simp [hn])]
      rcases List.mem_cons.1 hw with rfl | hw'
      · exact absurd hy h1
      · simpa using ih hr'.2 hw' (fun x hx hxb => h2 x (by simp [hx]) hxb)
    · have hn : notEp base y = true := by simp [notEp, hy]
      rw [fidx, if_pos hn]
      rcases List.mem_cons.1 hw with rfl | hw'
      · rfl
      · have g1 := h2 y (by simp) hy
        have g2 := hr'.1 w hw'
        omega
theorem rel_step {p p' : IP} {o : Option Gt} {a : IAct} {ok : Bool} (h : Rel p o) (hk : LKeep p a p' ok) (hl : a.recs.length ≤ 1000) (hs : ∀ x ∈ a.recs, Small x.bag) :
    keepB o a.life a.epoch a.recs = ok ∧ Rel p' (keepF o a.life a.epoch a.base a.recs) := by
  have hgo := h.ok
  have hkf := keepF_ok (life := a.life) (e := a.epoch) (base := a.base) hgo hl hs
  -- what is kept, and whether
  have hB : keepB o a.life a.epoch a.recs = (!lbad p a && !(lsame p a && p.rows.any (hasEp a.epoch))) := by
    have e1 : decide (1 ≤ a.epoch) = !decide (a.epoch < 1) := by
      by_cases g : a.epoch < 1
      · simp [g]
      · simp [g]; omega
    rcases h with ⟨h1, h2, rfl⟩ | ⟨h1, g, rfl, h3, h4, h5⟩
    · simp only [keepB, lbad, lsame, h1, e1]; cases decide (a.epoch < 1) <;> cases srt a.recs <;> rfl
    · have e2 := any_fidx h4 a.epoch
      simp only [keepB, lbad, lsame, h1, e1, e2, ← h3]
      have e3 : decide (a.life = g.life) = decide (g.life = a.life) := by simp [eq_comm]
      rw [e3]
      rcases Int.lt_trichotomy g.life a.life with g1 | g1 | g1
      · rw [decide_eq_true g1, decide_eq_false (show ¬ g.life = a.life by omega), decide_eq_false (show ¬ a.life < g.life by omega)]
        cases decide (a.epoch < 1) <;> cases srt a.recs <;> rfl
      · rw [decide_eq_false (show ¬ g.life < a.life by omega), decide_eq_true g1, decide_eq_false (show ¬ a.life < g.life by omega)]
        cases decide (a.epoch < 1) <;> cases srt a.recs <;> simp
      · rw [decide_eq_false (show ¬ g.life < a.life by omega), decide_eq_false (show ¬ g.life = a.life by omega), decide_eq_true g1]
        cases decide (a.epoch < 1) <;> cases srt a.recs <;> rfl
  rcases hk with ⟨rfl, rfl, hk⟩ | ⟨rfl, k1, k2, k3, k4, k5⟩
  · have e : keepB o a.life a.epoch a.recs = false := by
      rw [hB]
      rcases hk with hk | ⟨hk, hk'⟩
      · rw [hk]; rfl
      · rw [hk, hk']; simp
    exact ⟨e, by rw [keepF, if_neg (by simp [e])]; exact h⟩
  · have e : keepB o a.life a.epoch a.recs = true := by
      rw [hB, k1]
      cases e1 : lsame p a
      · rfl
      · cases e2 : p.rows.any (hasEp a.epoch)
        · rfl
        · exact absurd ⟨e1, e2⟩ k2
    refine ⟨e, .inr ⟨k3, _, by rw [keepF, if_pos e], k4.symm, ?_, hkf _ (by rw [keepF, if_pos e])⟩⟩
    have hpart : (lpart p a).Perm (rows0 o a.life a.base) := by
      rcases h with ⟨h1, h2, rfl⟩ | ⟨h1, g, rfl, h3, h4, h5⟩
      · simp [lpart, lsame, h1, rows0]
      · simp only [lpart, lsame, h1, rows0, Bool.true_and, decide_eq_true_eq]
        have hnb : ¬ a.life < p.life := fun g1 => by simp [lbad, h1, g1] at k1
        by_cases g1 : a.life = p.life
        · rw [if_pos g1, if_neg (by omega)]; exact h4.filter _
        · rw [if_neg g1, if_pos (by omega)]
    have hrows : (lrows p a).Perm (insRow (rows0 o a.life a.base) (lrow a)) := (hpart.append_right _).trans (insRow_perm _ _)
    obtain ⟨r1, r2, r3⟩ := rows0_len (life := a.life) (base := a.base) hgo
    have hrise := insRow_rise (x := lrow a) r3 (rows0_no e)
    show p'.rows.Perm (trimR a.base (insRow (rows0 o a.life a.base) (lrow a)))
    have hlen := hrows.length_eq
    rcases k5 with ⟨g1, g2⟩ | ⟨g1, i, w, g2, g3, g4, g5⟩
    · rw [g2, trimR, if_neg (by omega)]; exact hrows
    · have hwm : w ∈ insRow (rows0 o a.life a.base) (lrow a) := hrows.mem_iff.1 (mem_get g2)
      have hf := least_first hrise hwm g3 (fun x hx => g4 x (hrows.mem_iff.2 hx))
      have p1 := erase_perm g2
      have p2 := erase_perm hf
      rw [g5, trimR, if_pos (by omega)]
      exact ((p1.symm.trans hrows).trans p2).cons_inv
/-- What is found of what is kept. -/
theorem find_row {g : Gt} (hk : GOk g) {w : BRow} (hw : w ∈ g.rows) : gFind (some g) g.life w.epoch = some w.recs := by
  obtain ⟨i, hi⟩ := List.mem_iff_getElem?.1 hw
  simp only [gFind, if_true]
  rw [fidx_at hk.rise hi, hi]; rfl
theorem find_rel {p : IP} {o : Option Gt} (h : Rel p o) {w : BRow} (hw : w ∈ p.rows) : gFind o p.life w.epoch = some w.recs := by
  rcases h with ⟨_, h, _⟩ | ⟨_, g, rfl, h3, h4, h5⟩
  · rw [h] at hw; cases hw
  · rw [← h3]; exact find_row h5 (h4.mem_iff.1 hw)
/-- What is asked for in the end, as the law looks for it. -/
def FindU (p : IP) (life e : Int) (k : Nat) (u : Int) : Prop := (u = -1 ∧ ∀ x ∈ p.rows.take k, ¬ (p.known = true ∧ p.life = life ∧ x.epoch = e)) ∨ ∃ (i : Nat) (w : BRow), u = (i : Int) ∧ p.rows[i]? = some w ∧ p.known = true ∧ p.life = life ∧ w.epoch = e
theorem FindU.zero (p : IP) (life e : Int) : FindU p life e 0 (-1) := .inl ⟨rfl, fun x hx => by simp at hx⟩
theorem FindU.hit {p : IP} {life e : Int} {k : Nat} {x : BRow} (hx : p.rows[k]? = some x) (h1 : p.known = true) (h2 : p.life = life) (h3 : x.epoch = e) : FindU p life e (k + 1) (k : Int) := .inr ⟨k, x, rfl, hx, h1, h2, h3⟩
theorem FindU.miss {p : IP} {life e u : Int} {k : Nat} {x : BRow} (h : FindU p life e k u) (hx : p.rows[k]? = some x) (h1 : ¬ (p.known = true ∧ p.life = life ∧ x.epoch = e)) : FindU p life e (k + 1) u := by
  rcases h with ⟨g1, g2⟩ | h
  · refine .inl ⟨g1, fun y hy => ?_⟩
    rw [List.take_add_one, hx] at hy
    rcases List.mem_append.1 hy with hy | hy
    · exact g2 y hy
    · simp at hy; subst hy; exact h1
  · exact .inr h
theorem FindU.done {p : IP} {o : Option Gt} {life e u : Int} (hr : Rel p o) (h : FindU p life e p.rows.length u) : (u = -1 ∧ gFind o life e = none) ∨ ∃ (i : Nat) (w : BRow), u = (i : Int) ∧ p.rows[i]? = some w ∧ gFind o life e = some w.recs := by
  rcases h with ⟨g1, g2⟩ | ⟨i, w, g1, g2, g3, g4, g5⟩
  · refine .inl ⟨g1, ?_⟩
    rw [List.take_length] at g2
    rcases hr with ⟨_, _, rfl⟩ | ⟨h1, g, rfl, h3, h4, h5⟩
    · rfl
    · simp only [gFind]
      split
      · rename_i hl
        have hno : ¬ fidx (hasEp e) g.rows < g.rows.length := fun hlt => by
          obtain ⟨w, hw⟩ := get_some hlt
          have hf := fidx_find (hasEp e) g.rows
          rw [hw] at hf
          have := List.find?_some hf.symm
          exact g2 w (h4.mem_iff.2 (mem_get hw)) ⟨h1, by omega, by simpa [hasEp] using this⟩
        rw [List.getElem?_eq_none (by omega)]; rfl
      · rfl
  · refine .inr ⟨i, w, g1, g2, ?_⟩
    have := find_rel hr (mem_get g2)
    rw [g4, g5] at this; exact this
theorem pairI_at (f : Int → IP) {x : Int} {j : Nat} (hx : x = (j : Int)) (h : x ≤ 1) : ([f 0, f 1].map encIP)[j]? = some (encIP (f x)) := by
  subst hx
  have : j = 0 ∨ j = 1 := by omega
  rcases this with rfl | rfl <;> rfl
theorem pairI_set (f : Int → IP) (s : IP) {x : Int} {j : Nat} (hx : x = (j : Int)) (h : x ≤ 1) : ([f 0, f 1].map encIP).set j (encIP s) = [upd f x s 0, upd f x s 1].map encIP := by
  subst hx
  have : j = 0 ∨ j = 1 := by omega
  rcases this with rfl | rfl
  · simp [upd]
  · simp [upd]
theorem least_get {l : List BRow} {base u : Int} {k : Nat} (h : LeastU l base k u) (hu : ¬ u < 0) : ∃ (i : Nat) (w : BRow), u = (i : Int) ∧ l[i]? = some w := by
  rcases h with ⟨g1, _⟩ | ⟨i, w, g1, g2, _⟩
  · omega
  · exact ⟨i, w, g1, g2⟩
theorem lrows_nodup {p : IP} {a : IAct} (h : (p.rows.map BRow.epoch).Nodup) (hcl : ¬ (lsame p a = true ∧ p.rows.any (hasEp a.epoch) = true)) : ((lrows p a).map BRow.epoch).Nodup := by
  unfold lrows lpart
  rw [List.map_append, List.nodup_append]
  by_cases hs : lsame p a = true
  · rw [if_pos hs]
    refine ⟨h.sublist (List.Sublist.map _ List.filter_sublist), by simp, fun x hx y hy e => ?_⟩
    obtain ⟨z, hz, rfl⟩ := List.mem_map.1 hx
    simp [lrow] at hy
    exact hcl ⟨hs, List.any_eq_true.2 ⟨z, (List.mem_filter.1 hz).1, by simp [hasEp]; omega⟩⟩
  · rw [if_neg hs]; simp
theorem own_app {n0 sz : Nat} {H G : AHeap} {av : AV} {l : List AV} (h : Own n0 sz H av l G) (hl : 0 < l.length) : ∃ q n, av = .own q sz 0 n := by
  rcases h with ⟨_, h2, _⟩ | ⟨r, _, _, h3, _⟩
  · rw [h2] at hl; simp at hl
  · exact ⟨r, _, h3⟩
theorem rel_row {p : IP} {o : Option Gt} (h : Rel p o) {w : BRow} (hw : w ∈ p.rows) : RowOk w := by
  rcases h with ⟨_, h, _⟩ | ⟨_, g, rfl, h3, h4, h5⟩
  · rw [h] at hw; cases hw
  · exact h5.rows w (h4.mem_iff.1 hw)
theorem pair_rel {mf : Int → IP} {o : Int → Option Gt} {x : Int} (h0 : Rel (mf 0) (o 0)) (h1 : Rel (mf 1) (o 1)) (hx : 0 ≤ x) (hx1 : x ≤ 1) : Rel (mf x) (o x) := by
  have : x = 0 ∨ x = 1 := by omega
  rcases this with rfl | rfl <;> assumption
theorem upd_rel {mf : Int → IP} {o : Int → Option Gt} {x y : Int} {p : IP} {g : Option Gt} (h : Rel (mf y) (o y)) (hs : Rel p g) : Rel (upd mf x p y) (upd o x g y) := by
  unfold upd; split
  · exact hs
  · exact h
end Go.Proofs.Ytobigfbgaiglkaa

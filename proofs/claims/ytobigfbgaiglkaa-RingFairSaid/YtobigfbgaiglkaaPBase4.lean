/- Plain: what is kept of a peer. -/
import Derived.Test.YtobigfbgaiglkaaPBase2
set_option linter.unusedVariables false
namespace Go.Proofs.Ytobigfbgaiglkaa
open Go.Proofs.Ytobigfbgaiglkaa.AM
theorem upd_upd {α : Type} (f : Int → α) (k : Int) (u v : α) : upd (upd f k u) k v = upd f k v := funext fun j => by unfold upd; split <;> simp_all
theorem row_neg {l : List BRow} {e : Int} (h : fidxZ (hasEp e) l < 0) : l[fidx (hasEp e) l]? = none := by
  have h1 : ¬ fidx (hasEp e) l < l.length := fun hlt => by rw [fidxZ, if_pos hlt] at h; omega
  exact List.getElem?_eq_none (by omega)
theorem row_pos {l : List BRow} {q : BRow → Bool} (h : ¬ fidxZ q l < 0) : ∃ (i : Nat) (w : BRow), fidxZ q l = (i : Int) ∧ l[i]? = some w ∧ fidx q l = i := by
  have h1 : fidx q l < l.length := by
    unfold fidxZ at h; split at h
    · assumption
    · omega
  obtain ⟨w, hw⟩ := get_some h1
  exact ⟨_, w, by rw [fidxZ, if_pos h1], hw, rfl⟩
section
variable {o : Option Gt} {g : Gt} {life e base : Int} {l : List Rc}
theorem keep_no1 (ho : o = some g) (h : life < g.life) : keepB o life e l = false := by
  subst ho
  simp only [keepB]
  rw [decide_eq_false (show ¬ g.life < life by omega), decide_eq_false (show ¬ g.life = life by omega)]; simp
theorem keep_no2 (ho : o = some g) (h : 0 ≤ fidxZ (hasEp e) g.rows) (hl : ¬ g.life < life) : keepB o life e l = false := by
  subst ho
  have h1 : fidx (hasEp e) g.rows < g.rows.length := by
    unfold fidxZ at h; split at h
    · assumption
    · omega
  simp only [keepB]
  rw [decide_eq_false hl, decide_eq_true h1]; simp
theorem keep_yes (he : 1 ≤ e) (hl : srt l = true) (h : o = none ∨ ∃ g, o = some g ∧ (g.life < life ∨ (g.life = life ∧ fidxZ (hasEp e) g.rows < 0))) : keepB o life e l = true := by
  rcases h with rfl | ⟨g, rfl, h | ⟨h1, h2⟩⟩
  · simp [keepB, he, hl]
  · simp [keepB, he, hl, h]
  · have h3 : ¬ fidx (hasEp e) g.rows < g.rows.length := fun hlt => by rw [fidxZ, if_pos hlt] at h2; omega
    simp only [keepB]
    rw [decide_eq_true he, hl, decide_eq_true h1, decide_eq_false h3]; simp
theorem rows0_len (hg : ∀ g, o = some g → GOk g) : (rows0 o life base).length ≤ 4 ∧ (∀ x ∈ rows0 o life base, RowOk x) ∧ (rows0 o life base).Pairwise (fun a b => a.epoch < b.epoch) := by
  cases o with
  | none => exact ⟨by simp [rows0], fun x hx => by simp [rows0] at hx, by simp [rows0]⟩
  | some g =>
    have hk := hg g rfl
    simp only [rows0]
    split
    · exact ⟨by simp, fun x hx => by simp at hx, by simp⟩
    · exact ⟨Nat.le_trans (List.length_filter_le _ _) hk.len, fun x hx => hk.rows x (List.mem_filter.1 hx).1, List.Pairwise.filter _ hk.rise⟩
theorem rows0_no (hk : keepB o life e l = true) : ∀ x ∈ rows0 o life base, x.epoch ≠ e := fun x hx hxe => by
  cases o with
  | none => simp [rows0] at hx
  | some g =>
    simp only [rows0] at hx
    split at hx
    · simp at hx
    · rename_i hlt
      have hm := (List.mem_filter.1 hx).1
      simp only [keepB, Bool.and_eq_true, Bool.or_eq_true, decide_eq_true_eq, Bool.not_eq_true', decide_eq_false_iff_not] at hk
      have hno := (hk.2.resolve_left hlt).2
      have : g.rows.any (hasEp e) = true := List.any_eq_true.2 ⟨x, hm, by simp [hasEp, hxe]⟩
      rw [← fidx_lt_any] at this
      exact hno (by simpa using this)
end
theorem rise_drop {l : List BRow} {e : Int} (h : l.Pairwise (fun a b => a.epoch < b.epoch)) : ∀ x ∈ l.dropWhile (isUnder e), e ≤ x.epoch := by
  induction l with
  | nil => intro x hx; cases hx
  | cons y l ih =>
    have h := List.pairwise_cons.1 h
    intro x hx
    by_cases hy : isUnder e y = true
    · rw [List.dropWhile_cons_of_pos hy] at hx; exact ih h.2 x hx
    · rw [List.dropWhile_cons_of_neg hy] at hx
      have hy : ¬ y.epoch < e := by simpa [isUnder] using hy
      rcases List.mem_cons.1 hx with rfl | hx
      · omega
      · have := h.1 x hx; omega
theorem mem_takeW {α : Type} {l : List α} {p : α → Bool} {x : α} (h : x ∈ l.takeWhile p) : p x = true := by
  induction l with
  | nil => cases h
  | cons y l ih =>
    by_cases hy : p y = true
    · rw [List.takeWhile_cons_of_pos hy] at h
      rcases List.mem_cons.1 h with rfl | h
      · exact hy
      · exact ih h
    · rw [List.takeWhile_cons_of_neg hy] at h; cases h
theorem insRow_mem (l : List BRow) (x y : BRow) : y ∈ insRow l x ↔ y = x ∨ y ∈ l := by
  have e : (y ∈ l.takeWhile (isUnder x.epoch) ∨ y ∈ l.dropWhile (isUnder x.epoch)) ↔ y ∈ l := by
    rw [← List.mem_append, List.takeWhile_append_dropWhile]
  unfold insRow
  rw [← e]
  simp only [List.mem_append, List.mem_singleton]
  constructor
  · rintro ((h | h) | h)
    · exact .inr (.inl h)
    · exact .inl h
    · exact .inr (.inr h)
  · rintro (h | h | h)
    · exact .inl (.inr h)
    · exact .inl (.inl h)
    · exact .inr h
theorem insRow_len (l : List BRow) (x : BRow) : (insRow l x).length = l.length + 1 := by
  have := congrArg List.length (List.takeWhile_append_dropWhile (p := isUnder x.epoch) (l := l))
  simp only [List.length_append] at this
  simp only [insRow, List.length_append, List.length_singleton]; omega
theorem insRow_rise {l : List BRow} {x : BRow} (h : l.Pairwise (fun a b => a.epoch < b.epoch)) (hn : ∀ y ∈ l, y.epoch ≠ x.epoch) : (insRow l x).Pairwise (fun a b => a.epoch < b.epoch) := by
  have hsplit := h
  rw [← List.takeWhile_append_dropWhile (p := isUnder x.epoch) (l := l), List.pairwise_append] at hsplit
  obtain ⟨h1, h2, h3⟩ := hsplit
  unfold insRow
  rw [List.append_assoc, List.pairwise_append]
  have hd : ∀ y ∈ l.dropWhile (isUnder x.epoch), x.epoch < y.epoch := fun y hy => by
    have g1 := rise_drop h y hy
    have g2 := hn y (List.Sublist.mem hy (List.dropWhile_sublist _)); omega
  refine ⟨h1, ?_, fun a ha b hb => ?_⟩
  · rw [List.singleton_append, List.pairwise_cons]; exact ⟨hd, h2⟩
  · have g : a.epoch < x.epoch := by simpa [isUnder] using mem_takeW ha
    rw [List.singleton_append] at hb
    rcases List.mem_cons.1 hb with rfl | hb
    · exact g
    · have := hd b hb; omega
theorem notEp_pos {l : List BRow} (h : l.Pairwise (fun a b => a.epoch < b.epoch)) (h2 : 2 ≤ l.length) (base : Int) : ¬ fidxZ (notEp base) l < 0 := by
  have : l.any (notEp base) = true := by
    match l, h, h2 with
    | a :: b :: l, h, _ =>
      have := (List.pairwise_cons.1 h).1 b (by simp)
      by_cases ha : a.epoch = base
      · exact List.any_eq_true.2 ⟨b, by simp, by simp [notEp]; omega⟩
      · exact List.any_eq_true.2 ⟨a, by simp, by simp [notEp, ha]⟩
  rw [← fidxZ_any] at this
  simpa using this
theorem trimR_mem {base : Int} {l : List BRow} {x : BRow} (h : x ∈ trimR base l) : x ∈ l := by
  unfold trimR at h; split at h
  · rcases List.mem_append.1 h with h | h
    · exact List.mem_of_mem_take h
    · exact List.mem_of_mem_drop h
  · exact h
theorem trimR_sub (base : Int) (l : List BRow) : (trimR base l).Sublist l := by
  unfold trimR; split
  · have h1 := List.take_append_drop (fidx (notEp base) l) l
    have h2 : (l.take (fidx (notEp base) l) ++ l.drop (fidx (notEp base) l + 1)).Sublist (l.take (fidx (notEp base) l) ++ l.drop (fidx (notEp base) l)) := by
      refine List.Sublist.append (List.Sublist.refl _) ?_
      rw [← List.drop_drop]
      exact List.drop_sublist _ _
    rw [h1] at h2; exact h2
  · exact List.Sublist.refl _
theorem trimR_len {base : Int} {l : List BRow} (h : l.length ≤ 5) (hr : l.Pairwise (fun a b => a.epoch < b.epoch)) : (trimR base l).length ≤ 4 := by
  unfold trimR; split
  · obtain ⟨i, w, h1, h2, h3⟩ := row_pos (notEp_pos hr (by omega) base)
    have hi := (List.getElem?_eq_some_iff.1 h2).1
    rw [h3, List.length_append, List.length_take, List.length_drop]; omega
  · omega
theorem keepF_ok {o : Option Gt} {life e base : Int} {l : List Rc} (hg : ∀ g, o = some g → GOk g) (hl : l.length ≤ 1000) (hs : ∀ x ∈ l, Small x.bag) : ∀ g, keepF o life e base l = some g → GOk g := fun g h => by
  unfold keepF at h; split at h
  · rename_i hk
    injection h with h; subst h
    obtain ⟨h1, h2, h3⟩ := rows0_len (life := life) (base := base) hg
    have hr := insRow_rise (x := ⟨l, e⟩) h3 (rows0_no hk)
    refine ⟨trimR_len (by rw [insRow_len]; omega) hr, fun x hx => ?_, hr.sublist (trimR_sub _ _)⟩
    rcases (insRow_mem _ _ _).1 (trimR_mem hx) with rfl | hx
    · exact ⟨hl, hs⟩
    · exact h2 x hx
  · exact hg g h
theorem del_one {l : List BRow} {base : Int} {i : Nat} (h : 4 < l.length) (hi : fidx (notEp base) l = i) : trimR base l = l.take i ++ l.drop (i + 1) := by rw [trimR, if_pos h, hi]
theorem hh10 {h H : AHeap} {r10 : Nat} (hr : H r10 = none) (hs : h.sub H) : h r10 = none := sub_none hs hr
/-- What is behind a row that was put in. -/
theorem keep_in {h h1 H1 : AHeap} {e1 : List (Nat × ARow)} {n0 n8 b1 r' q r10 : Nat} {X R Q : ARow} {Z y a : AV} {l : List AV} (hE : EffTo h h1 n0 e1) (hs : h.sub H1) (hb : h1 b1 = some (.box Z)) (hw : SV h1 2 a l) (h10 : (setAll H1 e1) r10 = some (.box y)) (hq : (setAll H1 e1) q = none) (hq2 : n0 ≤ q)
    (hn8 : n0 ≤ n8) (hdom : ∀ b, n8 ≤ b → ((setAll H1 e1).set q Q) b = none) (hr : (∃ k, a = .own r' 2 0 k) ∨ n8 ≤ r') (hzy : Z ≠ y) :
    EffTo h (((h1.set q Q).set r' R).set b1 X) n0 ((b1, X) :: (r', R) :: (q, Q) :: e1) ∧ (((h1.set q Q).set r' R).set b1 X) b1 = some X ∧ (((h1.set q Q).set r' R).set b1 X) r' = some R ∧
      (∀ c y, h1 c = some y → c ≠ b1 → (∀ n, a ≠ .own c 2 0 n) → (((h1.set q Q).set r' R).set b1 X) c = some y) ∧ (h1 r' = none ∨ ∃ n, a = .own r' 2 0 n) ∧ b1 ≠ r' ∧ (setAll H1 ((b1, X) :: (r', R) :: (q, Q) :: e1)) r10 = some (.box y) := by
  have hs1 := hE.within hs
  have hq1 : h1 q = none := sub_none hs1 hq
  have hbq : b1 ≠ q := fun e => by rw [e, hq1] at hb; cases hb
  have h10q : r10 ≠ q := fun e => by rw [e, hq] at h10; cases h10
  have own : ∀ k, a = .own r' 2 0 k → h1 r' = some (.row 2 l) := fun k hk => by
    rcases hw with ⟨g, _⟩ | ⟨x, g, g2⟩
    · rw [hk] at g; cases g
    · rw [hk] at g; cases g; exact g2
  have hbr : b1 ≠ r' := fun e => by
    rcases hr with ⟨k, g⟩ | g
    · have := own k g; rw [← e, hb] at this; cases this
    · have := hdom _ g; rw [← e, AHeap.get_set_ne _ _ hbq, hs1 _ _ hb] at this; cases this
  have h10r : r10 ≠ r' := fun e => by
    rcases hr with ⟨k, g⟩ | g
    · have := hs1 _ _ (own k g); rw [← e, h10] at this; cases this
    · have := hdom _ g; rw [← e, AHeap.get_set_ne _ _ h10q, h10] at this; cases this
  have hrq : (∃ k, a = .own r' 2 0 k) ∨ (n0 ≤ r' ∧ h1 r' = none) := hr.imp id fun g => ⟨by omega, by
    have := hdom _ g
    by_cases e : r' = q
    · rw [e]; exact hq1
    · rw [AHeap.get_set_ne _ _ e] at this; exact sub_none hs1 this⟩
  have h10b : r10 ≠ b1 := fun e => by rw [e, hs1 _ _ hb] at h10; injection h10 with h10; injection h10 with h10; exact hzy h10
  refine ⟨((hE.write _ (.inr hq2)).write _ ?_).write _ (.inl ?_), AHeap.get_set _ _ _, ?_, fun c y hc hcb hcw => ?_, hrq.elim .inr (fun g => .inl g.2), hbr, ?_⟩
  · rcases hrq with ⟨k, g⟩ | g
    · refine .inl ?_
      have h9 := own k g
      by_cases e : r' = q
      · rw [e, hq1] at h9; cases h9
      · rw [AHeap.get_set_ne _ _ e, h9]; simp
    · exact .inr g.1
  · rw [AHeap.get_set_ne _ _ hbr, AHeap.get_set_ne _ _ hbq, hb]; simp
  · rw [AHeap.get_set_ne _ _ (Ne.symm hbr)]; exact AHeap.get_set _ _ _
  · have hcq : c ≠ q := fun e => by rw [e, hq1] at hc; cases hc
    have hcr : c ≠ r' := fun e => by
      rcases hrq with ⟨k, g⟩ | g
      · exact hcw k (e ▸ g)
      · rw [e, g.2] at hc; cases hc
    rw [AHeap.get_set_ne _ _ hcb, AHeap.get_set_ne _ _ hcr, AHeap.get_set_ne _ _ hcq]; exact hc
  · show ((((setAll H1 e1).set q Q).set r' R).set b1 X) r10 = _
    rw [AHeap.get_set_ne _ _ h10b, AHeap.get_set_ne _ _ h10r, AHeap.get_set_ne _ _ h10q]; exact h10
section
variable {o : Option Gt} {g : Gt} {life e base : Int} {w : BRow} {i : Nat}
theorem gfind_none (h : o = none) : gFind o life e = none := by subst h; rfl
theorem gfind_life (h : o = some g) (hl : g.life ≠ life) : gFind o life e = none := by subst h; exact if_neg hl
theorem gfind_neg (h : o = some g) (hn : fidxZ (hasEp e) g.rows < 0) : gFind o life e = none := by
  subst h
  show (if g.life = life then (g.rows[fidx (hasEp e) g.rows]?).map BRow.recs else none) = none
  rw [row_neg hn]; simp
theorem gfind_hit (h : o = some g) (hl : g.life = life) (hf : fidx (hasEp e) g.rows = i) (hw : g.rows[i]? = some w) : gFind o life e = some w.recs := by
  subst h
  show (if g.life = life then (g.rows[fidx (hasEp e) g.rows]?).map BRow.recs else none) = some w.recs
  rw [if_pos hl, hf, hw]; rfl
theorem rows0_none (h : o = none) : rows0 o life base = [] := by subst h; rfl
theorem rows0_lt (h : o = some g) (hl : g.life < life) : rows0 o life base = [] := by subst h; exact if_pos hl
theorem rows0_ge (h : o = some g) (hl : ¬ g.life < life) : rows0 o life base = g.rows.filter (fun x => !isUnder base x) := by subst h; exact if_neg hl
end
end Go.Proofs.Ytobigfbgaiglkaa

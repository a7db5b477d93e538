/- Plain: what acts come to, and what stays so. -/
import Derived.Test.YtgipbhfblmblcaaPMember
set_option linter.unusedVariables false
namespace Go.Proofs.Ytgipbhfblmblcaa
open Go.Proofs.Ytgipbhfblmblcaa.AM
structure Ac where
  k : Int
  rc : Rc
def encAc (a : Ac) : AV := .agg [.int .i64 a.k, .int .i64 a.rc.id, .int .i64 a.rc.inc, .int .i64 a.rc.st, .int .i64 a.rc.sp.lo, .int .i64 a.rc.sp.hi, .bool a.rc.cut, encBag a.rc.bag]
def oneI (b : Bool) : Int := if b = true then 1 else 0
def doL (me room : Int) (l : List Rc) (a : Ac) : List Rc × Int :=
  if a.k = 0 then joinT me room l a.rc
  else if a.k = 1 ∨ a.k = 2 then ((moveT me l a.rc.id a.rc.inc (a.k - 1) a.k).1, oneI (moveT me l a.rc.id a.rc.inc (a.k - 1) a.k).2)
  else if a.k = 3 then changeT me l a.rc.bag
  else ((leaveT me l).1, oneI (leaveT me l).2)
structure MInv (me room : Int) (l : List Rc) : Prop where
  s : srt l = true
  o : ∃ o, fnd l me = some o
  n : (l.length : Int) ≤ room
  r : room ≤ 48
  b : ∀ x ∈ l, Small x.bag
theorem fnd_in {l : List Rc} {id : Int} {y : Rc} (h : fnd l id = some y) : y ∈ l := List.mem_of_find?_eq_some h
theorem MInv.valid {me room : Int} {l : List Rc} (h : MInv me room l) {id : Int} {y : Rc} (hy : fnd l id = some y) : recValid y = true := (srt_incr h.s).2 y (fnd_in hy)
/-- A step: one record is put, in place of one with its id, or as a new one where there is room. -/
structure Stp (me room : Int) (l l' : List Rc) (y' : Rc) : Prop where
  e : l' = rput l y'
  v : recValid y' = true
  b : Small y'.bag
  n : (l'.length : Int) ≤ room
  u : ∀ y, fnd l y'.id = some y → jn y y' = y'
theorem rput_len_fnd {l : List Rc} {y y' : Rc} (h : fnd l y'.id = some y) : (rput l y').length = l.length := by
  obtain ⟨i, h1, h2, _⟩ := at_idx h
  exact rput_len_hit h1 h2 rfl
theorem Stp.fn {me room : Int} {l l' : List Rc} {y' : Rc} (h : Stp me room l l' y') (hm : MInv me room l) (id : Int) : fnd l' id = if y'.id = id then some y' else fnd l id := by
  rw [h.e]; exact find_put (srt_incr hm.s).1 y' id
theorem Stp.inv {me room : Int} {l l' : List Rc} {y' : Rc} (h : Stp me room l l' y') (hm : MInv me room l) : MInv me room l' where
  s := by rw [h.e]; exact srt_rput hm.s h.v
  o := by
    obtain ⟨o, ho⟩ := hm.o
    rw [h.fn hm]
    by_cases c : y'.id = me
    · exact ⟨y', if_pos c⟩
    · exact ⟨o, by rw [if_neg c, ho]⟩
  n := h.n
  r := hm.r
  b := fun x hx => by
    rw [h.e] at hx
    rcases rput_mem hx with rfl | hx
    · exact h.b
    · exact hm.b x hx
theorem Stp.under {me room : Int} {l l' : List Rc} {y' : Rc} (h : Stp me room l l' y') (hm : MInv me room l) : under l l' = true := by
  refine List.all_eq_true.2 fun r hr => List.any_eq_true.2 ?_
  have hf : fnd l r.id = some r := mem_find (srt_incr hm.s).1 hr
  have hg := h.fn hm r.id
  by_cases c : y'.id = r.id
  · rw [if_pos c] at hg
    have hj := h.u r (by rw [c]; exact hf)
    exact ⟨y', fnd_in hg, by rw [below_jn, hj]; simp [c]⟩
  · rw [if_neg c, hf] at hg
    exact ⟨r, fnd_in hg, by rw [below_jn, jn_idem]; simp⟩
theorem under_self {me room : Int} {l : List Rc} (hm : MInv me room l) : under l l = true := List.all_eq_true.2 fun r hr => List.any_eq_true.2 ⟨r, hr, by rw [below_jn, jn_idem]; simp⟩
theorem valid_inc {o : Rc} {i : Int} (h : recValid o = true) (h0 : 0 ≤ i ∧ i ≤ 281474976710655) : recValid (wthInc o i) = true := by
  have h9 := recValid_ids h
  simp only [recValid, wthInc, Bool.and_eq_true] at h ⊢
  obtain ⟨⟨⟨h1, h2⟩, h3⟩, h4⟩ := h
  exact ⟨⟨⟨decide_eq_true (by omega), h2⟩, h3⟩, h4⟩
theorem valid_st {o : Rc} {i : Int} (h : recValid o = true) (h0 : 0 ≤ i ∧ i ≤ 3) : recValid (withSt o i) = true := by
  have h9 := recValid_ids h
  simp only [recValid, withSt, Bool.and_eq_true] at h ⊢
  obtain ⟨⟨⟨h1, h2⟩, h3⟩, h4⟩ := h
  exact ⟨⟨⟨decide_eq_true (by omega), h2⟩, h3⟩, h4⟩
theorem valid_bag {o : Rc} {b : List Fd} (h : recValid o = true) (h0 : o.inc < 281474976710655) (hb : bagValid b = true) : recValid (wthBag o b) = true := by
  have h9 := recValid_ids h
  simp only [recValid, wthBag, Bool.and_eq_true] at h ⊢
  obtain ⟨⟨⟨h1, h2⟩, h3⟩, h4⟩ := h
  exact ⟨⟨⟨decide_eq_true (by omega), h2⟩, hb⟩, rfl⟩
theorem jn_st {y : Rc} {s : Int} (h : y.st ≤ s) : jn y (withSt y s) = withSt y s := by
  have e : (withSt y s).inc = y.inc := rfl
  rw [jn_eq e.symm]
  have hw : weigh y (withSt y s) = 0 := (weigh_zero _ _).2 ⟨rfl, rfl, rfl⟩
  rw [hw, if_neg (by omega)]
  show withSt y (max y.st s) = _
  rw [Int.max_eq_right h]
/-- What each act comes to: nothing, or one step. -/
def StpO (me room : Int) (l l' : List Rc) (p : Rc → Prop) : Prop := l' = l ∨ ∃ y', Stp me room l l' y' ∧ p y'
theorem StpO.inv {me room : Int} {l l' : List Rc} {p : Rc → Prop} (h : StpO me room l l' p) (hm : MInv me room l) : MInv me room l' := by
  rcases h with rfl | ⟨y', h, _⟩
  · exact hm
  · exact h.inv hm
theorem StpO.under {me room : Int} {l l' : List Rc} {p : Rc → Prop} (h : StpO me room l l' p) (hm : MInv me room l) : under l l' = true := by
  rcases h with rfl | ⟨y', h, _⟩
  · exact under_self hm
  · exact h.under hm
theorem ref_step {me room : Int} {l : List Rc} {x o : Rc} (hm : MInv me room l) (ho : fnd l me = some o) (hx : recValid x = true) : StpO me room l (refT me l x).1 (fun y' => y'.id = me ∧ y'.st = o.st ∧ y'.sp = o.sp) := by
  have hx9 := recValid_ids hx
  rw [refT, ho]
  show StpO me room l (if _ then (l, (0 : Int)) else _).1 _
  split
  · exact .inl rfl
  · rename_i h
    have hid := fnd_id ho
    have hv := hm.valid ho
    refine .inr ⟨wthInc o (x.inc + 1), ⟨rfl, valid_inc hv (by omega), hm.b o (fnd_in ho), ?_, fun y hy => ?_⟩, hid, rfl, rfl⟩
    · show ((rput l (wthInc o (x.inc + 1))).length : Int) ≤ room
      rw [rput_len_fnd (y := o) (by show fnd l o.id = some o; rw [hid]; exact ho)]; exact hm.n
    · have : fnd l o.id = some y := hy
      rw [hid, ho] at this; cases this
      exact jn_lt (by show o.inc < x.inc + 1; omega)
theorem join_step {me room : Int} {l : List Rc} {x o : Rc} (hm : MInv me room l) (ho : fnd l me = some o) (hb : Small x.bag) : StpO me room l (joinT me room l x).1 (fun y' => y'.id = me → y'.st = o.st ∧ y'.sp = o.sp) := by
  rw [joinT]
  split
  · exact .inl rfl
  · rename_i h1
    have hv : recValid x = true := by simpa using h1
    split
    · rcases ref_step hm ho hv with h | ⟨y', h, h2⟩
      · exact .inl h
      · exact .inr ⟨y', h, fun _ => h2.2⟩
    · rename_i hne
      cases hf : fnd l x.id with
      | none =>
        show StpO me room l (if _ then (l, (3 : Int)) else _).1 _
        split
        · exact .inl rfl
        · rename_i h
          refine .inr ⟨x, ⟨rfl, hv, hb, ?_, fun y hy => by rw [hf] at hy; cases hy⟩, fun e => absurd e hne⟩
          have := rput_len l x
          show ((rput l x).length : Int) ≤ room
          omega
      | some y =>
        show StpO me room l (if _ then (l, (0 : Int)) else _).1 _
        split
        · exact .inl rfl
        · have hid := fnd_id hf
          have hj : (jn y x).id = x.id := by rw [jn_id hid, hid]
          refine .inr ⟨jn y x, ⟨rfl, jn_valid (hm.valid hf) hv, jn_small (hm.b y (fnd_in hf)) hb, ?_, fun z hz => ?_⟩, fun e => absurd (hj.symm.trans e) hne⟩
          · show ((rput l (jn y x)).length : Int) ≤ room
            rw [rput_len_fnd (y := y) (by rw [hj]; exact hf)]; exact hm.n
          · rw [hj, hf] at hz; cases hz; exact jn_up_left y x
theorem move_step {me room : Int} {l : List Rc} {id inc s s' : Int} (hm : MInv me room l) (h0 : s ≤ s') (h1 : 0 ≤ s') (h3 : s' ≤ 3) : StpO me room l (moveT me l id inc s s').1 (fun y' => y'.id ≠ me) := by
  rw [moveT]
  cases hf : fnd l id with
  | none => exact .inl rfl
  | some y =>
    show StpO me room l (if _ then (l, false) else _).1 _
    split
    · exact .inl rfl
    · rename_i h
      have hid := fnd_id hf
      refine .inr ⟨withSt y s', ⟨rfl, valid_st (hm.valid hf) ⟨h1, h3⟩, hm.b y (fnd_in hf), ?_, fun z hz => ?_⟩, fun e => ?_⟩
      · show ((rput l (withSt y s')).length : Int) ≤ room
        rw [rput_len_fnd (y := y) (by show fnd l y.id = some y; rw [hid]; exact hf)]; exact hm.n
      · have : fnd l y.id = some z := hz
        rw [hid, hf] at this; cases this
        exact jn_st (by omega)
      · have : y.id = me := e
        omega
theorem change_step {me room : Int} {l : List Rc} {b : List Fd} {o : Rc} (hm : MInv me room l) (ho : fnd l me = some o) (hb : Small b) : StpO me room l (changeT me l b).1 (fun y' => y'.id = me ∧ y'.st = o.st ∧ y'.sp = o.sp) := by
  rw [changeT]
  split
  · exact .inl rfl
  · rename_i hv
    rw [ho]
    show StpO me room l (if _ then (l, (15 : Int)) else if _ then _ else _).1 _
    split
    · exact .inl rfl
    · split
      · exact .inl rfl
      · rename_i h
        have hid := fnd_id ho
        refine .inr ⟨wthBag o b, ⟨rfl, valid_bag (hm.valid ho) (by omega) (by simpa using hv), hb, ?_, fun z hz => ?_⟩, hid, rfl, rfl⟩
        · show ((rput l (wthBag o b)).length : Int) ≤ room
          rw [rput_len_fnd (y := o) (by show fnd l o.id = some o; rw [hid]; exact ho)]; exact hm.n
        · have : fnd l o.id = some z := hz
          rw [hid, ho] at this; cases this
          exact jn_lt (by show o.inc < o.inc + 1; omega)
theorem leave_step {me room : Int} {l : List Rc} {o : Rc} (hm : MInv me room l) (ho : fnd l me = some o) : StpO me room l (leaveT me l).1 (fun y' => y'.id = me ∧ y'.st = 3 ∧ y'.sp = o.sp) := by
  rw [leaveT, ho]
  show StpO me room l (if _ then (l, false) else _).1 _
  split
  · exact .inl rfl
  · have hid := fnd_id ho
    have h9 := recValid_ids (hm.valid ho)
    refine .inr ⟨withSt o 3, ⟨rfl, valid_st (hm.valid ho) (by omega), hm.b o (fnd_in ho), ?_, fun z hz => ?_⟩, hid, rfl, rfl⟩
    · show ((rput l (withSt o 3)).length : Int) ≤ room
      rw [rput_len_fnd (y := o) (by show fnd l o.id = some o; rw [hid]; exact ho)]; exact hm.n
    · have : fnd l o.id = some z := hz
      rw [hid, ho] at this; cases this
      exact jn_st (by omega)
theorem StpO_own {me room : Int} {l l' : List Rc} {p : Rc → Prop} {o : Rc} (h : StpO me room l l' p) (hm : MInv me room l) (ho : fnd l me = some o) (hp : ∀ y', p y' → y'.id = me → y'.st = o.st ∧ y'.sp = o.sp) :
    MInv me room l' ∧ under l l' = true ∧ ∃ o', fnd l' me = some o' ∧ o'.sp = o.sp ∧ o'.st = o.st := by
  refine ⟨h.inv hm, h.under hm, ?_⟩
  rcases h with rfl | ⟨y', h, h2⟩
  · exact ⟨o, ho, rfl, rfl⟩
  · rw [h.fn hm]
    by_cases c : y'.id = me
    · exact ⟨y', if_pos c, (hp y' h2 c).2, (hp y' h2 c).1⟩
    · exact ⟨o, by rw [if_neg c, ho], rfl, rfl⟩
def leftA (a : Ac) : Bool := decide (a.k < 0 ∨ 3 < a.k)
/-- What each act does to the own record. -/
theorem do_step {me room : Int} {l : List Rc} {a : Ac} {o : Rc} (hm : MInv me room l) (ho : fnd l me = some o) (hb : Small a.rc.bag) :
    MInv me room (doL me room l a).1 ∧ under l (doL me room l a).1 = true ∧ ∃ o', fnd (doL me room l a).1 me = some o' ∧ o'.sp = o.sp ∧ o'.st = (if leftA a = true then 3 else o.st) := by
  rw [doL]
  by_cases k0 : a.k = 0
  · rw [if_pos k0, show leftA a = false from decide_eq_false (by omega)]
    exact StpO_own (join_step hm ho hb) hm ho fun y' h => h
  · rw [if_neg k0]
    by_cases k1 : a.k = 1 ∨ a.k = 2
    · rw [if_pos k1, show leftA a = false from decide_eq_false (by omega)]
      exact StpO_own (move_step (s := a.k - 1) (s' := a.k) hm (by omega) (by omega) (by omega)) hm ho fun y' h e => absurd e h
    · rw [if_neg k1]
      by_cases k3 : a.k = 3
      · rw [if_pos k3, show leftA a = false from decide_eq_false (by omega)]
        exact StpO_own (change_step hm ho hb) hm ho fun y' h _ => h.2
      · rw [if_neg k3, show leftA a = true from decide_eq_true (by omega), if_pos rfl]
        have hs := leave_step hm ho
        refine ⟨hs.inv hm, hs.under hm, ?_⟩
        by_cases c : o.st = 3
        · have e : leaveT me l = (l, false) := by rw [leaveT, ho]; exact if_pos c
          rw [e]
          exact ⟨o, ho, rfl, c⟩
        · have e : leaveT me l = (rput l (withSt o 3), true) := by rw [leaveT, ho]; exact if_neg c
          have hid := fnd_id ho
          rw [e]
          refine ⟨withSt o 3, ?_, rfl, rfl⟩
          show fnd (rput l (withSt o 3)) me = _
          rw [find_put (srt_incr hm.s).1, if_pos (show (withSt o 3).id = me from hid)]
def doAll (me room : Int) (l : List Rc) (acts : List Ac) : List Rc := acts.foldl (fun rs a => (doL me room rs a).1) l
theorem begin_inv {own : Rc} {room : Int} (hv : recValid own = true) (hb : Small own.bag) (h1 : 1 ≤ room) (h48 : room ≤ 48) : MInv own.id room [own] where
  s := by
    have h9 := recValid_ids hv
    exact incr_srtGo (s := -1) ⟨by omega, trivial⟩ (by simpa using hv)
  o := ⟨own, fnd_one own⟩
  n := by simpa using h1
  r := h48
  b := by simpa using hb
theorem MInv.len {me room : Int} {l : List Rc} (h : MInv me room l) : l.length ≤ 48 := by have := h.n; have := h.r; omega
def othL (me : Int) (l : List Rc) (ss : List Int) : List Int := (l.filter fun r => decide (r.id ≠ me) && (ss.isEmpty || ss.contains r.st)).map (·.id)
def othS (me : Int) (l : List Rc) (s : Int) : List Int := (l.filter fun r => decide (r.id ≠ me) && (decide (s < 0) || decide (r.st = s))).map (·.id)
def mdl (me room : Int) (l : List Rc) : AV := .agg [.int .i64 me, .int .i64 room, encRs l]
theorem rfind_no {l : List Rc} {id : Int} (h : (rfind l id).2 = false) : fnd l id = none := by
  rw [rfind_fst] at h
  cases hf : fnd l id with
  | none => rfl
  | some y => rw [hf] at h; cases h
theorem rfind_yes {l : List Rc} {id : Int} (h : (rfind l id).2 = true) : fnd l id = some (rfind l id).1 := by
  rw [rfind_fst] at h ⊢
  cases hf : fnd l id with
  | none => rw [hf] at h; cases h
  | some y => rfl
end Go.Proofs.Ytgipbhfblmblcaa

import Derived.Test.YtgedefcjngofkaaSync2
import Derived.Test.YtgedefcjngofkaaPCoord
import Derived.Test.YtgedefcjngofkaaPlan2
set_option maxHeartbeats 8000000
set_option linter.unusedSimpArgs false
set_option linter.unusedVariables false
set_option maxRecDepth 100000
namespace Go.Proofs.Ytgedefcjngofkaa
open Go Go.Proofs.Ytgedefcjngofkaa.AM

theorem iload_ok (p off : Nat) (x : Int) (cs : List AV) (G : AHeap) (hG : G p = some (.box (.agg cs))) (hc : cs[off]? = some (.int .i64 x)) : PCalls Try.prog 77 [.box p off] G (fun v => v = .int .i64 x) :=
  pcalls_cel ⟨_, Try.func77, by kernel_rfl, by kernel_rfl⟩ fun H w vs hH hs hr => by
    obtain ⟨v, rfl, h1⟩ := reps1 hr
    rw [rep_box h1]
    refine ⟨_, fun _ _ => .int .i64 x, (iload_any ⟨p, off, none⟩ x w (box_cell hs (hH _ _ hG) hc).1).mono ?_⟩
    rintro e w' ⟨rfl, rfl⟩
    exact ⟨rfl, .inl rfl⟩
theorem bload_ok (p off : Nat) (x : Int) (cs : List AV) (G : AHeap) (hG : G p = some (.box (.agg cs))) (hc : cs[off]? = some (.int .u32 x)) : PCalls Try.prog 78 [.box p off] G (fun v => v = .bool (x != 0)) :=
  pcalls_cel ⟨_, Try.func78, by kernel_rfl, by kernel_rfl⟩ fun H w vs hH hs hr => by
    obtain ⟨v, rfl, h1⟩ := reps1 hr
    rw [rep_box h1]
    refine ⟨_, fun _ _ => .bool (x != 0), (bload_any ⟨p, off, none⟩ x w (box_cell hs (hH _ _ hG) hc).1).mono ?_⟩
    rintro e w' ⟨rfl, rfl⟩
    exact ⟨rfl, .inl rfl⟩
theorem iadd_ok (p off : Nat) (x : Int) (cs : List AV) (G : AHeap) (h0 : 0 ≤ x) (h1 : x ≤ 1000000) (hG : G p = some (.box (.agg cs))) (hc : cs[off]? = some (.int .i64 x)) : LCalls Try.prog 68 [.box p off, .int .i64 1] G (fun b => b = p) (fun n v effs => v = .int .i64 (x + 1) ∧ effs = [(p, .box (.agg (cs.set off (.int .i64 (x + 1)))))]) :=
  lcalls_cel ⟨_, Try.func68, by kernel_rfl, by kernel_rfl⟩ hG fun H w vs hH hs hr => by
    obtain ⟨v, u, rfl, g1, g2⟩ := reps2 hr
    rw [rep_box g1, rep_int9 g2]
    have hz := Cel.zero hs (hH _ _ hG)
    have hg := hz.get hc
    refine ⟨_, fun _ _ => .int .i64 (x + 1), (iadd_any ⟨p, off, none⟩ x w h0 h1 hg.1 hg.2).mono ?_⟩
    rintro e w' ⟨rfl, rfl⟩
    exact ⟨rfl, hz.cell (List.getElem?_eq_some_iff.1 hc).1 _ _⟩
theorem cdo_ok (p pf pn off : Nat) (k : Co) (i : Nat) (hi : i < 3) (hoff : off = 3 + i * 5) (now : Int) (G : AHeap) (hp : G p = some (.box (encCo k))) (hpf : G pf = some (.box (.box p off))) (hpn : G pn = some (.box (.int .i64 now))) :
    LCalls Try.prog 69 [.box p off, .fn (.func 70) [.box pf 0, .box pn 0]] G (fun b => b = p) (fun n v effs => v = .tup [] ∧ effs = [(p, .box (encCo (k.once i now)))]) :=
  lcalls_cel ⟨_, Try.func69, by kernel_rfl, by kernel_rfl⟩ hp fun H w vs hH hs hr => by
    obtain ⟨v, u, rfl, g1, g2⟩ := reps2 hr
    rw [rep_box g1, rep_clo g2]
    subst hoff
    have hz := Cel.zero hs (hH _ _ hp)
    obtain ⟨c0, c1, c3, c4⟩ := k.cell i hi
    refine ⟨_, fun _ _ => .tup [] [] rfl (fun i h => by simp at h), ?_⟩
    cases hf : k.fin i with
    | some t =>
      rw [hf] at c0
      refine (do_done ⟨p, 3 + i * 5, none⟩ _ w (hz.get c0).1).mono ?_
      rintro e w' ⟨rfl, rfl⟩
      rw [Co.once_same hi hf]
      exact ⟨rfl, hz⟩
    | none =>
      rw [hf] at c0 c3 c4
      obtain ⟨u1, e1, r1⟩ := box_one hs (hH _ _ hpf) rfl
      obtain ⟨u2, e2, r2⟩ := box_one hs (hH _ _ hpn) rfl
      rw [rep_box r1] at e1
      rw [rep_int9 r2] at e2
      have hbf : ¬ p = (⟨pf, 0, none⟩ : Addr).block := fun e => by have e : p = pf := e; rw [e, hpf] at hp; cases hp
      have hbn : ¬ p = (⟨pn, 0, none⟩ : Addr).block := fun e => by have e : p = pn := e; rw [e, hpn] at hp; cases hp
      have q0 := hz.get c0
      have q1 := hz.get c1
      have q3 := hz.get c3
      have q4 := hz.get c4
      refine (do_first p (3 + i * 5) ⟨pf, 0, none⟩ ⟨pn, 0, none⟩ hbf hbn now _ _ w e1 e2 q0.1 q1.1 q3.1 q4.1 q0.2 q1.2 q3.2 q4.2).mono ?_
      rintro e w' ⟨rfl, rfl⟩
      have hlen : (coL k).length = 19 := rfl
      have h9 := (((((hz.cell (off := 3 + i * 5 + 1) (by rw [hlen]; omega) .i32 1).drew.cell (off := 3 + i * 5 + 3) (by simp [hlen]; omega) .i64 now).drew.cell (off := 3 + i * 5 + 4) (by simp [hlen]; omega) .u32 1).drew.cell (off := 3 + i * 5) (by simp [hlen]; omega) .u32 1).cell (off := 3 + i * 5 + 1) (by simp [hlen]; omega) .i32 0)
      rw [Co.once_cells k i now hi hf] at h9
      exact ⟨rfl, h9⟩

end Go.Proofs.Ytgedefcjngofkaa

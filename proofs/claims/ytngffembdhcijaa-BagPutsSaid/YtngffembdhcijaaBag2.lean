import Derived.Test.YtngffembdhcijaaIns
import Derived.Test.YtngffembdhcijaaPBag2
set_option maxHeartbeats 8000000
set_option linter.unusedSimpArgs false
set_option linter.unusedVariables false
set_option maxRecDepth 100000
namespace Go.Proofs.Ytngffembdhcijaa
open Go Go.Proofs.Ytngffembdhcijaa.AM
theorem insFd_any (av : AV) (q i : Nat) (l m : List Fd) (zi : Int) (G : AHeap) (hzi : zi = (i : Int)) (hav : (av = .nil0 ∧ l = []) ∨ ∃ r, av = .own r 2 0 l.length ∧ G r = some (.row 2 (l.map encFd)) ∧ q ≠ r) (hq : G q = some (.row 2 (m.map encFd))) (hi : i ≤ l.length) (hm : 0 < m.length) (hb : l.length + m.length ≤ 1000000) :
    LCalls Try.prog 66 [av, .int .i64 zi, .own q 2 0 m.length] G (fun b => ∃ n, av = .own b 2 0 n) (fun n v effs => ∃ p, ((∃ k, av = .own p 2 0 k) ∨ n ≤ p) ∧ v = .own p 2 0 (l.length + m.length) ∧ effs = [(p, .row 2 ((l.take i ++ m ++ l.drop i).map encFd))]) := by
  rcases hav with ⟨rfl, rfl⟩ | ⟨r, rfl, hG, hne⟩
  · obtain rfl : i = 0 := by simpa using hi
    subst hzi
    refine LCalls.weakD ((insFdNil_ok q m G hq hm (by simpa using hb)).mono fun n v effs h => ?_) (fun b h => h.elim) (fun b ⟨n, h⟩ => by cases h)
    rcases h with ⟨_, h0, _⟩ | ⟨p, hp, rfl, rfl⟩
    · have : m = [] := by simpa using h0
      subst this; simp at hm
    · exact ⟨p, .inr hp, by simp, by simp⟩
  · refine LCalls.weakD ((insFd_ok r q i l m zi G hzi hG hq hne hi hm hb).mono fun n v effs h => ?_) (fun b h => ⟨l.length, by have e : b = r := h; rw [e]⟩) (fun b ⟨n, h⟩ => by injection h with e; subst e; rw [hG]; simp)
    obtain ⟨p, hp, h2, h3⟩ := h
    exact ⟨p, hp.imp (fun e => ⟨_, by rw [e]⟩) id, h2, h3⟩
theorem bagPut_ok (b : List Fd) (G : AHeap) (va : AV) (hva : va.view G = some (b.map encFd)) (f : Fd) (hl : Small b) (hf : f.data.length ≤ 1000000) : PCalls Try.prog 42 [va, encFd f] G (fun r => r = .tup [encBag (bput b f).1, .int .i64 (bput b f).2]) := by
  refine LCalls.intro 44 fi42 rfl Try.ntmps42 rfl (fun _ h => h.elim) (fun H hH w0 hw0 => ?_)
  have hl1 := hl.1
  have hva := view_sub hH hva
  refine g_seq (fun K0 hK0 => ?_)
  refine g_region ?_
  refine g_step rfl (s_box rfl rfl rfl rfl ?_)
  refine g_step rfl (s_val (v_assign rfl) rfl rfl ?_)
  refine g_step rfl (s_val (v_assign rfl) rfl rfl ?_)
  refine g_nil ?_
  refine g_next hK0 ?_
  refine g_seq (fun K1 hK1 => ?_)
  refine g_seq (fun K2 hK2 => ?_)
  refine g_region ?_
  refine g_step rfl (s_val (v_move rfl) rfl rfl ?_)
  refine g_step rfl (s_callp rfl rfl rfl (bagValid_ok b _ _ hva hl) ?_)
  rintro _ rfl
  refine g_step rfl (s_val (v_not rfl) rfl rfl ?_)
  refine g_step rfl (s_val (v_move rfl) rfl rfl ?_)
  refine g_split 11 rfl (fun hg11 => ?_) (fun hg11 => ?_)
  · try simp only [decide_eq_true_eq, decide_eq_false_iff_not, Bool.not_eq_true', Bool.not_eq_false', Bool.not_eq_eq_eq_not, Bool.not_true, Bool.not_false, Bool.and_eq_true, Bool.or_eq_true, Bool.or_eq_false_iff, beq_iff_eq, beq_eq_false_iff_ne, ne_eq, Int.not_lt, Int.not_le, Decidable.not_not] at hg11
    refine g_step_no (j := 3) (t := 11) rfl rfl rfl rfl rfl rfl rfl ?_
    refine g_step_no (j := 3) (t := 11) rfl rfl rfl rfl rfl rfl rfl ?_
    refine g_step_no (j := 3) (t := 11) rfl rfl rfl rfl rfl rfl rfl ?_
    refine g_step_no (j := 3) (t := 11) rfl rfl rfl rfl rfl rfl rfl ?_
    refine g_step rfl (s_val (v_pick_t rfl rfl) rfl rfl ?_)
    refine g_nil ?_
    refine g_next hK2 ?_
    refine g_cond rfl (fun _ => ?_) (fun h => by cases h)
    refine g_seq (fun K3 hK3 => ?_)
    refine g_region ?_
    refine g_step rfl (s_val (v_assign rfl) rfl rfl ?_)
    refine g_step rfl (s_val (v_assign rfl) rfl rfl ?_)
    refine g_nil ?_
    refine g_next hK3 ?_
    refine g_ret ?_
    refine g_then_ret ?_
    refine g_end2 (.inl rfl) Try.results42 (.tmp rfl) (.tmp rfl) [] (ASub.tup (m := [.imm [], .int .i64 1]) ⟨ASub.nil0, ASub.refl _, trivial⟩) (AHeap.sub_refl _) (fun p hp => by cases hp) ⟨rfl, ?_⟩
    first | (rw [bput, if_neg (by simp_all)]; done) | (rw [bput, if_neg (by simp_all)]; rfl)
  · try simp only [decide_eq_true_eq, decide_eq_false_iff_not, Bool.not_eq_true', Bool.not_eq_false', Bool.not_eq_eq_eq_not, Bool.not_true, Bool.not_false, Bool.and_eq_true, Bool.or_eq_true, Bool.or_eq_false_iff, beq_iff_eq, beq_eq_false_iff_ne, ne_eq, Int.not_lt, Int.not_le, Decidable.not_not] at hg11
    refine g_step_yes (j := 3) (t := 11) rfl rfl rfl rfl (s_val (by first | exact v_loadl_all ty51 rfl rfl rfl rfl rfl | exact v_loadl_part (cs := [_, _]) ty51 rfl rfl rfl rfl rfl rfl) rfl rfl ?_)
    refine g_step_yes (j := 3) (t := 11) rfl rfl rfl rfl (s_lit ty30 ty51 rfl rfl rfl rfl rfl rfl rfl ?_)
    refine g_step_yes (j := 3) (t := 11) rfl rfl rfl rfl (s_callp rfl rfl rfl (bagValid_ok [f] _ _ rfl ⟨by simp, by simp [bsize]; omega⟩) ?_)
    rintro _ rfl
    refine g_step_yes (j := 3) (t := 11) rfl rfl rfl rfl (s_val (v_not rfl) rfl rfl ?_)
    refine g_step rfl (s_val (v_pick_f rfl rfl) rfl rfl ?_)
    refine g_nil ?_
    refine g_next hK2 ?_
    refine g_cond rfl (fun hc16 => ?_) (fun hc16 => ?_)
    · try simp only [decide_eq_true_eq, decide_eq_false_iff_not, Bool.not_eq_true', Bool.not_eq_false', Bool.not_eq_eq_eq_not, Bool.not_true, Bool.not_false, Bool.and_eq_true, Bool.or_eq_true, Bool.or_eq_false_iff, beq_iff_eq, beq_eq_false_iff_ne, ne_eq, Int.not_lt, Int.not_le, Decidable.not_not] at hc16
      refine g_seq (fun K4 hK4 => ?_)
      refine g_region ?_
      refine g_step rfl (s_val (v_assign rfl) rfl rfl ?_)
      refine g_step rfl (s_val (v_assign rfl) rfl rfl ?_)
      refine g_nil ?_
      refine g_next hK4 ?_
      refine g_ret ?_
      refine g_then_ret ?_
      refine g_end2 (.inl rfl) Try.results42 (.tmp rfl) (.tmp rfl) [] (ASub.tup (m := [.imm [], .int .i64 1]) ⟨ASub.nil0, ASub.refl _, trivial⟩) (AHeap.sub_refl _) (fun p hp => by cases hp) ⟨rfl, ?_⟩
      first | (rw [bput, if_neg (by simp_all)]; done) | (rw [bput, if_neg (by simp_all)]; rfl)
    · try simp only [decide_eq_true_eq, decide_eq_false_iff_not, Bool.not_eq_true', Bool.not_eq_false', Bool.not_eq_eq_eq_not, Bool.not_true, Bool.not_false, Bool.and_eq_true, Bool.or_eq_true, Bool.or_eq_false_iff, beq_iff_eq, beq_eq_false_iff_ne, ne_eq, Int.not_lt, Int.not_le, Decidable.not_not] at hc16
      have hvb : bagValid b = true ∧ bagValid [f] = true := by simp_all
      refine g_skip ?_
      refine g_next hK1 ?_
      refine g_seq (fun K5 hK5 => ?_)
      refine g_region ?_
      refine g_step rfl (s_val (v_assign rfl) rfl rfl ?_)
      refine g_nil ?_
      refine g_next hK5 ?_
      refine g_seq (fun K6 hK6 => ?_)
      refine g_block ?_
      refine g_keep [0, 6] [3] [3] rfl rfl rfl rfl ?_
      refine g_loop (fun n env L B G => ∃ (k : Nat) , k ≤ b.length ∧ n = b.length - k ∧ env = [(0, va), (6, .int .i64 (k : Int))] ∧ L = [(3, 3, 0)] ∧ B = [(3, encFd f)] ∧ H = G ∧ (b.take k).all (fun x => decide (x.tag ≤ f.tag)) = true) (b.length) ⟨0, Nat.zero_le _, rfl, rfl, rfl, rfl, rfl, rfl⟩ (fun n env L B G hI => ?_)
      obtain ⟨k, hk, rfl, rfl, rfl, rfl, rfl, hc⟩ := hI
      refine g_seq (fun K7 hK7 => ?_)
      refine g_seq (fun K8 hK8 => ?_)
      refine g_draw (n := 14) (fun j => !([] : List Nat).contains j) rfl rfl ?_
      refine m_take 0 false rfl rfl (by kernel_rfl) (by kernel_rfl) (by kernel_rfl) (fun _ _ _ _ h => h) (v_move rfl) rfl rfl ?_
      refine m_take 1 false rfl rfl (by kernel_rfl) (by kernel_rfl) (by kernel_rfl) (fun _ _ _ _ h => h) (v_move rfl) rfl rfl ?_
      refine m_take 2 false rfl rfl (by kernel_rfl) (by kernel_rfl) (by kernel_rfl) (fun _ _ _ _ h => h) (v_len ty30 rfl (by first | rfl | assumption) (by first | exact List.length_map .. | rfl)) rfl rfl ?_
      refine m_take 3 false rfl rfl (by kernel_rfl) (by kernel_rfl) (by kernel_rfl) (fun _ _ _ _ h => h) (v_lss rfl rfl) rfl rfl ?_
      refine m_take 4 false rfl rfl (by kernel_rfl) (by kernel_rfl) (by kernel_rfl) (fun _ _ _ _ h => h) (v_move rfl) rfl rfl ?_
      refine m_split 21 rfl (fun hg21 => ?_) (fun hg21 => ?_)
      · try simp only [decide_eq_true_eq, decide_eq_false_iff_not, Bool.not_eq_true', Bool.not_eq_false', Bool.not_eq_eq_eq_not, Bool.not_true, Bool.not_false, Bool.and_eq_true, Bool.or_eq_true, Bool.or_eq_false_iff, beq_iff_eq, beq_eq_false_iff_ne, ne_eq, Int.not_lt, Int.not_le, Decidable.not_not] at hg21
        obtain ⟨x, hx⟩ := get_some (l := b) (k := k) (by omega)
        refine m_take_yes (j := 4) (t := 21) 5 false rfl rfl rfl rfl rfl (by kernel_rfl) (by kernel_rfl) (by kernel_rfl) (fun _ _ _ _ h => h) (v_move rfl) rfl rfl ?_
        refine m_take_yes (j := 4) (t := 21) 6 false rfl rfl rfl rfl rfl (by kernel_rfl) (by kernel_rfl) (by kernel_rfl) (fun _ _ _ _ h => h) (v_move rfl) rfl rfl ?_
        refine m_take_yes (j := 4) (t := 21) 7 false rfl rfl rfl rfl rfl (by kernel_rfl) (by kernel_rfl) (by kernel_rfl) (fun _ _ _ _ h => h) (v_indexAddr ty30 ty51 rfl rfl (by first | rfl | assumption) (by first | rfl | exact (rfl : (0 : Int) = ((0 : Nat) : Int)) | exact (Int.toNat_of_nonneg (by omega)).symm) (by first | assumption | exact map_get (by assumption) | rfl) rfl) rfl rfl ?_
        refine m_take_yes (j := 4) (t := 21) 8 false rfl rfl rfl rfl rfl (by kernel_rfl) (by kernel_rfl) (by kernel_rfl) (fun _ _ _ _ h => h) (by first | exact v_fieldAddr ty51 fo51_0 ty3 rfl | exact v_fieldAddr_box ty51 fo51_0 ty3 rfl) rfl rfl ?_
        refine m_take_yes (j := 4) (t := 21) 9 true rfl rfl rfl rfl rfl (by kernel_rfl) (by kernel_rfl) (by kernel_rfl) (fun _ _ _ _ h => h) (by first | exact v_load ty3 rfl rfl (by first | rfl | assumption) (by first | assumption | exact map_get (by assumption) | rfl) rfl | exact v_load_box ty3 rfl rfl (by assumption) rfl) rfl rfl ?_
        refine m_takel_yes (j := 4) (t := 21) 10 rfl rfl rfl rfl rfl (by kernel_rfl) (by kernel_rfl) (by kernel_rfl) (fun _ _ _ _ h => h) (vl_fieldAddr ty51 fo51_0 ty3 rfl) rfl rfl ?_
        refine m_take_yes (j := 4) (t := 21) 11 true rfl rfl rfl rfl rfl (by kernel_rfl) (by kernel_rfl) (by kernel_rfl) (fun _ _ _ _ h => h) (v_loadl ty3 rfl rfl rfl rfl) rfl rfl ?_
        refine m_take_yes (j := 4) (t := 21) 12 false rfl rfl rfl rfl rfl (by kernel_rfl) (by kernel_rfl) (by kernel_rfl) (fun _ _ _ _ h => h) (v_leq rfl rfl) rfl rfl ?_
        refine m_take 13 false rfl rfl (by kernel_rfl) (by kernel_rfl) (by kernel_rfl) (fun _ _ _ _ h => h) (v_pick_t rfl rfl) rfl rfl ?_
        refine m_done (by kernel_rfl) ?_
        refine g_next hK8 ?_
        refine g_cond rfl (fun hc30 => ?_) (fun hc30 => ?_)
        · try simp only [decide_eq_true_eq, decide_eq_false_iff_not, Bool.not_eq_true', Bool.not_eq_false', Bool.not_eq_eq_eq_not, Bool.not_true, Bool.not_false, Bool.and_eq_true, Bool.or_eq_true, Bool.or_eq_false_iff, beq_iff_eq, beq_eq_false_iff_ne, ne_eq, Int.not_lt, Int.not_le, Decidable.not_not] at hc30
          refine g_skip ?_
          refine g_next hK7 ?_
          refine g_block ?_
          refine g_region ?_
          refine g_step rfl (s_val (v_move rfl) rfl rfl ?_)
          refine g_step rfl (s_val (v_add rfl rfl (by omega)) rfl rfl ?_)
          refine g_step rfl (s_val (v_assign rfl) rfl rfl ?_)
          refine g_nil ?_
          refine g_block_normal ?_
          refine g_keep [0, 6] [3] [3] rfl rfl rfl rfl ?_
          exact g_round _ (by omega) ⟨k + 1, by omega, rfl, rfl, rfl, rfl, rfl, by rw [all_snoc hx, hc, Bool.true_and]; simpa using hc30⟩
        · try simp only [decide_eq_true_eq, decide_eq_false_iff_not, Bool.not_eq_true', Bool.not_eq_false', Bool.not_eq_eq_eq_not, Bool.not_true, Bool.not_false, Bool.and_eq_true, Bool.or_eq_true, Bool.or_eq_false_iff, beq_iff_eq, beq_eq_false_iff_ne, ne_eq, Int.not_lt, Int.not_le, Decidable.not_not] at hc30
          have hat : insPt b f.tag = k := insPt_at hc (by omega) (fun y hy => by first | (rw [List.getElem?_eq_none (by omega)] at hy; cases hy) | (rw [hx] at hy; cases hy; omega))
          obtain rfl := hat
          refine g_exit ?_
          refine g_then_exit ?_
          refine g_then_exit ?_
          refine g_block_same ?_
          refine g_next hK6 ?_
          refine g_seq (fun K9 hK9 => ?_)
          refine g_draw (n := 8) (fun j => !([1, 5, 6] : List Nat).contains j) rfl rfl ?_
          refine m_take 0 false rfl rfl (by kernel_rfl) (by kernel_rfl) (by kernel_rfl) (fun _ _ _ _ h => h) (v_move rfl) rfl rfl ?_
          refine m_take 2 false rfl rfl (by kernel_rfl) (by kernel_rfl) (by kernel_rfl) (fun _ _ _ _ h => h) (v_move rfl) rfl rfl ?_
          refine m_all (is := [1, 3]) (by kernel_rfl) rfl (fun _ _ _ => trivial) (fun i hi => ?_)
          rcases (by simpa using hi : i = 1 ∨ i = 3) with rfl | rfl
          · refine ⟨_, rfl, .inl ⟨rfl, ?_⟩⟩
            refine sm_any rfl (s_call rfl rfl rfl (bagCopyO_ok b _ _ hva hl) (fun _ h => h.elim) ?_)
            rintro n1 av effs1 hn1 hdom1 hR1 hok1
            have hown := hR1.own (n0 := w0.heap.size) hn1 hdom1
            generalize setAll H effs1 = G1 at hown ⊢
            refine m_one 3 (by kernel_rfl) rfl rfl ?_
            refine sm_val (by first | exact v_loadl_all ty51 rfl rfl rfl rfl rfl | exact v_loadl_part (cs := [_, _]) ty51 rfl rfl rfl rfl rfl rfl) rfl rfl ?_
            refine m_one 4 (by kernel_rfl) rfl rfl ?_
            refine sm_callp rfl rfl rfl (bagOne_ok f _ hf) ?_
            rintro _ rfl
            refine m_one 5 (by kernel_rfl) rfl rfl ?_
            refine sm_any rfl (s_litO ty30 ty51 rfl rfl rfl rfl rfl rfl rfl (fun q hq1 hq2 => ?_))
            have hq3 : H q = none := sub_none hown.sub hq1
            have hav : (av = .nil0 ∧ b = []) ∨ ∃ r, av = .own r 2 0 b.length ∧ (AHeap.set G1 q (.row 2 [encFd f])) r = some (.row 2 (b.map encFd)) ∧ q ≠ r := by
              rcases own_row hown with ⟨e1, e2⟩ | ⟨r, e1, e2, e3, e4⟩
              · exact .inl ⟨e1, by simpa using e2⟩
              · have hqr : q ≠ r := fun e => by subst e; rw [hq1] at e2; cases e2
                exact .inr ⟨r, by simpa using e1, by rw [AHeap.get_set_ne _ _ (Ne.symm hqr)]; exact e2, hqr⟩
            refine m_one 6 (by kernel_rfl) rfl rfl ?_
            refine sm_any rfl (s_call rfl rfl rfl (insFd_any av q (insPt b f.tag) b [f] _ _ rfl hav (AHeap.get_set _ _ _) (insPt_le b f.tag) (by simp) (by have := (bagValid_size hvb.1).1; simp; omega)) (fun b' ⟨n', hb'⟩ => by rcases own_row hown with ⟨e1, _⟩ | ⟨r, e1, _, _, e4⟩ <;> rw [e1] at hb' <;> cases hb'; exact .inr e4) ?_)
            rintro n3 v3 effs3 hn3 hdom3 ⟨p, hp, rfl, rfl⟩ hok3
            have hHp : H p = none := by
              rcases hp with ⟨k, hk⟩ | hp
              · rcases own_row hown with ⟨e1, _⟩ | ⟨r, e1, _, e3, _⟩ <;> rw [e1] at hk <;> cases hk; exact e3
              · exact sub_none (sub_set_free _ hown.sub hq3) (hdom3 p hp)
            refine m_take 7 false rfl rfl (by kernel_rfl) (by kernel_rfl) (by kernel_rfl) (fun _ _ _ _ h => h) (v_assign rfl) rfl rfl ?_
            refine m_done (by kernel_rfl) ?_
            refine g_freezeG (H := H) (m := (bins b f).map encFd) 7 rfl (AHeap.get_set _ _ _) (sub_set_free _ (sub_set_free _ hown.sub hq3) hHp) hHp (by have := insPt_le b f.tag; simp; omega) (by have := insPt_le b f.tag; rw [List.drop_zero]; exact List.take_of_length_le (by simp; omega)) ?_
            refine g_next hK9 ?_
            refine g_seq (fun K10 hK10 => ?_)
            refine g_seq (fun K11 hK11 => ?_)
            refine g_region ?_
            refine g_step rfl (s_val (v_move rfl) rfl rfl ?_)
            refine g_step rfl (s_callp rfl rfl rfl (bagValid_ok (bins b f) _ _ rfl (bins_small hvb.1 hvb.2)) ?_)
            rintro _ rfl
            refine g_step rfl (s_val (v_not rfl) rfl rfl ?_)
            refine g_nil ?_
            refine g_next hK11 ?_
            refine g_keep [7, 42] [] [] rfl rfl rfl rfl ?_
            refine g_cond rfl (fun hc42 => ?_) (fun hc42 => ?_)
            · try simp only [decide_eq_true_eq, decide_eq_false_iff_not, Bool.not_eq_true', Bool.not_eq_false', Bool.not_eq_eq_eq_not, Bool.not_true, Bool.not_false, Bool.and_eq_true, Bool.or_eq_true, Bool.or_eq_false_iff, beq_iff_eq, beq_eq_false_iff_ne, ne_eq, Int.not_lt, Int.not_le, Decidable.not_not] at hc42
              refine g_seq (fun K12 hK12 => ?_)
              refine g_region ?_
              refine g_step rfl (s_val (v_assign rfl) rfl rfl ?_)
              refine g_step rfl (s_val (v_assign rfl) rfl rfl ?_)
              refine g_nil ?_
              refine g_next hK12 ?_
              refine g_ret ?_
              refine g_then_ret ?_
              refine g_end2 (.inl rfl) Try.results42 (.tmp rfl) (.tmp rfl) [] (ASub.tup (m := [.imm [], .int .i64 6]) ⟨ASub.nil0, ASub.refl _, trivial⟩) (AHeap.sub_refl _) (fun p hp => by cases hp) ⟨rfl, ?_⟩
              first | (rw [bput, if_pos (by simp [hvb]), if_neg (by simp_all)]; done) | (rw [bput, if_pos (by simp [hvb]), if_neg (by simp_all)]; rfl)
            · try simp only [decide_eq_true_eq, decide_eq_false_iff_not, Bool.not_eq_true', Bool.not_eq_false', Bool.not_eq_eq_eq_not, Bool.not_true, Bool.not_false, Bool.and_eq_true, Bool.or_eq_true, Bool.or_eq_false_iff, beq_iff_eq, beq_eq_false_iff_ne, ne_eq, Int.not_lt, Int.not_le, Decidable.not_not] at hc42
              refine g_skip ?_
              refine g_next hK10 ?_
              refine g_seq (fun K13 hK13 => ?_)
              refine g_region ?_
              refine g_step rfl (s_val (v_move rfl) rfl rfl ?_)
              refine g_step rfl (s_val (v_assign rfl) rfl rfl ?_)
              refine g_step rfl (s_val (v_assign rfl) rfl rfl ?_)
              refine g_nil ?_
              refine g_next hK13 ?_
              refine g_ret ?_
              refine g_end2 (.inl rfl) Try.results42 (.tmp rfl) (.tmp rfl) [] (ASub.refl _) (AHeap.sub_refl _) (fun p hp => by cases hp) ⟨rfl, ?_⟩
              first | (rw [bput, if_pos (by simp [hvb]), if_pos (by simp_all)]; done) | (rw [bput, if_pos (by simp [hvb]), if_pos (by simp_all)]; rfl)
          · refine ⟨_, rfl, .inl ⟨rfl, ?_⟩⟩
            refine sm_val (by first | exact v_loadl_all ty51 rfl rfl rfl rfl rfl | exact v_loadl_part (cs := [_, _]) ty51 rfl rfl rfl rfl rfl rfl) rfl rfl ?_
            refine m_one 1 (by kernel_rfl) rfl rfl ?_
            refine sm_any rfl (s_call rfl rfl rfl (bagCopyO_ok b _ _ hva hl) (fun _ h => h.elim) ?_)
            rintro n1 av effs1 hn1 hdom1 hR1 hok1
            have hown := hR1.own (n0 := w0.heap.size) hn1 hdom1
            generalize setAll H effs1 = G1 at hown ⊢
            refine m_one 4 (by kernel_rfl) rfl rfl ?_
            refine sm_callp rfl rfl rfl (bagOne_ok f _ hf) ?_
            rintro _ rfl
            refine m_one 5 (by kernel_rfl) rfl rfl ?_
            refine sm_any rfl (s_litO ty30 ty51 rfl rfl rfl rfl rfl rfl rfl (fun q hq1 hq2 => ?_))
            have hq3 : H q = none := sub_none hown.sub hq1
            have hav : (av = .nil0 ∧ b = []) ∨ ∃ r, av = .own r 2 0 b.length ∧ (AHeap.set G1 q (.row 2 [encFd f])) r = some (.row 2 (b.map encFd)) ∧ q ≠ r := by
              rcases own_row hown with ⟨e1, e2⟩ | ⟨r, e1, e2, e3, e4⟩
              · exact .inl ⟨e1, by simpa using e2⟩
              · have hqr : q ≠ r := fun e => by subst e; rw [hq1] at e2; cases e2
                exact .inr ⟨r, by simpa using e1, by rw [AHeap.get_set_ne _ _ (Ne.symm hqr)]; exact e2, hqr⟩
            refine m_one 6 (by kernel_rfl) rfl rfl ?_
            refine sm_any rfl (s_call rfl rfl rfl (insFd_any av q (insPt b f.tag) b [f] _ _ rfl hav (AHeap.get_set _ _ _) (insPt_le b f.tag) (by simp) (by have := (bagValid_size hvb.1).1; simp; omega)) (fun b' ⟨n', hb'⟩ => by rcases own_row hown with ⟨e1, _⟩ | ⟨r, e1, _, _, e4⟩ <;> rw [e1] at hb' <;> cases hb'; exact .inr e4) ?_)
            rintro n3 v3 effs3 hn3 hdom3 ⟨p, hp, rfl, rfl⟩ hok3
            have hHp : H p = none := by
              rcases hp with ⟨k, hk⟩ | hp
              · rcases own_row hown with ⟨e1, _⟩ | ⟨r, e1, _, e3, _⟩ <;> rw [e1] at hk <;> cases hk; exact e3
              · exact sub_none (sub_set_free _ hown.sub hq3) (hdom3 p hp)
            refine m_take 7 false rfl rfl (by kernel_rfl) (by kernel_rfl) (by kernel_rfl) (fun _ _ _ _ h => h) (v_assign rfl) rfl rfl ?_
            refine m_done (by kernel_rfl) ?_
            refine g_freezeG (H := H) (m := (bins b f).map encFd) 7 rfl (AHeap.get_set _ _ _) (sub_set_free _ (sub_set_free _ hown.sub hq3) hHp) hHp (by have := insPt_le b f.tag; simp; omega) (by have := insPt_le b f.tag; rw [List.drop_zero]; exact List.take_of_length_le (by simp; omega)) ?_
            refine g_next hK9 ?_
            refine g_seq (fun K14 hK14 => ?_)
            refine g_seq (fun K15 hK15 => ?_)
            refine g_region ?_
            refine g_step rfl (s_val (v_move rfl) rfl rfl ?_)
            refine g_step rfl (s_callp rfl rfl rfl (bagValid_ok (bins b f) _ _ rfl (bins_small hvb.1 hvb.2)) ?_)
            rintro _ rfl
            refine g_step rfl (s_val (v_not rfl) rfl rfl ?_)
            refine g_nil ?_
            refine g_next hK15 ?_
            refine g_keep [7, 42] [] [] rfl rfl rfl rfl ?_
            refine g_cond rfl (fun hc42 => ?_) (fun hc42 => ?_)
            · try simp only [decide_eq_true_eq, decide_eq_false_iff_not, Bool.not_eq_true', Bool.not_eq_false', Bool.not_eq_eq_eq_not, Bool.not_true, Bool.not_false, Bool.and_eq_true, Bool.or_eq_true, Bool.or_eq_false_iff, beq_iff_eq, beq_eq_false_iff_ne, ne_eq, Int.not_lt, Int.not_le, Decidable.not_not] at hc42
              refine g_seq (fun K16 hK16 => ?_)
              refine g_region ?_
              refine g_step rfl (s_val (v_assign rfl) rfl rfl ?_)
              refine g_step rfl (s_val (v_assign rfl) rfl rfl ?_)
              refine g_nil ?_
              refine g_next hK16 ?_
              refine g_ret ?_
              refine g_then_ret ?_
              refine g_end2 (.inl rfl) Try.results42 (.tmp rfl) (.tmp rfl) [] (ASub.tup (m := [.imm [], .int .i64 6]) ⟨ASub.nil0, ASub.refl _, trivial⟩) (AHeap.sub_refl _) (fun p hp => by cases hp) ⟨rfl, ?_⟩
              first | (rw [bput, if_pos (by simp [hvb]), if_neg (by simp_all)]; done) | (rw [bput, if_pos (by simp [hvb]), if_neg (by simp_all)]; rfl)
            · try simp only [decide_eq_true_eq, decide_eq_false_iff_not, Bool.not_eq_true', Bool.not_eq_false', Bool.not_eq_eq_eq_not, Bool.not_true, Bool.not_false, Bool.and_eq_true, Bool.or_eq_true, Bool.or_eq_false_iff, beq_iff_eq, beq_eq_false_iff_ne, ne_eq, Int.not_lt, Int.not_le, Decidable.not_not] at hc42
              refine g_skip ?_
              refine g_next hK14 ?_
              refine g_seq (fun K17 hK17 => ?_)
              refine g_region ?_
              refine g_step rfl (s_val (v_move rfl) rfl rfl ?_)
              refine g_step rfl (s_val (v_assign rfl) rfl rfl ?_)
              refine g_step rfl (s_val (v_assign rfl) rfl rfl ?_)
              refine g_nil ?_
              refine g_next hK17 ?_
              refine g_ret ?_
              refine g_end2 (.inl rfl) Try.results42 (.tmp rfl) (.tmp rfl) [] (ASub.refl _) (AHeap.sub_refl _) (fun p hp => by cases hp) ⟨rfl, ?_⟩
              first | (rw [bput, if_pos (by simp [hvb]), if_pos (by simp_all)]; done) | (rw [bput, if_pos (by simp [hvb]), if_pos (by simp_all)]; rfl)
      · try simp only [decide_eq_true_eq, decide_eq_false_iff_not, Bool.not_eq_true', Bool.not_eq_false', Bool.not_eq_eq_eq_not, Bool.not_true, Bool.not_false, Bool.and_eq_true, Bool.or_eq_true, Bool.or_eq_false_iff, beq_iff_eq, beq_eq_false_iff_ne, ne_eq, Int.not_lt, Int.not_le, Decidable.not_not] at hg21
        have hat : insPt b f.tag = k := insPt_at hc (by omega) (fun y hy => by first | (rw [List.getElem?_eq_none (by omega)] at hy; cases hy) | (rw [hx] at hy; cases hy; omega))
        obtain rfl := hat
        refine m_take_no (j := 4) (t := 21) 5 rfl rfl rfl rfl rfl rfl (by kernel_rfl) (by kernel_rfl) (by kernel_rfl) (fun _ _ _ _ h => h) rfl rfl ?_
        refine m_take_no (j := 4) (t := 21) 6 rfl rfl rfl rfl rfl rfl (by kernel_rfl) (by kernel_rfl) (by kernel_rfl) (fun _ _ _ _ h => h) rfl rfl ?_
        refine m_take_no (j := 4) (t := 21) 7 rfl rfl rfl rfl rfl rfl (by kernel_rfl) (by kernel_rfl) (by kernel_rfl) (fun _ _ _ _ h => h) rfl rfl ?_
        refine m_take_no (j := 4) (t := 21) 8 rfl rfl rfl rfl rfl rfl (by kernel_rfl) (by kernel_rfl) (by kernel_rfl) (fun _ _ _ _ h => h) rfl rfl ?_
        refine m_take_no (j := 4) (t := 21) 9 rfl rfl rfl rfl rfl rfl (by kernel_rfl) (by kernel_rfl) (by kernel_rfl) (fun _ _ _ _ h => h) rfl rfl ?_
        refine m_take_no (j := 4) (t := 21) 10 rfl rfl rfl rfl rfl rfl (by kernel_rfl) (by kernel_rfl) (by kernel_rfl) (fun _ _ _ _ h => h) rfl rfl ?_
        refine m_take_no (j := 4) (t := 21) 11 rfl rfl rfl rfl rfl rfl (by kernel_rfl) (by kernel_rfl) (by kernel_rfl) (fun _ _ _ _ h => h) rfl rfl ?_
        refine m_take_no (j := 4) (t := 21) 12 rfl rfl rfl rfl rfl rfl (by kernel_rfl) (by kernel_rfl) (by kernel_rfl) (fun _ _ _ _ h => h) rfl rfl ?_
        refine m_take 13 false rfl rfl (by kernel_rfl) (by kernel_rfl) (by kernel_rfl) (fun _ _ _ _ h => h) (v_pick_f rfl rfl) rfl rfl ?_
        refine m_done (by kernel_rfl) ?_
        refine g_next hK8 ?_
        refine g_cond rfl (fun h => by cases h) (fun _ => ?_)
        refine g_exit ?_
        refine g_then_exit ?_
        refine g_then_exit ?_
        refine g_block_same ?_
        refine g_next hK6 ?_
        refine g_seq (fun K18 hK18 => ?_)
        refine g_draw (n := 8) (fun j => !([1, 5, 6] : List Nat).contains j) rfl rfl ?_
        refine m_take 0 false rfl rfl (by kernel_rfl) (by kernel_rfl) (by kernel_rfl) (fun _ _ _ _ h => h) (v_move rfl) rfl rfl ?_
        refine m_take 2 false rfl rfl (by kernel_rfl) (by kernel_rfl) (by kernel_rfl) (fun _ _ _ _ h => h) (v_move rfl) rfl rfl ?_
        refine m_all (is := [1, 3]) (by kernel_rfl) rfl (fun _ _ _ => trivial) (fun i hi => ?_)
        rcases (by simpa using hi : i = 1 ∨ i = 3) with rfl | rfl
        · refine ⟨_, rfl, .inl ⟨rfl, ?_⟩⟩
          refine sm_any rfl (s_call rfl rfl rfl (bagCopyO_ok b _ _ hva hl) (fun _ h => h.elim) ?_)
          rintro n1 av effs1 hn1 hdom1 hR1 hok1
          have hown := hR1.own (n0 := w0.heap.size) hn1 hdom1
          generalize setAll H effs1 = G1 at hown ⊢
          refine m_one 3 (by kernel_rfl) rfl rfl ?_
          refine sm_val (by first | exact v_loadl_all ty51 rfl rfl rfl rfl rfl | exact v_loadl_part (cs := [_, _]) ty51 rfl rfl rfl rfl rfl rfl) rfl rfl ?_
          refine m_one 4 (by kernel_rfl) rfl rfl ?_
          refine sm_callp rfl rfl rfl (bagOne_ok f _ hf) ?_
          rintro _ rfl
          refine m_one 5 (by kernel_rfl) rfl rfl ?_
          refine sm_any rfl (s_litO ty30 ty51 rfl rfl rfl rfl rfl rfl rfl (fun q hq1 hq2 => ?_))
          have hq3 : H q = none := sub_none hown.sub hq1
          have hav : (av = .nil0 ∧ b = []) ∨ ∃ r, av = .own r 2 0 b.length ∧ (AHeap.set G1 q (.row 2 [encFd f])) r = some (.row 2 (b.map encFd)) ∧ q ≠ r := by
            rcases own_row hown with ⟨e1, e2⟩ | ⟨r, e1, e2, e3, e4⟩
            · exact .inl ⟨e1, by simpa using e2⟩
            · have hqr : q ≠ r := fun e => by subst e; rw [hq1] at e2; cases e2
              exact .inr ⟨r, by simpa using e1, by rw [AHeap.get_set_ne _ _ (Ne.symm hqr)]; exact e2, hqr⟩
          refine m_one 6 (by kernel_rfl) rfl rfl ?_
          refine sm_any rfl (s_call rfl rfl rfl (insFd_any av q (insPt b f.tag) b [f] _ _ rfl hav (AHeap.get_set _ _ _) (insPt_le b f.tag) (by simp) (by have := (bagValid_size hvb.1).1; simp; omega)) (fun b' ⟨n', hb'⟩ => by rcases own_row hown with ⟨e1, _⟩ | ⟨r, e1, _, _, e4⟩ <;> rw [e1] at hb' <;> cases hb'; exact .inr e4) ?_)
          rintro n3 v3 effs3 hn3 hdom3 ⟨p, hp, rfl, rfl⟩ hok3
          have hHp : H p = none := by
            rcases hp with ⟨k, hk⟩ | hp
            · rcases own_row hown with ⟨e1, _⟩ | ⟨r, e1, _, e3, _⟩ <;> rw [e1] at hk <;> cases hk; exact e3
            · exact sub_none (sub_set_free _ hown.sub hq3) (hdom3 p hp)
          refine m_take 7 false rfl rfl (by kernel_rfl) (by kernel_rfl) (by kernel_rfl) (fun _ _ _ _ h => h) (v_assign rfl) rfl rfl ?_
          refine m_done (by kernel_rfl) ?_
          refine g_freezeG (H := H) (m := (bins b f).map encFd) 7 rfl (AHeap.get_set _ _ _) (sub_set_free _ (sub_set_free _ hown.sub hq3) hHp) hHp (by have := insPt_le b f.tag; simp; omega) (by have := insPt_le b f.tag; rw [List.drop_zero]; exact List.take_of_length_le (by simp; omega)) ?_
          refine g_next hK18 ?_
          refine g_seq (fun K19 hK19 => ?_)
          refine g_seq (fun K20 hK20 => ?_)
          refine g_region ?_
          refine g_step rfl (s_val (v_move rfl) rfl rfl ?_)
          refine g_step rfl (s_callp rfl rfl rfl (bagValid_ok (bins b f) _ _ rfl (bins_small hvb.1 hvb.2)) ?_)
          rintro _ rfl
          refine g_step rfl (s_val (v_not rfl) rfl rfl ?_)
          refine g_nil ?_
          refine g_next hK20 ?_
          refine g_keep [7, 42] [] [] rfl rfl rfl rfl ?_
          refine g_cond rfl (fun hc42 => ?_) (fun hc42 => ?_)
          · try simp only [decide_eq_true_eq, decide_eq_false_iff_not, Bool.not_eq_true', Bool.not_eq_false', Bool.not_eq_eq_eq_not, Bool.not_true, Bool.not_false, Bool.and_eq_true, Bool.or_eq_true, Bool.or_eq_false_iff, beq_iff_eq, beq_eq_false_iff_ne, ne_eq, Int.not_lt, Int.not_le, Decidable.not_not] at hc42
            refine g_seq (fun K21 hK21 => ?_)
            refine g_region ?_
            refine g_step rfl (s_val (v_assign rfl) rfl rfl ?_)
            refine g_step rfl (s_val (v_assign rfl) rfl rfl ?_)
            refine g_nil ?_
            refine g_next hK21 ?_
            refine g_ret ?_
            refine g_then_ret ?_
            refine g_end2 (.inl rfl) Try.results42 (.tmp rfl) (.tmp rfl) [] (ASub.tup (m := [.imm [], .int .i64 6]) ⟨ASub.nil0, ASub.refl _, trivial⟩) (AHeap.sub_refl _) (fun p hp => by cases hp) ⟨rfl, ?_⟩
            first | (rw [bput, if_pos (by simp [hvb]), if_neg (by simp_all)]; done) | (rw [bput, if_pos (by simp [hvb]), if_neg (by simp_all)]; rfl)
          · try simp only [decide_eq_true_eq, decide_eq_false_iff_not, Bool.not_eq_true', Bool.not_eq_false', Bool.not_eq_eq_eq_not, Bool.not_true, Bool.not_false, Bool.and_eq_true, Bool.or_eq_true, Bool.or_eq_false_iff, beq_iff_eq, beq_eq_false_iff_ne, ne_eq, Int.not_lt, Int.not_le, Decidable.not_not] at hc42
            refine g_skip ?_
            refine g_next hK19 ?_
            refine g_seq (fun K22 hK22 => ?_)
            refine g_region ?_
            refine g_step rfl (s_val (v_move rfl) rfl rfl ?_)
            refine g_step rfl (s_val (v_assign rfl) rfl rfl ?_)
            refine g_step rfl (s_val (v_assign rfl) rfl rfl ?_)
            refine g_nil ?_
            refine g_next hK22 ?_
            refine g_ret ?_
            refine g_end2 (.inl rfl) Try.results42 (.tmp rfl) (.tmp rfl) [] (ASub.refl _) (AHeap.sub_refl _) (fun p hp => by cases hp) ⟨rfl, ?_⟩
            first | (rw [bput, if_pos (by simp [hvb]), if_pos (by simp_all)]; done) | (rw [bput, if_pos (by simp [hvb]), if_pos (by simp_all)]; rfl)
        · refine ⟨_, rfl, .inl ⟨rfl, ?_⟩⟩
          refine sm_val (by first | exact v_loadl_all ty51 rfl rfl rfl rfl rfl | exact v_loadl_part (cs := [_, _]) ty51 rfl rfl rfl rfl rfl rfl) rfl rfl ?_
          refine m_one 1 (by kernel_rfl) rfl rfl ?_
          refine sm_any rfl (s_call rfl rfl rfl (bagCopyO_ok b _ _ hva hl) (fun _ h => h.elim) ?_)
          rintro n1 av effs1 hn1 hdom1 hR1 hok1
          have hown := hR1.own (n0 := w0.heap.size) hn1 hdom1
          generalize setAll H effs1 = G1 at hown ⊢
          refine m_one 4 (by kernel_rfl) rfl rfl ?_
          refine sm_callp rfl rfl rfl (bagOne_ok f _ hf) ?_
          rintro _ rfl
          refine m_one 5 (by kernel_rfl) rfl rfl ?_
          refine sm_any rfl (s_litO ty30 ty51 rfl rfl rfl rfl rfl rfl rfl (fun q hq1 hq2 => ?_))
          have hq3 : H q = none := sub_none hown.sub hq1
          have hav : (av = .nil0 ∧ b = []) ∨ ∃ r, av = .own r 2 0 b.length ∧ (AHeap.set G1 q (.row 2 [encFd f])) r = some (.row 2 (b.map encFd)) ∧ q ≠ r := by
            rcases own_row hown with ⟨e1, e2⟩ | ⟨r, e1, e2, e3, e4⟩
            · exact .inl ⟨e1, by simpa using e2⟩
            · have hqr : q ≠ r := fun e => by subst e; rw [hq1] at e2; cases e2
              exact .inr ⟨r, by simpa using e1, by rw [AHeap.get_set_ne _ _ (Ne.symm hqr)]; exact e2, hqr⟩
          refine m_one 6 (by kernel_rfl) rfl rfl ?_
          refine sm_any rfl (s_call rfl rfl rfl (insFd_any av q (insPt b f.tag) b [f] _ _ rfl hav (AHeap.get_set _ _ _) (insPt_le b f.tag) (by simp) (by have := (bagValid_size hvb.1).1; simp; omega)) (fun b' ⟨n', hb'⟩ => by rcases own_row hown with ⟨e1, _⟩ | ⟨r, e1, _, _, e4⟩ <;> rw [e1] at hb' <;> cases hb'; exact .inr e4) ?_)
          rintro n3 v3 effs3 hn3 hdom3 ⟨p, hp, rfl, rfl⟩ hok3
          have hHp : H p = none := by
            rcases hp with ⟨k, hk⟩ | hp
            · rcases own_row hown with ⟨e1, _⟩ | ⟨r, e1, _, e3, _⟩ <;> rw [e1] at hk <;> cases hk; exact e3
            · exact sub_none (sub_set_free _ hown.sub hq3) (hdom3 p hp)
          refine m_take 7 false rfl rfl (by kernel_rfl) (by kernel_rfl) (by kernel_rfl) (fun _ _ _ _ h => h) (v_assign rfl) rfl rfl ?_
          refine m_done (by kernel_rfl) ?_
          refine g_freezeG (H := H) (m := (bins b f).map encFd) 7 rfl (AHeap.get_set _ _ _) (sub_set_free _ (sub_set_free _ hown.sub hq3) hHp) hHp (by have := insPt_le b f.tag; simp; omega) (by have := insPt_le b f.tag; rw [List.drop_zero]; exact List.take_of_length_le (by simp; omega)) ?_
          refine g_next hK18 ?_
          refine g_seq (fun K23 hK23 => ?_)
          refine g_seq (fun K24 hK24 => ?_)
          refine g_region ?_
          refine g_step rfl (s_val (v_move rfl) rfl rfl ?_)
          refine g_step rfl (s_callp rfl rfl rfl (bagValid_ok (bins b f) _ _ rfl (bins_small hvb.1 hvb.2)) ?_)
          rintro _ rfl
          refine g_step rfl (s_val (v_not rfl) rfl rfl ?_)
          refine g_nil ?_
          refine g_next hK24 ?_
          refine g_keep [7, 42] [] [] rfl rfl rfl rfl ?_
          refine g_cond rfl (fun hc42 => ?_) (fun hc42 => ?_)
          · try simp only [decide_eq_true_eq, decide_eq_false_iff_not, Bool.not_eq_true', Bool.not_eq_false', Bool.not_eq_eq_eq_not, Bool.not_true, Bool.not_false, Bool.and_eq_true, Bool.or_eq_true, Bool.or_eq_false_iff, beq_iff_eq, beq_eq_false_iff_ne, ne_eq, Int.not_lt, Int.not_le, Decidable.not_not] at hc42
            refine g_seq (fun K25 hK25 => ?_)
            refine g_region ?_
            refine g_step rfl (s_val (v_assign rfl) rfl rfl ?_)
            refine g_step rfl (s_val (v_assign rfl) rfl rfl ?_)
            refine g_nil ?_
            refine g_next hK25 ?_
            refine g_ret ?_
            refine g_then_ret ?_
            refine g_end2 (.inl rfl) Try.results42 (.tmp rfl) (.tmp rfl) [] (ASub.tup (m := [.imm [], .int .i64 6]) ⟨ASub.nil0, ASub.refl _, trivial⟩) (AHeap.sub_refl _) (fun p hp => by cases hp) ⟨rfl, ?_⟩
            first | (rw [bput, if_pos (by simp [hvb]), if_neg (by simp_all)]; done) | (rw [bput, if_pos (by simp [hvb]), if_neg (by simp_all)]; rfl)
          · try simp only [decide_eq_true_eq, decide_eq_false_iff_not, Bool.not_eq_true', Bool.not_eq_false', Bool.not_eq_eq_eq_not, Bool.not_true, Bool.not_false, Bool.and_eq_true, Bool.or_eq_true, Bool.or_eq_false_iff, beq_iff_eq, beq_eq_false_iff_ne, ne_eq, Int.not_lt, Int.not_le, Decidable.not_not] at hc42
            refine g_skip ?_
            refine g_next hK23 ?_
            refine g_seq (fun K26 hK26 => ?_)
            refine g_region ?_
            refine g_step rfl (s_val (v_move rfl) rfl rfl ?_)
            refine g_step rfl (s_val (v_assign rfl) rfl rfl ?_)
            refine g_step rfl (s_val (v_assign rfl) rfl rfl ?_)
            refine g_nil ?_
            refine g_next hK26 ?_
            refine g_ret ?_
            refine g_end2 (.inl rfl) Try.results42 (.tmp rfl) (.tmp rfl) [] (ASub.refl _) (AHeap.sub_refl _) (fun p hp => by cases hp) ⟨rfl, ?_⟩
            first | (rw [bput, if_pos (by simp [hvb]), if_pos (by simp_all)]; done) | (rw [bput, if_pos (by simp [hvb]), if_pos (by simp_all)]; rfl)

theorem drop1_ok (r : Nat) (t : Int) (x : Fd) (G : AHeap) (hG : G r = some (.box (.int .i64 t))) : PCalls Try.prog 69 [encFd x, .box r 0] G (fun v => v = .bool (decide (x.tag = t))) := by
  refine LCalls.intro 8 fi69 rfl Try.ntmps69 rfl (fun _ h => h.elim) (fun H hH w0 hw0 => ?_)
  have hG := hH _ _ hG
  refine g_seq (fun K0 hK0 => ?_)
  refine g_region ?_
  refine g_step rfl (s_box rfl rfl rfl rfl ?_)
  refine g_step rfl (s_val (v_assign rfl) rfl rfl ?_)
  refine g_nil ?_
  refine g_next hK0 ?_
  refine g_seq (fun K1 hK1 => ?_)
  refine g_region ?_
  refine g_step rfl (s_fieldAddr ty51 fo51_0 ty3 rfl rfl ?_)
  refine g_step rfl (s_val (v_loadl ty3 rfl rfl rfl rfl) rfl rfl ?_)
  refine g_step rfl (s_val (by first | exact v_load ty3 rfl rfl (by first | rfl | assumption) (by first | assumption | exact map_get (by assumption) | rfl) rfl | exact v_load_box ty3 rfl rfl (by assumption) rfl) rfl rfl ?_)
  refine g_step rfl (s_val (v_eql rfl rfl) rfl rfl ?_)
  refine g_step rfl (s_val (v_assign rfl) rfl rfl ?_)
  refine g_nil ?_
  refine g_next hK1 ?_
  refine g_ret ?_
  refine g_end1 (.inl rfl) Try.results69 (.tmp rfl) [] (ASub.refl _) (AHeap.sub_refl _) (fun p hp => by cases hp) ⟨rfl, ?_⟩
  rfl

theorem bagDrop_ok (b : List Fd) (G : AHeap) (va : AV) (hva : va.view G = some (b.map encFd)) (t : Int) (hl : Small b) : PCalls Try.prog 44 [va, .int .i64 t] G (fun r => r = encBag (bdrop b t)) := by
  refine LCalls.intro 9 fi44 rfl Try.ntmps44 rfl (fun _ h => h.elim) (fun H hH w0 hw0 => ?_)
  have hva := view_sub hH hva
  refine g_seq (fun K0 hK0 => ?_)
  refine g_region ?_
  refine g_step rfl (s_box rfl rfl rfl rfl ?_)
  refine g_step rfl (s_val (v_assign rfl) rfl rfl ?_)
  refine g_nil ?_
  refine g_next hK0 ?_
  refine g_seq (fun K1 hK1 => ?_)
  refine g_region ?_
  refine g_expose 3 rfl rfl (fun r3 hr3 hw3 => ?_)
  refine g_step rfl (s_val (v_move rfl) rfl rfl ?_)
  refine g_step rfl (s_call rfl rfl rfl (bagCopyO_ok b _ _ (view_sub (AHeap.sub_set (AHeap.sub_refl _) hr3) hva) hl) (fun _ h => h.elim) ?_)
  rintro n1 av effs1 hn1 hdom1 hR1 hok1
  have hown := hR1.own (n0 := w0.heap.size) hn1 hdom1
  generalize setAll (AHeap.set H r3 (.box (.int .i64 t))) effs1 = G1 at hown ⊢
  have hb3 := hown.sub _ _ (AHeap.get_set H r3 (.box (.int .i64 t)))
  refine g_step rfl (s_val (v_makeFunc rfl) rfl rfl ?_)
  rcases own_row hown with ⟨e1, e2⟩ | ⟨r, e1, e2, e3, e4⟩
  · skip
    subst e1
    obtain rfl : b = [] := by simpa using e2
    refine g_step rfl (s_callp rfl rfl rfl (delFdNil_ok 69 [.box r3 0] _) ?_)
    rintro _ rfl
    refine g_step rfl (s_val (v_assign rfl) rfl rfl ?_)
    refine g_nil ?_
    refine g_next hK1 ?_
    refine g_ret ?_
    refine g_end1 (.inl rfl) Try.results44 (.tmp rfl) [] ASub.nil0 (AHeap.sub_trans (AHeap.sub_set (AHeap.sub_refl _) hr3) hown.sub) (fun p hp => by cases hp) ⟨rfl, ?_⟩
    rfl
  · skip
    rw [List.length_map] at e1
    subst e1
    have hr3r : r3 ≠ r := fun e => by subst e; rw [hb3] at e2; cases e2
    have hlf : (b.filter (fun x => !decide (x.tag = t))).length ≤ b.length := List.length_filter_le _ _
    refine g_step rfl (s_call rfl rfl rfl (delFd_ok r b 69 [.box r3 0] (fun x => decide (x.tag = t)) _ e2 hl.1 (fun x hx H' h' => drop1_ok r3 t x H' (h' _ _ (by simp [AHeap.del, hr3r, hb3])))) (fun b' hb' => .inr (by subst hb'; exact e4)) ?_)
    rintro n3 v3 effs3 hn3 hdom3 ⟨rfl, rfl⟩ hok3
    refine g_freezeG (H := AHeap.set H r3 (.box (.int .i64 t))) (m := (bdrop b t).map encFd) 8 rfl (AHeap.get_set _ _ _) (sub_set_free _ hown.sub e3) e3 (by simp) (by rw [List.drop_zero]; exact List.take_left' (by simp [bdrop])) ?_
    refine g_step rfl (s_val (v_assign rfl) rfl rfl ?_)
    refine g_nil ?_
    refine g_next hK1 ?_
    refine g_ret ?_
    refine g_end1 (.inl rfl) Try.results44 (.tmp rfl) [] (ASub.refl _) (AHeap.sub_set (AHeap.sub_refl _) hr3) (fun p hp => by cases hp) ⟨rfl, ?_⟩
    rfl

theorem bagGet_ok (b : List Fd) (G : AHeap) (va : AV) (hva : va.view G = some (b.map encFd)) (t : Int) (hl : Small b) : PCalls Try.prog 45 [va, .int .i64 t] G (fun r => r = .tup [encD (bget b t).1, .bool (bget b t).2]) := by
  refine LCalls.intro 22 fi45 rfl Try.ntmps45 rfl (fun _ h => h.elim) (fun H hH w0 hw0 => ?_)
  have hl1 := hl.1
  have hva := view_sub hH hva
  refine g_seq (fun K0 hK0 => ?_)
  refine g_region ?_
  refine g_step rfl (s_val (v_assign rfl) rfl rfl ?_)
  refine g_step rfl (s_val (v_assign rfl) rfl rfl ?_)
  refine g_nil ?_
  refine g_next hK0 ?_
  refine g_seq (fun K1 hK1 => ?_)
  refine g_seq (fun K2 hK2 => ?_)
  refine g_region ?_
  refine g_step rfl (s_val (v_move rfl) rfl rfl ?_)
  refine g_step rfl (s_val (v_len ty30 rfl (by first | rfl | assumption) (by first | exact List.length_map .. | rfl)) rfl rfl ?_)
  refine g_step rfl (s_val (v_move rfl) rfl rfl ?_)
  refine g_nil ?_
  refine g_next hK2 ?_
  refine g_block ?_
  refine g_keep [1, 8, 9, 10] [] [] rfl rfl rfl rfl ?_
  refine g_loop (fun n env L B G => ∃ (k : Nat) , k ≤ b.length ∧ n = b.length - k ∧ env = [(1, .int .i64 t), (8, va), (9, .int .i64 (b.length : Int)), (10, .int .i64 (k : Int))] ∧ L = [] ∧ B = [] ∧ H = G ∧ (b.drop k).find? (fun x => decide (x.tag = t)) = b.find? (fun x => decide (x.tag = t))) (b.length) ⟨0, Nat.zero_le _, rfl, rfl, rfl, rfl, rfl, rfl⟩ (fun n env L B G hI => ?_)
  obtain ⟨k, hk, rfl, rfl, rfl, rfl, rfl, hc⟩ := hI
  refine g_seq (fun K3 hK3 => ?_)
  refine g_region ?_
  refine g_step rfl (s_val (v_lss rfl rfl) rfl rfl ?_)
  refine g_nil ?_
  refine g_next hK3 ?_
  refine g_seq (fun K4 hK4 => ?_)
  refine g_cond rfl (fun hc11 => ?_) (fun hc11 => ?_)
  · try simp only [decide_eq_true_eq, decide_eq_false_iff_not, Bool.not_eq_true', Bool.not_eq_false', Bool.not_eq_eq_eq_not, Bool.not_true, Bool.not_false, Bool.and_eq_true, Bool.or_eq_true, Bool.or_eq_false_iff, beq_iff_eq, beq_eq_false_iff_ne, ne_eq, Int.not_lt, Int.not_le, Decidable.not_not] at hc11
    obtain ⟨x, hx⟩ := get_some (l := b) (k := k) (by omega)
    have hsx := bsize_mem (mem_get hx)
    have hl2 := hl.2
    refine g_skip ?_
    refine g_next hK4 ?_
    refine g_seq (fun K5 hK5 => ?_)
    refine g_block ?_
    refine g_seq (fun K6 hK6 => ?_)
    refine g_region ?_
    refine g_step rfl (s_val (v_indexAddr ty30 ty51 rfl rfl (by first | rfl | assumption) (by first | rfl | exact (rfl : (0 : Int) = ((0 : Nat) : Int)) | exact (Int.toNat_of_nonneg (by omega)).symm) (by first | assumption | exact map_get (by assumption) | rfl) rfl) rfl rfl ?_)
    refine g_step rfl (s_val (by first | exact v_load_elt ty51 rfl rfl (by first | rfl | assumption) (by first | assumption | exact map_get (by assumption) | rfl) rfl rfl | exact v_load_box_all ty51 rfl rfl (by assumption) rfl rfl | exact v_load_part (cs := [_, _]) ty51 rfl rfl (by first | rfl | assumption) (by first | assumption | exact map_get (by assumption) | rfl) rfl rfl rfl | exact v_load_box_part (cs := [_, _]) ty51 rfl rfl (by assumption) rfl rfl rfl) rfl rfl ?_)
    refine g_step rfl (s_alloc (av := (.agg [(.int .i64 0), .nil0])) ty51 rfl rfl rfl rfl ?_)
    refine g_step rfl (s_store_all ty51 rfl rfl rfl rfl rfl rfl ?_)
    refine g_nil ?_
    refine g_next hK6 ?_
    refine g_seq (fun K7 hK7 => ?_)
    refine g_region ?_
    refine g_step rfl (s_fieldAddr ty51 fo51_0 ty3 rfl rfl ?_)
    refine g_step rfl (s_val (v_loadl ty3 rfl rfl rfl rfl) rfl rfl ?_)
    refine g_step rfl (s_val (v_move rfl) rfl rfl ?_)
    refine g_step rfl (s_val (v_eql rfl rfl) rfl rfl ?_)
    refine g_nil ?_
    refine g_next hK7 ?_
    refine g_cond rfl (fun hc17 => ?_) (fun hc17 => ?_)
    · try simp only [decide_eq_true_eq, decide_eq_false_iff_not, Bool.not_eq_true', Bool.not_eq_false', Bool.not_eq_eq_eq_not, Bool.not_true, Bool.not_false, Bool.and_eq_true, Bool.or_eq_true, Bool.or_eq_false_iff, beq_iff_eq, beq_eq_false_iff_ne, ne_eq, Int.not_lt, Int.not_le, Decidable.not_not] at hc17
      refine g_seq (fun K8 hK8 => ?_)
      refine g_region ?_
      refine g_step rfl (s_val (by first | exact v_loadl_all ty51 rfl rfl rfl rfl rfl | exact v_loadl_part (cs := [_, _]) ty51 rfl rfl rfl rfl rfl rfl) rfl rfl ?_)
      refine g_step rfl (s_callp rfl rfl rfl (bagOne_ok x _ (by omega)) ?_)
      rintro _ rfl
      refine g_step rfl (s_val (v_field ty51 fo51_1 ty49 rfl rfl rfl) rfl rfl ?_)
      refine g_step rfl (s_val (v_assign rfl) rfl rfl ?_)
      refine g_step rfl (s_val (v_assign rfl) rfl rfl ?_)
      refine g_nil ?_
      refine g_next hK8 ?_
      refine g_ret ?_
      refine g_block_ret ?_
      refine g_then_ret ?_
      refine g_then_ret ?_
      refine g_block_ret ?_
      refine g_then_ret ?_
      refine g_end2 (.inl rfl) Try.results45 (.tmp rfl) (.tmp rfl) [] (ASub.refl _) (AHeap.sub_refl _) (fun p hp => by cases hp) ⟨rfl, ?_⟩
      first | (rw [drop_cons hx, List.find?_cons_of_pos (by simpa using hc17)] at hc; rw [bget, ← hc]; done) | (rw [drop_cons hx, List.find?_cons_of_pos (by simpa using hc17)] at hc; rw [bget, ← hc]; rfl)
    · try simp only [decide_eq_true_eq, decide_eq_false_iff_not, Bool.not_eq_true', Bool.not_eq_false', Bool.not_eq_eq_eq_not, Bool.not_true, Bool.not_false, Bool.and_eq_true, Bool.or_eq_true, Bool.or_eq_false_iff, beq_iff_eq, beq_eq_false_iff_ne, ne_eq, Int.not_lt, Int.not_le, Decidable.not_not] at hc17
      refine g_skip ?_
      refine g_block_normal ?_
      refine g_next hK5 ?_
      refine g_region ?_
      refine g_step rfl (s_val (v_add rfl rfl (by omega)) rfl rfl ?_)
      refine g_step rfl (s_val (v_move rfl) rfl rfl ?_)
      refine g_nil ?_
      refine g_keep [1, 8, 9, 10] [] [] rfl rfl rfl rfl ?_
      exact g_round _ (by omega) ⟨k + 1, by omega, rfl, rfl, rfl, rfl, rfl, by rw [drop_cons hx, List.find?_cons_of_neg (by simpa using hc17)] at hc; exact hc⟩
  · try simp only [decide_eq_true_eq, decide_eq_false_iff_not, Bool.not_eq_true', Bool.not_eq_false', Bool.not_eq_eq_eq_not, Bool.not_true, Bool.not_false, Bool.and_eq_true, Bool.or_eq_true, Bool.or_eq_false_iff, beq_iff_eq, beq_eq_false_iff_ne, ne_eq, Int.not_lt, Int.not_le, Decidable.not_not] at hc11
    obtain rfl : k = b.length := by omega
    rw [List.drop_length] at hc
    refine g_exit ?_
    refine g_then_exit ?_
    refine g_then_exit ?_
    refine g_block_same ?_
    refine g_next hK1 ?_
    refine g_seq (fun K9 hK9 => ?_)
    refine g_region ?_
    refine g_step rfl (s_val (v_assign rfl) rfl rfl ?_)
    refine g_step rfl (s_val (v_assign rfl) rfl rfl ?_)
    refine g_nil ?_
    refine g_next hK9 ?_
    refine g_ret ?_
    refine g_end2 (.inl rfl) Try.results45 (.tmp rfl) (.tmp rfl) [] (ASub.tup (m := [.imm [], .bool false]) ⟨ASub.nil0, ASub.refl _, trivial⟩) (AHeap.sub_refl _) (fun p hp => by cases hp) ⟨rfl, ?_⟩
    first | (rw [bget, ← hc]; rfl; done) | (rw [bget, ← hc]; rfl; rfl)

end Go.Proofs.Ytngffembdhcijaa

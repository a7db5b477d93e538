import Derived.Test.YtnkcofpkmnohkaaCarryLaws
set_option maxHeartbeats 8000000
set_option linter.unusedSimpArgs false
set_option linter.unusedVariables false
set_option maxRecDepth 100000
namespace Go.Proofs.Ytnkcofpkmnohkaa
open Go Go.Proofs.Ytnkcofpkmnohkaa.AM
theorem carryTakes_ok (g : Int) (l : List Rc) (hh : ∀ x ∈ l, Held x.bag) (hlen : l.length ≤ 140737488351232) (G : AHeap) : PCalls Try.prog 7 [.int .i64 g, encRs l] G (fun v => v = .bool true) := by
  refine LCalls.intro 83 fi7 rfl Try.ntmps7 rfl (fun _ h => h.elim) (fun H hH w0 hw0 => ?_)
  refine g_seq (fun K0 hK0 => ?_)
  refine g_region ?_
  refine g_step rfl (s_val (v_assign rfl) rfl rfl ?_)
  refine g_nil ?_
  refine g_next hK0 ?_
  refine g_seq (fun K1 hK1 => ?_)
  refine g_seq (fun K2 hK2 => ?_)
  refine g_region ?_
  refine g_step rfl (s_val (v_move rfl) rfl rfl ?_)
  refine g_step rfl (s_callp rfl rfl rfl (fewL_ok l _ _ rfl hh hlen) ?_)
  rintro _ rfl
  refine g_step rfl (s_val (v_not rfl) rfl rfl ?_)
  refine g_nil ?_
  refine g_next hK2 ?_
  refine g_cond rfl (fun hc11 => ?_) (fun hc11 => ?_)
  · try simp only [decide_eq_true_eq, decide_eq_false_iff_not, Bool.not_eq_true', Bool.not_eq_false', Bool.not_eq_eq_eq_not, Bool.not_true, Bool.not_false, Bool.and_eq_true, Bool.or_eq_true, Bool.or_eq_false_iff, beq_iff_eq, beq_eq_false_iff_ne, ne_eq, Int.not_lt, Int.not_le, Decidable.not_not] at hc11
    refine g_seq (fun K3 hK3 => ?_)
    refine g_region ?_
    refine g_step rfl (s_callp rfl rfl rfl (awake18_ok _) ?_)
    rintro _ rfl
    refine g_step rfl (s_val (v_assign rfl) rfl rfl ?_)
    refine g_nil ?_
    refine g_next hK3 ?_
    refine g_ret ?_
    refine g_then_ret ?_
    refine g_end1 (.inl rfl) Try.results7 (.tmp rfl) [] (ASub.refl _) (by first | exact hown.sub | exact AHeap.sub_refl _) (fun p hp => by cases hp) ⟨rfl, ?_⟩
    rfl
  · try simp only [decide_eq_true_eq, decide_eq_false_iff_not, Bool.not_eq_true', Bool.not_eq_false', Bool.not_eq_eq_eq_not, Bool.not_true, Bool.not_false, Bool.and_eq_true, Bool.or_eq_true, Bool.or_eq_false_iff, beq_iff_eq, beq_eq_false_iff_ne, ne_eq, Int.not_lt, Int.not_le, Decidable.not_not] at hc11
    obtain ⟨hl20, hsl⟩ := fewL_small (by assumption)
    refine g_skip ?_
    refine g_next hK1 ?_
    refine g_seq (fun K4 hK4 => ?_)
    refine g_region ?_
    refine g_step rfl (s_val (v_move rfl) rfl rfl ?_)
    refine g_step rfl (s_val (v_move rfl) rfl rfl ?_)
    refine g_step rfl (s_callp rfl rfl rfl (down_ok g l _ (by omega) hsl) ?_)
    rintro _ rfl
    refine g_step rfl (s_val (v_move rfl) rfl rfl ?_)
    refine g_step rfl (s_val (v_extract rfl rfl) rfl rfl ?_)
    refine g_step rfl (s_val (v_extract rfl rfl) rfl rfl ?_)
    refine g_step rfl (s_val (v_assign rfl) rfl rfl ?_)
    refine g_step rfl (s_val (v_assign rfl) rfl rfl ?_)
    refine g_nil ?_
    refine g_next hK4 ?_
    refine g_seq (fun K5 hK5 => ?_)
    refine g_region ?_
    refine g_step rfl (s_val (v_assign rfl) rfl rfl ?_)
    refine g_nil ?_
    refine g_next hK5 ?_
    refine g_seq (fun K6 hK6 => ?_)
    refine g_seq (fun K7 hK7 => ?_)
    refine g_region ?_
    refine g_step rfl (s_val (v_assign rfl) rfl rfl ?_)
    refine g_nil ?_
    refine g_next hK7 ?_
    refine g_block ?_
    first | refine g_keep [0, 1, 5, 6, 7, 8] [] [] (keep_cons rfl (keep_cons rfl (keep_cons rfl (keep_cons rfl (keep_cons rfl (keep_cons rfl keep_nil)))))) lkeep_nil keep_nil rfl ?_ | refine g_keep [0, 1, 5, 6, 7, 8] [] [] rfl rfl rfl rfl ?_
    refine g_loop (fun n env L B G => ∃ (k : Nat) (av : AV), k ≤ l.length ∧ n = l.length - k ∧ env = [(0, .int .i64 g), (1, encRs l), (5, (encRs (downs g l))), (6, .int .i64 ((l.length : Int) - ((downs g l).length : Int))), (7, av), (8, .int .i64 (k : Int))] ∧ L = [] ∧ B = [] ∧ Own w0.heap.size 7 H av ((downs g (l.take k)).map encR) G) (l.length) ⟨0, .nil0, Nat.zero_le _, rfl, rfl, rfl, rfl, Own.nil ..⟩ (fun n env L B G hI => ?_)
    obtain ⟨k, av, hk, rfl, rfl, rfl, rfl, hown⟩ := hI
    refine g_seq (fun K8 hK8 => ?_)
    refine g_seq (fun K9 hK9 => ?_)
    refine g_region ?_
    refine g_step rfl (s_val (v_move rfl) rfl rfl ?_)
    refine g_step rfl (s_val (v_move rfl) rfl rfl ?_)
    refine g_step rfl (s_val (v_len ty23 rfl (by first | rfl | assumption) (by first | exact List.length_map .. | rfl)) rfl rfl ?_)
    refine g_step rfl (s_val (v_lss rfl rfl) rfl rfl ?_)
    refine g_nil ?_
    refine g_next hK9 ?_
    refine g_cond rfl (fun hc22 => ?_) (fun hc22 => ?_)
    · try simp only [decide_eq_true_eq, decide_eq_false_iff_not, Bool.not_eq_true', Bool.not_eq_false', Bool.not_eq_eq_eq_not, Bool.not_true, Bool.not_false, Bool.and_eq_true, Bool.or_eq_true, Bool.or_eq_false_iff, beq_iff_eq, beq_eq_false_iff_ne, ne_eq, Int.not_lt, Int.not_le, Decidable.not_not] at hc22
      obtain ⟨x, hx⟩ := get_some (l := l) (k := k) (by omega)
      have hsx := hsl x (mem_get hx)
      have hdk := downs_length g (l.take k)
      rw [List.length_take] at hdk
      refine g_skip ?_
      refine g_next hK8 ?_
      refine g_seq (fun K10 hK10 => ?_)
      refine g_block ?_
      refine g_seq (fun K11 hK11 => ?_)
      refine g_seq (fun K12 hK12 => ?_)
      refine g_draw (n := 12) (fun j => !([] : List Nat).contains j) rfl rfl ?_
      refine m_take 0 false rfl rfl (by kernel_rfl) (by kernel_rfl) (by kernel_rfl) (fun _ _ _ _ h => h) (v_move rfl) rfl rfl ?_
      refine m_take 1 false rfl rfl (by kernel_rfl) (by kernel_rfl) (by kernel_rfl) (fun _ _ _ _ h => h) (v_move rfl) rfl rfl ?_
      refine m_take 2 false rfl rfl (by kernel_rfl) (by kernel_rfl) (by kernel_rfl) (fun _ _ _ _ h => h) (v_indexAddr ty23 ty28 rfl rfl (by first | rfl | assumption) (by first | rfl | exact (rfl : (0 : Int) = ((0 : Nat) : Int)) | exact (Int.toNat_of_nonneg (by omega)).symm) (by first | assumption | exact map_get (by assumption) | rfl) rfl) rfl rfl ?_
      refine m_take 3 true rfl rfl (by kernel_rfl) (by kernel_rfl) (by kernel_rfl) (fun _ _ _ _ h => h) (by first | exact v_load_elt ty28 rfl rfl (by first | rfl | assumption) (by first | assumption | exact map_get (by assumption) | rfl) rfl rfl | exact v_load_box_all ty28 rfl rfl (by assumption) rfl rfl | exact v_load_part (cs := [_, _, _, _, _, _, _]) ty28 rfl rfl (by first | rfl | assumption) (by first | assumption | exact map_get (by assumption) | rfl) rfl rfl rfl | exact v_load_box_part (cs := [_, _, _, _, _, _, _]) ty28 rfl rfl (by assumption) rfl rfl rfl) rfl rfl ?_
      refine m_take 5 false rfl rfl (by kernel_rfl) (by kernel_rfl) (by kernel_rfl) (fun _ _ _ _ h => h) (v_move rfl) rfl rfl ?_
      refine m_take 6 false rfl rfl (by kernel_rfl) (by kernel_rfl) (by kernel_rfl) (fun _ _ _ _ h => h) (v_move rfl) rfl rfl ?_
      refine m_take 7 false rfl rfl (by kernel_rfl) (by kernel_rfl) (by kernel_rfl) (fun _ _ _ _ h => h) (v_indexAddr ty23 ty28 rfl rfl (by first | rfl | assumption) (by first | rfl | exact (rfl : (0 : Int) = ((0 : Nat) : Int)) | exact (Int.toNat_of_nonneg (by omega)).symm) (by first | assumption | exact map_get (by assumption) | rfl) rfl) rfl rfl ?_
      refine m_take 8 true rfl rfl (by kernel_rfl) (by kernel_rfl) (by kernel_rfl) (fun _ _ _ _ h => h) (by first | exact v_load_elt ty28 rfl rfl (by first | rfl | assumption) (by first | assumption | exact map_get (by assumption) | rfl) rfl rfl | exact v_load_box_all ty28 rfl rfl (by assumption) rfl rfl | exact v_load_part (cs := [_, _, _, _, _, _, _]) ty28 rfl rfl (by first | rfl | assumption) (by first | assumption | exact map_get (by assumption) | rfl) rfl rfl rfl | exact v_load_box_part (cs := [_, _, _, _, _, _, _]) ty28 rfl rfl (by assumption) rfl rfl rfl) rfl rfl ?_
      refine m_one 4 (by kernel_rfl) rfl rfl ?_
      refine sm_callp rfl rfl rfl (take_ok x _ hsx) ?_
      rintro _ rfl
      refine m_one 9 (by kernel_rfl) rfl rfl ?_
      refine sm_callp rfl rfl rfl (hop18_ok 3 x _ hsx) ?_
      rintro _ rfl
      refine m_one 10 (by kernel_rfl) rfl rfl ?_
      refine sm_callp rfl rfl rfl (alike_ok (ctake x) (chop 3 x) _ (ctake_small hsx)) ?_
      rintro _ rfl
      refine m_take 11 false rfl rfl (by kernel_rfl) (by kernel_rfl) (by kernel_rfl) (fun _ _ _ _ h => h) (v_not rfl) rfl rfl ?_
      refine m_done (by kernel_rfl) ?_
      refine g_next hK12 ?_
      refine g_cond rfl (fun hc36 => ?_) (fun hc36 => ?_)
      · exfalso; (try simp only [decide_eq_true_eq, decide_eq_false_iff_not, Bool.not_eq_true', Bool.not_eq_false', Bool.not_eq_eq_eq_not, Bool.not_true, Bool.not_false, Bool.and_eq_true, Bool.or_eq_true, Bool.or_eq_false_iff, beq_iff_eq, beq_eq_false_iff_ne, ne_eq, Int.not_lt, Int.not_le, Decidable.not_not] at hc36); simp [chop_3] at hc36
      · try simp only [decide_eq_true_eq, decide_eq_false_iff_not, Bool.not_eq_true', Bool.not_eq_false', Bool.not_eq_eq_eq_not, Bool.not_true, Bool.not_false, Bool.and_eq_true, Bool.or_eq_true, Bool.or_eq_false_iff, beq_iff_eq, beq_eq_false_iff_ne, ne_eq, Int.not_lt, Int.not_le, Decidable.not_not] at hc36
        refine g_skip ?_
        refine g_next hK11 ?_
        refine g_seq (fun K13 hK13 => ?_)
        refine g_region ?_
        refine g_step rfl (s_val (v_move rfl) rfl rfl ?_)
        refine g_step rfl (s_val (v_move rfl) rfl rfl ?_)
        refine g_step rfl (s_val (v_move rfl) rfl rfl ?_)
        refine g_step rfl (s_val (v_indexAddr ty23 ty28 rfl rfl (by first | rfl | assumption) (by first | rfl | exact (rfl : (0 : Int) = ((0 : Nat) : Int)) | exact (Int.toNat_of_nonneg (by omega)).symm) (by first | assumption | exact map_get (by assumption) | rfl) rfl) rfl rfl ?_)
        refine g_step rfl (s_val (by first | exact v_load_elt ty28 rfl rfl (by first | rfl | assumption) (by first | assumption | exact map_get (by assumption) | rfl) rfl rfl | exact v_load_box_all ty28 rfl rfl (by assumption) rfl rfl | exact v_load_part (cs := [_, _, _, _, _, _, _]) ty28 rfl rfl (by first | rfl | assumption) (by first | assumption | exact map_get (by assumption) | rfl) rfl rfl rfl | exact v_load_box_part (cs := [_, _, _, _, _, _, _]) ty28 rfl rfl (by assumption) rfl rfl rfl) rfl rfl ?_)
        refine g_step rfl (s_callp rfl rfl rfl (sent18_ok g x _) ?_)
        rintro _ rfl
        refine g_step rfl (s_val (v_move rfl) rfl rfl ?_)
        refine g_split 43 rfl (fun hg43 => ?_) (fun hg43 => ?_)
        · try simp only [decide_eq_true_eq, decide_eq_false_iff_not, Bool.not_eq_true', Bool.not_eq_false', Bool.not_eq_eq_eq_not, Bool.not_true, Bool.not_false, Bool.and_eq_true, Bool.or_eq_true, Bool.or_eq_false_iff, beq_iff_eq, beq_eq_false_iff_ne, ne_eq, Int.not_lt, Int.not_le, Decidable.not_not] at hg43
          refine g_step_yes (j := 6) (t := 43) rfl rfl rfl rfl (s_val (v_move rfl) rfl rfl ?_)
          refine g_step_yes (j := 6) (t := 43) rfl rfl rfl rfl (s_val (v_eql rfl rfl) rfl rfl ?_)
          refine g_step rfl (s_val (v_pick_t rfl rfl) rfl rfl ?_)
          refine g_nil ?_
          refine g_next hK13 ?_
          first | refine g_keep [0, 1, 5, 6, 7, 8, 46] [] [] (keep_cons rfl (keep_cons rfl (keep_cons rfl (keep_cons rfl (keep_cons rfl (keep_cons rfl (keep_cons rfl keep_nil))))))) lkeep_nil keep_nil rfl ?_ | refine g_keep [0, 1, 5, 6, 7, 8, 46] [] [] rfl rfl rfl rfl ?_
          refine g_cond rfl (fun hc46 => ?_) (fun hc46 => ?_)
          · try simp only [decide_eq_true_eq, decide_eq_false_iff_not, Bool.not_eq_true', Bool.not_eq_false', Bool.not_eq_eq_eq_not, Bool.not_true, Bool.not_false, Bool.and_eq_true, Bool.or_eq_true, Bool.or_eq_false_iff, beq_iff_eq, beq_eq_false_iff_ne, ne_eq, Int.not_lt, Int.not_le, Decidable.not_not] at hc46
            refine g_region ?_
            refine g_step rfl (s_val (v_move rfl) rfl rfl ?_)
            refine g_step rfl (s_val (v_move rfl) rfl rfl ?_)
            refine g_step rfl (s_val (v_move rfl) rfl rfl ?_)
            refine g_step rfl (s_val (v_indexAddr ty23 ty28 rfl rfl (by first | rfl | assumption) (by first | rfl | exact (rfl : (0 : Int) = ((0 : Nat) : Int)) | exact (Int.toNat_of_nonneg (by omega)).symm) (by first | assumption | exact map_get (by assumption) | rfl) rfl) rfl rfl ?_)
            refine g_step rfl (s_val (by first | exact v_load_elt ty28 rfl rfl (by first | rfl | assumption) (by first | assumption | exact map_get (by assumption) | rfl) rfl rfl | exact v_load_box_all ty28 rfl rfl (by assumption) rfl rfl | exact v_load_part (cs := [_, _, _, _, _, _, _]) ty28 rfl rfl (by first | rfl | assumption) (by first | assumption | exact map_get (by assumption) | rfl) rfl rfl rfl | exact v_load_box_part (cs := [_, _, _, _, _, _, _]) ty28 rfl rfl (by assumption) rfl rfl rfl) rfl rfl ?_)
            refine g_step rfl (s_callp rfl rfl rfl (hop18_ok 1 x _ hsx) ?_)
            rintro _ rfl
            rw [chop_1]
            refine g_step rfl (s_lit ty23 ty28 rfl rfl rfl rfl rfl rfl rfl ?_)
            refine g_step rfl (s_append (l := ((downs g (l.take k)).map encR)) (m := ([bare x].map encR)) ty23 ty28 rfl rfl hown rfl rfl (by refine Even.map _ ?_ _; intro _; rfl) (by intro x hx; obtain ⟨_, _, rfl⟩ := List.mem_map.1 hx; rfl) rfl (by simp; omega) (by simp; omega) ?_)
            intro av54 G54 hown54
            refine g_step rfl (s_val (v_assign rfl) rfl rfl ?_)
            refine g_nil ?_
            refine g_block_normal ?_
            refine g_next hK10 ?_
            refine g_region ?_
            refine g_step rfl (s_val (v_move rfl) rfl rfl ?_)
            refine g_step rfl (s_val (v_add rfl rfl (by omega)) rfl rfl ?_)
            refine g_step rfl (s_val (v_assign rfl) rfl rfl ?_)
            refine g_nil ?_
            first | refine g_keep [0, 1, 5, 6, 7, 8] [] [] (keep_cons rfl (keep_cons rfl (keep_cons rfl (keep_cons rfl (keep_cons rfl (keep_cons rfl keep_nil)))))) lkeep_nil keep_nil rfl ?_ | refine g_keep [0, 1, 5, 6, 7, 8] [] [] rfl rfl rfl rfl ?_
            first | exact g_round _ (by omega) ⟨k + 1, av54, by omega, rfl, rfl, rfl, rfl, by rw [downs_take hx, if_pos hg43, List.map_append, csend, if_pos hc46]; exact hown54⟩ | exact g_round _ (by omega) ⟨k + 1, av67, by omega, rfl, rfl, rfl, rfl, by rw [downs_take hx, if_pos hc60, List.map_append, csend, if_neg (by simp_all)]; exact hown67⟩ | exact g_round _ (by omega) ⟨k + 1, av, by omega, rfl, rfl, rfl, rfl, by rw [downs_take hx, if_neg (by simp [hc60])]; exact hown⟩
          · try simp only [decide_eq_true_eq, decide_eq_false_iff_not, Bool.not_eq_true', Bool.not_eq_false', Bool.not_eq_eq_eq_not, Bool.not_true, Bool.not_false, Bool.and_eq_true, Bool.or_eq_true, Bool.or_eq_false_iff, beq_iff_eq, beq_eq_false_iff_ne, ne_eq, Int.not_lt, Int.not_le, Decidable.not_not] at hc46
            refine g_seq (fun K14 hK14 => ?_)
            refine g_region ?_
            refine g_step rfl (s_val (v_move rfl) rfl rfl ?_)
            refine g_step rfl (s_val (v_move rfl) rfl rfl ?_)
            refine g_step rfl (s_val (v_move rfl) rfl rfl ?_)
            refine g_step rfl (s_val (v_indexAddr ty23 ty28 rfl rfl (by first | rfl | assumption) (by first | rfl | exact (rfl : (0 : Int) = ((0 : Nat) : Int)) | exact (Int.toNat_of_nonneg (by omega)).symm) (by first | assumption | exact map_get (by assumption) | rfl) rfl) rfl rfl ?_)
            refine g_step rfl (s_val (by first | exact v_load_elt ty28 rfl rfl (by first | rfl | assumption) (by first | assumption | exact map_get (by assumption) | rfl) rfl rfl | exact v_load_box_all ty28 rfl rfl (by assumption) rfl rfl | exact v_load_part (cs := [_, _, _, _, _, _, _]) ty28 rfl rfl (by first | rfl | assumption) (by first | assumption | exact map_get (by assumption) | rfl) rfl rfl rfl | exact v_load_box_part (cs := [_, _, _, _, _, _, _]) ty28 rfl rfl (by assumption) rfl rfl rfl) rfl rfl ?_)
            refine g_step rfl (s_callp rfl rfl rfl (sent18_ok g x _) ?_)
            rintro _ rfl
            refine g_nil ?_
            refine g_next hK14 ?_
            refine g_cond rfl (fun hc60 => ?_) (fun hc60 => ?_)
            · try simp only [decide_eq_true_eq, decide_eq_false_iff_not, Bool.not_eq_true', Bool.not_eq_false', Bool.not_eq_eq_eq_not, Bool.not_true, Bool.not_false, Bool.and_eq_true, Bool.or_eq_true, Bool.or_eq_false_iff, beq_iff_eq, beq_eq_false_iff_ne, ne_eq, Int.not_lt, Int.not_le, Decidable.not_not] at hc60
              refine g_region ?_
              refine g_step rfl (s_val (v_move rfl) rfl rfl ?_)
              refine g_step rfl (s_val (v_move rfl) rfl rfl ?_)
              refine g_step rfl (s_val (v_move rfl) rfl rfl ?_)
              refine g_step rfl (s_val (v_indexAddr ty23 ty28 rfl rfl (by first | rfl | assumption) (by first | rfl | exact (rfl : (0 : Int) = ((0 : Nat) : Int)) | exact (Int.toNat_of_nonneg (by omega)).symm) (by first | assumption | exact map_get (by assumption) | rfl) rfl) rfl rfl ?_)
              refine g_step rfl (s_val (by first | exact v_load_elt ty28 rfl rfl (by first | rfl | assumption) (by first | assumption | exact map_get (by assumption) | rfl) rfl rfl | exact v_load_box_all ty28 rfl rfl (by assumption) rfl rfl | exact v_load_part (cs := [_, _, _, _, _, _, _]) ty28 rfl rfl (by first | rfl | assumption) (by first | assumption | exact map_get (by assumption) | rfl) rfl rfl rfl | exact v_load_box_part (cs := [_, _, _, _, _, _, _]) ty28 rfl rfl (by assumption) rfl rfl rfl) rfl rfl ?_)
              refine g_step rfl (s_lit ty23 ty28 rfl rfl rfl rfl rfl rfl rfl ?_)
              refine g_step rfl (s_append (l := ((downs g (l.take k)).map encR)) (m := ([x].map encR)) ty23 ty28 rfl rfl hown rfl rfl (by refine Even.map _ ?_ _; intro _; rfl) (by intro x hx; obtain ⟨_, _, rfl⟩ := List.mem_map.1 hx; rfl) rfl (by simp; omega) (by simp; omega) ?_)
              intro av67 G67 hown67
              refine g_step rfl (s_val (v_assign rfl) rfl rfl ?_)
              refine g_nil ?_
              refine g_block_normal ?_
              refine g_next hK10 ?_
              refine g_region ?_
              refine g_step rfl (s_val (v_move rfl) rfl rfl ?_)
              refine g_step rfl (s_val (v_add rfl rfl (by omega)) rfl rfl ?_)
              refine g_step rfl (s_val (v_assign rfl) rfl rfl ?_)
              refine g_nil ?_
              first | refine g_keep [0, 1, 5, 6, 7, 8] [] [] (keep_cons rfl (keep_cons rfl (keep_cons rfl (keep_cons rfl (keep_cons rfl (keep_cons rfl keep_nil)))))) lkeep_nil keep_nil rfl ?_ | refine g_keep [0, 1, 5, 6, 7, 8] [] [] rfl rfl rfl rfl ?_
              first | exact g_round _ (by omega) ⟨k + 1, av54, by omega, rfl, rfl, rfl, rfl, by rw [downs_take hx, if_pos hg43, List.map_append, csend, if_pos hc46]; exact hown54⟩ | exact g_round _ (by omega) ⟨k + 1, av67, by omega, rfl, rfl, rfl, rfl, by rw [downs_take hx, if_pos hc60, List.map_append, csend, if_neg (by simp_all)]; exact hown67⟩ | exact g_round _ (by omega) ⟨k + 1, av, by omega, rfl, rfl, rfl, rfl, by rw [downs_take hx, if_neg (by simp [hc60])]; exact hown⟩
            · try simp only [decide_eq_true_eq, decide_eq_false_iff_not, Bool.not_eq_true', Bool.not_eq_false', Bool.not_eq_eq_eq_not, Bool.not_true, Bool.not_false, Bool.and_eq_true, Bool.or_eq_true, Bool.or_eq_false_iff, beq_iff_eq, beq_eq_false_iff_ne, ne_eq, Int.not_lt, Int.not_le, Decidable.not_not] at hc60
              refine g_skip ?_
              refine g_block_normal ?_
              refine g_next hK10 ?_
              refine g_region ?_
              refine g_step rfl (s_val (v_move rfl) rfl rfl ?_)
              refine g_step rfl (s_val (v_add rfl rfl (by omega)) rfl rfl ?_)
              refine g_step rfl (s_val (v_assign rfl) rfl rfl ?_)
              refine g_nil ?_
              first | refine g_keep [0, 1, 5, 6, 7, 8] [] [] (keep_cons rfl (keep_cons rfl (keep_cons rfl (keep_cons rfl (keep_cons rfl (keep_cons rfl keep_nil)))))) lkeep_nil keep_nil rfl ?_ | refine g_keep [0, 1, 5, 6, 7, 8] [] [] rfl rfl rfl rfl ?_
              first | exact g_round _ (by omega) ⟨k + 1, av54, by omega, rfl, rfl, rfl, rfl, by rw [downs_take hx, if_pos hg43, List.map_append, csend, if_pos hc46]; exact hown54⟩ | exact g_round _ (by omega) ⟨k + 1, av67, by omega, rfl, rfl, rfl, rfl, by rw [downs_take hx, if_pos hc60, List.map_append, csend, if_neg (by simp_all)]; exact hown67⟩ | exact g_round _ (by omega) ⟨k + 1, av, by omega, rfl, rfl, rfl, rfl, by rw [downs_take hx, if_neg (by simp [hc60])]; exact hown⟩
        · try simp only [decide_eq_true_eq, decide_eq_false_iff_not, Bool.not_eq_true', Bool.not_eq_false', Bool.not_eq_eq_eq_not, Bool.not_true, Bool.not_false, Bool.and_eq_true, Bool.or_eq_true, Bool.or_eq_false_iff, beq_iff_eq, beq_eq_false_iff_ne, ne_eq, Int.not_lt, Int.not_le, Decidable.not_not] at hg43
          refine g_step_no (j := 6) (t := 43) rfl rfl rfl rfl rfl rfl rfl ?_
          refine g_step_no (j := 6) (t := 43) rfl rfl rfl rfl rfl rfl rfl ?_
          refine g_step rfl (s_val (v_pick_f rfl rfl) rfl rfl ?_)
          refine g_nil ?_
          refine g_next hK13 ?_
          first | refine g_keep [0, 1, 5, 6, 7, 8, 46] [] [] (keep_cons rfl (keep_cons rfl (keep_cons rfl (keep_cons rfl (keep_cons rfl (keep_cons rfl (keep_cons rfl keep_nil))))))) lkeep_nil keep_nil rfl ?_ | refine g_keep [0, 1, 5, 6, 7, 8, 46] [] [] rfl rfl rfl rfl ?_
          refine g_cond rfl (fun h => by cases h) (fun _ => ?_)
          refine g_seq (fun K15 hK15 => ?_)
          refine g_region ?_
          refine g_step rfl (s_val (v_move rfl) rfl rfl ?_)
          refine g_step rfl (s_val (v_move rfl) rfl rfl ?_)
          refine g_step rfl (s_val (v_move rfl) rfl rfl ?_)
          refine g_step rfl (s_val (v_indexAddr ty23 ty28 rfl rfl (by first | rfl | assumption) (by first | rfl | exact (rfl : (0 : Int) = ((0 : Nat) : Int)) | exact (Int.toNat_of_nonneg (by omega)).symm) (by first | assumption | exact map_get (by assumption) | rfl) rfl) rfl rfl ?_)
          refine g_step rfl (s_val (by first | exact v_load_elt ty28 rfl rfl (by first | rfl | assumption) (by first | assumption | exact map_get (by assumption) | rfl) rfl rfl | exact v_load_box_all ty28 rfl rfl (by assumption) rfl rfl | exact v_load_part (cs := [_, _, _, _, _, _, _]) ty28 rfl rfl (by first | rfl | assumption) (by first | assumption | exact map_get (by assumption) | rfl) rfl rfl rfl | exact v_load_box_part (cs := [_, _, _, _, _, _, _]) ty28 rfl rfl (by assumption) rfl rfl rfl) rfl rfl ?_)
          refine g_step rfl (s_callp rfl rfl rfl (sent18_ok g x _) ?_)
          rintro _ rfl
          refine g_nil ?_
          refine g_next hK15 ?_
          refine g_cond rfl (fun hc60 => ?_) (fun hc60 => ?_)
          · try simp only [decide_eq_true_eq, decide_eq_false_iff_not, Bool.not_eq_true', Bool.not_eq_false', Bool.not_eq_eq_eq_not, Bool.not_true, Bool.not_false, Bool.and_eq_true, Bool.or_eq_true, Bool.or_eq_false_iff, beq_iff_eq, beq_eq_false_iff_ne, ne_eq, Int.not_lt, Int.not_le, Decidable.not_not] at hc60
            refine g_region ?_
            refine g_step rfl (s_val (v_move rfl) rfl rfl ?_)
            refine g_step rfl (s_val (v_move rfl) rfl rfl ?_)
            refine g_step rfl (s_val (v_move rfl) rfl rfl ?_)
            refine g_step rfl (s_val (v_indexAddr ty23 ty28 rfl rfl (by first | rfl | assumption) (by first | rfl | exact (rfl : (0 : Int) = ((0 : Nat) : Int)) | exact (Int.toNat_of_nonneg (by omega)).symm) (by first | assumption | exact map_get (by assumption) | rfl) rfl) rfl rfl ?_)
            refine g_step rfl (s_val (by first | exact v_load_elt ty28 rfl rfl (by first | rfl | assumption) (by first | assumption | exact map_get (by assumption) | rfl) rfl rfl | exact v_load_box_all ty28 rfl rfl (by assumption) rfl rfl | exact v_load_part (cs := [_, _, _, _, _, _, _]) ty28 rfl rfl (by first | rfl | assumption) (by first | assumption | exact map_get (by assumption) | rfl) rfl rfl rfl | exact v_load_box_part (cs := [_, _, _, _, _, _, _]) ty28 rfl rfl (by assumption) rfl rfl rfl) rfl rfl ?_)
            refine g_step rfl (s_lit ty23 ty28 rfl rfl rfl rfl rfl rfl rfl ?_)
            refine g_step rfl (s_append (l := ((downs g (l.take k)).map encR)) (m := ([x].map encR)) ty23 ty28 rfl rfl hown rfl rfl (by refine Even.map _ ?_ _; intro _; rfl) (by intro x hx; obtain ⟨_, _, rfl⟩ := List.mem_map.1 hx; rfl) rfl (by simp; omega) (by simp; omega) ?_)
            intro av67 G67 hown67
            refine g_step rfl (s_val (v_assign rfl) rfl rfl ?_)
            refine g_nil ?_
            refine g_block_normal ?_
            refine g_next hK10 ?_
            refine g_region ?_
            refine g_step rfl (s_val (v_move rfl) rfl rfl ?_)
            refine g_step rfl (s_val (v_add rfl rfl (by omega)) rfl rfl ?_)
            refine g_step rfl (s_val (v_assign rfl) rfl rfl ?_)
            refine g_nil ?_
            first | refine g_keep [0, 1, 5, 6, 7, 8] [] [] (keep_cons rfl (keep_cons rfl (keep_cons rfl (keep_cons rfl (keep_cons rfl (keep_cons rfl keep_nil)))))) lkeep_nil keep_nil rfl ?_ | refine g_keep [0, 1, 5, 6, 7, 8] [] [] rfl rfl rfl rfl ?_
            first | exact g_round _ (by omega) ⟨k + 1, av54, by omega, rfl, rfl, rfl, rfl, by rw [downs_take hx, if_pos hg43, List.map_append, csend, if_pos hc46]; exact hown54⟩ | exact g_round _ (by omega) ⟨k + 1, av67, by omega, rfl, rfl, rfl, rfl, by rw [downs_take hx, if_pos hc60, List.map_append, csend, if_neg (by simp_all)]; exact hown67⟩ | exact g_round _ (by omega) ⟨k + 1, av, by omega, rfl, rfl, rfl, rfl, by rw [downs_take hx, if_neg (by simp [hc60])]; exact hown⟩
          · try simp only [decide_eq_true_eq, decide_eq_false_iff_not, Bool.not_eq_true', Bool.not_eq_false', Bool.not_eq_eq_eq_not, Bool.not_true, Bool.not_false, Bool.and_eq_true, Bool.or_eq_true, Bool.or_eq_false_iff, beq_iff_eq, beq_eq_false_iff_ne, ne_eq, Int.not_lt, Int.not_le, Decidable.not_not] at hc60
            refine g_skip ?_
            refine g_block_normal ?_
            refine g_next hK10 ?_
            refine g_region ?_
            refine g_step rfl (s_val (v_move rfl) rfl rfl ?_)
            refine g_step rfl (s_val (v_add rfl rfl (by omega)) rfl rfl ?_)
            refine g_step rfl (s_val (v_assign rfl) rfl rfl ?_)
            refine g_nil ?_
            first | refine g_keep [0, 1, 5, 6, 7, 8] [] [] (keep_cons rfl (keep_cons rfl (keep_cons rfl (keep_cons rfl (keep_cons rfl (keep_cons rfl keep_nil)))))) lkeep_nil keep_nil rfl ?_ | refine g_keep [0, 1, 5, 6, 7, 8] [] [] rfl rfl rfl rfl ?_
            first | exact g_round _ (by omega) ⟨k + 1, av54, by omega, rfl, rfl, rfl, rfl, by rw [downs_take hx, if_pos hg43, List.map_append, csend, if_pos hc46]; exact hown54⟩ | exact g_round _ (by omega) ⟨k + 1, av67, by omega, rfl, rfl, rfl, rfl, by rw [downs_take hx, if_pos hc60, List.map_append, csend, if_neg (by simp_all)]; exact hown67⟩ | exact g_round _ (by omega) ⟨k + 1, av, by omega, rfl, rfl, rfl, rfl, by rw [downs_take hx, if_neg (by simp [hc60])]; exact hown⟩
    · try simp only [decide_eq_true_eq, decide_eq_false_iff_not, Bool.not_eq_true', Bool.not_eq_false', Bool.not_eq_eq_eq_not, Bool.not_true, Bool.not_false, Bool.and_eq_true, Bool.or_eq_true, Bool.or_eq_false_iff, beq_iff_eq, beq_eq_false_iff_ne, ne_eq, Int.not_lt, Int.not_le, Decidable.not_not] at hc22
      obtain rfl : k = l.length := by omega
      rw [List.take_length] at hown
      have hdl := downs_length g l
      have hds := downs_small (g := g) hsl
      refine g_exit ?_
      refine g_then_exit ?_
      refine g_then_exit ?_
      refine g_block_same ?_
      refine g_next hK6 ?_
      refine g_seq (fun K16 hK16 => ?_)
      refine g_region ?_
      refine g_step rfl (s_val (v_move rfl) rfl rfl ?_)
      refine g_step rfl (s_val (v_move rfl) rfl rfl ?_)
      refine g_step rfl (s_callp rfl rfl rfl (allAlike_ok (downs g l) (downs g l) _ _ _ rfl hown.view (by omega) hds) ?_)
      rintro _ rfl
      refine g_step rfl (s_val (v_move rfl) rfl rfl ?_)
      refine g_split 71 rfl (fun hg71 => ?_) (fun hg71 => ?_)
      · try simp only [decide_eq_true_eq, decide_eq_false_iff_not, Bool.not_eq_true', Bool.not_eq_false', Bool.not_eq_eq_eq_not, Bool.not_true, Bool.not_false, Bool.and_eq_true, Bool.or_eq_true, Bool.or_eq_false_iff, beq_iff_eq, beq_eq_false_iff_ne, ne_eq, Int.not_lt, Int.not_le, Decidable.not_not] at hg71
        refine g_step_yes (j := 3) (t := 71) rfl rfl rfl rfl (s_val (v_move rfl) rfl rfl ?_)
        refine g_step_yes (j := 3) (t := 71) rfl rfl rfl rfl (s_val (v_move rfl) rfl rfl ?_)
        refine g_step_yes (j := 3) (t := 71) rfl rfl rfl rfl (s_val (v_len ty23 rfl (by first | rfl | assumption) (by first | exact List.length_map .. | rfl)) rfl rfl ?_)
        refine g_step_yes (j := 3) (t := 71) rfl rfl rfl rfl (s_val (v_move rfl) rfl rfl ?_)
        refine g_step_yes (j := 3) (t := 71) rfl rfl rfl rfl (s_val (v_len ty23 rfl hown.view (by first | exact List.length_map .. | rfl)) rfl rfl ?_)
        refine g_step_yes (j := 3) (t := 71) rfl rfl rfl rfl (s_val (v_sub_ rfl rfl (by omega)) rfl rfl ?_)
        refine g_step_yes (j := 3) (t := 71) rfl rfl rfl rfl (s_val (v_eql rfl rfl) rfl rfl ?_)
        refine g_step rfl (s_val (v_pick_t rfl rfl) rfl rfl ?_)
        refine g_step rfl (s_val (v_move rfl) rfl rfl ?_)
        refine g_split 80 rfl (fun hg80 => ?_) (fun hg80 => ?_)
        · try simp only [decide_eq_true_eq, decide_eq_false_iff_not, Bool.not_eq_true', Bool.not_eq_false', Bool.not_eq_eq_eq_not, Bool.not_true, Bool.not_false, Bool.and_eq_true, Bool.or_eq_true, Bool.or_eq_false_iff, beq_iff_eq, beq_eq_false_iff_ne, ne_eq, Int.not_lt, Int.not_le, Decidable.not_not] at hg80
          refine g_step_yes (j := 12) (t := 80) rfl rfl rfl rfl (s_callp rfl rfl rfl (awake18_ok _) ?_)
          rintro _ rfl
          refine g_step rfl (s_val (v_pick_t rfl rfl) rfl rfl ?_)
          refine g_step rfl (s_val (v_assign rfl) rfl rfl ?_)
          refine g_nil ?_
          refine g_next hK16 ?_
          first | refine g_keep [4] [] [] (keep_cons rfl keep_nil) lkeep_nil keep_nil rfl ?_ | refine g_keep [4] [] [] rfl rfl rfl rfl ?_
          refine g_ret ?_
          refine g_end1 (.inl rfl) Try.results7 (.tmp rfl) [] (ASub.refl _) (by first | exact hown.sub | exact AHeap.sub_refl _) (fun p hp => by cases hp) ⟨rfl, ?_⟩
          rfl
        · exfalso; (try simp only [decide_eq_true_eq, decide_eq_false_iff_not, Bool.not_eq_true', Bool.not_eq_false', Bool.not_eq_eq_eq_not, Bool.not_true, Bool.not_false, Bool.and_eq_true, Bool.or_eq_true, Bool.or_eq_false_iff, beq_iff_eq, beq_eq_false_iff_ne, ne_eq, Int.not_lt, Int.not_le, Decidable.not_not] at hg80); simp at hg80
      · exfalso; (try simp only [decide_eq_true_eq, decide_eq_false_iff_not, Bool.not_eq_true', Bool.not_eq_false', Bool.not_eq_eq_eq_not, Bool.not_true, Bool.not_false, Bool.and_eq_true, Bool.or_eq_true, Bool.or_eq_false_iff, beq_iff_eq, beq_eq_false_iff_ne, ne_eq, Int.not_lt, Int.not_le, Decidable.not_not] at hg71); simp at hg71

theorem pathAll_ok (r : Rc) (l : List Int) (G : AHeap) (hl : Small r.bag) (hn : l.length ≤ 1000000) (va : AV) (hva : va.view G = some (l.map (.int .i64))) (h : l.all (fun g => csent g r) = true) : PCalls Try.prog 23 [encR r, va] G (fun v => v = .tup [encR (chops r l), .bool true]) := by
  have h1 := path_ok r l G hl hn va hva
  rw [cpath_eq, if_pos h] at h1
  exact h1
theorem carryKeeps_ok (r : Rc) (l : List Int) (hhr : Held r.bag) (hlen : l.length ≤ 140737488351232) (G : AHeap) : PCalls Try.prog 8 [encR r, .imm (l.map (.int .i64))] G (fun v => v = .bool true) := by
  refine LCalls.intro 110 fi8 rfl Try.ntmps8 rfl (fun _ h => h.elim) (fun H hH w0 hw0 => ?_)
  refine g_seq (fun K0 hK0 => ?_)
  refine g_region ?_
  refine g_step rfl (s_box rfl rfl rfl rfl ?_)
  refine g_step rfl (s_val (v_assign rfl) rfl rfl ?_)
  refine g_nil ?_
  refine g_next hK0 ?_
  refine g_seq (fun K1 hK1 => ?_)
  refine g_seq (fun K2 hK2 => ?_)
  refine g_region ?_
  refine g_step rfl (s_val (by first | exact v_loadl_all ty28 rfl rfl rfl rfl rfl | exact v_loadl_part (cs := [_, _, _, _, _, _, _]) ty28 rfl rfl rfl rfl rfl rfl) rfl rfl ?_)
  refine g_step rfl (s_lit ty23 ty28 rfl rfl rfl rfl rfl rfl rfl ?_)
  refine g_step rfl (s_callp rfl rfl rfl (fewL_ok [r] _ _ rfl (by simp [hhr]) (by simp)) ?_)
  rintro _ rfl
  refine g_step rfl (s_val (v_not rfl) rfl rfl ?_)
  refine g_step rfl (s_val (v_move rfl) rfl rfl ?_)
  refine g_split 13 rfl (fun hg13 => ?_) (fun hg13 => ?_)
  · try simp only [decide_eq_true_eq, decide_eq_false_iff_not, Bool.not_eq_true', Bool.not_eq_false', Bool.not_eq_eq_eq_not, Bool.not_true, Bool.not_false, Bool.and_eq_true, Bool.or_eq_true, Bool.or_eq_false_iff, beq_iff_eq, beq_eq_false_iff_ne, ne_eq, Int.not_lt, Int.not_le, Decidable.not_not] at hg13
    refine g_step_no (j := 4) (t := 13) rfl rfl rfl rfl rfl rfl rfl ?_
    refine g_step_no (j := 4) (t := 13) rfl rfl rfl rfl rfl rfl rfl ?_
    refine g_step_no (j := 4) (t := 13) rfl rfl rfl rfl rfl rfl rfl ?_
    refine g_step rfl (s_val (v_pick_t rfl rfl) rfl rfl ?_)
    refine g_step rfl (s_val (v_move rfl) rfl rfl ?_)
    refine g_step_no (j := 9) (t := 18) rfl rfl rfl rfl rfl rfl rfl ?_
    refine g_step_no (j := 9) (t := 18) rfl rfl rfl rfl rfl rfl rfl ?_
    refine g_step_no (j := 9) (t := 18) rfl rfl rfl rfl rfl rfl rfl ?_
    refine g_step rfl (s_val (v_pick_t rfl rfl) rfl rfl ?_)
    refine g_step rfl (s_val (v_move rfl) rfl rfl ?_)
    refine g_step_no (j := 14) (t := 23) rfl rfl rfl rfl rfl rfl rfl ?_
    refine g_step_no (j := 14) (t := 23) rfl rfl rfl rfl rfl rfl rfl ?_
    refine g_step_no (j := 14) (t := 23) rfl rfl rfl rfl rfl rfl rfl ?_
    refine g_step rfl (s_val (v_pick_t rfl rfl) rfl rfl ?_)
    refine g_nil ?_
    refine g_next hK2 ?_
    refine g_cond rfl (fun _ => ?_) (fun h => by cases h)
    refine g_seq (fun K3 hK3 => ?_)
    refine g_region ?_
    refine g_step rfl (s_callp rfl rfl rfl (awake18_ok _) ?_)
    rintro _ rfl
    refine g_step rfl (s_val (v_assign rfl) rfl rfl ?_)
    refine g_nil ?_
    refine g_next hK3 ?_
    refine g_ret ?_
    refine g_then_ret ?_
    refine g_end1 (.inl rfl) Try.results8 (.tmp rfl) [] (ASub.refl _) (AHeap.sub_refl _) (fun p hp => by cases hp) ⟨rfl, ?_⟩
    rfl
  · try simp only [decide_eq_true_eq, decide_eq_false_iff_not, Bool.not_eq_true', Bool.not_eq_false', Bool.not_eq_eq_eq_not, Bool.not_true, Bool.not_false, Bool.and_eq_true, Bool.or_eq_true, Bool.or_eq_false_iff, beq_iff_eq, beq_eq_false_iff_ne, ne_eq, Int.not_lt, Int.not_le, Decidable.not_not] at hg13
    refine g_step_yes (j := 4) (t := 13) rfl rfl rfl rfl (s_val (v_move rfl) rfl rfl ?_)
    refine g_step_yes (j := 4) (t := 13) rfl rfl rfl rfl (s_val (v_len ty41 rfl (by first | rfl | assumption) (by first | exact List.length_map .. | rfl)) rfl rfl ?_)
    refine g_step_yes (j := 4) (t := 13) rfl rfl rfl rfl (s_val (v_gtr rfl rfl) rfl rfl ?_)
    refine g_step rfl (s_val (v_pick_f rfl rfl) rfl rfl ?_)
    refine g_step rfl (s_val (v_move rfl) rfl rfl ?_)
    refine g_split 18 rfl (fun hg18 => ?_) (fun hg18 => ?_)
    · try simp only [decide_eq_true_eq, decide_eq_false_iff_not, Bool.not_eq_true', Bool.not_eq_false', Bool.not_eq_eq_eq_not, Bool.not_true, Bool.not_false, Bool.and_eq_true, Bool.or_eq_true, Bool.or_eq_false_iff, beq_iff_eq, beq_eq_false_iff_ne, ne_eq, Int.not_lt, Int.not_le, Decidable.not_not] at hg18
      refine g_step_no (j := 9) (t := 18) rfl rfl rfl rfl rfl rfl rfl ?_
      refine g_step_no (j := 9) (t := 18) rfl rfl rfl rfl rfl rfl rfl ?_
      refine g_step_no (j := 9) (t := 18) rfl rfl rfl rfl rfl rfl rfl ?_
      refine g_step rfl (s_val (v_pick_t rfl rfl) rfl rfl ?_)
      refine g_step rfl (s_val (v_move rfl) rfl rfl ?_)
      refine g_step_no (j := 14) (t := 23) rfl rfl rfl rfl rfl rfl rfl ?_
      refine g_step_no (j := 14) (t := 23) rfl rfl rfl rfl rfl rfl rfl ?_
      refine g_step_no (j := 14) (t := 23) rfl rfl rfl rfl rfl rfl rfl ?_
      refine g_step rfl (s_val (v_pick_t rfl rfl) rfl rfl ?_)
      refine g_nil ?_
      refine g_next hK2 ?_
      refine g_cond rfl (fun _ => ?_) (fun h => by cases h)
      refine g_seq (fun K4 hK4 => ?_)
      refine g_region ?_
      refine g_step rfl (s_callp rfl rfl rfl (awake18_ok _) ?_)
      rintro _ rfl
      refine g_step rfl (s_val (v_assign rfl) rfl rfl ?_)
      refine g_nil ?_
      refine g_next hK4 ?_
      refine g_ret ?_
      refine g_then_ret ?_
      refine g_end1 (.inl rfl) Try.results8 (.tmp rfl) [] (ASub.refl _) (AHeap.sub_refl _) (fun p hp => by cases hp) ⟨rfl, ?_⟩
      rfl
    · try simp only [decide_eq_true_eq, decide_eq_false_iff_not, Bool.not_eq_true', Bool.not_eq_false', Bool.not_eq_eq_eq_not, Bool.not_true, Bool.not_false, Bool.and_eq_true, Bool.or_eq_true, Bool.or_eq_false_iff, beq_iff_eq, beq_eq_false_iff_ne, ne_eq, Int.not_lt, Int.not_le, Decidable.not_not] at hg18
      have hf : few r.bag = true := by simp_all [fewL]
      have hsr := (few_small hf).1
      refine g_step_yes (j := 9) (t := 18) rfl rfl rfl rfl (s_val (by first | exact v_loadl_all ty28 rfl rfl rfl rfl rfl | exact v_loadl_part (cs := [_, _, _, _, _, _, _]) ty28 rfl rfl rfl rfl rfl rfl) rfl rfl ?_)
      refine g_step_yes (j := 9) (t := 18) rfl rfl rfl rfl (s_callp rfl rfl rfl (recValid_ok r _ hsr) ?_)
      rintro _ rfl
      refine g_step_yes (j := 9) (t := 18) rfl rfl rfl rfl (s_val (v_not rfl) rfl rfl ?_)
      refine g_step rfl (s_val (v_pick_f rfl rfl) rfl rfl ?_)
      refine g_step rfl (s_val (v_move rfl) rfl rfl ?_)
      refine g_split 23 rfl (fun hg23 => ?_) (fun hg23 => ?_)
      · try simp only [decide_eq_true_eq, decide_eq_false_iff_not, Bool.not_eq_true', Bool.not_eq_false', Bool.not_eq_eq_eq_not, Bool.not_true, Bool.not_false, Bool.and_eq_true, Bool.or_eq_true, Bool.or_eq_false_iff, beq_iff_eq, beq_eq_false_iff_ne, ne_eq, Int.not_lt, Int.not_le, Decidable.not_not] at hg23
        refine g_step_no (j := 14) (t := 23) rfl rfl rfl rfl rfl rfl rfl ?_
        refine g_step_no (j := 14) (t := 23) rfl rfl rfl rfl rfl rfl rfl ?_
        refine g_step_no (j := 14) (t := 23) rfl rfl rfl rfl rfl rfl rfl ?_
        refine g_step rfl (s_val (v_pick_t rfl rfl) rfl rfl ?_)
        refine g_nil ?_
        refine g_next hK2 ?_
        refine g_cond rfl (fun _ => ?_) (fun h => by cases h)
        refine g_seq (fun K5 hK5 => ?_)
        refine g_region ?_
        refine g_step rfl (s_callp rfl rfl rfl (awake18_ok _) ?_)
        rintro _ rfl
        refine g_step rfl (s_val (v_assign rfl) rfl rfl ?_)
        refine g_nil ?_
        refine g_next hK5 ?_
        refine g_ret ?_
        refine g_then_ret ?_
        refine g_end1 (.inl rfl) Try.results8 (.tmp rfl) [] (ASub.refl _) (AHeap.sub_refl _) (fun p hp => by cases hp) ⟨rfl, ?_⟩
        rfl
      · try simp only [decide_eq_true_eq, decide_eq_false_iff_not, Bool.not_eq_true', Bool.not_eq_false', Bool.not_eq_eq_eq_not, Bool.not_true, Bool.not_false, Bool.and_eq_true, Bool.or_eq_true, Bool.or_eq_false_iff, beq_iff_eq, beq_eq_false_iff_ne, ne_eq, Int.not_lt, Int.not_le, Decidable.not_not] at hg23
        refine g_step_yes (j := 14) (t := 23) rfl rfl rfl rfl (s_fieldAddr ty28 fo28_1 ty3 rfl rfl ?_)
        refine g_step_yes (j := 14) (t := 23) rfl rfl rfl rfl (s_val (v_loadl ty3 rfl rfl rfl rfl) rfl rfl ?_)
        refine g_step_yes (j := 14) (t := 23) rfl rfl rfl rfl (s_val (v_gtr rfl rfl) rfl rfl ?_)
        refine g_step rfl (s_val (v_pick_f rfl rfl) rfl rfl ?_)
        refine g_nil ?_
        refine g_next hK2 ?_
        refine g_cond rfl (fun hc27 => ?_) (fun hc27 => ?_)
        · try simp only [decide_eq_true_eq, decide_eq_false_iff_not, Bool.not_eq_true', Bool.not_eq_false', Bool.not_eq_eq_eq_not, Bool.not_true, Bool.not_false, Bool.and_eq_true, Bool.or_eq_true, Bool.or_eq_false_iff, beq_iff_eq, beq_eq_false_iff_ne, ne_eq, Int.not_lt, Int.not_le, Decidable.not_not] at hc27
          refine g_seq (fun K6 hK6 => ?_)
          refine g_region ?_
          refine g_step rfl (s_callp rfl rfl rfl (awake18_ok _) ?_)
          rintro _ rfl
          refine g_step rfl (s_val (v_assign rfl) rfl rfl ?_)
          refine g_nil ?_
          refine g_next hK6 ?_
          refine g_ret ?_
          refine g_then_ret ?_
          refine g_end1 (.inl rfl) Try.results8 (.tmp rfl) [] (ASub.refl _) (AHeap.sub_refl _) (fun p hp => by cases hp) ⟨rfl, ?_⟩
          rfl
        · try simp only [decide_eq_true_eq, decide_eq_false_iff_not, Bool.not_eq_true', Bool.not_eq_false', Bool.not_eq_eq_eq_not, Bool.not_true, Bool.not_false, Bool.and_eq_true, Bool.or_eq_true, Bool.or_eq_false_iff, beq_iff_eq, beq_eq_false_iff_ne, ne_eq, Int.not_lt, Int.not_le, Decidable.not_not] at hc27
          have hv : recValid r = true := by first | assumption | simp_all
          refine g_skip ?_
          refine g_next hK1 ?_
          refine g_seq (fun K7 hK7 => ?_)
          refine g_region ?_
          refine g_step rfl (s_val (v_assign rfl) rfl rfl ?_)
          refine g_nil ?_
          refine g_next hK7 ?_
          refine g_seq (fun K8 hK8 => ?_)
          refine g_seq (fun K9 hK9 => ?_)
          refine g_region ?_
          refine g_step rfl (s_val (v_assign rfl) rfl rfl ?_)
          refine g_nil ?_
          refine g_next hK9 ?_
          refine g_block ?_
          first | refine g_keep [1, 5, 6] [2] [2] (keep_cons rfl (keep_cons rfl (keep_cons rfl keep_nil))) (lkeep_cons rfl lkeep_nil) (keep_cons rfl keep_nil) rfl ?_ | refine g_keep [1, 5, 6] [2] [2] rfl rfl rfl rfl ?_
          refine g_loop (fun n env L B G => ∃ (k : Nat) (u : Bool), k ≤ l.length ∧ n = l.length - k ∧ env = [(1, .imm (l.map (.int .i64))), (5, .bool u), (6, .int .i64 (k : Int))] ∧ L = [(2, 2, 0)] ∧ B = [(2, encR r)] ∧ H = G ∧ u = (l.take k).any (fun g => decide (g = 1)) ∧ ∀ y ∈ l.take k, 1 ≤ y ∧ y ≤ 3) (l.length) ⟨0, false, Nat.zero_le _, rfl, rfl, rfl, rfl, rfl, ⟨rfl, by simp⟩⟩ (fun n env L B G hI => ?_)
          obtain ⟨k, u, hk, rfl, rfl, rfl, rfl, rfl, hu, hb⟩ := hI
          refine g_seq (fun K10 hK10 => ?_)
          refine g_seq (fun K11 hK11 => ?_)
          refine g_region ?_
          refine g_step rfl (s_val (v_move rfl) rfl rfl ?_)
          refine g_step rfl (s_val (v_move rfl) rfl rfl ?_)
          refine g_step rfl (s_val (v_len ty41 rfl (by first | rfl | assumption) (by first | exact List.length_map .. | rfl)) rfl rfl ?_)
          refine g_step rfl (s_val (v_lss rfl rfl) rfl rfl ?_)
          refine g_nil ?_
          refine g_next hK11 ?_
          refine g_cond rfl (fun hc32 => ?_) (fun hc32 => ?_)
          · try simp only [decide_eq_true_eq, decide_eq_false_iff_not, Bool.not_eq_true', Bool.not_eq_false', Bool.not_eq_eq_eq_not, Bool.not_true, Bool.not_false, Bool.and_eq_true, Bool.or_eq_true, Bool.or_eq_false_iff, beq_iff_eq, beq_eq_false_iff_ne, ne_eq, Int.not_lt, Int.not_le, Decidable.not_not] at hc32
            obtain ⟨g, hg⟩ := get_some (l := l) (k := k) (by omega)
            refine g_skip ?_
            refine g_next hK10 ?_
            refine g_seq (fun K12 hK12 => ?_)
            refine g_block ?_
            refine g_seq (fun K13 hK13 => ?_)
            refine g_seq (fun K14 hK14 => ?_)
            refine g_region ?_
            refine g_step rfl (s_val (v_move rfl) rfl rfl ?_)
            refine g_step rfl (s_val (v_move rfl) rfl rfl ?_)
            refine g_step rfl (s_val (v_indexAddr ty41 ty3 rfl rfl (by first | rfl | assumption) (by first | rfl | exact (rfl : (0 : Int) = ((0 : Nat) : Int)) | exact (Int.toNat_of_nonneg (by omega)).symm) (by first | assumption | exact map_get (by assumption) | rfl) rfl) rfl rfl ?_)
            refine g_step rfl (s_val (by first | exact v_load ty3 rfl rfl (by first | rfl | assumption) (by first | assumption | exact map_get (by assumption) | rfl) rfl | exact v_load_box ty3 rfl rfl (by assumption) rfl) rfl rfl ?_)
            refine g_step rfl (s_val (v_lss rfl rfl) rfl rfl ?_)
            refine g_step rfl (s_val (v_move rfl) rfl rfl ?_)
            refine g_split 40 rfl (fun hg40 => ?_) (fun hg40 => ?_)
            · try simp only [decide_eq_true_eq, decide_eq_false_iff_not, Bool.not_eq_true', Bool.not_eq_false', Bool.not_eq_eq_eq_not, Bool.not_true, Bool.not_false, Bool.and_eq_true, Bool.or_eq_true, Bool.or_eq_false_iff, beq_iff_eq, beq_eq_false_iff_ne, ne_eq, Int.not_lt, Int.not_le, Decidable.not_not] at hg40
              refine g_step_no (j := 5) (t := 40) rfl rfl rfl rfl rfl rfl rfl ?_
              refine g_step_no (j := 5) (t := 40) rfl rfl rfl rfl rfl rfl rfl ?_
              refine g_step_no (j := 5) (t := 40) rfl rfl rfl rfl rfl rfl rfl ?_
              refine g_step_no (j := 5) (t := 40) rfl rfl rfl rfl rfl rfl rfl ?_
              refine g_step_no (j := 5) (t := 40) rfl rfl rfl rfl rfl rfl rfl ?_
              refine g_step rfl (s_val (v_pick_t rfl rfl) rfl rfl ?_)
              refine g_nil ?_
              refine g_next hK14 ?_
              refine g_cond rfl (fun _ => ?_) (fun h => by cases h)
              refine g_seq (fun K15 hK15 => ?_)
              refine g_region ?_
              refine g_step rfl (s_callp rfl rfl rfl (awake18_ok _) ?_)
              rintro _ rfl
              refine g_step rfl (s_val (v_assign rfl) rfl rfl ?_)
              refine g_nil ?_
              refine g_next hK15 ?_
              refine g_ret ?_
              refine g_then_ret ?_
              refine g_block_ret ?_
              refine g_then_ret ?_
              refine g_then_ret ?_
              refine g_block_ret ?_
              refine g_then_ret ?_
              refine g_end1 (.inl rfl) Try.results8 (.tmp rfl) [] (ASub.refl _) (AHeap.sub_refl _) (fun p hp => by cases hp) ⟨rfl, ?_⟩
              rfl
            · try simp only [decide_eq_true_eq, decide_eq_false_iff_not, Bool.not_eq_true', Bool.not_eq_false', Bool.not_eq_eq_eq_not, Bool.not_true, Bool.not_false, Bool.and_eq_true, Bool.or_eq_true, Bool.or_eq_false_iff, beq_iff_eq, beq_eq_false_iff_ne, ne_eq, Int.not_lt, Int.not_le, Decidable.not_not] at hg40
              refine g_step_yes (j := 5) (t := 40) rfl rfl rfl rfl (s_val (v_move rfl) rfl rfl ?_)
              refine g_step_yes (j := 5) (t := 40) rfl rfl rfl rfl (s_val (v_move rfl) rfl rfl ?_)
              refine g_step_yes (j := 5) (t := 40) rfl rfl rfl rfl (s_val (v_indexAddr ty41 ty3 rfl rfl (by first | rfl | assumption) (by first | rfl | exact (rfl : (0 : Int) = ((0 : Nat) : Int)) | exact (Int.toNat_of_nonneg (by omega)).symm) (by first | assumption | exact map_get (by assumption) | rfl) rfl) rfl rfl ?_)
              refine g_step_yes (j := 5) (t := 40) rfl rfl rfl rfl (s_val (by first | exact v_load ty3 rfl rfl (by first | rfl | assumption) (by first | assumption | exact map_get (by assumption) | rfl) rfl | exact v_load_box ty3 rfl rfl (by assumption) rfl) rfl rfl ?_)
              refine g_step_yes (j := 5) (t := 40) rfl rfl rfl rfl (s_val (v_gtr rfl rfl) rfl rfl ?_)
              refine g_step rfl (s_val (v_pick_f rfl rfl) rfl rfl ?_)
              refine g_nil ?_
              refine g_next hK14 ?_
              refine g_cond rfl (fun hc46 => ?_) (fun hc46 => ?_)
              · try simp only [decide_eq_true_eq, decide_eq_false_iff_not, Bool.not_eq_true', Bool.not_eq_false', Bool.not_eq_eq_eq_not, Bool.not_true, Bool.not_false, Bool.and_eq_true, Bool.or_eq_true, Bool.or_eq_false_iff, beq_iff_eq, beq_eq_false_iff_ne, ne_eq, Int.not_lt, Int.not_le, Decidable.not_not] at hc46
                refine g_seq (fun K16 hK16 => ?_)
                refine g_region ?_
                refine g_step rfl (s_callp rfl rfl rfl (awake18_ok _) ?_)
                rintro _ rfl
                refine g_step rfl (s_val (v_assign rfl) rfl rfl ?_)
                refine g_nil ?_
                refine g_next hK16 ?_
                refine g_ret ?_
                refine g_then_ret ?_
                refine g_block_ret ?_
                refine g_then_ret ?_
                refine g_then_ret ?_
                refine g_block_ret ?_
                refine g_then_ret ?_
                refine g_end1 (.inl rfl) Try.results8 (.tmp rfl) [] (ASub.refl _) (AHeap.sub_refl _) (fun p hp => by cases hp) ⟨rfl, ?_⟩
                rfl
              · try simp only [decide_eq_true_eq, decide_eq_false_iff_not, Bool.not_eq_true', Bool.not_eq_false', Bool.not_eq_eq_eq_not, Bool.not_true, Bool.not_false, Bool.and_eq_true, Bool.or_eq_true, Bool.or_eq_false_iff, beq_iff_eq, beq_eq_false_iff_ne, ne_eq, Int.not_lt, Int.not_le, Decidable.not_not] at hc46
                refine g_skip ?_
                refine g_next hK13 ?_
                refine g_seq (fun K17 hK17 => ?_)
                refine g_region ?_
                refine g_step rfl (s_val (v_move rfl) rfl rfl ?_)
                refine g_step rfl (s_val (v_move rfl) rfl rfl ?_)
                refine g_step rfl (s_val (v_indexAddr ty41 ty3 rfl rfl (by first | rfl | assumption) (by first | rfl | exact (rfl : (0 : Int) = ((0 : Nat) : Int)) | exact (Int.toNat_of_nonneg (by omega)).symm) (by first | assumption | exact map_get (by assumption) | rfl) rfl) rfl rfl ?_)
                refine g_step rfl (s_val (by first | exact v_load ty3 rfl rfl (by first | rfl | assumption) (by first | assumption | exact map_get (by assumption) | rfl) rfl | exact v_load_box ty3 rfl rfl (by assumption) rfl) rfl rfl ?_)
                refine g_step rfl (s_val (v_eql rfl rfl) rfl rfl ?_)
                refine g_nil ?_
                refine g_next hK17 ?_
                refine g_cond rfl (fun hc52 => ?_) (fun hc52 => ?_)
                · try simp only [decide_eq_true_eq, decide_eq_false_iff_not, Bool.not_eq_true', Bool.not_eq_false', Bool.not_eq_eq_eq_not, Bool.not_true, Bool.not_false, Bool.and_eq_true, Bool.or_eq_true, Bool.or_eq_false_iff, beq_iff_eq, beq_eq_false_iff_ne, ne_eq, Int.not_lt, Int.not_le, Decidable.not_not] at hc52
                  refine g_region ?_
                  refine g_step rfl (s_val (v_assign rfl) rfl rfl ?_)
                  refine g_nil ?_
                  refine g_block_normal ?_
                  refine g_next hK12 ?_
                  refine g_region ?_
                  refine g_step rfl (s_val (v_move rfl) rfl rfl ?_)
                  refine g_step rfl (s_val (v_add rfl rfl (by omega)) rfl rfl ?_)
                  refine g_step rfl (s_val (v_assign rfl) rfl rfl ?_)
                  refine g_nil ?_
                  first | refine g_keep [1, 5, 6] [2] [2] (keep_cons rfl (keep_cons rfl (keep_cons rfl keep_nil))) (lkeep_cons rfl lkeep_nil) (keep_cons rfl keep_nil) rfl ?_ | refine g_keep [1, 5, 6] [2] [2] rfl rfl rfl rfl ?_
                  first | exact g_round _ (by omega) ⟨k + 1, true, by omega, rfl, rfl, rfl, rfl, rfl, ⟨by rw [any_take hg, decide_eq_true (by omega), Bool.or_true], bound_take hg hb (by omega)⟩⟩ | exact g_round _ (by omega) ⟨k + 1, u, by omega, rfl, rfl, rfl, rfl, rfl, ⟨by rw [any_take hg, decide_eq_false (by omega), Bool.or_false]; exact hu, bound_take hg hb (by omega)⟩⟩
                · try simp only [decide_eq_true_eq, decide_eq_false_iff_not, Bool.not_eq_true', Bool.not_eq_false', Bool.not_eq_eq_eq_not, Bool.not_true, Bool.not_false, Bool.and_eq_true, Bool.or_eq_true, Bool.or_eq_false_iff, beq_iff_eq, beq_eq_false_iff_ne, ne_eq, Int.not_lt, Int.not_le, Decidable.not_not] at hc52
                  refine g_skip ?_
                  refine g_block_normal ?_
                  refine g_next hK12 ?_
                  refine g_region ?_
                  refine g_step rfl (s_val (v_move rfl) rfl rfl ?_)
                  refine g_step rfl (s_val (v_add rfl rfl (by omega)) rfl rfl ?_)
                  refine g_step rfl (s_val (v_assign rfl) rfl rfl ?_)
                  refine g_nil ?_
                  first | refine g_keep [1, 5, 6] [2] [2] (keep_cons rfl (keep_cons rfl (keep_cons rfl keep_nil))) (lkeep_cons rfl lkeep_nil) (keep_cons rfl keep_nil) rfl ?_ | refine g_keep [1, 5, 6] [2] [2] rfl rfl rfl rfl ?_
                  first | exact g_round _ (by omega) ⟨k + 1, true, by omega, rfl, rfl, rfl, rfl, rfl, ⟨by rw [any_take hg, decide_eq_true (by omega), Bool.or_true], bound_take hg hb (by omega)⟩⟩ | exact g_round _ (by omega) ⟨k + 1, u, by omega, rfl, rfl, rfl, rfl, rfl, ⟨by rw [any_take hg, decide_eq_false (by omega), Bool.or_false]; exact hu, bound_take hg hb (by omega)⟩⟩
          · try simp only [decide_eq_true_eq, decide_eq_false_iff_not, Bool.not_eq_true', Bool.not_eq_false', Bool.not_eq_eq_eq_not, Bool.not_true, Bool.not_false, Bool.and_eq_true, Bool.or_eq_true, Bool.or_eq_false_iff, beq_iff_eq, beq_eq_false_iff_ne, ne_eq, Int.not_lt, Int.not_le, Decidable.not_not] at hc32
            obtain rfl : k = l.length := by omega
            rw [List.take_length] at hu hb
            have hall := sent_all (r := r) (by omega) hb
            have hvc := chops_valid (l := l) hv
            have hak := chops_akin l r
            have hsc := chops_small l hsr
            refine g_exit ?_
            refine g_then_exit ?_
            refine g_then_exit ?_
            refine g_block_same ?_
            refine g_next hK8 ?_
            refine g_seq (fun K18 hK18 => ?_)
            refine g_region ?_
            refine g_step rfl (s_val (by first | exact v_loadl_all ty28 rfl rfl rfl rfl rfl | exact v_loadl_part (cs := [_, _, _, _, _, _, _]) ty28 rfl rfl rfl rfl rfl rfl) rfl rfl ?_)
            refine g_step rfl (s_val (v_move rfl) rfl rfl ?_)
            refine g_step rfl (s_callp rfl rfl rfl (pathAll_ok r l _ hsr (by omega) _ rfl hall) ?_)
            rintro _ rfl
            refine g_step rfl (s_val (v_move rfl) rfl rfl ?_)
            refine g_step rfl (s_val (v_extract rfl rfl) rfl rfl ?_)
            refine g_step rfl (s_val (v_extract rfl rfl) rfl rfl ?_)
            refine g_step rfl (s_alloc (av := (.agg [(.int .i64 0), (.int .i64 0), (.int .i64 0), (.int .i64 0), (.int .i64 0), (.bool false), .nil0])) ty28 rfl rfl rfl rfl ?_)
            refine g_step rfl (s_store_all ty28 rfl rfl rfl rfl rfl rfl ?_)
            refine g_step rfl (s_val (v_assign rfl) rfl rfl ?_)
            refine g_nil ?_
            refine g_next hK18 ?_
            refine g_seq (fun K19 hK19 => ?_)
            refine g_seq (fun K20 hK20 => ?_)
            refine g_region ?_
            refine g_step rfl (s_val (v_move rfl) rfl rfl ?_)
            refine g_step rfl (s_val (v_not rfl) rfl rfl ?_)
            refine g_step rfl (s_val (v_move rfl) rfl rfl ?_)
            refine g_split 61 rfl (fun hg61 => ?_) (fun hg61 => ?_)
            · exfalso; (try simp only [decide_eq_true_eq, decide_eq_false_iff_not, Bool.not_eq_true', Bool.not_eq_false', Bool.not_eq_eq_eq_not, Bool.not_true, Bool.not_false, Bool.and_eq_true, Bool.or_eq_true, Bool.or_eq_false_iff, beq_iff_eq, beq_eq_false_iff_ne, ne_eq, Int.not_lt, Int.not_le, Decidable.not_not] at hg61); simp at hg61
            · try simp only [decide_eq_true_eq, decide_eq_false_iff_not, Bool.not_eq_true', Bool.not_eq_false', Bool.not_eq_eq_eq_not, Bool.not_true, Bool.not_false, Bool.and_eq_true, Bool.or_eq_true, Bool.or_eq_false_iff, beq_iff_eq, beq_eq_false_iff_ne, ne_eq, Int.not_lt, Int.not_le, Decidable.not_not] at hg61
              refine g_step_yes (j := 2) (t := 61) rfl rfl rfl rfl (s_val (by first | exact v_loadl_all ty28 rfl rfl rfl rfl rfl | exact v_loadl_part (cs := [_, _, _, _, _, _, _]) ty28 rfl rfl rfl rfl rfl rfl) rfl rfl ?_)
              refine g_step_yes (j := 2) (t := 61) rfl rfl rfl rfl (s_callp rfl rfl rfl (recValid_ok (chops r l) _ hsc) ?_)
              rintro _ rfl
              refine g_step_yes (j := 2) (t := 61) rfl rfl rfl rfl (s_val (v_not rfl) rfl rfl ?_)
              refine g_step rfl (s_val (v_pick_f rfl rfl) rfl rfl ?_)
              refine g_step rfl (s_val (v_move rfl) rfl rfl ?_)
              refine g_split 66 rfl (fun hg66 => ?_) (fun hg66 => ?_)
              · exfalso; (try simp only [decide_eq_true_eq, decide_eq_false_iff_not, Bool.not_eq_true', Bool.not_eq_false', Bool.not_eq_eq_eq_not, Bool.not_true, Bool.not_false, Bool.and_eq_true, Bool.or_eq_true, Bool.or_eq_false_iff, beq_iff_eq, beq_eq_false_iff_ne, ne_eq, Int.not_lt, Int.not_le, Decidable.not_not] at hg66); simp [hvc] at hg66
              · try simp only [decide_eq_true_eq, decide_eq_false_iff_not, Bool.not_eq_true', Bool.not_eq_false', Bool.not_eq_eq_eq_not, Bool.not_true, Bool.not_false, Bool.and_eq_true, Bool.or_eq_true, Bool.or_eq_false_iff, beq_iff_eq, beq_eq_false_iff_ne, ne_eq, Int.not_lt, Int.not_le, Decidable.not_not] at hg66
                refine g_step_yes (j := 7) (t := 66) rfl rfl rfl rfl (s_val (by first | exact v_loadl_all ty28 rfl rfl rfl rfl rfl | exact v_loadl_part (cs := [_, _, _, _, _, _, _]) ty28 rfl rfl rfl rfl rfl rfl) rfl rfl ?_)
                refine g_step_yes (j := 7) (t := 66) rfl rfl rfl rfl (s_val (by first | exact v_loadl_all ty28 rfl rfl rfl rfl rfl | exact v_loadl_part (cs := [_, _, _, _, _, _, _]) ty28 rfl rfl rfl rfl rfl rfl) rfl rfl ?_)
                refine g_step_yes (j := 7) (t := 66) rfl rfl rfl rfl (s_callp rfl rfl rfl (akin_ok (chops r l) r _) ?_)
                rintro _ rfl
                refine g_step_yes (j := 7) (t := 66) rfl rfl rfl rfl (s_val (v_not rfl) rfl rfl ?_)
                refine g_step rfl (s_val (v_pick_f rfl rfl) rfl rfl ?_)
                refine g_nil ?_
                refine g_next hK20 ?_
                first | refine g_keep [1, 5, 71] [2, 7] [2, 7] (keep_cons rfl (keep_cons rfl (keep_cons rfl keep_nil))) (lkeep_cons rfl (lkeep_cons rfl lkeep_nil)) (keep_cons rfl (keep_cons rfl keep_nil)) rfl ?_ | refine g_keep [1, 5, 71] [2, 7] [2, 7] rfl rfl rfl rfl ?_
                refine g_cond rfl (fun hc71 => ?_) (fun hc71 => ?_)
                · exfalso; (try simp only [decide_eq_true_eq, decide_eq_false_iff_not, Bool.not_eq_true', Bool.not_eq_false', Bool.not_eq_eq_eq_not, Bool.not_true, Bool.not_false, Bool.and_eq_true, Bool.or_eq_true, Bool.or_eq_false_iff, beq_iff_eq, beq_eq_false_iff_ne, ne_eq, Int.not_lt, Int.not_le, Decidable.not_not] at hc71); simp [hak] at hc71
                · try simp only [decide_eq_true_eq, decide_eq_false_iff_not, Bool.not_eq_true', Bool.not_eq_false', Bool.not_eq_eq_eq_not, Bool.not_true, Bool.not_false, Bool.and_eq_true, Bool.or_eq_true, Bool.or_eq_false_iff, beq_iff_eq, beq_eq_false_iff_ne, ne_eq, Int.not_lt, Int.not_le, Decidable.not_not] at hc71
                  refine g_skip ?_
                  refine g_next hK19 ?_
                  refine g_seq (fun K21 hK21 => ?_)
                  refine g_seq (fun K22 hK22 => ?_)
                  refine g_region ?_
                  refine g_step rfl (s_val (v_move rfl) rfl rfl ?_)
                  refine g_step rfl (s_val (v_not rfl) rfl rfl ?_)
                  refine g_step rfl (s_val (v_move rfl) rfl rfl ?_)
                  refine g_split 74 rfl (fun hg74 => ?_) (fun hg74 => ?_)
                  · try simp only [decide_eq_true_eq, decide_eq_false_iff_not, Bool.not_eq_true', Bool.not_eq_false', Bool.not_eq_eq_eq_not, Bool.not_true, Bool.not_false, Bool.and_eq_true, Bool.or_eq_true, Bool.or_eq_false_iff, beq_iff_eq, beq_eq_false_iff_ne, ne_eq, Int.not_lt, Int.not_le, Decidable.not_not] at hg74
                    refine g_step_yes (j := 2) (t := 74) rfl rfl rfl rfl (s_fieldAddr ty28 fo28_5 ty26 rfl rfl ?_)
                    refine g_step_yes (j := 2) (t := 74) rfl rfl rfl rfl (s_val (v_loadl ty26 rfl rfl rfl rfl) rfl rfl ?_)
                    refine g_step_yes (j := 2) (t := 74) rfl rfl rfl rfl (s_callp rfl rfl rfl (bagLight_ok r.bag _ _ rfl hsr) ?_)
                    rintro _ rfl
                    refine g_step rfl (s_val (v_pick_t rfl rfl) rfl rfl ?_)
                    refine g_step rfl (s_val (v_move rfl) rfl rfl ?_)
                    refine g_split 79 rfl (fun hg79 => ?_) (fun hg79 => ?_)
                    · try simp only [decide_eq_true_eq, decide_eq_false_iff_not, Bool.not_eq_true', Bool.not_eq_false', Bool.not_eq_eq_eq_not, Bool.not_true, Bool.not_false, Bool.and_eq_true, Bool.or_eq_true, Bool.or_eq_false_iff, beq_iff_eq, beq_eq_false_iff_ne, ne_eq, Int.not_lt, Int.not_le, Decidable.not_not] at hg79
                      refine g_step_no (j := 7) (t := 79) rfl rfl rfl rfl rfl rfl rfl ?_
                      refine g_step_no (j := 7) (t := 79) rfl rfl rfl rfl rfl rfl rfl ?_
                      refine g_step_no (j := 7) (t := 79) rfl rfl rfl rfl rfl rfl rfl ?_
                      refine g_step rfl (s_val (v_pick_t rfl rfl) rfl rfl ?_)
                      refine g_nil ?_
                      refine g_next hK22 ?_
                      refine g_cond rfl (fun _ => ?_) (fun h => by cases h)
                      refine g_seq (fun K23 hK23 => ?_)
                      refine g_region ?_
                      have hcr : chops r l = r := by first | exact chops_light l (by rw [← hu]; assumption) (by assumption) | exact chops_nil (by simpa using hc83) | exact chops_nil (List.eq_nil_of_length_eq_zero (by omega))
                      refine g_step rfl (s_val (by first | exact v_loadl_all ty28 rfl rfl rfl rfl rfl | exact v_loadl_part (cs := [_, _, _, _, _, _, _]) ty28 rfl rfl rfl rfl rfl rfl) rfl rfl ?_)
                      refine g_step rfl (s_val (by first | exact v_loadl_all ty28 rfl rfl rfl rfl rfl | exact v_loadl_part (cs := [_, _, _, _, _, _, _]) ty28 rfl rfl rfl rfl rfl rfl) rfl rfl ?_)
                      refine g_step rfl (s_callp rfl rfl rfl (rsame_ok (chops r l) r _ hsc) ?_)
                      rintro _ rfl
                      refine g_step rfl (s_val (v_move rfl) rfl rfl ?_)
                      refine g_split 87 rfl (fun hg87 => ?_) (fun hg87 => ?_)
                      · try simp only [decide_eq_true_eq, decide_eq_false_iff_not, Bool.not_eq_true', Bool.not_eq_false', Bool.not_eq_eq_eq_not, Bool.not_true, Bool.not_false, Bool.and_eq_true, Bool.or_eq_true, Bool.or_eq_false_iff, beq_iff_eq, beq_eq_false_iff_ne, ne_eq, Int.not_lt, Int.not_le, Decidable.not_not] at hg87
                        refine g_step_yes (j := 3) (t := 87) rfl rfl rfl rfl (s_callp rfl rfl rfl (awake18_ok _) ?_)
                        rintro _ rfl
                        refine g_step rfl (s_val (v_pick_t rfl rfl) rfl rfl ?_)
                        refine g_step rfl (s_val (v_assign rfl) rfl rfl ?_)
                        refine g_nil ?_
                        refine g_next hK23 ?_
                        refine g_ret ?_
                        refine g_then_ret ?_
                        refine g_end1 (.inl rfl) Try.results8 (.tmp rfl) [] (ASub.refl _) (AHeap.sub_refl _) (fun p hp => by cases hp) ⟨rfl, ?_⟩
                        rfl
                      · exfalso; (try simp only [decide_eq_true_eq, decide_eq_false_iff_not, Bool.not_eq_true', Bool.not_eq_false', Bool.not_eq_eq_eq_not, Bool.not_true, Bool.not_false, Bool.and_eq_true, Bool.or_eq_true, Bool.or_eq_false_iff, beq_iff_eq, beq_eq_false_iff_ne, ne_eq, Int.not_lt, Int.not_le, Decidable.not_not] at hg87); simp [hcr] at hg87
                    · try simp only [decide_eq_true_eq, decide_eq_false_iff_not, Bool.not_eq_true', Bool.not_eq_false', Bool.not_eq_eq_eq_not, Bool.not_true, Bool.not_false, Bool.and_eq_true, Bool.or_eq_true, Bool.or_eq_false_iff, beq_iff_eq, beq_eq_false_iff_ne, ne_eq, Int.not_lt, Int.not_le, Decidable.not_not] at hg79
                      refine g_step_yes (j := 7) (t := 79) rfl rfl rfl rfl (s_val (v_move rfl) rfl rfl ?_)
                      refine g_step_yes (j := 7) (t := 79) rfl rfl rfl rfl (s_val (v_len ty41 rfl (by first | rfl | assumption) (by first | exact List.length_map .. | rfl)) rfl rfl ?_)
                      refine g_step_yes (j := 7) (t := 79) rfl rfl rfl rfl (s_val (v_eql rfl rfl) rfl rfl ?_)
                      refine g_step rfl (s_val (v_pick_f rfl rfl) rfl rfl ?_)
                      refine g_nil ?_
                      refine g_next hK22 ?_
                      refine g_cond rfl (fun hc83 => ?_) (fun hc83 => ?_)
                      · try simp only [decide_eq_true_eq, decide_eq_false_iff_not, Bool.not_eq_true', Bool.not_eq_false', Bool.not_eq_eq_eq_not, Bool.not_true, Bool.not_false, Bool.and_eq_true, Bool.or_eq_true, Bool.or_eq_false_iff, beq_iff_eq, beq_eq_false_iff_ne, ne_eq, Int.not_lt, Int.not_le, Decidable.not_not] at hc83
                        refine g_seq (fun K24 hK24 => ?_)
                        refine g_region ?_
                        have hcr : chops r l = r := by first | exact chops_light l (by rw [← hu]; assumption) (by assumption) | exact chops_nil (by simpa using hc83) | exact chops_nil (List.eq_nil_of_length_eq_zero (by omega))
                        refine g_step rfl (s_val (by first | exact v_loadl_all ty28 rfl rfl rfl rfl rfl | exact v_loadl_part (cs := [_, _, _, _, _, _, _]) ty28 rfl rfl rfl rfl rfl rfl) rfl rfl ?_)
                        refine g_step rfl (s_val (by first | exact v_loadl_all ty28 rfl rfl rfl rfl rfl | exact v_loadl_part (cs := [_, _, _, _, _, _, _]) ty28 rfl rfl rfl rfl rfl rfl) rfl rfl ?_)
                        refine g_step rfl (s_callp rfl rfl rfl (rsame_ok (chops r l) r _ hsc) ?_)
                        rintro _ rfl
                        refine g_step rfl (s_val (v_move rfl) rfl rfl ?_)
                        refine g_split 87 rfl (fun hg87 => ?_) (fun hg87 => ?_)
                        · try simp only [decide_eq_true_eq, decide_eq_false_iff_not, Bool.not_eq_true', Bool.not_eq_false', Bool.not_eq_eq_eq_not, Bool.not_true, Bool.not_false, Bool.and_eq_true, Bool.or_eq_true, Bool.or_eq_false_iff, beq_iff_eq, beq_eq_false_iff_ne, ne_eq, Int.not_lt, Int.not_le, Decidable.not_not] at hg87
                          refine g_step_yes (j := 3) (t := 87) rfl rfl rfl rfl (s_callp rfl rfl rfl (awake18_ok _) ?_)
                          rintro _ rfl
                          refine g_step rfl (s_val (v_pick_t rfl rfl) rfl rfl ?_)
                          refine g_step rfl (s_val (v_assign rfl) rfl rfl ?_)
                          refine g_nil ?_
                          refine g_next hK24 ?_
                          refine g_ret ?_
                          refine g_then_ret ?_
                          refine g_end1 (.inl rfl) Try.results8 (.tmp rfl) [] (ASub.refl _) (AHeap.sub_refl _) (fun p hp => by cases hp) ⟨rfl, ?_⟩
                          rfl
                        · exfalso; (try simp only [decide_eq_true_eq, decide_eq_false_iff_not, Bool.not_eq_true', Bool.not_eq_false', Bool.not_eq_eq_eq_not, Bool.not_true, Bool.not_false, Bool.and_eq_true, Bool.or_eq_true, Bool.or_eq_false_iff, beq_iff_eq, beq_eq_false_iff_ne, ne_eq, Int.not_lt, Int.not_le, Decidable.not_not] at hg87); simp [hcr] at hg87
                      · try simp only [decide_eq_true_eq, decide_eq_false_iff_not, Bool.not_eq_true', Bool.not_eq_false', Bool.not_eq_eq_eq_not, Bool.not_true, Bool.not_false, Bool.and_eq_true, Bool.or_eq_true, Bool.or_eq_false_iff, beq_iff_eq, beq_eq_false_iff_ne, ne_eq, Int.not_lt, Int.not_le, Decidable.not_not] at hc83
                        refine g_skip ?_
                        refine g_next hK21 ?_
                        refine g_seq (fun K25 hK25 => ?_)
                        refine g_region ?_
                        have hcr : chops r l = bare r := chops_heavy l (by rw [← hu]; first | exact .inl (by assumption) | exact .inr ⟨by omega, by rintro rfl; simp at hc83⟩)
                        refine g_step rfl (s_fieldAddr ty28 fo28_5 ty26 rfl rfl ?_)
                        refine g_step rfl (s_val (v_loadl ty26 rfl rfl rfl rfl) rfl rfl ?_)
                        refine g_step rfl (s_val (v_len ty26 rfl (by first | rfl | assumption) (by first | exact List.length_map .. | rfl)) rfl rfl ?_)
                        refine g_step rfl (s_val (v_eql rfl rfl) rfl rfl ?_)
                        refine g_step rfl (s_val (v_move rfl) rfl rfl ?_)
                        refine g_split 94 rfl (fun hg94 => ?_) (fun hg94 => ?_)
                        · try simp only [decide_eq_true_eq, decide_eq_false_iff_not, Bool.not_eq_true', Bool.not_eq_false', Bool.not_eq_eq_eq_not, Bool.not_true, Bool.not_false, Bool.and_eq_true, Bool.or_eq_true, Bool.or_eq_false_iff, beq_iff_eq, beq_eq_false_iff_ne, ne_eq, Int.not_lt, Int.not_le, Decidable.not_not] at hg94
                          refine g_step_yes (j := 4) (t := 94) rfl rfl rfl rfl (s_fieldAddr ty28 fo28_4 ty4 rfl rfl ?_)
                          refine g_step_yes (j := 4) (t := 94) rfl rfl rfl rfl (s_val (v_loadl ty4 rfl rfl rfl rfl) rfl rfl ?_)
                          refine g_step_yes (j := 4) (t := 94) rfl rfl rfl rfl (s_fieldAddr ty28 fo28_4 ty4 rfl rfl ?_)
                          refine g_step_yes (j := 4) (t := 94) rfl rfl rfl rfl (s_val (v_loadl ty4 rfl rfl rfl rfl) rfl rfl ?_)
                          refine g_step_yes (j := 4) (t := 94) rfl rfl rfl rfl (s_val (v_move rfl) rfl rfl ?_)
                          refine g_split 99 rfl (fun hg99 => ?_) (fun hg99 => ?_)
                          · try simp only [decide_eq_true_eq, decide_eq_false_iff_not, Bool.not_eq_true', Bool.not_eq_false', Bool.not_eq_eq_eq_not, Bool.not_true, Bool.not_false, Bool.and_eq_true, Bool.or_eq_true, Bool.or_eq_false_iff, beq_iff_eq, beq_eq_false_iff_ne, ne_eq, Int.not_lt, Int.not_le, Decidable.not_not] at hg99
                            refine g_step_no (j := 9) (t := 99) rfl rfl rfl rfl rfl rfl rfl ?_
                            refine g_step_no (j := 9) (t := 99) rfl rfl rfl rfl rfl rfl rfl ?_
                            refine g_step_no (j := 9) (t := 99) rfl rfl rfl rfl rfl rfl rfl ?_
                            refine g_step_no (j := 9) (t := 99) rfl rfl rfl rfl rfl rfl rfl ?_
                            refine g_step_yes (j := 4) (t := 94) rfl rfl rfl rfl (s_val (v_pick_t rfl rfl) rfl rfl ?_)
                            refine g_step_yes (j := 4) (t := 94) rfl rfl rfl rfl (s_val (v_bool_eql ty4 rfl rfl) rfl rfl ?_)
                            refine g_step rfl (s_val (v_pick_t rfl rfl) rfl rfl ?_)
                            refine g_step rfl (s_val (v_move rfl) rfl rfl ?_)
                            refine g_split 107 rfl (fun hg107 => ?_) (fun hg107 => ?_)
                            · try simp only [decide_eq_true_eq, decide_eq_false_iff_not, Bool.not_eq_true', Bool.not_eq_false', Bool.not_eq_eq_eq_not, Bool.not_true, Bool.not_false, Bool.and_eq_true, Bool.or_eq_true, Bool.or_eq_false_iff, beq_iff_eq, beq_eq_false_iff_ne, ne_eq, Int.not_lt, Int.not_le, Decidable.not_not] at hg107
                              refine g_step_yes (j := 17) (t := 107) rfl rfl rfl rfl (s_callp rfl rfl rfl (awake18_ok _) ?_)
                              rintro _ rfl
                              refine g_step rfl (s_val (v_pick_t rfl rfl) rfl rfl ?_)
                              refine g_step rfl (s_val (v_assign rfl) rfl rfl ?_)
                              refine g_nil ?_
                              refine g_next hK25 ?_
                              first | refine g_keep [4] [] [] (keep_cons rfl keep_nil) lkeep_nil keep_nil rfl ?_ | refine g_keep [4] [] [] rfl rfl rfl rfl ?_
                              refine g_ret ?_
                              refine g_end1 (.inl rfl) Try.results8 (.tmp rfl) [] (ASub.refl _) (AHeap.sub_refl _) (fun p hp => by cases hp) ⟨rfl, ?_⟩
                              rfl
                            · exfalso; (try simp only [decide_eq_true_eq, decide_eq_false_iff_not, Bool.not_eq_true', Bool.not_eq_false', Bool.not_eq_eq_eq_not, Bool.not_true, Bool.not_false, Bool.and_eq_true, Bool.or_eq_true, Bool.or_eq_false_iff, beq_iff_eq, beq_eq_false_iff_ne, ne_eq, Int.not_lt, Int.not_le, Decidable.not_not] at hg107); first | (simp [hcr, bare] at hg107; done) | (simp [hcr, bare] at hg107; simp_all; done) | (simp [hcr, bare] at hg107; simp_all; omega)
                          · try simp only [decide_eq_true_eq, decide_eq_false_iff_not, Bool.not_eq_true', Bool.not_eq_false', Bool.not_eq_eq_eq_not, Bool.not_true, Bool.not_false, Bool.and_eq_true, Bool.or_eq_true, Bool.or_eq_false_iff, beq_iff_eq, beq_eq_false_iff_ne, ne_eq, Int.not_lt, Int.not_le, Decidable.not_not] at hg99
                            refine g_step_yes (j := 9) (t := 99) rfl rfl rfl rfl (s_fieldAddr ty28 fo28_5 ty26 rfl rfl ?_)
                            refine g_step_yes (j := 9) (t := 99) rfl rfl rfl rfl (s_val (v_loadl ty26 rfl rfl rfl rfl) rfl rfl ?_)
                            refine g_step_yes (j := 9) (t := 99) rfl rfl rfl rfl (s_val (v_len ty26 rfl (by first | rfl | assumption) (by first | exact List.length_map .. | rfl)) rfl rfl ?_)
                            refine g_step_yes (j := 9) (t := 99) rfl rfl rfl rfl (s_val (v_gtr rfl rfl) rfl rfl ?_)
                            refine g_step_yes (j := 4) (t := 94) rfl rfl rfl rfl (s_val (v_pick_f rfl rfl) rfl rfl ?_)
                            refine g_step_yes (j := 4) (t := 94) rfl rfl rfl rfl (s_val (v_bool_eql ty4 rfl rfl) rfl rfl ?_)
                            refine g_step rfl (s_val (v_pick_t rfl rfl) rfl rfl ?_)
                            refine g_step rfl (s_val (v_move rfl) rfl rfl ?_)
                            refine g_split 107 rfl (fun hg107 => ?_) (fun hg107 => ?_)
                            · try simp only [decide_eq_true_eq, decide_eq_false_iff_not, Bool.not_eq_true', Bool.not_eq_false', Bool.not_eq_eq_eq_not, Bool.not_true, Bool.not_false, Bool.and_eq_true, Bool.or_eq_true, Bool.or_eq_false_iff, beq_iff_eq, beq_eq_false_iff_ne, ne_eq, Int.not_lt, Int.not_le, Decidable.not_not] at hg107
                              refine g_step_yes (j := 17) (t := 107) rfl rfl rfl rfl (s_callp rfl rfl rfl (awake18_ok _) ?_)
                              rintro _ rfl
                              refine g_step rfl (s_val (v_pick_t rfl rfl) rfl rfl ?_)
                              refine g_step rfl (s_val (v_assign rfl) rfl rfl ?_)
                              refine g_nil ?_
                              refine g_next hK25 ?_
                              first | refine g_keep [4] [] [] (keep_cons rfl keep_nil) lkeep_nil keep_nil rfl ?_ | refine g_keep [4] [] [] rfl rfl rfl rfl ?_
                              refine g_ret ?_
                              refine g_end1 (.inl rfl) Try.results8 (.tmp rfl) [] (ASub.refl _) (AHeap.sub_refl _) (fun p hp => by cases hp) ⟨rfl, ?_⟩
                              rfl
                            · exfalso; (try simp only [decide_eq_true_eq, decide_eq_false_iff_not, Bool.not_eq_true', Bool.not_eq_false', Bool.not_eq_eq_eq_not, Bool.not_true, Bool.not_false, Bool.and_eq_true, Bool.or_eq_true, Bool.or_eq_false_iff, beq_iff_eq, beq_eq_false_iff_ne, ne_eq, Int.not_lt, Int.not_le, Decidable.not_not] at hg107); first | (simp [hcr, bare] at hg107; done) | (simp [hcr, bare] at hg107; simp_all; done) | (simp [hcr, bare] at hg107; simp_all; omega)
                        · exfalso; (try simp only [decide_eq_true_eq, decide_eq_false_iff_not, Bool.not_eq_true', Bool.not_eq_false', Bool.not_eq_eq_eq_not, Bool.not_true, Bool.not_false, Bool.and_eq_true, Bool.or_eq_true, Bool.or_eq_false_iff, beq_iff_eq, beq_eq_false_iff_ne, ne_eq, Int.not_lt, Int.not_le, Decidable.not_not] at hg94); simp [hcr, bare] at hg94
                  · try simp only [decide_eq_true_eq, decide_eq_false_iff_not, Bool.not_eq_true', Bool.not_eq_false', Bool.not_eq_eq_eq_not, Bool.not_true, Bool.not_false, Bool.and_eq_true, Bool.or_eq_true, Bool.or_eq_false_iff, beq_iff_eq, beq_eq_false_iff_ne, ne_eq, Int.not_lt, Int.not_le, Decidable.not_not] at hg74
                    refine g_step_no (j := 2) (t := 74) rfl rfl rfl rfl rfl rfl rfl ?_
                    refine g_step_no (j := 2) (t := 74) rfl rfl rfl rfl rfl rfl rfl ?_
                    refine g_step_no (j := 2) (t := 74) rfl rfl rfl rfl rfl rfl rfl ?_
                    refine g_step rfl (s_val (v_pick_f rfl rfl) rfl rfl ?_)
                    refine g_step rfl (s_val (v_move rfl) rfl rfl ?_)
                    refine g_step_yes (j := 7) (t := 79) rfl rfl rfl rfl (s_val (v_move rfl) rfl rfl ?_)
                    refine g_step_yes (j := 7) (t := 79) rfl rfl rfl rfl (s_val (v_len ty41 rfl (by first | rfl | assumption) (by first | exact List.length_map .. | rfl)) rfl rfl ?_)
                    refine g_step_yes (j := 7) (t := 79) rfl rfl rfl rfl (s_val (v_eql rfl rfl) rfl rfl ?_)
                    refine g_step rfl (s_val (v_pick_f rfl rfl) rfl rfl ?_)
                    refine g_nil ?_
                    refine g_next hK22 ?_
                    refine g_cond rfl (fun hc83 => ?_) (fun hc83 => ?_)
                    · try simp only [decide_eq_true_eq, decide_eq_false_iff_not, Bool.not_eq_true', Bool.not_eq_false', Bool.not_eq_eq_eq_not, Bool.not_true, Bool.not_false, Bool.and_eq_true, Bool.or_eq_true, Bool.or_eq_false_iff, beq_iff_eq, beq_eq_false_iff_ne, ne_eq, Int.not_lt, Int.not_le, Decidable.not_not] at hc83
                      refine g_seq (fun K26 hK26 => ?_)
                      refine g_region ?_
                      have hcr : chops r l = r := by first | exact chops_light l (by rw [← hu]; assumption) (by assumption) | exact chops_nil (by simpa using hc83) | exact chops_nil (List.eq_nil_of_length_eq_zero (by omega))
                      refine g_step rfl (s_val (by first | exact v_loadl_all ty28 rfl rfl rfl rfl rfl | exact v_loadl_part (cs := [_, _, _, _, _, _, _]) ty28 rfl rfl rfl rfl rfl rfl) rfl rfl ?_)
                      refine g_step rfl (s_val (by first | exact v_loadl_all ty28 rfl rfl rfl rfl rfl | exact v_loadl_part (cs := [_, _, _, _, _, _, _]) ty28 rfl rfl rfl rfl rfl rfl) rfl rfl ?_)
                      refine g_step rfl (s_callp rfl rfl rfl (rsame_ok (chops r l) r _ hsc) ?_)
                      rintro _ rfl
                      refine g_step rfl (s_val (v_move rfl) rfl rfl ?_)
                      refine g_split 87 rfl (fun hg87 => ?_) (fun hg87 => ?_)
                      · try simp only [decide_eq_true_eq, decide_eq_false_iff_not, Bool.not_eq_true', Bool.not_eq_false', Bool.not_eq_eq_eq_not, Bool.not_true, Bool.not_false, Bool.and_eq_true, Bool.or_eq_true, Bool.or_eq_false_iff, beq_iff_eq, beq_eq_false_iff_ne, ne_eq, Int.not_lt, Int.not_le, Decidable.not_not] at hg87
                        refine g_step_yes (j := 3) (t := 87) rfl rfl rfl rfl (s_callp rfl rfl rfl (awake18_ok _) ?_)
                        rintro _ rfl
                        refine g_step rfl (s_val (v_pick_t rfl rfl) rfl rfl ?_)
                        refine g_step rfl (s_val (v_assign rfl) rfl rfl ?_)
                        refine g_nil ?_
                        refine g_next hK26 ?_
                        refine g_ret ?_
                        refine g_then_ret ?_
                        refine g_end1 (.inl rfl) Try.results8 (.tmp rfl) [] (ASub.refl _) (AHeap.sub_refl _) (fun p hp => by cases hp) ⟨rfl, ?_⟩
                        rfl
                      · exfalso; (try simp only [decide_eq_true_eq, decide_eq_false_iff_not, Bool.not_eq_true', Bool.not_eq_false', Bool.not_eq_eq_eq_not, Bool.not_true, Bool.not_false, Bool.and_eq_true, Bool.or_eq_true, Bool.or_eq_false_iff, beq_iff_eq, beq_eq_false_iff_ne, ne_eq, Int.not_lt, Int.not_le, Decidable.not_not] at hg87); simp [hcr] at hg87
                    · try simp only [decide_eq_true_eq, decide_eq_false_iff_not, Bool.not_eq_true', Bool.not_eq_false', Bool.not_eq_eq_eq_not, Bool.not_true, Bool.not_false, Bool.and_eq_true, Bool.or_eq_true, Bool.or_eq_false_iff, beq_iff_eq, beq_eq_false_iff_ne, ne_eq, Int.not_lt, Int.not_le, Decidable.not_not] at hc83
                      refine g_skip ?_
                      refine g_next hK21 ?_
                      refine g_seq (fun K27 hK27 => ?_)
                      refine g_region ?_
                      have hcr : chops r l = bare r := chops_heavy l (by rw [← hu]; first | exact .inl (by assumption) | exact .inr ⟨by omega, by rintro rfl; simp at hc83⟩)
                      refine g_step rfl (s_fieldAddr ty28 fo28_5 ty26 rfl rfl ?_)
                      refine g_step rfl (s_val (v_loadl ty26 rfl rfl rfl rfl) rfl rfl ?_)
                      refine g_step rfl (s_val (v_len ty26 rfl (by first | rfl | assumption) (by first | exact List.length_map .. | rfl)) rfl rfl ?_)
                      refine g_step rfl (s_val (v_eql rfl rfl) rfl rfl ?_)
                      refine g_step rfl (s_val (v_move rfl) rfl rfl ?_)
                      refine g_split 94 rfl (fun hg94 => ?_) (fun hg94 => ?_)
                      · try simp only [decide_eq_true_eq, decide_eq_false_iff_not, Bool.not_eq_true', Bool.not_eq_false', Bool.not_eq_eq_eq_not, Bool.not_true, Bool.not_false, Bool.and_eq_true, Bool.or_eq_true, Bool.or_eq_false_iff, beq_iff_eq, beq_eq_false_iff_ne, ne_eq, Int.not_lt, Int.not_le, Decidable.not_not] at hg94
                        refine g_step_yes (j := 4) (t := 94) rfl rfl rfl rfl (s_fieldAddr ty28 fo28_4 ty4 rfl rfl ?_)
                        refine g_step_yes (j := 4) (t := 94) rfl rfl rfl rfl (s_val (v_loadl ty4 rfl rfl rfl rfl) rfl rfl ?_)
                        refine g_step_yes (j := 4) (t := 94) rfl rfl rfl rfl (s_fieldAddr ty28 fo28_4 ty4 rfl rfl ?_)
                        refine g_step_yes (j := 4) (t := 94) rfl rfl rfl rfl (s_val (v_loadl ty4 rfl rfl rfl rfl) rfl rfl ?_)
                        refine g_step_yes (j := 4) (t := 94) rfl rfl rfl rfl (s_val (v_move rfl) rfl rfl ?_)
                        refine g_split 99 rfl (fun hg99 => ?_) (fun hg99 => ?_)
                        · try simp only [decide_eq_true_eq, decide_eq_false_iff_not, Bool.not_eq_true', Bool.not_eq_false', Bool.not_eq_eq_eq_not, Bool.not_true, Bool.not_false, Bool.and_eq_true, Bool.or_eq_true, Bool.or_eq_false_iff, beq_iff_eq, beq_eq_false_iff_ne, ne_eq, Int.not_lt, Int.not_le, Decidable.not_not] at hg99
                          refine g_step_no (j := 9) (t := 99) rfl rfl rfl rfl rfl rfl rfl ?_
                          refine g_step_no (j := 9) (t := 99) rfl rfl rfl rfl rfl rfl rfl ?_
                          refine g_step_no (j := 9) (t := 99) rfl rfl rfl rfl rfl rfl rfl ?_
                          refine g_step_no (j := 9) (t := 99) rfl rfl rfl rfl rfl rfl rfl ?_
                          refine g_step_yes (j := 4) (t := 94) rfl rfl rfl rfl (s_val (v_pick_t rfl rfl) rfl rfl ?_)
                          refine g_step_yes (j := 4) (t := 94) rfl rfl rfl rfl (s_val (v_bool_eql ty4 rfl rfl) rfl rfl ?_)
                          refine g_step rfl (s_val (v_pick_t rfl rfl) rfl rfl ?_)
                          refine g_step rfl (s_val (v_move rfl) rfl rfl ?_)
                          refine g_split 107 rfl (fun hg107 => ?_) (fun hg107 => ?_)
                          · try simp only [decide_eq_true_eq, decide_eq_false_iff_not, Bool.not_eq_true', Bool.not_eq_false', Bool.not_eq_eq_eq_not, Bool.not_true, Bool.not_false, Bool.and_eq_true, Bool.or_eq_true, Bool.or_eq_false_iff, beq_iff_eq, beq_eq_false_iff_ne, ne_eq, Int.not_lt, Int.not_le, Decidable.not_not] at hg107
                            refine g_step_yes (j := 17) (t := 107) rfl rfl rfl rfl (s_callp rfl rfl rfl (awake18_ok _) ?_)
                            rintro _ rfl
                            refine g_step rfl (s_val (v_pick_t rfl rfl) rfl rfl ?_)
                            refine g_step rfl (s_val (v_assign rfl) rfl rfl ?_)
                            refine g_nil ?_
                            refine g_next hK27 ?_
                            first | refine g_keep [4] [] [] (keep_cons rfl keep_nil) lkeep_nil keep_nil rfl ?_ | refine g_keep [4] [] [] rfl rfl rfl rfl ?_
                            refine g_ret ?_
                            refine g_end1 (.inl rfl) Try.results8 (.tmp rfl) [] (ASub.refl _) (AHeap.sub_refl _) (fun p hp => by cases hp) ⟨rfl, ?_⟩
                            rfl
                          · exfalso; (try simp only [decide_eq_true_eq, decide_eq_false_iff_not, Bool.not_eq_true', Bool.not_eq_false', Bool.not_eq_eq_eq_not, Bool.not_true, Bool.not_false, Bool.and_eq_true, Bool.or_eq_true, Bool.or_eq_false_iff, beq_iff_eq, beq_eq_false_iff_ne, ne_eq, Int.not_lt, Int.not_le, Decidable.not_not] at hg107); first | (simp [hcr, bare] at hg107; done) | (simp [hcr, bare] at hg107; simp_all; done) | (simp [hcr, bare] at hg107; simp_all; omega)
                        · try simp only [decide_eq_true_eq, decide_eq_false_iff_not, Bool.not_eq_true', Bool.not_eq_false', Bool.not_eq_eq_eq_not, Bool.not_true, Bool.not_false, Bool.and_eq_true, Bool.or_eq_true, Bool.or_eq_false_iff, beq_iff_eq, beq_eq_false_iff_ne, ne_eq, Int.not_lt, Int.not_le, Decidable.not_not] at hg99
                          refine g_step_yes (j := 9) (t := 99) rfl rfl rfl rfl (s_fieldAddr ty28 fo28_5 ty26 rfl rfl ?_)
                          refine g_step_yes (j := 9) (t := 99) rfl rfl rfl rfl (s_val (v_loadl ty26 rfl rfl rfl rfl) rfl rfl ?_)
                          refine g_step_yes (j := 9) (t := 99) rfl rfl rfl rfl (s_val (v_len ty26 rfl (by first | rfl | assumption) (by first | exact List.length_map .. | rfl)) rfl rfl ?_)
                          refine g_step_yes (j := 9) (t := 99) rfl rfl rfl rfl (s_val (v_gtr rfl rfl) rfl rfl ?_)
                          refine g_step_yes (j := 4) (t := 94) rfl rfl rfl rfl (s_val (v_pick_f rfl rfl) rfl rfl ?_)
                          refine g_step_yes (j := 4) (t := 94) rfl rfl rfl rfl (s_val (v_bool_eql ty4 rfl rfl) rfl rfl ?_)
                          refine g_step rfl (s_val (v_pick_t rfl rfl) rfl rfl ?_)
                          refine g_step rfl (s_val (v_move rfl) rfl rfl ?_)
                          refine g_split 107 rfl (fun hg107 => ?_) (fun hg107 => ?_)
                          · try simp only [decide_eq_true_eq, decide_eq_false_iff_not, Bool.not_eq_true', Bool.not_eq_false', Bool.not_eq_eq_eq_not, Bool.not_true, Bool.not_false, Bool.and_eq_true, Bool.or_eq_true, Bool.or_eq_false_iff, beq_iff_eq, beq_eq_false_iff_ne, ne_eq, Int.not_lt, Int.not_le, Decidable.not_not] at hg107
                            refine g_step_yes (j := 17) (t := 107) rfl rfl rfl rfl (s_callp rfl rfl rfl (awake18_ok _) ?_)
                            rintro _ rfl
                            refine g_step rfl (s_val (v_pick_t rfl rfl) rfl rfl ?_)
                            refine g_step rfl (s_val (v_assign rfl) rfl rfl ?_)
                            refine g_nil ?_
                            refine g_next hK27 ?_
                            first | refine g_keep [4] [] [] (keep_cons rfl keep_nil) lkeep_nil keep_nil rfl ?_ | refine g_keep [4] [] [] rfl rfl rfl rfl ?_
                            refine g_ret ?_
                            refine g_end1 (.inl rfl) Try.results8 (.tmp rfl) [] (ASub.refl _) (AHeap.sub_refl _) (fun p hp => by cases hp) ⟨rfl, ?_⟩
                            rfl
                          · exfalso; (try simp only [decide_eq_true_eq, decide_eq_false_iff_not, Bool.not_eq_true', Bool.not_eq_false', Bool.not_eq_eq_eq_not, Bool.not_true, Bool.not_false, Bool.and_eq_true, Bool.or_eq_true, Bool.or_eq_false_iff, beq_iff_eq, beq_eq_false_iff_ne, ne_eq, Int.not_lt, Int.not_le, Decidable.not_not] at hg107); first | (simp [hcr, bare] at hg107; done) | (simp [hcr, bare] at hg107; simp_all; done) | (simp [hcr, bare] at hg107; simp_all; omega)
                      · exfalso; (try simp only [decide_eq_true_eq, decide_eq_false_iff_not, Bool.not_eq_true', Bool.not_eq_false', Bool.not_eq_eq_eq_not, Bool.not_true, Bool.not_false, Bool.and_eq_true, Bool.or_eq_true, Bool.or_eq_false_iff, beq_iff_eq, beq_eq_false_iff_ne, ne_eq, Int.not_lt, Int.not_le, Decidable.not_not] at hg94); simp [hcr, bare] at hg94

end Go.Proofs.Ytnkcofpkmnohkaa

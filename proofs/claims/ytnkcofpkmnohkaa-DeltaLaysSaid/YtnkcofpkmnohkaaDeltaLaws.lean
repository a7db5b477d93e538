import Derived.Test.YtnkcofpkmnohkaaDelta
set_option maxHeartbeats 8000000
set_option linter.unusedSimpArgs false
set_option linter.unusedVariables false
set_option maxRecDepth 100000
namespace Go.Proofs.Ytnkcofpkmnohkaa
open Go Go.Proofs.Ytnkcofpkmnohkaa.AM
theorem awake14_ok (G : AHeap) : PCalls Try.prog 40 [] G (fun v => v = .bool true) := by
  refine LCalls.intro 76 fi40 rfl Try.ntmps40 rfl (fun _ h => h.elim) (fun H hH w0 hw0 => ?_)
  refine g_seq (fun K0 hK0 => ?_)
  refine g_region ?_
  refine g_step rfl (s_val (v_assign rfl) rfl rfl ?_)
  refine g_nil ?_
  refine g_next hK0 ?_
  refine g_seq (fun K1 hK1 => ?_)
  refine g_region ?_
  refine g_step rfl (s_val (v_sub (b := (encSp ⟨1, 1⟩)) (v_build (vs := [(0, _), (1, _)]) (zs := [(.int .i64 0), (.int .i64 0)]) (cells := [_, _]) ty25 pl25 rfl rfl rfl) (ASub.of_wk rfl)) rfl rfl ?_)
  refine g_step rfl (s_alloc (av := (.agg [(.int .i64 0), (.int .i64 0)])) ty25 rfl rfl rfl rfl ?_)
  refine g_step rfl (s_store_all ty25 rfl rfl rfl rfl rfl rfl ?_)
  refine g_nil ?_
  refine g_next hK1 ?_
  refine g_seq (fun K2 hK2 => ?_)
  refine g_region ?_
  refine g_step rfl (s_val (by first | exact v_loadl_all ty25 rfl rfl rfl rfl rfl | exact v_loadl_part (cs := [_, _]) ty25 rfl rfl rfl rfl rfl rfl) rfl rfl ?_)
  refine g_step rfl (s_val (v_sub (b := (encR ⟨1, 0, 0, ⟨1, 1⟩, false, []⟩)) (v_build (vs := [(0, _), (3, _)]) (zs := [(.int .i64 0), (.int .i64 0), (.int .i64 0), (.int .i64 0), (.int .i64 0), (.bool false), .nil0]) (cells := [_, _, _, _, _, _, _]) ty28 pl28 rfl rfl rfl) (ASub.of_wk rfl)) rfl rfl ?_)
  refine g_step rfl (s_val (by first | exact v_loadl_all ty25 rfl rfl rfl rfl rfl | exact v_loadl_part (cs := [_, _]) ty25 rfl rfl rfl rfl rfl rfl) rfl rfl ?_)
  refine g_step rfl (s_val (v_sub (b := (encR ⟨2, 0, 0, ⟨1, 1⟩, false, []⟩)) (v_build (vs := [(0, _), (3, _)]) (zs := [(.int .i64 0), (.int .i64 0), (.int .i64 0), (.int .i64 0), (.int .i64 0), (.bool false), .nil0]) (cells := [_, _, _, _, _, _, _]) ty28 pl28 rfl rfl rfl) (ASub.of_wk rfl)) rfl rfl ?_)
  refine g_step rfl (s_lit ty23 ty28 rfl rfl rfl rfl rfl rfl rfl ?_)
  refine g_step rfl (s_val (by first | exact v_loadl_all ty25 rfl rfl rfl rfl rfl | exact v_loadl_part (cs := [_, _]) ty25 rfl rfl rfl rfl rfl rfl) rfl rfl ?_)
  refine g_step rfl (s_val (v_sub (b := (encR ⟨1, 0, 0, ⟨1, 1⟩, false, []⟩)) (v_build (vs := [(0, _), (3, _)]) (zs := [(.int .i64 0), (.int .i64 0), (.int .i64 0), (.int .i64 0), (.int .i64 0), (.bool false), .nil0]) (cells := [_, _, _, _, _, _, _]) ty28 pl28 rfl rfl rfl) (ASub.of_wk rfl)) rfl rfl ?_)
  refine g_step rfl (s_val (by first | exact v_loadl_all ty25 rfl rfl rfl rfl rfl | exact v_loadl_part (cs := [_, _]) ty25 rfl rfl rfl rfl rfl rfl) rfl rfl ?_)
  refine g_step rfl (s_val (v_sub (b := (encR ⟨2, 1, 0, ⟨1, 1⟩, false, []⟩)) (v_build (vs := [(0, _), (1, _), (3, _)]) (zs := [(.int .i64 0), (.int .i64 0), (.int .i64 0), (.int .i64 0), (.int .i64 0), (.bool false), .nil0]) (cells := [_, _, _, _, _, _, _]) ty28 pl28 rfl rfl rfl) (ASub.of_wk rfl)) rfl rfl ?_)
  refine g_step rfl (s_val (by first | exact v_loadl_all ty25 rfl rfl rfl rfl rfl | exact v_loadl_part (cs := [_, _]) ty25 rfl rfl rfl rfl rfl rfl) rfl rfl ?_)
  refine g_step rfl (s_val (v_sub (b := (encR ⟨3, 0, 0, ⟨1, 1⟩, false, []⟩)) (v_build (vs := [(0, _), (3, _)]) (zs := [(.int .i64 0), (.int .i64 0), (.int .i64 0), (.int .i64 0), (.int .i64 0), (.bool false), .nil0]) (cells := [_, _, _, _, _, _, _]) ty28 pl28 rfl rfl rfl) (ASub.of_wk rfl)) rfl rfl ?_)
  refine g_step rfl (s_lit ty23 ty28 rfl rfl rfl rfl rfl rfl rfl ?_)
  refine g_step rfl (s_callp rfl rfl rfl (ddiff_ok [⟨1, 0, 0, ⟨1, 1⟩, false, []⟩, ⟨2, 0, 0, ⟨1, 1⟩, false, []⟩] [⟨1, 0, 0, ⟨1, 1⟩, false, []⟩, ⟨2, 1, 0, ⟨1, 1⟩, false, []⟩, ⟨3, 0, 0, ⟨1, 1⟩, false, []⟩] _ (by simp) (by simp) (by simp [Small, bsize]) (by simp [Small, bsize])) ?_)
  rintro _ rfl
  rw [show (if (srt ([⟨1, 0, 0, ⟨1, 1⟩, false, []⟩, ⟨2, 0, 0, ⟨1, 1⟩, false, []⟩] : List Rc) && srt ([⟨1, 0, 0, ⟨1, 1⟩, false, []⟩, ⟨2, 1, 0, ⟨1, 1⟩, false, []⟩, ⟨3, 0, 0, ⟨1, 1⟩, false, []⟩] : List Rc)) = true then diffL [⟨1, 0, 0, ⟨1, 1⟩, false, []⟩, ⟨2, 0, 0, ⟨1, 1⟩, false, []⟩] [⟨1, 0, 0, ⟨1, 1⟩, false, []⟩, ⟨2, 1, 0, ⟨1, 1⟩, false, []⟩, ⟨3, 0, 0, ⟨1, 1⟩, false, []⟩] else []) = [⟨2, 1, 0, ⟨1, 1⟩, false, []⟩, ⟨3, 0, 0, ⟨1, 1⟩, false, []⟩] from by decide, show (srt ([⟨1, 0, 0, ⟨1, 1⟩, false, []⟩, ⟨2, 0, 0, ⟨1, 1⟩, false, []⟩] : List Rc) && srt ([⟨1, 0, 0, ⟨1, 1⟩, false, []⟩, ⟨2, 1, 0, ⟨1, 1⟩, false, []⟩, ⟨3, 0, 0, ⟨1, 1⟩, false, []⟩] : List Rc)) = true from by decide]
  refine g_step rfl (s_val (v_move rfl) rfl rfl ?_)
  refine g_step rfl (s_val (v_extract rfl rfl) rfl rfl ?_)
  refine g_step rfl (s_val (v_extract rfl rfl) rfl rfl ?_)
  refine g_step rfl (s_val (v_assign rfl) rfl rfl ?_)
  refine g_step rfl (s_val (v_assign rfl) rfl rfl ?_)
  refine g_nil ?_
  refine g_next hK2 ?_
  refine g_seq (fun K3 hK3 => ?_)
  refine g_region ?_
  refine g_step rfl (s_val (by first | exact v_loadl_all ty25 rfl rfl rfl rfl rfl | exact v_loadl_part (cs := [_, _]) ty25 rfl rfl rfl rfl rfl rfl) rfl rfl ?_)
  refine g_step rfl (s_val (v_sub (b := (encR ⟨1, 0, 0, ⟨1, 1⟩, false, []⟩)) (v_build (vs := [(0, _), (3, _)]) (zs := [(.int .i64 0), (.int .i64 0), (.int .i64 0), (.int .i64 0), (.int .i64 0), (.bool false), .nil0]) (cells := [_, _, _, _, _, _, _]) ty28 pl28 rfl rfl rfl) (ASub.of_wk rfl)) rfl rfl ?_)
  refine g_step rfl (s_val (by first | exact v_loadl_all ty25 rfl rfl rfl rfl rfl | exact v_loadl_part (cs := [_, _]) ty25 rfl rfl rfl rfl rfl rfl) rfl rfl ?_)
  refine g_step rfl (s_val (v_sub (b := (encR ⟨2, 0, 0, ⟨1, 1⟩, false, []⟩)) (v_build (vs := [(0, _), (3, _)]) (zs := [(.int .i64 0), (.int .i64 0), (.int .i64 0), (.int .i64 0), (.int .i64 0), (.bool false), .nil0]) (cells := [_, _, _, _, _, _, _]) ty28 pl28 rfl rfl rfl) (ASub.of_wk rfl)) rfl rfl ?_)
  refine g_step rfl (s_lit ty23 ty28 rfl rfl rfl rfl rfl rfl rfl ?_)
  refine g_step rfl (s_val (by first | exact v_loadl_all ty25 rfl rfl rfl rfl rfl | exact v_loadl_part (cs := [_, _]) ty25 rfl rfl rfl rfl rfl rfl) rfl rfl ?_)
  refine g_step rfl (s_val (v_sub (b := (encR ⟨2, 0, 0, ⟨1, 1⟩, false, []⟩)) (v_build (vs := [(0, _), (3, _)]) (zs := [(.int .i64 0), (.int .i64 0), (.int .i64 0), (.int .i64 0), (.int .i64 0), (.bool false), .nil0]) (cells := [_, _, _, _, _, _, _]) ty28 pl28 rfl rfl rfl) (ASub.of_wk rfl)) rfl rfl ?_)
  refine g_step rfl (s_lit ty23 ty28 rfl rfl rfl rfl rfl rfl rfl ?_)
  refine g_step rfl (s_callp rfl rfl rfl (dgone_ok [⟨1, 0, 0, ⟨1, 1⟩, false, []⟩, ⟨2, 0, 0, ⟨1, 1⟩, false, []⟩] [⟨2, 0, 0, ⟨1, 1⟩, false, []⟩] _ (by simp) (by simp) (by simp [Small, bsize]) (by simp [Small, bsize])) ?_)
  rintro _ rfl
  rw [show (if (srt ([⟨1, 0, 0, ⟨1, 1⟩, false, []⟩, ⟨2, 0, 0, ⟨1, 1⟩, false, []⟩] : List Rc) && srt ([⟨2, 0, 0, ⟨1, 1⟩, false, []⟩] : List Rc)) = true then goneL [⟨1, 0, 0, ⟨1, 1⟩, false, []⟩, ⟨2, 0, 0, ⟨1, 1⟩, false, []⟩] [⟨2, 0, 0, ⟨1, 1⟩, false, []⟩] else []) = [1] from by decide, show (srt ([⟨1, 0, 0, ⟨1, 1⟩, false, []⟩, ⟨2, 0, 0, ⟨1, 1⟩, false, []⟩] : List Rc) && srt ([⟨2, 0, 0, ⟨1, 1⟩, false, []⟩] : List Rc)) = true from by decide]
  refine g_step rfl (s_val (v_move rfl) rfl rfl ?_)
  refine g_step rfl (s_val (v_extract rfl rfl) rfl rfl ?_)
  refine g_step rfl (s_val (v_extract rfl rfl) rfl rfl ?_)
  refine g_step rfl (s_val (v_assign rfl) rfl rfl ?_)
  refine g_step rfl (s_val (v_assign rfl) rfl rfl ?_)
  refine g_nil ?_
  refine g_next hK3 ?_
  first | refine g_keep [2, 3, 4, 5] [] [] (keep_cons rfl (keep_cons rfl (keep_cons rfl (keep_cons rfl keep_nil)))) lkeep_nil keep_nil rfl ?_ | refine g_keep [2, 3, 4, 5] [] [] rfl rfl rfl rfl ?_
  refine g_seq (fun K4 hK4 => ?_)
  refine g_region ?_
  refine g_step rfl (s_val (v_move rfl) rfl rfl ?_)
  refine g_step rfl (s_val (v_move rfl) rfl rfl ?_)
  refine g_split 36 rfl (fun hg36 => ?_) (fun hg36 => ?_)
  · try simp only [decide_eq_true_eq, decide_eq_false_iff_not, Bool.not_eq_true', Bool.not_eq_false', Bool.not_eq_eq_eq_not, Bool.not_true, Bool.not_false, Bool.and_eq_true, Bool.or_eq_true, Bool.or_eq_false_iff, beq_iff_eq, beq_eq_false_iff_ne, ne_eq, Int.not_lt, Int.not_le, Decidable.not_not] at hg36
    refine g_step_yes (j := 1) (t := 36) rfl rfl rfl rfl (s_val (v_move rfl) rfl rfl ?_)
    refine g_step_yes (j := 1) (t := 36) rfl rfl rfl rfl (s_val (v_len ty23 rfl (by first | rfl | assumption) (by first | exact List.length_map .. | rfl)) rfl rfl ?_)
    refine g_step_yes (j := 1) (t := 36) rfl rfl rfl rfl (s_val (v_eql rfl rfl) rfl rfl ?_)
    refine g_step rfl (s_val (v_pick_t rfl rfl) rfl rfl ?_)
    refine g_step rfl (s_val (v_move rfl) rfl rfl ?_)
    refine g_split 41 rfl (fun hg41 => ?_) (fun hg41 => ?_)
    · try simp only [decide_eq_true_eq, decide_eq_false_iff_not, Bool.not_eq_true', Bool.not_eq_false', Bool.not_eq_eq_eq_not, Bool.not_true, Bool.not_false, Bool.and_eq_true, Bool.or_eq_true, Bool.or_eq_false_iff, beq_iff_eq, beq_eq_false_iff_ne, ne_eq, Int.not_lt, Int.not_le, Decidable.not_not] at hg41
      refine g_step_yes (j := 6) (t := 41) rfl rfl rfl rfl (s_val (v_move rfl) rfl rfl ?_)
      refine g_step_yes (j := 6) (t := 41) rfl rfl rfl rfl (s_val (v_indexAddr ty23 ty28 rfl rfl (by first | rfl | assumption) (by first | rfl | exact (rfl : (0 : Int) = ((0 : Nat) : Int)) | exact (Int.toNat_of_nonneg (by omega)).symm) (by first | assumption | exact map_get (by assumption) | rfl) rfl) rfl rfl ?_)
      refine g_step_yes (j := 6) (t := 41) rfl rfl rfl rfl (s_val (by first | exact v_fieldAddr ty28 fo28_0 ty3 rfl | exact v_fieldAddr_box ty28 fo28_0 ty3 rfl) rfl rfl ?_)
      refine g_step_yes (j := 6) (t := 41) rfl rfl rfl rfl (s_val (by first | exact v_load ty3 rfl rfl (by first | rfl | assumption) (by first | assumption | exact map_get (by assumption) | rfl) rfl | exact v_load_box ty3 rfl rfl (by assumption) rfl) rfl rfl ?_)
      refine g_step_yes (j := 6) (t := 41) rfl rfl rfl rfl (s_val (v_eql rfl rfl) rfl rfl ?_)
      refine g_step rfl (s_val (v_pick_t rfl rfl) rfl rfl ?_)
      refine g_step rfl (s_val (v_move rfl) rfl rfl ?_)
      refine g_split 48 rfl (fun hg48 => ?_) (fun hg48 => ?_)
      · try simp only [decide_eq_true_eq, decide_eq_false_iff_not, Bool.not_eq_true', Bool.not_eq_false', Bool.not_eq_eq_eq_not, Bool.not_true, Bool.not_false, Bool.and_eq_true, Bool.or_eq_true, Bool.or_eq_false_iff, beq_iff_eq, beq_eq_false_iff_ne, ne_eq, Int.not_lt, Int.not_le, Decidable.not_not] at hg48
        refine g_step_yes (j := 13) (t := 48) rfl rfl rfl rfl (s_val (v_move rfl) rfl rfl ?_)
        refine g_step_yes (j := 13) (t := 48) rfl rfl rfl rfl (s_val (v_indexAddr ty23 ty28 rfl rfl (by first | rfl | assumption) (by first | rfl | exact (rfl : (0 : Int) = ((0 : Nat) : Int)) | exact (Int.toNat_of_nonneg (by omega)).symm) (by first | assumption | exact map_get (by assumption) | rfl) rfl) rfl rfl ?_)
        refine g_step_yes (j := 13) (t := 48) rfl rfl rfl rfl (s_val (by first | exact v_fieldAddr ty28 fo28_1 ty3 rfl | exact v_fieldAddr_box ty28 fo28_1 ty3 rfl) rfl rfl ?_)
        refine g_step_yes (j := 13) (t := 48) rfl rfl rfl rfl (s_val (by first | exact v_load ty3 rfl rfl (by first | rfl | assumption) (by first | assumption | exact map_get (by assumption) | rfl) rfl | exact v_load_box ty3 rfl rfl (by assumption) rfl) rfl rfl ?_)
        refine g_step_yes (j := 13) (t := 48) rfl rfl rfl rfl (s_val (v_eql rfl rfl) rfl rfl ?_)
        refine g_step rfl (s_val (v_pick_t rfl rfl) rfl rfl ?_)
        refine g_step rfl (s_val (v_move rfl) rfl rfl ?_)
        refine g_split 55 rfl (fun hg55 => ?_) (fun hg55 => ?_)
        · try simp only [decide_eq_true_eq, decide_eq_false_iff_not, Bool.not_eq_true', Bool.not_eq_false', Bool.not_eq_eq_eq_not, Bool.not_true, Bool.not_false, Bool.and_eq_true, Bool.or_eq_true, Bool.or_eq_false_iff, beq_iff_eq, beq_eq_false_iff_ne, ne_eq, Int.not_lt, Int.not_le, Decidable.not_not] at hg55
          refine g_step_yes (j := 20) (t := 55) rfl rfl rfl rfl (s_val (v_move rfl) rfl rfl ?_)
          refine g_step_yes (j := 20) (t := 55) rfl rfl rfl rfl (s_val (v_indexAddr ty23 ty28 rfl rfl (by first | rfl | assumption) (by first | rfl | exact (rfl : (0 : Int) = ((0 : Nat) : Int)) | exact (Int.toNat_of_nonneg (by omega)).symm) (by first | assumption | exact map_get (by assumption) | rfl) rfl) rfl rfl ?_)
          refine g_step_yes (j := 20) (t := 55) rfl rfl rfl rfl (s_val (by first | exact v_fieldAddr ty28 fo28_0 ty3 rfl | exact v_fieldAddr_box ty28 fo28_0 ty3 rfl) rfl rfl ?_)
          refine g_step_yes (j := 20) (t := 55) rfl rfl rfl rfl (s_val (by first | exact v_load ty3 rfl rfl (by first | rfl | assumption) (by first | assumption | exact map_get (by assumption) | rfl) rfl | exact v_load_box ty3 rfl rfl (by assumption) rfl) rfl rfl ?_)
          refine g_step_yes (j := 20) (t := 55) rfl rfl rfl rfl (s_val (v_eql rfl rfl) rfl rfl ?_)
          refine g_step rfl (s_val (v_pick_t rfl rfl) rfl rfl ?_)
          refine g_step rfl (s_val (v_move rfl) rfl rfl ?_)
          refine g_split 62 rfl (fun hg62 => ?_) (fun hg62 => ?_)
          · try simp only [decide_eq_true_eq, decide_eq_false_iff_not, Bool.not_eq_true', Bool.not_eq_false', Bool.not_eq_eq_eq_not, Bool.not_true, Bool.not_false, Bool.and_eq_true, Bool.or_eq_true, Bool.or_eq_false_iff, beq_iff_eq, beq_eq_false_iff_ne, ne_eq, Int.not_lt, Int.not_le, Decidable.not_not] at hg62
            refine g_step_yes (j := 27) (t := 62) rfl rfl rfl rfl (s_val (v_move rfl) rfl rfl ?_)
            refine g_step rfl (s_val (v_pick_t rfl rfl) rfl rfl ?_)
            refine g_step rfl (s_val (v_move rfl) rfl rfl ?_)
            refine g_split 65 rfl (fun hg65 => ?_) (fun hg65 => ?_)
            · try simp only [decide_eq_true_eq, decide_eq_false_iff_not, Bool.not_eq_true', Bool.not_eq_false', Bool.not_eq_eq_eq_not, Bool.not_true, Bool.not_false, Bool.and_eq_true, Bool.or_eq_true, Bool.or_eq_false_iff, beq_iff_eq, beq_eq_false_iff_ne, ne_eq, Int.not_lt, Int.not_le, Decidable.not_not] at hg65
              refine g_step_yes (j := 30) (t := 65) rfl rfl rfl rfl (s_val (v_move rfl) rfl rfl ?_)
              refine g_step_yes (j := 30) (t := 65) rfl rfl rfl rfl (s_val (v_len ty41 rfl (by first | rfl | assumption) (by first | exact List.length_map .. | rfl)) rfl rfl ?_)
              refine g_step_yes (j := 30) (t := 65) rfl rfl rfl rfl (s_val (v_eql rfl rfl) rfl rfl ?_)
              refine g_step rfl (s_val (v_pick_t rfl rfl) rfl rfl ?_)
              refine g_step rfl (s_val (v_move rfl) rfl rfl ?_)
              refine g_split 70 rfl (fun hg70 => ?_) (fun hg70 => ?_)
              · try simp only [decide_eq_true_eq, decide_eq_false_iff_not, Bool.not_eq_true', Bool.not_eq_false', Bool.not_eq_eq_eq_not, Bool.not_true, Bool.not_false, Bool.and_eq_true, Bool.or_eq_true, Bool.or_eq_false_iff, beq_iff_eq, beq_eq_false_iff_ne, ne_eq, Int.not_lt, Int.not_le, Decidable.not_not] at hg70
                refine g_step_yes (j := 35) (t := 70) rfl rfl rfl rfl (s_val (v_move rfl) rfl rfl ?_)
                refine g_step_yes (j := 35) (t := 70) rfl rfl rfl rfl (s_val (v_indexAddr ty41 ty3 rfl rfl (by first | rfl | assumption) (by first | rfl | exact (rfl : (0 : Int) = ((0 : Nat) : Int)) | exact (Int.toNat_of_nonneg (by omega)).symm) (by first | assumption | exact map_get (by assumption) | rfl) rfl) rfl rfl ?_)
                refine g_step_yes (j := 35) (t := 70) rfl rfl rfl rfl (s_val (by first | exact v_load ty3 rfl rfl (by first | rfl | assumption) (by first | assumption | exact map_get (by assumption) | rfl) rfl | exact v_load_box ty3 rfl rfl (by assumption) rfl) rfl rfl ?_)
                refine g_step_yes (j := 35) (t := 70) rfl rfl rfl rfl (s_val (v_eql rfl rfl) rfl rfl ?_)
                refine g_step rfl (s_val (v_pick_t rfl rfl) rfl rfl ?_)
                refine g_step rfl (s_val (v_assign rfl) rfl rfl ?_)
                refine g_nil ?_
                refine g_next hK4 ?_
                first | refine g_keep [0] [] [] (keep_cons rfl keep_nil) lkeep_nil keep_nil rfl ?_ | refine g_keep [0] [] [] rfl rfl rfl rfl ?_
                refine g_ret ?_
                refine g_end1 (.inl rfl) Try.results40 (.tmp rfl) [] (ASub.refl _) (AHeap.sub_refl _) (fun p hp => by cases hp) ⟨rfl, ?_⟩
                rfl
              · exfalso; (try simp only [decide_eq_true_eq, decide_eq_false_iff_not, Bool.not_eq_true', Bool.not_eq_false', Bool.not_eq_eq_eq_not, Bool.not_true, Bool.not_false, Bool.and_eq_true, Bool.or_eq_true, Bool.or_eq_false_iff, beq_iff_eq, beq_eq_false_iff_ne, ne_eq, Int.not_lt, Int.not_le, Decidable.not_not] at hg70); revert hg70; decide
            · exfalso; (try simp only [decide_eq_true_eq, decide_eq_false_iff_not, Bool.not_eq_true', Bool.not_eq_false', Bool.not_eq_eq_eq_not, Bool.not_true, Bool.not_false, Bool.and_eq_true, Bool.or_eq_true, Bool.or_eq_false_iff, beq_iff_eq, beq_eq_false_iff_ne, ne_eq, Int.not_lt, Int.not_le, Decidable.not_not] at hg65); revert hg65; decide
          · exfalso; (try simp only [decide_eq_true_eq, decide_eq_false_iff_not, Bool.not_eq_true', Bool.not_eq_false', Bool.not_eq_eq_eq_not, Bool.not_true, Bool.not_false, Bool.and_eq_true, Bool.or_eq_true, Bool.or_eq_false_iff, beq_iff_eq, beq_eq_false_iff_ne, ne_eq, Int.not_lt, Int.not_le, Decidable.not_not] at hg62); revert hg62; decide
        · exfalso; (try simp only [decide_eq_true_eq, decide_eq_false_iff_not, Bool.not_eq_true', Bool.not_eq_false', Bool.not_eq_eq_eq_not, Bool.not_true, Bool.not_false, Bool.and_eq_true, Bool.or_eq_true, Bool.or_eq_false_iff, beq_iff_eq, beq_eq_false_iff_ne, ne_eq, Int.not_lt, Int.not_le, Decidable.not_not] at hg55); revert hg55; decide
      · exfalso; (try simp only [decide_eq_true_eq, decide_eq_false_iff_not, Bool.not_eq_true', Bool.not_eq_false', Bool.not_eq_eq_eq_not, Bool.not_true, Bool.not_false, Bool.and_eq_true, Bool.or_eq_true, Bool.or_eq_false_iff, beq_iff_eq, beq_eq_false_iff_ne, ne_eq, Int.not_lt, Int.not_le, Decidable.not_not] at hg48); revert hg48; decide
    · exfalso; (try simp only [decide_eq_true_eq, decide_eq_false_iff_not, Bool.not_eq_true', Bool.not_eq_false', Bool.not_eq_eq_eq_not, Bool.not_true, Bool.not_false, Bool.and_eq_true, Bool.or_eq_true, Bool.or_eq_false_iff, beq_iff_eq, beq_eq_false_iff_ne, ne_eq, Int.not_lt, Int.not_le, Decidable.not_not] at hg41); revert hg41; decide
  · exfalso; (try simp only [decide_eq_true_eq, decide_eq_false_iff_not, Bool.not_eq_true', Bool.not_eq_false', Bool.not_eq_eq_eq_not, Bool.not_true, Bool.not_false, Bool.and_eq_true, Bool.or_eq_true, Bool.or_eq_false_iff, beq_iff_eq, beq_eq_false_iff_ne, ne_eq, Int.not_lt, Int.not_le, Decidable.not_not] at hg36); revert hg36; decide

theorem deltaDiffs_ok (a b : List Rc) (hha : ∀ r ∈ a, Held r.bag) (hhb : ∀ r ∈ b, Held r.bag) (hla : a.length ≤ 140737488351232) (hlb : b.length ≤ 140737488351232) (G : AHeap) : PCalls Try.prog 11 [encRs a, encRs b] G (fun v => v = .bool true) := by
  refine LCalls.intro 153 fi11 rfl Try.ntmps11 rfl (fun _ h => h.elim) (fun H hH w0 hw0 => ?_)
  refine g_seq (fun K0 hK0 => ?_)
  refine g_region ?_
  refine g_step rfl (s_val (v_assign rfl) rfl rfl ?_)
  refine g_nil ?_
  refine g_next hK0 ?_
  refine g_seq (fun K1 hK1 => ?_)
  refine g_seq (fun K2 hK2 => ?_)
  refine g_region ?_
  refine g_step rfl (s_val (v_move rfl) rfl rfl ?_)
  refine g_step rfl (s_callp rfl rfl rfl (fewL_ok a _ _ rfl hha hla) ?_)
  rintro _ rfl
  refine g_step rfl (s_val (v_not rfl) rfl rfl ?_)
  refine g_step rfl (s_val (v_move rfl) rfl rfl ?_)
  refine g_split 20 rfl (fun hg20 => ?_) (fun hg20 => ?_)
  · try simp only [decide_eq_true_eq, decide_eq_false_iff_not, Bool.not_eq_true', Bool.not_eq_false', Bool.not_eq_eq_eq_not, Bool.not_true, Bool.not_false, Bool.and_eq_true, Bool.or_eq_true, Bool.or_eq_false_iff, beq_iff_eq, beq_eq_false_iff_ne, ne_eq, Int.not_lt, Int.not_le, Decidable.not_not] at hg20
    refine g_step_no (j := 3) (t := 20) rfl rfl rfl rfl rfl rfl rfl ?_
    refine g_step_no (j := 3) (t := 20) rfl rfl rfl rfl rfl rfl rfl ?_
    refine g_step_no (j := 3) (t := 20) rfl rfl rfl rfl rfl rfl rfl ?_
    refine g_step rfl (s_val (v_pick_t rfl rfl) rfl rfl ?_)
    refine g_nil ?_
    refine g_next hK2 ?_
    refine g_cond rfl (fun _ => ?_) (fun h => by cases h)
    refine g_seq (fun K3 hK3 => ?_)
    refine g_region ?_
    refine g_step rfl (s_callp rfl rfl rfl (awake14_ok _) ?_)
    rintro _ rfl
    refine g_step rfl (s_val (v_assign rfl) rfl rfl ?_)
    refine g_nil ?_
    refine g_next hK3 ?_
    refine g_ret ?_
    refine g_then_ret ?_
    refine g_end1 (.inl rfl) Try.results11 (.tmp rfl) [] (ASub.refl _) (AHeap.sub_refl _) (fun p hp => by cases hp) ⟨rfl, ?_⟩
    rfl
  · try simp only [decide_eq_true_eq, decide_eq_false_iff_not, Bool.not_eq_true', Bool.not_eq_false', Bool.not_eq_eq_eq_not, Bool.not_true, Bool.not_false, Bool.and_eq_true, Bool.or_eq_true, Bool.or_eq_false_iff, beq_iff_eq, beq_eq_false_iff_ne, ne_eq, Int.not_lt, Int.not_le, Decidable.not_not] at hg20
    refine g_step_yes (j := 3) (t := 20) rfl rfl rfl rfl (s_val (v_move rfl) rfl rfl ?_)
    refine g_step_yes (j := 3) (t := 20) rfl rfl rfl rfl (s_callp rfl rfl rfl (fewL_ok b _ _ rfl hhb hlb) ?_)
    rintro _ rfl
    refine g_step_yes (j := 3) (t := 20) rfl rfl rfl rfl (s_val (v_not rfl) rfl rfl ?_)
    refine g_step rfl (s_val (v_pick_f rfl rfl) rfl rfl ?_)
    refine g_nil ?_
    refine g_next hK2 ?_
    refine g_cond rfl (fun hc24 => ?_) (fun hc24 => ?_)
    · try simp only [decide_eq_true_eq, decide_eq_false_iff_not, Bool.not_eq_true', Bool.not_eq_false', Bool.not_eq_eq_eq_not, Bool.not_true, Bool.not_false, Bool.and_eq_true, Bool.or_eq_true, Bool.or_eq_false_iff, beq_iff_eq, beq_eq_false_iff_ne, ne_eq, Int.not_lt, Int.not_le, Decidable.not_not] at hc24
      refine g_seq (fun K4 hK4 => ?_)
      refine g_region ?_
      refine g_step rfl (s_callp rfl rfl rfl (awake14_ok _) ?_)
      rintro _ rfl
      refine g_step rfl (s_val (v_assign rfl) rfl rfl ?_)
      refine g_nil ?_
      refine g_next hK4 ?_
      refine g_ret ?_
      refine g_then_ret ?_
      refine g_end1 (.inl rfl) Try.results11 (.tmp rfl) [] (ASub.refl _) (AHeap.sub_refl _) (fun p hp => by cases hp) ⟨rfl, ?_⟩
      rfl
    · try simp only [decide_eq_true_eq, decide_eq_false_iff_not, Bool.not_eq_true', Bool.not_eq_false', Bool.not_eq_eq_eq_not, Bool.not_true, Bool.not_false, Bool.and_eq_true, Bool.or_eq_true, Bool.or_eq_false_iff, beq_iff_eq, beq_eq_false_iff_ne, ne_eq, Int.not_lt, Int.not_le, Decidable.not_not] at hc24
      have hf : fewL a = true ∧ fewL b = true := by first | exact ⟨by assumption, by assumption⟩ | simp_all
      obtain ⟨ha20, hsa⟩ := fewL_small hf.1
      obtain ⟨hb20, hsb⟩ := fewL_small hf.2
      refine g_skip ?_
      refine g_next hK1 ?_
      refine g_seq (fun K5 hK5 => ?_)
      refine g_region ?_
      refine g_step rfl (s_val (v_move rfl) rfl rfl ?_)
      refine g_step rfl (s_val (v_move rfl) rfl rfl ?_)
      refine g_step rfl (s_callp rfl rfl rfl (ddiff_ok a b _ (by omega) (by omega) hsa hsb) ?_)
      rintro _ rfl
      refine g_step rfl (s_val (v_move rfl) rfl rfl ?_)
      refine g_step rfl (s_val (v_extract rfl rfl) rfl rfl ?_)
      refine g_step rfl (s_val (v_extract rfl rfl) rfl rfl ?_)
      refine g_step rfl (s_val (v_assign rfl) rfl rfl ?_)
      refine g_step rfl (s_val (v_assign rfl) rfl rfl ?_)
      refine g_nil ?_
      refine g_next hK5 ?_
      refine g_seq (fun K6 hK6 => ?_)
      refine g_region ?_
      refine g_step rfl (s_val (v_move rfl) rfl rfl ?_)
      refine g_step rfl (s_val (v_move rfl) rfl rfl ?_)
      refine g_step rfl (s_callp rfl rfl rfl (dgone_ok a b _ (by omega) (by omega) hsa hsb) ?_)
      rintro _ rfl
      refine g_step rfl (s_val (v_move rfl) rfl rfl ?_)
      refine g_step rfl (s_val (v_extract rfl rfl) rfl rfl ?_)
      refine g_step rfl (s_val (v_extract rfl rfl) rfl rfl ?_)
      refine g_step rfl (s_val (v_assign rfl) rfl rfl ?_)
      refine g_step rfl (s_val (v_assign rfl) rfl rfl ?_)
      refine g_nil ?_
      refine g_next hK6 ?_
      first | refine g_keep [0, 1, 5, 6, 7, 8] [] [] (keep_cons rfl (keep_cons rfl (keep_cons rfl (keep_cons rfl (keep_cons rfl (keep_cons rfl keep_nil)))))) lkeep_nil keep_nil rfl ?_ | refine g_keep [0, 1, 5, 6, 7, 8] [] [] rfl rfl rfl rfl ?_
      refine g_cut (fun env L B G => env = [(0, encRs a), (1, encRs b), (5, (encRs (diffL a b))), (6, .bool true), (7, .imm ((goneL a b).map (.int .i64))), (8, .bool true)] ∧ L = [] ∧ B = [] ∧ H = G ∧ srt a = true ∧ srt b = true) ?_ (fun env L B G hI => ?_)
      · skip
        refine g_seq (fun K7 hK7 => ?_)
        refine g_region ?_
        refine g_step rfl (s_val (v_move rfl) rfl rfl ?_)
        refine g_step rfl (s_callp rfl rfl rfl (sorted_ok a _ (by omega) hsa) ?_)
        rintro _ rfl
        refine g_step rfl (s_val (v_not rfl) rfl rfl ?_)
        refine g_step rfl (s_val (v_move rfl) rfl rfl ?_)
        refine g_split 41 rfl (fun hg41 => ?_) (fun hg41 => ?_)
        · try simp only [decide_eq_true_eq, decide_eq_false_iff_not, Bool.not_eq_true', Bool.not_eq_false', Bool.not_eq_eq_eq_not, Bool.not_true, Bool.not_false, Bool.and_eq_true, Bool.or_eq_true, Bool.or_eq_false_iff, beq_iff_eq, beq_eq_false_iff_ne, ne_eq, Int.not_lt, Int.not_le, Decidable.not_not] at hg41
          refine g_step_no (j := 3) (t := 41) rfl rfl rfl rfl rfl rfl rfl ?_
          refine g_step_no (j := 3) (t := 41) rfl rfl rfl rfl rfl rfl rfl ?_
          refine g_step_no (j := 3) (t := 41) rfl rfl rfl rfl rfl rfl rfl ?_
          refine g_step rfl (s_val (v_pick_t rfl rfl) rfl rfl ?_)
          refine g_nil ?_
          refine g_next hK7 ?_
          refine g_cond rfl (fun _ => ?_) (fun h => by cases h)
          refine g_seq (fun K8 hK8 => ?_)
          refine g_region ?_
          have hno : (srt a && srt b) = false := by simp_all
          refine g_step rfl (s_val (v_move rfl) rfl rfl ?_)
          refine g_step rfl (s_val (v_not rfl) rfl rfl ?_)
          refine g_step rfl (s_val (v_move rfl) rfl rfl ?_)
          refine g_split 48 rfl (fun hg48 => ?_) (fun hg48 => ?_)
          · try simp only [decide_eq_true_eq, decide_eq_false_iff_not, Bool.not_eq_true', Bool.not_eq_false', Bool.not_eq_eq_eq_not, Bool.not_true, Bool.not_false, Bool.and_eq_true, Bool.or_eq_true, Bool.or_eq_false_iff, beq_iff_eq, beq_eq_false_iff_ne, ne_eq, Int.not_lt, Int.not_le, Decidable.not_not] at hg48
            refine g_step_yes (j := 2) (t := 48) rfl rfl rfl rfl (s_val (v_move rfl) rfl rfl ?_)
            refine g_step_yes (j := 2) (t := 48) rfl rfl rfl rfl (s_val (v_not rfl) rfl rfl ?_)
            refine g_step rfl (s_val (v_pick_t rfl rfl) rfl rfl ?_)
            refine g_step rfl (s_val (v_move rfl) rfl rfl ?_)
            refine g_split 52 rfl (fun hg52 => ?_) (fun hg52 => ?_)
            · try simp only [decide_eq_true_eq, decide_eq_false_iff_not, Bool.not_eq_true', Bool.not_eq_false', Bool.not_eq_eq_eq_not, Bool.not_true, Bool.not_false, Bool.and_eq_true, Bool.or_eq_true, Bool.or_eq_false_iff, beq_iff_eq, beq_eq_false_iff_ne, ne_eq, Int.not_lt, Int.not_le, Decidable.not_not] at hg52
              refine g_step_yes (j := 6) (t := 52) rfl rfl rfl rfl (s_val (v_move rfl) rfl rfl ?_)
              refine g_step_yes (j := 6) (t := 52) rfl rfl rfl rfl (s_val (v_len ty23 rfl (by first | rfl | assumption) (by first | exact List.length_map .. | rfl)) rfl rfl ?_)
              refine g_step_yes (j := 6) (t := 52) rfl rfl rfl rfl (s_val (v_eql rfl rfl) rfl rfl ?_)
              refine g_step rfl (s_val (v_pick_t rfl rfl) rfl rfl ?_)
              refine g_step rfl (s_val (v_move rfl) rfl rfl ?_)
              refine g_split 57 rfl (fun hg57 => ?_) (fun hg57 => ?_)
              · try simp only [decide_eq_true_eq, decide_eq_false_iff_not, Bool.not_eq_true', Bool.not_eq_false', Bool.not_eq_eq_eq_not, Bool.not_true, Bool.not_false, Bool.and_eq_true, Bool.or_eq_true, Bool.or_eq_false_iff, beq_iff_eq, beq_eq_false_iff_ne, ne_eq, Int.not_lt, Int.not_le, Decidable.not_not] at hg57
                refine g_step_yes (j := 11) (t := 57) rfl rfl rfl rfl (s_val (v_move rfl) rfl rfl ?_)
                refine g_step_yes (j := 11) (t := 57) rfl rfl rfl rfl (s_val (v_len ty41 rfl (by first | rfl | assumption) (by first | exact List.length_map .. | rfl)) rfl rfl ?_)
                refine g_step_yes (j := 11) (t := 57) rfl rfl rfl rfl (s_val (v_eql rfl rfl) rfl rfl ?_)
                refine g_step rfl (s_val (v_pick_t rfl rfl) rfl rfl ?_)
                refine g_step rfl (s_val (v_move rfl) rfl rfl ?_)
                refine g_split 62 rfl (fun hg62 => ?_) (fun hg62 => ?_)
                · try simp only [decide_eq_true_eq, decide_eq_false_iff_not, Bool.not_eq_true', Bool.not_eq_false', Bool.not_eq_eq_eq_not, Bool.not_true, Bool.not_false, Bool.and_eq_true, Bool.or_eq_true, Bool.or_eq_false_iff, beq_iff_eq, beq_eq_false_iff_ne, ne_eq, Int.not_lt, Int.not_le, Decidable.not_not] at hg62
                  refine g_step_yes (j := 16) (t := 62) rfl rfl rfl rfl (s_callp rfl rfl rfl (awake14_ok _) ?_)
                  rintro _ rfl
                  refine g_step rfl (s_val (v_pick_t rfl rfl) rfl rfl ?_)
                  refine g_step rfl (s_val (v_assign rfl) rfl rfl ?_)
                  refine g_nil ?_
                  refine g_next hK8 ?_
                  first | refine g_keep [4] [] [] (keep_cons rfl keep_nil) lkeep_nil keep_nil rfl ?_ | refine g_keep [4] [] [] rfl rfl rfl rfl ?_
                  refine g_ret ?_
                  refine g_then_ret ?_
                  refine g_end1 (.inl rfl) Try.results11 (.tmp rfl) [] (ASub.refl _) (AHeap.sub_refl _) (fun p hp => by cases hp) ⟨rfl, ?_⟩
                  rfl
                · exfalso; (try simp only [decide_eq_true_eq, decide_eq_false_iff_not, Bool.not_eq_true', Bool.not_eq_false', Bool.not_eq_eq_eq_not, Bool.not_true, Bool.not_false, Bool.and_eq_true, Bool.or_eq_true, Bool.or_eq_false_iff, beq_iff_eq, beq_eq_false_iff_ne, ne_eq, Int.not_lt, Int.not_le, Decidable.not_not] at hg62); rw [if_neg (by rintro ⟨h1, h2⟩; rw [h1, h2] at hno; cases hno)] at hg62; simp at hg62
              · exfalso; (try simp only [decide_eq_true_eq, decide_eq_false_iff_not, Bool.not_eq_true', Bool.not_eq_false', Bool.not_eq_eq_eq_not, Bool.not_true, Bool.not_false, Bool.and_eq_true, Bool.or_eq_true, Bool.or_eq_false_iff, beq_iff_eq, beq_eq_false_iff_ne, ne_eq, Int.not_lt, Int.not_le, Decidable.not_not] at hg57); rw [if_neg (by rintro ⟨h1, h2⟩; rw [h1, h2] at hno; cases hno)] at hg57; simp at hg57
            · exfalso; (try simp only [decide_eq_true_eq, decide_eq_false_iff_not, Bool.not_eq_true', Bool.not_eq_false', Bool.not_eq_eq_eq_not, Bool.not_true, Bool.not_false, Bool.and_eq_true, Bool.or_eq_true, Bool.or_eq_false_iff, beq_iff_eq, beq_eq_false_iff_ne, ne_eq, Int.not_lt, Int.not_le, Decidable.not_not] at hg52); rw [hg52.1, hg52.2] at hno; cases hno
          · exfalso; (try simp only [decide_eq_true_eq, decide_eq_false_iff_not, Bool.not_eq_true', Bool.not_eq_false', Bool.not_eq_eq_eq_not, Bool.not_true, Bool.not_false, Bool.and_eq_true, Bool.or_eq_true, Bool.or_eq_false_iff, beq_iff_eq, beq_eq_false_iff_ne, ne_eq, Int.not_lt, Int.not_le, Decidable.not_not] at hg48); rw [hg48.1, hg48.2] at hno; cases hno
        · try simp only [decide_eq_true_eq, decide_eq_false_iff_not, Bool.not_eq_true', Bool.not_eq_false', Bool.not_eq_eq_eq_not, Bool.not_true, Bool.not_false, Bool.and_eq_true, Bool.or_eq_true, Bool.or_eq_false_iff, beq_iff_eq, beq_eq_false_iff_ne, ne_eq, Int.not_lt, Int.not_le, Decidable.not_not] at hg41
          refine g_step_yes (j := 3) (t := 41) rfl rfl rfl rfl (s_val (v_move rfl) rfl rfl ?_)
          refine g_step_yes (j := 3) (t := 41) rfl rfl rfl rfl (s_callp rfl rfl rfl (sorted_ok b _ (by omega) hsb) ?_)
          rintro _ rfl
          refine g_step_yes (j := 3) (t := 41) rfl rfl rfl rfl (s_val (v_not rfl) rfl rfl ?_)
          refine g_step rfl (s_val (v_pick_f rfl rfl) rfl rfl ?_)
          refine g_nil ?_
          refine g_next hK7 ?_
          refine g_cond rfl (fun hc45 => ?_) (fun hc45 => ?_)
          · try simp only [decide_eq_true_eq, decide_eq_false_iff_not, Bool.not_eq_true', Bool.not_eq_false', Bool.not_eq_eq_eq_not, Bool.not_true, Bool.not_false, Bool.and_eq_true, Bool.or_eq_true, Bool.or_eq_false_iff, beq_iff_eq, beq_eq_false_iff_ne, ne_eq, Int.not_lt, Int.not_le, Decidable.not_not] at hc45
            refine g_seq (fun K9 hK9 => ?_)
            refine g_region ?_
            have hno : (srt a && srt b) = false := by simp_all
            refine g_step rfl (s_val (v_move rfl) rfl rfl ?_)
            refine g_step rfl (s_val (v_not rfl) rfl rfl ?_)
            refine g_step rfl (s_val (v_move rfl) rfl rfl ?_)
            refine g_split 48 rfl (fun hg48 => ?_) (fun hg48 => ?_)
            · try simp only [decide_eq_true_eq, decide_eq_false_iff_not, Bool.not_eq_true', Bool.not_eq_false', Bool.not_eq_eq_eq_not, Bool.not_true, Bool.not_false, Bool.and_eq_true, Bool.or_eq_true, Bool.or_eq_false_iff, beq_iff_eq, beq_eq_false_iff_ne, ne_eq, Int.not_lt, Int.not_le, Decidable.not_not] at hg48
              refine g_step_yes (j := 2) (t := 48) rfl rfl rfl rfl (s_val (v_move rfl) rfl rfl ?_)
              refine g_step_yes (j := 2) (t := 48) rfl rfl rfl rfl (s_val (v_not rfl) rfl rfl ?_)
              refine g_step rfl (s_val (v_pick_t rfl rfl) rfl rfl ?_)
              refine g_step rfl (s_val (v_move rfl) rfl rfl ?_)
              refine g_split 52 rfl (fun hg52 => ?_) (fun hg52 => ?_)
              · try simp only [decide_eq_true_eq, decide_eq_false_iff_not, Bool.not_eq_true', Bool.not_eq_false', Bool.not_eq_eq_eq_not, Bool.not_true, Bool.not_false, Bool.and_eq_true, Bool.or_eq_true, Bool.or_eq_false_iff, beq_iff_eq, beq_eq_false_iff_ne, ne_eq, Int.not_lt, Int.not_le, Decidable.not_not] at hg52
                refine g_step_yes (j := 6) (t := 52) rfl rfl rfl rfl (s_val (v_move rfl) rfl rfl ?_)
                refine g_step_yes (j := 6) (t := 52) rfl rfl rfl rfl (s_val (v_len ty23 rfl (by first | rfl | assumption) (by first | exact List.length_map .. | rfl)) rfl rfl ?_)
                refine g_step_yes (j := 6) (t := 52) rfl rfl rfl rfl (s_val (v_eql rfl rfl) rfl rfl ?_)
                refine g_step rfl (s_val (v_pick_t rfl rfl) rfl rfl ?_)
                refine g_step rfl (s_val (v_move rfl) rfl rfl ?_)
                refine g_split 57 rfl (fun hg57 => ?_) (fun hg57 => ?_)
                · try simp only [decide_eq_true_eq, decide_eq_false_iff_not, Bool.not_eq_true', Bool.not_eq_false', Bool.not_eq_eq_eq_not, Bool.not_true, Bool.not_false, Bool.and_eq_true, Bool.or_eq_true, Bool.or_eq_false_iff, beq_iff_eq, beq_eq_false_iff_ne, ne_eq, Int.not_lt, Int.not_le, Decidable.not_not] at hg57
                  refine g_step_yes (j := 11) (t := 57) rfl rfl rfl rfl (s_val (v_move rfl) rfl rfl ?_)
                  refine g_step_yes (j := 11) (t := 57) rfl rfl rfl rfl (s_val (v_len ty41 rfl (by first | rfl | assumption) (by first | exact List.length_map .. | rfl)) rfl rfl ?_)
                  refine g_step_yes (j := 11) (t := 57) rfl rfl rfl rfl (s_val (v_eql rfl rfl) rfl rfl ?_)
                  refine g_step rfl (s_val (v_pick_t rfl rfl) rfl rfl ?_)
                  refine g_step rfl (s_val (v_move rfl) rfl rfl ?_)
                  refine g_split 62 rfl (fun hg62 => ?_) (fun hg62 => ?_)
                  · try simp only [decide_eq_true_eq, decide_eq_false_iff_not, Bool.not_eq_true', Bool.not_eq_false', Bool.not_eq_eq_eq_not, Bool.not_true, Bool.not_false, Bool.and_eq_true, Bool.or_eq_true, Bool.or_eq_false_iff, beq_iff_eq, beq_eq_false_iff_ne, ne_eq, Int.not_lt, Int.not_le, Decidable.not_not] at hg62
                    refine g_step_yes (j := 16) (t := 62) rfl rfl rfl rfl (s_callp rfl rfl rfl (awake14_ok _) ?_)
                    rintro _ rfl
                    refine g_step rfl (s_val (v_pick_t rfl rfl) rfl rfl ?_)
                    refine g_step rfl (s_val (v_assign rfl) rfl rfl ?_)
                    refine g_nil ?_
                    refine g_next hK9 ?_
                    first | refine g_keep [4] [] [] (keep_cons rfl keep_nil) lkeep_nil keep_nil rfl ?_ | refine g_keep [4] [] [] rfl rfl rfl rfl ?_
                    refine g_ret ?_
                    refine g_then_ret ?_
                    refine g_end1 (.inl rfl) Try.results11 (.tmp rfl) [] (ASub.refl _) (AHeap.sub_refl _) (fun p hp => by cases hp) ⟨rfl, ?_⟩
                    rfl
                  · exfalso; (try simp only [decide_eq_true_eq, decide_eq_false_iff_not, Bool.not_eq_true', Bool.not_eq_false', Bool.not_eq_eq_eq_not, Bool.not_true, Bool.not_false, Bool.and_eq_true, Bool.or_eq_true, Bool.or_eq_false_iff, beq_iff_eq, beq_eq_false_iff_ne, ne_eq, Int.not_lt, Int.not_le, Decidable.not_not] at hg62); rw [if_neg (by rintro ⟨h1, h2⟩; rw [h1, h2] at hno; cases hno)] at hg62; simp at hg62
                · exfalso; (try simp only [decide_eq_true_eq, decide_eq_false_iff_not, Bool.not_eq_true', Bool.not_eq_false', Bool.not_eq_eq_eq_not, Bool.not_true, Bool.not_false, Bool.and_eq_true, Bool.or_eq_true, Bool.or_eq_false_iff, beq_iff_eq, beq_eq_false_iff_ne, ne_eq, Int.not_lt, Int.not_le, Decidable.not_not] at hg57); rw [if_neg (by rintro ⟨h1, h2⟩; rw [h1, h2] at hno; cases hno)] at hg57; simp at hg57
              · exfalso; (try simp only [decide_eq_true_eq, decide_eq_false_iff_not, Bool.not_eq_true', Bool.not_eq_false', Bool.not_eq_eq_eq_not, Bool.not_true, Bool.not_false, Bool.and_eq_true, Bool.or_eq_true, Bool.or_eq_false_iff, beq_iff_eq, beq_eq_false_iff_ne, ne_eq, Int.not_lt, Int.not_le, Decidable.not_not] at hg52); rw [hg52.1, hg52.2] at hno; cases hno
            · exfalso; (try simp only [decide_eq_true_eq, decide_eq_false_iff_not, Bool.not_eq_true', Bool.not_eq_false', Bool.not_eq_eq_eq_not, Bool.not_true, Bool.not_false, Bool.and_eq_true, Bool.or_eq_true, Bool.or_eq_false_iff, beq_iff_eq, beq_eq_false_iff_ne, ne_eq, Int.not_lt, Int.not_le, Decidable.not_not] at hg48); rw [hg48.1, hg48.2] at hno; cases hno
          · try simp only [decide_eq_true_eq, decide_eq_false_iff_not, Bool.not_eq_true', Bool.not_eq_false', Bool.not_eq_eq_eq_not, Bool.not_true, Bool.not_false, Bool.and_eq_true, Bool.or_eq_true, Bool.or_eq_false_iff, beq_iff_eq, beq_eq_false_iff_ne, ne_eq, Int.not_lt, Int.not_le, Decidable.not_not] at hc45
            rw [show (srt a && srt b) = true from by simp_all, if_pos rfl, if_pos rfl]
            refine g_skip ?_
            first | refine g_keep [0, 1, 5, 6, 7, 8] [] [] (keep_cons rfl (keep_cons rfl (keep_cons rfl (keep_cons rfl (keep_cons rfl (keep_cons rfl keep_nil)))))) lkeep_nil keep_nil rfl ?_ | refine g_keep [0, 1, 5, 6, 7, 8] [] [] rfl rfl rfl rfl ?_
            exact g_has ⟨rfl, rfl, rfl, rfl, ⟨by assumption, by assumption⟩⟩
      · skip
        obtain ⟨rfl, rfl, rfl, rfl, hya, hyb⟩ := hI
        have hdd := diff_srt hya hyb
        refine g_seq (fun K10 hK10 => ?_)
        refine g_region ?_
        skip
        refine g_step rfl (s_val (v_assign rfl) rfl rfl ?_)
        refine g_nil ?_
        refine g_next hK10 ?_
        refine g_seq (fun K11 hK11 => ?_)
        refine g_seq (fun K12 hK12 => ?_)
        refine g_region ?_
        refine g_step rfl (s_val (v_assign rfl) rfl rfl ?_)
        refine g_nil ?_
        refine g_next hK12 ?_
        refine g_block ?_
        first | refine g_keep [0, 1, 5, 6, 7, 8, 9, 10] [] [] (keep_cons rfl (keep_cons rfl (keep_cons rfl (keep_cons rfl (keep_cons rfl (keep_cons rfl (keep_cons rfl (keep_cons rfl keep_nil)))))))) lkeep_nil keep_nil rfl ?_ | refine g_keep [0, 1, 5, 6, 7, 8, 9, 10] [] [] rfl rfl rfl rfl ?_
        refine g_loop (fun n env L B G => ∃ (k : Nat) (av : AV), k ≤ b.length ∧ n = b.length - k ∧ env = [(0, encRs a), (1, encRs b), (5, (encRs (diffL a b))), (6, .bool true), (7, .imm ((goneL a b).map (.int .i64))), (8, .bool true), (9, av), (10, .int .i64 (k : Int))] ∧ L = [] ∧ B = [] ∧ Own w0.heap.size 7 H av (((b.take k).filter (isNew a)).map encR) G) (b.length) ⟨0, .nil0, Nat.zero_le _, rfl, rfl, rfl, rfl, Own.nil ..⟩ (fun n env L B G hI => ?_)
        obtain ⟨k, av, hk, rfl, rfl, rfl, rfl, hown⟩ := hI
        refine g_seq (fun K13 hK13 => ?_)
        refine g_seq (fun K14 hK14 => ?_)
        refine g_region ?_
        refine g_step rfl (s_val (v_move rfl) rfl rfl ?_)
        refine g_step rfl (s_val (v_move rfl) rfl rfl ?_)
        refine g_step rfl (s_val (v_len ty23 rfl (by first | rfl | assumption) (by first | exact List.length_map .. | rfl)) rfl rfl ?_)
        refine g_step rfl (s_val (v_lss rfl rfl) rfl rfl ?_)
        refine g_nil ?_
        refine g_next hK14 ?_
        refine g_cond rfl (fun hc68 => ?_) (fun hc68 => ?_)
        · try simp only [decide_eq_true_eq, decide_eq_false_iff_not, Bool.not_eq_true', Bool.not_eq_false', Bool.not_eq_eq_eq_not, Bool.not_true, Bool.not_false, Bool.and_eq_true, Bool.or_eq_true, Bool.or_eq_false_iff, beq_iff_eq, beq_eq_false_iff_ne, ne_eq, Int.not_lt, Int.not_le, Decidable.not_not] at hc68
          obtain ⟨x, hx⟩ := get_some (l := b) (k := k) (by omega)
          have hfl := List.length_filter_le (isNew a) (b.take k)
          rw [List.length_take] at hfl
          refine g_skip ?_
          refine g_next hK13 ?_
          refine g_seq (fun K15 hK15 => ?_)
          refine g_block ?_
          refine g_seq (fun K16 hK16 => ?_)
          refine g_region ?_
          refine g_step rfl (s_val (v_move rfl) rfl rfl ?_)
          refine g_step rfl (s_val (v_move rfl) rfl rfl ?_)
          refine g_step rfl (s_val (v_move rfl) rfl rfl ?_)
          refine g_step rfl (s_val (v_indexAddr ty23 ty28 rfl rfl (by first | rfl | assumption) (by first | rfl | exact (rfl : (0 : Int) = ((0 : Nat) : Int)) | exact (Int.toNat_of_nonneg (by omega)).symm) (by first | assumption | exact map_get (by assumption) | rfl) rfl) rfl rfl ?_)
          refine g_step rfl (s_val (by first | exact v_fieldAddr ty28 fo28_0 ty3 rfl | exact v_fieldAddr_box ty28 fo28_0 ty3 rfl) rfl rfl ?_)
          refine g_step rfl (s_val (by first | exact v_load ty3 rfl rfl (by first | rfl | assumption) (by first | assumption | exact map_get (by assumption) | rfl) rfl | exact v_load_box ty3 rfl rfl (by assumption) rfl) rfl rfl ?_)
          refine g_step rfl (s_callp rfl rfl rfl (find_ok a x.id _ _ rfl (by omega) hsa) ?_)
          rintro _ rfl
          refine g_step rfl (s_val (v_move rfl) rfl rfl ?_)
          refine g_step rfl (s_val (v_extract rfl rfl) rfl rfl ?_)
          refine g_step rfl (s_val (v_extract rfl rfl) rfl rfl ?_)
          refine g_step rfl (s_alloc (av := (.agg [(.int .i64 0), (.int .i64 0), (.int .i64 0), (.int .i64 0), (.int .i64 0), (.bool false), .nil0])) ty28 rfl rfl rfl rfl ?_)
          refine g_step rfl (s_store_all ty28 rfl rfl rfl rfl rfl rfl ?_)
          refine g_step rfl (s_val (v_assign rfl) rfl rfl ?_)
          refine g_nil ?_
          refine g_next hK16 ?_
          refine g_seq (fun K17 hK17 => ?_)
          refine g_draw (n := 11) (fun j => !([] : List Nat).contains j) rfl rfl ?_
          refine m_take 0 false rfl rfl (by kernel_rfl) (by kernel_rfl) (by kernel_rfl) (fun _ _ _ _ h => h) (v_move rfl) rfl rfl ?_
          refine m_take 1 false rfl rfl (by kernel_rfl) (by kernel_rfl) (by kernel_rfl) (fun _ _ _ _ h => h) (v_not rfl) rfl rfl ?_
          refine m_take 2 false rfl rfl (by kernel_rfl) (by kernel_rfl) (by kernel_rfl) (fun _ _ _ _ h => h) (v_move rfl) rfl rfl ?_
          refine m_split 83 rfl (fun hg83 => ?_) (fun hg83 => ?_)
          · try simp only [decide_eq_true_eq, decide_eq_false_iff_not, Bool.not_eq_true', Bool.not_eq_false', Bool.not_eq_eq_eq_not, Bool.not_true, Bool.not_false, Bool.and_eq_true, Bool.or_eq_true, Bool.or_eq_false_iff, beq_iff_eq, beq_eq_false_iff_ne, ne_eq, Int.not_lt, Int.not_le, Decidable.not_not] at hg83
            refine m_take_no (j := 2) (t := 83) 3 rfl rfl rfl rfl rfl rfl (by kernel_rfl) (by kernel_rfl) (by kernel_rfl) (fun _ _ _ _ h => h) rfl rfl ?_
            refine m_take_no (j := 2) (t := 83) 4 rfl rfl rfl rfl rfl rfl (by kernel_rfl) (by kernel_rfl) (by kernel_rfl) (fun _ _ _ _ h => h) rfl rfl ?_
            refine m_take_no (j := 2) (t := 83) 5 rfl rfl rfl rfl rfl rfl (by kernel_rfl) (by kernel_rfl) (by kernel_rfl) (fun _ _ _ _ h => h) rfl rfl ?_
            refine m_take_no (j := 2) (t := 83) 6 rfl rfl rfl rfl rfl rfl (by kernel_rfl) (by kernel_rfl) (by kernel_rfl) (fun _ _ _ _ h => h) rfl rfl ?_
            refine m_take_no (j := 2) (t := 83) 7 rfl rfl rfl rfl rfl rfl (by kernel_rfl) (by kernel_rfl) (by kernel_rfl) (fun _ _ _ _ h => h) rfl rfl ?_
            refine m_take_no (j := 2) (t := 83) 8 rfl rfl rfl rfl rfl rfl (by kernel_rfl) (by kernel_rfl) (by kernel_rfl) (fun _ _ _ _ h => h) rfl rfl ?_
            refine m_take_no (j := 2) (t := 83) 9 rfl rfl rfl rfl rfl rfl (by kernel_rfl) (by kernel_rfl) (by kernel_rfl) (fun _ _ _ _ h => h) rfl rfl ?_
            refine m_take 10 false rfl rfl (by kernel_rfl) (by kernel_rfl) (by kernel_rfl) (fun _ _ _ _ h => h) (v_pick_t rfl rfl) rfl rfl ?_
            refine m_done (by kernel_rfl) ?_
            refine g_next hK17 ?_
            first | refine g_keep [0, 1, 5, 6, 7, 8, 9, 10, 91] [] [] (keep_cons rfl (keep_cons rfl (keep_cons rfl (keep_cons rfl (keep_cons rfl (keep_cons rfl (keep_cons rfl (keep_cons rfl (keep_cons rfl keep_nil))))))))) lkeep_nil keep_nil rfl ?_ | refine g_keep [0, 1, 5, 6, 7, 8, 9, 10, 91] [] [] rfl rfl rfl rfl ?_
            refine g_cond rfl (fun _ => ?_) (fun h => by cases h)
            refine g_region ?_
            refine g_step rfl (s_val (v_move rfl) rfl rfl ?_)
            refine g_step rfl (s_val (v_move rfl) rfl rfl ?_)
            refine g_step rfl (s_val (v_move rfl) rfl rfl ?_)
            refine g_step rfl (s_val (v_indexAddr ty23 ty28 rfl rfl (by first | rfl | assumption) (by first | rfl | exact (rfl : (0 : Int) = ((0 : Nat) : Int)) | exact (Int.toNat_of_nonneg (by omega)).symm) (by first | assumption | exact map_get (by assumption) | rfl) rfl) rfl rfl ?_)
            refine g_step rfl (s_val (by first | exact v_load_elt ty28 rfl rfl (by first | rfl | assumption) (by first | assumption | exact map_get (by assumption) | rfl) rfl rfl | exact v_load_box_all ty28 rfl rfl (by assumption) rfl rfl | exact v_load_part (cs := [_, _, _, _, _, _, _]) ty28 rfl rfl (by first | rfl | assumption) (by first | assumption | exact map_get (by assumption) | rfl) rfl rfl rfl | exact v_load_box_part (cs := [_, _, _, _, _, _, _]) ty28 rfl rfl (by assumption) rfl rfl rfl) rfl rfl ?_)
            refine g_step rfl (s_lit ty23 ty28 rfl rfl rfl rfl rfl rfl rfl ?_)
            refine g_step rfl (s_append (l := (((b.take k).filter (isNew a)).map encR)) (m := ([x].map encR)) ty23 ty28 rfl rfl hown rfl rfl (by refine Even.map _ ?_ _; intro _; rfl) (by intro x hx; obtain ⟨_, _, rfl⟩ := List.mem_map.1 hx; rfl) rfl (by simp; omega) (by simp; omega) ?_)
            intro av98 G98 hown98
            refine g_step rfl (s_val (v_assign rfl) rfl rfl ?_)
            refine g_nil ?_
            refine g_block_normal ?_
            refine g_next hK15 ?_
            refine g_region ?_
            refine g_step rfl (s_val (v_move rfl) rfl rfl ?_)
            refine g_step rfl (s_val (v_add rfl rfl (by omega)) rfl rfl ?_)
            refine g_step rfl (s_val (v_assign rfl) rfl rfl ?_)
            refine g_nil ?_
            first | refine g_keep [0, 1, 5, 6, 7, 8, 9, 10] [] [] (keep_cons rfl (keep_cons rfl (keep_cons rfl (keep_cons rfl (keep_cons rfl (keep_cons rfl (keep_cons rfl (keep_cons rfl keep_nil)))))))) lkeep_nil keep_nil rfl ?_ | refine g_keep [0, 1, 5, 6, 7, 8, 9, 10] [] [] rfl rfl rfl rfl ?_
            first | exact g_round _ (by omega) ⟨k + 1, av98, by omega, rfl, rfl, rfl, rfl, by rw [filter_snoc hx, if_pos (by rw [isNew_rfind]; simp_all), List.map_append]; exact hown98⟩ | exact g_round _ (by omega) ⟨k + 1, av, by omega, rfl, rfl, rfl, rfl, by rw [filter_snoc hx, if_neg (by rw [isNew_rfind]; simp_all), List.append_nil]; exact hown⟩
          · try simp only [decide_eq_true_eq, decide_eq_false_iff_not, Bool.not_eq_true', Bool.not_eq_false', Bool.not_eq_eq_eq_not, Bool.not_true, Bool.not_false, Bool.and_eq_true, Bool.or_eq_true, Bool.or_eq_false_iff, beq_iff_eq, beq_eq_false_iff_ne, ne_eq, Int.not_lt, Int.not_le, Decidable.not_not] at hg83
            refine m_take_yes (j := 2) (t := 83) 3 true rfl rfl rfl rfl rfl (by kernel_rfl) (by kernel_rfl) (by kernel_rfl) (fun _ _ _ _ h => h) (by first | exact v_loadl_all ty28 rfl rfl rfl rfl rfl | exact v_loadl_part (cs := [_, _, _, _, _, _, _]) ty28 rfl rfl rfl rfl rfl rfl) rfl rfl ?_
            refine m_take_yes (j := 2) (t := 83) 4 false rfl rfl rfl rfl rfl (by kernel_rfl) (by kernel_rfl) (by kernel_rfl) (fun _ _ _ _ h => h) (v_move rfl) rfl rfl ?_
            refine m_take_yes (j := 2) (t := 83) 5 false rfl rfl rfl rfl rfl (by kernel_rfl) (by kernel_rfl) (by kernel_rfl) (fun _ _ _ _ h => h) (v_move rfl) rfl rfl ?_
            refine m_take_yes (j := 2) (t := 83) 6 false rfl rfl rfl rfl rfl (by kernel_rfl) (by kernel_rfl) (by kernel_rfl) (fun _ _ _ _ h => h) (v_indexAddr ty23 ty28 rfl rfl (by first | rfl | assumption) (by first | rfl | exact (rfl : (0 : Int) = ((0 : Nat) : Int)) | exact (Int.toNat_of_nonneg (by omega)).symm) (by first | assumption | exact map_get (by assumption) | rfl) rfl) rfl rfl ?_
            refine m_take_yes (j := 2) (t := 83) 7 true rfl rfl rfl rfl rfl (by kernel_rfl) (by kernel_rfl) (by kernel_rfl) (fun _ _ _ _ h => h) (by first | exact v_load_elt ty28 rfl rfl (by first | rfl | assumption) (by first | assumption | exact map_get (by assumption) | rfl) rfl rfl | exact v_load_box_all ty28 rfl rfl (by assumption) rfl rfl | exact v_load_part (cs := [_, _, _, _, _, _, _]) ty28 rfl rfl (by first | rfl | assumption) (by first | assumption | exact map_get (by assumption) | rfl) rfl rfl rfl | exact v_load_box_part (cs := [_, _, _, _, _, _, _]) ty28 rfl rfl (by assumption) rfl rfl rfl) rfl rfl ?_
            refine m_one_yes (j := 2) (t := 83) 8 (by kernel_rfl) rfl rfl rfl rfl rfl ?_
            refine sm_callp rfl rfl rfl (alike_ok (rfind a x.id).1 x _ (rfind_small hsa)) ?_
            rintro _ rfl
            refine m_take_yes (j := 2) (t := 83) 9 false rfl rfl rfl rfl rfl (by kernel_rfl) (by kernel_rfl) (by kernel_rfl) (fun _ _ _ _ h => h) (v_not rfl) rfl rfl ?_
            refine m_take 10 false rfl rfl (by kernel_rfl) (by kernel_rfl) (by kernel_rfl) (fun _ _ _ _ h => h) (v_pick_f rfl rfl) rfl rfl ?_
            refine m_done (by kernel_rfl) ?_
            refine g_next hK17 ?_
            first | refine g_keep [0, 1, 5, 6, 7, 8, 9, 10, 91] [] [] (keep_cons rfl (keep_cons rfl (keep_cons rfl (keep_cons rfl (keep_cons rfl (keep_cons rfl (keep_cons rfl (keep_cons rfl (keep_cons rfl keep_nil))))))))) lkeep_nil keep_nil rfl ?_ | refine g_keep [0, 1, 5, 6, 7, 8, 9, 10, 91] [] [] rfl rfl rfl rfl ?_
            refine g_cond rfl (fun hc91 => ?_) (fun hc91 => ?_)
            · try simp only [decide_eq_true_eq, decide_eq_false_iff_not, Bool.not_eq_true', Bool.not_eq_false', Bool.not_eq_eq_eq_not, Bool.not_true, Bool.not_false, Bool.and_eq_true, Bool.or_eq_true, Bool.or_eq_false_iff, beq_iff_eq, beq_eq_false_iff_ne, ne_eq, Int.not_lt, Int.not_le, Decidable.not_not] at hc91
              refine g_region ?_
              refine g_step rfl (s_val (v_move rfl) rfl rfl ?_)
              refine g_step rfl (s_val (v_move rfl) rfl rfl ?_)
              refine g_step rfl (s_val (v_move rfl) rfl rfl ?_)
              refine g_step rfl (s_val (v_indexAddr ty23 ty28 rfl rfl (by first | rfl | assumption) (by first | rfl | exact (rfl : (0 : Int) = ((0 : Nat) : Int)) | exact (Int.toNat_of_nonneg (by omega)).symm) (by first | assumption | exact map_get (by assumption) | rfl) rfl) rfl rfl ?_)
              refine g_step rfl (s_val (by first | exact v_load_elt ty28 rfl rfl (by first | rfl | assumption) (by first | assumption | exact map_get (by assumption) | rfl) rfl rfl | exact v_load_box_all ty28 rfl rfl (by assumption) rfl rfl | exact v_load_part (cs := [_, _, _, _, _, _, _]) ty28 rfl rfl (by first | rfl | assumption) (by first | assumption | exact map_get (by assumption) | rfl) rfl rfl rfl | exact v_load_box_part (cs := [_, _, _, _, _, _, _]) ty28 rfl rfl (by assumption) rfl rfl rfl) rfl rfl ?_)
              refine g_step rfl (s_lit ty23 ty28 rfl rfl rfl rfl rfl rfl rfl ?_)
              refine g_step rfl (s_append (l := (((b.take k).filter (isNew a)).map encR)) (m := ([x].map encR)) ty23 ty28 rfl rfl hown rfl rfl (by refine Even.map _ ?_ _; intro _; rfl) (by intro x hx; obtain ⟨_, _, rfl⟩ := List.mem_map.1 hx; rfl) rfl (by simp; omega) (by simp; omega) ?_)
              intro av98 G98 hown98
              refine g_step rfl (s_val (v_assign rfl) rfl rfl ?_)
              refine g_nil ?_
              refine g_block_normal ?_
              refine g_next hK15 ?_
              refine g_region ?_
              refine g_step rfl (s_val (v_move rfl) rfl rfl ?_)
              refine g_step rfl (s_val (v_add rfl rfl (by omega)) rfl rfl ?_)
              refine g_step rfl (s_val (v_assign rfl) rfl rfl ?_)
              refine g_nil ?_
              first | refine g_keep [0, 1, 5, 6, 7, 8, 9, 10] [] [] (keep_cons rfl (keep_cons rfl (keep_cons rfl (keep_cons rfl (keep_cons rfl (keep_cons rfl (keep_cons rfl (keep_cons rfl keep_nil)))))))) lkeep_nil keep_nil rfl ?_ | refine g_keep [0, 1, 5, 6, 7, 8, 9, 10] [] [] rfl rfl rfl rfl ?_
              first | exact g_round _ (by omega) ⟨k + 1, av98, by omega, rfl, rfl, rfl, rfl, by rw [filter_snoc hx, if_pos (by rw [isNew_rfind]; simp_all), List.map_append]; exact hown98⟩ | exact g_round _ (by omega) ⟨k + 1, av, by omega, rfl, rfl, rfl, rfl, by rw [filter_snoc hx, if_neg (by rw [isNew_rfind]; simp_all), List.append_nil]; exact hown⟩
            · try simp only [decide_eq_true_eq, decide_eq_false_iff_not, Bool.not_eq_true', Bool.not_eq_false', Bool.not_eq_eq_eq_not, Bool.not_true, Bool.not_false, Bool.and_eq_true, Bool.or_eq_true, Bool.or_eq_false_iff, beq_iff_eq, beq_eq_false_iff_ne, ne_eq, Int.not_lt, Int.not_le, Decidable.not_not] at hc91
              refine g_skip ?_
              refine g_block_normal ?_
              refine g_next hK15 ?_
              refine g_region ?_
              refine g_step rfl (s_val (v_move rfl) rfl rfl ?_)
              refine g_step rfl (s_val (v_add rfl rfl (by omega)) rfl rfl ?_)
              refine g_step rfl (s_val (v_assign rfl) rfl rfl ?_)
              refine g_nil ?_
              first | refine g_keep [0, 1, 5, 6, 7, 8, 9, 10] [] [] (keep_cons rfl (keep_cons rfl (keep_cons rfl (keep_cons rfl (keep_cons rfl (keep_cons rfl (keep_cons rfl (keep_cons rfl keep_nil)))))))) lkeep_nil keep_nil rfl ?_ | refine g_keep [0, 1, 5, 6, 7, 8, 9, 10] [] [] rfl rfl rfl rfl ?_
              first | exact g_round _ (by omega) ⟨k + 1, av98, by omega, rfl, rfl, rfl, rfl, by rw [filter_snoc hx, if_pos (by rw [isNew_rfind]; simp_all), List.map_append]; exact hown98⟩ | exact g_round _ (by omega) ⟨k + 1, av, by omega, rfl, rfl, rfl, rfl, by rw [filter_snoc hx, if_neg (by rw [isNew_rfind]; simp_all), List.append_nil]; exact hown⟩
        · try simp only [decide_eq_true_eq, decide_eq_false_iff_not, Bool.not_eq_true', Bool.not_eq_false', Bool.not_eq_eq_eq_not, Bool.not_true, Bool.not_false, Bool.and_eq_true, Bool.or_eq_true, Bool.or_eq_false_iff, beq_iff_eq, beq_eq_false_iff_ne, ne_eq, Int.not_lt, Int.not_le, Decidable.not_not] at hc68
          obtain rfl : k = b.length := by omega
          rw [List.take_length] at hown
          refine g_exit ?_
          refine g_then_exit ?_
          refine g_then_exit ?_
          refine g_block_same ?_
          refine g_next hK11 ?_
          refine g_seq (fun K18 hK18 => ?_)
          refine g_region ?_
          rw [← hdd] at hown
          refine g_freeze 9 rfl hown ?_
          refine g_step rfl (s_val (v_assign rfl) rfl rfl ?_)
          refine g_nil ?_
          refine g_next hK18 ?_
          refine g_seq (fun K19 hK19 => ?_)
          refine g_seq (fun K20 hK20 => ?_)
          refine g_region ?_
          refine g_step rfl (s_val (v_assign rfl) rfl rfl ?_)
          refine g_nil ?_
          refine g_next hK20 ?_
          refine g_block ?_
          first | refine g_keep [0, 1, 5, 6, 7, 8, 9, 13, 14] [] [] (keep_cons rfl (keep_cons rfl (keep_cons rfl (keep_cons rfl (keep_cons rfl (keep_cons rfl (keep_cons rfl (keep_cons rfl (keep_cons rfl keep_nil))))))))) lkeep_nil keep_nil rfl ?_ | refine g_keep [0, 1, 5, 6, 7, 8, 9, 13, 14] [] [] rfl rfl rfl rfl ?_
          refine g_loop (fun n env L B G => ∃ (j : Nat) (c : Int), j ≤ a.length ∧ n = a.length - j ∧ env = [(0, encRs a), (1, encRs b), (5, (encRs (diffL a b))), (6, .bool true), (7, .imm ((goneL a b).map (.int .i64))), (8, .bool true), (9, (encRs (diffL a b))), (13, .int .i64 c), (14, .int .i64 (j : Int))] ∧ L = [] ∧ B = [] ∧ H = G ∧ c = (((a.take j).filter (isGone b)).length : Nat)) (a.length) ⟨0, 0, Nat.zero_le _, rfl, rfl, rfl, rfl, rfl, rfl⟩ (fun n env L B G hI => ?_)
          obtain ⟨j, c, hj, rfl, rfl, rfl, rfl, rfl, hcn⟩ := hI
          refine g_seq (fun K21 hK21 => ?_)
          refine g_seq (fun K22 hK22 => ?_)
          refine g_region ?_
          refine g_step rfl (s_val (v_move rfl) rfl rfl ?_)
          refine g_step rfl (s_val (v_move rfl) rfl rfl ?_)
          refine g_step rfl (s_val (v_len ty23 rfl (by first | rfl | assumption) (by first | exact List.length_map .. | rfl)) rfl rfl ?_)
          refine g_step rfl (s_val (v_lss rfl rfl) rfl rfl ?_)
          refine g_nil ?_
          refine g_next hK22 ?_
          refine g_cond rfl (fun hc102 => ?_) (fun hc102 => ?_)
          · try simp only [decide_eq_true_eq, decide_eq_false_iff_not, Bool.not_eq_true', Bool.not_eq_false', Bool.not_eq_eq_eq_not, Bool.not_true, Bool.not_false, Bool.and_eq_true, Bool.or_eq_true, Bool.or_eq_false_iff, beq_iff_eq, beq_eq_false_iff_ne, ne_eq, Int.not_lt, Int.not_le, Decidable.not_not] at hc102
            obtain ⟨r, hr⟩ := get_some (l := a) (k := j) (by omega)
            have hgl := List.length_filter_le (isGone b) (a.take j)
            rw [List.length_take] at hgl
            refine g_skip ?_
            refine g_next hK21 ?_
            refine g_seq (fun K23 hK23 => ?_)
            refine g_block ?_
            refine g_seq (fun K24 hK24 => ?_)
            refine g_region ?_
            refine g_step rfl (s_val (v_move rfl) rfl rfl ?_)
            refine g_step rfl (s_val (v_move rfl) rfl rfl ?_)
            refine g_step rfl (s_val (v_move rfl) rfl rfl ?_)
            refine g_step rfl (s_val (v_indexAddr ty23 ty28 rfl rfl (by first | rfl | assumption) (by first | rfl | exact (rfl : (0 : Int) = ((0 : Nat) : Int)) | exact (Int.toNat_of_nonneg (by omega)).symm) (by first | assumption | exact map_get (by assumption) | rfl) rfl) rfl rfl ?_)
            refine g_step rfl (s_val (by first | exact v_fieldAddr ty28 fo28_0 ty3 rfl | exact v_fieldAddr_box ty28 fo28_0 ty3 rfl) rfl rfl ?_)
            refine g_step rfl (s_val (by first | exact v_load ty3 rfl rfl (by first | rfl | assumption) (by first | assumption | exact map_get (by assumption) | rfl) rfl | exact v_load_box ty3 rfl rfl (by assumption) rfl) rfl rfl ?_)
            refine g_step rfl (s_callp rfl rfl rfl (find_ok b r.id _ _ rfl (by omega) hsb) ?_)
            rintro _ rfl
            refine g_step rfl (s_val (v_move rfl) rfl rfl ?_)
            refine g_step rfl (s_val (v_extract rfl rfl) rfl rfl ?_)
            refine g_step rfl (s_val (v_extract rfl rfl) rfl rfl ?_)
            refine g_step rfl (s_alloc (av := (.agg [(.int .i64 0), (.int .i64 0), (.int .i64 0), (.int .i64 0), (.int .i64 0), (.bool false), .nil0])) ty28 rfl rfl rfl rfl ?_)
            refine g_step rfl (s_store_all ty28 rfl rfl rfl rfl rfl rfl ?_)
            refine g_step rfl (s_val (v_assign rfl) rfl rfl ?_)
            refine g_nil ?_
            refine g_next hK24 ?_
            refine g_seq (fun K25 hK25 => ?_)
            refine g_region ?_
            refine g_step rfl (s_val (v_move rfl) rfl rfl ?_)
            refine g_step rfl (s_val (v_not rfl) rfl rfl ?_)
            refine g_nil ?_
            refine g_next hK25 ?_
            first | refine g_keep [0, 1, 5, 6, 7, 8, 9, 13, 14, 116] [] [] (keep_cons rfl (keep_cons rfl (keep_cons rfl (keep_cons rfl (keep_cons rfl (keep_cons rfl (keep_cons rfl (keep_cons rfl (keep_cons rfl (keep_cons rfl keep_nil)))))))))) lkeep_nil keep_nil rfl ?_ | refine g_keep [0, 1, 5, 6, 7, 8, 9, 13, 14, 116] [] [] rfl rfl rfl rfl ?_
            refine g_cond rfl (fun hc116 => ?_) (fun hc116 => ?_)
            · try simp only [decide_eq_true_eq, decide_eq_false_iff_not, Bool.not_eq_true', Bool.not_eq_false', Bool.not_eq_eq_eq_not, Bool.not_true, Bool.not_false, Bool.and_eq_true, Bool.or_eq_true, Bool.or_eq_false_iff, beq_iff_eq, beq_eq_false_iff_ne, ne_eq, Int.not_lt, Int.not_le, Decidable.not_not] at hc116
              have hgo : isGone b r = true := by rw [isGone_rfind]; simp_all
              have hga := gone_at hya hyb hr hgo
              obtain ⟨hgb, _⟩ := List.getElem?_eq_some_iff.1 hga
              refine g_seq (fun K26 hK26 => ?_)
              refine g_seq (fun K27 hK27 => ?_)
              refine g_draw (n := 16) (fun j => !([] : List Nat).contains j) rfl rfl ?_
              refine m_take 0 false rfl rfl (by kernel_rfl) (by kernel_rfl) (by kernel_rfl) (fun _ _ _ _ h => h) (v_move rfl) rfl rfl ?_
              refine m_take 1 false rfl rfl (by kernel_rfl) (by kernel_rfl) (by kernel_rfl) (fun _ _ _ _ h => h) (v_move rfl) rfl rfl ?_
              refine m_take 2 false rfl rfl (by kernel_rfl) (by kernel_rfl) (by kernel_rfl) (fun _ _ _ _ h => h) (v_len ty41 rfl (by first | rfl | assumption) (by first | exact List.length_map .. | rfl)) rfl rfl ?_
              refine m_take 3 false rfl rfl (by kernel_rfl) (by kernel_rfl) (by kernel_rfl) (fun _ _ _ _ h => h) (v_geq rfl rfl) rfl rfl ?_
              refine m_take 4 false rfl rfl (by kernel_rfl) (by kernel_rfl) (by kernel_rfl) (fun _ _ _ _ h => h) (v_move rfl) rfl rfl ?_
              refine m_split 121 rfl (fun hg121 => ?_) (fun hg121 => ?_)
              · exfalso; (try simp only [decide_eq_true_eq, decide_eq_false_iff_not, Bool.not_eq_true', Bool.not_eq_false', Bool.not_eq_eq_eq_not, Bool.not_true, Bool.not_false, Bool.and_eq_true, Bool.or_eq_true, Bool.or_eq_false_iff, beq_iff_eq, beq_eq_false_iff_ne, ne_eq, Int.not_lt, Int.not_le, Decidable.not_not] at hg121); omega
              · try simp only [decide_eq_true_eq, decide_eq_false_iff_not, Bool.not_eq_true', Bool.not_eq_false', Bool.not_eq_eq_eq_not, Bool.not_true, Bool.not_false, Bool.and_eq_true, Bool.or_eq_true, Bool.or_eq_false_iff, beq_iff_eq, beq_eq_false_iff_ne, ne_eq, Int.not_lt, Int.not_le, Decidable.not_not] at hg121
                refine m_take_yes (j := 4) (t := 121) 5 false rfl rfl rfl rfl rfl (by kernel_rfl) (by kernel_rfl) (by kernel_rfl) (fun _ _ _ _ h => h) (v_move rfl) rfl rfl ?_
                refine m_take_yes (j := 4) (t := 121) 6 false rfl rfl rfl rfl rfl (by kernel_rfl) (by kernel_rfl) (by kernel_rfl) (fun _ _ _ _ h => h) (v_move rfl) rfl rfl ?_
                refine m_take_yes (j := 4) (t := 121) 7 false rfl rfl rfl rfl rfl (by kernel_rfl) (by kernel_rfl) (by kernel_rfl) (fun _ _ _ _ h => h) (v_indexAddr ty41 ty3 rfl rfl (by first | rfl | assumption) hcn (map_get hga) rfl) rfl rfl ?_
                refine m_take_yes (j := 4) (t := 121) 8 true rfl rfl rfl rfl rfl (by kernel_rfl) (by kernel_rfl) (by kernel_rfl) (fun _ _ _ _ h => h) (by first | exact v_load ty3 rfl rfl (by first | rfl | assumption) (map_get hga) rfl | exact v_load_box ty3 rfl rfl (by assumption) rfl) rfl rfl ?_
                refine m_take_yes (j := 4) (t := 121) 9 false rfl rfl rfl rfl rfl (by kernel_rfl) (by kernel_rfl) (by kernel_rfl) (fun _ _ _ _ h => h) (v_move rfl) rfl rfl ?_
                refine m_take_yes (j := 4) (t := 121) 10 false rfl rfl rfl rfl rfl (by kernel_rfl) (by kernel_rfl) (by kernel_rfl) (fun _ _ _ _ h => h) (v_move rfl) rfl rfl ?_
                refine m_take_yes (j := 4) (t := 121) 11 false rfl rfl rfl rfl rfl (by kernel_rfl) (by kernel_rfl) (by kernel_rfl) (fun _ _ _ _ h => h) (v_indexAddr ty23 ty28 rfl rfl (by first | rfl | assumption) (by first | rfl | exact (rfl : (0 : Int) = ((0 : Nat) : Int)) | exact (Int.toNat_of_nonneg (by omega)).symm) (by first | assumption | exact map_get (by assumption) | rfl) rfl) rfl rfl ?_
                refine m_take_yes (j := 4) (t := 121) 12 false rfl rfl rfl rfl rfl (by kernel_rfl) (by kernel_rfl) (by kernel_rfl) (fun _ _ _ _ h => h) (by first | exact v_fieldAddr ty28 fo28_0 ty3 rfl | exact v_fieldAddr_box ty28 fo28_0 ty3 rfl) rfl rfl ?_
                refine m_take_yes (j := 4) (t := 121) 13 true rfl rfl rfl rfl rfl (by kernel_rfl) (by kernel_rfl) (by kernel_rfl) (fun _ _ _ _ h => h) (by first | exact v_load ty3 rfl rfl (by first | rfl | assumption) (by first | assumption | exact map_get (by assumption) | rfl) rfl | exact v_load_box ty3 rfl rfl (by assumption) rfl) rfl rfl ?_
                refine m_take_yes (j := 4) (t := 121) 14 false rfl rfl rfl rfl rfl (by kernel_rfl) (by kernel_rfl) (by kernel_rfl) (fun _ _ _ _ h => h) (v_neq rfl rfl) rfl rfl ?_
                refine m_take 15 false rfl rfl (by kernel_rfl) (by kernel_rfl) (by kernel_rfl) (fun _ _ _ _ h => h) (v_pick_f rfl rfl) rfl rfl ?_
                refine m_done (by kernel_rfl) ?_
                refine g_next hK27 ?_
                first | refine g_keep [0, 1, 5, 6, 7, 8, 9, 13, 14, 132] [] [] (keep_cons rfl (keep_cons rfl (keep_cons rfl (keep_cons rfl (keep_cons rfl (keep_cons rfl (keep_cons rfl (keep_cons rfl (keep_cons rfl (keep_cons rfl keep_nil)))))))))) lkeep_nil keep_nil rfl ?_ | refine g_keep [0, 1, 5, 6, 7, 8, 9, 13, 14, 132] [] [] rfl rfl rfl rfl ?_
                refine g_cond rfl (fun hc132 => ?_) (fun hc132 => ?_)
                · exfalso; (try simp only [decide_eq_true_eq, decide_eq_false_iff_not, Bool.not_eq_true', Bool.not_eq_false', Bool.not_eq_eq_eq_not, Bool.not_true, Bool.not_false, Bool.and_eq_true, Bool.or_eq_true, Bool.or_eq_false_iff, beq_iff_eq, beq_eq_false_iff_ne, ne_eq, Int.not_lt, Int.not_le, Decidable.not_not] at hc132); first | (simp at hc132; done) | exact hc132 rfl | (simp at hg132; done)
                · try simp only [decide_eq_true_eq, decide_eq_false_iff_not, Bool.not_eq_true', Bool.not_eq_false', Bool.not_eq_eq_eq_not, Bool.not_true, Bool.not_false, Bool.and_eq_true, Bool.or_eq_true, Bool.or_eq_false_iff, beq_iff_eq, beq_eq_false_iff_ne, ne_eq, Int.not_lt, Int.not_le, Decidable.not_not] at hc132
                  refine g_skip ?_
                  refine g_next hK26 ?_
                  refine g_region ?_
                  refine g_step rfl (s_val (v_move rfl) rfl rfl ?_)
                  refine g_step rfl (s_val (v_add rfl rfl (by omega)) rfl rfl ?_)
                  refine g_step rfl (s_val (v_assign rfl) rfl rfl ?_)
                  refine g_nil ?_
                  refine g_block_normal ?_
                  refine g_next hK23 ?_
                  refine g_region ?_
                  refine g_step rfl (s_val (v_move rfl) rfl rfl ?_)
                  refine g_step rfl (s_val (v_add rfl rfl (by omega)) rfl rfl ?_)
                  refine g_step rfl (s_val (v_assign rfl) rfl rfl ?_)
                  refine g_nil ?_
                  first | refine g_keep [0, 1, 5, 6, 7, 8, 9, 13, 14] [] [] (keep_cons rfl (keep_cons rfl (keep_cons rfl (keep_cons rfl (keep_cons rfl (keep_cons rfl (keep_cons rfl (keep_cons rfl (keep_cons rfl keep_nil))))))))) lkeep_nil keep_nil rfl ?_ | refine g_keep [0, 1, 5, 6, 7, 8, 9, 13, 14] [] [] rfl rfl rfl rfl ?_
                  first | exact g_round _ (by omega) ⟨j + 1, c + 1, by omega, rfl, rfl, rfl, rfl, rfl, by rw [filter_snoc hr, if_pos hgo, List.length_append, hcn]; rfl⟩ | exact g_round _ (by omega) ⟨j + 1, c, by omega, rfl, rfl, rfl, rfl, rfl, by rw [filter_snoc hr, if_neg (by rw [isGone_rfind]; simp_all), List.append_nil]; exact hcn⟩
            · try simp only [decide_eq_true_eq, decide_eq_false_iff_not, Bool.not_eq_true', Bool.not_eq_false', Bool.not_eq_eq_eq_not, Bool.not_true, Bool.not_false, Bool.and_eq_true, Bool.or_eq_true, Bool.or_eq_false_iff, beq_iff_eq, beq_eq_false_iff_ne, ne_eq, Int.not_lt, Int.not_le, Decidable.not_not] at hc116
              refine g_skip ?_
              refine g_block_normal ?_
              refine g_next hK23 ?_
              refine g_region ?_
              refine g_step rfl (s_val (v_move rfl) rfl rfl ?_)
              refine g_step rfl (s_val (v_add rfl rfl (by omega)) rfl rfl ?_)
              refine g_step rfl (s_val (v_assign rfl) rfl rfl ?_)
              refine g_nil ?_
              first | refine g_keep [0, 1, 5, 6, 7, 8, 9, 13, 14] [] [] (keep_cons rfl (keep_cons rfl (keep_cons rfl (keep_cons rfl (keep_cons rfl (keep_cons rfl (keep_cons rfl (keep_cons rfl (keep_cons rfl keep_nil))))))))) lkeep_nil keep_nil rfl ?_ | refine g_keep [0, 1, 5, 6, 7, 8, 9, 13, 14] [] [] rfl rfl rfl rfl ?_
              first | exact g_round _ (by omega) ⟨j + 1, c + 1, by omega, rfl, rfl, rfl, rfl, rfl, by rw [filter_snoc hr, if_pos hgo, List.length_append, hcn]; rfl⟩ | exact g_round _ (by omega) ⟨j + 1, c, by omega, rfl, rfl, rfl, rfl, rfl, by rw [filter_snoc hr, if_neg (by rw [isGone_rfind]; simp_all), List.append_nil]; exact hcn⟩
          · try simp only [decide_eq_true_eq, decide_eq_false_iff_not, Bool.not_eq_true', Bool.not_eq_false', Bool.not_eq_eq_eq_not, Bool.not_true, Bool.not_false, Bool.and_eq_true, Bool.or_eq_true, Bool.or_eq_false_iff, beq_iff_eq, beq_eq_false_iff_ne, ne_eq, Int.not_lt, Int.not_le, Decidable.not_not] at hc102
            obtain rfl : j = a.length := by omega
            rw [List.take_length] at hcn
            refine g_exit ?_
            refine g_then_exit ?_
            refine g_then_exit ?_
            refine g_block_same ?_
            refine g_next hK19 ?_
            refine g_seq (fun K28 hK28 => ?_)
            refine g_region ?_
            refine g_step rfl (s_val (v_move rfl) rfl rfl ?_)
            refine g_step rfl (s_val (v_move rfl) rfl rfl ?_)
            refine g_split 136 rfl (fun hg136 => ?_) (fun hg136 => ?_)
            · try simp only [decide_eq_true_eq, decide_eq_false_iff_not, Bool.not_eq_true', Bool.not_eq_false', Bool.not_eq_eq_eq_not, Bool.not_true, Bool.not_false, Bool.and_eq_true, Bool.or_eq_true, Bool.or_eq_false_iff, beq_iff_eq, beq_eq_false_iff_ne, ne_eq, Int.not_lt, Int.not_le, Decidable.not_not] at hg136
              refine g_step_yes (j := 1) (t := 136) rfl rfl rfl rfl (s_val (v_move rfl) rfl rfl ?_)
              refine g_step rfl (s_val (v_pick_t rfl rfl) rfl rfl ?_)
              refine g_step rfl (s_val (v_move rfl) rfl rfl ?_)
              refine g_split 139 rfl (fun hg139 => ?_) (fun hg139 => ?_)
              · try simp only [decide_eq_true_eq, decide_eq_false_iff_not, Bool.not_eq_true', Bool.not_eq_false', Bool.not_eq_eq_eq_not, Bool.not_true, Bool.not_false, Bool.and_eq_true, Bool.or_eq_true, Bool.or_eq_false_iff, beq_iff_eq, beq_eq_false_iff_ne, ne_eq, Int.not_lt, Int.not_le, Decidable.not_not] at hg139
                refine g_step_yes (j := 4) (t := 139) rfl rfl rfl rfl (s_val (v_move rfl) rfl rfl ?_)
                refine g_step_yes (j := 4) (t := 139) rfl rfl rfl rfl (s_val (v_move rfl) rfl rfl ?_)
                refine g_step_yes (j := 4) (t := 139) rfl rfl rfl rfl (s_callp rfl rfl rfl (allAlike_ok (diffL a b) (diffL a b) _ _ _ rfl rfl (by have := diff_len a b; omega) (diff_small hsa hsb)) ?_)
                rintro _ rfl
                refine g_step rfl (s_val (v_pick_t rfl rfl) rfl rfl ?_)
                refine g_step rfl (s_val (v_move rfl) rfl rfl ?_)
                refine g_split 144 rfl (fun hg144 => ?_) (fun hg144 => ?_)
                · try simp only [decide_eq_true_eq, decide_eq_false_iff_not, Bool.not_eq_true', Bool.not_eq_false', Bool.not_eq_eq_eq_not, Bool.not_true, Bool.not_false, Bool.and_eq_true, Bool.or_eq_true, Bool.or_eq_false_iff, beq_iff_eq, beq_eq_false_iff_ne, ne_eq, Int.not_lt, Int.not_le, Decidable.not_not] at hg144
                  refine g_step_yes (j := 9) (t := 144) rfl rfl rfl rfl (s_val (v_move rfl) rfl rfl ?_)
                  refine g_step_yes (j := 9) (t := 144) rfl rfl rfl rfl (s_val (v_len ty41 rfl (by first | rfl | assumption) (by first | exact List.length_map .. | rfl)) rfl rfl ?_)
                  refine g_step_yes (j := 9) (t := 144) rfl rfl rfl rfl (s_val (v_move rfl) rfl rfl ?_)
                  refine g_step_yes (j := 9) (t := 144) rfl rfl rfl rfl (s_val (v_eql rfl rfl) rfl rfl ?_)
                  refine g_step rfl (s_val (v_pick_t rfl rfl) rfl rfl ?_)
                  refine g_step rfl (s_val (v_move rfl) rfl rfl ?_)
                  refine g_split 150 rfl (fun hg150 => ?_) (fun hg150 => ?_)
                  · try simp only [decide_eq_true_eq, decide_eq_false_iff_not, Bool.not_eq_true', Bool.not_eq_false', Bool.not_eq_eq_eq_not, Bool.not_true, Bool.not_false, Bool.and_eq_true, Bool.or_eq_true, Bool.or_eq_false_iff, beq_iff_eq, beq_eq_false_iff_ne, ne_eq, Int.not_lt, Int.not_le, Decidable.not_not] at hg150
                    refine g_step_yes (j := 15) (t := 150) rfl rfl rfl rfl (s_callp rfl rfl rfl (awake14_ok _) ?_)
                    rintro _ rfl
                    refine g_step rfl (s_val (v_pick_t rfl rfl) rfl rfl ?_)
                    refine g_step rfl (s_val (v_assign rfl) rfl rfl ?_)
                    refine g_nil ?_
                    refine g_next hK28 ?_
                    first | refine g_keep [4] [] [] (keep_cons rfl keep_nil) lkeep_nil keep_nil rfl ?_ | refine g_keep [4] [] [] rfl rfl rfl rfl ?_
                    refine g_ret ?_
                    refine g_end1 (.inl rfl) Try.results11 (.tmp rfl) [] (ASub.refl _) (AHeap.sub_refl _) (fun p hp => by cases hp) ⟨rfl, ?_⟩
                    rfl
                  · exfalso; (try simp only [decide_eq_true_eq, decide_eq_false_iff_not, Bool.not_eq_true', Bool.not_eq_false', Bool.not_eq_eq_eq_not, Bool.not_true, Bool.not_false, Bool.and_eq_true, Bool.or_eq_true, Bool.or_eq_false_iff, beq_iff_eq, beq_eq_false_iff_ne, ne_eq, Int.not_lt, Int.not_le, Decidable.not_not] at hg150); rw [gone_srt hya hyb, List.length_map] at hg150; omega
                · exfalso; (try simp only [decide_eq_true_eq, decide_eq_false_iff_not, Bool.not_eq_true', Bool.not_eq_false', Bool.not_eq_eq_eq_not, Bool.not_true, Bool.not_false, Bool.and_eq_true, Bool.or_eq_true, Bool.or_eq_false_iff, beq_iff_eq, beq_eq_false_iff_ne, ne_eq, Int.not_lt, Int.not_le, Decidable.not_not] at hg144); simp at hg144
              · exfalso; (try simp only [decide_eq_true_eq, decide_eq_false_iff_not, Bool.not_eq_true', Bool.not_eq_false', Bool.not_eq_eq_eq_not, Bool.not_true, Bool.not_false, Bool.and_eq_true, Bool.or_eq_true, Bool.or_eq_false_iff, beq_iff_eq, beq_eq_false_iff_ne, ne_eq, Int.not_lt, Int.not_le, Decidable.not_not] at hg139); cases hg139
            · exfalso; (try simp only [decide_eq_true_eq, decide_eq_false_iff_not, Bool.not_eq_true', Bool.not_eq_false', Bool.not_eq_eq_eq_not, Bool.not_true, Bool.not_false, Bool.and_eq_true, Bool.or_eq_true, Bool.or_eq_false_iff, beq_iff_eq, beq_eq_false_iff_ne, ne_eq, Int.not_lt, Int.not_le, Decidable.not_not] at hg136); cases hg136

theorem deltaLays_ok (a b : List Rc) (hha : ∀ r ∈ a, Held r.bag) (hhb : ∀ r ∈ b, Held r.bag) (hla : a.length ≤ 140737488351232) (hlb : b.length ≤ 140737488351232) (G : AHeap) : PCalls Try.prog 13 [encRs a, encRs b] G (fun v => v = .bool true) := by
  refine LCalls.intro 65 fi13 rfl Try.ntmps13 rfl (fun _ h => h.elim) (fun H hH w0 hw0 => ?_)
  refine g_seq (fun K0 hK0 => ?_)
  refine g_region ?_
  refine g_step rfl (s_val (v_assign rfl) rfl rfl ?_)
  refine g_nil ?_
  refine g_next hK0 ?_
  refine g_seq (fun K1 hK1 => ?_)
  refine g_seq (fun K2 hK2 => ?_)
  refine g_region ?_
  refine g_step rfl (s_val (v_move rfl) rfl rfl ?_)
  refine g_step rfl (s_callp rfl rfl rfl (fewL_ok a _ _ rfl hha hla) ?_)
  rintro _ rfl
  refine g_step rfl (s_val (v_not rfl) rfl rfl ?_)
  refine g_step rfl (s_val (v_move rfl) rfl rfl ?_)
  refine g_split 12 rfl (fun hg12 => ?_) (fun hg12 => ?_)
  · try simp only [decide_eq_true_eq, decide_eq_false_iff_not, Bool.not_eq_true', Bool.not_eq_false', Bool.not_eq_eq_eq_not, Bool.not_true, Bool.not_false, Bool.and_eq_true, Bool.or_eq_true, Bool.or_eq_false_iff, beq_iff_eq, beq_eq_false_iff_ne, ne_eq, Int.not_lt, Int.not_le, Decidable.not_not] at hg12
    refine g_step_no (j := 3) (t := 12) rfl rfl rfl rfl rfl rfl rfl ?_
    refine g_step_no (j := 3) (t := 12) rfl rfl rfl rfl rfl rfl rfl ?_
    refine g_step_no (j := 3) (t := 12) rfl rfl rfl rfl rfl rfl rfl ?_
    refine g_step rfl (s_val (v_pick_t rfl rfl) rfl rfl ?_)
    refine g_nil ?_
    refine g_next hK2 ?_
    refine g_cond rfl (fun _ => ?_) (fun h => by cases h)
    refine g_seq (fun K3 hK3 => ?_)
    refine g_region ?_
    refine g_step rfl (s_callp rfl rfl rfl (awake14_ok _) ?_)
    rintro _ rfl
    refine g_step rfl (s_val (v_assign rfl) rfl rfl ?_)
    refine g_nil ?_
    refine g_next hK3 ?_
    refine g_ret ?_
    refine g_then_ret ?_
    refine g_end1 (.inl rfl) Try.results13 (.tmp rfl) [] (ASub.refl _) (AHeap.sub_refl _) (fun p hp => by cases hp) ⟨rfl, ?_⟩
    rfl
  · try simp only [decide_eq_true_eq, decide_eq_false_iff_not, Bool.not_eq_true', Bool.not_eq_false', Bool.not_eq_eq_eq_not, Bool.not_true, Bool.not_false, Bool.and_eq_true, Bool.or_eq_true, Bool.or_eq_false_iff, beq_iff_eq, beq_eq_false_iff_ne, ne_eq, Int.not_lt, Int.not_le, Decidable.not_not] at hg12
    refine g_step_yes (j := 3) (t := 12) rfl rfl rfl rfl (s_val (v_move rfl) rfl rfl ?_)
    refine g_step_yes (j := 3) (t := 12) rfl rfl rfl rfl (s_callp rfl rfl rfl (fewL_ok b _ _ rfl hhb hlb) ?_)
    rintro _ rfl
    refine g_step_yes (j := 3) (t := 12) rfl rfl rfl rfl (s_val (v_not rfl) rfl rfl ?_)
    refine g_step rfl (s_val (v_pick_f rfl rfl) rfl rfl ?_)
    refine g_nil ?_
    refine g_next hK2 ?_
    refine g_cond rfl (fun hc16 => ?_) (fun hc16 => ?_)
    · try simp only [decide_eq_true_eq, decide_eq_false_iff_not, Bool.not_eq_true', Bool.not_eq_false', Bool.not_eq_eq_eq_not, Bool.not_true, Bool.not_false, Bool.and_eq_true, Bool.or_eq_true, Bool.or_eq_false_iff, beq_iff_eq, beq_eq_false_iff_ne, ne_eq, Int.not_lt, Int.not_le, Decidable.not_not] at hc16
      refine g_seq (fun K4 hK4 => ?_)
      refine g_region ?_
      refine g_step rfl (s_callp rfl rfl rfl (awake14_ok _) ?_)
      rintro _ rfl
      refine g_step rfl (s_val (v_assign rfl) rfl rfl ?_)
      refine g_nil ?_
      refine g_next hK4 ?_
      refine g_ret ?_
      refine g_then_ret ?_
      refine g_end1 (.inl rfl) Try.results13 (.tmp rfl) [] (ASub.refl _) (AHeap.sub_refl _) (fun p hp => by cases hp) ⟨rfl, ?_⟩
      rfl
    · try simp only [decide_eq_true_eq, decide_eq_false_iff_not, Bool.not_eq_true', Bool.not_eq_false', Bool.not_eq_eq_eq_not, Bool.not_true, Bool.not_false, Bool.and_eq_true, Bool.or_eq_true, Bool.or_eq_false_iff, beq_iff_eq, beq_eq_false_iff_ne, ne_eq, Int.not_lt, Int.not_le, Decidable.not_not] at hc16
      have hf : fewL a = true ∧ fewL b = true := by first | exact ⟨by assumption, by assumption⟩ | simp_all
      obtain ⟨ha20, hsa⟩ := fewL_small hf.1
      obtain ⟨hb20, hsb⟩ := fewL_small hf.2
      refine g_skip ?_
      refine g_next hK1 ?_
      refine g_seq (fun K5 hK5 => ?_)
      refine g_region ?_
      refine g_step rfl (s_val (v_move rfl) rfl rfl ?_)
      refine g_step rfl (s_val (v_move rfl) rfl rfl ?_)
      refine g_step rfl (s_callp rfl rfl rfl (dover_ok a b _ (by omega) (by omega) hsa hsb) ?_)
      rintro _ rfl
      refine g_step rfl (s_val (v_move rfl) rfl rfl ?_)
      refine g_step rfl (s_val (v_extract rfl rfl) rfl rfl ?_)
      refine g_step rfl (s_val (v_extract rfl rfl) rfl rfl ?_)
      refine g_step rfl (s_val (v_assign rfl) rfl rfl ?_)
      refine g_step rfl (s_val (v_assign rfl) rfl rfl ?_)
      refine g_nil ?_
      refine g_next hK5 ?_
      refine g_cut (fun env L B G => env = [(0, encRs a), (1, encRs b), (5, (encRs (overL a b))), (6, .bool true)] ∧ L = [] ∧ B = [] ∧ H = G ∧ srt a = true ∧ srt b = true) ?_ (fun env L B G hI => ?_)
      · skip
        refine g_seq (fun K6 hK6 => ?_)
        refine g_region ?_
        refine g_step rfl (s_val (v_move rfl) rfl rfl ?_)
        refine g_step rfl (s_callp rfl rfl rfl (sorted_ok a _ (by omega) hsa) ?_)
        rintro _ rfl
        refine g_step rfl (s_val (v_not rfl) rfl rfl ?_)
        refine g_step rfl (s_val (v_move rfl) rfl rfl ?_)
        refine g_split 27 rfl (fun hg27 => ?_) (fun hg27 => ?_)
        · try simp only [decide_eq_true_eq, decide_eq_false_iff_not, Bool.not_eq_true', Bool.not_eq_false', Bool.not_eq_eq_eq_not, Bool.not_true, Bool.not_false, Bool.and_eq_true, Bool.or_eq_true, Bool.or_eq_false_iff, beq_iff_eq, beq_eq_false_iff_ne, ne_eq, Int.not_lt, Int.not_le, Decidable.not_not] at hg27
          refine g_step_no (j := 3) (t := 27) rfl rfl rfl rfl rfl rfl rfl ?_
          refine g_step_no (j := 3) (t := 27) rfl rfl rfl rfl rfl rfl rfl ?_
          refine g_step_no (j := 3) (t := 27) rfl rfl rfl rfl rfl rfl rfl ?_
          refine g_step rfl (s_val (v_pick_t rfl rfl) rfl rfl ?_)
          refine g_nil ?_
          refine g_next hK6 ?_
          first | refine g_keep [0, 1, 5, 6, 31] [] [] (keep_cons rfl (keep_cons rfl (keep_cons rfl (keep_cons rfl (keep_cons rfl keep_nil))))) lkeep_nil keep_nil rfl ?_ | refine g_keep [0, 1, 5, 6, 31] [] [] rfl rfl rfl rfl ?_
          refine g_cond rfl (fun _ => ?_) (fun h => by cases h)
          refine g_seq (fun K7 hK7 => ?_)
          refine g_region ?_
          have hno : (srt a && srt b) = false := by simp_all
          refine g_step rfl (s_val (v_move rfl) rfl rfl ?_)
          refine g_step rfl (s_val (v_not rfl) rfl rfl ?_)
          refine g_step rfl (s_val (v_move rfl) rfl rfl ?_)
          refine g_split 34 rfl (fun hg34 => ?_) (fun hg34 => ?_)
          · try simp only [decide_eq_true_eq, decide_eq_false_iff_not, Bool.not_eq_true', Bool.not_eq_false', Bool.not_eq_eq_eq_not, Bool.not_true, Bool.not_false, Bool.and_eq_true, Bool.or_eq_true, Bool.or_eq_false_iff, beq_iff_eq, beq_eq_false_iff_ne, ne_eq, Int.not_lt, Int.not_le, Decidable.not_not] at hg34
            refine g_step_yes (j := 2) (t := 34) rfl rfl rfl rfl (s_val (v_move rfl) rfl rfl ?_)
            refine g_step_yes (j := 2) (t := 34) rfl rfl rfl rfl (s_val (v_len ty23 rfl (by first | rfl | assumption) (by first | exact List.length_map .. | rfl)) rfl rfl ?_)
            refine g_step_yes (j := 2) (t := 34) rfl rfl rfl rfl (s_val (v_eql rfl rfl) rfl rfl ?_)
            refine g_step rfl (s_val (v_pick_t rfl rfl) rfl rfl ?_)
            refine g_step rfl (s_val (v_move rfl) rfl rfl ?_)
            refine g_split 39 rfl (fun hg39 => ?_) (fun hg39 => ?_)
            · try simp only [decide_eq_true_eq, decide_eq_false_iff_not, Bool.not_eq_true', Bool.not_eq_false', Bool.not_eq_eq_eq_not, Bool.not_true, Bool.not_false, Bool.and_eq_true, Bool.or_eq_true, Bool.or_eq_false_iff, beq_iff_eq, beq_eq_false_iff_ne, ne_eq, Int.not_lt, Int.not_le, Decidable.not_not] at hg39
              refine g_step_yes (j := 7) (t := 39) rfl rfl rfl rfl (s_callp rfl rfl rfl (awake14_ok _) ?_)
              rintro _ rfl
              refine g_step rfl (s_val (v_pick_t rfl rfl) rfl rfl ?_)
              refine g_step rfl (s_val (v_assign rfl) rfl rfl ?_)
              refine g_nil ?_
              refine g_next hK7 ?_
              refine g_ret ?_
              refine g_then_ret ?_
              refine g_end1 (.inl rfl) Try.results13 (.tmp rfl) [] (ASub.refl _) (AHeap.sub_refl _) (fun p hp => by cases hp) ⟨rfl, ?_⟩
              rfl
            · exfalso; (try simp only [decide_eq_true_eq, decide_eq_false_iff_not, Bool.not_eq_true', Bool.not_eq_false', Bool.not_eq_eq_eq_not, Bool.not_true, Bool.not_false, Bool.and_eq_true, Bool.or_eq_true, Bool.or_eq_false_iff, beq_iff_eq, beq_eq_false_iff_ne, ne_eq, Int.not_lt, Int.not_le, Decidable.not_not] at hg39); rw [if_neg (by rintro ⟨h1, h2⟩; rw [h1, h2] at hno; cases hno)] at hg39; simp at hg39
          · exfalso; (try simp only [decide_eq_true_eq, decide_eq_false_iff_not, Bool.not_eq_true', Bool.not_eq_false', Bool.not_eq_eq_eq_not, Bool.not_true, Bool.not_false, Bool.and_eq_true, Bool.or_eq_true, Bool.or_eq_false_iff, beq_iff_eq, beq_eq_false_iff_ne, ne_eq, Int.not_lt, Int.not_le, Decidable.not_not] at hg34); rw [hg34.1, hg34.2] at hno; cases hno
        · try simp only [decide_eq_true_eq, decide_eq_false_iff_not, Bool.not_eq_true', Bool.not_eq_false', Bool.not_eq_eq_eq_not, Bool.not_true, Bool.not_false, Bool.and_eq_true, Bool.or_eq_true, Bool.or_eq_false_iff, beq_iff_eq, beq_eq_false_iff_ne, ne_eq, Int.not_lt, Int.not_le, Decidable.not_not] at hg27
          refine g_step_yes (j := 3) (t := 27) rfl rfl rfl rfl (s_val (v_move rfl) rfl rfl ?_)
          refine g_step_yes (j := 3) (t := 27) rfl rfl rfl rfl (s_callp rfl rfl rfl (sorted_ok b _ (by omega) hsb) ?_)
          rintro _ rfl
          refine g_step_yes (j := 3) (t := 27) rfl rfl rfl rfl (s_val (v_not rfl) rfl rfl ?_)
          refine g_step rfl (s_val (v_pick_f rfl rfl) rfl rfl ?_)
          refine g_nil ?_
          refine g_next hK6 ?_
          first | refine g_keep [0, 1, 5, 6, 31] [] [] (keep_cons rfl (keep_cons rfl (keep_cons rfl (keep_cons rfl (keep_cons rfl keep_nil))))) lkeep_nil keep_nil rfl ?_ | refine g_keep [0, 1, 5, 6, 31] [] [] rfl rfl rfl rfl ?_
          refine g_cond rfl (fun hc31 => ?_) (fun hc31 => ?_)
          · try simp only [decide_eq_true_eq, decide_eq_false_iff_not, Bool.not_eq_true', Bool.not_eq_false', Bool.not_eq_eq_eq_not, Bool.not_true, Bool.not_false, Bool.and_eq_true, Bool.or_eq_true, Bool.or_eq_false_iff, beq_iff_eq, beq_eq_false_iff_ne, ne_eq, Int.not_lt, Int.not_le, Decidable.not_not] at hc31
            refine g_seq (fun K8 hK8 => ?_)
            refine g_region ?_
            have hno : (srt a && srt b) = false := by simp_all
            refine g_step rfl (s_val (v_move rfl) rfl rfl ?_)
            refine g_step rfl (s_val (v_not rfl) rfl rfl ?_)
            refine g_step rfl (s_val (v_move rfl) rfl rfl ?_)
            refine g_split 34 rfl (fun hg34 => ?_) (fun hg34 => ?_)
            · try simp only [decide_eq_true_eq, decide_eq_false_iff_not, Bool.not_eq_true', Bool.not_eq_false', Bool.not_eq_eq_eq_not, Bool.not_true, Bool.not_false, Bool.and_eq_true, Bool.or_eq_true, Bool.or_eq_false_iff, beq_iff_eq, beq_eq_false_iff_ne, ne_eq, Int.not_lt, Int.not_le, Decidable.not_not] at hg34
              refine g_step_yes (j := 2) (t := 34) rfl rfl rfl rfl (s_val (v_move rfl) rfl rfl ?_)
              refine g_step_yes (j := 2) (t := 34) rfl rfl rfl rfl (s_val (v_len ty23 rfl (by first | rfl | assumption) (by first | exact List.length_map .. | rfl)) rfl rfl ?_)
              refine g_step_yes (j := 2) (t := 34) rfl rfl rfl rfl (s_val (v_eql rfl rfl) rfl rfl ?_)
              refine g_step rfl (s_val (v_pick_t rfl rfl) rfl rfl ?_)
              refine g_step rfl (s_val (v_move rfl) rfl rfl ?_)
              refine g_split 39 rfl (fun hg39 => ?_) (fun hg39 => ?_)
              · try simp only [decide_eq_true_eq, decide_eq_false_iff_not, Bool.not_eq_true', Bool.not_eq_false', Bool.not_eq_eq_eq_not, Bool.not_true, Bool.not_false, Bool.and_eq_true, Bool.or_eq_true, Bool.or_eq_false_iff, beq_iff_eq, beq_eq_false_iff_ne, ne_eq, Int.not_lt, Int.not_le, Decidable.not_not] at hg39
                refine g_step_yes (j := 7) (t := 39) rfl rfl rfl rfl (s_callp rfl rfl rfl (awake14_ok _) ?_)
                rintro _ rfl
                refine g_step rfl (s_val (v_pick_t rfl rfl) rfl rfl ?_)
                refine g_step rfl (s_val (v_assign rfl) rfl rfl ?_)
                refine g_nil ?_
                refine g_next hK8 ?_
                refine g_ret ?_
                refine g_then_ret ?_
                refine g_end1 (.inl rfl) Try.results13 (.tmp rfl) [] (ASub.refl _) (AHeap.sub_refl _) (fun p hp => by cases hp) ⟨rfl, ?_⟩
                rfl
              · exfalso; (try simp only [decide_eq_true_eq, decide_eq_false_iff_not, Bool.not_eq_true', Bool.not_eq_false', Bool.not_eq_eq_eq_not, Bool.not_true, Bool.not_false, Bool.and_eq_true, Bool.or_eq_true, Bool.or_eq_false_iff, beq_iff_eq, beq_eq_false_iff_ne, ne_eq, Int.not_lt, Int.not_le, Decidable.not_not] at hg39); rw [if_neg (by rintro ⟨h1, h2⟩; rw [h1, h2] at hno; cases hno)] at hg39; simp at hg39
            · exfalso; (try simp only [decide_eq_true_eq, decide_eq_false_iff_not, Bool.not_eq_true', Bool.not_eq_false', Bool.not_eq_eq_eq_not, Bool.not_true, Bool.not_false, Bool.and_eq_true, Bool.or_eq_true, Bool.or_eq_false_iff, beq_iff_eq, beq_eq_false_iff_ne, ne_eq, Int.not_lt, Int.not_le, Decidable.not_not] at hg34); rw [hg34.1, hg34.2] at hno; cases hno
          · try simp only [decide_eq_true_eq, decide_eq_false_iff_not, Bool.not_eq_true', Bool.not_eq_false', Bool.not_eq_eq_eq_not, Bool.not_true, Bool.not_false, Bool.and_eq_true, Bool.or_eq_true, Bool.or_eq_false_iff, beq_iff_eq, beq_eq_false_iff_ne, ne_eq, Int.not_lt, Int.not_le, Decidable.not_not] at hc31
            rw [show (srt a && srt b) = true from by simp_all, if_pos rfl]
            refine g_skip ?_
            first | refine g_keep [0, 1, 5, 6] [] [] (keep_cons rfl (keep_cons rfl (keep_cons rfl (keep_cons rfl keep_nil)))) lkeep_nil keep_nil rfl ?_ | refine g_keep [0, 1, 5, 6] [] [] rfl rfl rfl rfl ?_
            exact g_has ⟨rfl, rfl, rfl, rfl, ⟨by assumption, by assumption⟩⟩
      · skip
        obtain ⟨rfl, rfl, rfl, rfl, hya, hyb⟩ := hI
        have hdd := over_puts hya hyb
        refine g_seq (fun K9 hK9 => ?_)
        refine g_region ?_
        refine g_step rfl (s_val (v_move rfl) rfl rfl ?_)
        refine g_step rfl (s_callp rfl rfl rfl (recCopy_ok a _ _ rfl (by omega) hsa) ?_)
        rintro _ rfl
        refine g_step rfl (s_val (v_assign rfl) rfl rfl ?_)
        refine g_nil ?_
        refine g_next hK9 ?_
        refine g_seq (fun K10 hK10 => ?_)
        refine g_seq (fun K11 hK11 => ?_)
        refine g_region ?_
        refine g_step rfl (s_val (v_assign rfl) rfl rfl ?_)
        refine g_nil ?_
        refine g_next hK11 ?_
        refine g_block ?_
        first | refine g_keep [1, 5, 6, 7, 8] [] [] (keep_cons rfl (keep_cons rfl (keep_cons rfl (keep_cons rfl (keep_cons rfl keep_nil))))) lkeep_nil keep_nil rfl ?_ | refine g_keep [1, 5, 6, 7, 8] [] [] rfl rfl rfl rfl ?_
        refine g_loop (fun n env L B G => ∃ (k : Nat) (w : List Rc), k ≤ b.length ∧ n = b.length - k ∧ env = [(1, encRs b), (5, (encRs (overL a b))), (6, .bool true), (7, (encRs w)), (8, .int .i64 (k : Int))] ∧ L = [] ∧ B = [] ∧ H = G ∧ w = (b.take k).foldl rput a ∧ (∀ x ∈ w, Small x.bag) ∧ w.length ≤ 20 + k) (b.length) ⟨0, a, Nat.zero_le _, rfl, rfl, rfl, rfl, rfl, ⟨rfl, hsa, by omega⟩⟩ (fun n env L B G hI => ?_)
        obtain ⟨k, w, hk, rfl, rfl, rfl, rfl, rfl, hw, hsw, hlw⟩ := hI
        refine g_seq (fun K12 hK12 => ?_)
        refine g_seq (fun K13 hK13 => ?_)
        refine g_region ?_
        refine g_step rfl (s_val (v_move rfl) rfl rfl ?_)
        refine g_step rfl (s_val (v_move rfl) rfl rfl ?_)
        refine g_step rfl (s_val (v_len ty23 rfl (by first | rfl | assumption) (by first | exact List.length_map .. | rfl)) rfl rfl ?_)
        refine g_step rfl (s_val (v_lss rfl rfl) rfl rfl ?_)
        refine g_nil ?_
        refine g_next hK13 ?_
        refine g_cond rfl (fun hc47 => ?_) (fun hc47 => ?_)
        · try simp only [decide_eq_true_eq, decide_eq_false_iff_not, Bool.not_eq_true', Bool.not_eq_false', Bool.not_eq_eq_eq_not, Bool.not_true, Bool.not_false, Bool.and_eq_true, Bool.or_eq_true, Bool.or_eq_false_iff, beq_iff_eq, beq_eq_false_iff_ne, ne_eq, Int.not_lt, Int.not_le, Decidable.not_not] at hc47
          obtain ⟨x, hx⟩ := get_some (l := b) (k := k) (by omega)
          have hsx := hsb x (mem_get hx)
          refine g_skip ?_
          refine g_next hK12 ?_
          refine g_seq (fun K14 hK14 => ?_)
          refine g_block ?_
          refine g_region ?_
          refine g_step rfl (s_val (v_move rfl) rfl rfl ?_)
          refine g_step rfl (s_val (v_move rfl) rfl rfl ?_)
          refine g_step rfl (s_val (v_move rfl) rfl rfl ?_)
          refine g_step rfl (s_val (v_indexAddr ty23 ty28 rfl rfl (by first | rfl | assumption) (by first | rfl | exact (rfl : (0 : Int) = ((0 : Nat) : Int)) | exact (Int.toNat_of_nonneg (by omega)).symm) (by first | assumption | exact map_get (by assumption) | rfl) rfl) rfl rfl ?_)
          refine g_step rfl (s_val (by first | exact v_load_elt ty28 rfl rfl (by first | rfl | assumption) (by first | assumption | exact map_get (by assumption) | rfl) rfl rfl | exact v_load_box_all ty28 rfl rfl (by assumption) rfl rfl | exact v_load_part (cs := [_, _, _, _, _, _, _]) ty28 rfl rfl (by first | rfl | assumption) (by first | assumption | exact map_get (by assumption) | rfl) rfl rfl rfl | exact v_load_box_part (cs := [_, _, _, _, _, _, _]) ty28 rfl rfl (by assumption) rfl rfl rfl) rfl rfl ?_)
          refine g_step rfl (s_callp rfl rfl rfl (put_ok w x _ _ rfl (by omega) hsw hsx) ?_)
          rintro _ rfl
          refine g_step rfl (s_val (v_assign rfl) rfl rfl ?_)
          refine g_nil ?_
          refine g_block_normal ?_
          refine g_next hK14 ?_
          refine g_region ?_
          refine g_step rfl (s_val (v_move rfl) rfl rfl ?_)
          refine g_step rfl (s_val (v_add rfl rfl (by omega)) rfl rfl ?_)
          refine g_step rfl (s_val (v_assign rfl) rfl rfl ?_)
          refine g_nil ?_
          first | refine g_keep [1, 5, 6, 7, 8] [] [] (keep_cons rfl (keep_cons rfl (keep_cons rfl (keep_cons rfl (keep_cons rfl keep_nil))))) lkeep_nil keep_nil rfl ?_ | refine g_keep [1, 5, 6, 7, 8] [] [] rfl rfl rfl rfl ?_
          exact g_round _ (by omega) ⟨k + 1, (rput w x), by omega, rfl, rfl, rfl, rfl, rfl, ⟨by rw [List.take_add_one, hx, List.foldl_append, ← hw]; rfl, fun y hy => by rcases rput_mem hy with rfl | h; exact hsx; exact hsw y h, by have := rput_len w x; omega⟩⟩
        · try simp only [decide_eq_true_eq, decide_eq_false_iff_not, Bool.not_eq_true', Bool.not_eq_false', Bool.not_eq_eq_eq_not, Bool.not_true, Bool.not_false, Bool.and_eq_true, Bool.or_eq_true, Bool.or_eq_false_iff, beq_iff_eq, beq_eq_false_iff_ne, ne_eq, Int.not_lt, Int.not_le, Decidable.not_not] at hc47
          obtain rfl : k = b.length := by omega
          rw [List.take_length, ← hdd] at hw
          refine g_exit ?_
          refine g_then_exit ?_
          refine g_then_exit ?_
          refine g_block_same ?_
          refine g_next hK10 ?_
          refine g_seq (fun K15 hK15 => ?_)
          refine g_region ?_
          refine g_step rfl (s_val (v_move rfl) rfl rfl ?_)
          refine g_step rfl (s_val (v_move rfl) rfl rfl ?_)
          refine g_split 57 rfl (fun hg57 => ?_) (fun hg57 => ?_)
          · try simp only [decide_eq_true_eq, decide_eq_false_iff_not, Bool.not_eq_true', Bool.not_eq_false', Bool.not_eq_eq_eq_not, Bool.not_true, Bool.not_false, Bool.and_eq_true, Bool.or_eq_true, Bool.or_eq_false_iff, beq_iff_eq, beq_eq_false_iff_ne, ne_eq, Int.not_lt, Int.not_le, Decidable.not_not] at hg57
            refine g_step_yes (j := 1) (t := 57) rfl rfl rfl rfl (s_val (v_move rfl) rfl rfl ?_)
            refine g_step_yes (j := 1) (t := 57) rfl rfl rfl rfl (s_val (v_move rfl) rfl rfl ?_)
            refine g_step_yes (j := 1) (t := 57) rfl rfl rfl rfl (s_callp rfl rfl rfl (allAlike_ok (overL a b) w _ _ _ rfl rfl (by have := over_len a b; omega) (over_small hsa hsb)) ?_)
            rintro _ rfl
            refine g_step rfl (s_val (v_pick_t rfl rfl) rfl rfl ?_)
            refine g_step rfl (s_val (v_move rfl) rfl rfl ?_)
            refine g_split 62 rfl (fun hg62 => ?_) (fun hg62 => ?_)
            · try simp only [decide_eq_true_eq, decide_eq_false_iff_not, Bool.not_eq_true', Bool.not_eq_false', Bool.not_eq_eq_eq_not, Bool.not_true, Bool.not_false, Bool.and_eq_true, Bool.or_eq_true, Bool.or_eq_false_iff, beq_iff_eq, beq_eq_false_iff_ne, ne_eq, Int.not_lt, Int.not_le, Decidable.not_not] at hg62
              refine g_step_yes (j := 6) (t := 62) rfl rfl rfl rfl (s_callp rfl rfl rfl (awake14_ok _) ?_)
              rintro _ rfl
              refine g_step rfl (s_val (v_pick_t rfl rfl) rfl rfl ?_)
              refine g_step rfl (s_val (v_assign rfl) rfl rfl ?_)
              refine g_nil ?_
              refine g_next hK15 ?_
              refine g_ret ?_
              refine g_end1 (.inl rfl) Try.results13 (.tmp rfl) [] (ASub.refl _) (AHeap.sub_refl _) (fun p hp => by cases hp) ⟨rfl, ?_⟩
              rfl
            · exfalso; (try simp only [decide_eq_true_eq, decide_eq_false_iff_not, Bool.not_eq_true', Bool.not_eq_false', Bool.not_eq_eq_eq_not, Bool.not_true, Bool.not_false, Bool.and_eq_true, Bool.or_eq_true, Bool.or_eq_false_iff, beq_iff_eq, beq_eq_false_iff_ne, ne_eq, Int.not_lt, Int.not_le, Decidable.not_not] at hg62); simp [hw] at hg62
          · exfalso; (try simp only [decide_eq_true_eq, decide_eq_false_iff_not, Bool.not_eq_true', Bool.not_eq_false', Bool.not_eq_eq_eq_not, Bool.not_true, Bool.not_false, Bool.and_eq_true, Bool.or_eq_true, Bool.or_eq_false_iff, beq_iff_eq, beq_eq_false_iff_ne, ne_eq, Int.not_lt, Int.not_le, Decidable.not_not] at hg57); cases hg57

theorem deltaBack_ok (a b : List Rc) (less : Int) (hha : ∀ r ∈ a, Held r.bag) (hhb : ∀ r ∈ b, Held r.bag) (hla : a.length ≤ 140737488351232) (hlb : b.length ≤ 140737488351232) (G : AHeap) : PCalls Try.prog 12 [encRs a, encRs b, .int .i64 less] G (fun v => v = .bool true) := by
  refine LCalls.intro 104 fi12 rfl Try.ntmps12 rfl (fun _ h => h.elim) (fun H hH w0 hw0 => ?_)
  refine g_seq (fun K0 hK0 => ?_)
  refine g_region ?_
  refine g_step rfl (s_val (v_assign rfl) rfl rfl ?_)
  refine g_nil ?_
  refine g_next hK0 ?_
  refine g_cut (fun env L B G => env = [(0, encRs a), (1, encRs b), (2, .int .i64 less)] ∧ L = [] ∧ B = [] ∧ H = G ∧ (a.length ≤ 20 ∧ b.length ≤ 20) ∧ (∀ x ∈ a, Small x.bag) ∧ (∀ x ∈ b, Small x.bag) ∧ srt a = true ∧ srt b = true) ?_ (fun env L B G hI => ?_)
  · skip
    refine g_seq (fun K1 hK1 => ?_)
    refine g_region ?_
    refine g_step rfl (s_val (v_move rfl) rfl rfl ?_)
    refine g_step rfl (s_callp rfl rfl rfl (fewL_ok a _ _ rfl hha hla) ?_)
    rintro _ rfl
    refine g_step rfl (s_val (v_not rfl) rfl rfl ?_)
    refine g_step rfl (s_val (v_move rfl) rfl rfl ?_)
    refine g_split 17 rfl (fun hg17 => ?_) (fun hg17 => ?_)
    · try simp only [decide_eq_true_eq, decide_eq_false_iff_not, Bool.not_eq_true', Bool.not_eq_false', Bool.not_eq_eq_eq_not, Bool.not_true, Bool.not_false, Bool.and_eq_true, Bool.or_eq_true, Bool.or_eq_false_iff, beq_iff_eq, beq_eq_false_iff_ne, ne_eq, Int.not_lt, Int.not_le, Decidable.not_not] at hg17
      refine g_step_no (j := 3) (t := 17) rfl rfl rfl rfl rfl rfl rfl ?_
      refine g_step_no (j := 3) (t := 17) rfl rfl rfl rfl rfl rfl rfl ?_
      refine g_step_no (j := 3) (t := 17) rfl rfl rfl rfl rfl rfl rfl ?_
      refine g_step rfl (s_val (v_pick_t rfl rfl) rfl rfl ?_)
      refine g_step rfl (s_val (v_move rfl) rfl rfl ?_)
      refine g_step_no (j := 8) (t := 22) rfl rfl rfl rfl rfl rfl rfl ?_
      refine g_step_no (j := 8) (t := 22) rfl rfl rfl rfl rfl rfl rfl ?_
      refine g_step_no (j := 8) (t := 22) rfl rfl rfl rfl rfl rfl rfl ?_
      refine g_step rfl (s_val (v_pick_t rfl rfl) rfl rfl ?_)
      refine g_step rfl (s_val (v_move rfl) rfl rfl ?_)
      refine g_step_no (j := 13) (t := 27) rfl rfl rfl rfl rfl rfl rfl ?_
      refine g_step_no (j := 13) (t := 27) rfl rfl rfl rfl rfl rfl rfl ?_
      refine g_step_no (j := 13) (t := 27) rfl rfl rfl rfl rfl rfl rfl ?_
      refine g_step rfl (s_val (v_pick_t rfl rfl) rfl rfl ?_)
      refine g_nil ?_
      refine g_next hK1 ?_
      refine g_cond rfl (fun _ => ?_) (fun h => by cases h)
      refine g_seq (fun K2 hK2 => ?_)
      refine g_region ?_
      refine g_step rfl (s_callp rfl rfl rfl (awake14_ok _) ?_)
      rintro _ rfl
      refine g_step rfl (s_val (v_assign rfl) rfl rfl ?_)
      refine g_nil ?_
      refine g_next hK2 ?_
      refine g_ret ?_
      refine g_then_ret ?_
      refine g_end1 (.inl rfl) Try.results12 (.tmp rfl) [] (ASub.refl _) (AHeap.sub_refl _) (fun p hp => by cases hp) ⟨rfl, ?_⟩
      rfl
    · try simp only [decide_eq_true_eq, decide_eq_false_iff_not, Bool.not_eq_true', Bool.not_eq_false', Bool.not_eq_eq_eq_not, Bool.not_true, Bool.not_false, Bool.and_eq_true, Bool.or_eq_true, Bool.or_eq_false_iff, beq_iff_eq, beq_eq_false_iff_ne, ne_eq, Int.not_lt, Int.not_le, Decidable.not_not] at hg17
      refine g_step_yes (j := 3) (t := 17) rfl rfl rfl rfl (s_val (v_move rfl) rfl rfl ?_)
      refine g_step_yes (j := 3) (t := 17) rfl rfl rfl rfl (s_callp rfl rfl rfl (fewL_ok b _ _ rfl hhb hlb) ?_)
      rintro _ rfl
      refine g_step_yes (j := 3) (t := 17) rfl rfl rfl rfl (s_val (v_not rfl) rfl rfl ?_)
      refine g_step rfl (s_val (v_pick_f rfl rfl) rfl rfl ?_)
      refine g_step rfl (s_val (v_move rfl) rfl rfl ?_)
      refine g_split 22 rfl (fun hg22 => ?_) (fun hg22 => ?_)
      · try simp only [decide_eq_true_eq, decide_eq_false_iff_not, Bool.not_eq_true', Bool.not_eq_false', Bool.not_eq_eq_eq_not, Bool.not_true, Bool.not_false, Bool.and_eq_true, Bool.or_eq_true, Bool.or_eq_false_iff, beq_iff_eq, beq_eq_false_iff_ne, ne_eq, Int.not_lt, Int.not_le, Decidable.not_not] at hg22
        refine g_step_no (j := 8) (t := 22) rfl rfl rfl rfl rfl rfl rfl ?_
        refine g_step_no (j := 8) (t := 22) rfl rfl rfl rfl rfl rfl rfl ?_
        refine g_step_no (j := 8) (t := 22) rfl rfl rfl rfl rfl rfl rfl ?_
        refine g_step rfl (s_val (v_pick_t rfl rfl) rfl rfl ?_)
        refine g_step rfl (s_val (v_move rfl) rfl rfl ?_)
        refine g_step_no (j := 13) (t := 27) rfl rfl rfl rfl rfl rfl rfl ?_
        refine g_step_no (j := 13) (t := 27) rfl rfl rfl rfl rfl rfl rfl ?_
        refine g_step_no (j := 13) (t := 27) rfl rfl rfl rfl rfl rfl rfl ?_
        refine g_step rfl (s_val (v_pick_t rfl rfl) rfl rfl ?_)
        refine g_nil ?_
        refine g_next hK1 ?_
        refine g_cond rfl (fun _ => ?_) (fun h => by cases h)
        refine g_seq (fun K3 hK3 => ?_)
        refine g_region ?_
        refine g_step rfl (s_callp rfl rfl rfl (awake14_ok _) ?_)
        rintro _ rfl
        refine g_step rfl (s_val (v_assign rfl) rfl rfl ?_)
        refine g_nil ?_
        refine g_next hK3 ?_
        refine g_ret ?_
        refine g_then_ret ?_
        refine g_end1 (.inl rfl) Try.results12 (.tmp rfl) [] (ASub.refl _) (AHeap.sub_refl _) (fun p hp => by cases hp) ⟨rfl, ?_⟩
        rfl
      · try simp only [decide_eq_true_eq, decide_eq_false_iff_not, Bool.not_eq_true', Bool.not_eq_false', Bool.not_eq_eq_eq_not, Bool.not_true, Bool.not_false, Bool.and_eq_true, Bool.or_eq_true, Bool.or_eq_false_iff, beq_iff_eq, beq_eq_false_iff_ne, ne_eq, Int.not_lt, Int.not_le, Decidable.not_not] at hg22
        have hf : fewL a = true ∧ fewL b = true := by first | exact ⟨by assumption, by assumption⟩ | simp_all
        obtain ⟨ha20, hsa⟩ := fewL_small hf.1
        obtain ⟨hb20, hsb⟩ := fewL_small hf.2
        refine g_step_yes (j := 8) (t := 22) rfl rfl rfl rfl (s_val (v_move rfl) rfl rfl ?_)
        refine g_step_yes (j := 8) (t := 22) rfl rfl rfl rfl (s_callp rfl rfl rfl (sorted_ok a _ (by omega) hsa) ?_)
        rintro _ rfl
        refine g_step_yes (j := 8) (t := 22) rfl rfl rfl rfl (s_val (v_not rfl) rfl rfl ?_)
        refine g_step rfl (s_val (v_pick_f rfl rfl) rfl rfl ?_)
        refine g_step rfl (s_val (v_move rfl) rfl rfl ?_)
        refine g_split 27 rfl (fun hg27 => ?_) (fun hg27 => ?_)
        · try simp only [decide_eq_true_eq, decide_eq_false_iff_not, Bool.not_eq_true', Bool.not_eq_false', Bool.not_eq_eq_eq_not, Bool.not_true, Bool.not_false, Bool.and_eq_true, Bool.or_eq_true, Bool.or_eq_false_iff, beq_iff_eq, beq_eq_false_iff_ne, ne_eq, Int.not_lt, Int.not_le, Decidable.not_not] at hg27
          refine g_step_no (j := 13) (t := 27) rfl rfl rfl rfl rfl rfl rfl ?_
          refine g_step_no (j := 13) (t := 27) rfl rfl rfl rfl rfl rfl rfl ?_
          refine g_step_no (j := 13) (t := 27) rfl rfl rfl rfl rfl rfl rfl ?_
          refine g_step rfl (s_val (v_pick_t rfl rfl) rfl rfl ?_)
          refine g_nil ?_
          refine g_next hK1 ?_
          refine g_cond rfl (fun _ => ?_) (fun h => by cases h)
          refine g_seq (fun K4 hK4 => ?_)
          refine g_region ?_
          refine g_step rfl (s_callp rfl rfl rfl (awake14_ok _) ?_)
          rintro _ rfl
          refine g_step rfl (s_val (v_assign rfl) rfl rfl ?_)
          refine g_nil ?_
          refine g_next hK4 ?_
          refine g_ret ?_
          refine g_then_ret ?_
          refine g_end1 (.inl rfl) Try.results12 (.tmp rfl) [] (ASub.refl _) (AHeap.sub_refl _) (fun p hp => by cases hp) ⟨rfl, ?_⟩
          rfl
        · try simp only [decide_eq_true_eq, decide_eq_false_iff_not, Bool.not_eq_true', Bool.not_eq_false', Bool.not_eq_eq_eq_not, Bool.not_true, Bool.not_false, Bool.and_eq_true, Bool.or_eq_true, Bool.or_eq_false_iff, beq_iff_eq, beq_eq_false_iff_ne, ne_eq, Int.not_lt, Int.not_le, Decidable.not_not] at hg27
          refine g_step_yes (j := 13) (t := 27) rfl rfl rfl rfl (s_val (v_move rfl) rfl rfl ?_)
          refine g_step_yes (j := 13) (t := 27) rfl rfl rfl rfl (s_callp rfl rfl rfl (sorted_ok b _ (by omega) hsb) ?_)
          rintro _ rfl
          refine g_step_yes (j := 13) (t := 27) rfl rfl rfl rfl (s_val (v_not rfl) rfl rfl ?_)
          refine g_step rfl (s_val (v_pick_f rfl rfl) rfl rfl ?_)
          refine g_nil ?_
          refine g_next hK1 ?_
          refine g_cond rfl (fun hc31 => ?_) (fun hc31 => ?_)
          · try simp only [decide_eq_true_eq, decide_eq_false_iff_not, Bool.not_eq_true', Bool.not_eq_false', Bool.not_eq_eq_eq_not, Bool.not_true, Bool.not_false, Bool.and_eq_true, Bool.or_eq_true, Bool.or_eq_false_iff, beq_iff_eq, beq_eq_false_iff_ne, ne_eq, Int.not_lt, Int.not_le, Decidable.not_not] at hc31
            refine g_seq (fun K5 hK5 => ?_)
            refine g_region ?_
            refine g_step rfl (s_callp rfl rfl rfl (awake14_ok _) ?_)
            rintro _ rfl
            refine g_step rfl (s_val (v_assign rfl) rfl rfl ?_)
            refine g_nil ?_
            refine g_next hK5 ?_
            refine g_ret ?_
            refine g_then_ret ?_
            refine g_end1 (.inl rfl) Try.results12 (.tmp rfl) [] (ASub.refl _) (AHeap.sub_refl _) (fun p hp => by cases hp) ⟨rfl, ?_⟩
            rfl
          · try simp only [decide_eq_true_eq, decide_eq_false_iff_not, Bool.not_eq_true', Bool.not_eq_false', Bool.not_eq_eq_eq_not, Bool.not_true, Bool.not_false, Bool.and_eq_true, Bool.or_eq_true, Bool.or_eq_false_iff, beq_iff_eq, beq_eq_false_iff_ne, ne_eq, Int.not_lt, Int.not_le, Decidable.not_not] at hc31
            refine g_skip ?_
            first | refine g_keep [0, 1, 2] [] [] (keep_cons rfl (keep_cons rfl (keep_cons rfl keep_nil))) lkeep_nil keep_nil rfl ?_ | refine g_keep [0, 1, 2] [] [] rfl rfl rfl rfl ?_
            exact g_has ⟨rfl, rfl, rfl, rfl, ⟨⟨ha20, hb20⟩, hsa, hsb, by assumption, by assumption⟩⟩
  · skip
    obtain ⟨rfl, rfl, rfl, rfl, ⟨ha20, hb20⟩, hsa, hsb, hya, hyb⟩ := hI
    refine g_seq (fun K6 hK6 => ?_)
    refine g_region ?_
    refine g_step rfl (s_val (v_move rfl) rfl rfl ?_)
    refine g_step rfl (s_val (v_move rfl) rfl rfl ?_)
    refine g_step rfl (s_callp rfl rfl rfl (dgone_ok a b _ (by omega) (by omega) hsa hsb) ?_)
    rintro _ rfl
    rw [hya, hyb, Bool.and_true, if_pos rfl]
    refine g_step rfl (s_val (v_move rfl) rfl rfl ?_)
    refine g_step rfl (s_val (v_extract rfl rfl) rfl rfl ?_)
    refine g_step rfl (s_val (v_extract rfl rfl) rfl rfl ?_)
    refine g_step rfl (s_val (v_assign rfl) rfl rfl ?_)
    refine g_step rfl (s_val (v_assign rfl) rfl rfl ?_)
    refine g_nil ?_
    refine g_next hK6 ?_
    refine g_seq (fun K7 hK7 => ?_)
    refine g_seq (fun K8 hK8 => ?_)
    refine g_region ?_
    refine g_step rfl (s_val (v_move rfl) rfl rfl ?_)
    refine g_step rfl (s_val (v_not rfl) rfl rfl ?_)
    refine g_nil ?_
    refine g_next hK8 ?_
    refine g_cond rfl (fun hc40 => ?_) (fun hc40 => ?_)
    · exfalso; (try simp only [decide_eq_true_eq, decide_eq_false_iff_not, Bool.not_eq_true', Bool.not_eq_false', Bool.not_eq_eq_eq_not, Bool.not_true, Bool.not_false, Bool.and_eq_true, Bool.or_eq_true, Bool.or_eq_false_iff, beq_iff_eq, beq_eq_false_iff_ne, ne_eq, Int.not_lt, Int.not_le, Decidable.not_not] at hc40); simp at hc40
    · try simp only [decide_eq_true_eq, decide_eq_false_iff_not, Bool.not_eq_true', Bool.not_eq_false', Bool.not_eq_eq_eq_not, Bool.not_true, Bool.not_false, Bool.and_eq_true, Bool.or_eq_true, Bool.or_eq_false_iff, beq_iff_eq, beq_eq_false_iff_ne, ne_eq, Int.not_lt, Int.not_le, Decidable.not_not] at hc40
      refine g_skip ?_
      refine g_next hK7 ?_
      refine g_seq (fun K9 hK9 => ?_)
      refine g_seq (fun K10 hK10 => ?_)
      refine g_region ?_
      refine g_step rfl (s_val (v_move rfl) rfl rfl ?_)
      refine g_step rfl (s_val (v_len ty41 rfl (by first | rfl | assumption) (by first | exact List.length_map .. | rfl)) rfl rfl ?_)
      refine g_step rfl (s_val (v_gtr rfl rfl) rfl rfl ?_)
      refine g_nil ?_
      refine g_next hK10 ?_
      refine g_cond rfl (fun hc43 => ?_) (fun hc43 => ?_)
      · try simp only [decide_eq_true_eq, decide_eq_false_iff_not, Bool.not_eq_true', Bool.not_eq_false', Bool.not_eq_eq_eq_not, Bool.not_true, Bool.not_false, Bool.and_eq_true, Bool.or_eq_true, Bool.or_eq_false_iff, beq_iff_eq, beq_eq_false_iff_ne, ne_eq, Int.not_lt, Int.not_le, Decidable.not_not] at hc43
        refine g_seq (fun K11 hK11 => ?_)
        refine g_region ?_
        refine g_step rfl (s_callp rfl rfl rfl (awake14_ok _) ?_)
        rintro _ rfl
        refine g_step rfl (s_val (v_assign rfl) rfl rfl ?_)
        refine g_nil ?_
        refine g_next hK11 ?_
        refine g_ret ?_
        refine g_then_ret ?_
        refine g_end1 (.inl rfl) Try.results12 (.tmp rfl) [] (ASub.refl _) (AHeap.sub_refl _) (fun p hp => by cases hp) ⟨rfl, ?_⟩
        rfl
      · try simp only [decide_eq_true_eq, decide_eq_false_iff_not, Bool.not_eq_true', Bool.not_eq_false', Bool.not_eq_eq_eq_not, Bool.not_true, Bool.not_false, Bool.and_eq_true, Bool.or_eq_true, Bool.or_eq_false_iff, beq_iff_eq, beq_eq_false_iff_ne, ne_eq, Int.not_lt, Int.not_le, Decidable.not_not] at hc43
        have hg0 : goneL a b = [] := List.eq_nil_of_length_eq_zero (by omega)
        have hbk := back_eq hya hyb hg0
        have hsd := diff_sorted hya hyb
        have hld := diff_len a b
        have hss := diff_small hsa hsb
        refine g_skip ?_
        refine g_next hK9 ?_
        refine g_seq (fun K12 hK12 => ?_)
        refine g_region ?_
        refine g_step rfl (s_val (v_move rfl) rfl rfl ?_)
        refine g_step rfl (s_val (v_move rfl) rfl rfl ?_)
        refine g_step rfl (s_callp rfl rfl rfl (ddiff_ok a b _ (by omega) (by omega) hsa hsb) ?_)
        rintro _ rfl
        rw [hya, hyb, Bool.and_true, if_pos rfl]
        refine g_step rfl (s_val (v_move rfl) rfl rfl ?_)
        refine g_step rfl (s_val (v_extract rfl rfl) rfl rfl ?_)
        refine g_step rfl (s_val (v_extract rfl rfl) rfl rfl ?_)
        refine g_step rfl (s_val (v_assign rfl) rfl rfl ?_)
        refine g_step rfl (s_val (v_assign rfl) rfl rfl ?_)
        refine g_nil ?_
        refine g_next hK12 ?_
        refine g_seq (fun K13 hK13 => ?_)
        refine g_region ?_
        refine g_step rfl (s_val (v_move rfl) rfl rfl ?_)
        refine g_step rfl (s_val (v_move rfl) rfl rfl ?_)
        refine g_step rfl (s_callp rfl rfl rfl (dover_ok a (diffL a b) _ (by omega) (by omega) hsa hss) ?_)
        rintro _ rfl
        rw [hya, hsd, Bool.and_true, if_pos rfl, hbk]
        refine g_step rfl (s_val (v_move rfl) rfl rfl ?_)
        refine g_step rfl (s_val (v_extract rfl rfl) rfl rfl ?_)
        refine g_step rfl (s_val (v_extract rfl rfl) rfl rfl ?_)
        refine g_step rfl (s_val (v_assign rfl) rfl rfl ?_)
        refine g_step rfl (s_val (v_assign rfl) rfl rfl ?_)
        refine g_nil ?_
        refine g_next hK13 ?_
        first | refine g_keep [0, 1, 2, 9, 10, 11, 12] [] [] (keep_cons rfl (keep_cons rfl (keep_cons rfl (keep_cons rfl (keep_cons rfl (keep_cons rfl (keep_cons rfl keep_nil))))))) lkeep_nil keep_nil rfl ?_ | refine g_keep [0, 1, 2, 9, 10, 11, 12] [] [] rfl rfl rfl rfl ?_
        refine g_seq (fun K14 hK14 => ?_)
        refine g_seq (fun K15 hK15 => ?_)
        refine g_region ?_
        refine g_step rfl (s_val (v_move rfl) rfl rfl ?_)
        refine g_step rfl (s_val (v_not rfl) rfl rfl ?_)
        refine g_step rfl (s_val (v_move rfl) rfl rfl ?_)
        refine g_split 59 rfl (fun hg59 => ?_) (fun hg59 => ?_)
        · exfalso; (try simp only [decide_eq_true_eq, decide_eq_false_iff_not, Bool.not_eq_true', Bool.not_eq_false', Bool.not_eq_eq_eq_not, Bool.not_true, Bool.not_false, Bool.and_eq_true, Bool.or_eq_true, Bool.or_eq_false_iff, beq_iff_eq, beq_eq_false_iff_ne, ne_eq, Int.not_lt, Int.not_le, Decidable.not_not] at hg59); simp at hg59
        · try simp only [decide_eq_true_eq, decide_eq_false_iff_not, Bool.not_eq_true', Bool.not_eq_false', Bool.not_eq_eq_eq_not, Bool.not_true, Bool.not_false, Bool.and_eq_true, Bool.or_eq_true, Bool.or_eq_false_iff, beq_iff_eq, beq_eq_false_iff_ne, ne_eq, Int.not_lt, Int.not_le, Decidable.not_not] at hg59
          refine g_step_yes (j := 2) (t := 59) rfl rfl rfl rfl (s_val (v_move rfl) rfl rfl ?_)
          refine g_step_yes (j := 2) (t := 59) rfl rfl rfl rfl (s_val (v_not rfl) rfl rfl ?_)
          refine g_step rfl (s_val (v_pick_f rfl rfl) rfl rfl ?_)
          refine g_step rfl (s_val (v_move rfl) rfl rfl ?_)
          refine g_split 63 rfl (fun hg63 => ?_) (fun hg63 => ?_)
          · exfalso; (try simp only [decide_eq_true_eq, decide_eq_false_iff_not, Bool.not_eq_true', Bool.not_eq_false', Bool.not_eq_eq_eq_not, Bool.not_true, Bool.not_false, Bool.and_eq_true, Bool.or_eq_true, Bool.or_eq_false_iff, beq_iff_eq, beq_eq_false_iff_ne, ne_eq, Int.not_lt, Int.not_le, Decidable.not_not] at hg63); simp at hg63
          · try simp only [decide_eq_true_eq, decide_eq_false_iff_not, Bool.not_eq_true', Bool.not_eq_false', Bool.not_eq_eq_eq_not, Bool.not_true, Bool.not_false, Bool.and_eq_true, Bool.or_eq_true, Bool.or_eq_false_iff, beq_iff_eq, beq_eq_false_iff_ne, ne_eq, Int.not_lt, Int.not_le, Decidable.not_not] at hg63
            refine g_step_yes (j := 6) (t := 63) rfl rfl rfl rfl (s_val (v_move rfl) rfl rfl ?_)
            refine g_step_yes (j := 6) (t := 63) rfl rfl rfl rfl (s_val (v_move rfl) rfl rfl ?_)
            refine g_step_yes (j := 6) (t := 63) rfl rfl rfl rfl (s_callp rfl rfl rfl (allAlike_ok b b _ _ _ rfl rfl (by omega) hsb) ?_)
            rintro _ rfl
            refine g_step_yes (j := 6) (t := 63) rfl rfl rfl rfl (s_val (v_not rfl) rfl rfl ?_)
            refine g_step rfl (s_val (v_pick_f rfl rfl) rfl rfl ?_)
            refine g_nil ?_
            refine g_next hK15 ?_
            refine g_cond rfl (fun hc68 => ?_) (fun hc68 => ?_)
            · exfalso; (try simp only [decide_eq_true_eq, decide_eq_false_iff_not, Bool.not_eq_true', Bool.not_eq_false', Bool.not_eq_eq_eq_not, Bool.not_true, Bool.not_false, Bool.and_eq_true, Bool.or_eq_true, Bool.or_eq_false_iff, beq_iff_eq, beq_eq_false_iff_ne, ne_eq, Int.not_lt, Int.not_le, Decidable.not_not] at hc68); simp at hc68
            · try simp only [decide_eq_true_eq, decide_eq_false_iff_not, Bool.not_eq_true', Bool.not_eq_false', Bool.not_eq_eq_eq_not, Bool.not_true, Bool.not_false, Bool.and_eq_true, Bool.or_eq_true, Bool.or_eq_false_iff, beq_iff_eq, beq_eq_false_iff_ne, ne_eq, Int.not_lt, Int.not_le, Decidable.not_not] at hc68
              refine g_skip ?_
              refine g_next hK14 ?_
              refine g_seq (fun K16 hK16 => ?_)
              refine g_seq (fun K17 hK17 => ?_)
              refine g_region ?_
              refine g_step rfl (s_val (v_move rfl) rfl rfl ?_)
              refine g_step rfl (s_val (v_lss rfl rfl) rfl rfl ?_)
              refine g_step rfl (s_val (v_move rfl) rfl rfl ?_)
              refine g_split 71 rfl (fun hg71 => ?_) (fun hg71 => ?_)
              · try simp only [decide_eq_true_eq, decide_eq_false_iff_not, Bool.not_eq_true', Bool.not_eq_false', Bool.not_eq_eq_eq_not, Bool.not_true, Bool.not_false, Bool.and_eq_true, Bool.or_eq_true, Bool.or_eq_false_iff, beq_iff_eq, beq_eq_false_iff_ne, ne_eq, Int.not_lt, Int.not_le, Decidable.not_not] at hg71
                refine g_step_no (j := 2) (t := 71) rfl rfl rfl rfl rfl rfl rfl ?_
                refine g_step_no (j := 2) (t := 71) rfl rfl rfl rfl rfl rfl rfl ?_
                refine g_step_no (j := 2) (t := 71) rfl rfl rfl rfl rfl rfl rfl ?_
                refine g_step_no (j := 2) (t := 71) rfl rfl rfl rfl rfl rfl rfl ?_
                refine g_step rfl (s_val (v_pick_t rfl rfl) rfl rfl ?_)
                refine g_nil ?_
                refine g_next hK17 ?_
                first | refine g_keep [0, 1, 2, 9, 76] [] [] (keep_cons rfl (keep_cons rfl (keep_cons rfl (keep_cons rfl (keep_cons rfl keep_nil))))) lkeep_nil keep_nil rfl ?_ | refine g_keep [0, 1, 2, 9, 76] [] [] rfl rfl rfl rfl ?_
                refine g_cond rfl (fun _ => ?_) (fun h => by cases h)
                refine g_seq (fun K18 hK18 => ?_)
                refine g_region ?_
                refine g_step rfl (s_callp rfl rfl rfl (awake14_ok _) ?_)
                rintro _ rfl
                refine g_step rfl (s_val (v_assign rfl) rfl rfl ?_)
                refine g_nil ?_
                refine g_next hK18 ?_
                refine g_ret ?_
                refine g_then_ret ?_
                refine g_end1 (.inl rfl) Try.results12 (.tmp rfl) [] (ASub.refl _) (AHeap.sub_refl _) (fun p hp => by cases hp) ⟨rfl, ?_⟩
                rfl
              · try simp only [decide_eq_true_eq, decide_eq_false_iff_not, Bool.not_eq_true', Bool.not_eq_false', Bool.not_eq_eq_eq_not, Bool.not_true, Bool.not_false, Bool.and_eq_true, Bool.or_eq_true, Bool.or_eq_false_iff, beq_iff_eq, beq_eq_false_iff_ne, ne_eq, Int.not_lt, Int.not_le, Decidable.not_not] at hg71
                refine g_step_yes (j := 2) (t := 71) rfl rfl rfl rfl (s_val (v_move rfl) rfl rfl ?_)
                refine g_step_yes (j := 2) (t := 71) rfl rfl rfl rfl (s_val (v_move rfl) rfl rfl ?_)
                refine g_step_yes (j := 2) (t := 71) rfl rfl rfl rfl (s_val (v_len ty23 rfl (by first | rfl | assumption) (by first | exact List.length_map .. | rfl)) rfl rfl ?_)
                refine g_step_yes (j := 2) (t := 71) rfl rfl rfl rfl (s_val (v_geq rfl rfl) rfl rfl ?_)
                refine g_step rfl (s_val (v_pick_f rfl rfl) rfl rfl ?_)
                refine g_nil ?_
                refine g_next hK17 ?_
                first | refine g_keep [0, 1, 2, 9, 76] [] [] (keep_cons rfl (keep_cons rfl (keep_cons rfl (keep_cons rfl (keep_cons rfl keep_nil))))) lkeep_nil keep_nil rfl ?_ | refine g_keep [0, 1, 2, 9, 76] [] [] rfl rfl rfl rfl ?_
                refine g_cond rfl (fun hc76 => ?_) (fun hc76 => ?_)
                · try simp only [decide_eq_true_eq, decide_eq_false_iff_not, Bool.not_eq_true', Bool.not_eq_false', Bool.not_eq_eq_eq_not, Bool.not_true, Bool.not_false, Bool.and_eq_true, Bool.or_eq_true, Bool.or_eq_false_iff, beq_iff_eq, beq_eq_false_iff_ne, ne_eq, Int.not_lt, Int.not_le, Decidable.not_not] at hc76
                  refine g_seq (fun K19 hK19 => ?_)
                  refine g_region ?_
                  refine g_step rfl (s_callp rfl rfl rfl (awake14_ok _) ?_)
                  rintro _ rfl
                  refine g_step rfl (s_val (v_assign rfl) rfl rfl ?_)
                  refine g_nil ?_
                  refine g_next hK19 ?_
                  refine g_ret ?_
                  refine g_then_ret ?_
                  refine g_end1 (.inl rfl) Try.results12 (.tmp rfl) [] (ASub.refl _) (AHeap.sub_refl _) (fun p hp => by cases hp) ⟨rfl, ?_⟩
                  rfl
                · try simp only [decide_eq_true_eq, decide_eq_false_iff_not, Bool.not_eq_true', Bool.not_eq_false', Bool.not_eq_eq_eq_not, Bool.not_true, Bool.not_false, Bool.and_eq_true, Bool.or_eq_true, Bool.or_eq_false_iff, beq_iff_eq, beq_eq_false_iff_ne, ne_eq, Int.not_lt, Int.not_le, Decidable.not_not] at hc76
                  obtain ⟨N, rfl⟩ := Int.eq_ofNat_of_zero_le (show 0 ≤ less by omega)
                  refine g_skip ?_
                  refine g_next hK16 ?_
                  refine g_seq (fun K20 hK20 => ?_)
                  refine g_draw (n := 11) (fun j => !([4, 9] : List Nat).contains j) rfl rfl ?_
                  refine m_take 1 false rfl rfl (by kernel_rfl) (by kernel_rfl) (by kernel_rfl) (fun _ _ _ _ h => h) (v_move rfl) rfl rfl ?_
                  refine m_take 2 false rfl rfl (by kernel_rfl) (by kernel_rfl) (by kernel_rfl) (fun _ _ _ _ h => h) (v_move rfl) rfl rfl ?_
                  refine m_take 3 false rfl rfl (by kernel_rfl) (by kernel_rfl) (by kernel_rfl) (fun _ _ _ _ h => h) (v_slice_imm (lo := 0) (hi := N) (m := (((diffL a b).take N).map encR)) ty23 ty28 rfl rfl rfl (by first | rfl | (exact (rfl : (0 : Int) = ((0 : Nat) : Int))) | omega | (simp <;> omega)) (by first | rfl | (exact (rfl : (0 : Int) = ((0 : Nat) : Int))) | omega | (simp <;> omega)) (by first | omega | (simp <;> omega)) (by simp; omega) (by refine Even.map _ ?_ _; intro _; rfl) (by simp [List.map_take])) rfl rfl ?_
                  refine m_take 5 false rfl rfl (by kernel_rfl) (by kernel_rfl) (by kernel_rfl) (fun _ _ _ _ h => h) (v_move rfl) rfl rfl ?_
                  refine m_take 6 false rfl rfl (by kernel_rfl) (by kernel_rfl) (by kernel_rfl) (fun _ _ _ _ h => h) (v_move rfl) rfl rfl ?_
                  refine m_take 7 false rfl rfl (by kernel_rfl) (by kernel_rfl) (by kernel_rfl) (fun _ _ _ _ h => h) (v_add rfl rfl (by omega)) rfl rfl ?_
                  refine m_take 8 false rfl rfl (by kernel_rfl) (by kernel_rfl) (by kernel_rfl) (fun _ _ _ _ h => h) (v_slice_imm (lo := (N + 1)) (hi := (diffL a b).length) (m := (((diffL a b).drop (N + 1)).map encR)) ty23 ty28 rfl rfl rfl (by first | rfl | (exact (rfl : (0 : Int) = ((0 : Nat) : Int))) | omega | (simp <;> omega)) (by simp) (by omega) (by simp) (by refine Even.map _ ?_ _; intro _; rfl) (by rw [List.take_of_length_le (by simp), List.map_drop])) rfl rfl ?_
                  refine m_one 0 (by kernel_rfl) rfl rfl ?_
                  refine sm_lit0 ty23 ty28 rfl ?_
                  refine m_one 4 (by kernel_rfl) rfl rfl ?_
                  refine sm_any rfl (s_append (l := ([] : List AV)) (m := (((diffL a b).take N).map encR)) ty23 ty28 rfl rfl (Own.nil ..) rfl rfl (by refine Even.map _ ?_ _; intro _; rfl) (by intro x hx; obtain ⟨_, _, rfl⟩ := List.mem_map.1 hx; rfl) rfl (by simp; omega) (by simp; omega) ?_)
                  intro av82 G82 hown82
                  refine m_one 9 (by kernel_rfl) rfl rfl ?_
                  refine sm_any rfl (s_append (l := (((diffL a b).take N).map encR)) (m := (((diffL a b).drop (N + 1)).map encR)) ty23 ty28 rfl rfl hown82 rfl rfl (by refine Even.map _ ?_ _; intro _; rfl) (by intro x hx; obtain ⟨_, _, rfl⟩ := List.mem_map.1 hx; rfl) rfl (by simp; omega) (by simp; omega) ?_)
                  intro av87 G87 hown87
                  refine m_take 10 false rfl rfl (by kernel_rfl) (by kernel_rfl) (by kernel_rfl) (fun _ _ _ _ h => h) (v_assign rfl) rfl rfl ?_
                  refine m_done (by kernel_rfl) ?_
                  refine g_next hK20 ?_
                  refine g_seq (fun K21 hK21 => ?_)
                  refine g_region ?_
                  rw [← List.map_append] at hown87
                  refine g_freeze 13 rfl hown87 ?_
                  have hne := short_ne hya hyb (N := N) (by omega)
                  have hs2 := short_srt hsd (N := N) (by omega)
                  have hl2 : ((diffL a b).take N ++ (diffL a b).drop (N + 1)).length ≤ 40 := by rw [List.length_append, List.length_take, List.length_drop]; omega
                  have hm2 : ∀ x ∈ ((diffL a b).take N ++ (diffL a b).drop (N + 1)), Small x.bag := fun x hx => hss x (short_mem hx)
                  refine g_step rfl (s_val (v_move rfl) rfl rfl ?_)
                  refine g_step rfl (s_val (v_move rfl) rfl rfl ?_)
                  refine g_step rfl (s_callp rfl rfl rfl (dover_ok a ((diffL a b).take N ++ (diffL a b).drop (N + 1)) _ (by omega) (by omega) hsa hm2) ?_)
                  rintro _ rfl
                  rw [hya, hs2, Bool.and_true, if_pos rfl]
                  refine g_step rfl (s_val (v_move rfl) rfl rfl ?_)
                  refine g_step rfl (s_val (v_extract rfl rfl) rfl rfl ?_)
                  refine g_step rfl (s_val (v_extract rfl rfl) rfl rfl ?_)
                  refine g_step rfl (s_val (v_assign rfl) rfl rfl ?_)
                  refine g_step rfl (s_val (v_assign rfl) rfl rfl ?_)
                  refine g_nil ?_
                  refine g_next hK21 ?_
                  refine g_seq (fun K22 hK22 => ?_)
                  refine g_region ?_
                  refine g_step rfl (s_val (v_move rfl) rfl rfl ?_)
                  refine g_step rfl (s_val (v_move rfl) rfl rfl ?_)
                  refine g_split 95 rfl (fun hg95 => ?_) (fun hg95 => ?_)
                  · try simp only [decide_eq_true_eq, decide_eq_false_iff_not, Bool.not_eq_true', Bool.not_eq_false', Bool.not_eq_eq_eq_not, Bool.not_true, Bool.not_false, Bool.and_eq_true, Bool.or_eq_true, Bool.or_eq_false_iff, beq_iff_eq, beq_eq_false_iff_ne, ne_eq, Int.not_lt, Int.not_le, Decidable.not_not] at hg95
                    refine g_step_yes (j := 1) (t := 95) rfl rfl rfl rfl (s_val (v_move rfl) rfl rfl ?_)
                    refine g_step_yes (j := 1) (t := 95) rfl rfl rfl rfl (s_val (v_move rfl) rfl rfl ?_)
                    refine g_step_yes (j := 1) (t := 95) rfl rfl rfl rfl (s_callp rfl rfl rfl (allAlike_ok (overL a ((diffL a b).take N ++ (diffL a b).drop (N + 1))) b _ _ _ rfl rfl (by have := over_len a ((diffL a b).take N ++ (diffL a b).drop (N + 1)); omega) (over_small hsa hm2)) ?_)
                    rintro _ rfl
                    refine g_step_yes (j := 1) (t := 95) rfl rfl rfl rfl (s_val (v_not rfl) rfl rfl ?_)
                    refine g_step rfl (s_val (v_pick_t rfl rfl) rfl rfl ?_)
                    refine g_step rfl (s_val (v_move rfl) rfl rfl ?_)
                    refine g_split 101 rfl (fun hg101 => ?_) (fun hg101 => ?_)
                    · try simp only [decide_eq_true_eq, decide_eq_false_iff_not, Bool.not_eq_true', Bool.not_eq_false', Bool.not_eq_eq_eq_not, Bool.not_true, Bool.not_false, Bool.and_eq_true, Bool.or_eq_true, Bool.or_eq_false_iff, beq_iff_eq, beq_eq_false_iff_ne, ne_eq, Int.not_lt, Int.not_le, Decidable.not_not] at hg101
                      refine g_step_yes (j := 7) (t := 101) rfl rfl rfl rfl (s_callp rfl rfl rfl (awake14_ok _) ?_)
                      rintro _ rfl
                      refine g_step rfl (s_val (v_pick_t rfl rfl) rfl rfl ?_)
                      refine g_step rfl (s_val (v_assign rfl) rfl rfl ?_)
                      refine g_nil ?_
                      refine g_next hK22 ?_
                      first | refine g_keep [6] [] [] (keep_cons rfl keep_nil) lkeep_nil keep_nil rfl ?_ | refine g_keep [6] [] [] rfl rfl rfl rfl ?_
                      refine g_ret ?_
                      refine g_end1 (.inl rfl) Try.results12 (.tmp rfl) [] (ASub.refl _) (AHeap.sub_refl _) (fun p hp => by cases hp) ⟨rfl, ?_⟩
                      rfl
                    · exfalso; (try simp only [decide_eq_true_eq, decide_eq_false_iff_not, Bool.not_eq_true', Bool.not_eq_false', Bool.not_eq_eq_eq_not, Bool.not_true, Bool.not_false, Bool.and_eq_true, Bool.or_eq_true, Bool.or_eq_false_iff, beq_iff_eq, beq_eq_false_iff_ne, ne_eq, Int.not_lt, Int.not_le, Decidable.not_not] at hg101); first | (simp [hne] at hg101; done) | (simp at hg101; exact hne hg101)
                  · exfalso; (try simp only [decide_eq_true_eq, decide_eq_false_iff_not, Bool.not_eq_true', Bool.not_eq_false', Bool.not_eq_eq_eq_not, Bool.not_true, Bool.not_false, Bool.and_eq_true, Bool.or_eq_true, Bool.or_eq_false_iff, beq_iff_eq, beq_eq_false_iff_ne, ne_eq, Int.not_lt, Int.not_le, Decidable.not_not] at hg95); simp at hg95

end Go.Proofs.Ytnkcofpkmnohkaa

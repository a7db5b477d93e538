import Derived.Test.YtngffembdhcijaaLatLaws
import Derived.Test.YtngffembdhcijaaPLat3
set_option maxHeartbeats 8000000
set_option linter.unusedSimpArgs false
set_option linter.unusedVariables false
set_option maxRecDepth 100000
namespace Go.Proofs.Ytngffembdhcijaa
open Go Go.Proofs.Ytngffembdhcijaa.AM
theorem latticeLaws_ok (a b c : Rc) (hha : Held a.bag) (hhb : Held b.bag) (hhc : Held c.bag) (G : AHeap) : PCalls Try.prog 4 [encR a, encR b, encR c] G (fun v => v = .bool true) := by
  refine LCalls.intro 150 fi4 rfl Try.ntmps4 rfl (fun _ h => h.elim) (fun H hH w0 hw0 => ?_)
  refine g_seq (fun K0 hK0 => ?_)
  refine g_region ?_
  refine g_step rfl (s_box rfl rfl rfl rfl ?_)
  refine g_step rfl (s_box rfl rfl rfl rfl ?_)
  refine g_step rfl (s_box rfl rfl rfl rfl ?_)
  refine g_step rfl (s_val (v_assign rfl) rfl rfl ?_)
  refine g_nil ?_
  refine g_next hK0 ?_
  refine g_seq (fun K1 hK1 => ?_)
  refine g_seq (fun K2 hK2 => ?_)
  refine g_region ?_
  refine g_step rfl (s_val (by first | exact v_loadl_all ty32 rfl rfl rfl rfl rfl | exact v_loadl_part (cs := [_, _, _, _, _, _, _]) ty32 rfl rfl rfl rfl rfl rfl) rfl rfl ?_)
  refine g_step rfl (s_val (by first | exact v_loadl_all ty32 rfl rfl rfl rfl rfl | exact v_loadl_part (cs := [_, _, _, _, _, _, _]) ty32 rfl rfl rfl rfl rfl rfl) rfl rfl ?_)
  refine g_step rfl (s_val (by first | exact v_loadl_all ty32 rfl rfl rfl rfl rfl | exact v_loadl_part (cs := [_, _, _, _, _, _, _]) ty32 rfl rfl rfl rfl rfl rfl) rfl rfl ?_)
  refine g_step rfl (s_lit ty34 ty32 rfl rfl rfl rfl rfl rfl rfl ?_)
  refine g_step rfl (s_callp rfl rfl rfl (fewL_ok [a, b, c] _ _ rfl (by simp [hha, hhb, hhc]) (by simp)) ?_)
  rintro _ rfl
  refine g_step rfl (s_val (v_not rfl) rfl rfl ?_)
  refine g_nil ?_
  refine g_next hK2 ?_
  refine g_cond rfl (fun hc24 => ?_) (fun hc24 => ?_)
  · try simp only [decide_eq_true_eq, decide_eq_false_iff_not, Bool.not_eq_true', Bool.not_eq_false', Bool.not_eq_eq_eq_not, Bool.not_true, Bool.not_false, Bool.and_eq_true, Bool.or_eq_true, Bool.or_eq_false_iff, beq_iff_eq, beq_eq_false_iff_ne, ne_eq, Int.not_lt, Int.not_le, Decidable.not_not] at hc24
    refine g_seq (fun K3 hK3 => ?_)
    refine g_region ?_
    refine g_step rfl (s_callp rfl rfl rfl (awake09_ok _) ?_)
    rintro _ rfl
    refine g_step rfl (s_val (v_assign rfl) rfl rfl ?_)
    refine g_nil ?_
    refine g_next hK3 ?_
    refine g_ret ?_
    refine g_then_ret ?_
    refine g_end1 (.inl rfl) Try.results4 (.tmp rfl) [] (ASub.refl _) (AHeap.sub_refl _) (fun p hp => by cases hp) ⟨rfl, ?_⟩
    rfl
  · try simp only [decide_eq_true_eq, decide_eq_false_iff_not, Bool.not_eq_true', Bool.not_eq_false', Bool.not_eq_eq_eq_not, Bool.not_true, Bool.not_false, Bool.and_eq_true, Bool.or_eq_true, Bool.or_eq_false_iff, beq_iff_eq, beq_eq_false_iff_ne, ne_eq, Int.not_lt, Int.not_le, Decidable.not_not] at hc24
    have hf : few a.bag = true ∧ few b.bag = true ∧ few c.bag = true := by simpa [fewL] using hc24
    have hsa := (few_small hf.1).1
    have hsb : Small (setId b a.id).bag := (few_small hf.2.1).1
    have hsc : Small (setId c a.id).bag := (few_small hf.2.2).1
    refine g_skip ?_
    refine g_next hK1 ?_
    refine g_seq (fun K4 hK4 => ?_)
    refine g_region ?_
    refine g_step rfl (s_fieldAddr ty32 fo32_0 ty3 rfl rfl ?_)
    refine g_step rfl (s_val (v_loadl ty3 rfl rfl rfl rfl) rfl rfl ?_)
    refine g_step rfl (s_fieldAddr ty32 fo32_0 ty3 rfl rfl ?_)
    refine g_step rfl (s_store (new := (encR (setId b a.id))) ty3 rfl rfl rfl rfl rfl rfl rfl ?_)
    refine g_nil ?_
    refine g_next hK4 ?_
    refine g_seq (fun K5 hK5 => ?_)
    refine g_region ?_
    refine g_step rfl (s_fieldAddr ty32 fo32_0 ty3 rfl rfl ?_)
    refine g_step rfl (s_val (v_loadl ty3 rfl rfl rfl rfl) rfl rfl ?_)
    refine g_step rfl (s_fieldAddr ty32 fo32_0 ty3 rfl rfl ?_)
    refine g_step rfl (s_store (new := (encR (setId c a.id))) ty3 rfl rfl rfl rfl rfl rfl rfl ?_)
    refine g_nil ?_
    refine g_next hK5 ?_
    refine g_seq (fun K6 hK6 => ?_)
    refine g_region ?_
    refine g_step rfl (s_val (by first | exact v_loadl_all ty32 rfl rfl rfl rfl rfl | exact v_loadl_part (cs := [_, _, _, _, _, _, _]) ty32 rfl rfl rfl rfl rfl rfl) rfl rfl ?_)
    refine g_step rfl (s_val (by first | exact v_loadl_all ty32 rfl rfl rfl rfl rfl | exact v_loadl_part (cs := [_, _, _, _, _, _, _]) ty32 rfl rfl rfl rfl rfl rfl) rfl rfl ?_)
    refine g_step rfl (s_callp rfl rfl rfl (join_ok a (setId b a.id) _ hsa hsb) ?_)
    rintro _ rfl
    rw [jnAll_same (show a.id = (setId b a.id).id from Eq.trans (show a.id = a.id from rfl) (Eq.symm (show (setId b a.id).id = a.id from rfl))), decide_eq_true (show a.id = (setId b a.id).id from Eq.trans (show a.id = a.id from rfl) (Eq.symm (show (setId b a.id).id = a.id from rfl)))]
    refine g_step rfl (s_val (v_move rfl) rfl rfl ?_)
    refine g_step rfl (s_val (v_extract rfl rfl) rfl rfl ?_)
    refine g_step rfl (s_val (v_extract rfl rfl) rfl rfl ?_)
    refine g_step rfl (s_alloc (av := (.agg [(.int .i64 0), (.int .i64 0), (.int .i64 0), (.int .i64 0), (.int .i64 0), (.bool false), .nil0])) ty32 rfl rfl rfl rfl ?_)
    refine g_step rfl (s_store_all ty32 rfl rfl rfl rfl rfl rfl ?_)
    refine g_step rfl (s_val (v_assign rfl) rfl rfl ?_)
    refine g_nil ?_
    refine g_next hK6 ?_
    refine g_seq (fun K7 hK7 => ?_)
    refine g_region ?_
    refine g_step rfl (s_val (by first | exact v_loadl_all ty32 rfl rfl rfl rfl rfl | exact v_loadl_part (cs := [_, _, _, _, _, _, _]) ty32 rfl rfl rfl rfl rfl rfl) rfl rfl ?_)
    refine g_step rfl (s_val (by first | exact v_loadl_all ty32 rfl rfl rfl rfl rfl | exact v_loadl_part (cs := [_, _, _, _, _, _, _]) ty32 rfl rfl rfl rfl rfl rfl) rfl rfl ?_)
    refine g_step rfl (s_callp rfl rfl rfl (join_ok (setId b a.id) a _ hsb hsa) ?_)
    rintro _ rfl
    rw [jnAll_same (show (setId b a.id).id = a.id from Eq.trans (show (setId b a.id).id = a.id from rfl) (Eq.symm (show a.id = a.id from rfl))), decide_eq_true (show (setId b a.id).id = a.id from Eq.trans (show (setId b a.id).id = a.id from rfl) (Eq.symm (show a.id = a.id from rfl)))]
    refine g_step rfl (s_val (v_move rfl) rfl rfl ?_)
    refine g_step rfl (s_val (v_extract rfl rfl) rfl rfl ?_)
    refine g_step rfl (s_val (v_extract rfl rfl) rfl rfl ?_)
    refine g_step rfl (s_alloc (av := (.agg [(.int .i64 0), (.int .i64 0), (.int .i64 0), (.int .i64 0), (.int .i64 0), (.bool false), .nil0])) ty32 rfl rfl rfl rfl ?_)
    refine g_step rfl (s_store_all ty32 rfl rfl rfl rfl rfl rfl ?_)
    refine g_step rfl (s_val (v_assign rfl) rfl rfl ?_)
    refine g_nil ?_
    refine g_next hK7 ?_
    refine g_seq (fun K8 hK8 => ?_)
    refine g_region ?_
    refine g_step rfl (s_val (by first | exact v_loadl_all ty32 rfl rfl rfl rfl rfl | exact v_loadl_part (cs := [_, _, _, _, _, _, _]) ty32 rfl rfl rfl rfl rfl rfl) rfl rfl ?_)
    refine g_step rfl (s_val (by first | exact v_loadl_all ty32 rfl rfl rfl rfl rfl | exact v_loadl_part (cs := [_, _, _, _, _, _, _]) ty32 rfl rfl rfl rfl rfl rfl) rfl rfl ?_)
    refine g_step rfl (s_callp rfl rfl rfl (join_ok a a _ hsa hsa) ?_)
    rintro _ rfl
    rw [jnAll_same (show a.id = a.id from Eq.trans (show a.id = a.id from rfl) (Eq.symm (show a.id = a.id from rfl))), decide_eq_true (show a.id = a.id from Eq.trans (show a.id = a.id from rfl) (Eq.symm (show a.id = a.id from rfl)))]
    refine g_step rfl (s_val (v_move rfl) rfl rfl ?_)
    refine g_step rfl (s_val (v_extract rfl rfl) rfl rfl ?_)
    refine g_step rfl (s_val (v_extract rfl rfl) rfl rfl ?_)
    refine g_step rfl (s_alloc (av := (.agg [(.int .i64 0), (.int .i64 0), (.int .i64 0), (.int .i64 0), (.int .i64 0), (.bool false), .nil0])) ty32 rfl rfl rfl rfl ?_)
    refine g_step rfl (s_store_all ty32 rfl rfl rfl rfl rfl rfl ?_)
    refine g_step rfl (s_val (v_assign rfl) rfl rfl ?_)
    refine g_nil ?_
    refine g_next hK8 ?_
    refine g_seq (fun K9 hK9 => ?_)
    refine g_region ?_
    refine g_step rfl (s_val (by first | exact v_loadl_all ty32 rfl rfl rfl rfl rfl | exact v_loadl_part (cs := [_, _, _, _, _, _, _]) ty32 rfl rfl rfl rfl rfl rfl) rfl rfl ?_)
    refine g_step rfl (s_val (by first | exact v_loadl_all ty32 rfl rfl rfl rfl rfl | exact v_loadl_part (cs := [_, _, _, _, _, _, _]) ty32 rfl rfl rfl rfl rfl rfl) rfl rfl ?_)
    refine g_step rfl (s_callp rfl rfl rfl (join_ok (setId b a.id) (setId c a.id) _ hsb hsc) ?_)
    rintro _ rfl
    rw [jnAll_same (show (setId b a.id).id = (setId c a.id).id from Eq.trans (show (setId b a.id).id = a.id from rfl) (Eq.symm (show (setId c a.id).id = a.id from rfl))), decide_eq_true (show (setId b a.id).id = (setId c a.id).id from Eq.trans (show (setId b a.id).id = a.id from rfl) (Eq.symm (show (setId c a.id).id = a.id from rfl)))]
    refine g_step rfl (s_val (v_move rfl) rfl rfl ?_)
    refine g_step rfl (s_val (v_extract rfl rfl) rfl rfl ?_)
    refine g_step rfl (s_val (v_extract rfl rfl) rfl rfl ?_)
    refine g_step rfl (s_alloc (av := (.agg [(.int .i64 0), (.int .i64 0), (.int .i64 0), (.int .i64 0), (.int .i64 0), (.bool false), .nil0])) ty32 rfl rfl rfl rfl ?_)
    refine g_step rfl (s_store_all ty32 rfl rfl rfl rfl rfl rfl ?_)
    refine g_step rfl (s_val (v_assign rfl) rfl rfl ?_)
    refine g_nil ?_
    refine g_next hK9 ?_
    refine g_seq (fun K10 hK10 => ?_)
    refine g_seq (fun K11 hK11 => ?_)
    refine g_region ?_
    refine g_step rfl (s_val (v_move rfl) rfl rfl ?_)
    refine g_step rfl (s_val (v_not rfl) rfl rfl ?_)
    refine g_step rfl (s_val (v_move rfl) rfl rfl ?_)
    refine g_split 58 rfl (fun hg58 => ?_) (fun hg58 => ?_)
    · exfalso; (try simp only [decide_eq_true_eq, decide_eq_false_iff_not, Bool.not_eq_true', Bool.not_eq_false', Bool.not_eq_eq_eq_not, Bool.not_true, Bool.not_false, Bool.and_eq_true, Bool.or_eq_true, Bool.or_eq_false_iff, beq_iff_eq, beq_eq_false_iff_ne, ne_eq, Int.not_lt, Int.not_le, Decidable.not_not] at hg58); first | done | simp at hg58
    · try simp only [decide_eq_true_eq, decide_eq_false_iff_not, Bool.not_eq_true', Bool.not_eq_false', Bool.not_eq_eq_eq_not, Bool.not_true, Bool.not_false, Bool.and_eq_true, Bool.or_eq_true, Bool.or_eq_false_iff, beq_iff_eq, beq_eq_false_iff_ne, ne_eq, Int.not_lt, Int.not_le, Decidable.not_not] at hg58
      refine g_step_yes (j := 2) (t := 58) rfl rfl rfl rfl (s_val (v_move rfl) rfl rfl ?_)
      refine g_step_yes (j := 2) (t := 58) rfl rfl rfl rfl (s_val (v_not rfl) rfl rfl ?_)
      refine g_step rfl (s_val (v_pick_f rfl rfl) rfl rfl ?_)
      refine g_step rfl (s_val (v_move rfl) rfl rfl ?_)
      refine g_split 62 rfl (fun hg62 => ?_) (fun hg62 => ?_)
      · exfalso; (try simp only [decide_eq_true_eq, decide_eq_false_iff_not, Bool.not_eq_true', Bool.not_eq_false', Bool.not_eq_eq_eq_not, Bool.not_true, Bool.not_false, Bool.and_eq_true, Bool.or_eq_true, Bool.or_eq_false_iff, beq_iff_eq, beq_eq_false_iff_ne, ne_eq, Int.not_lt, Int.not_le, Decidable.not_not] at hg62); first | done | simp at hg62
      · try simp only [decide_eq_true_eq, decide_eq_false_iff_not, Bool.not_eq_true', Bool.not_eq_false', Bool.not_eq_eq_eq_not, Bool.not_true, Bool.not_false, Bool.and_eq_true, Bool.or_eq_true, Bool.or_eq_false_iff, beq_iff_eq, beq_eq_false_iff_ne, ne_eq, Int.not_lt, Int.not_le, Decidable.not_not] at hg62
        refine g_step_yes (j := 6) (t := 62) rfl rfl rfl rfl (s_val (v_move rfl) rfl rfl ?_)
        refine g_step_yes (j := 6) (t := 62) rfl rfl rfl rfl (s_val (v_not rfl) rfl rfl ?_)
        refine g_step rfl (s_val (v_pick_f rfl rfl) rfl rfl ?_)
        refine g_step rfl (s_val (v_move rfl) rfl rfl ?_)
        refine g_split 66 rfl (fun hg66 => ?_) (fun hg66 => ?_)
        · exfalso; (try simp only [decide_eq_true_eq, decide_eq_false_iff_not, Bool.not_eq_true', Bool.not_eq_false', Bool.not_eq_eq_eq_not, Bool.not_true, Bool.not_false, Bool.and_eq_true, Bool.or_eq_true, Bool.or_eq_false_iff, beq_iff_eq, beq_eq_false_iff_ne, ne_eq, Int.not_lt, Int.not_le, Decidable.not_not] at hg66); first | done | simp at hg66
        · try simp only [decide_eq_true_eq, decide_eq_false_iff_not, Bool.not_eq_true', Bool.not_eq_false', Bool.not_eq_eq_eq_not, Bool.not_true, Bool.not_false, Bool.and_eq_true, Bool.or_eq_true, Bool.or_eq_false_iff, beq_iff_eq, beq_eq_false_iff_ne, ne_eq, Int.not_lt, Int.not_le, Decidable.not_not] at hg66
          refine g_step_yes (j := 10) (t := 66) rfl rfl rfl rfl (s_val (v_move rfl) rfl rfl ?_)
          refine g_step_yes (j := 10) (t := 66) rfl rfl rfl rfl (s_val (v_not rfl) rfl rfl ?_)
          refine g_step rfl (s_val (v_pick_f rfl rfl) rfl rfl ?_)
          refine g_nil ?_
          refine g_next hK11 ?_
          refine g_cond rfl (fun hc69 => ?_) (fun hc69 => ?_)
          · exfalso; (try simp only [decide_eq_true_eq, decide_eq_false_iff_not, Bool.not_eq_true', Bool.not_eq_false', Bool.not_eq_eq_eq_not, Bool.not_true, Bool.not_false, Bool.and_eq_true, Bool.or_eq_true, Bool.or_eq_false_iff, beq_iff_eq, beq_eq_false_iff_ne, ne_eq, Int.not_lt, Int.not_le, Decidable.not_not] at hc69); first | done | simp at hc69
          · try simp only [decide_eq_true_eq, decide_eq_false_iff_not, Bool.not_eq_true', Bool.not_eq_false', Bool.not_eq_eq_eq_not, Bool.not_true, Bool.not_false, Bool.and_eq_true, Bool.or_eq_true, Bool.or_eq_false_iff, beq_iff_eq, beq_eq_false_iff_ne, ne_eq, Int.not_lt, Int.not_le, Decidable.not_not] at hc69
            refine g_skip ?_
            refine g_next hK10 ?_
            refine g_seq (fun K12 hK12 => ?_)
            refine g_region ?_
            refine g_step rfl (s_val (by first | exact v_loadl_all ty32 rfl rfl rfl rfl rfl | exact v_loadl_part (cs := [_, _, _, _, _, _, _]) ty32 rfl rfl rfl rfl rfl rfl) rfl rfl ?_)
            refine g_step rfl (s_val (by first | exact v_loadl_all ty32 rfl rfl rfl rfl rfl | exact v_loadl_part (cs := [_, _, _, _, _, _, _]) ty32 rfl rfl rfl rfl rfl rfl) rfl rfl ?_)
            refine g_step rfl (s_callp rfl rfl rfl (join_ok (jn a (setId b a.id)) (setId c a.id) _ (jn_small hsa hsb) hsc) ?_)
            rintro _ rfl
            rw [jnAll_same (show (jn a (setId b a.id)).id = (setId c a.id).id from Eq.trans (show (jn a (setId b a.id)).id = a.id from (jn_id (a := a) (b := (setId b a.id)) rfl)) (Eq.symm (show (setId c a.id).id = a.id from rfl))), decide_eq_true (show (jn a (setId b a.id)).id = (setId c a.id).id from Eq.trans (show (jn a (setId b a.id)).id = a.id from (jn_id (a := a) (b := (setId b a.id)) rfl)) (Eq.symm (show (setId c a.id).id = a.id from rfl)))]
            refine g_step rfl (s_val (v_move rfl) rfl rfl ?_)
            refine g_step rfl (s_val (v_extract rfl rfl) rfl rfl ?_)
            refine g_step rfl (s_val (v_extract rfl rfl) rfl rfl ?_)
            refine g_step rfl (s_alloc (av := (.agg [(.int .i64 0), (.int .i64 0), (.int .i64 0), (.int .i64 0), (.int .i64 0), (.bool false), .nil0])) ty32 rfl rfl rfl rfl ?_)
            refine g_step rfl (s_store_all ty32 rfl rfl rfl rfl rfl rfl ?_)
            refine g_step rfl (s_val (v_assign rfl) rfl rfl ?_)
            refine g_nil ?_
            refine g_next hK12 ?_
            refine g_seq (fun K13 hK13 => ?_)
            refine g_region ?_
            refine g_step rfl (s_val (by first | exact v_loadl_all ty32 rfl rfl rfl rfl rfl | exact v_loadl_part (cs := [_, _, _, _, _, _, _]) ty32 rfl rfl rfl rfl rfl rfl) rfl rfl ?_)
            refine g_step rfl (s_val (by first | exact v_loadl_all ty32 rfl rfl rfl rfl rfl | exact v_loadl_part (cs := [_, _, _, _, _, _, _]) ty32 rfl rfl rfl rfl rfl rfl) rfl rfl ?_)
            refine g_step rfl (s_callp rfl rfl rfl (join_ok a (jn (setId b a.id) (setId c a.id)) _ hsa (jn_small hsb hsc)) ?_)
            rintro _ rfl
            rw [jnAll_same (show a.id = (jn (setId b a.id) (setId c a.id)).id from Eq.trans (show a.id = a.id from rfl) (Eq.symm (show (jn (setId b a.id) (setId c a.id)).id = a.id from (jn_id (a := (setId b a.id)) (b := (setId c a.id)) rfl)))), decide_eq_true (show a.id = (jn (setId b a.id) (setId c a.id)).id from Eq.trans (show a.id = a.id from rfl) (Eq.symm (show (jn (setId b a.id) (setId c a.id)).id = a.id from (jn_id (a := (setId b a.id)) (b := (setId c a.id)) rfl))))]
            refine g_step rfl (s_val (v_move rfl) rfl rfl ?_)
            refine g_step rfl (s_val (v_extract rfl rfl) rfl rfl ?_)
            refine g_step rfl (s_val (v_extract rfl rfl) rfl rfl ?_)
            refine g_step rfl (s_alloc (av := (.agg [(.int .i64 0), (.int .i64 0), (.int .i64 0), (.int .i64 0), (.int .i64 0), (.bool false), .nil0])) ty32 rfl rfl rfl rfl ?_)
            refine g_step rfl (s_store_all ty32 rfl rfl rfl rfl rfl rfl ?_)
            refine g_step rfl (s_val (v_assign rfl) rfl rfl ?_)
            refine g_nil ?_
            refine g_next hK13 ?_
            refine g_seq (fun K14 hK14 => ?_)
            refine g_seq (fun K15 hK15 => ?_)
            refine g_region ?_
            refine g_step rfl (s_val (v_move rfl) rfl rfl ?_)
            refine g_step rfl (s_val (v_not rfl) rfl rfl ?_)
            refine g_step rfl (s_val (v_move rfl) rfl rfl ?_)
            refine g_split 84 rfl (fun hg84 => ?_) (fun hg84 => ?_)
            · exfalso; (try simp only [decide_eq_true_eq, decide_eq_false_iff_not, Bool.not_eq_true', Bool.not_eq_false', Bool.not_eq_eq_eq_not, Bool.not_true, Bool.not_false, Bool.and_eq_true, Bool.or_eq_true, Bool.or_eq_false_iff, beq_iff_eq, beq_eq_false_iff_ne, ne_eq, Int.not_lt, Int.not_le, Decidable.not_not] at hg84); first | done | simp at hg84
            · try simp only [decide_eq_true_eq, decide_eq_false_iff_not, Bool.not_eq_true', Bool.not_eq_false', Bool.not_eq_eq_eq_not, Bool.not_true, Bool.not_false, Bool.and_eq_true, Bool.or_eq_true, Bool.or_eq_false_iff, beq_iff_eq, beq_eq_false_iff_ne, ne_eq, Int.not_lt, Int.not_le, Decidable.not_not] at hg84
              refine g_step_yes (j := 2) (t := 84) rfl rfl rfl rfl (s_val (v_move rfl) rfl rfl ?_)
              refine g_step_yes (j := 2) (t := 84) rfl rfl rfl rfl (s_val (v_not rfl) rfl rfl ?_)
              refine g_step rfl (s_val (v_pick_f rfl rfl) rfl rfl ?_)
              refine g_step rfl (s_val (v_move rfl) rfl rfl ?_)
              refine g_split 88 rfl (fun hg88 => ?_) (fun hg88 => ?_)
              · exfalso; (try simp only [decide_eq_true_eq, decide_eq_false_iff_not, Bool.not_eq_true', Bool.not_eq_false', Bool.not_eq_eq_eq_not, Bool.not_true, Bool.not_false, Bool.and_eq_true, Bool.or_eq_true, Bool.or_eq_false_iff, beq_iff_eq, beq_eq_false_iff_ne, ne_eq, Int.not_lt, Int.not_le, Decidable.not_not] at hg88); first | done | simp at hg88
              · try simp only [decide_eq_true_eq, decide_eq_false_iff_not, Bool.not_eq_true', Bool.not_eq_false', Bool.not_eq_eq_eq_not, Bool.not_true, Bool.not_false, Bool.and_eq_true, Bool.or_eq_true, Bool.or_eq_false_iff, beq_iff_eq, beq_eq_false_iff_ne, ne_eq, Int.not_lt, Int.not_le, Decidable.not_not] at hg88
                refine g_step_yes (j := 6) (t := 88) rfl rfl rfl rfl (s_val (by first | exact v_loadl_all ty32 rfl rfl rfl rfl rfl | exact v_loadl_part (cs := [_, _, _, _, _, _, _]) ty32 rfl rfl rfl rfl rfl rfl) rfl rfl ?_)
                refine g_step_yes (j := 6) (t := 88) rfl rfl rfl rfl (s_val (by first | exact v_loadl_all ty32 rfl rfl rfl rfl rfl | exact v_loadl_part (cs := [_, _, _, _, _, _, _]) ty32 rfl rfl rfl rfl rfl rfl) rfl rfl ?_)
                refine g_step_yes (j := 6) (t := 88) rfl rfl rfl rfl (s_callp rfl rfl rfl (alike_ok (jn a (setId b a.id)) (jn (setId b a.id) a) _ (jn_small hsa hsb)) ?_)
                rintro _ rfl
                rw [decide_eq_true (jn_comm (a := a) (b := (setId b a.id)) rfl)]
                refine g_step_yes (j := 6) (t := 88) rfl rfl rfl rfl (s_val (v_not rfl) rfl rfl ?_)
                refine g_step rfl (s_val (v_pick_f rfl rfl) rfl rfl ?_)
                refine g_step rfl (s_val (v_move rfl) rfl rfl ?_)
                refine g_split 94 rfl (fun hg94 => ?_) (fun hg94 => ?_)
                · exfalso; (try simp only [decide_eq_true_eq, decide_eq_false_iff_not, Bool.not_eq_true', Bool.not_eq_false', Bool.not_eq_eq_eq_not, Bool.not_true, Bool.not_false, Bool.and_eq_true, Bool.or_eq_true, Bool.or_eq_false_iff, beq_iff_eq, beq_eq_false_iff_ne, ne_eq, Int.not_lt, Int.not_le, Decidable.not_not] at hg94); first | done | simp at hg94
                · try simp only [decide_eq_true_eq, decide_eq_false_iff_not, Bool.not_eq_true', Bool.not_eq_false', Bool.not_eq_eq_eq_not, Bool.not_true, Bool.not_false, Bool.and_eq_true, Bool.or_eq_true, Bool.or_eq_false_iff, beq_iff_eq, beq_eq_false_iff_ne, ne_eq, Int.not_lt, Int.not_le, Decidable.not_not] at hg94
                  refine g_step_yes (j := 12) (t := 94) rfl rfl rfl rfl (s_val (by first | exact v_loadl_all ty32 rfl rfl rfl rfl rfl | exact v_loadl_part (cs := [_, _, _, _, _, _, _]) ty32 rfl rfl rfl rfl rfl rfl) rfl rfl ?_)
                  refine g_step_yes (j := 12) (t := 94) rfl rfl rfl rfl (s_val (by first | exact v_loadl_all ty32 rfl rfl rfl rfl rfl | exact v_loadl_part (cs := [_, _, _, _, _, _, _]) ty32 rfl rfl rfl rfl rfl rfl) rfl rfl ?_)
                  refine g_step_yes (j := 12) (t := 94) rfl rfl rfl rfl (s_callp rfl rfl rfl (alike_ok (jn a a) a _ (jn_small hsa hsa)) ?_)
                  rintro _ rfl
                  rw [decide_eq_true (jn_idem a)]
                  refine g_step_yes (j := 12) (t := 94) rfl rfl rfl rfl (s_val (v_not rfl) rfl rfl ?_)
                  refine g_step rfl (s_val (v_pick_f rfl rfl) rfl rfl ?_)
                  refine g_step rfl (s_val (v_move rfl) rfl rfl ?_)
                  refine g_split 100 rfl (fun hg100 => ?_) (fun hg100 => ?_)
                  · exfalso; (try simp only [decide_eq_true_eq, decide_eq_false_iff_not, Bool.not_eq_true', Bool.not_eq_false', Bool.not_eq_eq_eq_not, Bool.not_true, Bool.not_false, Bool.and_eq_true, Bool.or_eq_true, Bool.or_eq_false_iff, beq_iff_eq, beq_eq_false_iff_ne, ne_eq, Int.not_lt, Int.not_le, Decidable.not_not] at hg100); first | done | simp at hg100
                  · try simp only [decide_eq_true_eq, decide_eq_false_iff_not, Bool.not_eq_true', Bool.not_eq_false', Bool.not_eq_eq_eq_not, Bool.not_true, Bool.not_false, Bool.and_eq_true, Bool.or_eq_true, Bool.or_eq_false_iff, beq_iff_eq, beq_eq_false_iff_ne, ne_eq, Int.not_lt, Int.not_le, Decidable.not_not] at hg100
                    refine g_step_yes (j := 18) (t := 100) rfl rfl rfl rfl (s_val (by first | exact v_loadl_all ty32 rfl rfl rfl rfl rfl | exact v_loadl_part (cs := [_, _, _, _, _, _, _]) ty32 rfl rfl rfl rfl rfl rfl) rfl rfl ?_)
                    refine g_step_yes (j := 18) (t := 100) rfl rfl rfl rfl (s_val (by first | exact v_loadl_all ty32 rfl rfl rfl rfl rfl | exact v_loadl_part (cs := [_, _, _, _, _, _, _]) ty32 rfl rfl rfl rfl rfl rfl) rfl rfl ?_)
                    refine g_step_yes (j := 18) (t := 100) rfl rfl rfl rfl (s_callp rfl rfl rfl (alike_ok (jn (jn a (setId b a.id)) (setId c a.id)) (jn a (jn (setId b a.id) (setId c a.id))) _ (jn_small (jn_small hsa hsb) hsc)) ?_)
                    rintro _ rfl
                    rw [decide_eq_true (jn_assoc a (setId b a.id) (setId c a.id))]
                    refine g_step_yes (j := 18) (t := 100) rfl rfl rfl rfl (s_val (v_not rfl) rfl rfl ?_)
                    refine g_step rfl (s_val (v_pick_f rfl rfl) rfl rfl ?_)
                    refine g_nil ?_
                    refine g_next hK15 ?_
                    refine g_cond rfl (fun hc105 => ?_) (fun hc105 => ?_)
                    · exfalso; (try simp only [decide_eq_true_eq, decide_eq_false_iff_not, Bool.not_eq_true', Bool.not_eq_false', Bool.not_eq_eq_eq_not, Bool.not_true, Bool.not_false, Bool.and_eq_true, Bool.or_eq_true, Bool.or_eq_false_iff, beq_iff_eq, beq_eq_false_iff_ne, ne_eq, Int.not_lt, Int.not_le, Decidable.not_not] at hc105); first | done | simp at hc105
                    · try simp only [decide_eq_true_eq, decide_eq_false_iff_not, Bool.not_eq_true', Bool.not_eq_false', Bool.not_eq_eq_eq_not, Bool.not_true, Bool.not_false, Bool.and_eq_true, Bool.or_eq_true, Bool.or_eq_false_iff, beq_iff_eq, beq_eq_false_iff_ne, ne_eq, Int.not_lt, Int.not_le, Decidable.not_not] at hc105
                      refine g_skip ?_
                      refine g_next hK14 ?_
                      refine g_seq (fun K16 hK16 => ?_)
                      refine g_seq (fun K17 hK17 => ?_)
                      refine g_region ?_
                      refine g_step rfl (s_val (by first | exact v_loadl_all ty32 rfl rfl rfl rfl rfl | exact v_loadl_part (cs := [_, _, _, _, _, _, _]) ty32 rfl rfl rfl rfl rfl rfl) rfl rfl ?_)
                      refine g_step rfl (s_val (by first | exact v_loadl_all ty32 rfl rfl rfl rfl rfl | exact v_loadl_part (cs := [_, _, _, _, _, _, _]) ty32 rfl rfl rfl rfl rfl rfl) rfl rfl ?_)
                      refine g_step rfl (s_callp rfl rfl rfl (below_ok a (jn a (setId b a.id)) _ hsa (jn_small hsa hsb) (by rw [jnAll_same (show a.id = (jn a (setId b a.id)).id from Eq.trans (show a.id = a.id from rfl) (Eq.symm (show (jn a (setId b a.id)).id = a.id from (jn_id (a := a) (b := (setId b a.id)) rfl))))]; exact jn_small hsa (jn_small hsa hsb))) ?_)
                      rintro _ rfl
                      rw [decide_eq_true (show a.id = (jn a (setId b a.id)).id from Eq.trans (show a.id = a.id from rfl) (Eq.symm (show (jn a (setId b a.id)).id = a.id from (jn_id (a := a) (b := (setId b a.id)) rfl)))), Bool.true_and, jnAll_same (show a.id = (jn a (setId b a.id)).id from Eq.trans (show a.id = a.id from rfl) (Eq.symm (show (jn a (setId b a.id)).id = a.id from (jn_id (a := a) (b := (setId b a.id)) rfl)))), decide_eq_true (jn_up_left a (setId b a.id))]
                      refine g_step rfl (s_val (v_not rfl) rfl rfl ?_)
                      refine g_step rfl (s_val (v_move rfl) rfl rfl ?_)
                      refine g_split 110 rfl (fun hg110 => ?_) (fun hg110 => ?_)
                      · exfalso; (try simp only [decide_eq_true_eq, decide_eq_false_iff_not, Bool.not_eq_true', Bool.not_eq_false', Bool.not_eq_eq_eq_not, Bool.not_true, Bool.not_false, Bool.and_eq_true, Bool.or_eq_true, Bool.or_eq_false_iff, beq_iff_eq, beq_eq_false_iff_ne, ne_eq, Int.not_lt, Int.not_le, Decidable.not_not] at hg110); first | done | simp at hg110
                      · try simp only [decide_eq_true_eq, decide_eq_false_iff_not, Bool.not_eq_true', Bool.not_eq_false', Bool.not_eq_eq_eq_not, Bool.not_true, Bool.not_false, Bool.and_eq_true, Bool.or_eq_true, Bool.or_eq_false_iff, beq_iff_eq, beq_eq_false_iff_ne, ne_eq, Int.not_lt, Int.not_le, Decidable.not_not] at hg110
                        refine g_step_yes (j := 4) (t := 110) rfl rfl rfl rfl (s_val (by first | exact v_loadl_all ty32 rfl rfl rfl rfl rfl | exact v_loadl_part (cs := [_, _, _, _, _, _, _]) ty32 rfl rfl rfl rfl rfl rfl) rfl rfl ?_)
                        refine g_step_yes (j := 4) (t := 110) rfl rfl rfl rfl (s_val (by first | exact v_loadl_all ty32 rfl rfl rfl rfl rfl | exact v_loadl_part (cs := [_, _, _, _, _, _, _]) ty32 rfl rfl rfl rfl rfl rfl) rfl rfl ?_)
                        refine g_step_yes (j := 4) (t := 110) rfl rfl rfl rfl (s_callp rfl rfl rfl (below_ok (setId b a.id) (jn a (setId b a.id)) _ hsb (jn_small hsa hsb) (by rw [jnAll_same (show (setId b a.id).id = (jn a (setId b a.id)).id from Eq.trans (show (setId b a.id).id = a.id from rfl) (Eq.symm (show (jn a (setId b a.id)).id = a.id from (jn_id (a := a) (b := (setId b a.id)) rfl))))]; exact jn_small hsb (jn_small hsa hsb))) ?_)
                        rintro _ rfl
                        rw [decide_eq_true (show (setId b a.id).id = (jn a (setId b a.id)).id from Eq.trans (show (setId b a.id).id = a.id from rfl) (Eq.symm (show (jn a (setId b a.id)).id = a.id from (jn_id (a := a) (b := (setId b a.id)) rfl)))), Bool.true_and, jnAll_same (show (setId b a.id).id = (jn a (setId b a.id)).id from Eq.trans (show (setId b a.id).id = a.id from rfl) (Eq.symm (show (jn a (setId b a.id)).id = a.id from (jn_id (a := a) (b := (setId b a.id)) rfl)))), decide_eq_true (jn_up_right (a := a) (b := (setId b a.id)) rfl)]
                        refine g_step_yes (j := 4) (t := 110) rfl rfl rfl rfl (s_val (v_not rfl) rfl rfl ?_)
                        refine g_step rfl (s_val (v_pick_f rfl rfl) rfl rfl ?_)
                        refine g_step rfl (s_val (v_move rfl) rfl rfl ?_)
                        refine g_split 116 rfl (fun hg116 => ?_) (fun hg116 => ?_)
                        · exfalso; (try simp only [decide_eq_true_eq, decide_eq_false_iff_not, Bool.not_eq_true', Bool.not_eq_false', Bool.not_eq_eq_eq_not, Bool.not_true, Bool.not_false, Bool.and_eq_true, Bool.or_eq_true, Bool.or_eq_false_iff, beq_iff_eq, beq_eq_false_iff_ne, ne_eq, Int.not_lt, Int.not_le, Decidable.not_not] at hg116); first | done | simp at hg116
                        · try simp only [decide_eq_true_eq, decide_eq_false_iff_not, Bool.not_eq_true', Bool.not_eq_false', Bool.not_eq_eq_eq_not, Bool.not_true, Bool.not_false, Bool.and_eq_true, Bool.or_eq_true, Bool.or_eq_false_iff, beq_iff_eq, beq_eq_false_iff_ne, ne_eq, Int.not_lt, Int.not_le, Decidable.not_not] at hg116
                          refine g_step_yes (j := 10) (t := 116) rfl rfl rfl rfl (s_val (by first | exact v_loadl_all ty32 rfl rfl rfl rfl rfl | exact v_loadl_part (cs := [_, _, _, _, _, _, _]) ty32 rfl rfl rfl rfl rfl rfl) rfl rfl ?_)
                          refine g_step_yes (j := 10) (t := 116) rfl rfl rfl rfl (s_val (by first | exact v_loadl_all ty32 rfl rfl rfl rfl rfl | exact v_loadl_part (cs := [_, _, _, _, _, _, _]) ty32 rfl rfl rfl rfl rfl rfl) rfl rfl ?_)
                          refine g_step_yes (j := 10) (t := 116) rfl rfl rfl rfl (s_callp rfl rfl rfl (below_ok a (setId c a.id) _ hsa hsc (by rw [jnAll_same (show a.id = (setId c a.id).id from Eq.trans (show a.id = a.id from rfl) (Eq.symm (show (setId c a.id).id = a.id from rfl)))]; exact jn_small hsa hsc)) ?_)
                          rintro _ rfl
                          rw [decide_eq_true (show a.id = (setId c a.id).id from Eq.trans (show a.id = a.id from rfl) (Eq.symm (show (setId c a.id).id = a.id from rfl))), Bool.true_and, jnAll_same (show a.id = (setId c a.id).id from Eq.trans (show a.id = a.id from rfl) (Eq.symm (show (setId c a.id).id = a.id from rfl)))]
                          refine g_step_yes (j := 10) (t := 116) rfl rfl rfl rfl (s_val (v_move rfl) rfl rfl ?_)
                          refine g_split 120 rfl (fun hg120 => ?_) (fun hg120 => ?_)
                          · try simp only [decide_eq_true_eq, decide_eq_false_iff_not, Bool.not_eq_true', Bool.not_eq_false', Bool.not_eq_eq_eq_not, Bool.not_true, Bool.not_false, Bool.and_eq_true, Bool.or_eq_true, Bool.or_eq_false_iff, beq_iff_eq, beq_eq_false_iff_ne, ne_eq, Int.not_lt, Int.not_le, Decidable.not_not] at hg120
                            refine g_step_yes (j := 14) (t := 120) rfl rfl rfl rfl (s_val (by first | exact v_loadl_all ty32 rfl rfl rfl rfl rfl | exact v_loadl_part (cs := [_, _, _, _, _, _, _]) ty32 rfl rfl rfl rfl rfl rfl) rfl rfl ?_)
                            refine g_step_yes (j := 14) (t := 120) rfl rfl rfl rfl (s_val (by first | exact v_loadl_all ty32 rfl rfl rfl rfl rfl | exact v_loadl_part (cs := [_, _, _, _, _, _, _]) ty32 rfl rfl rfl rfl rfl rfl) rfl rfl ?_)
                            refine g_step_yes (j := 14) (t := 120) rfl rfl rfl rfl (s_callp rfl rfl rfl (below_ok (setId b a.id) (setId c a.id) _ hsb hsc (by rw [jnAll_same (show (setId b a.id).id = (setId c a.id).id from Eq.trans (show (setId b a.id).id = a.id from rfl) (Eq.symm (show (setId c a.id).id = a.id from rfl)))]; exact jn_small hsb hsc)) ?_)
                            rintro _ rfl
                            rw [decide_eq_true (show (setId b a.id).id = (setId c a.id).id from Eq.trans (show (setId b a.id).id = a.id from rfl) (Eq.symm (show (setId c a.id).id = a.id from rfl))), Bool.true_and, jnAll_same (show (setId b a.id).id = (setId c a.id).id from Eq.trans (show (setId b a.id).id = a.id from rfl) (Eq.symm (show (setId c a.id).id = a.id from rfl)))]
                            refine g_step_yes (j := 10) (t := 116) rfl rfl rfl rfl (s_val (v_pick_t rfl rfl) rfl rfl ?_)
                            refine g_step_yes (j := 10) (t := 116) rfl rfl rfl rfl (s_val (v_move rfl) rfl rfl ?_)
                            refine g_split 125 rfl (fun hg125 => ?_) (fun hg125 => ?_)
                            · try simp only [decide_eq_true_eq, decide_eq_false_iff_not, Bool.not_eq_true', Bool.not_eq_false', Bool.not_eq_eq_eq_not, Bool.not_true, Bool.not_false, Bool.and_eq_true, Bool.or_eq_true, Bool.or_eq_false_iff, beq_iff_eq, beq_eq_false_iff_ne, ne_eq, Int.not_lt, Int.not_le, Decidable.not_not] at hg125
                              refine g_step_yes (j := 19) (t := 125) rfl rfl rfl rfl (s_val (by first | exact v_loadl_all ty32 rfl rfl rfl rfl rfl | exact v_loadl_part (cs := [_, _, _, _, _, _, _]) ty32 rfl rfl rfl rfl rfl rfl) rfl rfl ?_)
                              refine g_step_yes (j := 19) (t := 125) rfl rfl rfl rfl (s_val (by first | exact v_loadl_all ty32 rfl rfl rfl rfl rfl | exact v_loadl_part (cs := [_, _, _, _, _, _, _]) ty32 rfl rfl rfl rfl rfl rfl) rfl rfl ?_)
                              refine g_step_yes (j := 19) (t := 125) rfl rfl rfl rfl (s_callp rfl rfl rfl (below_ok (jn a (setId b a.id)) (setId c a.id) _ (jn_small hsa hsb) hsc (by rw [jnAll_same (show (jn a (setId b a.id)).id = (setId c a.id).id from Eq.trans (show (jn a (setId b a.id)).id = a.id from (jn_id (a := a) (b := (setId b a.id)) rfl)) (Eq.symm (show (setId c a.id).id = a.id from rfl)))]; exact jn_small (jn_small hsa hsb) hsc)) ?_)
                              rintro _ rfl
                              rw [decide_eq_true (show (jn a (setId b a.id)).id = (setId c a.id).id from Eq.trans (show (jn a (setId b a.id)).id = a.id from (jn_id (a := a) (b := (setId b a.id)) rfl)) (Eq.symm (show (setId c a.id).id = a.id from rfl))), Bool.true_and, jnAll_same (show (jn a (setId b a.id)).id = (setId c a.id).id from Eq.trans (show (jn a (setId b a.id)).id = a.id from (jn_id (a := a) (b := (setId b a.id)) rfl)) (Eq.symm (show (setId c a.id).id = a.id from rfl)))]
                              refine g_step_yes (j := 19) (t := 125) rfl rfl rfl rfl (s_val (v_not rfl) rfl rfl ?_)
                              refine g_step_yes (j := 10) (t := 116) rfl rfl rfl rfl (s_val (v_pick_t rfl rfl) rfl rfl ?_)
                              refine g_step rfl (s_val (v_pick_f rfl rfl) rfl rfl ?_)
                              refine g_nil ?_
                              refine g_next hK17 ?_
                              refine g_cond rfl (fun hc131 => ?_) (fun hc131 => ?_)
                              · exfalso; (try simp only [decide_eq_true_eq, decide_eq_false_iff_not, Bool.not_eq_true', Bool.not_eq_false', Bool.not_eq_eq_eq_not, Bool.not_true, Bool.not_false, Bool.and_eq_true, Bool.or_eq_true, Bool.or_eq_false_iff, beq_iff_eq, beq_eq_false_iff_ne, ne_eq, Int.not_lt, Int.not_le, Decidable.not_not] at hc131); first | done | (simp at hc131; done) | (have h1 : jn (jn a (setId b a.id)) (setId c a.id) = (setId c a.id) := jn_least (by assumption) (by assumption); first | exact hc131 h1 | exact absurd h1 hc131 | (simp [h1] at hc131; done))
                              · try simp only [decide_eq_true_eq, decide_eq_false_iff_not, Bool.not_eq_true', Bool.not_eq_false', Bool.not_eq_eq_eq_not, Bool.not_true, Bool.not_false, Bool.and_eq_true, Bool.or_eq_true, Bool.or_eq_false_iff, beq_iff_eq, beq_eq_false_iff_ne, ne_eq, Int.not_lt, Int.not_le, Decidable.not_not] at hc131
                                refine g_skip ?_
                                refine g_next hK16 ?_
                                refine g_seq (fun K18 hK18 => ?_)
                                refine g_region ?_
                                refine g_step rfl (s_val (by first | exact v_loadl_all ty32 rfl rfl rfl rfl rfl | exact v_loadl_part (cs := [_, _, _, _, _, _, _]) ty32 rfl rfl rfl rfl rfl rfl) rfl rfl ?_)
                                refine g_step rfl (s_val (by first | exact v_loadl_all ty32 rfl rfl rfl rfl rfl | exact v_loadl_part (cs := [_, _, _, _, _, _, _]) ty32 rfl rfl rfl rfl rfl rfl) rfl rfl ?_)
                                refine g_step rfl (s_callp rfl rfl rfl (below_ok a (setId b a.id) _ hsa hsb (by rw [jnAll_same (show a.id = (setId b a.id).id from Eq.trans (show a.id = a.id from rfl) (Eq.symm (show (setId b a.id).id = a.id from rfl)))]; exact jn_small hsa hsb)) ?_)
                                rintro _ rfl
                                rw [decide_eq_true (show a.id = (setId b a.id).id from Eq.trans (show a.id = a.id from rfl) (Eq.symm (show (setId b a.id).id = a.id from rfl))), Bool.true_and, jnAll_same (show a.id = (setId b a.id).id from Eq.trans (show a.id = a.id from rfl) (Eq.symm (show (setId b a.id).id = a.id from rfl)))]
                                refine g_step rfl (s_val (v_not rfl) rfl rfl ?_)
                                refine g_step rfl (s_val (v_move rfl) rfl rfl ?_)
                                refine g_split 136 rfl (fun hg136 => ?_) (fun hg136 => ?_)
                                · try simp only [decide_eq_true_eq, decide_eq_false_iff_not, Bool.not_eq_true', Bool.not_eq_false', Bool.not_eq_eq_eq_not, Bool.not_true, Bool.not_false, Bool.and_eq_true, Bool.or_eq_true, Bool.or_eq_false_iff, beq_iff_eq, beq_eq_false_iff_ne, ne_eq, Int.not_lt, Int.not_le, Decidable.not_not] at hg136
                                  refine g_step_no (j := 4) (t := 136) rfl rfl rfl rfl rfl rfl rfl ?_
                                  refine g_step_no (j := 4) (t := 136) rfl rfl rfl rfl rfl rfl rfl ?_
                                  refine g_step_no (j := 4) (t := 136) rfl rfl rfl rfl rfl rfl rfl ?_
                                  refine g_step_no (j := 4) (t := 136) rfl rfl rfl rfl rfl rfl rfl ?_
                                  refine g_step rfl (s_val (v_pick_t rfl rfl) rfl rfl ?_)
                                  refine g_step rfl (s_val (v_move rfl) rfl rfl ?_)
                                  refine g_step_no (j := 10) (t := 142) rfl rfl rfl rfl rfl rfl rfl ?_
                                  refine g_step_no (j := 10) (t := 142) rfl rfl rfl rfl rfl rfl rfl ?_
                                  refine g_step_no (j := 10) (t := 142) rfl rfl rfl rfl rfl rfl rfl ?_
                                  refine g_step rfl (s_val (v_pick_t rfl rfl) rfl rfl ?_)
                                  refine g_step rfl (s_val (v_move rfl) rfl rfl ?_)
                                  refine g_step_yes (j := 15) (t := 147) rfl rfl rfl rfl (s_callp rfl rfl rfl (awake09_ok _) ?_)
                                  rintro _ rfl
                                  refine g_step rfl (s_val (v_pick_t rfl rfl) rfl rfl ?_)
                                  refine g_step rfl (s_val (v_assign rfl) rfl rfl ?_)
                                  refine g_nil ?_
                                  refine g_next hK18 ?_
                                  refine g_ret ?_
                                  refine g_end1 (.inl rfl) Try.results4 (.tmp rfl) [] (ASub.refl _) (AHeap.sub_refl _) (fun p hp => by cases hp) ⟨rfl, ?_⟩
                                  rfl
                                · try simp only [decide_eq_true_eq, decide_eq_false_iff_not, Bool.not_eq_true', Bool.not_eq_false', Bool.not_eq_eq_eq_not, Bool.not_true, Bool.not_false, Bool.and_eq_true, Bool.or_eq_true, Bool.or_eq_false_iff, beq_iff_eq, beq_eq_false_iff_ne, ne_eq, Int.not_lt, Int.not_le, Decidable.not_not] at hg136
                                  refine g_step_yes (j := 4) (t := 136) rfl rfl rfl rfl (s_val (by first | exact v_loadl_all ty32 rfl rfl rfl rfl rfl | exact v_loadl_part (cs := [_, _, _, _, _, _, _]) ty32 rfl rfl rfl rfl rfl rfl) rfl rfl ?_)
                                  refine g_step_yes (j := 4) (t := 136) rfl rfl rfl rfl (s_val (by first | exact v_loadl_all ty32 rfl rfl rfl rfl rfl | exact v_loadl_part (cs := [_, _, _, _, _, _, _]) ty32 rfl rfl rfl rfl rfl rfl) rfl rfl ?_)
                                  refine g_step_yes (j := 4) (t := 136) rfl rfl rfl rfl (s_callp rfl rfl rfl (below_ok (setId b a.id) a _ hsb hsa (by rw [jnAll_same (show (setId b a.id).id = a.id from Eq.trans (show (setId b a.id).id = a.id from rfl) (Eq.symm (show a.id = a.id from rfl)))]; exact jn_small hsb hsa)) ?_)
                                  rintro _ rfl
                                  rw [decide_eq_true (show (setId b a.id).id = a.id from Eq.trans (show (setId b a.id).id = a.id from rfl) (Eq.symm (show a.id = a.id from rfl))), Bool.true_and, jnAll_same (show (setId b a.id).id = a.id from Eq.trans (show (setId b a.id).id = a.id from rfl) (Eq.symm (show a.id = a.id from rfl)))]
                                  refine g_step_yes (j := 4) (t := 136) rfl rfl rfl rfl (s_val (v_not rfl) rfl rfl ?_)
                                  refine g_step rfl (s_val (v_pick_f rfl rfl) rfl rfl ?_)
                                  refine g_step rfl (s_val (v_move rfl) rfl rfl ?_)
                                  refine g_split 142 rfl (fun hg142 => ?_) (fun hg142 => ?_)
                                  · try simp only [decide_eq_true_eq, decide_eq_false_iff_not, Bool.not_eq_true', Bool.not_eq_false', Bool.not_eq_eq_eq_not, Bool.not_true, Bool.not_false, Bool.and_eq_true, Bool.or_eq_true, Bool.or_eq_false_iff, beq_iff_eq, beq_eq_false_iff_ne, ne_eq, Int.not_lt, Int.not_le, Decidable.not_not] at hg142
                                    refine g_step_no (j := 10) (t := 142) rfl rfl rfl rfl rfl rfl rfl ?_
                                    refine g_step_no (j := 10) (t := 142) rfl rfl rfl rfl rfl rfl rfl ?_
                                    refine g_step_no (j := 10) (t := 142) rfl rfl rfl rfl rfl rfl rfl ?_
                                    refine g_step rfl (s_val (v_pick_t rfl rfl) rfl rfl ?_)
                                    refine g_step rfl (s_val (v_move rfl) rfl rfl ?_)
                                    refine g_step_yes (j := 15) (t := 147) rfl rfl rfl rfl (s_callp rfl rfl rfl (awake09_ok _) ?_)
                                    rintro _ rfl
                                    refine g_step rfl (s_val (v_pick_t rfl rfl) rfl rfl ?_)
                                    refine g_step rfl (s_val (v_assign rfl) rfl rfl ?_)
                                    refine g_nil ?_
                                    refine g_next hK18 ?_
                                    refine g_ret ?_
                                    refine g_end1 (.inl rfl) Try.results4 (.tmp rfl) [] (ASub.refl _) (AHeap.sub_refl _) (fun p hp => by cases hp) ⟨rfl, ?_⟩
                                    rfl
                                  · try simp only [decide_eq_true_eq, decide_eq_false_iff_not, Bool.not_eq_true', Bool.not_eq_false', Bool.not_eq_eq_eq_not, Bool.not_true, Bool.not_false, Bool.and_eq_true, Bool.or_eq_true, Bool.or_eq_false_iff, beq_iff_eq, beq_eq_false_iff_ne, ne_eq, Int.not_lt, Int.not_le, Decidable.not_not] at hg142
                                    refine g_step_yes (j := 10) (t := 142) rfl rfl rfl rfl (s_val (by first | exact v_loadl_all ty32 rfl rfl rfl rfl rfl | exact v_loadl_part (cs := [_, _, _, _, _, _, _]) ty32 rfl rfl rfl rfl rfl rfl) rfl rfl ?_)
                                    refine g_step_yes (j := 10) (t := 142) rfl rfl rfl rfl (s_val (by first | exact v_loadl_all ty32 rfl rfl rfl rfl rfl | exact v_loadl_part (cs := [_, _, _, _, _, _, _]) ty32 rfl rfl rfl rfl rfl rfl) rfl rfl ?_)
                                    refine g_step_yes (j := 10) (t := 142) rfl rfl rfl rfl (s_callp rfl rfl rfl (alike_ok a (setId b a.id) _ hsa) ?_)
                                    rintro _ rfl
                                    refine g_step rfl (s_val (v_pick_f rfl rfl) rfl rfl ?_)
                                    refine g_step rfl (s_val (v_move rfl) rfl rfl ?_)
                                    refine g_split 147 rfl (fun hg147 => ?_) (fun hg147 => ?_)
                                    · try simp only [decide_eq_true_eq, decide_eq_false_iff_not, Bool.not_eq_true', Bool.not_eq_false', Bool.not_eq_eq_eq_not, Bool.not_true, Bool.not_false, Bool.and_eq_true, Bool.or_eq_true, Bool.or_eq_false_iff, beq_iff_eq, beq_eq_false_iff_ne, ne_eq, Int.not_lt, Int.not_le, Decidable.not_not] at hg147
                                      refine g_step_yes (j := 15) (t := 147) rfl rfl rfl rfl (s_callp rfl rfl rfl (awake09_ok _) ?_)
                                      rintro _ rfl
                                      refine g_step rfl (s_val (v_pick_t rfl rfl) rfl rfl ?_)
                                      refine g_step rfl (s_val (v_assign rfl) rfl rfl ?_)
                                      refine g_nil ?_
                                      refine g_next hK18 ?_
                                      refine g_ret ?_
                                      refine g_end1 (.inl rfl) Try.results4 (.tmp rfl) [] (ASub.refl _) (AHeap.sub_refl _) (fun p hp => by cases hp) ⟨rfl, ?_⟩
                                      rfl
                                    · exfalso; (try simp only [decide_eq_true_eq, decide_eq_false_iff_not, Bool.not_eq_true', Bool.not_eq_false', Bool.not_eq_eq_eq_not, Bool.not_true, Bool.not_false, Bool.and_eq_true, Bool.or_eq_true, Bool.or_eq_false_iff, beq_iff_eq, beq_eq_false_iff_ne, ne_eq, Int.not_lt, Int.not_le, Decidable.not_not] at hg147); first | done | (have h1 : a = (setId b a.id) := jn_anti rfl (by assumption) (by assumption); first | exact hg147 h1 | exact absurd h1 hg147) | (simp at hg147; done)
                            · try simp only [decide_eq_true_eq, decide_eq_false_iff_not, Bool.not_eq_true', Bool.not_eq_false', Bool.not_eq_eq_eq_not, Bool.not_true, Bool.not_false, Bool.and_eq_true, Bool.or_eq_true, Bool.or_eq_false_iff, beq_iff_eq, beq_eq_false_iff_ne, ne_eq, Int.not_lt, Int.not_le, Decidable.not_not] at hg125
                              refine g_step_no (j := 19) (t := 125) rfl rfl rfl rfl rfl rfl rfl ?_
                              refine g_step_no (j := 19) (t := 125) rfl rfl rfl rfl rfl rfl rfl ?_
                              refine g_step_no (j := 19) (t := 125) rfl rfl rfl rfl rfl rfl rfl ?_
                              refine g_step_no (j := 19) (t := 125) rfl rfl rfl rfl rfl rfl rfl ?_
                              refine g_step_yes (j := 10) (t := 116) rfl rfl rfl rfl (s_val (v_pick_f rfl rfl) rfl rfl ?_)
                              refine g_step rfl (s_val (v_pick_f rfl rfl) rfl rfl ?_)
                              refine g_nil ?_
                              refine g_next hK17 ?_
                              refine g_cond rfl (fun h => by cases h) (fun _ => ?_)
                              refine g_skip ?_
                              refine g_next hK16 ?_
                              refine g_seq (fun K19 hK19 => ?_)
                              refine g_region ?_
                              refine g_step rfl (s_val (by first | exact v_loadl_all ty32 rfl rfl rfl rfl rfl | exact v_loadl_part (cs := [_, _, _, _, _, _, _]) ty32 rfl rfl rfl rfl rfl rfl) rfl rfl ?_)
                              refine g_step rfl (s_val (by first | exact v_loadl_all ty32 rfl rfl rfl rfl rfl | exact v_loadl_part (cs := [_, _, _, _, _, _, _]) ty32 rfl rfl rfl rfl rfl rfl) rfl rfl ?_)
                              refine g_step rfl (s_callp rfl rfl rfl (below_ok a (setId b a.id) _ hsa hsb (by rw [jnAll_same (show a.id = (setId b a.id).id from Eq.trans (show a.id = a.id from rfl) (Eq.symm (show (setId b a.id).id = a.id from rfl)))]; exact jn_small hsa hsb)) ?_)
                              rintro _ rfl
                              rw [decide_eq_true (show a.id = (setId b a.id).id from Eq.trans (show a.id = a.id from rfl) (Eq.symm (show (setId b a.id).id = a.id from rfl))), Bool.true_and, jnAll_same (show a.id = (setId b a.id).id from Eq.trans (show a.id = a.id from rfl) (Eq.symm (show (setId b a.id).id = a.id from rfl)))]
                              refine g_step rfl (s_val (v_not rfl) rfl rfl ?_)
                              refine g_step rfl (s_val (v_move rfl) rfl rfl ?_)
                              refine g_split 136 rfl (fun hg136 => ?_) (fun hg136 => ?_)
                              · try simp only [decide_eq_true_eq, decide_eq_false_iff_not, Bool.not_eq_true', Bool.not_eq_false', Bool.not_eq_eq_eq_not, Bool.not_true, Bool.not_false, Bool.and_eq_true, Bool.or_eq_true, Bool.or_eq_false_iff, beq_iff_eq, beq_eq_false_iff_ne, ne_eq, Int.not_lt, Int.not_le, Decidable.not_not] at hg136
                                refine g_step_no (j := 4) (t := 136) rfl rfl rfl rfl rfl rfl rfl ?_
                                refine g_step_no (j := 4) (t := 136) rfl rfl rfl rfl rfl rfl rfl ?_
                                refine g_step_no (j := 4) (t := 136) rfl rfl rfl rfl rfl rfl rfl ?_
                                refine g_step_no (j := 4) (t := 136) rfl rfl rfl rfl rfl rfl rfl ?_
                                refine g_step rfl (s_val (v_pick_t rfl rfl) rfl rfl ?_)
                                refine g_step rfl (s_val (v_move rfl) rfl rfl ?_)
                                refine g_step_no (j := 10) (t := 142) rfl rfl rfl rfl rfl rfl rfl ?_
                                refine g_step_no (j := 10) (t := 142) rfl rfl rfl rfl rfl rfl rfl ?_
                                refine g_step_no (j := 10) (t := 142) rfl rfl rfl rfl rfl rfl rfl ?_
                                refine g_step rfl (s_val (v_pick_t rfl rfl) rfl rfl ?_)
                                refine g_step rfl (s_val (v_move rfl) rfl rfl ?_)
                                refine g_step_yes (j := 15) (t := 147) rfl rfl rfl rfl (s_callp rfl rfl rfl (awake09_ok _) ?_)
                                rintro _ rfl
                                refine g_step rfl (s_val (v_pick_t rfl rfl) rfl rfl ?_)
                                refine g_step rfl (s_val (v_assign rfl) rfl rfl ?_)
                                refine g_nil ?_
                                refine g_next hK19 ?_
                                refine g_ret ?_
                                refine g_end1 (.inl rfl) Try.results4 (.tmp rfl) [] (ASub.refl _) (AHeap.sub_refl _) (fun p hp => by cases hp) ⟨rfl, ?_⟩
                                rfl
                              · try simp only [decide_eq_true_eq, decide_eq_false_iff_not, Bool.not_eq_true', Bool.not_eq_false', Bool.not_eq_eq_eq_not, Bool.not_true, Bool.not_false, Bool.and_eq_true, Bool.or_eq_true, Bool.or_eq_false_iff, beq_iff_eq, beq_eq_false_iff_ne, ne_eq, Int.not_lt, Int.not_le, Decidable.not_not] at hg136
                                refine g_step_yes (j := 4) (t := 136) rfl rfl rfl rfl (s_val (by first | exact v_loadl_all ty32 rfl rfl rfl rfl rfl | exact v_loadl_part (cs := [_, _, _, _, _, _, _]) ty32 rfl rfl rfl rfl rfl rfl) rfl rfl ?_)
                                refine g_step_yes (j := 4) (t := 136) rfl rfl rfl rfl (s_val (by first | exact v_loadl_all ty32 rfl rfl rfl rfl rfl | exact v_loadl_part (cs := [_, _, _, _, _, _, _]) ty32 rfl rfl rfl rfl rfl rfl) rfl rfl ?_)
                                refine g_step_yes (j := 4) (t := 136) rfl rfl rfl rfl (s_callp rfl rfl rfl (below_ok (setId b a.id) a _ hsb hsa (by rw [jnAll_same (show (setId b a.id).id = a.id from Eq.trans (show (setId b a.id).id = a.id from rfl) (Eq.symm (show a.id = a.id from rfl)))]; exact jn_small hsb hsa)) ?_)
                                rintro _ rfl
                                rw [decide_eq_true (show (setId b a.id).id = a.id from Eq.trans (show (setId b a.id).id = a.id from rfl) (Eq.symm (show a.id = a.id from rfl))), Bool.true_and, jnAll_same (show (setId b a.id).id = a.id from Eq.trans (show (setId b a.id).id = a.id from rfl) (Eq.symm (show a.id = a.id from rfl)))]
                                refine g_step_yes (j := 4) (t := 136) rfl rfl rfl rfl (s_val (v_not rfl) rfl rfl ?_)
                                refine g_step rfl (s_val (v_pick_f rfl rfl) rfl rfl ?_)
                                refine g_step rfl (s_val (v_move rfl) rfl rfl ?_)
                                refine g_split 142 rfl (fun hg142 => ?_) (fun hg142 => ?_)
                                · try simp only [decide_eq_true_eq, decide_eq_false_iff_not, Bool.not_eq_true', Bool.not_eq_false', Bool.not_eq_eq_eq_not, Bool.not_true, Bool.not_false, Bool.and_eq_true, Bool.or_eq_true, Bool.or_eq_false_iff, beq_iff_eq, beq_eq_false_iff_ne, ne_eq, Int.not_lt, Int.not_le, Decidable.not_not] at hg142
                                  refine g_step_no (j := 10) (t := 142) rfl rfl rfl rfl rfl rfl rfl ?_
                                  refine g_step_no (j := 10) (t := 142) rfl rfl rfl rfl rfl rfl rfl ?_
                                  refine g_step_no (j := 10) (t := 142) rfl rfl rfl rfl rfl rfl rfl ?_
                                  refine g_step rfl (s_val (v_pick_t rfl rfl) rfl rfl ?_)
                                  refine g_step rfl (s_val (v_move rfl) rfl rfl ?_)
                                  refine g_step_yes (j := 15) (t := 147) rfl rfl rfl rfl (s_callp rfl rfl rfl (awake09_ok _) ?_)
                                  rintro _ rfl
                                  refine g_step rfl (s_val (v_pick_t rfl rfl) rfl rfl ?_)
                                  refine g_step rfl (s_val (v_assign rfl) rfl rfl ?_)
                                  refine g_nil ?_
                                  refine g_next hK19 ?_
                                  refine g_ret ?_
                                  refine g_end1 (.inl rfl) Try.results4 (.tmp rfl) [] (ASub.refl _) (AHeap.sub_refl _) (fun p hp => by cases hp) ⟨rfl, ?_⟩
                                  rfl
                                · try simp only [decide_eq_true_eq, decide_eq_false_iff_not, Bool.not_eq_true', Bool.not_eq_false', Bool.not_eq_eq_eq_not, Bool.not_true, Bool.not_false, Bool.and_eq_true, Bool.or_eq_true, Bool.or_eq_false_iff, beq_iff_eq, beq_eq_false_iff_ne, ne_eq, Int.not_lt, Int.not_le, Decidable.not_not] at hg142
                                  refine g_step_yes (j := 10) (t := 142) rfl rfl rfl rfl (s_val (by first | exact v_loadl_all ty32 rfl rfl rfl rfl rfl | exact v_loadl_part (cs := [_, _, _, _, _, _, _]) ty32 rfl rfl rfl rfl rfl rfl) rfl rfl ?_)
                                  refine g_step_yes (j := 10) (t := 142) rfl rfl rfl rfl (s_val (by first | exact v_loadl_all ty32 rfl rfl rfl rfl rfl | exact v_loadl_part (cs := [_, _, _, _, _, _, _]) ty32 rfl rfl rfl rfl rfl rfl) rfl rfl ?_)
                                  refine g_step_yes (j := 10) (t := 142) rfl rfl rfl rfl (s_callp rfl rfl rfl (alike_ok a (setId b a.id) _ hsa) ?_)
                                  rintro _ rfl
                                  refine g_step rfl (s_val (v_pick_f rfl rfl) rfl rfl ?_)
                                  refine g_step rfl (s_val (v_move rfl) rfl rfl ?_)
                                  refine g_split 147 rfl (fun hg147 => ?_) (fun hg147 => ?_)
                                  · try simp only [decide_eq_true_eq, decide_eq_false_iff_not, Bool.not_eq_true', Bool.not_eq_false', Bool.not_eq_eq_eq_not, Bool.not_true, Bool.not_false, Bool.and_eq_true, Bool.or_eq_true, Bool.or_eq_false_iff, beq_iff_eq, beq_eq_false_iff_ne, ne_eq, Int.not_lt, Int.not_le, Decidable.not_not] at hg147
                                    refine g_step_yes (j := 15) (t := 147) rfl rfl rfl rfl (s_callp rfl rfl rfl (awake09_ok _) ?_)
                                    rintro _ rfl
                                    refine g_step rfl (s_val (v_pick_t rfl rfl) rfl rfl ?_)
                                    refine g_step rfl (s_val (v_assign rfl) rfl rfl ?_)
                                    refine g_nil ?_
                                    refine g_next hK19 ?_
                                    refine g_ret ?_
                                    refine g_end1 (.inl rfl) Try.results4 (.tmp rfl) [] (ASub.refl _) (AHeap.sub_refl _) (fun p hp => by cases hp) ⟨rfl, ?_⟩
                                    rfl
                                  · exfalso; (try simp only [decide_eq_true_eq, decide_eq_false_iff_not, Bool.not_eq_true', Bool.not_eq_false', Bool.not_eq_eq_eq_not, Bool.not_true, Bool.not_false, Bool.and_eq_true, Bool.or_eq_true, Bool.or_eq_false_iff, beq_iff_eq, beq_eq_false_iff_ne, ne_eq, Int.not_lt, Int.not_le, Decidable.not_not] at hg147); first | done | (have h1 : a = (setId b a.id) := jn_anti rfl (by assumption) (by assumption); first | exact hg147 h1 | exact absurd h1 hg147) | (simp at hg147; done)
                          · try simp only [decide_eq_true_eq, decide_eq_false_iff_not, Bool.not_eq_true', Bool.not_eq_false', Bool.not_eq_eq_eq_not, Bool.not_true, Bool.not_false, Bool.and_eq_true, Bool.or_eq_true, Bool.or_eq_false_iff, beq_iff_eq, beq_eq_false_iff_ne, ne_eq, Int.not_lt, Int.not_le, Decidable.not_not] at hg120
                            refine g_step_no (j := 14) (t := 120) rfl rfl rfl rfl rfl rfl rfl ?_
                            refine g_step_no (j := 14) (t := 120) rfl rfl rfl rfl rfl rfl rfl ?_
                            refine g_step_no (j := 14) (t := 120) rfl rfl rfl rfl rfl rfl rfl ?_
                            refine g_step_yes (j := 10) (t := 116) rfl rfl rfl rfl (s_val (v_pick_f rfl rfl) rfl rfl ?_)
                            refine g_step_yes (j := 10) (t := 116) rfl rfl rfl rfl (s_val (v_move rfl) rfl rfl ?_)
                            refine g_step_no (j := 19) (t := 125) rfl rfl rfl rfl rfl rfl rfl ?_
                            refine g_step_no (j := 19) (t := 125) rfl rfl rfl rfl rfl rfl rfl ?_
                            refine g_step_no (j := 19) (t := 125) rfl rfl rfl rfl rfl rfl rfl ?_
                            refine g_step_no (j := 19) (t := 125) rfl rfl rfl rfl rfl rfl rfl ?_
                            refine g_step_yes (j := 10) (t := 116) rfl rfl rfl rfl (s_val (v_pick_f rfl rfl) rfl rfl ?_)
                            refine g_step rfl (s_val (v_pick_f rfl rfl) rfl rfl ?_)
                            refine g_nil ?_
                            refine g_next hK17 ?_
                            refine g_cond rfl (fun h => by cases h) (fun _ => ?_)
                            refine g_skip ?_
                            refine g_next hK16 ?_
                            refine g_seq (fun K20 hK20 => ?_)
                            refine g_region ?_
                            refine g_step rfl (s_val (by first | exact v_loadl_all ty32 rfl rfl rfl rfl rfl | exact v_loadl_part (cs := [_, _, _, _, _, _, _]) ty32 rfl rfl rfl rfl rfl rfl) rfl rfl ?_)
                            refine g_step rfl (s_val (by first | exact v_loadl_all ty32 rfl rfl rfl rfl rfl | exact v_loadl_part (cs := [_, _, _, _, _, _, _]) ty32 rfl rfl rfl rfl rfl rfl) rfl rfl ?_)
                            refine g_step rfl (s_callp rfl rfl rfl (below_ok a (setId b a.id) _ hsa hsb (by rw [jnAll_same (show a.id = (setId b a.id).id from Eq.trans (show a.id = a.id from rfl) (Eq.symm (show (setId b a.id).id = a.id from rfl)))]; exact jn_small hsa hsb)) ?_)
                            rintro _ rfl
                            rw [decide_eq_true (show a.id = (setId b a.id).id from Eq.trans (show a.id = a.id from rfl) (Eq.symm (show (setId b a.id).id = a.id from rfl))), Bool.true_and, jnAll_same (show a.id = (setId b a.id).id from Eq.trans (show a.id = a.id from rfl) (Eq.symm (show (setId b a.id).id = a.id from rfl)))]
                            refine g_step rfl (s_val (v_not rfl) rfl rfl ?_)
                            refine g_step rfl (s_val (v_move rfl) rfl rfl ?_)
                            refine g_split 136 rfl (fun hg136 => ?_) (fun hg136 => ?_)
                            · try simp only [decide_eq_true_eq, decide_eq_false_iff_not, Bool.not_eq_true', Bool.not_eq_false', Bool.not_eq_eq_eq_not, Bool.not_true, Bool.not_false, Bool.and_eq_true, Bool.or_eq_true, Bool.or_eq_false_iff, beq_iff_eq, beq_eq_false_iff_ne, ne_eq, Int.not_lt, Int.not_le, Decidable.not_not] at hg136
                              refine g_step_no (j := 4) (t := 136) rfl rfl rfl rfl rfl rfl rfl ?_
                              refine g_step_no (j := 4) (t := 136) rfl rfl rfl rfl rfl rfl rfl ?_
                              refine g_step_no (j := 4) (t := 136) rfl rfl rfl rfl rfl rfl rfl ?_
                              refine g_step_no (j := 4) (t := 136) rfl rfl rfl rfl rfl rfl rfl ?_
                              refine g_step rfl (s_val (v_pick_t rfl rfl) rfl rfl ?_)
                              refine g_step rfl (s_val (v_move rfl) rfl rfl ?_)
                              refine g_step_no (j := 10) (t := 142) rfl rfl rfl rfl rfl rfl rfl ?_
                              refine g_step_no (j := 10) (t := 142) rfl rfl rfl rfl rfl rfl rfl ?_
                              refine g_step_no (j := 10) (t := 142) rfl rfl rfl rfl rfl rfl rfl ?_
                              refine g_step rfl (s_val (v_pick_t rfl rfl) rfl rfl ?_)
                              refine g_step rfl (s_val (v_move rfl) rfl rfl ?_)
                              refine g_step_yes (j := 15) (t := 147) rfl rfl rfl rfl (s_callp rfl rfl rfl (awake09_ok _) ?_)
                              rintro _ rfl
                              refine g_step rfl (s_val (v_pick_t rfl rfl) rfl rfl ?_)
                              refine g_step rfl (s_val (v_assign rfl) rfl rfl ?_)
                              refine g_nil ?_
                              refine g_next hK20 ?_
                              refine g_ret ?_
                              refine g_end1 (.inl rfl) Try.results4 (.tmp rfl) [] (ASub.refl _) (AHeap.sub_refl _) (fun p hp => by cases hp) ⟨rfl, ?_⟩
                              rfl
                            · try simp only [decide_eq_true_eq, decide_eq_false_iff_not, Bool.not_eq_true', Bool.not_eq_false', Bool.not_eq_eq_eq_not, Bool.not_true, Bool.not_false, Bool.and_eq_true, Bool.or_eq_true, Bool.or_eq_false_iff, beq_iff_eq, beq_eq_false_iff_ne, ne_eq, Int.not_lt, Int.not_le, Decidable.not_not] at hg136
                              refine g_step_yes (j := 4) (t := 136) rfl rfl rfl rfl (s_val (by first | exact v_loadl_all ty32 rfl rfl rfl rfl rfl | exact v_loadl_part (cs := [_, _, _, _, _, _, _]) ty32 rfl rfl rfl rfl rfl rfl) rfl rfl ?_)
                              refine g_step_yes (j := 4) (t := 136) rfl rfl rfl rfl (s_val (by first | exact v_loadl_all ty32 rfl rfl rfl rfl rfl | exact v_loadl_part (cs := [_, _, _, _, _, _, _]) ty32 rfl rfl rfl rfl rfl rfl) rfl rfl ?_)
                              refine g_step_yes (j := 4) (t := 136) rfl rfl rfl rfl (s_callp rfl rfl rfl (below_ok (setId b a.id) a _ hsb hsa (by rw [jnAll_same (show (setId b a.id).id = a.id from Eq.trans (show (setId b a.id).id = a.id from rfl) (Eq.symm (show a.id = a.id from rfl)))]; exact jn_small hsb hsa)) ?_)
                              rintro _ rfl
                              rw [decide_eq_true (show (setId b a.id).id = a.id from Eq.trans (show (setId b a.id).id = a.id from rfl) (Eq.symm (show a.id = a.id from rfl))), Bool.true_and, jnAll_same (show (setId b a.id).id = a.id from Eq.trans (show (setId b a.id).id = a.id from rfl) (Eq.symm (show a.id = a.id from rfl)))]
                              refine g_step_yes (j := 4) (t := 136) rfl rfl rfl rfl (s_val (v_not rfl) rfl rfl ?_)
                              refine g_step rfl (s_val (v_pick_f rfl rfl) rfl rfl ?_)
                              refine g_step rfl (s_val (v_move rfl) rfl rfl ?_)
                              refine g_split 142 rfl (fun hg142 => ?_) (fun hg142 => ?_)
                              · try simp only [decide_eq_true_eq, decide_eq_false_iff_not, Bool.not_eq_true', Bool.not_eq_false', Bool.not_eq_eq_eq_not, Bool.not_true, Bool.not_false, Bool.and_eq_true, Bool.or_eq_true, Bool.or_eq_false_iff, beq_iff_eq, beq_eq_false_iff_ne, ne_eq, Int.not_lt, Int.not_le, Decidable.not_not] at hg142
                                refine g_step_no (j := 10) (t := 142) rfl rfl rfl rfl rfl rfl rfl ?_
                                refine g_step_no (j := 10) (t := 142) rfl rfl rfl rfl rfl rfl rfl ?_
                                refine g_step_no (j := 10) (t := 142) rfl rfl rfl rfl rfl rfl rfl ?_
                                refine g_step rfl (s_val (v_pick_t rfl rfl) rfl rfl ?_)
                                refine g_step rfl (s_val (v_move rfl) rfl rfl ?_)
                                refine g_step_yes (j := 15) (t := 147) rfl rfl rfl rfl (s_callp rfl rfl rfl (awake09_ok _) ?_)
                                rintro _ rfl
                                refine g_step rfl (s_val (v_pick_t rfl rfl) rfl rfl ?_)
                                refine g_step rfl (s_val (v_assign rfl) rfl rfl ?_)
                                refine g_nil ?_
                                refine g_next hK20 ?_
                                refine g_ret ?_
                                refine g_end1 (.inl rfl) Try.results4 (.tmp rfl) [] (ASub.refl _) (AHeap.sub_refl _) (fun p hp => by cases hp) ⟨rfl, ?_⟩
                                rfl
                              · try simp only [decide_eq_true_eq, decide_eq_false_iff_not, Bool.not_eq_true', Bool.not_eq_false', Bool.not_eq_eq_eq_not, Bool.not_true, Bool.not_false, Bool.and_eq_true, Bool.or_eq_true, Bool.or_eq_false_iff, beq_iff_eq, beq_eq_false_iff_ne, ne_eq, Int.not_lt, Int.not_le, Decidable.not_not] at hg142
                                refine g_step_yes (j := 10) (t := 142) rfl rfl rfl rfl (s_val (by first | exact v_loadl_all ty32 rfl rfl rfl rfl rfl | exact v_loadl_part (cs := [_, _, _, _, _, _, _]) ty32 rfl rfl rfl rfl rfl rfl) rfl rfl ?_)
                                refine g_step_yes (j := 10) (t := 142) rfl rfl rfl rfl (s_val (by first | exact v_loadl_all ty32 rfl rfl rfl rfl rfl | exact v_loadl_part (cs := [_, _, _, _, _, _, _]) ty32 rfl rfl rfl rfl rfl rfl) rfl rfl ?_)
                                refine g_step_yes (j := 10) (t := 142) rfl rfl rfl rfl (s_callp rfl rfl rfl (alike_ok a (setId b a.id) _ hsa) ?_)
                                rintro _ rfl
                                refine g_step rfl (s_val (v_pick_f rfl rfl) rfl rfl ?_)
                                refine g_step rfl (s_val (v_move rfl) rfl rfl ?_)
                                refine g_split 147 rfl (fun hg147 => ?_) (fun hg147 => ?_)
                                · try simp only [decide_eq_true_eq, decide_eq_false_iff_not, Bool.not_eq_true', Bool.not_eq_false', Bool.not_eq_eq_eq_not, Bool.not_true, Bool.not_false, Bool.and_eq_true, Bool.or_eq_true, Bool.or_eq_false_iff, beq_iff_eq, beq_eq_false_iff_ne, ne_eq, Int.not_lt, Int.not_le, Decidable.not_not] at hg147
                                  refine g_step_yes (j := 15) (t := 147) rfl rfl rfl rfl (s_callp rfl rfl rfl (awake09_ok _) ?_)
                                  rintro _ rfl
                                  refine g_step rfl (s_val (v_pick_t rfl rfl) rfl rfl ?_)
                                  refine g_step rfl (s_val (v_assign rfl) rfl rfl ?_)
                                  refine g_nil ?_
                                  refine g_next hK20 ?_
                                  refine g_ret ?_
                                  refine g_end1 (.inl rfl) Try.results4 (.tmp rfl) [] (ASub.refl _) (AHeap.sub_refl _) (fun p hp => by cases hp) ⟨rfl, ?_⟩
                                  rfl
                                · exfalso; (try simp only [decide_eq_true_eq, decide_eq_false_iff_not, Bool.not_eq_true', Bool.not_eq_false', Bool.not_eq_eq_eq_not, Bool.not_true, Bool.not_false, Bool.and_eq_true, Bool.or_eq_true, Bool.or_eq_false_iff, beq_iff_eq, beq_eq_false_iff_ne, ne_eq, Int.not_lt, Int.not_le, Decidable.not_not] at hg147); first | done | (have h1 : a = (setId b a.id) := jn_anti rfl (by assumption) (by assumption); first | exact hg147 h1 | exact absurd h1 hg147) | (simp at hg147; done)

end Go.Proofs.Ytngffembdhcijaa

import Derived.Test.YtobigfbgaiglkaaSpan
import Derived.Test.YtobigfbgaiglkaaPPeers
set_option maxHeartbeats 8000000
set_option linter.unusedSimpArgs false
set_option linter.unusedVariables false
set_option maxRecDepth 100000
namespace Go.Proofs.Ytobigfbgaiglkaa
open Go Go.Proofs.Ytobigfbgaiglkaa.AM
theorem peersNew_ok (G : AHeap) : LCalls Try.prog 52 [] G noD (fun n v effs => ∃ p r, n ≤ p ∧ n ≤ r ∧ p ≠ r ∧ v = .box p 0 ∧ effs = [(p, .box (.agg [.map r])), (r, bookRow [])]) := by
  refine LCalls.intro 4 fi52 rfl Try.ntmps52 rfl (fun _ h => h.elim) (fun H hH w0 hw0 => ?_)
  refine g_seq (fun K0 hK0 => ?_)
  refine g_region ?_
  refine g_step rfl (s_val (v_assign rfl) rfl rfl ?_)
  refine g_nil ?_
  refine g_next hK0 ?_
  refine g_seq (fun K1 hK1 => ?_)
  refine g_region ?_
  refine g_step rfl (s_makeMap .i64 rfl (fun r1 hr1 hw1 => ?_))
  refine g_step rfl (s_val (v_build (vs := [(0, _)]) (zs := [.nilm]) (cells := [_]) ty177 pl177 rfl rfl rfl) rfl rfl ?_)
  refine g_step rfl (s_box rfl rfl rfl rfl ?_)
  refine g_expose 3 rfl rfl (fun r3 hr3 hw3 => ?_)
  refine g_step rfl (s_val (v_assign rfl) rfl rfl ?_)
  refine g_nil ?_
  refine g_next hK1 ?_
  refine g_ret ?_
  refine g_end1 (.inl rfl) Try.results52 (.tmp rfl) [(r3, .box (.agg [.map r1])), (r1, bookRow [])] (ASub.refl _) (AHeap.sub_refl _) (fun q hq => .inr (by simp at hq; rcases hq with rfl | rfl; exact hw3; exact hw1)) ⟨r3, r1, hw3, hw1, (fun e => by subst e; rw [AHeap.get_set] at hr3; cases hr3), rfl, rfl⟩

theorem peersGet_ok (p r : Nat) (m : Book) (G : AHeap) (hG : G p = some (.box (.agg [.map r]))) (hR : G r = some (bookRow m)) (id : Int) : PCalls Try.prog 53 [.box p 0, .int .i64 id] G (fun v => v = .tup [encPe (lookPe m id), .bool (pget m id).isSome]) := by
  refine LCalls.intro 22 fi53 rfl Try.ntmps53 rfl (fun _ h => h.elim) (fun H hH w0 hw0 => ?_)
  have hG := hH _ _ hG
  have hR := hH _ _ hR
  refine g_seq (fun K0 hK0 => ?_)
  refine g_region ?_
  refine g_step rfl (s_alloc (av := (.agg [(.int .i64 0), (.int .i64 0), (.int .i64 0)])) ty109 rfl rfl rfl rfl ?_)
  refine g_step rfl (s_val (v_assign rfl) rfl rfl ?_)
  refine g_nil ?_
  refine g_next hK0 ?_
  refine g_seq (fun K1 hK1 => ?_)
  refine g_seq (fun K2 hK2 => ?_)
  refine g_region ?_
  refine g_step rfl (s_val (v_move rfl) rfl rfl ?_)
  refine g_step rfl (s_val (by first | exact v_ptr_eql_nil ty104 rfl rfl rfl | exact v_nil_eql_nil ty104 rfl rfl | exact v_ptrO_eql ty104 rfl rfl) rfl rfl ?_)
  refine g_nil ?_
  refine g_next hK2 ?_
  refine g_cond rfl (fun hc9 => ?_) (fun hc9 => ?_)
  · exfalso; (try simp only [decide_eq_true_eq, decide_eq_false_iff_not, Bool.not_eq_true', Bool.not_eq_false', Bool.not_eq_eq_eq_not, Bool.not_true, Bool.not_false, Bool.and_eq_true, Bool.or_eq_true, Bool.or_eq_false_iff, beq_iff_eq, beq_eq_false_iff_ne, ne_eq, Int.not_lt, Int.not_le, Decidable.not_not] at hc9); simp at hc9
  · try simp only [decide_eq_true_eq, decide_eq_false_iff_not, Bool.not_eq_true', Bool.not_eq_false', Bool.not_eq_eq_eq_not, Bool.not_true, Bool.not_false, Bool.and_eq_true, Bool.or_eq_true, Bool.or_eq_false_iff, beq_iff_eq, beq_eq_false_iff_ne, ne_eq, Int.not_lt, Int.not_le, Decidable.not_not] at hc9
    refine g_skip ?_
    refine g_next hK1 ?_
    refine g_seq (fun K3 hK3 => ?_)
    refine g_region ?_
    refine g_step rfl (s_val (v_move rfl) rfl rfl ?_)
    refine g_step rfl (s_val (v_nilCheck rfl rfl) rfl rfl ?_)
    refine g_step rfl (s_val (by first | exact v_fieldAddr ty177 fo177_0 ty175 rfl | exact v_fieldAddr_box ty177 fo177_0 ty175 rfl) rfl rfl ?_)
    refine g_step rfl (s_val (by first | exact v_load ty175 rfl rfl (by first | rfl | assumption) (by first | assumption | exact map_get (by assumption) | rfl) rfl | exact v_load_box ty175 rfl rfl (by assumption) rfl) rfl rfl ?_)
    refine g_step rfl (s_val (v_move rfl) rfl rfl ?_)
    refine g_step rfl (s_val (v_lookup (o := (encPe (lookPe m id))) (f := (pget m id).isSome) ty175 ty3 ty109 rfl rfl rfl hR (look_eq m id) (look_is m id)) rfl rfl ?_)
    refine g_step rfl (s_val (v_move rfl) rfl rfl ?_)
    refine g_step rfl (s_val (v_extract rfl rfl) rfl rfl ?_)
    refine g_step rfl (s_val (v_extract rfl rfl) rfl rfl ?_)
    refine g_step rfl (s_alloc (av := (.agg [(.int .i64 0), (.int .i64 0), (.int .i64 0)])) ty109 rfl rfl rfl rfl ?_)
    refine g_step rfl (s_store_all ty109 rfl rfl rfl rfl rfl rfl ?_)
    refine g_step rfl (s_val (v_assign rfl) rfl rfl ?_)
    refine g_nil ?_
    refine g_next hK3 ?_
    refine g_seq (fun K4 hK4 => ?_)
    refine g_region ?_
    refine g_step rfl (s_val (by first | exact v_loadl_all ty109 rfl rfl rfl rfl rfl | exact v_loadl_part (cs := [_, _, _]) ty109 rfl rfl rfl rfl rfl rfl) rfl rfl ?_)
    refine g_step rfl (s_val (v_move rfl) rfl rfl ?_)
    refine g_step rfl (s_store_all ty109 rfl rfl rfl rfl rfl rfl ?_)
    refine g_step rfl (s_val (v_assign rfl) rfl rfl ?_)
    refine g_nil ?_
    refine g_next hK4 ?_
    refine g_ret ?_
    refine g_end2 (.inl rfl) Try.results53 (.agg ty109 rfl rfl rfl rfl rfl) (.tmp rfl) [] (ASub.refl _) (AHeap.sub_refl _) (fun p hp => by cases hp) ⟨rfl, ?_⟩
    rfl

theorem peersChoose_ok (p r : Nat) (m : Book) (G : AHeap) (hG : G p = some (.box (.agg [.map r]))) (hR : G r = some (bookRow m)) (own : Sp) (id : Int) : PCalls Try.prog 89 [.box p 0, encSp own, .int .i64 id] G (fun v => v = .tup [.int .i64 (chooseP m own id).1, .int .i64 (chooseP m own id).2]) := by
  refine LCalls.intro 26 fi89 rfl Try.ntmps89 rfl (fun _ h => h.elim) (fun H hH w0 hw0 => ?_)
  have hG := hH _ _ hG
  have hR := hH _ _ hR
  refine g_seq (fun K0 hK0 => ?_)
  refine g_region ?_
  refine g_step rfl (s_box rfl rfl rfl rfl ?_)
  refine g_step rfl (s_val (v_assign rfl) rfl rfl ?_)
  refine g_step rfl (s_val (v_assign rfl) rfl rfl ?_)
  refine g_nil ?_
  refine g_next hK0 ?_
  refine g_seq (fun K1 hK1 => ?_)
  refine g_region ?_
  refine g_step rfl (s_val (v_move rfl) rfl rfl ?_)
  refine g_step rfl (s_val (v_move rfl) rfl rfl ?_)
  refine g_step rfl (s_callp rfl rfl rfl (peersGet_ok p r m _ hG hR id) ?_)
  rintro _ rfl
  refine g_step rfl (s_val (v_move rfl) rfl rfl ?_)
  refine g_step rfl (s_val (v_extract rfl rfl) rfl rfl ?_)
  refine g_step rfl (s_val (v_extract rfl rfl) rfl rfl ?_)
  refine g_step rfl (s_alloc (av := (.agg [(.int .i64 0), (.int .i64 0), (.int .i64 0)])) ty109 rfl rfl rfl rfl ?_)
  refine g_step rfl (s_store_all ty109 rfl rfl rfl rfl rfl rfl ?_)
  refine g_step rfl (s_val (v_assign rfl) rfl rfl ?_)
  refine g_nil ?_
  refine g_next hK1 ?_
  refine g_seq (fun K2 hK2 => ?_)
  refine g_seq (fun K3 hK3 => ?_)
  refine g_region ?_
  refine g_step rfl (s_val (v_move rfl) rfl rfl ?_)
  refine g_step rfl (s_val (v_not rfl) rfl rfl ?_)
  refine g_nil ?_
  refine g_next hK3 ?_
  refine g_cond rfl (fun hc18 => ?_) (fun hc18 => ?_)
  · try simp only [decide_eq_true_eq, decide_eq_false_iff_not, Bool.not_eq_true', Bool.not_eq_false', Bool.not_eq_eq_eq_not, Bool.not_true, Bool.not_false, Bool.and_eq_true, Bool.or_eq_true, Bool.or_eq_false_iff, beq_iff_eq, beq_eq_false_iff_ne, ne_eq, Int.not_lt, Int.not_le, Decidable.not_not] at hc18
    have hgn : pget m id = none := by cases hx : pget m id <;> simp_all
    refine g_seq (fun K4 hK4 => ?_)
    refine g_region ?_
    refine g_step rfl (s_val (v_assign rfl) rfl rfl ?_)
    refine g_step rfl (s_val (v_assign rfl) rfl rfl ?_)
    refine g_nil ?_
    refine g_next hK4 ?_
    refine g_ret ?_
    refine g_then_ret ?_
    refine g_end2 (.inl rfl) Try.results89 (.tmp rfl) (.tmp rfl) [] (ASub.refl _) (AHeap.sub_refl _) (fun p hp => by cases hp) ⟨rfl, ?_⟩
    first | (simp [chooseP, hgn]; done) | (simp [chooseP, hgn]; rfl)
  · try simp only [decide_eq_true_eq, decide_eq_false_iff_not, Bool.not_eq_true', Bool.not_eq_false', Bool.not_eq_eq_eq_not, Bool.not_true, Bool.not_false, Bool.and_eq_true, Bool.or_eq_true, Bool.or_eq_false_iff, beq_iff_eq, beq_eq_false_iff_ne, ne_eq, Int.not_lt, Int.not_le, Decidable.not_not] at hc18
    obtain ⟨q, hq⟩ : ∃ q, pget m id = some q := by cases hx : pget m id <;> simp_all
    have hlq : lookPe m id = q := by rw [lookPe, hq]; rfl
    rw [hlq]
    refine g_skip ?_
    refine g_next hK2 ?_
    refine g_seq (fun K5 hK5 => ?_)
    refine g_region ?_
    refine g_step rfl (s_val (by first | exact v_loadl_all ty107 rfl rfl rfl rfl rfl | exact v_loadl_part (cs := [_, _]) ty107 rfl rfl rfl rfl rfl rfl) rfl rfl ?_)
    refine g_step rfl (s_fieldAddr ty109 fo109_1 ty107 rfl rfl ?_)
    refine g_step rfl (s_val (v_loadl_part (cs := [_, _]) ty107 rfl rfl rfl rfl rfl rfl) rfl rfl ?_)
    refine g_step rfl (s_callp rfl rfl rfl (spBest_ok own q.sp _) ?_)
    rintro _ rfl
    refine g_step rfl (s_val (v_assign rfl) rfl rfl ?_)
    refine g_nil ?_
    refine g_next hK5 ?_
    refine g_seq (fun K6 hK6 => ?_)
    refine g_seq (fun K7 hK7 => ?_)
    refine g_region ?_
    refine g_step rfl (s_val (v_move rfl) rfl rfl ?_)
    refine g_step rfl (s_val (v_eql rfl rfl) rfl rfl ?_)
    refine g_nil ?_
    refine g_next hK7 ?_
    refine g_cond rfl (fun hc24 => ?_) (fun hc24 => ?_)
    · try simp only [decide_eq_true_eq, decide_eq_false_iff_not, Bool.not_eq_true', Bool.not_eq_false', Bool.not_eq_eq_eq_not, Bool.not_true, Bool.not_false, Bool.and_eq_true, Bool.or_eq_true, Bool.or_eq_false_iff, beq_iff_eq, beq_eq_false_iff_ne, ne_eq, Int.not_lt, Int.not_le, Decidable.not_not] at hc24
      refine g_seq (fun K8 hK8 => ?_)
      refine g_region ?_
      refine g_step rfl (s_val (v_assign rfl) rfl rfl ?_)
      refine g_step rfl (s_val (v_assign rfl) rfl rfl ?_)
      refine g_nil ?_
      refine g_next hK8 ?_
      refine g_ret ?_
      refine g_then_ret ?_
      refine g_end2 (.inl rfl) Try.results89 (.tmp rfl) (.tmp rfl) [] (ASub.refl _) (AHeap.sub_refl _) (fun p hp => by cases hp) ⟨rfl, ?_⟩
      first | (simp [chooseP, hq, hc24]; done) | (simp [chooseP, hq, hc24]; rfl)
    · try simp only [decide_eq_true_eq, decide_eq_false_iff_not, Bool.not_eq_true', Bool.not_eq_false', Bool.not_eq_eq_eq_not, Bool.not_true, Bool.not_false, Bool.and_eq_true, Bool.or_eq_true, Bool.or_eq_false_iff, beq_iff_eq, beq_eq_false_iff_ne, ne_eq, Int.not_lt, Int.not_le, Decidable.not_not] at hc24
      refine g_skip ?_
      refine g_next hK6 ?_
      refine g_seq (fun K9 hK9 => ?_)
      refine g_region ?_
      refine g_step rfl (s_val (v_move rfl) rfl rfl ?_)
      refine g_step rfl (s_val (v_assign rfl) rfl rfl ?_)
      refine g_step rfl (s_val (v_assign rfl) rfl rfl ?_)
      refine g_nil ?_
      refine g_next hK9 ?_
      refine g_ret ?_
      refine g_end2 (.inl rfl) Try.results89 (.tmp rfl) (.tmp rfl) [] (ASub.refl _) (AHeap.sub_refl _) (fun p hp => by cases hp) ⟨rfl, ?_⟩
      first | (simp [chooseP, hq, hc24]; done) | (simp [chooseP, hq, hc24]; rfl)

theorem peersLearn_ok (p r : Nat) (m : Book) (G : AHeap) (hG : G p = some (.box (.agg [.map r]))) (hR : G r = some (bookRow m)) (id inc : Int) (s : Sp) : LCalls Try.prog 55 [.box p 0, .int .i64 id, .int .i64 inc, encSp s] G (· = r) (fun n v effs => v = .bool (learnOk m id inc s) ∧ effs = [(r, bookRow (learn m id inc s))]) := by
  refine LCalls.intro 65 fi55 rfl Try.ntmps55 rfl (fun b hb => by subst hb; rw [hR]; simp) (fun H hH w0 hw0 => ?_)
  have hR0 := hR
  have hG := hH _ _ hG
  have hR := hH _ _ hR
  refine g_seq (fun K0 hK0 => ?_)
  refine g_region ?_
  refine g_step rfl (s_box rfl rfl rfl rfl ?_)
  refine g_step rfl (s_val (v_assign rfl) rfl rfl ?_)
  refine g_nil ?_
  refine g_next hK0 ?_
  refine g_seq (fun K1 hK1 => ?_)
  refine g_seq (fun K2 hK2 => ?_)
  refine g_region ?_
  refine g_step rfl (s_val (v_move rfl) rfl rfl ?_)
  refine g_step rfl (s_val (by first | exact v_ptr_eql_nil ty104 rfl rfl rfl | exact v_nil_eql_nil ty104 rfl rfl | exact v_ptrO_eql ty104 rfl rfl) rfl rfl ?_)
  refine g_step rfl (s_val (v_move rfl) rfl rfl ?_)
  refine g_split 13 rfl (fun hg13 => ?_) (fun hg13 => ?_)
  · exfalso; (try simp only [decide_eq_true_eq, decide_eq_false_iff_not, Bool.not_eq_true', Bool.not_eq_false', Bool.not_eq_eq_eq_not, Bool.not_true, Bool.not_false, Bool.and_eq_true, Bool.or_eq_true, Bool.or_eq_false_iff, beq_iff_eq, beq_eq_false_iff_ne, ne_eq, Int.not_lt, Int.not_le, Decidable.not_not] at hg13); simp at hg13
  · try simp only [decide_eq_true_eq, decide_eq_false_iff_not, Bool.not_eq_true', Bool.not_eq_false', Bool.not_eq_eq_eq_not, Bool.not_true, Bool.not_false, Bool.and_eq_true, Bool.or_eq_true, Bool.or_eq_false_iff, beq_iff_eq, beq_eq_false_iff_ne, ne_eq, Int.not_lt, Int.not_le, Decidable.not_not] at hg13
    refine g_step_yes (j := 2) (t := 13) rfl rfl rfl rfl (s_val (v_move rfl) rfl rfl ?_)
    refine g_step_yes (j := 2) (t := 13) rfl rfl rfl rfl (s_val (v_nilCheck rfl rfl) rfl rfl ?_)
    refine g_step_yes (j := 2) (t := 13) rfl rfl rfl rfl (s_val (by first | exact v_fieldAddr ty177 fo177_0 ty175 rfl | exact v_fieldAddr_box ty177 fo177_0 ty175 rfl) rfl rfl ?_)
    refine g_step_yes (j := 2) (t := 13) rfl rfl rfl rfl (s_val (by first | exact v_load ty175 rfl rfl (by first | rfl | assumption) (by first | assumption | exact map_get (by assumption) | rfl) rfl | exact v_load_box ty175 rfl rfl (by assumption) rfl) rfl rfl ?_)
    refine g_step_yes (j := 2) (t := 13) rfl rfl rfl rfl (s_val (v_map_eql_nil ty175 rfl rfl) rfl rfl ?_)
    refine g_step rfl (s_val (v_pick_f rfl rfl) rfl rfl ?_)
    refine g_step rfl (s_val (v_move rfl) rfl rfl ?_)
    refine g_split 20 rfl (fun hg20 => ?_) (fun hg20 => ?_)
    · exfalso; (try simp only [decide_eq_true_eq, decide_eq_false_iff_not, Bool.not_eq_true', Bool.not_eq_false', Bool.not_eq_eq_eq_not, Bool.not_true, Bool.not_false, Bool.and_eq_true, Bool.or_eq_true, Bool.or_eq_false_iff, beq_iff_eq, beq_eq_false_iff_ne, ne_eq, Int.not_lt, Int.not_le, Decidable.not_not] at hg20); simp at hg20
    · try simp only [decide_eq_true_eq, decide_eq_false_iff_not, Bool.not_eq_true', Bool.not_eq_false', Bool.not_eq_eq_eq_not, Bool.not_true, Bool.not_false, Bool.and_eq_true, Bool.or_eq_true, Bool.or_eq_false_iff, beq_iff_eq, beq_eq_false_iff_ne, ne_eq, Int.not_lt, Int.not_le, Decidable.not_not] at hg20
      refine g_step_yes (j := 9) (t := 20) rfl rfl rfl rfl (s_val (v_move rfl) rfl rfl ?_)
      refine g_step_yes (j := 9) (t := 20) rfl rfl rfl rfl (s_val (v_lss rfl rfl) rfl rfl ?_)
      refine g_step rfl (s_val (v_pick_f rfl rfl) rfl rfl ?_)
      refine g_step rfl (s_val (v_move rfl) rfl rfl ?_)
      refine g_split 24 rfl (fun hg24 => ?_) (fun hg24 => ?_)
      · try simp only [decide_eq_true_eq, decide_eq_false_iff_not, Bool.not_eq_true', Bool.not_eq_false', Bool.not_eq_eq_eq_not, Bool.not_true, Bool.not_false, Bool.and_eq_true, Bool.or_eq_true, Bool.or_eq_false_iff, beq_iff_eq, beq_eq_false_iff_ne, ne_eq, Int.not_lt, Int.not_le, Decidable.not_not] at hg24
        refine g_step_no (j := 13) (t := 24) rfl rfl rfl rfl rfl rfl rfl ?_
        refine g_step_no (j := 13) (t := 24) rfl rfl rfl rfl rfl rfl rfl ?_
        refine g_step rfl (s_val (v_pick_t rfl rfl) rfl rfl ?_)
        refine g_step rfl (s_val (v_move rfl) rfl rfl ?_)
        refine g_step_no (j := 17) (t := 28) rfl rfl rfl rfl rfl rfl rfl ?_
        refine g_step_no (j := 17) (t := 28) rfl rfl rfl rfl rfl rfl rfl ?_
        refine g_step rfl (s_val (v_pick_t rfl rfl) rfl rfl ?_)
        refine g_step rfl (s_val (v_move rfl) rfl rfl ?_)
        refine g_step_no (j := 21) (t := 32) rfl rfl rfl rfl rfl rfl rfl ?_
        refine g_step_no (j := 21) (t := 32) rfl rfl rfl rfl rfl rfl rfl ?_
        refine g_step rfl (s_val (v_pick_t rfl rfl) rfl rfl ?_)
        refine g_step rfl (s_val (v_move rfl) rfl rfl ?_)
        refine g_step_no (j := 25) (t := 36) rfl rfl rfl rfl rfl rfl rfl ?_
        refine g_step_no (j := 25) (t := 36) rfl rfl rfl rfl rfl rfl rfl ?_
        refine g_step_no (j := 25) (t := 36) rfl rfl rfl rfl rfl rfl rfl ?_
        refine g_step rfl (s_val (v_pick_t rfl rfl) rfl rfl ?_)
        refine g_nil ?_
        refine g_next hK2 ?_
        first | refine g_keep [0, 1, 2, 40] [7] [7] (keep_cons rfl (keep_cons rfl (keep_cons rfl (keep_cons rfl keep_nil)))) (lkeep_cons rfl lkeep_nil) (keep_cons rfl keep_nil) rfl ?_ | refine g_keep [0, 1, 2, 40] [7] [7] rfl rfl rfl rfl ?_
        refine g_cond rfl (fun _ => ?_) (fun h => by cases h)
        refine g_seq (fun K3 hK3 => ?_)
        refine g_region ?_
        refine g_step rfl (s_val (v_assign rfl) rfl rfl ?_)
        refine g_nil ?_
        refine g_next hK3 ?_
        refine g_ret ?_
        refine g_then_ret ?_
        have hno : learnOk m id inc s = false := by (try simp only [*] at *); simp [learnOk, *] <;> omega
        refine g_end1 (.inl rfl) Try.results55 (.tmp rfl) [(r, bookRow (learn m id inc s))] (ASub.refl _) (fun b y hb => by rw [show setAll H [(r, bookRow (learn m id inc s))] = H from AHeap.set_same _ _ _ (by rw [learn, hno, if_neg (by simp)]; exact hR)] at hb; exact hb) (fun q hq => .inl (by simp at hq; subst hq; rw [hR0]; simp)) ⟨by rw [hno]; rfl, rfl⟩
      · try simp only [decide_eq_true_eq, decide_eq_false_iff_not, Bool.not_eq_true', Bool.not_eq_false', Bool.not_eq_eq_eq_not, Bool.not_true, Bool.not_false, Bool.and_eq_true, Bool.or_eq_true, Bool.or_eq_false_iff, beq_iff_eq, beq_eq_false_iff_ne, ne_eq, Int.not_lt, Int.not_le, Decidable.not_not] at hg24
        refine g_step_yes (j := 13) (t := 24) rfl rfl rfl rfl (s_val (v_move rfl) rfl rfl ?_)
        refine g_step_yes (j := 13) (t := 24) rfl rfl rfl rfl (s_val (v_gtr rfl rfl) rfl rfl ?_)
        refine g_step rfl (s_val (v_pick_f rfl rfl) rfl rfl ?_)
        refine g_step rfl (s_val (v_move rfl) rfl rfl ?_)
        refine g_split 28 rfl (fun hg28 => ?_) (fun hg28 => ?_)
        · try simp only [decide_eq_true_eq, decide_eq_false_iff_not, Bool.not_eq_true', Bool.not_eq_false', Bool.not_eq_eq_eq_not, Bool.not_true, Bool.not_false, Bool.and_eq_true, Bool.or_eq_true, Bool.or_eq_false_iff, beq_iff_eq, beq_eq_false_iff_ne, ne_eq, Int.not_lt, Int.not_le, Decidable.not_not] at hg28
          refine g_step_no (j := 17) (t := 28) rfl rfl rfl rfl rfl rfl rfl ?_
          refine g_step_no (j := 17) (t := 28) rfl rfl rfl rfl rfl rfl rfl ?_
          refine g_step rfl (s_val (v_pick_t rfl rfl) rfl rfl ?_)
          refine g_step rfl (s_val (v_move rfl) rfl rfl ?_)
          refine g_step_no (j := 21) (t := 32) rfl rfl rfl rfl rfl rfl rfl ?_
          refine g_step_no (j := 21) (t := 32) rfl rfl rfl rfl rfl rfl rfl ?_
          refine g_step rfl (s_val (v_pick_t rfl rfl) rfl rfl ?_)
          refine g_step rfl (s_val (v_move rfl) rfl rfl ?_)
          refine g_step_no (j := 25) (t := 36) rfl rfl rfl rfl rfl rfl rfl ?_
          refine g_step_no (j := 25) (t := 36) rfl rfl rfl rfl rfl rfl rfl ?_
          refine g_step_no (j := 25) (t := 36) rfl rfl rfl rfl rfl rfl rfl ?_
          refine g_step rfl (s_val (v_pick_t rfl rfl) rfl rfl ?_)
          refine g_nil ?_
          refine g_next hK2 ?_
          first | refine g_keep [0, 1, 2, 40] [7] [7] (keep_cons rfl (keep_cons rfl (keep_cons rfl (keep_cons rfl keep_nil)))) (lkeep_cons rfl lkeep_nil) (keep_cons rfl keep_nil) rfl ?_ | refine g_keep [0, 1, 2, 40] [7] [7] rfl rfl rfl rfl ?_
          refine g_cond rfl (fun _ => ?_) (fun h => by cases h)
          refine g_seq (fun K4 hK4 => ?_)
          refine g_region ?_
          refine g_step rfl (s_val (v_assign rfl) rfl rfl ?_)
          refine g_nil ?_
          refine g_next hK4 ?_
          refine g_ret ?_
          refine g_then_ret ?_
          have hno : learnOk m id inc s = false := by (try simp only [*] at *); simp [learnOk, *] <;> omega
          refine g_end1 (.inl rfl) Try.results55 (.tmp rfl) [(r, bookRow (learn m id inc s))] (ASub.refl _) (fun b y hb => by rw [show setAll H [(r, bookRow (learn m id inc s))] = H from AHeap.set_same _ _ _ (by rw [learn, hno, if_neg (by simp)]; exact hR)] at hb; exact hb) (fun q hq => .inl (by simp at hq; subst hq; rw [hR0]; simp)) ⟨by rw [hno]; rfl, rfl⟩
        · try simp only [decide_eq_true_eq, decide_eq_false_iff_not, Bool.not_eq_true', Bool.not_eq_false', Bool.not_eq_eq_eq_not, Bool.not_true, Bool.not_false, Bool.and_eq_true, Bool.or_eq_true, Bool.or_eq_false_iff, beq_iff_eq, beq_eq_false_iff_ne, ne_eq, Int.not_lt, Int.not_le, Decidable.not_not] at hg28
          refine g_step_yes (j := 17) (t := 28) rfl rfl rfl rfl (s_val (v_move rfl) rfl rfl ?_)
          refine g_step_yes (j := 17) (t := 28) rfl rfl rfl rfl (s_val (v_lss rfl rfl) rfl rfl ?_)
          refine g_step rfl (s_val (v_pick_f rfl rfl) rfl rfl ?_)
          refine g_step rfl (s_val (v_move rfl) rfl rfl ?_)
          refine g_split 32 rfl (fun hg32 => ?_) (fun hg32 => ?_)
          · try simp only [decide_eq_true_eq, decide_eq_false_iff_not, Bool.not_eq_true', Bool.not_eq_false', Bool.not_eq_eq_eq_not, Bool.not_true, Bool.not_false, Bool.and_eq_true, Bool.or_eq_true, Bool.or_eq_false_iff, beq_iff_eq, beq_eq_false_iff_ne, ne_eq, Int.not_lt, Int.not_le, Decidable.not_not] at hg32
            refine g_step_no (j := 21) (t := 32) rfl rfl rfl rfl rfl rfl rfl ?_
            refine g_step_no (j := 21) (t := 32) rfl rfl rfl rfl rfl rfl rfl ?_
            refine g_step rfl (s_val (v_pick_t rfl rfl) rfl rfl ?_)
            refine g_step rfl (s_val (v_move rfl) rfl rfl ?_)
            refine g_step_no (j := 25) (t := 36) rfl rfl rfl rfl rfl rfl rfl ?_
            refine g_step_no (j := 25) (t := 36) rfl rfl rfl rfl rfl rfl rfl ?_
            refine g_step_no (j := 25) (t := 36) rfl rfl rfl rfl rfl rfl rfl ?_
            refine g_step rfl (s_val (v_pick_t rfl rfl) rfl rfl ?_)
            refine g_nil ?_
            refine g_next hK2 ?_
            first | refine g_keep [0, 1, 2, 40] [7] [7] (keep_cons rfl (keep_cons rfl (keep_cons rfl (keep_cons rfl keep_nil)))) (lkeep_cons rfl lkeep_nil) (keep_cons rfl keep_nil) rfl ?_ | refine g_keep [0, 1, 2, 40] [7] [7] rfl rfl rfl rfl ?_
            refine g_cond rfl (fun _ => ?_) (fun h => by cases h)
            refine g_seq (fun K5 hK5 => ?_)
            refine g_region ?_
            refine g_step rfl (s_val (v_assign rfl) rfl rfl ?_)
            refine g_nil ?_
            refine g_next hK5 ?_
            refine g_ret ?_
            refine g_then_ret ?_
            have hno : learnOk m id inc s = false := by (try simp only [*] at *); simp [learnOk, *] <;> omega
            refine g_end1 (.inl rfl) Try.results55 (.tmp rfl) [(r, bookRow (learn m id inc s))] (ASub.refl _) (fun b y hb => by rw [show setAll H [(r, bookRow (learn m id inc s))] = H from AHeap.set_same _ _ _ (by rw [learn, hno, if_neg (by simp)]; exact hR)] at hb; exact hb) (fun q hq => .inl (by simp at hq; subst hq; rw [hR0]; simp)) ⟨by rw [hno]; rfl, rfl⟩
          · try simp only [decide_eq_true_eq, decide_eq_false_iff_not, Bool.not_eq_true', Bool.not_eq_false', Bool.not_eq_eq_eq_not, Bool.not_true, Bool.not_false, Bool.and_eq_true, Bool.or_eq_true, Bool.or_eq_false_iff, beq_iff_eq, beq_eq_false_iff_ne, ne_eq, Int.not_lt, Int.not_le, Decidable.not_not] at hg32
            refine g_step_yes (j := 21) (t := 32) rfl rfl rfl rfl (s_val (v_move rfl) rfl rfl ?_)
            refine g_step_yes (j := 21) (t := 32) rfl rfl rfl rfl (s_val (v_gtr rfl rfl) rfl rfl ?_)
            refine g_step rfl (s_val (v_pick_f rfl rfl) rfl rfl ?_)
            refine g_step rfl (s_val (v_move rfl) rfl rfl ?_)
            refine g_split 36 rfl (fun hg36 => ?_) (fun hg36 => ?_)
            · try simp only [decide_eq_true_eq, decide_eq_false_iff_not, Bool.not_eq_true', Bool.not_eq_false', Bool.not_eq_eq_eq_not, Bool.not_true, Bool.not_false, Bool.and_eq_true, Bool.or_eq_true, Bool.or_eq_false_iff, beq_iff_eq, beq_eq_false_iff_ne, ne_eq, Int.not_lt, Int.not_le, Decidable.not_not] at hg36
              refine g_step_no (j := 25) (t := 36) rfl rfl rfl rfl rfl rfl rfl ?_
              refine g_step_no (j := 25) (t := 36) rfl rfl rfl rfl rfl rfl rfl ?_
              refine g_step_no (j := 25) (t := 36) rfl rfl rfl rfl rfl rfl rfl ?_
              refine g_step rfl (s_val (v_pick_t rfl rfl) rfl rfl ?_)
              refine g_nil ?_
              refine g_next hK2 ?_
              first | refine g_keep [0, 1, 2, 40] [7] [7] (keep_cons rfl (keep_cons rfl (keep_cons rfl (keep_cons rfl keep_nil)))) (lkeep_cons rfl lkeep_nil) (keep_cons rfl keep_nil) rfl ?_ | refine g_keep [0, 1, 2, 40] [7] [7] rfl rfl rfl rfl ?_
              refine g_cond rfl (fun _ => ?_) (fun h => by cases h)
              refine g_seq (fun K6 hK6 => ?_)
              refine g_region ?_
              refine g_step rfl (s_val (v_assign rfl) rfl rfl ?_)
              refine g_nil ?_
              refine g_next hK6 ?_
              refine g_ret ?_
              refine g_then_ret ?_
              have hno : learnOk m id inc s = false := by (try simp only [*] at *); simp [learnOk, *] <;> omega
              refine g_end1 (.inl rfl) Try.results55 (.tmp rfl) [(r, bookRow (learn m id inc s))] (ASub.refl _) (fun b y hb => by rw [show setAll H [(r, bookRow (learn m id inc s))] = H from AHeap.set_same _ _ _ (by rw [learn, hno, if_neg (by simp)]; exact hR)] at hb; exact hb) (fun q hq => .inl (by simp at hq; subst hq; rw [hR0]; simp)) ⟨by rw [hno]; rfl, rfl⟩
            · try simp only [decide_eq_true_eq, decide_eq_false_iff_not, Bool.not_eq_true', Bool.not_eq_false', Bool.not_eq_eq_eq_not, Bool.not_true, Bool.not_false, Bool.and_eq_true, Bool.or_eq_true, Bool.or_eq_false_iff, beq_iff_eq, beq_eq_false_iff_ne, ne_eq, Int.not_lt, Int.not_le, Decidable.not_not] at hg36
              refine g_step_yes (j := 25) (t := 36) rfl rfl rfl rfl (s_val (by first | exact v_loadl_all ty107 rfl rfl rfl rfl rfl | exact v_loadl_part (cs := [_, _]) ty107 rfl rfl rfl rfl rfl rfl) rfl rfl ?_)
              refine g_step_yes (j := 25) (t := 36) rfl rfl rfl rfl (s_callp rfl rfl rfl (spValid_ok _ _) ?_)
              rintro _ rfl
              refine g_step_yes (j := 25) (t := 36) rfl rfl rfl rfl (s_val (v_not rfl) rfl rfl ?_)
              refine g_step rfl (s_val (v_pick_f rfl rfl) rfl rfl ?_)
              refine g_nil ?_
              refine g_next hK2 ?_
              first | refine g_keep [0, 1, 2, 40] [7] [7] (keep_cons rfl (keep_cons rfl (keep_cons rfl (keep_cons rfl keep_nil)))) (lkeep_cons rfl lkeep_nil) (keep_cons rfl keep_nil) rfl ?_ | refine g_keep [0, 1, 2, 40] [7] [7] rfl rfl rfl rfl ?_
              refine g_cond rfl (fun hc40 => ?_) (fun hc40 => ?_)
              · try simp only [decide_eq_true_eq, decide_eq_false_iff_not, Bool.not_eq_true', Bool.not_eq_false', Bool.not_eq_eq_eq_not, Bool.not_true, Bool.not_false, Bool.and_eq_true, Bool.or_eq_true, Bool.or_eq_false_iff, beq_iff_eq, beq_eq_false_iff_ne, ne_eq, Int.not_lt, Int.not_le, Decidable.not_not] at hc40
                refine g_seq (fun K7 hK7 => ?_)
                refine g_region ?_
                refine g_step rfl (s_val (v_assign rfl) rfl rfl ?_)
                refine g_nil ?_
                refine g_next hK7 ?_
                refine g_ret ?_
                refine g_then_ret ?_
                have hno : learnOk m id inc s = false := by (try simp only [*] at *); simp [learnOk, *] <;> omega
                refine g_end1 (.inl rfl) Try.results55 (.tmp rfl) [(r, bookRow (learn m id inc s))] (ASub.refl _) (fun b y hb => by rw [show setAll H [(r, bookRow (learn m id inc s))] = H from AHeap.set_same _ _ _ (by rw [learn, hno, if_neg (by simp)]; exact hR)] at hb; exact hb) (fun q hq => .inl (by simp at hq; subst hq; rw [hR0]; simp)) ⟨by rw [hno]; rfl, rfl⟩
              · try simp only [decide_eq_true_eq, decide_eq_false_iff_not, Bool.not_eq_true', Bool.not_eq_false', Bool.not_eq_eq_eq_not, Bool.not_true, Bool.not_false, Bool.and_eq_true, Bool.or_eq_true, Bool.or_eq_false_iff, beq_iff_eq, beq_eq_false_iff_ne, ne_eq, Int.not_lt, Int.not_le, Decidable.not_not] at hc40
                refine g_skip ?_
                refine g_next hK1 ?_
                refine g_seq (fun K8 hK8 => ?_)
                refine g_seq (fun K9 hK9 => ?_)
                refine g_region ?_
                refine g_step rfl (s_val (v_move rfl) rfl rfl ?_)
                refine g_step rfl (s_val (v_nilCheck rfl rfl) rfl rfl ?_)
                refine g_step rfl (s_val (by first | exact v_fieldAddr ty177 fo177_0 ty175 rfl | exact v_fieldAddr_box ty177 fo177_0 ty175 rfl) rfl rfl ?_)
                refine g_step rfl (s_val (by first | exact v_load ty175 rfl rfl (by first | rfl | assumption) (by first | assumption | exact map_get (by assumption) | rfl) rfl | exact v_load_box ty175 rfl rfl (by assumption) rfl) rfl rfl ?_)
                refine g_step rfl (s_val (v_move rfl) rfl rfl ?_)
                refine g_step rfl (s_val (v_lookup (o := (encPe (lookPe m id))) (f := (pget m id).isSome) ty175 ty3 ty109 rfl rfl rfl hR (look_eq m id) (look_is m id)) rfl rfl ?_)
                refine g_step rfl (s_val (v_move rfl) rfl rfl ?_)
                refine g_step rfl (s_val (v_extract rfl rfl) rfl rfl ?_)
                refine g_step rfl (s_val (v_extract rfl rfl) rfl rfl ?_)
                refine g_step rfl (s_alloc (av := (.agg [(.int .i64 0), (.int .i64 0), (.int .i64 0)])) ty109 rfl rfl rfl rfl ?_)
                refine g_step rfl (s_store_all ty109 rfl rfl rfl rfl rfl rfl ?_)
                refine g_step rfl (s_val (v_assign rfl) rfl rfl ?_)
                refine g_nil ?_
                refine g_next hK9 ?_
                refine g_seq (fun K10 hK10 => ?_)
                refine g_region ?_
                refine g_step rfl (s_val (v_move rfl) rfl rfl ?_)
                refine g_step rfl (s_val (v_move rfl) rfl rfl ?_)
                refine g_split 51 rfl (fun hg51 => ?_) (fun hg51 => ?_)
                · try simp only [decide_eq_true_eq, decide_eq_false_iff_not, Bool.not_eq_true', Bool.not_eq_false', Bool.not_eq_eq_eq_not, Bool.not_true, Bool.not_false, Bool.and_eq_true, Bool.or_eq_true, Bool.or_eq_false_iff, beq_iff_eq, beq_eq_false_iff_ne, ne_eq, Int.not_lt, Int.not_le, Decidable.not_not] at hg51
                  refine g_step_yes (j := 1) (t := 51) rfl rfl rfl rfl (s_fieldAddr ty109 fo109_0 ty3 rfl rfl ?_)
                  refine g_step_yes (j := 1) (t := 51) rfl rfl rfl rfl (s_val (v_loadl ty3 rfl rfl rfl rfl) rfl rfl ?_)
                  refine g_step_yes (j := 1) (t := 51) rfl rfl rfl rfl (s_val (v_move rfl) rfl rfl ?_)
                  refine g_step_yes (j := 1) (t := 51) rfl rfl rfl rfl (s_val (v_gtr rfl rfl) rfl rfl ?_)
                  refine g_step rfl (s_val (v_pick_t rfl rfl) rfl rfl ?_)
                  refine g_nil ?_
                  refine g_next hK10 ?_
                  refine g_cond rfl (fun hc56 => ?_) (fun hc56 => ?_)
                  · try simp only [decide_eq_true_eq, decide_eq_false_iff_not, Bool.not_eq_true', Bool.not_eq_false', Bool.not_eq_eq_eq_not, Bool.not_true, Bool.not_false, Bool.and_eq_true, Bool.or_eq_true, Bool.or_eq_false_iff, beq_iff_eq, beq_eq_false_iff_ne, ne_eq, Int.not_lt, Int.not_le, Decidable.not_not] at hc56
                    refine g_seq (fun K11 hK11 => ?_)
                    refine g_region ?_
                    refine g_step rfl (s_val (v_assign rfl) rfl rfl ?_)
                    refine g_nil ?_
                    refine g_next hK11 ?_
                    refine g_ret ?_
                    refine g_then_ret ?_
                    have hno : learnOk m id inc s = false := by simp [learnOk, *]
                    refine g_end1 (.inl rfl) Try.results55 (.tmp rfl) [(r, bookRow (learn m id inc s))] (ASub.refl _) (fun b y hb => by rw [show setAll H [(r, bookRow (learn m id inc s))] = H from AHeap.set_same _ _ _ (by rw [learn, hno, if_neg (by simp)]; exact hR)] at hb; exact hb) (fun q hq => .inl (by simp at hq; subst hq; rw [hR0]; simp)) ⟨by rw [hno]; rfl, rfl⟩
                  · try simp only [decide_eq_true_eq, decide_eq_false_iff_not, Bool.not_eq_true', Bool.not_eq_false', Bool.not_eq_eq_eq_not, Bool.not_true, Bool.not_false, Bool.and_eq_true, Bool.or_eq_true, Bool.or_eq_false_iff, beq_iff_eq, beq_eq_false_iff_ne, ne_eq, Int.not_lt, Int.not_le, Decidable.not_not] at hc56
                    refine g_skip ?_
                    refine g_next hK8 ?_
                    refine g_seq (fun K12 hK12 => ?_)
                    refine g_draw (n := 9) (fun j => !([8] : List Nat).contains j) rfl rfl ?_
                    refine m_take 0 false rfl rfl (by kernel_rfl) (by kernel_rfl) (by kernel_rfl) (fun _ _ _ _ h => h) (v_move rfl) rfl rfl ?_
                    refine m_take 1 false rfl rfl (by kernel_rfl) (by kernel_rfl) (by kernel_rfl) (fun _ _ _ _ h => h) (v_nilCheck rfl rfl) rfl rfl ?_
                    refine m_take 2 false rfl rfl (by kernel_rfl) (by kernel_rfl) (by kernel_rfl) (fun _ _ _ _ h => h) (by first | exact v_fieldAddr ty177 fo177_0 ty175 rfl | exact v_fieldAddr_box ty177 fo177_0 ty175 rfl) rfl rfl ?_
                    refine m_take 3 true rfl rfl (by kernel_rfl) (by kernel_rfl) (by kernel_rfl) (fun _ _ _ _ h => h) (by first | exact v_load ty175 rfl rfl (by first | rfl | assumption) (by first | assumption | exact map_get (by assumption) | rfl) rfl | exact v_load_box ty175 rfl rfl (by assumption) rfl) rfl rfl ?_
                    refine m_take 4 false rfl rfl (by kernel_rfl) (by kernel_rfl) (by kernel_rfl) (fun _ _ _ _ h => h) (v_move rfl) rfl rfl ?_
                    refine m_take 5 false rfl rfl (by kernel_rfl) (by kernel_rfl) (by kernel_rfl) (fun _ _ _ _ h => h) (v_move rfl) rfl rfl ?_
                    refine m_take 6 true rfl rfl (by kernel_rfl) (by kernel_rfl) (by kernel_rfl) (fun _ _ _ _ h => h) (by first | exact v_loadl_all ty107 rfl rfl rfl rfl rfl | exact v_loadl_part (cs := [_, _]) ty107 rfl rfl rfl rfl rfl rfl) rfl rfl ?_
                    refine m_take 7 false rfl rfl (by kernel_rfl) (by kernel_rfl) (by kernel_rfl) (fun _ _ _ _ h => h) (v_build (vs := [(0, _), (1, _)]) (zs := [(.int .i64 0), (.int .i64 0), (.int .i64 0)]) (cells := [_, _, _]) ty109 pl109 rfl rfl rfl) rfl rfl ?_
                    refine m_one 8 (by kernel_rfl) rfl rfl ?_
                    refine sm_any rfl (s_mapUpdate ty175 ty3 rfl rfl rfl hR (.inl rfl) ?_)
                    rw [show mput (mmap encPe m) id (.agg [.int .i64 inc, .int .i64 s.lo, .int .i64 s.hi]) = mmap encPe (pput m id ⟨inc, s⟩) from mput_mmap encPe id ⟨inc, s⟩ m]
                    refine m_done (by kernel_rfl) ?_
                    refine g_next hK12 ?_
                    first | refine g_keep [] [] [] keep_nil lkeep_nil keep_nil rfl ?_ | refine g_keep [] [] [] rfl rfl rfl rfl ?_
                    refine g_seq (fun K13 hK13 => ?_)
                    refine g_region ?_
                    refine g_step rfl (s_val (v_assign rfl) rfl rfl ?_)
                    refine g_nil ?_
                    refine g_next hK13 ?_
                    refine g_ret ?_
                    have hyes : learnOk m id inc s = true := by simp [learnOk, *] <;> omega
                    refine g_end1 (.inl rfl) Try.results55 (.tmp rfl) [(r, bookRow (learn m id inc s))] (ASub.refl _) (by rw [learn, hyes, if_pos rfl]; exact AHeap.sub_refl _) (fun q hq => .inl (by simp at hq; subst hq; rw [hR0]; simp)) ⟨by rw [hyes]; rfl, rfl⟩
                · try simp only [decide_eq_true_eq, decide_eq_false_iff_not, Bool.not_eq_true', Bool.not_eq_false', Bool.not_eq_eq_eq_not, Bool.not_true, Bool.not_false, Bool.and_eq_true, Bool.or_eq_true, Bool.or_eq_false_iff, beq_iff_eq, beq_eq_false_iff_ne, ne_eq, Int.not_lt, Int.not_le, Decidable.not_not] at hg51
                  refine g_step_no (j := 1) (t := 51) rfl rfl rfl rfl rfl rfl rfl ?_
                  refine g_step_no (j := 1) (t := 51) rfl rfl rfl rfl rfl rfl rfl ?_
                  refine g_step_no (j := 1) (t := 51) rfl rfl rfl rfl rfl rfl rfl ?_
                  refine g_step_no (j := 1) (t := 51) rfl rfl rfl rfl rfl rfl rfl ?_
                  refine g_step rfl (s_val (v_pick_f rfl rfl) rfl rfl ?_)
                  refine g_nil ?_
                  refine g_next hK10 ?_
                  refine g_cond rfl (fun h => by cases h) (fun _ => ?_)
                  refine g_skip ?_
                  refine g_next hK8 ?_
                  refine g_seq (fun K14 hK14 => ?_)
                  refine g_draw (n := 9) (fun j => !([8] : List Nat).contains j) rfl rfl ?_
                  refine m_take 0 false rfl rfl (by kernel_rfl) (by kernel_rfl) (by kernel_rfl) (fun _ _ _ _ h => h) (v_move rfl) rfl rfl ?_
                  refine m_take 1 false rfl rfl (by kernel_rfl) (by kernel_rfl) (by kernel_rfl) (fun _ _ _ _ h => h) (v_nilCheck rfl rfl) rfl rfl ?_
                  refine m_take 2 false rfl rfl (by kernel_rfl) (by kernel_rfl) (by kernel_rfl) (fun _ _ _ _ h => h) (by first | exact v_fieldAddr ty177 fo177_0 ty175 rfl | exact v_fieldAddr_box ty177 fo177_0 ty175 rfl) rfl rfl ?_
                  refine m_take 3 true rfl rfl (by kernel_rfl) (by kernel_rfl) (by kernel_rfl) (fun _ _ _ _ h => h) (by first | exact v_load ty175 rfl rfl (by first | rfl | assumption) (by first | assumption | exact map_get (by assumption) | rfl) rfl | exact v_load_box ty175 rfl rfl (by assumption) rfl) rfl rfl ?_
                  refine m_take 4 false rfl rfl (by kernel_rfl) (by kernel_rfl) (by kernel_rfl) (fun _ _ _ _ h => h) (v_move rfl) rfl rfl ?_
                  refine m_take 5 false rfl rfl (by kernel_rfl) (by kernel_rfl) (by kernel_rfl) (fun _ _ _ _ h => h) (v_move rfl) rfl rfl ?_
                  refine m_take 6 true rfl rfl (by kernel_rfl) (by kernel_rfl) (by kernel_rfl) (fun _ _ _ _ h => h) (by first | exact v_loadl_all ty107 rfl rfl rfl rfl rfl | exact v_loadl_part (cs := [_, _]) ty107 rfl rfl rfl rfl rfl rfl) rfl rfl ?_
                  refine m_take 7 false rfl rfl (by kernel_rfl) (by kernel_rfl) (by kernel_rfl) (fun _ _ _ _ h => h) (v_build (vs := [(0, _), (1, _)]) (zs := [(.int .i64 0), (.int .i64 0), (.int .i64 0)]) (cells := [_, _, _]) ty109 pl109 rfl rfl rfl) rfl rfl ?_
                  refine m_one 8 (by kernel_rfl) rfl rfl ?_
                  refine sm_any rfl (s_mapUpdate ty175 ty3 rfl rfl rfl hR (.inl rfl) ?_)
                  rw [show mput (mmap encPe m) id (.agg [.int .i64 inc, .int .i64 s.lo, .int .i64 s.hi]) = mmap encPe (pput m id ⟨inc, s⟩) from mput_mmap encPe id ⟨inc, s⟩ m]
                  refine m_done (by kernel_rfl) ?_
                  refine g_next hK14 ?_
                  first | refine g_keep [] [] [] keep_nil lkeep_nil keep_nil rfl ?_ | refine g_keep [] [] [] rfl rfl rfl rfl ?_
                  refine g_seq (fun K15 hK15 => ?_)
                  refine g_region ?_
                  refine g_step rfl (s_val (v_assign rfl) rfl rfl ?_)
                  refine g_nil ?_
                  refine g_next hK15 ?_
                  refine g_ret ?_
                  have hyes : learnOk m id inc s = true := by simp [learnOk, *] <;> omega
                  refine g_end1 (.inl rfl) Try.results55 (.tmp rfl) [(r, bookRow (learn m id inc s))] (ASub.refl _) (by rw [learn, hyes, if_pos rfl]; exact AHeap.sub_refl _) (fun q hq => .inl (by simp at hq; subst hq; rw [hR0]; simp)) ⟨by rw [hyes]; rfl, rfl⟩

end Go.Proofs.Ytobigfbgaiglkaa

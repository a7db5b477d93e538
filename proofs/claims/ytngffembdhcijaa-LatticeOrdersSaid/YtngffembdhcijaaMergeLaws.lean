import Derived.Test.YtngffembdhcijaaMerge
import Derived.Test.YtngffembdhcijaaRecLists
import Derived.Test.YtngffembdhcijaaUnder
import Derived.Test.YtngffembdhcijaaPMerge2
set_option maxHeartbeats 8000000
set_option linter.unusedSimpArgs false
set_option linter.unusedVariables false
set_option maxRecDepth 100000
namespace Go.Proofs.Ytngffembdhcijaa
open Go Go.Proofs.Ytngffembdhcijaa.AM
theorem mergeS_ok (ls : List (List Rc)) (G : AHeap) (hT : ls.flatten.length ≤ 100000) (hls : ls.length ≤ 100000) (hsm : ∀ l ∈ ls, ∀ r ∈ l, Small r.bag) (hs : ls.all srt = true) : PCalls Try.prog 54 [.imm (ls.map encRs)] G (fun v => v = .tup [encRs (mergeL ls.flatten), .bool true]) := by
  have h := merge_ok ls G hT hls hsm
  rw [mergeAll, if_pos hs] at h
  exact h
theorem find09_ok (x y : List Rc) (id : Int) (G : AHeap) (va vb : AV) (hva : va.view G = some (x.map encR)) (hvb : vb.view G = some (y.map encR)) (hlx : x.length ≤ 100000) (hly : y.length ≤ 100000) (hsx : ∀ r ∈ x, Small r.bag) (hsy : ∀ r ∈ y, Small r.bag) : PCalls Try.prog 55 [va, vb, .int .i64 id] G (fun v => v = .tup [encR ((accId (x ++ y) id).getD rzero), .bool (accId (x ++ y) id).isSome]) := by
  refine LCalls.intro 48 fi55 rfl Try.ntmps55 rfl (fun _ h => h.elim) (fun H hH w0 hw0 => ?_)
  have hlen : (x ++ y).length = x.length + y.length := List.length_append
  have hva := view_sub hH hva
  have hvb := view_sub hH hvb
  refine g_seq (fun K0 hK0 => ?_)
  refine g_region ?_
  refine g_step rfl (s_alloc (av := (.agg [(.int .i64 0), (.int .i64 0), (.int .i64 0), (.int .i64 0), (.int .i64 0), (.bool false), .nil0])) ty32 rfl rfl rfl rfl ?_)
  refine g_step rfl (s_val (v_assign rfl) rfl rfl ?_)
  refine g_nil ?_
  refine g_next hK0 ?_
  refine g_seq (fun K1 hK1 => ?_)
  refine g_region ?_
  refine g_step rfl (s_alloc (av := (.agg [(.int .i64 0), (.int .i64 0), (.int .i64 0), (.int .i64 0), (.int .i64 0), (.bool false), .nil0])) ty32 rfl rfl rfl rfl ?_)
  refine g_nil ?_
  refine g_next hK1 ?_
  refine g_seq (fun K2 hK2 => ?_)
  refine g_region ?_
  refine g_wkB 8 rfl (v' := encR rzero) rfl ?_
  refine g_step rfl (s_val (v_assign rfl) rfl rfl ?_)
  refine g_nil ?_
  refine g_next hK2 ?_
  refine g_seq (fun K3 hK3 => ?_)
  refine g_seq (fun K4 hK4 => ?_)
  refine g_region ?_
  refine g_step rfl (s_val (v_assign rfl) rfl rfl ?_)
  refine g_nil ?_
  refine g_next hK4 ?_
  refine g_block ?_
  refine g_keep [0, 1, 2, 9, 10] [6, 8] [6, 8] rfl rfl rfl rfl ?_
  refine g_loop (fun n env L B G => ∃ (k : Nat) (o : Option Rc), k ≤ (x ++ y).length ∧ n = (x ++ y).length - k ∧ env = [(0, va), (1, vb), (2, .int .i64 id), (9, .bool o.isSome), (10, .int .i64 (k : Int))] ∧ L = [(6, 6, 0), (8, 8, 0)] ∧ B = [(6, zrA), (8, (encR (o.getD rzero)))] ∧ H = G ∧ o = accId ((x ++ y).take k) id) ((x ++ y).length) ⟨0, none, Nat.zero_le _, rfl, rfl, rfl, rfl, rfl, rfl⟩ (fun n env L B G hI => ?_)
  obtain ⟨k, o, hk, rfl, rfl, rfl, rfl, rfl, hc⟩ := hI
  refine g_seq (fun K5 hK5 => ?_)
  refine g_seq (fun K6 hK6 => ?_)
  refine g_region ?_
  refine g_step rfl (s_val (v_move rfl) rfl rfl ?_)
  refine g_step rfl (s_val (v_move rfl) rfl rfl ?_)
  refine g_step rfl (s_val (v_len ty34 rfl (by first | rfl | assumption) (by first | exact List.length_map .. | rfl)) rfl rfl ?_)
  refine g_step rfl (s_val (v_move rfl) rfl rfl ?_)
  refine g_step rfl (s_val (v_len ty34 rfl (by first | rfl | assumption) (by first | exact List.length_map .. | rfl)) rfl rfl ?_)
  refine g_step rfl (s_val (v_add rfl rfl (by omega)) rfl rfl ?_)
  refine g_step rfl (s_val (v_lss rfl rfl) rfl rfl ?_)
  refine g_nil ?_
  refine g_next hK6 ?_
  refine g_cond rfl (fun hc18 => ?_) (fun hc18 => ?_)
  · try simp only [decide_eq_true_eq, decide_eq_false_iff_not, Bool.not_eq_true', Bool.not_eq_false', Bool.not_eq_eq_eq_not, Bool.not_true, Bool.not_false, Bool.and_eq_true, Bool.or_eq_true, Bool.or_eq_false_iff, beq_iff_eq, beq_eq_false_iff_ne, ne_eq, Int.not_lt, Int.not_le, Decidable.not_not] at hc18
    obtain ⟨z, hz⟩ := get_some (l := (x ++ y)) (k := k) (by omega)
    have hag := app_get hz
    have hzs : Small z.bag := by rcases List.mem_append.1 (mem_get hz) with h | h; exact hsx z h; exact hsy z h
    have hsn := acc_snoc (id := id) hz
    have hos : Small (o.getD rzero).bag := by rw [hc]; exact acc_small (fun r hr => by rcases List.mem_append.1 (List.mem_of_mem_take hr) with h | h; exact hsx r h; exact hsy r h)
    refine g_skip ?_
    refine g_next hK5 ?_
    refine g_seq (fun K7 hK7 => ?_)
    refine g_block ?_
    refine g_seq (fun K8 hK8 => ?_)
    refine g_region ?_
    refine g_step rfl (s_val (v_build (vs := []) (zs := [(.int .i64 0), (.int .i64 0), (.int .i64 0), (.int .i64 0), (.int .i64 0), (.bool false), .nil0]) (cells := [_, _, _, _, _, _, _]) ty32 pl32 rfl rfl rfl) rfl rfl ?_)
    refine g_step rfl (s_alloc (av := (.agg [(.int .i64 0), (.int .i64 0), (.int .i64 0), (.int .i64 0), (.int .i64 0), (.bool false), .nil0])) ty32 rfl rfl rfl rfl ?_)
    refine g_step rfl (s_store_all ty32 rfl rfl rfl rfl rfl rfl ?_)
    refine g_nil ?_
    refine g_next hK8 ?_
    refine g_cut (fun env L B G => env = [(0, va), (1, vb), (2, .int .i64 id), (9, .bool o.isSome), (10, .int .i64 (k : Int))] ∧ L = [(6, 6, 0), (8, 8, 0), (11, 11, 0)] ∧ B = [(6, zrA), (8, (encR (o.getD rzero))), (11, (encR z))] ∧ H = G) ?_ (fun env L B G hI => ?_)
    · skip
      refine g_seq (fun K9 hK9 => ?_)
      refine g_region ?_
      refine g_step rfl (s_val (v_move rfl) rfl rfl ?_)
      refine g_step rfl (s_val (v_move rfl) rfl rfl ?_)
      refine g_step rfl (s_val (v_len ty34 rfl (by first | rfl | assumption) (by first | exact List.length_map .. | rfl)) rfl rfl ?_)
      refine g_step rfl (s_val (v_lss rfl rfl) rfl rfl ?_)
      refine g_nil ?_
      refine g_next hK9 ?_
      refine g_cond rfl (fun hc25 => ?_) (fun hc25 => ?_)
      · try simp only [decide_eq_true_eq, decide_eq_false_iff_not, Bool.not_eq_true', Bool.not_eq_false', Bool.not_eq_eq_eq_not, Bool.not_true, Bool.not_false, Bool.and_eq_true, Bool.or_eq_true, Bool.or_eq_false_iff, beq_iff_eq, beq_eq_false_iff_ne, ne_eq, Int.not_lt, Int.not_le, Decidable.not_not] at hc25
        refine g_region ?_
        refine g_step rfl (s_val (v_move rfl) rfl rfl ?_)
        refine g_step rfl (s_val (v_move rfl) rfl rfl ?_)
        refine g_step rfl (s_val (v_indexAddr ty34 ty32 rfl rfl (by first | rfl | assumption) (by first | rfl | exact (rfl : (0 : Int) = ((0 : Nat) : Int)) | exact (Int.toNat_of_nonneg (by omega)).symm) (map_get (hag.1 (by omega))) rfl) rfl rfl ?_)
        refine g_step rfl (s_val (by first | exact v_load_elt ty32 rfl rfl (by first | rfl | assumption) (map_get (hag.1 (by omega))) rfl rfl | exact v_load_box_all ty32 rfl rfl (by assumption) rfl rfl | exact v_load_part (cs := [_, _, _, _, _, _, _]) ty32 rfl rfl (by first | rfl | assumption) (map_get (hag.1 (by omega))) rfl rfl rfl | exact v_load_box_part (cs := [_, _, _, _, _, _, _]) ty32 rfl rfl (by assumption) rfl rfl rfl) rfl rfl ?_)
        refine g_step rfl (s_store_all ty32 rfl rfl rfl rfl rfl rfl ?_)
        refine g_nil ?_
        refine g_keep [0, 1, 2, 9, 10] [6, 8, 11] [6, 8, 11] rfl rfl rfl rfl ?_
        exact g_has ⟨rfl, rfl, rfl, rfl⟩
      · try simp only [decide_eq_true_eq, decide_eq_false_iff_not, Bool.not_eq_true', Bool.not_eq_false', Bool.not_eq_eq_eq_not, Bool.not_true, Bool.not_false, Bool.and_eq_true, Bool.or_eq_true, Bool.or_eq_false_iff, beq_iff_eq, beq_eq_false_iff_ne, ne_eq, Int.not_lt, Int.not_le, Decidable.not_not] at hc25
        refine g_region ?_
        refine g_step rfl (s_val (v_move rfl) rfl rfl ?_)
        refine g_step rfl (s_val (v_move rfl) rfl rfl ?_)
        refine g_step rfl (s_val (v_move rfl) rfl rfl ?_)
        refine g_step rfl (s_val (v_len ty34 rfl (by first | rfl | assumption) (by first | exact List.length_map .. | rfl)) rfl rfl ?_)
        refine g_step rfl (s_val (v_sub_ rfl rfl (by omega)) rfl rfl ?_)
        refine g_step rfl (s_val (v_indexAddr ty34 ty32 rfl rfl (by first | rfl | assumption) (show ((k : Int) - (x.length : Int)) = ((k - x.length : Nat) : Int) by omega) (map_get (hag.2 (by omega))) rfl) rfl rfl ?_)
        refine g_step rfl (s_val (by first | exact v_load_elt ty32 rfl rfl (by first | rfl | assumption) (map_get (hag.2 (by omega))) rfl rfl | exact v_load_box_all ty32 rfl rfl (by assumption) rfl rfl | exact v_load_part (cs := [_, _, _, _, _, _, _]) ty32 rfl rfl (by first | rfl | assumption) (map_get (hag.2 (by omega))) rfl rfl rfl | exact v_load_box_part (cs := [_, _, _, _, _, _, _]) ty32 rfl rfl (by assumption) rfl rfl rfl) rfl rfl ?_)
        refine g_step rfl (s_store_all ty32 rfl rfl rfl rfl rfl rfl ?_)
        refine g_nil ?_
        refine g_keep [0, 1, 2, 9, 10] [6, 8, 11] [6, 8, 11] rfl rfl rfl rfl ?_
        exact g_has ⟨rfl, rfl, rfl, rfl⟩
    · skip
      obtain ⟨rfl, rfl, rfl, rfl⟩ := hI
      refine g_seq (fun K10 hK10 => ?_)
      refine g_region ?_
      refine g_step rfl (s_fieldAddr ty32 fo32_0 ty3 rfl rfl ?_)
      refine g_step rfl (s_val (v_loadl ty3 rfl rfl rfl rfl) rfl rfl ?_)
      refine g_step rfl (s_val (v_move rfl) rfl rfl ?_)
      refine g_step rfl (s_val (v_eql rfl rfl) rfl rfl ?_)
      refine g_nil ?_
      refine g_next hK10 ?_
      refine g_cond rfl (fun hc40 => ?_) (fun hc40 => ?_)
      · try simp only [decide_eq_true_eq, decide_eq_false_iff_not, Bool.not_eq_true', Bool.not_eq_false', Bool.not_eq_eq_eq_not, Bool.not_true, Bool.not_false, Bool.and_eq_true, Bool.or_eq_true, Bool.or_eq_false_iff, beq_iff_eq, beq_eq_false_iff_ne, ne_eq, Int.not_lt, Int.not_le, Decidable.not_not] at hc40
        refine g_seq (fun K11 hK11 => ?_)
        refine g_seq (fun K12 hK12 => ?_)
        refine g_region ?_
        refine g_step rfl (s_val (v_move rfl) rfl rfl ?_)
        refine g_nil ?_
        refine g_next hK12 ?_
        refine g_cond rfl (fun hc41 => ?_) (fun hc41 => ?_)
        · try simp only [decide_eq_true_eq, decide_eq_false_iff_not, Bool.not_eq_true', Bool.not_eq_false', Bool.not_eq_eq_eq_not, Bool.not_true, Bool.not_false, Bool.and_eq_true, Bool.or_eq_true, Bool.or_eq_false_iff, beq_iff_eq, beq_eq_false_iff_ne, ne_eq, Int.not_lt, Int.not_le, Decidable.not_not] at hc41
          obtain ⟨oa, hoa⟩ := Option.isSome_iff_exists.1 hc41
          refine g_region ?_
          refine g_step rfl (s_val (by first | exact v_loadl_all ty32 rfl rfl rfl rfl rfl | exact v_loadl_part (cs := [_, _, _, _, _, _, _]) ty32 rfl rfl rfl rfl rfl rfl) rfl rfl ?_)
          refine g_step rfl (s_val (by first | exact v_loadl_all ty32 rfl rfl rfl rfl rfl | exact v_loadl_part (cs := [_, _, _, _, _, _, _]) ty32 rfl rfl rfl rfl rfl rfl) rfl rfl ?_)
          refine g_step rfl (s_callp rfl rfl rfl (join09_ok (o.getD rzero) z _ hos hzs) ?_)
          rintro _ rfl
          refine g_step rfl (s_store_all ty32 rfl rfl rfl rfl rfl rfl ?_)
          refine g_nil ?_
          refine g_next hK11 ?_
          refine g_region ?_
          refine g_step rfl (s_val (v_assign rfl) rfl rfl ?_)
          refine g_nil ?_
          refine g_block_normal ?_
          refine g_next hK7 ?_
          refine g_region ?_
          refine g_step rfl (s_val (v_move rfl) rfl rfl ?_)
          refine g_step rfl (s_val (v_add rfl rfl (by omega)) rfl rfl ?_)
          refine g_step rfl (s_val (v_assign rfl) rfl rfl ?_)
          refine g_nil ?_
          refine g_keep [0, 1, 2, 9, 10] [6, 8] [6, 8] rfl rfl rfl rfl ?_
          first | exact g_round _ (by omega) ⟨k + 1, (some (jn (o.getD rzero) z)), by omega, rfl, rfl, rfl, rfl, rfl, by rw [hsn, if_pos (by omega), ← hc, hoa]; rfl⟩ | exact g_round _ (by omega) ⟨k + 1, (some z), by omega, rfl, rfl, rfl, rfl, rfl, by rw [hsn, if_pos (by omega), ← hc, hon]; rfl⟩ | exact g_round _ (by omega) ⟨k + 1, o, by omega, rfl, rfl, rfl, rfl, rfl, by rw [hsn, if_neg (by omega)]; exact hc⟩
        · try simp only [decide_eq_true_eq, decide_eq_false_iff_not, Bool.not_eq_true', Bool.not_eq_false', Bool.not_eq_eq_eq_not, Bool.not_true, Bool.not_false, Bool.and_eq_true, Bool.or_eq_true, Bool.or_eq_false_iff, beq_iff_eq, beq_eq_false_iff_ne, ne_eq, Int.not_lt, Int.not_le, Decidable.not_not] at hc41
          have hon : o = none := by cases ho : o <;> simp_all
          refine g_region ?_
          refine g_step rfl (s_val (by first | exact v_loadl_all ty32 rfl rfl rfl rfl rfl | exact v_loadl_part (cs := [_, _, _, _, _, _, _]) ty32 rfl rfl rfl rfl rfl rfl) rfl rfl ?_)
          refine g_step rfl (s_store_all ty32 rfl rfl rfl rfl rfl rfl ?_)
          refine g_nil ?_
          refine g_next hK11 ?_
          refine g_region ?_
          refine g_step rfl (s_val (v_assign rfl) rfl rfl ?_)
          refine g_nil ?_
          refine g_block_normal ?_
          refine g_next hK7 ?_
          refine g_region ?_
          refine g_step rfl (s_val (v_move rfl) rfl rfl ?_)
          refine g_step rfl (s_val (v_add rfl rfl (by omega)) rfl rfl ?_)
          refine g_step rfl (s_val (v_assign rfl) rfl rfl ?_)
          refine g_nil ?_
          refine g_keep [0, 1, 2, 9, 10] [6, 8] [6, 8] rfl rfl rfl rfl ?_
          first | exact g_round _ (by omega) ⟨k + 1, (some (jn (o.getD rzero) z)), by omega, rfl, rfl, rfl, rfl, rfl, by rw [hsn, if_pos (by omega), ← hc, hoa]; rfl⟩ | exact g_round _ (by omega) ⟨k + 1, (some z), by omega, rfl, rfl, rfl, rfl, rfl, by rw [hsn, if_pos (by omega), ← hc, hon]; rfl⟩ | exact g_round _ (by omega) ⟨k + 1, o, by omega, rfl, rfl, rfl, rfl, rfl, by rw [hsn, if_neg (by omega)]; exact hc⟩
      · try simp only [decide_eq_true_eq, decide_eq_false_iff_not, Bool.not_eq_true', Bool.not_eq_false', Bool.not_eq_eq_eq_not, Bool.not_true, Bool.not_false, Bool.and_eq_true, Bool.or_eq_true, Bool.or_eq_false_iff, beq_iff_eq, beq_eq_false_iff_ne, ne_eq, Int.not_lt, Int.not_le, Decidable.not_not] at hc40
        refine g_skip ?_
        refine g_block_normal ?_
        refine g_next hK7 ?_
        refine g_region ?_
        refine g_step rfl (s_val (v_move rfl) rfl rfl ?_)
        refine g_step rfl (s_val (v_add rfl rfl (by omega)) rfl rfl ?_)
        refine g_step rfl (s_val (v_assign rfl) rfl rfl ?_)
        refine g_nil ?_
        refine g_keep [0, 1, 2, 9, 10] [6, 8] [6, 8] rfl rfl rfl rfl ?_
        first | exact g_round _ (by omega) ⟨k + 1, (some (jn (o.getD rzero) z)), by omega, rfl, rfl, rfl, rfl, rfl, by rw [hsn, if_pos (by omega), ← hc, hoa]; rfl⟩ | exact g_round _ (by omega) ⟨k + 1, (some z), by omega, rfl, rfl, rfl, rfl, rfl, by rw [hsn, if_pos (by omega), ← hc, hon]; rfl⟩ | exact g_round _ (by omega) ⟨k + 1, o, by omega, rfl, rfl, rfl, rfl, rfl, by rw [hsn, if_neg (by omega)]; exact hc⟩
  · try simp only [decide_eq_true_eq, decide_eq_false_iff_not, Bool.not_eq_true', Bool.not_eq_false', Bool.not_eq_eq_eq_not, Bool.not_true, Bool.not_false, Bool.and_eq_true, Bool.or_eq_true, Bool.or_eq_false_iff, beq_iff_eq, beq_eq_false_iff_ne, ne_eq, Int.not_lt, Int.not_le, Decidable.not_not] at hc18
    obtain rfl : k = (x ++ y).length := by omega
    rw [List.take_length] at hc
    refine g_exit ?_
    refine g_then_exit ?_
    refine g_then_exit ?_
    refine g_block_same ?_
    refine g_next hK3 ?_
    refine g_seq (fun K13 hK13 => ?_)
    refine g_region ?_
    refine g_step rfl (s_val (by first | exact v_loadl_all ty32 rfl rfl rfl rfl rfl | exact v_loadl_part (cs := [_, _, _, _, _, _, _]) ty32 rfl rfl rfl rfl rfl rfl) rfl rfl ?_)
    refine g_step rfl (s_val (v_move rfl) rfl rfl ?_)
    refine g_step rfl (s_store_all ty32 rfl rfl rfl rfl rfl rfl ?_)
    refine g_step rfl (s_val (v_assign rfl) rfl rfl ?_)
    refine g_nil ?_
    refine g_next hK13 ?_
    refine g_ret ?_
    refine g_end2 (.inl rfl) Try.results55 (.agg ty32 rfl rfl rfl rfl rfl) (.tmp rfl) [] (ASub.refl _) (AHeap.sub_refl _) (fun p hp => by cases hp) ⟨rfl, ?_⟩
    first | (rw [hc]; done) | (rw [hc]; rfl)

theorem latticeMerges_ok (x y : List Rc) (G : AHeap) (hhx : ∀ r ∈ x, Held r.bag) (hhy : ∀ r ∈ y, Held r.bag) (hlx : x.length ≤ 140737488351232) (hly : y.length ≤ 140737488351232) : PCalls Try.prog 13 [encRs x, encRs y] G (fun v => v = .bool true) := by
  refine LCalls.intro 118 fi13 rfl Try.ntmps13 rfl (fun _ h => h.elim) (fun H hH w0 hw0 => ?_)
  have hlen : (x ++ y).length = x.length + y.length := List.length_append
  refine g_seq (fun K0 hK0 => ?_)
  refine g_region ?_
  refine g_step rfl (s_val (v_assign rfl) rfl rfl ?_)
  refine g_nil ?_
  refine g_next hK0 ?_
  refine g_seq (fun K1 hK1 => ?_)
  refine g_seq (fun K2 hK2 => ?_)
  refine g_region ?_
  refine g_step rfl (s_val (v_move rfl) rfl rfl ?_)
  refine g_step rfl (s_callp rfl rfl rfl (fewL_ok x _ _ rfl hhx hlx) ?_)
  rintro _ rfl
  refine g_step rfl (s_val (v_not rfl) rfl rfl ?_)
  refine g_step rfl (s_val (v_move rfl) rfl rfl ?_)
  refine g_split 17 rfl (fun hg17 => ?_) (fun hg17 => ?_)
  · try simp only [decide_eq_true_eq, decide_eq_false_iff_not, Bool.not_eq_true', Bool.not_eq_false', Bool.not_eq_eq_eq_not, Bool.not_true, Bool.not_false, Bool.and_eq_true, Bool.or_eq_true, Bool.or_eq_false_iff, beq_iff_eq, beq_eq_false_iff_ne, ne_eq, Int.not_lt, Int.not_le, Decidable.not_not] at hg17
    refine g_step_no (j := 3) (t := 17) rfl rfl rfl rfl rfl rfl rfl ?_
    refine g_step_no (j := 3) (t := 17) rfl rfl rfl rfl rfl rfl rfl ?_
    refine g_step_no (j := 3) (t := 17) rfl rfl rfl rfl rfl rfl rfl ?_
    refine g_step rfl (s_val (v_pick_t rfl rfl) rfl rfl ?_)
    refine g_nil ?_
    refine g_next hK2 ?_
    refine g_cond rfl (fun _ => ?_) (fun h => by cases h)
    refine g_seq (fun K3 hK3 => ?_)
    refine g_region ?_
    refine g_step rfl (s_callp rfl rfl rfl (awake09_ok _) ?_)
    rintro _ rfl
    refine g_step rfl (s_val (v_assign rfl) rfl rfl ?_)
    refine g_nil ?_
    refine g_next hK3 ?_
    refine g_ret ?_
    refine g_then_ret ?_
    refine g_end1 (.inl rfl) Try.results13 (.tmp rfl) [] (ASub.refl _) (AHeap.sub_refl _) (fun p hp => by cases hp) ⟨rfl, ?_⟩
    rfl
  · try simp only [decide_eq_true_eq, decide_eq_false_iff_not, Bool.not_eq_true', Bool.not_eq_false', Bool.not_eq_eq_eq_not, Bool.not_true, Bool.not_false, Bool.and_eq_true, Bool.or_eq_true, Bool.or_eq_false_iff, beq_iff_eq, beq_eq_false_iff_ne, ne_eq, Int.not_lt, Int.not_le, Decidable.not_not] at hg17
    refine g_step_yes (j := 3) (t := 17) rfl rfl rfl rfl (s_val (v_move rfl) rfl rfl ?_)
    refine g_step_yes (j := 3) (t := 17) rfl rfl rfl rfl (s_callp rfl rfl rfl (fewL_ok y _ _ rfl hhy hly) ?_)
    rintro _ rfl
    refine g_step_yes (j := 3) (t := 17) rfl rfl rfl rfl (s_val (v_not rfl) rfl rfl ?_)
    refine g_step rfl (s_val (v_pick_f rfl rfl) rfl rfl ?_)
    refine g_nil ?_
    refine g_next hK2 ?_
    refine g_cond rfl (fun hc21 => ?_) (fun hc21 => ?_)
    · try simp only [decide_eq_true_eq, decide_eq_false_iff_not, Bool.not_eq_true', Bool.not_eq_false', Bool.not_eq_eq_eq_not, Bool.not_true, Bool.not_false, Bool.and_eq_true, Bool.or_eq_true, Bool.or_eq_false_iff, beq_iff_eq, beq_eq_false_iff_ne, ne_eq, Int.not_lt, Int.not_le, Decidable.not_not] at hc21
      refine g_seq (fun K4 hK4 => ?_)
      refine g_region ?_
      refine g_step rfl (s_callp rfl rfl rfl (awake09_ok _) ?_)
      rintro _ rfl
      refine g_step rfl (s_val (v_assign rfl) rfl rfl ?_)
      refine g_nil ?_
      refine g_next hK4 ?_
      refine g_ret ?_
      refine g_then_ret ?_
      refine g_end1 (.inl rfl) Try.results13 (.tmp rfl) [] (ASub.refl _) (AHeap.sub_refl _) (fun p hp => by cases hp) ⟨rfl, ?_⟩
      rfl
    · try simp only [decide_eq_true_eq, decide_eq_false_iff_not, Bool.not_eq_true', Bool.not_eq_false', Bool.not_eq_eq_eq_not, Bool.not_true, Bool.not_false, Bool.and_eq_true, Bool.or_eq_true, Bool.or_eq_false_iff, beq_iff_eq, beq_eq_false_iff_ne, ne_eq, Int.not_lt, Int.not_le, Decidable.not_not] at hc21
      have hf : fewL x = true ∧ fewL y = true := by first | exact ⟨by assumption, by assumption⟩ | simp_all
      obtain ⟨hx20, hsx⟩ := fewL_small hf.1
      obtain ⟨hy20, hsy⟩ := fewL_small hf.2
      have hsm2 : ∀ l ∈ [x, y], ∀ r ∈ l, Small r.bag := by intro l hl; simp at hl; rcases hl with rfl | rfl <;> assumption
      have hfl : [x, y].flatten = x ++ y := by simp
      refine g_skip ?_
      refine g_next hK1 ?_
      refine g_seq (fun K5 hK5 => ?_)
      refine g_region ?_
      refine g_step rfl (s_val (v_move rfl) rfl rfl ?_)
      refine g_step rfl (s_val (v_move rfl) rfl rfl ?_)
      refine g_step rfl (s_lit ty79 ty34 rfl rfl rfl rfl rfl rfl rfl ?_)
      refine g_step rfl (s_callp rfl rfl rfl (merge_ok [x, y] _ (by simp; omega) (by simp) hsm2) ?_)
      rintro _ rfl
      refine g_step rfl (s_val (v_move rfl) rfl rfl ?_)
      refine g_step rfl (s_val (v_extract rfl rfl) rfl rfl ?_)
      refine g_step rfl (s_val (v_extract rfl rfl) rfl rfl ?_)
      refine g_step rfl (s_val (v_assign rfl) rfl rfl ?_)
      refine g_step rfl (s_val (v_assign rfl) rfl rfl ?_)
      refine g_nil ?_
      refine g_next hK5 ?_
      refine g_seq (fun K6 hK6 => ?_)
      refine g_seq (fun K7 hK7 => ?_)
      refine g_region ?_
      refine g_step rfl (s_val (v_move rfl) rfl rfl ?_)
      refine g_step rfl (s_callp rfl rfl rfl (sorted_ok x _ (by omega) hsx) ?_)
      rintro _ rfl
      refine g_step rfl (s_val (v_not rfl) rfl rfl ?_)
      refine g_step rfl (s_val (v_move rfl) rfl rfl ?_)
      refine g_split 33 rfl (fun hg33 => ?_) (fun hg33 => ?_)
      · try simp only [decide_eq_true_eq, decide_eq_false_iff_not, Bool.not_eq_true', Bool.not_eq_false', Bool.not_eq_eq_eq_not, Bool.not_true, Bool.not_false, Bool.and_eq_true, Bool.or_eq_true, Bool.or_eq_false_iff, beq_iff_eq, beq_eq_false_iff_ne, ne_eq, Int.not_lt, Int.not_le, Decidable.not_not] at hg33
        refine g_step_no (j := 3) (t := 33) rfl rfl rfl rfl rfl rfl rfl ?_
        refine g_step_no (j := 3) (t := 33) rfl rfl rfl rfl rfl rfl rfl ?_
        refine g_step_no (j := 3) (t := 33) rfl rfl rfl rfl rfl rfl rfl ?_
        refine g_step rfl (s_val (v_pick_t rfl rfl) rfl rfl ?_)
        refine g_nil ?_
        refine g_next hK7 ?_
        refine g_keep [0, 1, 5, 6, 37] [] [] rfl rfl rfl rfl ?_
        refine g_cond rfl (fun _ => ?_) (fun h => by cases h)
        refine g_seq (fun K8 hK8 => ?_)
        refine g_region ?_
        have hm : mergeAll [x, y] = ([], false) := by rw [mergeAll, if_neg (by simp_all)]
        refine g_step rfl (s_val (v_move rfl) rfl rfl ?_)
        refine g_step rfl (s_val (v_not rfl) rfl rfl ?_)
        refine g_step rfl (s_val (v_move rfl) rfl rfl ?_)
        refine g_split 40 rfl (fun hg40 => ?_) (fun hg40 => ?_)
        · try simp only [decide_eq_true_eq, decide_eq_false_iff_not, Bool.not_eq_true', Bool.not_eq_false', Bool.not_eq_eq_eq_not, Bool.not_true, Bool.not_false, Bool.and_eq_true, Bool.or_eq_true, Bool.or_eq_false_iff, beq_iff_eq, beq_eq_false_iff_ne, ne_eq, Int.not_lt, Int.not_le, Decidable.not_not] at hg40
          refine g_step_yes (j := 2) (t := 40) rfl rfl rfl rfl (s_val (v_move rfl) rfl rfl ?_)
          refine g_step_yes (j := 2) (t := 40) rfl rfl rfl rfl (s_val (v_len ty34 rfl (by first | rfl | assumption) (by first | exact List.length_map .. | rfl)) rfl rfl ?_)
          refine g_step_yes (j := 2) (t := 40) rfl rfl rfl rfl (s_val (v_eql rfl rfl) rfl rfl ?_)
          refine g_step rfl (s_val (v_pick_t rfl rfl) rfl rfl ?_)
          refine g_step rfl (s_val (v_move rfl) rfl rfl ?_)
          refine g_split 45 rfl (fun hg45 => ?_) (fun hg45 => ?_)
          · try simp only [decide_eq_true_eq, decide_eq_false_iff_not, Bool.not_eq_true', Bool.not_eq_false', Bool.not_eq_eq_eq_not, Bool.not_true, Bool.not_false, Bool.and_eq_true, Bool.or_eq_true, Bool.or_eq_false_iff, beq_iff_eq, beq_eq_false_iff_ne, ne_eq, Int.not_lt, Int.not_le, Decidable.not_not] at hg45
            refine g_step_yes (j := 7) (t := 45) rfl rfl rfl rfl (s_callp rfl rfl rfl (awake09_ok _) ?_)
            rintro _ rfl
            refine g_step rfl (s_val (v_pick_t rfl rfl) rfl rfl ?_)
            refine g_step rfl (s_val (v_assign rfl) rfl rfl ?_)
            refine g_nil ?_
            refine g_next hK8 ?_
            refine g_ret ?_
            refine g_then_ret ?_
            refine g_end1 (.inl rfl) Try.results13 (.tmp rfl) [] (ASub.refl _) (AHeap.sub_refl _) (fun p hp => by cases hp) ⟨rfl, ?_⟩
            rfl
          · exfalso; (try simp only [decide_eq_true_eq, decide_eq_false_iff_not, Bool.not_eq_true', Bool.not_eq_false', Bool.not_eq_eq_eq_not, Bool.not_true, Bool.not_false, Bool.and_eq_true, Bool.or_eq_true, Bool.or_eq_false_iff, beq_iff_eq, beq_eq_false_iff_ne, ne_eq, Int.not_lt, Int.not_le, Decidable.not_not] at hg45); simp [hm] at hg45
        · exfalso; (try simp only [decide_eq_true_eq, decide_eq_false_iff_not, Bool.not_eq_true', Bool.not_eq_false', Bool.not_eq_eq_eq_not, Bool.not_true, Bool.not_false, Bool.and_eq_true, Bool.or_eq_true, Bool.or_eq_false_iff, beq_iff_eq, beq_eq_false_iff_ne, ne_eq, Int.not_lt, Int.not_le, Decidable.not_not] at hg40); simp [hm] at hg40
      · try simp only [decide_eq_true_eq, decide_eq_false_iff_not, Bool.not_eq_true', Bool.not_eq_false', Bool.not_eq_eq_eq_not, Bool.not_true, Bool.not_false, Bool.and_eq_true, Bool.or_eq_true, Bool.or_eq_false_iff, beq_iff_eq, beq_eq_false_iff_ne, ne_eq, Int.not_lt, Int.not_le, Decidable.not_not] at hg33
        refine g_step_yes (j := 3) (t := 33) rfl rfl rfl rfl (s_val (v_move rfl) rfl rfl ?_)
        refine g_step_yes (j := 3) (t := 33) rfl rfl rfl rfl (s_callp rfl rfl rfl (sorted_ok y _ (by omega) hsy) ?_)
        rintro _ rfl
        refine g_step_yes (j := 3) (t := 33) rfl rfl rfl rfl (s_val (v_not rfl) rfl rfl ?_)
        refine g_step rfl (s_val (v_pick_f rfl rfl) rfl rfl ?_)
        refine g_nil ?_
        refine g_next hK7 ?_
        refine g_keep [0, 1, 5, 6, 37] [] [] rfl rfl rfl rfl ?_
        refine g_cond rfl (fun hc37 => ?_) (fun hc37 => ?_)
        · try simp only [decide_eq_true_eq, decide_eq_false_iff_not, Bool.not_eq_true', Bool.not_eq_false', Bool.not_eq_eq_eq_not, Bool.not_true, Bool.not_false, Bool.and_eq_true, Bool.or_eq_true, Bool.or_eq_false_iff, beq_iff_eq, beq_eq_false_iff_ne, ne_eq, Int.not_lt, Int.not_le, Decidable.not_not] at hc37
          refine g_seq (fun K9 hK9 => ?_)
          refine g_region ?_
          have hm : mergeAll [x, y] = ([], false) := by rw [mergeAll, if_neg (by simp_all)]
          refine g_step rfl (s_val (v_move rfl) rfl rfl ?_)
          refine g_step rfl (s_val (v_not rfl) rfl rfl ?_)
          refine g_step rfl (s_val (v_move rfl) rfl rfl ?_)
          refine g_split 40 rfl (fun hg40 => ?_) (fun hg40 => ?_)
          · try simp only [decide_eq_true_eq, decide_eq_false_iff_not, Bool.not_eq_true', Bool.not_eq_false', Bool.not_eq_eq_eq_not, Bool.not_true, Bool.not_false, Bool.and_eq_true, Bool.or_eq_true, Bool.or_eq_false_iff, beq_iff_eq, beq_eq_false_iff_ne, ne_eq, Int.not_lt, Int.not_le, Decidable.not_not] at hg40
            refine g_step_yes (j := 2) (t := 40) rfl rfl rfl rfl (s_val (v_move rfl) rfl rfl ?_)
            refine g_step_yes (j := 2) (t := 40) rfl rfl rfl rfl (s_val (v_len ty34 rfl (by first | rfl | assumption) (by first | exact List.length_map .. | rfl)) rfl rfl ?_)
            refine g_step_yes (j := 2) (t := 40) rfl rfl rfl rfl (s_val (v_eql rfl rfl) rfl rfl ?_)
            refine g_step rfl (s_val (v_pick_t rfl rfl) rfl rfl ?_)
            refine g_step rfl (s_val (v_move rfl) rfl rfl ?_)
            refine g_split 45 rfl (fun hg45 => ?_) (fun hg45 => ?_)
            · try simp only [decide_eq_true_eq, decide_eq_false_iff_not, Bool.not_eq_true', Bool.not_eq_false', Bool.not_eq_eq_eq_not, Bool.not_true, Bool.not_false, Bool.and_eq_true, Bool.or_eq_true, Bool.or_eq_false_iff, beq_iff_eq, beq_eq_false_iff_ne, ne_eq, Int.not_lt, Int.not_le, Decidable.not_not] at hg45
              refine g_step_yes (j := 7) (t := 45) rfl rfl rfl rfl (s_callp rfl rfl rfl (awake09_ok _) ?_)
              rintro _ rfl
              refine g_step rfl (s_val (v_pick_t rfl rfl) rfl rfl ?_)
              refine g_step rfl (s_val (v_assign rfl) rfl rfl ?_)
              refine g_nil ?_
              refine g_next hK9 ?_
              refine g_ret ?_
              refine g_then_ret ?_
              refine g_end1 (.inl rfl) Try.results13 (.tmp rfl) [] (ASub.refl _) (AHeap.sub_refl _) (fun p hp => by cases hp) ⟨rfl, ?_⟩
              rfl
            · exfalso; (try simp only [decide_eq_true_eq, decide_eq_false_iff_not, Bool.not_eq_true', Bool.not_eq_false', Bool.not_eq_eq_eq_not, Bool.not_true, Bool.not_false, Bool.and_eq_true, Bool.or_eq_true, Bool.or_eq_false_iff, beq_iff_eq, beq_eq_false_iff_ne, ne_eq, Int.not_lt, Int.not_le, Decidable.not_not] at hg45); simp [hm] at hg45
          · exfalso; (try simp only [decide_eq_true_eq, decide_eq_false_iff_not, Bool.not_eq_true', Bool.not_eq_false', Bool.not_eq_eq_eq_not, Bool.not_true, Bool.not_false, Bool.and_eq_true, Bool.or_eq_true, Bool.or_eq_false_iff, beq_iff_eq, beq_eq_false_iff_ne, ne_eq, Int.not_lt, Int.not_le, Decidable.not_not] at hg40); simp [hm] at hg40
        · try simp only [decide_eq_true_eq, decide_eq_false_iff_not, Bool.not_eq_true', Bool.not_eq_false', Bool.not_eq_eq_eq_not, Bool.not_true, Bool.not_false, Bool.and_eq_true, Bool.or_eq_true, Bool.or_eq_false_iff, beq_iff_eq, beq_eq_false_iff_ne, ne_eq, Int.not_lt, Int.not_le, Decidable.not_not] at hc37
          have hs : srt x = true ∧ srt y = true := by first | exact ⟨by assumption, by assumption⟩ | simp_all
          have hsa : [x, y].all srt = true := by simp [hs]
          have hm1 : (mergeAll [x, y]).1 = mergeL (x ++ y) := by rw [mergeAll, if_pos hsa, hfl]
          have hm2 : (mergeAll [x, y]).2 = true := by rw [mergeAll, if_pos hsa]
          have hML : (mergeAll [x, y]).1.length ≤ 40 := by rw [hm1]; have := mergeL_length (x ++ y); rw [List.length_append] at this; omega
          have hMs : ∀ r ∈ (mergeAll [x, y]).1, Small r.bag := by rw [hm1]; exact mergeL_small (fun r hr => by rcases List.mem_append.1 hr with h | h; exact hsx r h; exact hsy r h)
          have hsr : srt (mergeAll [x, y]).1 = true := by rw [hm1, ← hfl]; exact merge_srt hsa
          refine g_skip ?_
          refine g_next hK6 ?_
          refine g_seq (fun K10 hK10 => ?_)
          refine g_seq (fun K11 hK11 => ?_)
          refine g_region ?_
          refine g_step rfl (s_val (v_move rfl) rfl rfl ?_)
          refine g_step rfl (s_val (v_not rfl) rfl rfl ?_)
          refine g_step rfl (s_val (v_move rfl) rfl rfl ?_)
          refine g_split 50 rfl (fun hg50 => ?_) (fun hg50 => ?_)
          · exfalso; (try simp only [decide_eq_true_eq, decide_eq_false_iff_not, Bool.not_eq_true', Bool.not_eq_false', Bool.not_eq_eq_eq_not, Bool.not_true, Bool.not_false, Bool.and_eq_true, Bool.or_eq_true, Bool.or_eq_false_iff, beq_iff_eq, beq_eq_false_iff_ne, ne_eq, Int.not_lt, Int.not_le, Decidable.not_not] at hg50); simp [hm2] at hg50
          · try simp only [decide_eq_true_eq, decide_eq_false_iff_not, Bool.not_eq_true', Bool.not_eq_false', Bool.not_eq_eq_eq_not, Bool.not_true, Bool.not_false, Bool.and_eq_true, Bool.or_eq_true, Bool.or_eq_false_iff, beq_iff_eq, beq_eq_false_iff_ne, ne_eq, Int.not_lt, Int.not_le, Decidable.not_not] at hg50
            refine g_step_yes (j := 2) (t := 50) rfl rfl rfl rfl (s_val (v_move rfl) rfl rfl ?_)
            refine g_step_yes (j := 2) (t := 50) rfl rfl rfl rfl (s_callp rfl rfl rfl (sorted_ok (mergeAll [x, y]).1 _ (by omega) hMs) ?_)
            rintro _ rfl
            refine g_step_yes (j := 2) (t := 50) rfl rfl rfl rfl (s_val (v_not rfl) rfl rfl ?_)
            refine g_step rfl (s_val (v_pick_f rfl rfl) rfl rfl ?_)
            refine g_nil ?_
            refine g_next hK11 ?_
            refine g_cond rfl (fun hc54 => ?_) (fun hc54 => ?_)
            · exfalso; (try simp only [decide_eq_true_eq, decide_eq_false_iff_not, Bool.not_eq_true', Bool.not_eq_false', Bool.not_eq_eq_eq_not, Bool.not_true, Bool.not_false, Bool.and_eq_true, Bool.or_eq_true, Bool.or_eq_false_iff, beq_iff_eq, beq_eq_false_iff_ne, ne_eq, Int.not_lt, Int.not_le, Decidable.not_not] at hc54); simp [hsr] at hc54
            · try simp only [decide_eq_true_eq, decide_eq_false_iff_not, Bool.not_eq_true', Bool.not_eq_false', Bool.not_eq_eq_eq_not, Bool.not_true, Bool.not_false, Bool.and_eq_true, Bool.or_eq_true, Bool.or_eq_false_iff, beq_iff_eq, beq_eq_false_iff_ne, ne_eq, Int.not_lt, Int.not_le, Decidable.not_not] at hc54
              refine g_skip ?_
              refine g_next hK10 ?_
              refine g_seq (fun K12 hK12 => ?_)
              refine g_seq (fun K13 hK13 => ?_)
              refine g_region ?_
              refine g_step rfl (s_val (v_assign rfl) rfl rfl ?_)
              refine g_nil ?_
              refine g_next hK13 ?_
              refine g_block ?_
              refine g_keep [0, 1, 5, 7] [] [] rfl rfl rfl rfl ?_
              refine g_loop (fun n env L B G => ∃ (k : Nat) , k ≤ (mergeAll [x, y]).1.length ∧ n = (mergeAll [x, y]).1.length - k ∧ env = [(0, encRs x), (1, encRs y), (5, (encRs (mergeAll [x, y]).1)), (7, .int .i64 (k : Int))] ∧ L = [] ∧ B = [] ∧ H = G) ((mergeAll [x, y]).1.length) ⟨0, Nat.zero_le _, rfl, rfl, rfl, rfl, rfl⟩ (fun n env L B G hI => ?_)
              obtain ⟨k, hk, rfl, rfl, rfl, rfl, rfl⟩ := hI
              refine g_seq (fun K14 hK14 => ?_)
              refine g_seq (fun K15 hK15 => ?_)
              refine g_region ?_
              refine g_step rfl (s_val (v_move rfl) rfl rfl ?_)
              refine g_step rfl (s_val (v_move rfl) rfl rfl ?_)
              refine g_step rfl (s_val (v_len ty34 rfl (by first | rfl | assumption) (by first | exact List.length_map .. | rfl)) rfl rfl ?_)
              refine g_step rfl (s_val (v_lss rfl rfl) rfl rfl ?_)
              refine g_nil ?_
              refine g_next hK15 ?_
              refine g_cond rfl (fun hc58 => ?_) (fun hc58 => ?_)
              · try simp only [decide_eq_true_eq, decide_eq_false_iff_not, Bool.not_eq_true', Bool.not_eq_false', Bool.not_eq_eq_eq_not, Bool.not_true, Bool.not_false, Bool.and_eq_true, Bool.or_eq_true, Bool.or_eq_false_iff, beq_iff_eq, beq_eq_false_iff_ne, ne_eq, Int.not_lt, Int.not_le, Decidable.not_not] at hc58
                obtain ⟨z, hz⟩ := get_some (l := (mergeAll [x, y]).1) (k := k) (by omega)
                have hacc : accId (x ++ y) z.id = some z := mergeL_mem (hm1 ▸ mem_get hz)
                have hzs := hMs z (mem_get hz)
                refine g_skip ?_
                refine g_next hK14 ?_
                refine g_seq (fun K16 hK16 => ?_)
                refine g_block ?_
                refine g_seq (fun K17 hK17 => ?_)
                refine g_region ?_
                refine g_step rfl (s_val (v_move rfl) rfl rfl ?_)
                refine g_step rfl (s_val (v_move rfl) rfl rfl ?_)
                refine g_step rfl (s_val (v_move rfl) rfl rfl ?_)
                refine g_step rfl (s_val (v_move rfl) rfl rfl ?_)
                refine g_step rfl (s_val (v_indexAddr ty34 ty32 rfl rfl (by first | rfl | assumption) (by first | rfl | exact (rfl : (0 : Int) = ((0 : Nat) : Int)) | exact (Int.toNat_of_nonneg (by omega)).symm) (by first | assumption | exact map_get (by assumption) | rfl) rfl) rfl rfl ?_)
                refine g_step rfl (s_val (by first | exact v_fieldAddr ty32 fo32_0 ty3 rfl | exact v_fieldAddr_box ty32 fo32_0 ty3 rfl) rfl rfl ?_)
                refine g_step rfl (s_val (by first | exact v_load ty3 rfl rfl (by first | rfl | assumption) (by first | assumption | exact map_get (by assumption) | rfl) rfl | exact v_load_box ty3 rfl rfl (by assumption) rfl) rfl rfl ?_)
                refine g_step rfl (s_callp rfl rfl rfl (find09_ok x y z.id _ _ _ rfl rfl (by omega) (by omega) hsx hsy) ?_)
                rintro _ rfl
                refine g_step rfl (s_val (v_move rfl) rfl rfl ?_)
                refine g_step rfl (s_val (v_extract rfl rfl) rfl rfl ?_)
                refine g_step rfl (s_val (v_extract rfl rfl) rfl rfl ?_)
                refine g_step rfl (s_alloc (av := (.agg [(.int .i64 0), (.int .i64 0), (.int .i64 0), (.int .i64 0), (.int .i64 0), (.bool false), .nil0])) ty32 rfl rfl rfl rfl ?_)
                refine g_step rfl (s_store_all ty32 rfl rfl rfl rfl rfl rfl ?_)
                refine g_step rfl (s_val (v_assign rfl) rfl rfl ?_)
                refine g_nil ?_
                refine g_next hK17 ?_
                refine g_seq (fun K18 hK18 => ?_)
                refine g_draw (n := 11) (fun j => !([] : List Nat).contains j) rfl rfl ?_
                refine m_take 0 false rfl rfl (by kernel_rfl) (by kernel_rfl) (by kernel_rfl) (fun _ _ _ _ h => h) (v_move rfl) rfl rfl ?_
                refine m_take 1 false rfl rfl (by kernel_rfl) (by kernel_rfl) (by kernel_rfl) (fun _ _ _ _ h => h) (v_not rfl) rfl rfl ?_
                refine m_take 2 false rfl rfl (by kernel_rfl) (by kernel_rfl) (by kernel_rfl) (fun _ _ _ _ h => h) (v_move rfl) rfl rfl ?_
                refine m_split 74 rfl (fun hg74 => ?_) (fun hg74 => ?_)
                · exfalso; (try simp only [decide_eq_true_eq, decide_eq_false_iff_not, Bool.not_eq_true', Bool.not_eq_false', Bool.not_eq_eq_eq_not, Bool.not_true, Bool.not_false, Bool.and_eq_true, Bool.or_eq_true, Bool.or_eq_false_iff, beq_iff_eq, beq_eq_false_iff_ne, ne_eq, Int.not_lt, Int.not_le, Decidable.not_not] at hg74); simp [hacc] at hg74
                · try simp only [decide_eq_true_eq, decide_eq_false_iff_not, Bool.not_eq_true', Bool.not_eq_false', Bool.not_eq_eq_eq_not, Bool.not_true, Bool.not_false, Bool.and_eq_true, Bool.or_eq_true, Bool.or_eq_false_iff, beq_iff_eq, beq_eq_false_iff_ne, ne_eq, Int.not_lt, Int.not_le, Decidable.not_not] at hg74
                  refine m_take_yes (j := 2) (t := 74) 3 false rfl rfl rfl rfl rfl (by kernel_rfl) (by kernel_rfl) (by kernel_rfl) (fun _ _ _ _ h => h) (v_move rfl) rfl rfl ?_
                  refine m_take_yes (j := 2) (t := 74) 4 false rfl rfl rfl rfl rfl (by kernel_rfl) (by kernel_rfl) (by kernel_rfl) (fun _ _ _ _ h => h) (v_move rfl) rfl rfl ?_
                  refine m_take_yes (j := 2) (t := 74) 5 false rfl rfl rfl rfl rfl (by kernel_rfl) (by kernel_rfl) (by kernel_rfl) (fun _ _ _ _ h => h) (v_indexAddr ty34 ty32 rfl rfl (by first | rfl | assumption) (by first | rfl | exact (rfl : (0 : Int) = ((0 : Nat) : Int)) | exact (Int.toNat_of_nonneg (by omega)).symm) (by first | assumption | exact map_get (by assumption) | rfl) rfl) rfl rfl ?_
                  refine m_take_yes (j := 2) (t := 74) 6 true rfl rfl rfl rfl rfl (by kernel_rfl) (by kernel_rfl) (by kernel_rfl) (fun _ _ _ _ h => h) (by first | exact v_load_elt ty32 rfl rfl (by first | rfl | assumption) (by first | assumption | exact map_get (by assumption) | rfl) rfl rfl | exact v_load_box_all ty32 rfl rfl (by assumption) rfl rfl | exact v_load_part (cs := [_, _, _, _, _, _, _]) ty32 rfl rfl (by first | rfl | assumption) (by first | assumption | exact map_get (by assumption) | rfl) rfl rfl rfl | exact v_load_box_part (cs := [_, _, _, _, _, _, _]) ty32 rfl rfl (by assumption) rfl rfl rfl) rfl rfl ?_
                  refine m_take_yes (j := 2) (t := 74) 7 true rfl rfl rfl rfl rfl (by kernel_rfl) (by kernel_rfl) (by kernel_rfl) (fun _ _ _ _ h => h) (by first | exact v_loadl_all ty32 rfl rfl rfl rfl rfl | exact v_loadl_part (cs := [_, _, _, _, _, _, _]) ty32 rfl rfl rfl rfl rfl rfl) rfl rfl ?_
                  refine m_one_yes (j := 2) (t := 74) 8 (by kernel_rfl) rfl rfl rfl rfl rfl ?_
                  refine sm_callp rfl rfl rfl (alike_ok z ((accId (x ++ y) z.id).getD rzero) _ hzs) ?_
                  rintro _ rfl
                  refine m_take_yes (j := 2) (t := 74) 9 false rfl rfl rfl rfl rfl (by kernel_rfl) (by kernel_rfl) (by kernel_rfl) (fun _ _ _ _ h => h) (v_not rfl) rfl rfl ?_
                  refine m_take 10 false rfl rfl (by kernel_rfl) (by kernel_rfl) (by kernel_rfl) (fun _ _ _ _ h => h) (v_pick_f rfl rfl) rfl rfl ?_
                  refine m_done (by kernel_rfl) ?_
                  refine g_next hK18 ?_
                  refine g_keep [0, 1, 5, 7, 75, 76, 77, 78, 79, 80, 81, 82] [] [] rfl rfl rfl rfl ?_
                  refine g_cond rfl (fun hc82 => ?_) (fun hc82 => ?_)
                  · exfalso; (try simp only [decide_eq_true_eq, decide_eq_false_iff_not, Bool.not_eq_true', Bool.not_eq_false', Bool.not_eq_eq_eq_not, Bool.not_true, Bool.not_false, Bool.and_eq_true, Bool.or_eq_true, Bool.or_eq_false_iff, beq_iff_eq, beq_eq_false_iff_ne, ne_eq, Int.not_lt, Int.not_le, Decidable.not_not] at hc82); simp [hacc] at hc82
                  · try simp only [decide_eq_true_eq, decide_eq_false_iff_not, Bool.not_eq_true', Bool.not_eq_false', Bool.not_eq_eq_eq_not, Bool.not_true, Bool.not_false, Bool.and_eq_true, Bool.or_eq_true, Bool.or_eq_false_iff, beq_iff_eq, beq_eq_false_iff_ne, ne_eq, Int.not_lt, Int.not_le, Decidable.not_not] at hc82
                    refine g_skip ?_
                    refine g_block_normal ?_
                    refine g_next hK16 ?_
                    refine g_region ?_
                    refine g_step rfl (s_val (v_move rfl) rfl rfl ?_)
                    refine g_step rfl (s_val (v_add rfl rfl (by omega)) rfl rfl ?_)
                    refine g_step rfl (s_val (v_assign rfl) rfl rfl ?_)
                    refine g_nil ?_
                    refine g_keep [0, 1, 5, 7] [] [] rfl rfl rfl rfl ?_
                    exact g_round _ (by omega) ⟨k + 1, by omega, rfl, rfl, rfl, rfl, rfl⟩
              · try simp only [decide_eq_true_eq, decide_eq_false_iff_not, Bool.not_eq_true', Bool.not_eq_false', Bool.not_eq_eq_eq_not, Bool.not_true, Bool.not_false, Bool.and_eq_true, Bool.or_eq_true, Bool.or_eq_false_iff, beq_iff_eq, beq_eq_false_iff_ne, ne_eq, Int.not_lt, Int.not_le, Decidable.not_not] at hc58
                obtain rfl : k = (mergeAll [x, y]).1.length := by omega
                refine g_exit ?_
                refine g_then_exit ?_
                refine g_then_exit ?_
                refine g_block_same ?_
                refine g_next hK12 ?_
                refine g_seq (fun K19 hK19 => ?_)
                refine g_seq (fun K20 hK20 => ?_)
                refine g_region ?_
                refine g_step rfl (s_val (v_assign rfl) rfl rfl ?_)
                refine g_nil ?_
                refine g_next hK20 ?_
                refine g_block ?_
                refine g_keep [0, 1, 5, 10] [] [] rfl rfl rfl rfl ?_
                refine g_loop (fun n env L B G => ∃ (k : Nat) , k ≤ (x ++ y).length ∧ n = (x ++ y).length - k ∧ env = [(0, encRs x), (1, encRs y), (5, (encRs (mergeAll [x, y]).1)), (10, .int .i64 (k : Int))] ∧ L = [] ∧ B = [] ∧ H = G) ((x ++ y).length) ⟨0, Nat.zero_le _, rfl, rfl, rfl, rfl, rfl⟩ (fun n env L B G hI => ?_)
                obtain ⟨k, hk, rfl, rfl, rfl, rfl, rfl⟩ := hI
                refine g_seq (fun K21 hK21 => ?_)
                refine g_seq (fun K22 hK22 => ?_)
                refine g_region ?_
                refine g_step rfl (s_val (v_move rfl) rfl rfl ?_)
                refine g_step rfl (s_val (v_move rfl) rfl rfl ?_)
                refine g_step rfl (s_val (v_len ty34 rfl (by first | rfl | assumption) (by first | exact List.length_map .. | rfl)) rfl rfl ?_)
                refine g_step rfl (s_val (v_move rfl) rfl rfl ?_)
                refine g_step rfl (s_val (v_len ty34 rfl (by first | rfl | assumption) (by first | exact List.length_map .. | rfl)) rfl rfl ?_)
                refine g_step rfl (s_val (v_add rfl rfl (by omega)) rfl rfl ?_)
                refine g_step rfl (s_val (v_lss rfl rfl) rfl rfl ?_)
                refine g_nil ?_
                refine g_next hK22 ?_
                refine g_cond rfl (fun hc89 => ?_) (fun hc89 => ?_)
                · try simp only [decide_eq_true_eq, decide_eq_false_iff_not, Bool.not_eq_true', Bool.not_eq_false', Bool.not_eq_eq_eq_not, Bool.not_true, Bool.not_false, Bool.and_eq_true, Bool.or_eq_true, Bool.or_eq_false_iff, beq_iff_eq, beq_eq_false_iff_ne, ne_eq, Int.not_lt, Int.not_le, Decidable.not_not] at hc89
                  obtain ⟨z, hz⟩ := get_some (l := (x ++ y)) (k := k) (by omega)
                  have hag := app_get hz
                  have hfi : (rfind (mergeAll [x, y]).1 z.id).2 = true := by rw [hm1]; exact merge_finds (mem_get hz)
                  refine g_skip ?_
                  refine g_next hK21 ?_
                  refine g_seq (fun K23 hK23 => ?_)
                  refine g_block ?_
                  refine g_seq (fun K24 hK24 => ?_)
                  refine g_region ?_
                  refine g_step rfl (s_val (v_assign rfl) rfl rfl ?_)
                  refine g_nil ?_
                  refine g_next hK24 ?_
                  refine g_cut (fun env L B G => env = [(0, encRs x), (1, encRs y), (5, (encRs (mergeAll [x, y]).1)), (10, .int .i64 (k : Int)), (11, .int .i64 z.id)] ∧ L = [] ∧ B = [] ∧ H = G) ?_ (fun env L B G hI => ?_)
                  · skip
                    refine g_seq (fun K25 hK25 => ?_)
                    refine g_region ?_
                    refine g_step rfl (s_val (v_move rfl) rfl rfl ?_)
                    refine g_step rfl (s_val (v_move rfl) rfl rfl ?_)
                    refine g_step rfl (s_val (v_len ty34 rfl (by first | rfl | assumption) (by first | exact List.length_map .. | rfl)) rfl rfl ?_)
                    refine g_step rfl (s_val (v_lss rfl rfl) rfl rfl ?_)
                    refine g_nil ?_
                    refine g_next hK25 ?_
                    refine g_cond rfl (fun hc95 => ?_) (fun hc95 => ?_)
                    · try simp only [decide_eq_true_eq, decide_eq_false_iff_not, Bool.not_eq_true', Bool.not_eq_false', Bool.not_eq_eq_eq_not, Bool.not_true, Bool.not_false, Bool.and_eq_true, Bool.or_eq_true, Bool.or_eq_false_iff, beq_iff_eq, beq_eq_false_iff_ne, ne_eq, Int.not_lt, Int.not_le, Decidable.not_not] at hc95
                      refine g_region ?_
                      refine g_step rfl (s_val (v_move rfl) rfl rfl ?_)
                      refine g_step rfl (s_val (v_move rfl) rfl rfl ?_)
                      refine g_step rfl (s_val (v_indexAddr ty34 ty32 rfl rfl (by first | rfl | assumption) (by first | rfl | exact (rfl : (0 : Int) = ((0 : Nat) : Int)) | exact (Int.toNat_of_nonneg (by omega)).symm) (map_get (hag.1 (by omega))) rfl) rfl rfl ?_)
                      refine g_step rfl (s_val (by first | exact v_fieldAddr ty32 fo32_0 ty3 rfl | exact v_fieldAddr_box ty32 fo32_0 ty3 rfl) rfl rfl ?_)
                      refine g_step rfl (s_val (by first | exact v_load ty3 rfl rfl (by first | rfl | assumption) (map_get (hag.1 (by omega))) rfl | exact v_load_box ty3 rfl rfl (by assumption) rfl) rfl rfl ?_)
                      refine g_step rfl (s_val (v_assign rfl) rfl rfl ?_)
                      refine g_nil ?_
                      refine g_keep [0, 1, 5, 10, 11] [] [] rfl rfl rfl rfl ?_
                      exact g_has ⟨rfl, rfl, rfl, rfl⟩
                    · try simp only [decide_eq_true_eq, decide_eq_false_iff_not, Bool.not_eq_true', Bool.not_eq_false', Bool.not_eq_eq_eq_not, Bool.not_true, Bool.not_false, Bool.and_eq_true, Bool.or_eq_true, Bool.or_eq_false_iff, beq_iff_eq, beq_eq_false_iff_ne, ne_eq, Int.not_lt, Int.not_le, Decidable.not_not] at hc95
                      refine g_region ?_
                      refine g_step rfl (s_val (v_move rfl) rfl rfl ?_)
                      refine g_step rfl (s_val (v_move rfl) rfl rfl ?_)
                      refine g_step rfl (s_val (v_move rfl) rfl rfl ?_)
                      refine g_step rfl (s_val (v_len ty34 rfl (by first | rfl | assumption) (by first | exact List.length_map .. | rfl)) rfl rfl ?_)
                      refine g_step rfl (s_val (v_sub_ rfl rfl (by omega)) rfl rfl ?_)
                      refine g_step rfl (s_val (v_indexAddr ty34 ty32 rfl rfl (by first | rfl | assumption) (show ((k : Int) - (x.length : Int)) = ((k - x.length : Nat) : Int) by omega) (map_get (hag.2 (by omega))) rfl) rfl rfl ?_)
                      refine g_step rfl (s_val (by first | exact v_fieldAddr ty32 fo32_0 ty3 rfl | exact v_fieldAddr_box ty32 fo32_0 ty3 rfl) rfl rfl ?_)
                      refine g_step rfl (s_val (by first | exact v_load ty3 rfl rfl (by first | rfl | assumption) (map_get (hag.2 (by omega))) rfl | exact v_load_box ty3 rfl rfl (by assumption) rfl) rfl rfl ?_)
                      refine g_step rfl (s_val (v_assign rfl) rfl rfl ?_)
                      refine g_nil ?_
                      refine g_keep [0, 1, 5, 10, 11] [] [] rfl rfl rfl rfl ?_
                      exact g_has ⟨rfl, rfl, rfl, rfl⟩
                  · skip
                    obtain ⟨rfl, rfl, rfl, rfl⟩ := hI
                    refine g_seq (fun K26 hK26 => ?_)
                    refine g_region ?_
                    refine g_step rfl (s_val (v_move rfl) rfl rfl ?_)
                    refine g_step rfl (s_val (v_move rfl) rfl rfl ?_)
                    refine g_step rfl (s_callp rfl rfl rfl (find_ok (mergeAll [x, y]).1 z.id _ _ rfl (by omega) hMs) ?_)
                    rintro _ rfl
                    refine g_step rfl (s_val (v_move rfl) rfl rfl ?_)
                    refine g_step rfl (s_val (v_extract rfl rfl) rfl rfl ?_)
                    refine g_step rfl (s_val (v_extract rfl rfl) rfl rfl ?_)
                    refine g_step rfl (s_alloc (av := (.agg [(.int .i64 0), (.int .i64 0), (.int .i64 0), (.int .i64 0), (.int .i64 0), (.bool false), .nil0])) ty32 rfl rfl rfl rfl ?_)
                    refine g_step rfl (s_store_all ty32 rfl rfl rfl rfl rfl rfl ?_)
                    refine g_step rfl (s_val (v_assign rfl) rfl rfl ?_)
                    refine g_nil ?_
                    refine g_next hK26 ?_
                    refine g_seq (fun K27 hK27 => ?_)
                    refine g_region ?_
                    refine g_step rfl (s_val (v_move rfl) rfl rfl ?_)
                    refine g_step rfl (s_val (v_not rfl) rfl rfl ?_)
                    refine g_nil ?_
                    refine g_next hK27 ?_
                    refine g_cond rfl (fun hc116 => ?_) (fun hc116 => ?_)
                    · exfalso; (try simp only [decide_eq_true_eq, decide_eq_false_iff_not, Bool.not_eq_true', Bool.not_eq_false', Bool.not_eq_eq_eq_not, Bool.not_true, Bool.not_false, Bool.and_eq_true, Bool.or_eq_true, Bool.or_eq_false_iff, beq_iff_eq, beq_eq_false_iff_ne, ne_eq, Int.not_lt, Int.not_le, Decidable.not_not] at hc116); simp [hfi] at hc116
                    · try simp only [decide_eq_true_eq, decide_eq_false_iff_not, Bool.not_eq_true', Bool.not_eq_false', Bool.not_eq_eq_eq_not, Bool.not_true, Bool.not_false, Bool.and_eq_true, Bool.or_eq_true, Bool.or_eq_false_iff, beq_iff_eq, beq_eq_false_iff_ne, ne_eq, Int.not_lt, Int.not_le, Decidable.not_not] at hc116
                      refine g_skip ?_
                      refine g_block_normal ?_
                      refine g_next hK23 ?_
                      refine g_region ?_
                      refine g_step rfl (s_val (v_move rfl) rfl rfl ?_)
                      refine g_step rfl (s_val (v_add rfl rfl (by omega)) rfl rfl ?_)
                      refine g_step rfl (s_val (v_assign rfl) rfl rfl ?_)
                      refine g_nil ?_
                      refine g_keep [0, 1, 5, 10] [] [] rfl rfl rfl rfl ?_
                      exact g_round _ (by omega) ⟨k + 1, by omega, rfl, rfl, rfl, rfl, rfl⟩
                · try simp only [decide_eq_true_eq, decide_eq_false_iff_not, Bool.not_eq_true', Bool.not_eq_false', Bool.not_eq_eq_eq_not, Bool.not_true, Bool.not_false, Bool.and_eq_true, Bool.or_eq_true, Bool.or_eq_false_iff, beq_iff_eq, beq_eq_false_iff_ne, ne_eq, Int.not_lt, Int.not_le, Decidable.not_not] at hc89
                  obtain rfl : k = (x ++ y).length := by omega
                  refine g_exit ?_
                  refine g_then_exit ?_
                  refine g_then_exit ?_
                  refine g_block_same ?_
                  refine g_next hK19 ?_
                  refine g_seq (fun K28 hK28 => ?_)
                  refine g_region ?_
                  refine g_step rfl (s_callp rfl rfl rfl (awake09_ok _) ?_)
                  rintro _ rfl
                  refine g_step rfl (s_val (v_assign rfl) rfl rfl ?_)
                  refine g_nil ?_
                  refine g_next hK28 ?_
                  refine g_ret ?_
                  refine g_end1 (.inl rfl) Try.results13 (.tmp rfl) [] (ASub.refl _) (AHeap.sub_refl _) (fun p hp => by cases hp) ⟨rfl, ?_⟩
                  rfl

theorem latticeOrders_ok (x y z : List Rc) (G : AHeap) (hhx : ∀ r ∈ x, Held r.bag) (hhy : ∀ r ∈ y, Held r.bag) (hhz : ∀ r ∈ z, Held r.bag) (hlx : x.length ≤ 140737488351232) (hly : y.length ≤ 140737488351232) (hlz : z.length ≤ 140737488351232) : PCalls Try.prog 14 [encRs x, encRs y, encRs z] G (fun v => v = .bool true) := by
  refine LCalls.intro 129 fi14 rfl Try.ntmps14 rfl (fun _ h => h.elim) (fun H hH w0 hw0 => ?_)
  refine g_seq (fun K0 hK0 => ?_)
  refine g_region ?_
  refine g_step rfl (s_val (v_assign rfl) rfl rfl ?_)
  refine g_nil ?_
  refine g_next hK0 ?_
  refine g_seq (fun K1 hK1 => ?_)
  refine g_seq (fun K2 hK2 => ?_)
  refine g_region ?_
  refine g_step rfl (s_val (v_move rfl) rfl rfl ?_)
  refine g_step rfl (s_callp rfl rfl rfl (fewL_ok x _ _ rfl hhx hlx) ?_)
  rintro _ rfl
  refine g_step rfl (s_val (v_not rfl) rfl rfl ?_)
  refine g_step rfl (s_val (v_move rfl) rfl rfl ?_)
  refine g_split 18 rfl (fun hg18 => ?_) (fun hg18 => ?_)
  · try simp only [decide_eq_true_eq, decide_eq_false_iff_not, Bool.not_eq_true', Bool.not_eq_false', Bool.not_eq_eq_eq_not, Bool.not_true, Bool.not_false, Bool.and_eq_true, Bool.or_eq_true, Bool.or_eq_false_iff, beq_iff_eq, beq_eq_false_iff_ne, ne_eq, Int.not_lt, Int.not_le, Decidable.not_not] at hg18
    refine g_step_no (j := 3) (t := 18) rfl rfl rfl rfl rfl rfl rfl ?_
    refine g_step_no (j := 3) (t := 18) rfl rfl rfl rfl rfl rfl rfl ?_
    refine g_step_no (j := 3) (t := 18) rfl rfl rfl rfl rfl rfl rfl ?_
    refine g_step rfl (s_val (v_pick_t rfl rfl) rfl rfl ?_)
    refine g_step rfl (s_val (v_move rfl) rfl rfl ?_)
    refine g_step_no (j := 8) (t := 23) rfl rfl rfl rfl rfl rfl rfl ?_
    refine g_step_no (j := 8) (t := 23) rfl rfl rfl rfl rfl rfl rfl ?_
    refine g_step_no (j := 8) (t := 23) rfl rfl rfl rfl rfl rfl rfl ?_
    refine g_step rfl (s_val (v_pick_t rfl rfl) rfl rfl ?_)
    refine g_step rfl (s_val (v_move rfl) rfl rfl ?_)
    refine g_step_no (j := 13) (t := 28) rfl rfl rfl rfl rfl rfl rfl ?_
    refine g_step_no (j := 13) (t := 28) rfl rfl rfl rfl rfl rfl rfl ?_
    refine g_step_no (j := 13) (t := 28) rfl rfl rfl rfl rfl rfl rfl ?_
    refine g_step rfl (s_val (v_pick_t rfl rfl) rfl rfl ?_)
    refine g_step rfl (s_val (v_move rfl) rfl rfl ?_)
    refine g_step_no (j := 18) (t := 33) rfl rfl rfl rfl rfl rfl rfl ?_
    refine g_step_no (j := 18) (t := 33) rfl rfl rfl rfl rfl rfl rfl ?_
    refine g_step_no (j := 18) (t := 33) rfl rfl rfl rfl rfl rfl rfl ?_
    refine g_step rfl (s_val (v_pick_t rfl rfl) rfl rfl ?_)
    refine g_step rfl (s_val (v_move rfl) rfl rfl ?_)
    refine g_step_no (j := 23) (t := 38) rfl rfl rfl rfl rfl rfl rfl ?_
    refine g_step_no (j := 23) (t := 38) rfl rfl rfl rfl rfl rfl rfl ?_
    refine g_step_no (j := 23) (t := 38) rfl rfl rfl rfl rfl rfl rfl ?_
    refine g_step rfl (s_val (v_pick_t rfl rfl) rfl rfl ?_)
    refine g_nil ?_
    refine g_next hK2 ?_
    refine g_keep [0, 1, 2, 42] [] [] rfl rfl rfl rfl ?_
    refine g_cond rfl (fun _ => ?_) (fun h => by cases h)
    refine g_seq (fun K3 hK3 => ?_)
    refine g_region ?_
    refine g_step rfl (s_callp rfl rfl rfl (awake09_ok _) ?_)
    rintro _ rfl
    refine g_step rfl (s_val (v_assign rfl) rfl rfl ?_)
    refine g_nil ?_
    refine g_next hK3 ?_
    refine g_ret ?_
    refine g_then_ret ?_
    refine g_end1 (.inl rfl) Try.results14 (.tmp rfl) [] (ASub.refl _) (AHeap.sub_refl _) (fun p hp => by cases hp) ⟨rfl, ?_⟩
    rfl
  · try simp only [decide_eq_true_eq, decide_eq_false_iff_not, Bool.not_eq_true', Bool.not_eq_false', Bool.not_eq_eq_eq_not, Bool.not_true, Bool.not_false, Bool.and_eq_true, Bool.or_eq_true, Bool.or_eq_false_iff, beq_iff_eq, beq_eq_false_iff_ne, ne_eq, Int.not_lt, Int.not_le, Decidable.not_not] at hg18
    refine g_step_yes (j := 3) (t := 18) rfl rfl rfl rfl (s_val (v_move rfl) rfl rfl ?_)
    refine g_step_yes (j := 3) (t := 18) rfl rfl rfl rfl (s_callp rfl rfl rfl (fewL_ok y _ _ rfl hhy hly) ?_)
    rintro _ rfl
    refine g_step_yes (j := 3) (t := 18) rfl rfl rfl rfl (s_val (v_not rfl) rfl rfl ?_)
    refine g_step rfl (s_val (v_pick_f rfl rfl) rfl rfl ?_)
    refine g_step rfl (s_val (v_move rfl) rfl rfl ?_)
    refine g_split 23 rfl (fun hg23 => ?_) (fun hg23 => ?_)
    · try simp only [decide_eq_true_eq, decide_eq_false_iff_not, Bool.not_eq_true', Bool.not_eq_false', Bool.not_eq_eq_eq_not, Bool.not_true, Bool.not_false, Bool.and_eq_true, Bool.or_eq_true, Bool.or_eq_false_iff, beq_iff_eq, beq_eq_false_iff_ne, ne_eq, Int.not_lt, Int.not_le, Decidable.not_not] at hg23
      refine g_step_no (j := 8) (t := 23) rfl rfl rfl rfl rfl rfl rfl ?_
      refine g_step_no (j := 8) (t := 23) rfl rfl rfl rfl rfl rfl rfl ?_
      refine g_step_no (j := 8) (t := 23) rfl rfl rfl rfl rfl rfl rfl ?_
      refine g_step rfl (s_val (v_pick_t rfl rfl) rfl rfl ?_)
      refine g_step rfl (s_val (v_move rfl) rfl rfl ?_)
      refine g_step_no (j := 13) (t := 28) rfl rfl rfl rfl rfl rfl rfl ?_
      refine g_step_no (j := 13) (t := 28) rfl rfl rfl rfl rfl rfl rfl ?_
      refine g_step_no (j := 13) (t := 28) rfl rfl rfl rfl rfl rfl rfl ?_
      refine g_step rfl (s_val (v_pick_t rfl rfl) rfl rfl ?_)
      refine g_step rfl (s_val (v_move rfl) rfl rfl ?_)
      refine g_step_no (j := 18) (t := 33) rfl rfl rfl rfl rfl rfl rfl ?_
      refine g_step_no (j := 18) (t := 33) rfl rfl rfl rfl rfl rfl rfl ?_
      refine g_step_no (j := 18) (t := 33) rfl rfl rfl rfl rfl rfl rfl ?_
      refine g_step rfl (s_val (v_pick_t rfl rfl) rfl rfl ?_)
      refine g_step rfl (s_val (v_move rfl) rfl rfl ?_)
      refine g_step_no (j := 23) (t := 38) rfl rfl rfl rfl rfl rfl rfl ?_
      refine g_step_no (j := 23) (t := 38) rfl rfl rfl rfl rfl rfl rfl ?_
      refine g_step_no (j := 23) (t := 38) rfl rfl rfl rfl rfl rfl rfl ?_
      refine g_step rfl (s_val (v_pick_t rfl rfl) rfl rfl ?_)
      refine g_nil ?_
      refine g_next hK2 ?_
      refine g_keep [0, 1, 2, 42] [] [] rfl rfl rfl rfl ?_
      refine g_cond rfl (fun _ => ?_) (fun h => by cases h)
      refine g_seq (fun K4 hK4 => ?_)
      refine g_region ?_
      refine g_step rfl (s_callp rfl rfl rfl (awake09_ok _) ?_)
      rintro _ rfl
      refine g_step rfl (s_val (v_assign rfl) rfl rfl ?_)
      refine g_nil ?_
      refine g_next hK4 ?_
      refine g_ret ?_
      refine g_then_ret ?_
      refine g_end1 (.inl rfl) Try.results14 (.tmp rfl) [] (ASub.refl _) (AHeap.sub_refl _) (fun p hp => by cases hp) ⟨rfl, ?_⟩
      rfl
    · try simp only [decide_eq_true_eq, decide_eq_false_iff_not, Bool.not_eq_true', Bool.not_eq_false', Bool.not_eq_eq_eq_not, Bool.not_true, Bool.not_false, Bool.and_eq_true, Bool.or_eq_true, Bool.or_eq_false_iff, beq_iff_eq, beq_eq_false_iff_ne, ne_eq, Int.not_lt, Int.not_le, Decidable.not_not] at hg23
      refine g_step_yes (j := 8) (t := 23) rfl rfl rfl rfl (s_val (v_move rfl) rfl rfl ?_)
      refine g_step_yes (j := 8) (t := 23) rfl rfl rfl rfl (s_callp rfl rfl rfl (fewL_ok z _ _ rfl hhz hlz) ?_)
      rintro _ rfl
      refine g_step_yes (j := 8) (t := 23) rfl rfl rfl rfl (s_val (v_not rfl) rfl rfl ?_)
      refine g_step rfl (s_val (v_pick_f rfl rfl) rfl rfl ?_)
      refine g_step rfl (s_val (v_move rfl) rfl rfl ?_)
      refine g_split 28 rfl (fun hg28 => ?_) (fun hg28 => ?_)
      · try simp only [decide_eq_true_eq, decide_eq_false_iff_not, Bool.not_eq_true', Bool.not_eq_false', Bool.not_eq_eq_eq_not, Bool.not_true, Bool.not_false, Bool.and_eq_true, Bool.or_eq_true, Bool.or_eq_false_iff, beq_iff_eq, beq_eq_false_iff_ne, ne_eq, Int.not_lt, Int.not_le, Decidable.not_not] at hg28
        refine g_step_no (j := 13) (t := 28) rfl rfl rfl rfl rfl rfl rfl ?_
        refine g_step_no (j := 13) (t := 28) rfl rfl rfl rfl rfl rfl rfl ?_
        refine g_step_no (j := 13) (t := 28) rfl rfl rfl rfl rfl rfl rfl ?_
        refine g_step rfl (s_val (v_pick_t rfl rfl) rfl rfl ?_)
        refine g_step rfl (s_val (v_move rfl) rfl rfl ?_)
        refine g_step_no (j := 18) (t := 33) rfl rfl rfl rfl rfl rfl rfl ?_
        refine g_step_no (j := 18) (t := 33) rfl rfl rfl rfl rfl rfl rfl ?_
        refine g_step_no (j := 18) (t := 33) rfl rfl rfl rfl rfl rfl rfl ?_
        refine g_step rfl (s_val (v_pick_t rfl rfl) rfl rfl ?_)
        refine g_step rfl (s_val (v_move rfl) rfl rfl ?_)
        refine g_step_no (j := 23) (t := 38) rfl rfl rfl rfl rfl rfl rfl ?_
        refine g_step_no (j := 23) (t := 38) rfl rfl rfl rfl rfl rfl rfl ?_
        refine g_step_no (j := 23) (t := 38) rfl rfl rfl rfl rfl rfl rfl ?_
        refine g_step rfl (s_val (v_pick_t rfl rfl) rfl rfl ?_)
        refine g_nil ?_
        refine g_next hK2 ?_
        refine g_keep [0, 1, 2, 42] [] [] rfl rfl rfl rfl ?_
        refine g_cond rfl (fun _ => ?_) (fun h => by cases h)
        refine g_seq (fun K5 hK5 => ?_)
        refine g_region ?_
        refine g_step rfl (s_callp rfl rfl rfl (awake09_ok _) ?_)
        rintro _ rfl
        refine g_step rfl (s_val (v_assign rfl) rfl rfl ?_)
        refine g_nil ?_
        refine g_next hK5 ?_
        refine g_ret ?_
        refine g_then_ret ?_
        refine g_end1 (.inl rfl) Try.results14 (.tmp rfl) [] (ASub.refl _) (AHeap.sub_refl _) (fun p hp => by cases hp) ⟨rfl, ?_⟩
        rfl
      · try simp only [decide_eq_true_eq, decide_eq_false_iff_not, Bool.not_eq_true', Bool.not_eq_false', Bool.not_eq_eq_eq_not, Bool.not_true, Bool.not_false, Bool.and_eq_true, Bool.or_eq_true, Bool.or_eq_false_iff, beq_iff_eq, beq_eq_false_iff_ne, ne_eq, Int.not_lt, Int.not_le, Decidable.not_not] at hg28
        refine g_step_yes (j := 13) (t := 28) rfl rfl rfl rfl (s_val (v_move rfl) rfl rfl ?_)
        refine g_step_yes (j := 13) (t := 28) rfl rfl rfl rfl (s_callp rfl rfl rfl (sorted_ok x _ (by have := fewL_small (l := x) (by assumption); omega) (fewL_small (l := x) (by assumption)).2) ?_)
        rintro _ rfl
        refine g_step_yes (j := 13) (t := 28) rfl rfl rfl rfl (s_val (v_not rfl) rfl rfl ?_)
        refine g_step rfl (s_val (v_pick_f rfl rfl) rfl rfl ?_)
        refine g_step rfl (s_val (v_move rfl) rfl rfl ?_)
        refine g_split 33 rfl (fun hg33 => ?_) (fun hg33 => ?_)
        · try simp only [decide_eq_true_eq, decide_eq_false_iff_not, Bool.not_eq_true', Bool.not_eq_false', Bool.not_eq_eq_eq_not, Bool.not_true, Bool.not_false, Bool.and_eq_true, Bool.or_eq_true, Bool.or_eq_false_iff, beq_iff_eq, beq_eq_false_iff_ne, ne_eq, Int.not_lt, Int.not_le, Decidable.not_not] at hg33
          refine g_step_no (j := 18) (t := 33) rfl rfl rfl rfl rfl rfl rfl ?_
          refine g_step_no (j := 18) (t := 33) rfl rfl rfl rfl rfl rfl rfl ?_
          refine g_step_no (j := 18) (t := 33) rfl rfl rfl rfl rfl rfl rfl ?_
          refine g_step rfl (s_val (v_pick_t rfl rfl) rfl rfl ?_)
          refine g_step rfl (s_val (v_move rfl) rfl rfl ?_)
          refine g_step_no (j := 23) (t := 38) rfl rfl rfl rfl rfl rfl rfl ?_
          refine g_step_no (j := 23) (t := 38) rfl rfl rfl rfl rfl rfl rfl ?_
          refine g_step_no (j := 23) (t := 38) rfl rfl rfl rfl rfl rfl rfl ?_
          refine g_step rfl (s_val (v_pick_t rfl rfl) rfl rfl ?_)
          refine g_nil ?_
          refine g_next hK2 ?_
          refine g_keep [0, 1, 2, 42] [] [] rfl rfl rfl rfl ?_
          refine g_cond rfl (fun _ => ?_) (fun h => by cases h)
          refine g_seq (fun K6 hK6 => ?_)
          refine g_region ?_
          refine g_step rfl (s_callp rfl rfl rfl (awake09_ok _) ?_)
          rintro _ rfl
          refine g_step rfl (s_val (v_assign rfl) rfl rfl ?_)
          refine g_nil ?_
          refine g_next hK6 ?_
          refine g_ret ?_
          refine g_then_ret ?_
          refine g_end1 (.inl rfl) Try.results14 (.tmp rfl) [] (ASub.refl _) (AHeap.sub_refl _) (fun p hp => by cases hp) ⟨rfl, ?_⟩
          rfl
        · try simp only [decide_eq_true_eq, decide_eq_false_iff_not, Bool.not_eq_true', Bool.not_eq_false', Bool.not_eq_eq_eq_not, Bool.not_true, Bool.not_false, Bool.and_eq_true, Bool.or_eq_true, Bool.or_eq_false_iff, beq_iff_eq, beq_eq_false_iff_ne, ne_eq, Int.not_lt, Int.not_le, Decidable.not_not] at hg33
          refine g_step_yes (j := 18) (t := 33) rfl rfl rfl rfl (s_val (v_move rfl) rfl rfl ?_)
          refine g_step_yes (j := 18) (t := 33) rfl rfl rfl rfl (s_callp rfl rfl rfl (sorted_ok y _ (by have := fewL_small (l := y) (by assumption); omega) (fewL_small (l := y) (by assumption)).2) ?_)
          rintro _ rfl
          refine g_step_yes (j := 18) (t := 33) rfl rfl rfl rfl (s_val (v_not rfl) rfl rfl ?_)
          refine g_step rfl (s_val (v_pick_f rfl rfl) rfl rfl ?_)
          refine g_step rfl (s_val (v_move rfl) rfl rfl ?_)
          refine g_split 38 rfl (fun hg38 => ?_) (fun hg38 => ?_)
          · try simp only [decide_eq_true_eq, decide_eq_false_iff_not, Bool.not_eq_true', Bool.not_eq_false', Bool.not_eq_eq_eq_not, Bool.not_true, Bool.not_false, Bool.and_eq_true, Bool.or_eq_true, Bool.or_eq_false_iff, beq_iff_eq, beq_eq_false_iff_ne, ne_eq, Int.not_lt, Int.not_le, Decidable.not_not] at hg38
            refine g_step_no (j := 23) (t := 38) rfl rfl rfl rfl rfl rfl rfl ?_
            refine g_step_no (j := 23) (t := 38) rfl rfl rfl rfl rfl rfl rfl ?_
            refine g_step_no (j := 23) (t := 38) rfl rfl rfl rfl rfl rfl rfl ?_
            refine g_step rfl (s_val (v_pick_t rfl rfl) rfl rfl ?_)
            refine g_nil ?_
            refine g_next hK2 ?_
            refine g_keep [0, 1, 2, 42] [] [] rfl rfl rfl rfl ?_
            refine g_cond rfl (fun _ => ?_) (fun h => by cases h)
            refine g_seq (fun K7 hK7 => ?_)
            refine g_region ?_
            refine g_step rfl (s_callp rfl rfl rfl (awake09_ok _) ?_)
            rintro _ rfl
            refine g_step rfl (s_val (v_assign rfl) rfl rfl ?_)
            refine g_nil ?_
            refine g_next hK7 ?_
            refine g_ret ?_
            refine g_then_ret ?_
            refine g_end1 (.inl rfl) Try.results14 (.tmp rfl) [] (ASub.refl _) (AHeap.sub_refl _) (fun p hp => by cases hp) ⟨rfl, ?_⟩
            rfl
          · try simp only [decide_eq_true_eq, decide_eq_false_iff_not, Bool.not_eq_true', Bool.not_eq_false', Bool.not_eq_eq_eq_not, Bool.not_true, Bool.not_false, Bool.and_eq_true, Bool.or_eq_true, Bool.or_eq_false_iff, beq_iff_eq, beq_eq_false_iff_ne, ne_eq, Int.not_lt, Int.not_le, Decidable.not_not] at hg38
            refine g_step_yes (j := 23) (t := 38) rfl rfl rfl rfl (s_val (v_move rfl) rfl rfl ?_)
            refine g_step_yes (j := 23) (t := 38) rfl rfl rfl rfl (s_callp rfl rfl rfl (sorted_ok z _ (by have := fewL_small (l := z) (by assumption); omega) (fewL_small (l := z) (by assumption)).2) ?_)
            rintro _ rfl
            refine g_step_yes (j := 23) (t := 38) rfl rfl rfl rfl (s_val (v_not rfl) rfl rfl ?_)
            refine g_step rfl (s_val (v_pick_f rfl rfl) rfl rfl ?_)
            refine g_nil ?_
            refine g_next hK2 ?_
            refine g_keep [0, 1, 2, 42] [] [] rfl rfl rfl rfl ?_
            refine g_cond rfl (fun hc42 => ?_) (fun hc42 => ?_)
            · try simp only [decide_eq_true_eq, decide_eq_false_iff_not, Bool.not_eq_true', Bool.not_eq_false', Bool.not_eq_eq_eq_not, Bool.not_true, Bool.not_false, Bool.and_eq_true, Bool.or_eq_true, Bool.or_eq_false_iff, beq_iff_eq, beq_eq_false_iff_ne, ne_eq, Int.not_lt, Int.not_le, Decidable.not_not] at hc42
              refine g_seq (fun K8 hK8 => ?_)
              refine g_region ?_
              refine g_step rfl (s_callp rfl rfl rfl (awake09_ok _) ?_)
              rintro _ rfl
              refine g_step rfl (s_val (v_assign rfl) rfl rfl ?_)
              refine g_nil ?_
              refine g_next hK8 ?_
              refine g_ret ?_
              refine g_then_ret ?_
              refine g_end1 (.inl rfl) Try.results14 (.tmp rfl) [] (ASub.refl _) (AHeap.sub_refl _) (fun p hp => by cases hp) ⟨rfl, ?_⟩
              rfl
            · try simp only [decide_eq_true_eq, decide_eq_false_iff_not, Bool.not_eq_true', Bool.not_eq_false', Bool.not_eq_eq_eq_not, Bool.not_true, Bool.not_false, Bool.and_eq_true, Bool.or_eq_true, Bool.or_eq_false_iff, beq_iff_eq, beq_eq_false_iff_ne, ne_eq, Int.not_lt, Int.not_le, Decidable.not_not] at hc42
              have hf : (fewL x = true ∧ fewL y = true ∧ fewL z = true) ∧ srt x = true ∧ srt y = true ∧ srt z = true := by first | exact ⟨⟨by assumption, by assumption, by assumption⟩, by assumption, by assumption, by assumption⟩ | simp_all
              obtain ⟨⟨hf1, hf2, hf3⟩, hs1, hs2, hs3⟩ := hf
              obtain ⟨hx20, hsx⟩ := fewL_small hf1
              obtain ⟨hy20, hsy⟩ := fewL_small hf2
              obtain ⟨hz20, hsz⟩ := fewL_small hf3
              have hm3 : ∀ l ∈ [x, y, z], ∀ r ∈ l, Small r.bag := by intro l hl; simp at hl; rcases hl with rfl | rfl | rfl <;> assumption
              have hm4 : ∀ l ∈ [z, x, y, x], ∀ r ∈ l, Small r.bag := by intro l hl; simp at hl; rcases hl with rfl | rfl | rfl | rfl <;> assumption
              have hm2 : ∀ l ∈ [y, z], ∀ r ∈ l, Small r.bag := by intro l hl; simp at hl; rcases hl with rfl | rfl <;> assumption
              have hfs : ∀ {ls : List (List Rc)}, (∀ l ∈ ls, ∀ r ∈ l, Small r.bag) → ∀ r ∈ ls.flatten, Small r.bag := fun h r hr => by obtain ⟨l, h1, h2⟩ := List.mem_flatten.1 hr; exact h l h1 r h2
              have hs22 := merge_srt (ls := [y, z]) (by simp [hs2, hs3])
              have hl22 := mergeL_length [y, z].flatten
              have hl2' : [y, z].flatten.length ≤ 40 := by simp; omega
              have hmL : ∀ l ∈ [x, mergeL [y, z].flatten], ∀ r ∈ l, Small r.bag := by intro l hl; simp only [List.mem_cons, List.not_mem_nil, or_false] at hl; rcases hl with rfl | rfl; exact hsx; exact mergeL_small (hfs hm2)
              have he1 := orders_eq hs1 hs2 hs3
              have he2 := orders_late hs1 hs2 hs3
              obtain ⟨hu1, hu2, hu3⟩ := orders_under hs1 hs2 hs3
              have hl3 := mergeL_length [x, y, z].flatten
              have hl3' : [x, y, z].flatten.length ≤ 60 := by simp; omega
              have hsM := mergeL_small (hfs hm3)
              have hb := fun h => under_back hs1 (merge_srt (ls := [x, y, z]) (by simp [hs1, hs2, hs3])) hu1 h
              refine g_skip ?_
              refine g_next hK1 ?_
              refine g_seq (fun K9 hK9 => ?_)
              refine g_region ?_
              refine g_step rfl (s_val (v_move rfl) rfl rfl ?_)
              refine g_step rfl (s_val (v_move rfl) rfl rfl ?_)
              refine g_step rfl (s_val (v_move rfl) rfl rfl ?_)
              refine g_step rfl (s_lit ty79 ty34 rfl rfl rfl rfl rfl rfl rfl ?_)
              refine g_step rfl (s_callp rfl rfl rfl (mergeS_ok [x, y, z] _ (by omega) (by simp) hm3 (by simp [hs1, hs2, hs3])) ?_)
              rintro _ rfl
              refine g_step rfl (s_val (v_move rfl) rfl rfl ?_)
              refine g_step rfl (s_val (v_extract rfl rfl) rfl rfl ?_)
              refine g_step rfl (s_val (v_extract rfl rfl) rfl rfl ?_)
              refine g_step rfl (s_val (v_assign rfl) rfl rfl ?_)
              refine g_step rfl (s_val (v_assign rfl) rfl rfl ?_)
              refine g_nil ?_
              refine g_next hK9 ?_
              refine g_seq (fun K10 hK10 => ?_)
              refine g_region ?_
              refine g_step rfl (s_val (v_move rfl) rfl rfl ?_)
              refine g_step rfl (s_val (v_move rfl) rfl rfl ?_)
              refine g_step rfl (s_val (v_move rfl) rfl rfl ?_)
              refine g_step rfl (s_val (v_move rfl) rfl rfl ?_)
              refine g_step rfl (s_lit ty79 ty34 rfl rfl rfl rfl rfl rfl rfl ?_)
              refine g_step rfl (s_callp rfl rfl rfl (mergeS_ok [z, x, y, x] _ (by simp; omega) (by simp) hm4 (by simp [hs1, hs2, hs3])) ?_)
              rintro _ rfl
              refine g_step rfl (s_val (v_move rfl) rfl rfl ?_)
              refine g_step rfl (s_val (v_extract rfl rfl) rfl rfl ?_)
              refine g_step rfl (s_val (v_extract rfl rfl) rfl rfl ?_)
              refine g_step rfl (s_val (v_assign rfl) rfl rfl ?_)
              refine g_step rfl (s_val (v_assign rfl) rfl rfl ?_)
              refine g_nil ?_
              refine g_next hK10 ?_
              refine g_keep [0, 1, 2, 7, 8, 9, 10] [] [] rfl rfl rfl rfl ?_
              refine g_seq (fun K11 hK11 => ?_)
              refine g_region ?_
              refine g_step rfl (s_val (v_move rfl) rfl rfl ?_)
              refine g_step rfl (s_val (v_move rfl) rfl rfl ?_)
              refine g_step rfl (s_lit ty79 ty34 rfl rfl rfl rfl rfl rfl rfl ?_)
              refine g_step rfl (s_callp rfl rfl rfl (mergeS_ok [y, z] _ (by omega) (by simp) hm2 (by simp [hs2, hs3])) ?_)
              rintro _ rfl
              refine g_step rfl (s_val (v_move rfl) rfl rfl ?_)
              refine g_step rfl (s_val (v_extract rfl rfl) rfl rfl ?_)
              refine g_step rfl (s_val (v_extract rfl rfl) rfl rfl ?_)
              refine g_step rfl (s_val (v_assign rfl) rfl rfl ?_)
              refine g_step rfl (s_val (v_assign rfl) rfl rfl ?_)
              refine g_nil ?_
              refine g_next hK11 ?_
              refine g_seq (fun K12 hK12 => ?_)
              refine g_region ?_
              refine g_step rfl (s_val (v_move rfl) rfl rfl ?_)
              refine g_step rfl (s_val (v_move rfl) rfl rfl ?_)
              refine g_step rfl (s_lit ty79 ty34 rfl rfl rfl rfl rfl rfl rfl ?_)
              refine g_step rfl (s_callp rfl rfl rfl (mergeS_ok [x, mergeL [y, z].flatten] _ (by rw [flat2_len]; omega) (by simp) hmL (by simp only [List.all_cons, List.all_nil, hs1, hs22, Bool.and_true])) ?_)
              rintro _ rfl
              refine g_step rfl (s_val (v_move rfl) rfl rfl ?_)
              refine g_step rfl (s_val (v_extract rfl rfl) rfl rfl ?_)
              refine g_step rfl (s_val (v_extract rfl rfl) rfl rfl ?_)
              refine g_step rfl (s_val (v_assign rfl) rfl rfl ?_)
              refine g_step rfl (s_val (v_assign rfl) rfl rfl ?_)
              refine g_nil ?_
              refine g_next hK12 ?_
              refine g_keep [0, 1, 2, 7, 8, 9, 10, 12, 13, 14] [] [] rfl rfl rfl rfl ?_
              refine g_seq (fun K13 hK13 => ?_)
              refine g_seq (fun K14 hK14 => ?_)
              refine g_region ?_
              refine g_step rfl (s_val (v_move rfl) rfl rfl ?_)
              refine g_step rfl (s_val (v_not rfl) rfl rfl ?_)
              refine g_step rfl (s_val (v_move rfl) rfl rfl ?_)
              refine g_split 77 rfl (fun hg77 => ?_) (fun hg77 => ?_)
              · exfalso; (try simp only [decide_eq_true_eq, decide_eq_false_iff_not, Bool.not_eq_true', Bool.not_eq_false', Bool.not_eq_eq_eq_not, Bool.not_true, Bool.not_false, Bool.and_eq_true, Bool.or_eq_true, Bool.or_eq_false_iff, beq_iff_eq, beq_eq_false_iff_ne, ne_eq, Int.not_lt, Int.not_le, Decidable.not_not] at hg77); cases hg77
              · try simp only [decide_eq_true_eq, decide_eq_false_iff_not, Bool.not_eq_true', Bool.not_eq_false', Bool.not_eq_eq_eq_not, Bool.not_true, Bool.not_false, Bool.and_eq_true, Bool.or_eq_true, Bool.or_eq_false_iff, beq_iff_eq, beq_eq_false_iff_ne, ne_eq, Int.not_lt, Int.not_le, Decidable.not_not] at hg77
                refine g_step_yes (j := 2) (t := 77) rfl rfl rfl rfl (s_val (v_move rfl) rfl rfl ?_)
                refine g_step_yes (j := 2) (t := 77) rfl rfl rfl rfl (s_val (v_not rfl) rfl rfl ?_)
                refine g_step rfl (s_val (v_pick_f rfl rfl) rfl rfl ?_)
                refine g_step rfl (s_val (v_move rfl) rfl rfl ?_)
                refine g_split 81 rfl (fun hg81 => ?_) (fun hg81 => ?_)
                · exfalso; (try simp only [decide_eq_true_eq, decide_eq_false_iff_not, Bool.not_eq_true', Bool.not_eq_false', Bool.not_eq_eq_eq_not, Bool.not_true, Bool.not_false, Bool.and_eq_true, Bool.or_eq_true, Bool.or_eq_false_iff, beq_iff_eq, beq_eq_false_iff_ne, ne_eq, Int.not_lt, Int.not_le, Decidable.not_not] at hg81); cases hg81
                · try simp only [decide_eq_true_eq, decide_eq_false_iff_not, Bool.not_eq_true', Bool.not_eq_false', Bool.not_eq_eq_eq_not, Bool.not_true, Bool.not_false, Bool.and_eq_true, Bool.or_eq_true, Bool.or_eq_false_iff, beq_iff_eq, beq_eq_false_iff_ne, ne_eq, Int.not_lt, Int.not_le, Decidable.not_not] at hg81
                  refine g_step_yes (j := 6) (t := 81) rfl rfl rfl rfl (s_val (v_move rfl) rfl rfl ?_)
                  refine g_step_yes (j := 6) (t := 81) rfl rfl rfl rfl (s_val (v_not rfl) rfl rfl ?_)
                  refine g_step rfl (s_val (v_pick_f rfl rfl) rfl rfl ?_)
                  refine g_step rfl (s_val (v_move rfl) rfl rfl ?_)
                  refine g_split 85 rfl (fun hg85 => ?_) (fun hg85 => ?_)
                  · exfalso; (try simp only [decide_eq_true_eq, decide_eq_false_iff_not, Bool.not_eq_true', Bool.not_eq_false', Bool.not_eq_eq_eq_not, Bool.not_true, Bool.not_false, Bool.and_eq_true, Bool.or_eq_true, Bool.or_eq_false_iff, beq_iff_eq, beq_eq_false_iff_ne, ne_eq, Int.not_lt, Int.not_le, Decidable.not_not] at hg85); cases hg85
                  · try simp only [decide_eq_true_eq, decide_eq_false_iff_not, Bool.not_eq_true', Bool.not_eq_false', Bool.not_eq_eq_eq_not, Bool.not_true, Bool.not_false, Bool.and_eq_true, Bool.or_eq_true, Bool.or_eq_false_iff, beq_iff_eq, beq_eq_false_iff_ne, ne_eq, Int.not_lt, Int.not_le, Decidable.not_not] at hg85
                    refine g_step_yes (j := 10) (t := 85) rfl rfl rfl rfl (s_val (v_move rfl) rfl rfl ?_)
                    refine g_step_yes (j := 10) (t := 85) rfl rfl rfl rfl (s_val (v_not rfl) rfl rfl ?_)
                    refine g_step rfl (s_val (v_pick_f rfl rfl) rfl rfl ?_)
                    refine g_step rfl (s_val (v_move rfl) rfl rfl ?_)
                    refine g_split 89 rfl (fun hg89 => ?_) (fun hg89 => ?_)
                    · exfalso; (try simp only [decide_eq_true_eq, decide_eq_false_iff_not, Bool.not_eq_true', Bool.not_eq_false', Bool.not_eq_eq_eq_not, Bool.not_true, Bool.not_false, Bool.and_eq_true, Bool.or_eq_true, Bool.or_eq_false_iff, beq_iff_eq, beq_eq_false_iff_ne, ne_eq, Int.not_lt, Int.not_le, Decidable.not_not] at hg89); cases hg89
                    · try simp only [decide_eq_true_eq, decide_eq_false_iff_not, Bool.not_eq_true', Bool.not_eq_false', Bool.not_eq_eq_eq_not, Bool.not_true, Bool.not_false, Bool.and_eq_true, Bool.or_eq_true, Bool.or_eq_false_iff, beq_iff_eq, beq_eq_false_iff_ne, ne_eq, Int.not_lt, Int.not_le, Decidable.not_not] at hg89
                      refine g_step_yes (j := 14) (t := 89) rfl rfl rfl rfl (s_val (v_move rfl) rfl rfl ?_)
                      refine g_step_yes (j := 14) (t := 89) rfl rfl rfl rfl (s_val (v_move rfl) rfl rfl ?_)
                      refine g_step_yes (j := 14) (t := 89) rfl rfl rfl rfl (s_callp rfl rfl rfl (allAlike_ok (mergeL [x, y, z].flatten) (mergeL [z, x, y, x].flatten) _ _ _ rfl rfl (by omega) hsM) ?_)
                      rintro _ rfl
                      refine g_step_yes (j := 14) (t := 89) rfl rfl rfl rfl (s_val (v_not rfl) rfl rfl ?_)
                      refine g_step rfl (s_val (v_pick_f rfl rfl) rfl rfl ?_)
                      refine g_step rfl (s_val (v_move rfl) rfl rfl ?_)
                      refine g_split 95 rfl (fun hg95 => ?_) (fun hg95 => ?_)
                      · exfalso; (try simp only [decide_eq_true_eq, decide_eq_false_iff_not, Bool.not_eq_true', Bool.not_eq_false', Bool.not_eq_eq_eq_not, Bool.not_true, Bool.not_false, Bool.and_eq_true, Bool.or_eq_true, Bool.or_eq_false_iff, beq_iff_eq, beq_eq_false_iff_ne, ne_eq, Int.not_lt, Int.not_le, Decidable.not_not] at hg95); rw [← he1] at hg95; simp at hg95
                      · try simp only [decide_eq_true_eq, decide_eq_false_iff_not, Bool.not_eq_true', Bool.not_eq_false', Bool.not_eq_eq_eq_not, Bool.not_true, Bool.not_false, Bool.and_eq_true, Bool.or_eq_true, Bool.or_eq_false_iff, beq_iff_eq, beq_eq_false_iff_ne, ne_eq, Int.not_lt, Int.not_le, Decidable.not_not] at hg95
                        refine g_step_yes (j := 20) (t := 95) rfl rfl rfl rfl (s_val (v_move rfl) rfl rfl ?_)
                        refine g_step_yes (j := 20) (t := 95) rfl rfl rfl rfl (s_val (v_move rfl) rfl rfl ?_)
                        refine g_step_yes (j := 20) (t := 95) rfl rfl rfl rfl (s_callp rfl rfl rfl (allAlike_ok (mergeL [x, y, z].flatten) (mergeL [x, mergeL [y, z].flatten].flatten) _ _ _ rfl rfl (by omega) hsM) ?_)
                        rintro _ rfl
                        refine g_step_yes (j := 20) (t := 95) rfl rfl rfl rfl (s_val (v_not rfl) rfl rfl ?_)
                        refine g_step rfl (s_val (v_pick_f rfl rfl) rfl rfl ?_)
                        refine g_nil ?_
                        refine g_next hK14 ?_
                        refine g_keep [0, 1, 2, 7, 100] [] [] rfl rfl rfl rfl ?_
                        refine g_cond rfl (fun hc100 => ?_) (fun hc100 => ?_)
                        · exfalso; (try simp only [decide_eq_true_eq, decide_eq_false_iff_not, Bool.not_eq_true', Bool.not_eq_false', Bool.not_eq_eq_eq_not, Bool.not_true, Bool.not_false, Bool.and_eq_true, Bool.or_eq_true, Bool.or_eq_false_iff, beq_iff_eq, beq_eq_false_iff_ne, ne_eq, Int.not_lt, Int.not_le, Decidable.not_not] at hc100); rw [← he2] at hc100; simp at hc100
                        · try simp only [decide_eq_true_eq, decide_eq_false_iff_not, Bool.not_eq_true', Bool.not_eq_false', Bool.not_eq_eq_eq_not, Bool.not_true, Bool.not_false, Bool.and_eq_true, Bool.or_eq_true, Bool.or_eq_false_iff, beq_iff_eq, beq_eq_false_iff_ne, ne_eq, Int.not_lt, Int.not_le, Decidable.not_not] at hc100
                          refine g_skip ?_
                          refine g_next hK13 ?_
                          refine g_seq (fun K15 hK15 => ?_)
                          refine g_seq (fun K16 hK16 => ?_)
                          refine g_region ?_
                          refine g_step rfl (s_val (v_move rfl) rfl rfl ?_)
                          refine g_step rfl (s_val (v_move rfl) rfl rfl ?_)
                          refine g_step rfl (s_callp rfl rfl rfl (under_ok x (mergeL [x, y, z].flatten) _ _ _ rfl rfl (by omega) (by omega) hsx hsM) ?_)
                          rintro _ rfl
                          refine g_step rfl (s_val (v_not rfl) rfl rfl ?_)
                          refine g_step rfl (s_val (v_move rfl) rfl rfl ?_)
                          refine g_split 105 rfl (fun hg105 => ?_) (fun hg105 => ?_)
                          · exfalso; (try simp only [decide_eq_true_eq, decide_eq_false_iff_not, Bool.not_eq_true', Bool.not_eq_false', Bool.not_eq_eq_eq_not, Bool.not_true, Bool.not_false, Bool.and_eq_true, Bool.or_eq_true, Bool.or_eq_false_iff, beq_iff_eq, beq_eq_false_iff_ne, ne_eq, Int.not_lt, Int.not_le, Decidable.not_not] at hg105); rw [hu1] at hg105; cases hg105
                          · try simp only [decide_eq_true_eq, decide_eq_false_iff_not, Bool.not_eq_true', Bool.not_eq_false', Bool.not_eq_eq_eq_not, Bool.not_true, Bool.not_false, Bool.and_eq_true, Bool.or_eq_true, Bool.or_eq_false_iff, beq_iff_eq, beq_eq_false_iff_ne, ne_eq, Int.not_lt, Int.not_le, Decidable.not_not] at hg105
                            refine g_step_yes (j := 4) (t := 105) rfl rfl rfl rfl (s_val (v_move rfl) rfl rfl ?_)
                            refine g_step_yes (j := 4) (t := 105) rfl rfl rfl rfl (s_val (v_move rfl) rfl rfl ?_)
                            refine g_step_yes (j := 4) (t := 105) rfl rfl rfl rfl (s_callp rfl rfl rfl (under_ok y (mergeL [x, y, z].flatten) _ _ _ rfl rfl (by omega) (by omega) hsy hsM) ?_)
                            rintro _ rfl
                            refine g_step_yes (j := 4) (t := 105) rfl rfl rfl rfl (s_val (v_not rfl) rfl rfl ?_)
                            refine g_step rfl (s_val (v_pick_f rfl rfl) rfl rfl ?_)
                            refine g_step rfl (s_val (v_move rfl) rfl rfl ?_)
                            refine g_split 111 rfl (fun hg111 => ?_) (fun hg111 => ?_)
                            · exfalso; (try simp only [decide_eq_true_eq, decide_eq_false_iff_not, Bool.not_eq_true', Bool.not_eq_false', Bool.not_eq_eq_eq_not, Bool.not_true, Bool.not_false, Bool.and_eq_true, Bool.or_eq_true, Bool.or_eq_false_iff, beq_iff_eq, beq_eq_false_iff_ne, ne_eq, Int.not_lt, Int.not_le, Decidable.not_not] at hg111); rw [hu2] at hg111; cases hg111
                            · try simp only [decide_eq_true_eq, decide_eq_false_iff_not, Bool.not_eq_true', Bool.not_eq_false', Bool.not_eq_eq_eq_not, Bool.not_true, Bool.not_false, Bool.and_eq_true, Bool.or_eq_true, Bool.or_eq_false_iff, beq_iff_eq, beq_eq_false_iff_ne, ne_eq, Int.not_lt, Int.not_le, Decidable.not_not] at hg111
                              refine g_step_yes (j := 10) (t := 111) rfl rfl rfl rfl (s_val (v_move rfl) rfl rfl ?_)
                              refine g_step_yes (j := 10) (t := 111) rfl rfl rfl rfl (s_val (v_move rfl) rfl rfl ?_)
                              refine g_step_yes (j := 10) (t := 111) rfl rfl rfl rfl (s_callp rfl rfl rfl (under_ok z (mergeL [x, y, z].flatten) _ _ _ rfl rfl (by omega) (by omega) hsz hsM) ?_)
                              rintro _ rfl
                              refine g_step_yes (j := 10) (t := 111) rfl rfl rfl rfl (s_val (v_not rfl) rfl rfl ?_)
                              refine g_step rfl (s_val (v_pick_f rfl rfl) rfl rfl ?_)
                              refine g_nil ?_
                              refine g_next hK16 ?_
                              refine g_cond rfl (fun hc116 => ?_) (fun hc116 => ?_)
                              · exfalso; (try simp only [decide_eq_true_eq, decide_eq_false_iff_not, Bool.not_eq_true', Bool.not_eq_false', Bool.not_eq_eq_eq_not, Bool.not_true, Bool.not_false, Bool.and_eq_true, Bool.or_eq_true, Bool.or_eq_false_iff, beq_iff_eq, beq_eq_false_iff_ne, ne_eq, Int.not_lt, Int.not_le, Decidable.not_not] at hc116); rw [hu3] at hc116; cases hc116
                              · try simp only [decide_eq_true_eq, decide_eq_false_iff_not, Bool.not_eq_true', Bool.not_eq_false', Bool.not_eq_eq_eq_not, Bool.not_true, Bool.not_false, Bool.and_eq_true, Bool.or_eq_true, Bool.or_eq_false_iff, beq_iff_eq, beq_eq_false_iff_ne, ne_eq, Int.not_lt, Int.not_le, Decidable.not_not] at hc116
                                refine g_skip ?_
                                refine g_next hK15 ?_
                                refine g_seq (fun K17 hK17 => ?_)
                                refine g_region ?_
                                refine g_step rfl (s_val (v_move rfl) rfl rfl ?_)
                                refine g_step rfl (s_val (v_move rfl) rfl rfl ?_)
                                refine g_step rfl (s_callp rfl rfl rfl (under_ok (mergeL [x, y, z].flatten) x _ _ _ rfl rfl (by omega) (by omega) hsM hsx) ?_)
                                rintro _ rfl
                                refine g_step rfl (s_val (v_not rfl) rfl rfl ?_)
                                refine g_step rfl (s_val (v_move rfl) rfl rfl ?_)
                                refine g_split 121 rfl (fun hg121 => ?_) (fun hg121 => ?_)
                                · try simp only [decide_eq_true_eq, decide_eq_false_iff_not, Bool.not_eq_true', Bool.not_eq_false', Bool.not_eq_eq_eq_not, Bool.not_true, Bool.not_false, Bool.and_eq_true, Bool.or_eq_true, Bool.or_eq_false_iff, beq_iff_eq, beq_eq_false_iff_ne, ne_eq, Int.not_lt, Int.not_le, Decidable.not_not] at hg121
                                  refine g_step_no (j := 4) (t := 121) rfl rfl rfl rfl rfl rfl rfl ?_
                                  refine g_step_no (j := 4) (t := 121) rfl rfl rfl rfl rfl rfl rfl ?_
                                  refine g_step_no (j := 4) (t := 121) rfl rfl rfl rfl rfl rfl rfl ?_
                                  refine g_step rfl (s_val (v_pick_t rfl rfl) rfl rfl ?_)
                                  refine g_step rfl (s_val (v_move rfl) rfl rfl ?_)
                                  refine g_step_yes (j := 9) (t := 126) rfl rfl rfl rfl (s_callp rfl rfl rfl (awake09_ok _) ?_)
                                  rintro _ rfl
                                  refine g_step rfl (s_val (v_pick_t rfl rfl) rfl rfl ?_)
                                  refine g_step rfl (s_val (v_assign rfl) rfl rfl ?_)
                                  refine g_nil ?_
                                  refine g_next hK17 ?_
                                  refine g_keep [6] [] [] rfl rfl rfl rfl ?_
                                  refine g_ret ?_
                                  refine g_end1 (.inl rfl) Try.results14 (.tmp rfl) [] (ASub.refl _) (AHeap.sub_refl _) (fun p hp => by cases hp) ⟨rfl, ?_⟩
                                  rfl
                                · try simp only [decide_eq_true_eq, decide_eq_false_iff_not, Bool.not_eq_true', Bool.not_eq_false', Bool.not_eq_eq_eq_not, Bool.not_true, Bool.not_false, Bool.and_eq_true, Bool.or_eq_true, Bool.or_eq_false_iff, beq_iff_eq, beq_eq_false_iff_ne, ne_eq, Int.not_lt, Int.not_le, Decidable.not_not] at hg121
                                  refine g_step_yes (j := 4) (t := 121) rfl rfl rfl rfl (s_val (v_move rfl) rfl rfl ?_)
                                  refine g_step_yes (j := 4) (t := 121) rfl rfl rfl rfl (s_val (v_move rfl) rfl rfl ?_)
                                  refine g_step_yes (j := 4) (t := 121) rfl rfl rfl rfl (s_callp rfl rfl rfl (allAlike_ok (mergeL [x, y, z].flatten) x _ _ _ rfl rfl (by omega) hsM) ?_)
                                  rintro _ rfl
                                  refine g_step rfl (s_val (v_pick_f rfl rfl) rfl rfl ?_)
                                  refine g_step rfl (s_val (v_move rfl) rfl rfl ?_)
                                  refine g_split 126 rfl (fun hg126 => ?_) (fun hg126 => ?_)
                                  · try simp only [decide_eq_true_eq, decide_eq_false_iff_not, Bool.not_eq_true', Bool.not_eq_false', Bool.not_eq_eq_eq_not, Bool.not_true, Bool.not_false, Bool.and_eq_true, Bool.or_eq_true, Bool.or_eq_false_iff, beq_iff_eq, beq_eq_false_iff_ne, ne_eq, Int.not_lt, Int.not_le, Decidable.not_not] at hg126
                                    refine g_step_yes (j := 9) (t := 126) rfl rfl rfl rfl (s_callp rfl rfl rfl (awake09_ok _) ?_)
                                    rintro _ rfl
                                    refine g_step rfl (s_val (v_pick_t rfl rfl) rfl rfl ?_)
                                    refine g_step rfl (s_val (v_assign rfl) rfl rfl ?_)
                                    refine g_nil ?_
                                    refine g_next hK17 ?_
                                    refine g_keep [6] [] [] rfl rfl rfl rfl ?_
                                    refine g_ret ?_
                                    refine g_end1 (.inl rfl) Try.results14 (.tmp rfl) [] (ASub.refl _) (AHeap.sub_refl _) (fun p hp => by cases hp) ⟨rfl, ?_⟩
                                    rfl
                                  · exfalso; (try simp only [decide_eq_true_eq, decide_eq_false_iff_not, Bool.not_eq_true', Bool.not_eq_false', Bool.not_eq_eq_eq_not, Bool.not_true, Bool.not_false, Bool.and_eq_true, Bool.or_eq_true, Bool.or_eq_false_iff, beq_iff_eq, beq_eq_false_iff_ne, ne_eq, Int.not_lt, Int.not_le, Decidable.not_not] at hg126); first | exact hg126 (hb (by assumption)) | (rw [hb (by assumption)] at hg126; simp at hg126) | simp_all

end Go.Proofs.Ytngffembdhcijaa

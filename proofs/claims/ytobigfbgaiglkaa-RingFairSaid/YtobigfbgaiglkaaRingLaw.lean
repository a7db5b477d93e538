import Derived.Test.YtobigfbgaiglkaaRing
import Derived.Test.YtobigfbgaiglkaaPRing3
set_option maxHeartbeats 8000000
set_option linter.unusedSimpArgs false
set_option linter.unusedVariables false
set_option maxRecDepth 100000
namespace Go.Proofs.Ytobigfbgaiglkaa
open Go Go.Proofs.Ytobigfbgaiglkaa.AM
theorem has20_ok (l : List Int) (x : Int) (G : AHeap) (va : AV) (hva : va.view G = some (l.map (.int .i64))) (hl : l.length ≤ 100000) : PCalls Try.prog 26 [va, .int .i64 x] G (fun v => v = .bool (decide (x ∈ l))) := by
 refine LCalls.intro 18 fi26 rfl Try.ntmps26 rfl (fun _ h => h.elim) (fun H hH w0 hw0 => ?_)
 have hva := view_sub hH hva
 refine g_seq (fun K0 hK0 => ?_)
 refine g_region ?_
 refine g_step rfl (s_val (v_assign rfl) rfl rfl ?_)
 refine g_nil ?_
 refine g_next hK0 ?_
 refine g_seq (fun K1 hK1 => ?_)
 refine g_seq (fun K2 hK2 => ?_)
 refine g_region ?_
 refine g_step rfl (s_val (v_assign rfl) rfl rfl ?_)
 refine g_nil ?_
 refine g_next hK2 ?_
 refine g_block ?_
 first | refine g_keep [0, 1, 5] [] [] (keep_cons rfl (keep_cons rfl (keep_cons rfl keep_nil))) lkeep_nil keep_nil rfl ?_ | refine g_keep [0, 1, 5] [] [] rfl rfl rfl rfl ?_
 refine g_loop (fun n env L B G => ∃ (k : Nat) , k ≤ l.length ∧ n = l.length - k ∧ env = [(0, va), (1, .int .i64 x), (5, .int .i64 (k : Int))] ∧ L = [] ∧ B = [] ∧ H = G ∧ x ∉ l.take k) (l.length) ⟨0, Nat.zero_le _, rfl, rfl, rfl, rfl, rfl, by simp⟩ (fun n env L B G hI => ?_)
 obtain ⟨k, hk, rfl, rfl, rfl, rfl, rfl, hno⟩ := hI
 refine g_seq (fun K3 hK3 => ?_)
 refine g_seq (fun K4 hK4 => ?_)
 refine g_region ?_
 refine g_step rfl (s_val (v_move rfl) rfl rfl ?_)
 refine g_step rfl (s_val (v_move rfl) rfl rfl ?_)
 refine g_step rfl (s_val (v_len ty41 rfl (by first | rfl | assumption) (by first | exact List.length_map .. | rfl)) rfl rfl ?_)
 refine g_step rfl (s_val (v_lss rfl rfl) rfl rfl ?_)
 refine g_nil ?_
 refine g_next hK4 ?_
 refine g_cond rfl (fun hc9 => ?_) (fun hc9 => ?_)
 ·
  try simp only [decide_eq_true_eq, decide_eq_false_iff_not, Bool.not_eq_true', Bool.not_eq_false', Bool.not_eq_eq_eq_not, Bool.not_true, Bool.not_false, Bool.and_eq_true, Bool.or_eq_true, Bool.or_eq_false_iff, beq_iff_eq, beq_eq_false_iff_ne, ne_eq, Int.not_lt, Int.not_le, Decidable.not_not] at hc9
  obtain ⟨y, hy⟩ := get_some (l := l) (k := k) (by omega)
  refine g_skip ?_
  refine g_next hK3 ?_
  refine g_seq (fun K5 hK5 => ?_)
  refine g_block ?_
  refine g_seq (fun K6 hK6 => ?_)
  refine g_region ?_
  refine g_step rfl (s_val (v_move rfl) rfl rfl ?_)
  refine g_step rfl (s_val (v_move rfl) rfl rfl ?_)
  refine g_step rfl (s_val (v_indexAddr ty41 ty3 rfl rfl (by first | rfl | assumption) (by first | rfl | exact (rfl : (0 : Int) = ((0 : Nat) : Int)) | exact (Int.toNat_of_nonneg (by omega)).symm) (by first | assumption | exact map_get (by assumption) | rfl) rfl) rfl rfl ?_)
  refine g_step rfl (s_val (by first | exact v_load ty3 rfl rfl (by first | rfl | assumption) (by first | assumption | exact map_get (by assumption) | rfl) rfl | exact v_load_box ty3 rfl rfl (by assumption) rfl) rfl rfl ?_)
  refine g_step rfl (s_val (v_move rfl) rfl rfl ?_)
  refine g_step rfl (s_val (v_eql rfl rfl) rfl rfl ?_)
  refine g_nil ?_
  refine g_next hK6 ?_
  refine g_cond rfl (fun hc17 => ?_) (fun hc17 => ?_)
  ·
   try simp only [decide_eq_true_eq, decide_eq_false_iff_not, Bool.not_eq_true', Bool.not_eq_false', Bool.not_eq_eq_eq_not, Bool.not_true, Bool.not_false, Bool.and_eq_true, Bool.or_eq_true, Bool.or_eq_false_iff, beq_iff_eq, beq_eq_false_iff_ne, ne_eq, Int.not_lt, Int.not_le, Decidable.not_not] at hc17
   refine g_seq (fun K7 hK7 => ?_)
   refine g_region ?_
   refine g_step rfl (s_val (v_assign rfl) rfl rfl ?_)
   refine g_nil ?_
   refine g_next hK7 ?_
   refine g_ret ?_
   refine g_block_ret ?_
   refine g_then_ret ?_
   refine g_then_ret ?_
   refine g_block_ret ?_
   refine g_then_ret ?_
   refine g_end1 (.inl rfl) Try.results26 (.tmp rfl) [] (ASub.refl _) (AHeap.sub_refl _) (fun p hp => by cases hp) ⟨rfl, ?_⟩
   first | (rw [decide_eq_true (show x ∈ l from by first | exact hc17 ▸ mem_get hy | exact hg17 ▸ mem_get hy)]; rfl; done) | (rw [decide_eq_true (show x ∈ l from by first | exact hc17 ▸ mem_get hy | exact hg17 ▸ mem_get hy)]; rfl; rfl)
  ·
   try simp only [decide_eq_true_eq, decide_eq_false_iff_not, Bool.not_eq_true', Bool.not_eq_false', Bool.not_eq_eq_eq_not, Bool.not_true, Bool.not_false, Bool.and_eq_true, Bool.or_eq_true, Bool.or_eq_false_iff, beq_iff_eq, beq_eq_false_iff_ne, ne_eq, Int.not_lt, Int.not_le, Decidable.not_not] at hc17
   refine g_skip ?_
   refine g_block_normal ?_
   refine g_next hK5 ?_
   refine g_region ?_
   refine g_step rfl (s_val (v_move rfl) rfl rfl ?_)
   refine g_step rfl (s_val (v_add rfl rfl (by omega)) rfl rfl ?_)
   refine g_step rfl (s_val (v_assign rfl) rfl rfl ?_)
   refine g_nil ?_
   first | refine g_keep [0, 1, 5] [] [] (keep_cons rfl (keep_cons rfl (keep_cons rfl keep_nil))) lkeep_nil keep_nil rfl ?_ | refine g_keep [0, 1, 5] [] [] rfl rfl rfl rfl ?_
   exact g_round _ (by omega) ⟨k + 1, by omega, rfl, rfl, rfl, rfl, rfl, has_miss hno hy (by assumption)⟩
 ·
  try simp only [decide_eq_true_eq, decide_eq_false_iff_not, Bool.not_eq_true', Bool.not_eq_false', Bool.not_eq_eq_eq_not, Bool.not_true, Bool.not_false, Bool.and_eq_true, Bool.or_eq_true, Bool.or_eq_false_iff, beq_iff_eq, beq_eq_false_iff_ne, ne_eq, Int.not_lt, Int.not_le, Decidable.not_not] at hc9
  obtain rfl : k = l.length := by omega
  rw [List.take_length] at hno
  refine g_exit ?_
  refine g_then_exit ?_
  refine g_then_exit ?_
  refine g_block_same ?_
  refine g_next hK1 ?_
  refine g_seq (fun K8 hK8 => ?_)
  refine g_region ?_
  refine g_step rfl (s_val (v_assign rfl) rfl rfl ?_)
  refine g_nil ?_
  refine g_next hK8 ?_
  refine g_ret ?_
  refine g_end1 (.inl rfl) Try.results26 (.tmp rfl) [] (ASub.refl _) (AHeap.sub_refl _) (fun p hp => by cases hp) ⟨rfl, ?_⟩
  first | (rw [decide_eq_false hno]; rfl; done) | (rw [decide_eq_false hno]; rfl; rfl)

theorem sub_hva {H G : AHeap} {va : AV} {l : List AV} (h : va.view H = some l) (hs : H.sub G) : va.view G = some l := view_sub hs h
theorem amongO (l there : List Int) (G : AHeap) (va vb : AV) (hva : va.view G = some (l.map (.int .i64))) (hvb : vb.view G = some (there.map (.int .i64))) (hl : l.length ≤ 100000) (hlb : there.length ≤ 100000) : LCalls Try.prog 27 [va, vb] G noD (fun n v effs => OwnR n 1 v ((stay there l).map (.int .i64)) effs) := by
 refine LCalls.intro 27 fi27 rfl Try.ntmps27 rfl (fun _ h => h.elim) (fun H hH w0 hw0 => ?_)
 have hva := view_sub hH hva
 have hvb := view_sub hH hvb
 refine g_seq (fun K0 hK0 => ?_)
 refine g_region ?_
 refine g_step rfl (s_val (v_assign rfl) rfl rfl ?_)
 refine g_nil ?_
 refine g_next hK0 ?_
 refine g_seq (fun K1 hK1 => ?_)
 refine g_region ?_
 refine g_step rfl (s_val (v_assign rfl) rfl rfl ?_)
 refine g_nil ?_
 refine g_next hK1 ?_
 refine g_seq (fun K2 hK2 => ?_)
 refine g_seq (fun K3 hK3 => ?_)
 refine g_region ?_
 refine g_step rfl (s_val (v_assign rfl) rfl rfl ?_)
 refine g_nil ?_
 refine g_next hK3 ?_
 refine g_block ?_
 first | refine g_keep [0, 1, 5, 6] [] [] (keep_cons rfl (keep_cons rfl (keep_cons rfl (keep_cons rfl keep_nil)))) lkeep_nil keep_nil rfl ?_ | refine g_keep [0, 1, 5, 6] [] [] rfl rfl rfl rfl ?_
 refine g_loop (fun n env L B G => ∃ (k : Nat) (av5 : AV), k ≤ l.length ∧ n = l.length - k ∧ env = [(0, va), (1, vb), (5, av5), (6, .int .i64 (k : Int))] ∧ L = [] ∧ B = [] ∧ Own w0.heap.size 1 H av5 ((stay there (l.take k)).map (.int .i64)) G) (l.length) ⟨0, .nil0, Nat.zero_le _, rfl, rfl, rfl, rfl, Own.nil ..⟩ (fun n env L B G hI => ?_)
 obtain ⟨k, av5, hk, rfl, rfl, rfl, rfl, hown⟩ := hI
 have hva := view_sub hown.sub hva
 have hvb := view_sub hown.sub hvb
 have hfl := stay_len there (l.take k)
 have hftl : (l.take k).length ≤ k := List.length_take_le _ _
 refine g_seq (fun K4 hK4 => ?_)
 refine g_seq (fun K5 hK5 => ?_)
 refine g_region ?_
 refine g_step rfl (s_val (v_move rfl) rfl rfl ?_)
 refine g_step rfl (s_val (v_move rfl) rfl rfl ?_)
 refine g_step rfl (s_val (v_len ty41 rfl (by first | rfl | assumption) (by first | exact List.length_map .. | rfl)) rfl rfl ?_)
 refine g_step rfl (s_val (v_lss rfl rfl) rfl rfl ?_)
 refine g_nil ?_
 refine g_next hK5 ?_
 refine g_cond rfl (fun hc10 => ?_) (fun hc10 => ?_)
 ·
  try simp only [decide_eq_true_eq, decide_eq_false_iff_not, Bool.not_eq_true', Bool.not_eq_false', Bool.not_eq_eq_eq_not, Bool.not_true, Bool.not_false, Bool.and_eq_true, Bool.or_eq_true, Bool.or_eq_false_iff, beq_iff_eq, beq_eq_false_iff_ne, ne_eq, Int.not_lt, Int.not_le, Decidable.not_not] at hc10
  obtain ⟨y, hy⟩ := get_some (l := l) (k := k) (by omega)
  refine g_skip ?_
  refine g_next hK4 ?_
  refine g_seq (fun K6 hK6 => ?_)
  refine g_block ?_
  refine g_seq (fun K7 hK7 => ?_)
  refine g_region ?_
  refine g_step rfl (s_val (v_move rfl) rfl rfl ?_)
  refine g_step rfl (s_val (v_move rfl) rfl rfl ?_)
  refine g_step rfl (s_val (v_move rfl) rfl rfl ?_)
  refine g_step rfl (s_val (v_indexAddr ty41 ty3 rfl rfl (by first | rfl | assumption) (by first | rfl | exact (rfl : (0 : Int) = ((0 : Nat) : Int)) | exact (Int.toNat_of_nonneg (by omega)).symm) (by first | assumption | exact map_get (by assumption) | rfl) rfl) rfl rfl ?_)
  refine g_step rfl (s_val (by first | exact v_load ty3 rfl rfl (by first | rfl | assumption) (by first | assumption | exact map_get (by assumption) | rfl) rfl | exact v_load_box ty3 rfl rfl (by assumption) rfl) rfl rfl ?_)
  refine g_step rfl (s_callp rfl rfl rfl (has20_ok there y _ vb hvb hlb) ?_)
  rintro _ rfl
  refine g_nil ?_
  refine g_next hK7 ?_
  refine g_cond rfl (fun hc18 => ?_) (fun hc18 => ?_)
  ·
   try simp only [decide_eq_true_eq, decide_eq_false_iff_not, Bool.not_eq_true', Bool.not_eq_false', Bool.not_eq_eq_eq_not, Bool.not_true, Bool.not_false, Bool.and_eq_true, Bool.or_eq_true, Bool.or_eq_false_iff, beq_iff_eq, beq_eq_false_iff_ne, ne_eq, Int.not_lt, Int.not_le, Decidable.not_not] at hc18
   refine g_region ?_
   refine g_step rfl (s_val (v_move rfl) rfl rfl ?_)
   refine g_step rfl (s_val (v_move rfl) rfl rfl ?_)
   refine g_step rfl (s_val (v_move rfl) rfl rfl ?_)
   refine g_step rfl (s_val (v_indexAddr ty41 ty3 rfl rfl (by first | rfl | assumption) (by first | rfl | exact (rfl : (0 : Int) = ((0 : Nat) : Int)) | exact (Int.toNat_of_nonneg (by omega)).symm) (by first | assumption | exact map_get (by assumption) | rfl) rfl) rfl rfl ?_)
   refine g_step rfl (s_val (by first | exact v_load ty3 rfl rfl (by first | rfl | assumption) (by first | assumption | exact map_get (by assumption) | rfl) rfl | exact v_load_box ty3 rfl rfl (by assumption) rfl) rfl rfl ?_)
   refine g_step rfl (s_lit ty41 ty3 rfl rfl rfl rfl rfl rfl rfl ?_)
   refine g_step rfl (s_append (l := ((stay there (l.take k)).map (.int .i64))) (m := ([y].map (.int .i64))) ty41 ty3 rfl rfl hown rfl rfl (by refine Even.map _ ?_ _; intro _; rfl) (by intro x hx; obtain ⟨_, _, rfl⟩ := List.mem_map.1 hx; rfl) rfl (by simp; omega) (by simp; omega) ?_)
   intro av25 G25 h25
   refine g_step rfl (s_val (v_assign rfl) rfl rfl ?_)
   refine g_nil ?_
   refine g_block_normal ?_
   refine g_next hK6 ?_
   refine g_region ?_
   refine g_step rfl (s_val (v_move rfl) rfl rfl ?_)
   refine g_step rfl (s_val (v_add rfl rfl (by omega)) rfl rfl ?_)
   refine g_step rfl (s_val (v_assign rfl) rfl rfl ?_)
   refine g_nil ?_
   first | refine g_keep [0, 1, 5, 6] [] [] (keep_cons rfl (keep_cons rfl (keep_cons rfl (keep_cons rfl keep_nil)))) lkeep_nil keep_nil rfl ?_ | refine g_keep [0, 1, 5, 6] [] [] rfl rfl rfl rfl ?_
   first | exact g_round _ (by omega) ⟨k + 1, av25, by omega, rfl, rfl, rfl, rfl, by rw [stay_snoc hy, if_pos (by first | exact hc18 | simpa using hc18), List.map_append]; exact h25⟩ | exact g_round _ (by omega) ⟨k + 1, av5, by omega, rfl, rfl, rfl, rfl, by rw [stay_snoc hy, if_neg (by first | exact hc18 | simpa using hc18), List.append_nil]; exact hown⟩
  ·
   try simp only [decide_eq_true_eq, decide_eq_false_iff_not, Bool.not_eq_true', Bool.not_eq_false', Bool.not_eq_eq_eq_not, Bool.not_true, Bool.not_false, Bool.and_eq_true, Bool.or_eq_true, Bool.or_eq_false_iff, beq_iff_eq, beq_eq_false_iff_ne, ne_eq, Int.not_lt, Int.not_le, Decidable.not_not] at hc18
   refine g_skip ?_
   refine g_block_normal ?_
   refine g_next hK6 ?_
   refine g_region ?_
   refine g_step rfl (s_val (v_move rfl) rfl rfl ?_)
   refine g_step rfl (s_val (v_add rfl rfl (by omega)) rfl rfl ?_)
   refine g_step rfl (s_val (v_assign rfl) rfl rfl ?_)
   refine g_nil ?_
   first | refine g_keep [0, 1, 5, 6] [] [] (keep_cons rfl (keep_cons rfl (keep_cons rfl (keep_cons rfl keep_nil)))) lkeep_nil keep_nil rfl ?_ | refine g_keep [0, 1, 5, 6] [] [] rfl rfl rfl rfl ?_
   first | exact g_round _ (by omega) ⟨k + 1, av25, by omega, rfl, rfl, rfl, rfl, by rw [stay_snoc hy, if_pos (by first | exact hc18 | simpa using hc18), List.map_append]; exact h25⟩ | exact g_round _ (by omega) ⟨k + 1, av5, by omega, rfl, rfl, rfl, rfl, by rw [stay_snoc hy, if_neg (by first | exact hc18 | simpa using hc18), List.append_nil]; exact hown⟩
 ·
  try simp only [decide_eq_true_eq, decide_eq_false_iff_not, Bool.not_eq_true', Bool.not_eq_false', Bool.not_eq_eq_eq_not, Bool.not_true, Bool.not_false, Bool.and_eq_true, Bool.or_eq_true, Bool.or_eq_false_iff, beq_iff_eq, beq_eq_false_iff_ne, ne_eq, Int.not_lt, Int.not_le, Decidable.not_not] at hc10
  obtain rfl : k = l.length := by omega
  rw [List.take_length] at hown
  refine g_exit ?_
  refine g_then_exit ?_
  refine g_then_exit ?_
  refine g_block_same ?_
  refine g_next hK2 ?_
  refine g_seq (fun K8 hK8 => ?_)
  refine g_region ?_
  obtain ⟨e, he1, he2, he3⟩ := hown.effs
  refine g_step rfl (s_val (v_move rfl) rfl rfl ?_)
  refine g_step rfl (s_val (v_assign rfl) rfl rfl ?_)
  refine g_nil ?_
  refine g_next hK8 ?_
  refine g_ret ?_
  refine g_end1 (.inl rfl) Try.results27 (.tmp rfl) e (ASub.refl _) (by rw [he3]; exact AHeap.sub_refl _) (fun q hq => .inr (he2 q hq)) he1

theorem among_ok (l there : List Int) (G : AHeap) (va vb : AV) (hva : va.view G = some (l.map (.int .i64))) (hvb : vb.view G = some (there.map (.int .i64))) (hl : l.length ≤ 100000) (hlb : there.length ≤ 100000) : PCalls Try.prog 27 [va, vb] G (fun v => v = .imm ((stay there l).map (.int .i64))) := LCalls.freeze (amongO l there G va vb hva hvb hl hlb)
theorem put20_ok (l : List Int) (i : Nat) (zi x : Int) (hzi : zi = (i : Int)) (hi : i ≤ l.length) (hl : l.length ≤ 100000) (G : AHeap) : PCalls Try.prog 28 [.imm (l.map (.int .i64)), .int .i64 zi, .int .i64 x] G (fun v => v = .imm ((insAt l i x).map (.int .i64))) := by
 refine LCalls.intro 22 fi28 rfl Try.ntmps28 rfl (fun _ h => h.elim) (fun H hH w0 hw0 => ?_)
 subst hzi
 refine g_seq (fun K0 hK0 => ?_)
 refine g_region ?_
 refine g_step rfl (s_val (v_assign rfl) rfl rfl ?_)
 refine g_nil ?_
 refine g_next hK0 ?_
 refine g_seq (fun K1 hK1 => ?_)
 refine g_region ?_
 refine g_step rfl (s_lit0 ty41 ty3 rfl ?_)
 refine g_step rfl (s_val (v_move rfl) rfl rfl ?_)
 refine g_step rfl (s_val (v_move rfl) rfl rfl ?_)
 refine g_step rfl (s_val (v_slice_imm (lo := 0) (hi := i) (m := ((l.take i).map (.int .i64))) ty41 ty3 rfl rfl rfl (by first | rfl | (exact (rfl : (0 : Int) = ((0 : Nat) : Int))) | omega | (simp <;> omega)) rfl (by first | omega | (simp <;> omega)) (by first | omega | (simp <;> omega)) (by refine Even.map _ ?_ _; intro _; rfl) (by rw [List.drop_zero, ← List.map_take])) rfl rfl ?_)
 refine g_step rfl (s_append (l := []) (m := ((l.take i).map (.int .i64))) ty41 ty3 rfl rfl (Own.nil ..) rfl rfl (by refine Even.map _ ?_ _; intro _; rfl) (by intro x hx; obtain ⟨_, _, rfl⟩ := List.mem_map.1 hx; rfl) rfl (by simp; omega) (by simp; omega) ?_)
 intro av12 G12 h12
 rw [List.nil_append] at h12
 refine g_step rfl (s_val (v_assign rfl) rfl rfl ?_)
 refine g_nil ?_
 refine g_next hK1 ?_
 refine g_seq (fun K2 hK2 => ?_)
 refine g_region ?_
 refine g_step rfl (s_val (v_move rfl) rfl rfl ?_)
 refine g_step rfl (s_val (v_move rfl) rfl rfl ?_)
 refine g_step rfl (s_lit ty41 ty3 rfl rfl rfl rfl rfl rfl rfl ?_)
 refine g_step rfl (s_append (l := ((l.take i).map (.int .i64))) (m := ([x].map (.int .i64))) ty41 ty3 rfl rfl h12 rfl rfl (by refine Even.map _ ?_ _; intro _; rfl) (by intro x hx; obtain ⟨_, _, rfl⟩ := List.mem_map.1 hx; rfl) rfl (by simp; omega) (by simp; omega) ?_)
 intro av16 G16 h16
 rw [← List.map_append] at h16
 refine g_step rfl (s_val (v_assign rfl) rfl rfl ?_)
 refine g_nil ?_
 refine g_next hK2 ?_
 refine g_seq (fun K3 hK3 => ?_)
 refine g_region ?_
 refine g_step rfl (s_val (v_move rfl) rfl rfl ?_)
 refine g_step rfl (s_val (v_move rfl) rfl rfl ?_)
 refine g_step rfl (s_val (v_move rfl) rfl rfl ?_)
 refine g_step rfl (s_val (v_slice_imm (lo := i) (hi := l.length) (m := ((l.drop i).map (.int .i64))) ty41 ty3 rfl rfl rfl (by first | rfl | (exact (rfl : (0 : Int) = ((0 : Nat) : Int))) | omega | (simp <;> omega)) (by simp) (by omega) (by simp) (by refine Even.map _ ?_ _; intro _; rfl) (by rw [List.take_of_length_le (by simp), ← List.map_drop])) rfl rfl ?_)
 refine g_step rfl (s_append (l := ((l.take i ++ [x]).map (.int .i64))) (m := ((l.drop i).map (.int .i64))) ty41 ty3 rfl rfl h16 rfl rfl (by refine Even.map _ ?_ _; intro _; rfl) (by intro x hx; obtain ⟨_, _, rfl⟩ := List.mem_map.1 hx; rfl) rfl (by simp; omega) (by simp; omega) ?_)
 intro av21 G21 h21
 rw [← List.map_append] at h21
 refine g_freeze 21 rfl h21 ?_
 refine g_step rfl (s_val (v_assign rfl) rfl rfl ?_)
 refine g_nil ?_
 refine g_next hK3 ?_
 refine g_ret ?_
 refine g_end1 (.inl rfl) Try.results28 (.tmp rfl) [] (ASub.refl _) (AHeap.sub_refl _) (fun p hp => by cases hp) ⟨rfl, ?_⟩
 rfl

theorem rising_ok (l : List Int) (G : AHeap) (va : AV) (hva : va.view G = some (l.map (.int .i64))) (hl : l.length ≤ 100000) : PCalls Try.prog 25 [va] G (fun v => v = .imm ((setOf l).map (.int .i64))) := by
 refine LCalls.intro 44 fi25 rfl Try.ntmps25 rfl (fun _ h => h.elim) (fun H hH w0 hw0 => ?_)
 have hva := view_sub hH hva
 refine g_seq (fun K0 hK0 => ?_)
 refine g_region ?_
 refine g_step rfl (s_val (v_assign rfl) rfl rfl ?_)
 refine g_nil ?_
 refine g_next hK0 ?_
 refine g_seq (fun K1 hK1 => ?_)
 refine g_region ?_
 refine g_step rfl (s_val (v_assign rfl) rfl rfl ?_)
 refine g_nil ?_
 refine g_next hK1 ?_
 refine g_seq (fun K2 hK2 => ?_)
 refine g_seq (fun K3 hK3 => ?_)
 refine g_region ?_
 refine g_sub 3 rfl ASub.nil0 ?_
 rw [show ([] : List AV) = ([] : List Int).map (.int .i64) from rfl]
 refine g_step rfl (s_val (v_assign rfl) rfl rfl ?_)
 refine g_nil ?_
 refine g_next hK3 ?_
 refine g_block ?_
 first | refine g_keep [0, 3, 4] [] [] (keep_cons rfl (keep_cons rfl (keep_cons rfl keep_nil))) lkeep_nil keep_nil rfl ?_ | refine g_keep [0, 3, 4] [] [] rfl rfl rfl rfl ?_
 refine g_loop (fun n env L B G => ∃ (k : Nat) (o : List Int), k ≤ l.length ∧ n = l.length - k ∧ env = [(0, va), (3, .imm (o.map (.int .i64))), (4, .int .i64 (k : Int))] ∧ L = [] ∧ B = [] ∧ H = G ∧ o = (setOf (l.take k))) (l.length) ⟨0, [], Nat.zero_le _, rfl, rfl, rfl, rfl, rfl, by rw [List.take_zero, setOf_nil]⟩ (fun n env L B G hI => ?_)
 obtain ⟨k, o, hk, rfl, rfl, rfl, rfl, rfl, ho⟩ := hI
 have hol : o.length ≤ l.length := by rw [ho]; exact take_all_len
 refine g_seq (fun K4 hK4 => ?_)
 refine g_seq (fun K5 hK5 => ?_)
 refine g_region ?_
 refine g_step rfl (s_val (v_move rfl) rfl rfl ?_)
 refine g_step rfl (s_val (v_move rfl) rfl rfl ?_)
 refine g_step rfl (s_val (v_len ty41 rfl (by first | rfl | assumption) (by first | exact List.length_map .. | rfl)) rfl rfl ?_)
 refine g_step rfl (s_val (v_lss rfl rfl) rfl rfl ?_)
 refine g_nil ?_
 refine g_next hK5 ?_
 refine g_cond rfl (fun hc9 => ?_) (fun hc9 => ?_)
 ·
  try simp only [decide_eq_true_eq, decide_eq_false_iff_not, Bool.not_eq_true', Bool.not_eq_false', Bool.not_eq_eq_eq_not, Bool.not_true, Bool.not_false, Bool.and_eq_true, Bool.or_eq_true, Bool.or_eq_false_iff, beq_iff_eq, beq_eq_false_iff_ne, ne_eq, Int.not_lt, Int.not_le, Decidable.not_not] at hc9
  obtain ⟨x, hx⟩ := get_some (l := l) (k := k) (by omega)
  refine g_skip ?_
  refine g_next hK4 ?_
  refine g_seq (fun K6 hK6 => ?_)
  refine g_block ?_
  refine g_seq (fun K7 hK7 => ?_)
  refine g_region ?_
  refine g_step rfl (s_val (v_move rfl) rfl rfl ?_)
  refine g_step rfl (s_val (v_move rfl) rfl rfl ?_)
  refine g_step rfl (s_val (v_move rfl) rfl rfl ?_)
  refine g_step rfl (s_val (v_indexAddr ty41 ty3 rfl rfl (by first | rfl | assumption) (by first | rfl | exact (rfl : (0 : Int) = ((0 : Nat) : Int)) | exact (Int.toNat_of_nonneg (by omega)).symm) (by first | assumption | exact map_get (by assumption) | rfl) rfl) rfl rfl ?_)
  refine g_step rfl (s_val (by first | exact v_load ty3 rfl rfl (by first | rfl | assumption) (by first | assumption | exact map_get (by assumption) | rfl) rfl | exact v_load_box ty3 rfl rfl (by assumption) rfl) rfl rfl ?_)
  refine g_step rfl (s_callp rfl rfl rfl (has20_ok o x _ _ rfl (by omega)) ?_)
  rintro _ rfl
  refine g_step rfl (s_val (v_not rfl) rfl rfl ?_)
  refine g_nil ?_
  refine g_next hK7 ?_
  refine g_cond rfl (fun hc18 => ?_) (fun hc18 => ?_)
  ·
   try simp only [decide_eq_true_eq, decide_eq_false_iff_not, Bool.not_eq_true', Bool.not_eq_false', Bool.not_eq_eq_eq_not, Bool.not_true, Bool.not_false, Bool.and_eq_true, Bool.or_eq_true, Bool.or_eq_false_iff, beq_iff_eq, beq_eq_false_iff_ne, ne_eq, Int.not_lt, Int.not_le, Decidable.not_not] at hc18
   refine g_seq (fun K8 hK8 => ?_)
   refine g_region ?_
   refine g_step rfl (s_val (v_assign rfl) rfl rfl ?_)
   refine g_nil ?_
   refine g_next hK8 ?_
   refine g_cut (fun env L B G => ∃ (i : Nat), env = [(0, va), (3, .imm (o.map (.int .i64))), (4, .int .i64 (k : Int)), (5, .int .i64 (i : Int))] ∧ L = [] ∧ B = [] ∧ H = G ∧ i ≤ o.length ∧ (∀ z ∈ o.take i, z < x) ∧ (∀ z ∈ o.drop i, x ≤ z)) ?_ (fun env L B G hI => ?_)
   ·
    refine g_block ?_
    first | refine g_keep [0, 3, 4, 5] [] [] (keep_cons rfl (keep_cons rfl (keep_cons rfl (keep_cons rfl keep_nil)))) lkeep_nil keep_nil rfl ?_ | refine g_keep [0, 3, 4, 5] [] [] rfl rfl rfl rfl ?_
    refine g_loop (fun n env L B G => ∃ (i : Nat) , i ≤ o.length ∧ n = o.length - i ∧ env = [(0, va), (3, .imm (o.map (.int .i64))), (4, .int .i64 (k : Int)), (5, .int .i64 (i : Int))] ∧ L = [] ∧ B = [] ∧ H = G ∧ ∀ z ∈ o.take i, z < x) (o.length) ⟨0, Nat.zero_le _, rfl, rfl, rfl, rfl, rfl, by intro z hz; simp at hz⟩ (fun n env L B G hI => ?_)
    obtain ⟨i, hi, rfl, rfl, rfl, rfl, rfl, hlo⟩ := hI
    refine g_seq (fun K9 hK9 => ?_)
    refine g_seq (fun K10 hK10 => ?_)
    refine g_draw (n := 15) (fun j => !([] : List Nat).contains j) rfl rfl ?_
    refine m_take 0 false rfl rfl (by kernel_rfl) (by kernel_rfl) (by kernel_rfl) (fun _ _ _ _ h => h) (v_move rfl) rfl rfl ?_
    refine m_take 1 false rfl rfl (by kernel_rfl) (by kernel_rfl) (by kernel_rfl) (fun _ _ _ _ h => h) (v_move rfl) rfl rfl ?_
    refine m_take 2 false rfl rfl (by kernel_rfl) (by kernel_rfl) (by kernel_rfl) (fun _ _ _ _ h => h) (v_len ty41 rfl (by first | rfl | assumption) (by first | exact List.length_map .. | rfl)) rfl rfl ?_
    refine m_take 3 false rfl rfl (by kernel_rfl) (by kernel_rfl) (by kernel_rfl) (fun _ _ _ _ h => h) (v_lss rfl rfl) rfl rfl ?_
    refine m_take 4 false rfl rfl (by kernel_rfl) (by kernel_rfl) (by kernel_rfl) (fun _ _ _ _ h => h) (v_move rfl) rfl rfl ?_
    refine m_split 23 rfl (fun hg23 => ?_) (fun hg23 => ?_)
    ·
     try simp only [decide_eq_true_eq, decide_eq_false_iff_not, Bool.not_eq_true', Bool.not_eq_false', Bool.not_eq_eq_eq_not, Bool.not_true, Bool.not_false, Bool.and_eq_true, Bool.or_eq_true, Bool.or_eq_false_iff, beq_iff_eq, beq_eq_false_iff_ne, ne_eq, Int.not_lt, Int.not_le, Decidable.not_not] at hg23
     obtain ⟨z, hz⟩ := get_some (l := o) (k := i) (by omega)
     refine m_take_yes (j := 4) (t := 23) 5 false rfl rfl rfl rfl rfl (by kernel_rfl) (by kernel_rfl) (by kernel_rfl) (fun _ _ _ _ h => h) (v_move rfl) rfl rfl ?_
     refine m_take_yes (j := 4) (t := 23) 6 false rfl rfl rfl rfl rfl (by kernel_rfl) (by kernel_rfl) (by kernel_rfl) (fun _ _ _ _ h => h) (v_move rfl) rfl rfl ?_
     refine m_take_yes (j := 4) (t := 23) 7 false rfl rfl rfl rfl rfl (by kernel_rfl) (by kernel_rfl) (by kernel_rfl) (fun _ _ _ _ h => h) (v_indexAddr ty41 ty3 rfl rfl rfl (by first | rfl | exact (rfl : (0 : Int) = ((0 : Nat) : Int)) | exact (Int.toNat_of_nonneg (by omega)).symm) (map_get hz) rfl) rfl rfl ?_
     refine m_take_yes (j := 4) (t := 23) 8 true rfl rfl rfl rfl rfl (by kernel_rfl) (by kernel_rfl) (by kernel_rfl) (fun _ _ _ _ h => h) (by first | exact v_load ty3 rfl rfl rfl (map_get hz) rfl | exact v_load_box ty3 rfl rfl (by assumption) rfl) rfl rfl ?_
     refine m_take_yes (j := 4) (t := 23) 9 false rfl rfl rfl rfl rfl (by kernel_rfl) (by kernel_rfl) (by kernel_rfl) (fun _ _ _ _ h => h) (v_move rfl) rfl rfl ?_
     refine m_take_yes (j := 4) (t := 23) 10 false rfl rfl rfl rfl rfl (by kernel_rfl) (by kernel_rfl) (by kernel_rfl) (fun _ _ _ _ h => h) (v_move rfl) rfl rfl ?_
     refine m_take_yes (j := 4) (t := 23) 11 false rfl rfl rfl rfl rfl (by kernel_rfl) (by kernel_rfl) (by kernel_rfl) (fun _ _ _ _ h => h) (v_indexAddr ty41 ty3 rfl rfl hva (by first | rfl | exact (rfl : (0 : Int) = ((0 : Nat) : Int)) | exact (Int.toNat_of_nonneg (by omega)).symm) (map_get hx) rfl) rfl rfl ?_
     refine m_take_yes (j := 4) (t := 23) 12 true rfl rfl rfl rfl rfl (by kernel_rfl) (by kernel_rfl) (by kernel_rfl) (fun _ _ _ _ h => h) (by first | exact v_load ty3 rfl rfl hva (map_get hx) rfl | exact v_load_box ty3 rfl rfl (by assumption) rfl) rfl rfl ?_
     refine m_take_yes (j := 4) (t := 23) 13 false rfl rfl rfl rfl rfl (by kernel_rfl) (by kernel_rfl) (by kernel_rfl) (fun _ _ _ _ h => h) (v_lss rfl rfl) rfl rfl ?_
     refine m_take 14 false rfl rfl (by kernel_rfl) (by kernel_rfl) (by kernel_rfl) (fun _ _ _ _ h => h) (v_pick_t rfl rfl) rfl rfl ?_
     refine m_done (by kernel_rfl) ?_
     refine g_next hK10 ?_
     refine g_cond rfl (fun hc33 => ?_) (fun hc33 => ?_)
     ·
      try simp only [decide_eq_true_eq, decide_eq_false_iff_not, Bool.not_eq_true', Bool.not_eq_false', Bool.not_eq_eq_eq_not, Bool.not_true, Bool.not_false, Bool.and_eq_true, Bool.or_eq_true, Bool.or_eq_false_iff, beq_iff_eq, beq_eq_false_iff_ne, ne_eq, Int.not_lt, Int.not_le, Decidable.not_not] at hc33
      refine g_skip ?_
      refine g_next hK9 ?_
      refine g_block ?_
      refine g_region ?_
      refine g_step rfl (s_val (v_move rfl) rfl rfl ?_)
      refine g_step rfl (s_val (v_add rfl rfl (by omega)) rfl rfl ?_)
      refine g_step rfl (s_val (v_assign rfl) rfl rfl ?_)
      refine g_nil ?_
      refine g_block_normal ?_
      first | refine g_keep [0, 3, 4, 5] [] [] (keep_cons rfl (keep_cons rfl (keep_cons rfl (keep_cons rfl keep_nil)))) lkeep_nil keep_nil rfl ?_ | refine g_keep [0, 3, 4, 5] [] [] rfl rfl rfl rfl ?_
      exact g_round _ (by omega) ⟨i + 1, by omega, rfl, rfl, rfl, rfl, rfl, allT_lt hlo hz (by assumption)⟩
     ·
      try simp only [decide_eq_true_eq, decide_eq_false_iff_not, Bool.not_eq_true', Bool.not_eq_false', Bool.not_eq_eq_eq_not, Bool.not_true, Bool.not_false, Bool.and_eq_true, Bool.or_eq_true, Bool.or_eq_false_iff, beq_iff_eq, beq_eq_false_iff_ne, ne_eq, Int.not_lt, Int.not_le, Decidable.not_not] at hc33
      refine g_exit ?_
      refine g_then_exit ?_
      refine g_then_exit ?_
      refine g_block_same ?_
      first | refine g_keep [0, 3, 4, 5] [] [] (keep_cons rfl (keep_cons rfl (keep_cons rfl (keep_cons rfl keep_nil)))) lkeep_nil keep_nil rfl ?_ | refine g_keep [0, 3, 4, 5] [] [] rfl rfl rfl rfl ?_
      first | exact g_has ⟨i, rfl, rfl, rfl, rfl, ⟨by omega, hlo, drop_ge (by rw [ho]; exact (setOf_rise _).1) (fun y hy => by rw [hz] at hy; injection hy with hy; subst hy; omega)⟩⟩ | exact g_has ⟨i, rfl, rfl, rfl, rfl, ⟨by omega, hlo, drop_ge (by rw [ho]; exact (setOf_rise _).1) (fun y hy => by have := (List.getElem?_eq_some_iff.1 hy).1; omega)⟩⟩
    ·
     try simp only [decide_eq_true_eq, decide_eq_false_iff_not, Bool.not_eq_true', Bool.not_eq_false', Bool.not_eq_eq_eq_not, Bool.not_true, Bool.not_false, Bool.and_eq_true, Bool.or_eq_true, Bool.or_eq_false_iff, beq_iff_eq, beq_eq_false_iff_ne, ne_eq, Int.not_lt, Int.not_le, Decidable.not_not] at hg23
     refine m_take_no (j := 4) (t := 23) 5 rfl rfl rfl rfl rfl rfl (by kernel_rfl) (by kernel_rfl) (by kernel_rfl) (fun _ _ _ _ h => h) rfl rfl ?_
     refine m_take_no (j := 4) (t := 23) 6 rfl rfl rfl rfl rfl rfl (by kernel_rfl) (by kernel_rfl) (by kernel_rfl) (fun _ _ _ _ h => h) rfl rfl ?_
     refine m_take_no (j := 4) (t := 23) 7 rfl rfl rfl rfl rfl rfl (by kernel_rfl) (by kernel_rfl) (by kernel_rfl) (fun _ _ _ _ h => h) rfl rfl ?_
     refine m_take_no (j := 4) (t := 23) 8 rfl rfl rfl rfl rfl rfl (by kernel_rfl) (by kernel_rfl) (by kernel_rfl) (fun _ _ _ _ h => h) rfl rfl ?_
     refine m_take_no (j := 4) (t := 23) 9 rfl rfl rfl rfl rfl rfl (by kernel_rfl) (by kernel_rfl) (by kernel_rfl) (fun _ _ _ _ h => h) rfl rfl ?_
     refine m_take_no (j := 4) (t := 23) 10 rfl rfl rfl rfl rfl rfl (by kernel_rfl) (by kernel_rfl) (by kernel_rfl) (fun _ _ _ _ h => h) rfl rfl ?_
     refine m_take_no (j := 4) (t := 23) 11 rfl rfl rfl rfl rfl rfl (by kernel_rfl) (by kernel_rfl) (by kernel_rfl) (fun _ _ _ _ h => h) rfl rfl ?_
     refine m_take_no (j := 4) (t := 23) 12 rfl rfl rfl rfl rfl rfl (by kernel_rfl) (by kernel_rfl) (by kernel_rfl) (fun _ _ _ _ h => h) rfl rfl ?_
     refine m_take_no (j := 4) (t := 23) 13 rfl rfl rfl rfl rfl rfl (by kernel_rfl) (by kernel_rfl) (by kernel_rfl) (fun _ _ _ _ h => h) rfl rfl ?_
     refine m_take 14 false rfl rfl (by kernel_rfl) (by kernel_rfl) (by kernel_rfl) (fun _ _ _ _ h => h) (v_pick_f rfl rfl) rfl rfl ?_
     refine m_done (by kernel_rfl) ?_
     refine g_next hK10 ?_
     refine g_cond rfl (fun h => by cases h) (fun _ => ?_)
     refine g_exit ?_
     refine g_then_exit ?_
     refine g_then_exit ?_
     refine g_block_same ?_
     first | refine g_keep [0, 3, 4, 5] [] [] (keep_cons rfl (keep_cons rfl (keep_cons rfl (keep_cons rfl keep_nil)))) lkeep_nil keep_nil rfl ?_ | refine g_keep [0, 3, 4, 5] [] [] rfl rfl rfl rfl ?_
     first | exact g_has ⟨i, rfl, rfl, rfl, rfl, ⟨by omega, hlo, drop_ge (by rw [ho]; exact (setOf_rise _).1) (fun y hy => by rw [hz] at hy; injection hy with hy; subst hy; omega)⟩⟩ | exact g_has ⟨i, rfl, rfl, rfl, rfl, ⟨by omega, hlo, drop_ge (by rw [ho]; exact (setOf_rise _).1) (fun y hy => by have := (List.getElem?_eq_some_iff.1 hy).1; omega)⟩⟩
   ·
    obtain ⟨i, rfl, rfl, rfl, rfl, hio, hlo, hhi⟩ := hI
    refine g_region ?_
    refine g_step rfl (s_val (v_move rfl) rfl rfl ?_)
    refine g_step rfl (s_val (v_move rfl) rfl rfl ?_)
    refine g_step rfl (s_val (v_move rfl) rfl rfl ?_)
    refine g_step rfl (s_val (v_move rfl) rfl rfl ?_)
    refine g_step rfl (s_val (v_indexAddr ty41 ty3 rfl rfl (by first | rfl | assumption) (by first | rfl | exact (rfl : (0 : Int) = ((0 : Nat) : Int)) | exact (Int.toNat_of_nonneg (by omega)).symm) (by first | assumption | exact map_get (by assumption) | rfl) rfl) rfl rfl ?_)
    refine g_step rfl (s_val (by first | exact v_load ty3 rfl rfl (by first | rfl | assumption) (by first | assumption | exact map_get (by assumption) | rfl) rfl | exact v_load_box ty3 rfl rfl (by assumption) rfl) rfl rfl ?_)
    refine g_step rfl (s_callp rfl rfl rfl (put20_ok o i (i : Int) x rfl hio (by omega) _) ?_)
    rintro _ rfl
    refine g_step rfl (s_val (v_assign rfl) rfl rfl ?_)
    refine g_nil ?_
    refine g_block_normal ?_
    refine g_next hK6 ?_
    refine g_region ?_
    refine g_step rfl (s_val (v_move rfl) rfl rfl ?_)
    refine g_step rfl (s_val (v_add rfl rfl (by omega)) rfl rfl ?_)
    refine g_step rfl (s_val (v_assign rfl) rfl rfl ?_)
    refine g_nil ?_
    first | refine g_keep [0, 3, 4] [] [] (keep_cons rfl (keep_cons rfl (keep_cons rfl keep_nil))) lkeep_nil keep_nil rfl ?_ | refine g_keep [0, 3, 4] [] [] rfl rfl rfl rfl ?_
    first | exact g_round _ (by omega) ⟨k + 1, (insAt o i x), by omega, rfl, rfl, rfl, rfl, rfl, by rw [ho, setOf_new hx (by rw [← ho]; first | exact hc18 | simpa using hc18) (by rw [← ho]; exact hlo) (by rw [← ho]; exact hhi)]⟩ | exact g_round _ (by omega) ⟨k + 1, o, by omega, rfl, rfl, rfl, rfl, rfl, by rw [ho, setOf_in hx (by rw [← ho]; first | exact hc18 | simpa using hc18)]⟩
  ·
   try simp only [decide_eq_true_eq, decide_eq_false_iff_not, Bool.not_eq_true', Bool.not_eq_false', Bool.not_eq_eq_eq_not, Bool.not_true, Bool.not_false, Bool.and_eq_true, Bool.or_eq_true, Bool.or_eq_false_iff, beq_iff_eq, beq_eq_false_iff_ne, ne_eq, Int.not_lt, Int.not_le, Decidable.not_not] at hc18
   refine g_skip ?_
   refine g_block_normal ?_
   refine g_next hK6 ?_
   refine g_region ?_
   refine g_step rfl (s_val (v_move rfl) rfl rfl ?_)
   refine g_step rfl (s_val (v_add rfl rfl (by omega)) rfl rfl ?_)
   refine g_step rfl (s_val (v_assign rfl) rfl rfl ?_)
   refine g_nil ?_
   first | refine g_keep [0, 3, 4] [] [] (keep_cons rfl (keep_cons rfl (keep_cons rfl keep_nil))) lkeep_nil keep_nil rfl ?_ | refine g_keep [0, 3, 4] [] [] rfl rfl rfl rfl ?_
   first | exact g_round _ (by omega) ⟨k + 1, (insAt o i x), by omega, rfl, rfl, rfl, rfl, rfl, by rw [ho, setOf_new hx (by rw [← ho]; first | exact hc18 | simpa using hc18) (by rw [← ho]; exact hlo) (by rw [← ho]; exact hhi)]⟩ | exact g_round _ (by omega) ⟨k + 1, o, by omega, rfl, rfl, rfl, rfl, rfl, by rw [ho, setOf_in hx (by rw [← ho]; first | exact hc18 | simpa using hc18)]⟩
 ·
  try simp only [decide_eq_true_eq, decide_eq_false_iff_not, Bool.not_eq_true', Bool.not_eq_false', Bool.not_eq_eq_eq_not, Bool.not_true, Bool.not_false, Bool.and_eq_true, Bool.or_eq_true, Bool.or_eq_false_iff, beq_iff_eq, beq_eq_false_iff_ne, ne_eq, Int.not_lt, Int.not_le, Decidable.not_not] at hc9
  obtain rfl : k = l.length := by omega
  rw [List.take_length] at ho
  refine g_exit ?_
  refine g_then_exit ?_
  refine g_then_exit ?_
  refine g_block_same ?_
  refine g_next hK2 ?_
  refine g_seq (fun K11 hK11 => ?_)
  refine g_region ?_
  refine g_step rfl (s_val (v_move rfl) rfl rfl ?_)
  refine g_step rfl (s_val (v_assign rfl) rfl rfl ?_)
  refine g_nil ?_
  refine g_next hK11 ?_
  refine g_ret ?_
  refine g_end1 (.inl rfl) Try.results25 (.tmp rfl) [] (ASub.refl _) (AHeap.sub_refl _) (fun p hp => by cases hp) ⟨rfl, ?_⟩
  first | (rw [ho]; done) | (rw [ho]; rfl)

theorem same20_ok (l m : List Int) (G : AHeap) (va vb : AV) (hva : va.view G = some (l.map (.int .i64))) (hvb : vb.view G = some (m.map (.int .i64))) (hl : l.length ≤ 100000) (hm : m.length ≤ 100000) : PCalls Try.prog 31 [va, vb] G (fun v => v = .bool (decide (l = m))) := by
 refine LCalls.intro 26 fi31 rfl Try.ntmps31 rfl (fun _ h => h.elim) (fun H hH w0 hw0 => ?_)
 have hva := view_sub hH hva
 have hvb := view_sub hH hvb
 refine g_seq (fun K0 hK0 => ?_)
 refine g_region ?_
 refine g_step rfl (s_val (v_assign rfl) rfl rfl ?_)
 refine g_nil ?_
 refine g_next hK0 ?_
 refine g_seq (fun K1 hK1 => ?_)
 refine g_seq (fun K2 hK2 => ?_)
 refine g_region ?_
 refine g_step rfl (s_val (v_move rfl) rfl rfl ?_)
 refine g_step rfl (s_val (v_len ty41 rfl (by first | rfl | assumption) (by first | exact List.length_map .. | rfl)) rfl rfl ?_)
 refine g_step rfl (s_val (v_move rfl) rfl rfl ?_)
 refine g_step rfl (s_val (v_len ty41 rfl (by first | rfl | assumption) (by first | exact List.length_map .. | rfl)) rfl rfl ?_)
 refine g_step rfl (s_val (v_neq rfl rfl) rfl rfl ?_)
 refine g_nil ?_
 refine g_next hK2 ?_
 refine g_cond rfl (fun hc10 => ?_) (fun hc10 => ?_)
 ·
  try simp only [decide_eq_true_eq, decide_eq_false_iff_not, Bool.not_eq_true', Bool.not_eq_false', Bool.not_eq_eq_eq_not, Bool.not_true, Bool.not_false, Bool.and_eq_true, Bool.or_eq_true, Bool.or_eq_false_iff, beq_iff_eq, beq_eq_false_iff_ne, ne_eq, Int.not_lt, Int.not_le, Decidable.not_not] at hc10
  have hne : decide (l = m) = false := decide_eq_false fun e => hc10 (by rw [e])
  refine g_seq (fun K3 hK3 => ?_)
  refine g_region ?_
  refine g_step rfl (s_val (v_assign rfl) rfl rfl ?_)
  refine g_nil ?_
  refine g_next hK3 ?_
  refine g_ret ?_
  refine g_then_ret ?_
  refine g_end1 (.inl rfl) Try.results31 (.tmp rfl) [] (ASub.refl _) (AHeap.sub_refl _) (fun p hp => by cases hp) ⟨rfl, ?_⟩
  first | (rw [hne]; done) | (rw [hne]; rfl)
 ·
  try simp only [decide_eq_true_eq, decide_eq_false_iff_not, Bool.not_eq_true', Bool.not_eq_false', Bool.not_eq_eq_eq_not, Bool.not_true, Bool.not_false, Bool.and_eq_true, Bool.or_eq_true, Bool.or_eq_false_iff, beq_iff_eq, beq_eq_false_iff_ne, ne_eq, Int.not_lt, Int.not_le, Decidable.not_not] at hc10
  refine g_skip ?_
  refine g_next hK1 ?_
  refine g_seq (fun K4 hK4 => ?_)
  refine g_seq (fun K5 hK5 => ?_)
  refine g_region ?_
  refine g_step rfl (s_val (v_assign rfl) rfl rfl ?_)
  refine g_nil ?_
  refine g_next hK5 ?_
  refine g_block ?_
  first | refine g_keep [0, 1, 5] [] [] (keep_cons rfl (keep_cons rfl (keep_cons rfl keep_nil))) lkeep_nil keep_nil rfl ?_ | refine g_keep [0, 1, 5] [] [] rfl rfl rfl rfl ?_
  refine g_loop (fun n env L B G => ∃ (k : Nat) , k ≤ l.length ∧ n = l.length - k ∧ env = [(0, va), (1, vb), (5, .int .i64 (k : Int))] ∧ L = [] ∧ B = [] ∧ H = G ∧ l.take k = m.take k) (l.length) ⟨0, Nat.zero_le _, rfl, rfl, rfl, rfl, rfl, rfl⟩ (fun n env L B G hI => ?_)
  obtain ⟨k, hk, rfl, rfl, rfl, rfl, rfl, ht⟩ := hI
  refine g_seq (fun K6 hK6 => ?_)
  refine g_seq (fun K7 hK7 => ?_)
  refine g_region ?_
  refine g_step rfl (s_val (v_move rfl) rfl rfl ?_)
  refine g_step rfl (s_val (v_move rfl) rfl rfl ?_)
  refine g_step rfl (s_val (v_len ty41 rfl (by first | rfl | assumption) (by first | exact List.length_map .. | rfl)) rfl rfl ?_)
  refine g_step rfl (s_val (v_lss rfl rfl) rfl rfl ?_)
  refine g_nil ?_
  refine g_next hK7 ?_
  refine g_cond rfl (fun hc14 => ?_) (fun hc14 => ?_)
  ·
   try simp only [decide_eq_true_eq, decide_eq_false_iff_not, Bool.not_eq_true', Bool.not_eq_false', Bool.not_eq_eq_eq_not, Bool.not_true, Bool.not_false, Bool.and_eq_true, Bool.or_eq_true, Bool.or_eq_false_iff, beq_iff_eq, beq_eq_false_iff_ne, ne_eq, Int.not_lt, Int.not_le, Decidable.not_not] at hc14
   obtain ⟨x, hx⟩ := get_some (l := l) (k := k) (by omega)
   obtain ⟨y, hy⟩ := get_some (l := m) (k := k) (by omega)
   refine g_skip ?_
   refine g_next hK6 ?_
   refine g_seq (fun K8 hK8 => ?_)
   refine g_block ?_
   refine g_seq (fun K9 hK9 => ?_)
   refine g_draw (n := 9) (fun j => !([] : List Nat).contains j) rfl rfl ?_
   refine m_take 0 false rfl rfl (by kernel_rfl) (by kernel_rfl) (by kernel_rfl) (fun _ _ _ _ h => h) (v_move rfl) rfl rfl ?_
   refine m_take 1 false rfl rfl (by kernel_rfl) (by kernel_rfl) (by kernel_rfl) (fun _ _ _ _ h => h) (v_move rfl) rfl rfl ?_
   refine m_take 2 false rfl rfl (by kernel_rfl) (by kernel_rfl) (by kernel_rfl) (fun _ _ _ _ h => h) (v_indexAddr ty41 ty3 rfl rfl hva (by first | rfl | exact (rfl : (0 : Int) = ((0 : Nat) : Int)) | exact (Int.toNat_of_nonneg (by omega)).symm) (map_get hx) rfl) rfl rfl ?_
   refine m_take 3 true rfl rfl (by kernel_rfl) (by kernel_rfl) (by kernel_rfl) (fun _ _ _ _ h => h) (by first | exact v_load ty3 rfl rfl hva (map_get hx) rfl | exact v_load_box ty3 rfl rfl (by assumption) rfl) rfl rfl ?_
   refine m_take 4 false rfl rfl (by kernel_rfl) (by kernel_rfl) (by kernel_rfl) (fun _ _ _ _ h => h) (v_move rfl) rfl rfl ?_
   refine m_take 5 false rfl rfl (by kernel_rfl) (by kernel_rfl) (by kernel_rfl) (fun _ _ _ _ h => h) (v_move rfl) rfl rfl ?_
   refine m_take 6 false rfl rfl (by kernel_rfl) (by kernel_rfl) (by kernel_rfl) (fun _ _ _ _ h => h) (v_indexAddr ty41 ty3 rfl rfl hvb (by first | rfl | exact (rfl : (0 : Int) = ((0 : Nat) : Int)) | exact (Int.toNat_of_nonneg (by omega)).symm) (map_get hy) rfl) rfl rfl ?_
   refine m_take 7 true rfl rfl (by kernel_rfl) (by kernel_rfl) (by kernel_rfl) (fun _ _ _ _ h => h) (by first | exact v_load ty3 rfl rfl hvb (map_get hy) rfl | exact v_load_box ty3 rfl rfl (by assumption) rfl) rfl rfl ?_
   refine m_take 8 false rfl rfl (by kernel_rfl) (by kernel_rfl) (by kernel_rfl) (fun _ _ _ _ h => h) (v_neq rfl rfl) rfl rfl ?_
   refine m_done (by kernel_rfl) ?_
   refine g_next hK9 ?_
   refine g_cond rfl (fun hc25 => ?_) (fun hc25 => ?_)
   ·
    try simp only [decide_eq_true_eq, decide_eq_false_iff_not, Bool.not_eq_true', Bool.not_eq_false', Bool.not_eq_eq_eq_not, Bool.not_true, Bool.not_false, Bool.and_eq_true, Bool.or_eq_true, Bool.or_eq_false_iff, beq_iff_eq, beq_eq_false_iff_ne, ne_eq, Int.not_lt, Int.not_le, Decidable.not_not] at hc25
    refine g_seq (fun K10 hK10 => ?_)
    refine g_region ?_
    have hne := ne_at hx hy (by first | assumption | (intro e; subst e; simp_all; done) | omega)
    refine g_step rfl (s_val (v_assign rfl) rfl rfl ?_)
    refine g_nil ?_
    refine g_next hK10 ?_
    refine g_ret ?_
    refine g_block_ret ?_
    refine g_then_ret ?_
    refine g_then_ret ?_
    refine g_block_ret ?_
    refine g_then_ret ?_
    refine g_end1 (.inl rfl) Try.results31 (.tmp rfl) [] (ASub.refl _) (AHeap.sub_refl _) (fun p hp => by cases hp) ⟨rfl, ?_⟩
    first | (rw [hne]; done) | (rw [hne]; rfl)
   ·
    try simp only [decide_eq_true_eq, decide_eq_false_iff_not, Bool.not_eq_true', Bool.not_eq_false', Bool.not_eq_eq_eq_not, Bool.not_true, Bool.not_false, Bool.and_eq_true, Bool.or_eq_true, Bool.or_eq_false_iff, beq_iff_eq, beq_eq_false_iff_ne, ne_eq, Int.not_lt, Int.not_le, Decidable.not_not] at hc25
    refine g_skip ?_
    refine g_block_normal ?_
    refine g_next hK8 ?_
    refine g_region ?_
    refine g_step rfl (s_val (v_move rfl) rfl rfl ?_)
    refine g_step rfl (s_val (v_add rfl rfl (by omega)) rfl rfl ?_)
    refine g_step rfl (s_val (v_assign rfl) rfl rfl ?_)
    refine g_nil ?_
    first | refine g_keep [0, 1, 5] [] [] (keep_cons rfl (keep_cons rfl (keep_cons rfl keep_nil))) lkeep_nil keep_nil rfl ?_ | refine g_keep [0, 1, 5] [] [] rfl rfl rfl rfl ?_
    exact g_round _ (by omega) ⟨k + 1, by omega, rfl, rfl, rfl, rfl, rfl, take_same ht hx hy (by first | assumption | (simp_all; done) | omega)⟩
  ·
   try simp only [decide_eq_true_eq, decide_eq_false_iff_not, Bool.not_eq_true', Bool.not_eq_false', Bool.not_eq_eq_eq_not, Bool.not_true, Bool.not_false, Bool.and_eq_true, Bool.or_eq_true, Bool.or_eq_false_iff, beq_iff_eq, beq_eq_false_iff_ne, ne_eq, Int.not_lt, Int.not_le, Decidable.not_not] at hc14
   obtain rfl : k = l.length := by omega
   have hlm : l.length = m.length := by omega
   rw [List.take_length, hlm, List.take_length] at ht
   refine g_exit ?_
   refine g_then_exit ?_
   refine g_then_exit ?_
   refine g_block_same ?_
   refine g_next hK4 ?_
   refine g_seq (fun K11 hK11 => ?_)
   refine g_region ?_
   refine g_step rfl (s_val (v_assign rfl) rfl rfl ?_)
   refine g_nil ?_
   refine g_next hK11 ?_
   refine g_ret ?_
   refine g_end1 (.inl rfl) Try.results31 (.tmp rfl) [] (ASub.refl _) (AHeap.sub_refl _) (fun p hp => by cases hp) ⟨rfl, ?_⟩
   first | (simp [ht]; done) | (simp [ht]; rfl)

end Go.Proofs.Ytobigfbgaiglkaa

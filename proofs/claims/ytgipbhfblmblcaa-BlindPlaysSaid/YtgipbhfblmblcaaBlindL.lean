import Derived.Test.YtgipbhfblmblcaaBlindLaw
import Derived.Test.YtgipbhfblmblcaaPBlind7
import Derived.Test.YtgipbhfblmblcaaMember4
set_option maxHeartbeats 8000000
set_option linter.unusedSimpArgs false
set_option linter.unusedVariables false
set_option maxRecDepth 100000
namespace Go.Proofs.Ytgipbhfblmblcaa
open Go Go.Proofs.Ytgipbhfblmblcaa.AM
theorem letter34_ok (h : AHeap) (ur hr cr cnt : Nat) (av : AV) (m : LM) (no : Int) (G : AHeap) (hL : LA h ur hr cr av m) (hG : h.sub G) (hp : m.post.length ≤ 1000) : PCalls Try.prog 48 [(mdA ur hr cr cnt av), .int .i64 no] G (fun v => v = .int .i64 (lix m.post no)) := by
 refine LCalls.intro 22 fi48 rfl Try.ntmps48 rfl (fun _ h => h.elim) (fun H hH w0 hw0 => ?_)
 have hhH := AHeap.sub_trans hG hH
 have hPv := (hL.pp.mono hhH).view
 refine g_seq (fun K0 hK0 => ?_)
 refine g_region ?_
 refine g_step rfl (s_box rfl rfl rfl rfl ?_)
 refine g_step rfl (s_val (v_assign rfl) rfl rfl ?_)
 refine g_nil ?_
 refine g_next hK0 ?_
 refine g_seq (fun K1 hK1 => ?_)
 refine g_seq (fun K2 hK2 => ?_)
 refine g_region ?_
 refine g_step rfl (s_val (v_assign rfl) rfl rfl ?_)
 refine g_nil ?_
 refine g_next hK2 ?_
 refine g_block ?_
 first | refine g_keep [1, 5] [2] [2] (keep_cons rfl (keep_cons rfl keep_nil)) (lkeep_cons rfl lkeep_nil) (keep_cons rfl keep_nil) rfl ?_ | refine g_keep [1, 5] [2] [2] rfl rfl rfl rfl ?_
 refine g_loop (fun n env L B G => ∃ (k : Nat) , k ≤ m.post.length ∧ n = m.post.length - k ∧ env = [(1, .int .i64 no), (5, .int .i64 (k : Int))] ∧ L = [(2, 2, 0)] ∧ B = [(2, (mdA ur hr cr cnt av))] ∧ H = G ∧ fidx (hasNo no) (m.post.drop k) + k = fidx (hasNo no) m.post) (m.post.length) ⟨0, Nat.zero_le _, rfl, rfl, rfl, rfl, rfl, by simp⟩ (fun n env L B G hI => ?_)
 obtain ⟨k, hk, rfl, rfl, rfl, rfl, rfl, hc⟩ := hI
 refine g_seq (fun K3 hK3 => ?_)
 refine g_seq (fun K4 hK4 => ?_)
 refine g_region ?_
 refine g_step rfl (s_val (v_move rfl) rfl rfl ?_)
 refine g_step rfl (s_fieldAddr ty85 fo85_3 ty83 rfl rfl ?_)
 refine g_step rfl (s_val (v_loadl ty83 rfl rfl rfl rfl) rfl rfl ?_)
 refine g_step rfl (s_val (v_len ty83 rfl hPv (by first | exact List.length_map .. | rfl)) rfl rfl ?_)
 refine g_step rfl (s_val (v_lss rfl rfl) rfl rfl ?_)
 refine g_nil ?_
 refine g_next hK4 ?_
 refine g_cond rfl (fun hc10 => ?_) (fun hc10 => ?_)
 ·
  try simp only [NM] at hc10
  obtain ⟨q, hq⟩ := get_some (l := m.post) (k := k) (by omega)
  refine g_skip ?_
  refine g_next hK3 ?_
  refine g_seq (fun K5 hK5 => ?_)
  refine g_block ?_
  refine g_seq (fun K6 hK6 => ?_)
  refine g_region ?_
  refine g_step rfl (s_fieldAddr ty85 fo85_3 ty83 rfl rfl ?_)
  refine g_step rfl (s_val (v_loadl ty83 rfl rfl rfl rfl) rfl rfl ?_)
  refine g_step rfl (s_val (v_move rfl) rfl rfl ?_)
  refine g_step rfl (s_val (v_indexAddr ty83 ty97 rfl rfl hPv (by first | rfl | exact (rfl : (0 : Int) = ((0 : Nat) : Int)) | exact (Int.toNat_of_nonneg (by omega)).symm) (map_get hq) rfl) rfl rfl ?_)
  refine g_step rfl (s_val (by first | exact v_fieldAddr ty97 fo97_0 ty3 rfl | exact v_fieldAddr_box ty97 fo97_0 ty3 rfl) rfl rfl ?_)
  refine g_step rfl (s_val (by first | exact v_load ty3 rfl rfl hPv (map_get hq) rfl | exact v_load_box ty3 rfl rfl (by assumption) rfl) rfl rfl ?_)
  refine g_step rfl (s_val (v_move rfl) rfl rfl ?_)
  refine g_step rfl (s_val (v_eql rfl rfl) rfl rfl ?_)
  refine g_nil ?_
  refine g_next hK6 ?_
  refine g_cond rfl (fun hc20 => ?_) (fun hc20 => ?_)
  ·
   try simp only [NM] at hc20
   refine g_seq (fun K7 hK7 => ?_)
   refine g_region ?_
   refine g_step rfl (s_val (v_move rfl) rfl rfl ?_)
   refine g_step rfl (s_val (v_assign rfl) rfl rfl ?_)
   refine g_nil ?_
   refine g_next hK7 ?_
   refine g_ret ?_
   refine g_block_ret ?_
   refine g_then_ret ?_
   refine g_then_ret ?_
   refine g_block_ret ?_
   refine g_then_ret ?_
   refine g_end1 (.inl rfl) Try.results48 (.tmp rfl) [] (ASub.refl _) (AHeap.sub_refl _) (fun p hp => by cases hp) ⟨rfl, ?_⟩
   first | (rw [lix, fidxZ, fidx_hit hc hq (decide_eq_true hc20), if_pos (by omega)]; done) | (rw [lix, fidxZ, fidx_hit hc hq (decide_eq_true hc20), if_pos (by omega)]; rfl)
  ·
   try simp only [NM] at hc20
   refine g_skip ?_
   refine g_block_normal ?_
   refine g_next hK5 ?_
   refine g_region ?_
   refine g_step rfl (s_val (v_move rfl) rfl rfl ?_)
   refine g_step rfl (s_val (v_add rfl rfl (by omega)) rfl rfl ?_)
   refine g_step rfl (s_val (v_assign rfl) rfl rfl ?_)
   refine g_nil ?_
   first | refine g_keep [1, 5] [2] [2] (keep_cons rfl (keep_cons rfl keep_nil)) (lkeep_cons rfl lkeep_nil) (keep_cons rfl keep_nil) rfl ?_ | refine g_keep [1, 5] [2] [2] rfl rfl rfl rfl ?_
   exact g_round _ (by omega) ⟨k + 1, by omega, rfl, rfl, rfl, rfl, rfl, fidx_miss hc hq (decide_eq_false hc20)⟩
 ·
  try simp only [NM] at hc10
  obtain rfl : k = m.post.length := by omega
  refine g_exit ?_
  refine g_then_exit ?_
  refine g_then_exit ?_
  refine g_block_same ?_
  refine g_next hK1 ?_
  refine g_seq (fun K8 hK8 => ?_)
  refine g_region ?_
  refine g_step rfl (s_val (v_assign rfl) rfl rfl ?_)
  refine g_nil ?_
  refine g_next hK8 ?_
  refine g_ret ?_
  refine g_end1 (.inl rfl) Try.results48 (.tmp rfl) [] (ASub.refl _) (AHeap.sub_refl _) (fun p hp => by cases hp) ⟨rfl, ?_⟩
  first | (rw [lix, fidxZ, fidx_end hc, if_neg (by omega)]; rfl; done) | (rw [lix, fidxZ, fidx_end hc, if_neg (by omega)]; rfl; rfl)

theorem cores34_ok (l : List Rc) (G : AHeap) (hl : l.length ≤ 100000) : PCalls Try.prog 76 [encRs l] G (fun v => v = encRs (coresOf l)) := by
 refine LCalls.intro 36 fi76 rfl Try.ntmps76 rfl (fun _ h => h.elim) (fun H hH w0 hw0 => ?_)
 refine g_seq (fun K0 hK0 => ?_)
 refine g_region ?_
 refine g_step rfl (s_val (v_assign rfl) rfl rfl ?_)
 refine g_nil ?_
 refine g_next hK0 ?_
 refine g_seq (fun K1 hK1 => ?_)
 refine g_region ?_
 refine g_step rfl (s_val (v_assign rfl) rfl rfl ?_)
 refine g_nil ?_
 refine g_next hK1 ?_
 refine g_seq (fun K2 hK2 => ?_)
 refine g_seq (fun K3 hK3 => ?_)
 refine g_region ?_
 refine g_step rfl (s_val (v_assign rfl) rfl rfl ?_)
 refine g_nil ?_
 refine g_next hK3 ?_
 refine g_block ?_
 first | refine g_keep [0, 3, 4] [] [] (keep_cons rfl (keep_cons rfl (keep_cons rfl keep_nil))) lkeep_nil keep_nil rfl ?_ | refine g_keep [0, 3, 4] [] [] rfl rfl rfl rfl ?_
 refine g_loop (fun n env L B G => ∃ (k : Nat) (av3 : AV), k ≤ l.length ∧ n = l.length - k ∧ env = [(0, encRs l), (3, av3), (4, .int .i64 (k : Int))] ∧ L = [] ∧ B = [] ∧ Own w0.heap.size 7 H av3 ((coresOf (l.take k)).map encR) G) (l.length) ⟨0, .nil0, Nat.zero_le _, rfl, rfl, rfl, rfl, Own.nil ..⟩ (fun n env L B G hI => ?_)
 obtain ⟨k, av3, hk, rfl, rfl, rfl, rfl, hown⟩ := hI
 have hcl : (coresOf (l.take k)).length ≤ k := by unfold coresOf; rw [List.length_map]; exact List.length_take_le _ _
 refine g_seq (fun K4 hK4 => ?_)
 refine g_seq (fun K5 hK5 => ?_)
 refine g_region ?_
 refine g_step rfl (s_val (v_move rfl) rfl rfl ?_)
 refine g_step rfl (s_val (v_move rfl) rfl rfl ?_)
 refine g_step rfl (s_val (v_len ty22 rfl (by first | rfl | assumption) (by first | exact List.length_map .. | rfl)) rfl rfl ?_)
 refine g_step rfl (s_val (v_lss rfl rfl) rfl rfl ?_)
 refine g_nil ?_
 refine g_next hK5 ?_
 refine g_cond rfl (fun hc8 => ?_) (fun hc8 => ?_)
 ·
  try simp only [NM] at hc8
  obtain ⟨x, hx⟩ := get_some (l := l) (k := k) (by omega)
  refine g_skip ?_
  refine g_next hK4 ?_
  refine g_seq (fun K6 hK6 => ?_)
  refine g_block ?_
  refine g_draw (n := 25) (fun j => !([23] : List Nat).contains j) rfl rfl ?_
  refine m_tk 0 false rfl rfl (by kernel_rfl) (v_move rfl) rfl rfl ?_
  refine m_tk 1 false rfl rfl (by kernel_rfl) (v_move rfl) rfl rfl ?_
  refine m_tk 2 false rfl rfl (by kernel_rfl) (v_move rfl) rfl rfl ?_
  refine m_tk 3 false rfl rfl (by kernel_rfl) (v_indexAddr ty22 ty46 rfl rfl rfl (by first | rfl | exact (rfl : (0 : Int) = ((0 : Nat) : Int)) | exact (Int.toNat_of_nonneg (by omega)).symm) (map_get hx) rfl) rfl rfl ?_
  refine m_tk 4 false rfl rfl (by kernel_rfl) (by first | exact v_fieldAddr ty46 fo46_0 ty3 rfl | exact v_fieldAddr_box ty46 fo46_0 ty3 rfl) rfl rfl ?_
  refine m_tk 5 true rfl rfl (by kernel_rfl) (by first | exact v_load ty3 rfl rfl rfl (map_get hx) rfl | exact v_load_box ty3 rfl rfl (by assumption) rfl) rfl rfl ?_
  refine m_tk 6 false rfl rfl (by kernel_rfl) (v_move rfl) rfl rfl ?_
  refine m_tk 7 false rfl rfl (by kernel_rfl) (v_move rfl) rfl rfl ?_
  refine m_tk 8 false rfl rfl (by kernel_rfl) (v_indexAddr ty22 ty46 rfl rfl rfl (by first | rfl | exact (rfl : (0 : Int) = ((0 : Nat) : Int)) | exact (Int.toNat_of_nonneg (by omega)).symm) (map_get hx) rfl) rfl rfl ?_
  refine m_tk 9 false rfl rfl (by kernel_rfl) (by first | exact v_fieldAddr ty46 fo46_1 ty3 rfl | exact v_fieldAddr_box ty46 fo46_1 ty3 rfl) rfl rfl ?_
  refine m_tk 10 true rfl rfl (by kernel_rfl) (by first | exact v_load ty3 rfl rfl rfl (map_get hx) rfl | exact v_load_box ty3 rfl rfl (by assumption) rfl) rfl rfl ?_
  refine m_tk 11 false rfl rfl (by kernel_rfl) (v_move rfl) rfl rfl ?_
  refine m_tk 12 false rfl rfl (by kernel_rfl) (v_move rfl) rfl rfl ?_
  refine m_tk 13 false rfl rfl (by kernel_rfl) (v_indexAddr ty22 ty46 rfl rfl rfl (by first | rfl | exact (rfl : (0 : Int) = ((0 : Nat) : Int)) | exact (Int.toNat_of_nonneg (by omega)).symm) (map_get hx) rfl) rfl rfl ?_
  refine m_tk 14 false rfl rfl (by kernel_rfl) (by first | exact v_fieldAddr ty46 fo46_2 ty3 rfl | exact v_fieldAddr_box ty46 fo46_2 ty3 rfl) rfl rfl ?_
  refine m_tk 15 true rfl rfl (by kernel_rfl) (by first | exact v_load ty3 rfl rfl rfl (map_get hx) rfl | exact v_load_box ty3 rfl rfl (by assumption) rfl) rfl rfl ?_
  refine m_tk 16 false rfl rfl (by kernel_rfl) (v_move rfl) rfl rfl ?_
  refine m_tk 17 false rfl rfl (by kernel_rfl) (v_move rfl) rfl rfl ?_
  refine m_tk 18 false rfl rfl (by kernel_rfl) (v_indexAddr ty22 ty46 rfl rfl rfl (by first | rfl | exact (rfl : (0 : Int) = ((0 : Nat) : Int)) | exact (Int.toNat_of_nonneg (by omega)).symm) (map_get hx) rfl) rfl rfl ?_
  refine m_tk 19 false rfl rfl (by kernel_rfl) (by first | exact v_fieldAddr ty46 fo46_3 ty43 rfl | exact v_fieldAddr_box ty46 fo46_3 ty43 rfl) rfl rfl ?_
  refine m_tk 20 true rfl rfl (by kernel_rfl) (by first | exact v_load_elt ty43 rfl rfl rfl (map_get hx) rfl rfl | exact v_load_box_all ty43 rfl rfl (by assumption) rfl rfl | exact v_load_part (cs := [_, _]) ty43 rfl rfl rfl (map_get hx) rfl rfl rfl | exact v_load_box_part (cs := [_, _]) ty43 rfl rfl (by assumption) rfl rfl rfl) rfl rfl ?_
  refine m_tk 21 false rfl rfl (by kernel_rfl) (v_sub (b := (encR (core x))) (v_build (vs := [(0, _), (1, _), (2, _), (3, _)]) (zs := [(.int .i64 0), (.int .i64 0), (.int .i64 0), (.int .i64 0), (.int .i64 0), (.bool false), .nil0]) (cells := [_, _, _, _, _, _, _]) ty46 pl46 rfl rfl rfl) (ASub.of_wk rfl)) rfl rfl ?_
  refine m_one 22 (by kernel_rfl) rfl rfl ?_
  refine sm_lit ty22 ty46 rfl rfl rfl rfl rfl rfl rfl ?_
  refine m_one 23 (by kernel_rfl) rfl rfl ?_
  refine sm_any rfl (s_append (l := ((coresOf (l.take k)).map encR)) (m := ([core x].map encR)) ty22 ty46 rfl rfl hown rfl rfl (by refine Even.map _ ?_ _; intro _; rfl) (by intro x hx; obtain ⟨_, _, rfl⟩ := List.mem_map.1 hx; rfl) rfl (by simp; omega) (by simp; omega) ?_)
  intro av34 G34 h34
  refine m_tk 24 false rfl rfl (by kernel_rfl) (v_assign rfl) rfl rfl ?_
  refine m_done (by kernel_rfl) ?_
  refine g_block_normal ?_
  refine g_next hK6 ?_
  first | refine g_keep [0, 3, 4] [] [] (keep_cons rfl (keep_cons rfl (keep_cons rfl keep_nil))) lkeep_nil keep_nil rfl ?_ | refine g_keep [0, 3, 4] [] [] rfl rfl rfl rfl ?_
  refine g_region ?_
  refine g_step rfl (s_val (v_move rfl) rfl rfl ?_)
  refine g_step rfl (s_val (v_add rfl rfl (by omega)) rfl rfl ?_)
  refine g_step rfl (s_val (v_assign rfl) rfl rfl ?_)
  refine g_nil ?_
  first | refine g_keep [0, 3, 4] [] [] (keep_cons rfl (keep_cons rfl (keep_cons rfl keep_nil))) lkeep_nil keep_nil rfl ?_ | refine g_keep [0, 3, 4] [] [] rfl rfl rfl rfl ?_
  exact g_round _ (by omega) ⟨k + 1, av34, by omega, rfl, rfl, rfl, rfl, by rw [List.take_add_one, hx]; unfold coresOf at h34 ⊢; rw [List.map_append, List.map_append]; exact h34⟩
 ·
  try simp only [NM] at hc8
  obtain rfl : k = l.length := by omega
  rw [List.take_length] at hown
  refine g_exit ?_
  refine g_then_exit ?_
  refine g_then_exit ?_
  refine g_block_same ?_
  refine g_next hK2 ?_
  refine g_seq (fun K7 hK7 => ?_)
  refine g_region ?_
  refine g_freeze 3 rfl hown ?_
  refine g_step rfl (s_val (v_move rfl) rfl rfl ?_)
  refine g_step rfl (s_val (v_assign rfl) rfl rfl ?_)
  refine g_nil ?_
  refine g_next hK7 ?_
  refine g_ret ?_
  refine g_end1 (.inl rfl) Try.results76 (.tmp rfl) [] (ASub.refl _) (AHeap.sub_refl _) (fun p hp => by cases hp) ⟨rfl, ?_⟩
  rfl

theorem act34_ok (h : AHeap) (ur hr cr cnt : Nat) (av : AV) (room : Int) (m : LM) (i : Nat) (iz : Int) (l : List Rc) (a : Ac) (want : Int) (G : AHeap) (hL : LA h ur hr cr av m) (hG : h.sub G) (hiz : iz = (i : Int)) (hn : m.has.length = cnt) (hix : m.has[i]? = some ((i : Int), room, l)) (hm : MInv (i : Int) room l) (hb : Small a.rc.bag) : LCalls Try.prog 78 [(mdA ur hr cr cnt av), .int .i64 iz, encAc a, .int .i64 want] G (fun b => h b ≠ none) (fun k v effs => v = .bool (decide ((doL (i : Int) room l a).2 = want)) ∧ ∃ h', EffTo h h' k effs ∧ LA h' ur hr cr av (if (doL (i : Int) room l a).2 = want then ⟨m.ups, m.has.set i ((i : Int), room, (doL (i : Int) room l a).1), m.cells, m.post⟩ else m)) := by
 refine LCalls.intro 29 fi78 rfl Try.ntmps78 rfl (fun b hb => sub_some hG hb) (fun H hH w0 hw0 => ?_)
 have hhH := AHeap.sub_trans hG hH
 have hhr := hhH _ _ hL.hh
 have hVh : (AV.own hr 3 0 cnt).view H = some (m.has.map encMl) := AV.view_own_all hhr (by rw [List.length_map, hn])
 have hDh : h hr ≠ none ∨ w0.heap.size ≤ hr := .inl (by rw [hL.hh]; simp)
 refine g_seq (fun K0 hK0 => ?_)
 refine g_region ?_
 refine g_step rfl (s_box rfl rfl rfl rfl ?_)
 refine g_step rfl (s_box rfl rfl rfl rfl ?_)
 refine g_step rfl (s_val (v_assign rfl) rfl rfl ?_)
 refine g_nil ?_
 refine g_next hK0 ?_
 refine g_seq (fun K1 hK1 => ?_)
 refine g_draw (n := 13) (fun j => !([11] : List Nat).contains j) rfl rfl ?_
 refine m_takel 0 rfl rfl (by kernel_rfl) (by kernel_rfl) (by kernel_rfl) (fun _ _ _ _ h => h) (vl_fieldAddr ty85 fo85_1 ty82 rfl) rfl rfl ?_
 refine m_tk 1 true rfl rfl (by kernel_rfl) (v_loadl ty82 rfl rfl rfl rfl) rfl rfl ?_
 refine m_tk 2 false rfl rfl (by kernel_rfl) (v_move rfl) rfl rfl ?_
 refine m_tk 3 false rfl rfl (by kernel_rfl) (v_indexAddr ty82 ty61 rfl rfl hVh hiz (map_get hix) rfl) rfl rfl ?_
 refine m_tk 4 true rfl rfl (by kernel_rfl) (by first | exact v_load_elt ty61 rfl rfl hVh (map_get hix) rfl rfl | exact v_load_box_all ty61 rfl rfl (by assumption) rfl rfl | exact v_load_part (cs := [_, _, _]) ty61 rfl rfl hVh (map_get hix) rfl rfl rfl | exact v_load_box_part (cs := [_, _, _]) ty61 rfl rfl (by assumption) rfl rfl rfl) rfl rfl ?_
 refine m_tk 5 true rfl rfl (by kernel_rfl) (by first | exact v_loadl_all ty65 rfl rfl rfl rfl rfl | exact v_loadl_part (cs := [_, _, _, _, _, _, _, _]) ty65 rfl rfl rfl rfl rfl rfl) rfl rfl ?_
 refine m_all (is := [6, 10]) (by kernel_rfl) rfl (fun _ _ _ => trivial) (fun i hi => ?_)
 rcases (by simpa using hi : i = 6 ∨ i = 10) with rfl | rfl
 ·
  refine ⟨_, rfl, .inl ⟨rfl, ?_⟩⟩
  refine sm_callp rfl rfl rfl (do25_ok (i : Int) room l a _ hm hb) ?_
  rintro _ rfl
  refine m_tk 7 false rfl rfl (by kernel_rfl) (v_move rfl) rfl rfl ?_
  refine m_tk 8 false rfl rfl (by kernel_rfl) (v_extract rfl rfl) rfl rfl ?_
  refine m_tk 9 false rfl rfl (by kernel_rfl) (v_extract rfl rfl) rfl rfl ?_
  refine m_one 10 (by kernel_rfl) rfl rfl ?_
  refine sm_alloc (av := (.agg [(.int .i64 0), (.int .i64 0), .nil0])) ty61 rfl rfl rfl rfl ?_
  refine m_one 11 (by kernel_rfl) rfl rfl ?_
  refine sm_any rfl (s_store_all ty61 rfl rfl rfl rfl rfl rfl ?_)
  refine m_tk 12 false rfl rfl (by kernel_rfl) (v_assign rfl) rfl rfl ?_
  refine m_done (by kernel_rfl) ?_
  refine g_next hK1 ?_
  refine g_seq (fun K2 hK2 => ?_)
  refine g_seq (fun K3 hK3 => ?_)
  refine g_region ?_
  refine g_step rfl (s_val (v_move rfl) rfl rfl ?_)
  refine g_step rfl (s_val (v_move rfl) rfl rfl ?_)
  refine g_step rfl (s_val (v_neq rfl rfl) rfl rfl ?_)
  refine g_nil ?_
  refine g_next hK3 ?_
  refine g_cond rfl (fun hc23 => ?_) (fun hc23 => ?_)
  ·
   try simp only [NM] at hc23
   refine g_seq (fun K4 hK4 => ?_)
   refine g_region ?_
   refine g_step rfl (s_val (v_assign rfl) rfl rfl ?_)
   refine g_nil ?_
   refine g_next hK4 ?_
   refine g_ret ?_
   refine g_then_ret ?_
   refine g_end1 (.inl rfl) Try.results78 (.tmp rfl) [] (ASub.refl _) (AHeap.sub_refl _) (fun p hp => by cases hp) ⟨by rw [decide_eq_false hc23]; rfl, h, EffTo.refl _ _, by rw [if_neg hc23]; exact hL⟩
  ·
   try simp only [NM] at hc23
   refine g_skip ?_
   refine g_next hK2 ?_
   refine g_seq (fun K5 hK5 => ?_)
   refine g_region ?_
   refine g_step rfl (s_fieldAddr ty85 fo85_1 ty82 rfl rfl ?_)
   refine g_step rfl (s_val (v_loadl ty82 rfl rfl rfl rfl) rfl rfl ?_)
   refine g_step rfl (s_val (v_move rfl) rfl rfl ?_)
   refine g_step rfl (s_val (by first | exact v_loadl_all ty61 rfl rfl rfl rfl rfl | exact v_loadl_part (cs := [_, _, _]) ty61 rfl rfl rfl rfl rfl rfl) rfl rfl ?_)
   refine g_step rfl (s_val (v_indexAddr ty82 ty61 rfl rfl hVh hiz (map_get hix) rfl) rfl rfl ?_)
   refine g_step rfl (s_store_row (k := i) (off := 0) (old := encMl ((i : Int), room, l)) (new := mdl (i : Int) room (doL (i : Int) room l a).1) ty61 rfl rfl hhr (by rw [Nat.zero_add]; exact map_get hix) rfl rfl rfl rfl hDh ?_)
   rw [show (0 + i : Nat) = i from Nat.zero_add i, set_map_h]
   refine g_nil ?_
   refine g_next hK5 ?_
   refine g_seq (fun K6 hK6 => ?_)
   refine g_region ?_
   refine g_step rfl (s_val (v_assign rfl) rfl rfl ?_)
   refine g_nil ?_
   refine g_next hK6 ?_
   refine g_ret ?_
   have hw : (doL (i : Int) room l a).2 = want := by simpa using hc23
   refine g_end1 (.inl rfl) Try.results78 (.tmp rfl) [(hr, (.row 3 ((m.has.set i ((i : Int), room, (doL (i : Int) room l a).1)).map encMl)))] (ASub.refl _) (AHeap.sub_refl _) (((EffTo.refl h w0.heap.size).write (b := hr) (.row 3 ((m.has.set i ((i : Int), room, (doL (i : Int) room l a).1)).map encMl)) (.inl (by rw [hL.hh]; simp))).ok hG) ⟨by rw [decide_eq_true hw]; rfl, _, ((EffTo.refl h w0.heap.size).write (b := hr) (.row 3 ((m.has.set i ((i : Int), room, (doL (i : Int) room l a).1)).map encMl)) (.inl (by rw [hL.hh]; simp))), by rw [if_pos hw]; exact hL.setH _⟩
 ·
  refine ⟨_, rfl, .inl ⟨rfl, ?_⟩⟩
  refine sm_alloc (av := (.agg [(.int .i64 0), (.int .i64 0), .nil0])) ty61 rfl rfl rfl rfl ?_
  refine m_one 6 (by kernel_rfl) rfl rfl ?_
  refine sm_callp rfl rfl rfl (do25_ok (i : Int) room l a _ hm hb) ?_
  rintro _ rfl
  refine m_tk 7 false rfl rfl (by kernel_rfl) (v_move rfl) rfl rfl ?_
  refine m_tk 8 false rfl rfl (by kernel_rfl) (v_extract rfl rfl) rfl rfl ?_
  refine m_tk 9 false rfl rfl (by kernel_rfl) (v_extract rfl rfl) rfl rfl ?_
  refine m_one 11 (by kernel_rfl) rfl rfl ?_
  refine sm_any rfl (s_store_all ty61 rfl rfl rfl rfl rfl rfl ?_)
  refine m_tk 12 false rfl rfl (by kernel_rfl) (v_assign rfl) rfl rfl ?_
  refine m_done (by kernel_rfl) ?_
  refine g_next hK1 ?_
  refine g_seq (fun K7 hK7 => ?_)
  refine g_seq (fun K8 hK8 => ?_)
  refine g_region ?_
  refine g_step rfl (s_val (v_move rfl) rfl rfl ?_)
  refine g_step rfl (s_val (v_move rfl) rfl rfl ?_)
  refine g_step rfl (s_val (v_neq rfl rfl) rfl rfl ?_)
  refine g_nil ?_
  refine g_next hK8 ?_
  refine g_cond rfl (fun hc23 => ?_) (fun hc23 => ?_)
  ·
   try simp only [NM] at hc23
   refine g_seq (fun K9 hK9 => ?_)
   refine g_region ?_
   refine g_step rfl (s_val (v_assign rfl) rfl rfl ?_)
   refine g_nil ?_
   refine g_next hK9 ?_
   refine g_ret ?_
   refine g_then_ret ?_
   refine g_end1 (.inl rfl) Try.results78 (.tmp rfl) [] (ASub.refl _) (AHeap.sub_refl _) (fun p hp => by cases hp) ⟨by rw [decide_eq_false hc23]; rfl, h, EffTo.refl _ _, by rw [if_neg hc23]; exact hL⟩
  ·
   try simp only [NM] at hc23
   refine g_skip ?_
   refine g_next hK7 ?_
   refine g_seq (fun K10 hK10 => ?_)
   refine g_region ?_
   refine g_step rfl (s_fieldAddr ty85 fo85_1 ty82 rfl rfl ?_)
   refine g_step rfl (s_val (v_loadl ty82 rfl rfl rfl rfl) rfl rfl ?_)
   refine g_step rfl (s_val (v_move rfl) rfl rfl ?_)
   refine g_step rfl (s_val (by first | exact v_loadl_all ty61 rfl rfl rfl rfl rfl | exact v_loadl_part (cs := [_, _, _]) ty61 rfl rfl rfl rfl rfl rfl) rfl rfl ?_)
   refine g_step rfl (s_val (v_indexAddr ty82 ty61 rfl rfl hVh hiz (map_get hix) rfl) rfl rfl ?_)
   refine g_step rfl (s_store_row (k := i) (off := 0) (old := encMl ((i : Int), room, l)) (new := mdl (i : Int) room (doL (i : Int) room l a).1) ty61 rfl rfl hhr (by rw [Nat.zero_add]; exact map_get hix) rfl rfl rfl rfl hDh ?_)
   rw [show (0 + i : Nat) = i from Nat.zero_add i, set_map_h]
   refine g_nil ?_
   refine g_next hK10 ?_
   refine g_seq (fun K11 hK11 => ?_)
   refine g_region ?_
   refine g_step rfl (s_val (v_assign rfl) rfl rfl ?_)
   refine g_nil ?_
   refine g_next hK11 ?_
   refine g_ret ?_
   have hw : (doL (i : Int) room l a).2 = want := by simpa using hc23
   refine g_end1 (.inl rfl) Try.results78 (.tmp rfl) [(hr, (.row 3 ((m.has.set i ((i : Int), room, (doL (i : Int) room l a).1)).map encMl)))] (ASub.refl _) (AHeap.sub_refl _) (((EffTo.refl h w0.heap.size).write (b := hr) (.row 3 ((m.has.set i ((i : Int), room, (doL (i : Int) room l a).1)).map encMl)) (.inl (by rw [hL.hh]; simp))).ok hG) ⟨by rw [decide_eq_true hw]; rfl, _, ((EffTo.refl h w0.heap.size).write (b := hr) (.row 3 ((m.has.set i ((i : Int), room, (doL (i : Int) room l a).1)).map encMl)) (.inl (by rw [hL.hh]; simp))), by rw [if_pos hw]; exact hL.setH _⟩

theorem legalDn_ok (h : AHeap) (ur hr cr : Nat) (av : AV) (room : Int) (s : Wd) (m : LM) (x : Mv) (i : Nat) (G : AHeap) (hL : LA h ur hr cr av m) (hR : MRel room s m) (hG : h.sub G) (hok : WOk room s) (hxi : x.node = (i : Int)) (hlo : lOf s i = none) (hix : i < s.tl.length) (hxn : x.recs.length ≤ 1000) (hxs : ∀ y ∈ x.recs, Small y.bag) (hpl : m.post.length ≤ 100) (h1 : 1 ≤ room) (h48 : room ≤ 48) : LCalls Try.prog 43 [(mdA ur hr cr s.tl.length av), encMv x, .int .i64 room] G (fun b => h b ≠ none) (fun n v effs => ∃ av' m' h', v = .tup [av', .bool (doW room s i x).2] ∧ EffTo h h' n effs ∧ LA h' ur hr cr av' m' ∧ MRel room (doW room s i x).1 m' ∧ m'.post.length ≤ m.post.length + 1) := by
 refine LCalls.intro 289 fi43 rfl Try.ntmps43 rfl (fun b hb => sub_some hG hb) (fun H hH w0 hw0 => ?_)
 have hhH := AHeap.sub_trans hG hH
 have huu := hhH _ _ hL.uu
 have hhr := hhH _ _ hL.hh
 have hcc := hhH _ _ hL.cc
 have hPv := (hL.pp.mono hhH).view
 have hVu : (AV.own ur 1 0 s.tl.length).view H = some (m.ups.map .bool) := AV.view_own_all huu (by rw [List.length_map, hR.nu])
 have hVh : (AV.own hr 3 0 s.tl.length).view H = some (m.has.map encMl) := AV.view_own_all hhr (by rw [List.length_map, hR.nh])
 have hVc : (AV.own cr 1 0 s.tl.length).view H = some (m.cells.map (.int .i64)) := AV.view_own_all hcc (by rw [List.length_map, hR.nc, hok.len])
 have hup0 : m.ups[i]? = some false := by rw [hR.up i hix, hlo]; rfl
 have hDu : h ur ≠ none ∨ w0.heap.size ≤ ur := .inl (by rw [hL.uu]; simp)
 have hDh : h hr ≠ none ∨ w0.heap.size ≤ hr := .inl (by rw [hL.hh]; simp)
 refine g_seq (fun K0 hK0 => ?_)
 refine g_region ?_
 refine g_step rfl (s_box rfl rfl rfl rfl ?_)
 refine g_step rfl (s_box rfl rfl rfl rfl ?_)
 refine g_step rfl (s_val (v_assign rfl) rfl rfl ?_)
 refine g_step rfl (s_val (v_assign rfl) rfl rfl ?_)
 refine g_nil ?_
 refine g_next hK0 ?_
 refine g_seq (fun K1 hK1 => ?_)
 refine g_region ?_
 refine g_step rfl (s_fieldAddr ty87 fo87_1 ty3 rfl rfl ?_)
 refine g_step rfl (s_val (v_loadl ty3 rfl rfl rfl rfl) rfl rfl ?_)
 refine g_step rfl (s_val (v_assign rfl) rfl rfl ?_)
 refine g_nil ?_
 refine g_next hK1 ?_
 refine g_seq (fun K2 hK2 => ?_)
 refine g_region ?_
 refine g_step rfl (s_val (by first | exact v_loadl_all ty85 rfl rfl rfl rfl rfl | exact v_loadl_part (cs := [_, _, _, _]) ty85 rfl rfl rfl rfl rfl rfl) rfl rfl ?_)
 refine g_step rfl (s_fieldAddr ty87 fo87_4 ty3 rfl rfl ?_)
 refine g_step rfl (s_val (v_loadl ty3 rfl rfl rfl rfl) rfl rfl ?_)
 refine g_step rfl (s_callp rfl rfl rfl (letter34_ok h ur hr cr s.tl.length av m x.letter _ hL hhH (by omega)) ?_)
 rintro _ rfl
 refine g_step rfl (s_val (v_assign rfl) rfl rfl ?_)
 refine g_nil ?_
 refine g_next hK2 ?_
 refine g_seq (fun K3 hK3 => ?_)
 refine g_seq (fun K4 hK4 => ?_)
 refine g_region ?_
 refine g_step rfl (s_fieldAddr ty87 fo87_0 ty3 rfl rfl ?_)
 refine g_step rfl (s_val (v_loadl ty3 rfl rfl rfl rfl) rfl rfl ?_)
 refine g_step rfl (s_val (v_eql rfl rfl) rfl rfl ?_)
 refine g_nil ?_
 refine g_next hK4 ?_
 refine g_cond rfl (fun hc26 => ?_) (fun hc26 => ?_)
 ·
  try simp only [NM] at hc26
  refine g_seq (fun K5 hK5 => ?_)
  refine g_seq (fun K6 hK6 => ?_)
  refine g_draw (n := 49) (fun j => !([] : List Nat).contains j) rfl rfl ?_
  refine m_takel 0 rfl rfl (by kernel_rfl) (by kernel_rfl) (by kernel_rfl) (fun _ _ _ _ h => h) (vl_fieldAddr ty85 fo85_0 ty81 rfl) rfl rfl ?_
  refine m_tk 1 true rfl rfl (by kernel_rfl) (v_loadl ty81 rfl rfl rfl rfl) rfl rfl ?_
  refine m_tk 2 false rfl rfl (by kernel_rfl) (v_move rfl) rfl rfl ?_
  refine m_tk 3 false rfl rfl (by kernel_rfl) (v_indexAddr ty81 ty4 rfl rfl hVu hxi (map_get hup0) rfl) rfl rfl ?_
  refine m_tk 4 true rfl rfl (by kernel_rfl) (by first | exact v_load ty4 rfl rfl hVu (map_get hup0) rfl | exact v_load_box ty4 rfl rfl (by assumption) rfl) rfl rfl ?_
  refine m_tk 5 false rfl rfl (by kernel_rfl) (v_move rfl) rfl rfl ?_
  refine m_split 32 rfl (fun hg32 => ?_) (fun hg32 => ?_)
  · exfalso; (try simp only [NM] at hg32); first | (simp at hg32; done) | cases hg32
  ·
   try simp only [NM] at hg32
   refine m_takel_yes (j := 5) (t := 32) 6 rfl rfl rfl rfl rfl (by kernel_rfl) (by kernel_rfl) (by kernel_rfl) (fun _ _ _ _ h => h) (vl_fieldAddr ty87 fo87_5 ty22 rfl) rfl rfl ?_
   refine m_take_yes (j := 5) (t := 32) 7 true rfl rfl rfl rfl rfl (by kernel_rfl) (by kernel_rfl) (by kernel_rfl) (fun _ _ _ _ h => h) (v_loadl ty22 rfl rfl rfl rfl) rfl rfl ?_
   refine m_take_yes (j := 5) (t := 32) 8 false rfl rfl rfl rfl rfl (by kernel_rfl) (by kernel_rfl) (by kernel_rfl) (fun _ _ _ _ h => h) (v_len ty22 rfl (by first | rfl | assumption) (by first | exact List.length_map .. | rfl)) rfl rfl ?_
   refine m_take_yes (j := 5) (t := 32) 9 false rfl rfl rfl rfl rfl (by kernel_rfl) (by kernel_rfl) (by kernel_rfl) (fun _ _ _ _ h => h) (v_neq rfl rfl) rfl rfl ?_
   refine m_tk 10 false rfl rfl (by kernel_rfl) (v_pick_f rfl rfl) rfl rfl ?_
   refine m_tk 11 false rfl rfl (by kernel_rfl) (v_move rfl) rfl rfl ?_
   refine m_split 38 rfl (fun hg38 => ?_) (fun hg38 => ?_)
   ·
    try simp only [NM] at hg38
    refine m_take_no (j := 11) (t := 38) 12 rfl rfl rfl rfl rfl rfl (by kernel_rfl) (by kernel_rfl) (by kernel_rfl) (fun _ _ _ _ h => h) rfl rfl ?_
    refine m_take_no (j := 11) (t := 38) 13 rfl rfl rfl rfl rfl rfl (by kernel_rfl) (by kernel_rfl) (by kernel_rfl) (fun _ _ _ _ h => h) rfl rfl ?_
    refine m_take_no (j := 11) (t := 38) 14 rfl rfl rfl rfl rfl rfl (by kernel_rfl) (by kernel_rfl) (by kernel_rfl) (fun _ _ _ _ h => h) rfl rfl ?_
    refine m_take_no (j := 11) (t := 38) 15 rfl rfl rfl rfl rfl rfl (by kernel_rfl) (by kernel_rfl) (by kernel_rfl) (fun _ _ _ _ h => h) rfl rfl ?_
    refine m_take_no (j := 11) (t := 38) 16 rfl rfl rfl rfl rfl rfl (by kernel_rfl) (by kernel_rfl) (by kernel_rfl) (fun _ _ _ _ h => h) rfl rfl ?_
    refine m_take_no (j := 11) (t := 38) 17 rfl rfl rfl rfl rfl rfl (by kernel_rfl) (by kernel_rfl) (by kernel_rfl) (fun _ _ _ _ h => h) rfl rfl ?_
    refine m_tk 18 false rfl rfl (by kernel_rfl) (v_pick_t rfl rfl) rfl rfl ?_
    refine m_tk 19 false rfl rfl (by kernel_rfl) (v_move rfl) rfl rfl ?_
    refine m_take_no (j := 19) (t := 46) 20 rfl rfl rfl rfl rfl rfl (by kernel_rfl) (by kernel_rfl) (by kernel_rfl) (fun _ _ _ _ h => h) rfl rfl ?_
    refine m_take_no (j := 19) (t := 46) 21 rfl rfl rfl rfl rfl rfl (by kernel_rfl) (by kernel_rfl) (by kernel_rfl) (fun _ _ _ _ h => h) rfl rfl ?_
    refine m_take_no (j := 19) (t := 46) 22 rfl rfl rfl rfl rfl rfl (by kernel_rfl) (by kernel_rfl) (by kernel_rfl) (fun _ _ _ _ h => h) rfl rfl ?_
    refine m_take_no (j := 19) (t := 46) 23 rfl rfl rfl rfl rfl rfl (by kernel_rfl) (by kernel_rfl) (by kernel_rfl) (fun _ _ _ _ h => h) rfl rfl ?_
    refine m_take_no (j := 19) (t := 46) 24 rfl rfl rfl rfl rfl rfl (by kernel_rfl) (by kernel_rfl) (by kernel_rfl) (fun _ _ _ _ h => h) rfl rfl ?_
    refine m_take_no (j := 19) (t := 46) 25 rfl rfl rfl rfl rfl rfl (by kernel_rfl) (by kernel_rfl) (by kernel_rfl) (fun _ _ _ _ h => h) rfl rfl ?_
    refine m_take_no (j := 19) (t := 46) 26 rfl rfl rfl rfl rfl rfl (by kernel_rfl) (by kernel_rfl) (by kernel_rfl) (fun _ _ _ _ h => h) rfl rfl ?_
    refine m_tk 27 false rfl rfl (by kernel_rfl) (v_pick_t rfl rfl) rfl rfl ?_
    refine m_tk 28 false rfl rfl (by kernel_rfl) (v_move rfl) rfl rfl ?_
    refine m_take_no (j := 28) (t := 55) 29 rfl rfl rfl rfl rfl rfl (by kernel_rfl) (by kernel_rfl) (by kernel_rfl) (fun _ _ _ _ h => h) rfl rfl ?_
    refine m_take_no (j := 28) (t := 55) 30 rfl rfl rfl rfl rfl rfl (by kernel_rfl) (by kernel_rfl) (by kernel_rfl) (fun _ _ _ _ h => h) rfl rfl ?_
    refine m_take_no (j := 28) (t := 55) 31 rfl rfl rfl rfl rfl rfl (by kernel_rfl) (by kernel_rfl) (by kernel_rfl) (fun _ _ _ _ h => h) rfl rfl ?_
    refine m_take_no (j := 28) (t := 55) 32 rfl rfl rfl rfl rfl rfl (by kernel_rfl) (by kernel_rfl) (by kernel_rfl) (fun _ _ _ _ h => h) rfl rfl ?_
    refine m_take_no (j := 28) (t := 55) 33 rfl rfl rfl rfl rfl rfl (by kernel_rfl) (by kernel_rfl) (by kernel_rfl) (fun _ _ _ _ h => h) rfl rfl ?_
    refine m_take_no (j := 28) (t := 55) 34 rfl rfl rfl rfl rfl rfl (by kernel_rfl) (by kernel_rfl) (by kernel_rfl) (fun _ _ _ _ h => h) rfl rfl ?_
    refine m_tk 35 false rfl rfl (by kernel_rfl) (v_pick_t rfl rfl) rfl rfl ?_
    refine m_tk 36 false rfl rfl (by kernel_rfl) (v_move rfl) rfl rfl ?_
    refine m_take_no (j := 36) (t := 63) 37 rfl rfl rfl rfl rfl rfl (by kernel_rfl) (by kernel_rfl) (by kernel_rfl) (fun _ _ _ _ h => h) rfl rfl ?_
    refine m_take_no (j := 36) (t := 63) 38 rfl rfl rfl rfl rfl rfl (by kernel_rfl) (by kernel_rfl) (by kernel_rfl) (fun _ _ _ _ h => h) rfl rfl ?_
    refine m_take_no (j := 36) (t := 63) 39 rfl rfl rfl rfl rfl rfl (by kernel_rfl) (by kernel_rfl) (by kernel_rfl) (fun _ _ _ _ h => h) rfl rfl ?_
    refine m_take_no (j := 36) (t := 63) 40 rfl rfl rfl rfl rfl rfl (by kernel_rfl) (by kernel_rfl) (by kernel_rfl) (fun _ _ _ _ h => h) rfl rfl ?_
    refine m_take_no (j := 36) (t := 63) 41 rfl rfl rfl rfl rfl rfl (by kernel_rfl) (by kernel_rfl) (by kernel_rfl) (fun _ _ _ _ h => h) rfl rfl ?_
    refine m_take_no (j := 36) (t := 63) 42 rfl rfl rfl rfl rfl rfl (by kernel_rfl) (by kernel_rfl) (by kernel_rfl) (fun _ _ _ _ h => h) rfl rfl ?_
    refine m_take_no (j := 36) (t := 63) 43 rfl rfl rfl rfl rfl rfl (by kernel_rfl) (by kernel_rfl) (by kernel_rfl) (fun _ _ _ _ h => h) rfl rfl ?_
    refine m_take_no (j := 36) (t := 63) 44 rfl rfl rfl rfl rfl rfl (by kernel_rfl) (by kernel_rfl) (by kernel_rfl) (fun _ _ _ _ h => h) rfl rfl ?_
    refine m_take_no (j := 36) (t := 63) 45 rfl rfl rfl rfl rfl rfl (by kernel_rfl) (by kernel_rfl) (by kernel_rfl) (fun _ _ _ _ h => h) rfl rfl ?_
    refine m_take_no (j := 36) (t := 63) 46 rfl rfl rfl rfl rfl rfl (by kernel_rfl) (by kernel_rfl) (by kernel_rfl) (fun _ _ _ _ h => h) rfl rfl ?_
    refine m_take_no (j := 36) (t := 63) 47 rfl rfl rfl rfl rfl rfl (by kernel_rfl) (by kernel_rfl) (by kernel_rfl) (fun _ _ _ _ h => h) rfl rfl ?_
    refine m_tk 48 false rfl rfl (by kernel_rfl) (v_pick_t rfl rfl) rfl rfl ?_
    refine m_done (by kernel_rfl) ?_
    refine g_next hK6 ?_
    first | refine g_keep [2, 8, 75] [3, 4] [3, 4] (keep_cons rfl (keep_cons rfl (keep_cons rfl keep_nil))) (lkeep_cons rfl (lkeep_cons rfl lkeep_nil)) (keep_cons rfl (keep_cons rfl keep_nil)) rfl ?_ | refine g_keep [2, 8, 75] [3, 4] [3, 4] rfl rfl rfl rfl ?_
    refine g_cond rfl (fun _ => ?_) (fun h => by cases h)
    refine g_seq (fun K7 hK7 => ?_)
    refine g_region ?_
    refine g_step rfl (s_fieldAddr ty85 fo85_3 ty83 rfl rfl ?_)
    refine g_step rfl (s_val (v_loadl ty83 rfl rfl rfl rfl) rfl rfl ?_)
    refine g_step rfl (s_val (v_assign rfl) rfl rfl ?_)
    refine g_step rfl (s_val (v_assign rfl) rfl rfl ?_)
    refine g_nil ?_
    refine g_next hK7 ?_
    refine g_ret ?_
    refine g_then_ret ?_
    refine g_then_ret ?_
    have hN : doW room s i x = (s, false) := (doW_1 (by omega)).trans (by first | exact bootW_n (by simp_all; omega) | (rw [hB]; exact if_neg (by rintro ⟨h7, h8, h9, h10⟩; first | omega | (simp_all; done) | (simp_all; omega))))
    refine g_end2 (.inl rfl) Try.results43 (.tmp rfl) (.tmp rfl) [] (ASub.refl _) (AHeap.sub_refl _) (fun p hp => by cases hp) ⟨av, m, h, by rw [hN]; rfl, EffTo.refl _ _, hL, by rw [hN]; exact hR, by omega⟩
   ·
    try simp only [NM] at hg38
    obtain ⟨r, hrr⟩ := list_one (l := x.recs) (by simp_all; omega)
    obtain ⟨c, hcl⟩ := get_some (l := m.cells) (k := i) (by rw [hR.nc, hok.len]; exact hix)
    have hcs : s.cells[i]? = some c := by rw [← hR.nc]; exact hcl
    have hsr := hxs r (by rw [hrr]; simp)
    have hB := bootW_is hlo hrr hcs
    have hr0 : (x.recs.map encR)[0]? = some (encR r) := by rw [hrr]; rfl
    refine m_takel_yes (j := 11) (t := 38) 12 rfl rfl rfl rfl rfl (by kernel_rfl) (by kernel_rfl) (by kernel_rfl) (fun _ _ _ _ h => h) (vl_fieldAddr ty87 fo87_5 ty22 rfl) rfl rfl ?_
    refine m_take_yes (j := 11) (t := 38) 13 true rfl rfl rfl rfl rfl (by kernel_rfl) (by kernel_rfl) (by kernel_rfl) (fun _ _ _ _ h => h) (v_loadl ty22 rfl rfl rfl rfl) rfl rfl ?_
    refine m_take_yes (j := 11) (t := 38) 14 false rfl rfl rfl rfl rfl (by kernel_rfl) (by kernel_rfl) (by kernel_rfl) (fun _ _ _ _ h => h) (v_indexAddr ty22 ty46 rfl rfl rfl rfl hr0 rfl) rfl rfl ?_
    refine m_take_yes (j := 11) (t := 38) 15 true rfl rfl rfl rfl rfl (by kernel_rfl) (by kernel_rfl) (by kernel_rfl) (fun _ _ _ _ h => h) (by first | exact v_load_elt ty46 rfl rfl rfl hr0 rfl rfl | exact v_load_box_all ty46 rfl rfl (by assumption) rfl rfl | exact v_load_part (cs := [_, _, _, _, _, _, _]) ty46 rfl rfl rfl hr0 rfl rfl rfl | exact v_load_box_part (cs := [_, _, _, _, _, _, _]) ty46 rfl rfl (by assumption) rfl rfl rfl) rfl rfl ?_
    refine m_one_yes (j := 11) (t := 38) 16 (by kernel_rfl) rfl rfl rfl rfl rfl ?_
    refine sm_callp rfl rfl rfl (recValid_ok r _ hsr) ?_
    rintro _ rfl
    refine m_take_yes (j := 11) (t := 38) 17 false rfl rfl rfl rfl rfl (by kernel_rfl) (by kernel_rfl) (by kernel_rfl) (fun _ _ _ _ h => h) (v_not rfl) rfl rfl ?_
    refine m_tk 18 false rfl rfl (by kernel_rfl) (v_pick_f rfl rfl) rfl rfl ?_
    refine m_tk 19 false rfl rfl (by kernel_rfl) (v_move rfl) rfl rfl ?_
    refine m_split 46 rfl (fun hg46 => ?_) (fun hg46 => ?_)
    ·
     try simp only [NM] at hg46
     refine m_take_no (j := 19) (t := 46) 20 rfl rfl rfl rfl rfl rfl (by kernel_rfl) (by kernel_rfl) (by kernel_rfl) (fun _ _ _ _ h => h) rfl rfl ?_
     refine m_take_no (j := 19) (t := 46) 21 rfl rfl rfl rfl rfl rfl (by kernel_rfl) (by kernel_rfl) (by kernel_rfl) (fun _ _ _ _ h => h) rfl rfl ?_
     refine m_take_no (j := 19) (t := 46) 22 rfl rfl rfl rfl rfl rfl (by kernel_rfl) (by kernel_rfl) (by kernel_rfl) (fun _ _ _ _ h => h) rfl rfl ?_
     refine m_take_no (j := 19) (t := 46) 23 rfl rfl rfl rfl rfl rfl (by kernel_rfl) (by kernel_rfl) (by kernel_rfl) (fun _ _ _ _ h => h) rfl rfl ?_
     refine m_take_no (j := 19) (t := 46) 24 rfl rfl rfl rfl rfl rfl (by kernel_rfl) (by kernel_rfl) (by kernel_rfl) (fun _ _ _ _ h => h) rfl rfl ?_
     refine m_take_no (j := 19) (t := 46) 25 rfl rfl rfl rfl rfl rfl (by kernel_rfl) (by kernel_rfl) (by kernel_rfl) (fun _ _ _ _ h => h) rfl rfl ?_
     refine m_take_no (j := 19) (t := 46) 26 rfl rfl rfl rfl rfl rfl (by kernel_rfl) (by kernel_rfl) (by kernel_rfl) (fun _ _ _ _ h => h) rfl rfl ?_
     refine m_tk 27 false rfl rfl (by kernel_rfl) (v_pick_t rfl rfl) rfl rfl ?_
     refine m_tk 28 false rfl rfl (by kernel_rfl) (v_move rfl) rfl rfl ?_
     refine m_take_no (j := 28) (t := 55) 29 rfl rfl rfl rfl rfl rfl (by kernel_rfl) (by kernel_rfl) (by kernel_rfl) (fun _ _ _ _ h => h) rfl rfl ?_
     refine m_take_no (j := 28) (t := 55) 30 rfl rfl rfl rfl rfl rfl (by kernel_rfl) (by kernel_rfl) (by kernel_rfl) (fun _ _ _ _ h => h) rfl rfl ?_
     refine m_take_no (j := 28) (t := 55) 31 rfl rfl rfl rfl rfl rfl (by kernel_rfl) (by kernel_rfl) (by kernel_rfl) (fun _ _ _ _ h => h) rfl rfl ?_
     refine m_take_no (j := 28) (t := 55) 32 rfl rfl rfl rfl rfl rfl (by kernel_rfl) (by kernel_rfl) (by kernel_rfl) (fun _ _ _ _ h => h) rfl rfl ?_
     refine m_take_no (j := 28) (t := 55) 33 rfl rfl rfl rfl rfl rfl (by kernel_rfl) (by kernel_rfl) (by kernel_rfl) (fun _ _ _ _ h => h) rfl rfl ?_
     refine m_take_no (j := 28) (t := 55) 34 rfl rfl rfl rfl rfl rfl (by kernel_rfl) (by kernel_rfl) (by kernel_rfl) (fun _ _ _ _ h => h) rfl rfl ?_
     refine m_tk 35 false rfl rfl (by kernel_rfl) (v_pick_t rfl rfl) rfl rfl ?_
     refine m_tk 36 false rfl rfl (by kernel_rfl) (v_move rfl) rfl rfl ?_
     refine m_take_no (j := 36) (t := 63) 37 rfl rfl rfl rfl rfl rfl (by kernel_rfl) (by kernel_rfl) (by kernel_rfl) (fun _ _ _ _ h => h) rfl rfl ?_
     refine m_take_no (j := 36) (t := 63) 38 rfl rfl rfl rfl rfl rfl (by kernel_rfl) (by kernel_rfl) (by kernel_rfl) (fun _ _ _ _ h => h) rfl rfl ?_
     refine m_take_no (j := 36) (t := 63) 39 rfl rfl rfl rfl rfl rfl (by kernel_rfl) (by kernel_rfl) (by kernel_rfl) (fun _ _ _ _ h => h) rfl rfl ?_
     refine m_take_no (j := 36) (t := 63) 40 rfl rfl rfl rfl rfl rfl (by kernel_rfl) (by kernel_rfl) (by kernel_rfl) (fun _ _ _ _ h => h) rfl rfl ?_
     refine m_take_no (j := 36) (t := 63) 41 rfl rfl rfl rfl rfl rfl (by kernel_rfl) (by kernel_rfl) (by kernel_rfl) (fun _ _ _ _ h => h) rfl rfl ?_
     refine m_take_no (j := 36) (t := 63) 42 rfl rfl rfl rfl rfl rfl (by kernel_rfl) (by kernel_rfl) (by kernel_rfl) (fun _ _ _ _ h => h) rfl rfl ?_
     refine m_take_no (j := 36) (t := 63) 43 rfl rfl rfl rfl rfl rfl (by kernel_rfl) (by kernel_rfl) (by kernel_rfl) (fun _ _ _ _ h => h) rfl rfl ?_
     refine m_take_no (j := 36) (t := 63) 44 rfl rfl rfl rfl rfl rfl (by kernel_rfl) (by kernel_rfl) (by kernel_rfl) (fun _ _ _ _ h => h) rfl rfl ?_
     refine m_take_no (j := 36) (t := 63) 45 rfl rfl rfl rfl rfl rfl (by kernel_rfl) (by kernel_rfl) (by kernel_rfl) (fun _ _ _ _ h => h) rfl rfl ?_
     refine m_take_no (j := 36) (t := 63) 46 rfl rfl rfl rfl rfl rfl (by kernel_rfl) (by kernel_rfl) (by kernel_rfl) (fun _ _ _ _ h => h) rfl rfl ?_
     refine m_take_no (j := 36) (t := 63) 47 rfl rfl rfl rfl rfl rfl (by kernel_rfl) (by kernel_rfl) (by kernel_rfl) (fun _ _ _ _ h => h) rfl rfl ?_
     refine m_tk 48 false rfl rfl (by kernel_rfl) (v_pick_t rfl rfl) rfl rfl ?_
     refine m_done (by kernel_rfl) ?_
     refine g_next hK6 ?_
     first | refine g_keep [2, 8, 75] [3, 4] [3, 4] (keep_cons rfl (keep_cons rfl (keep_cons rfl keep_nil))) (lkeep_cons rfl (lkeep_cons rfl lkeep_nil)) (keep_cons rfl (keep_cons rfl keep_nil)) rfl ?_ | refine g_keep [2, 8, 75] [3, 4] [3, 4] rfl rfl rfl rfl ?_
     refine g_cond rfl (fun _ => ?_) (fun h => by cases h)
     refine g_seq (fun K8 hK8 => ?_)
     refine g_region ?_
     refine g_step rfl (s_fieldAddr ty85 fo85_3 ty83 rfl rfl ?_)
     refine g_step rfl (s_val (v_loadl ty83 rfl rfl rfl rfl) rfl rfl ?_)
     refine g_step rfl (s_val (v_assign rfl) rfl rfl ?_)
     refine g_step rfl (s_val (v_assign rfl) rfl rfl ?_)
     refine g_nil ?_
     refine g_next hK8 ?_
     refine g_ret ?_
     refine g_then_ret ?_
     refine g_then_ret ?_
     have hN : doW room s i x = (s, false) := (doW_1 (by omega)).trans (by first | exact bootW_n (by simp_all; omega) | (rw [hB]; exact if_neg (by rintro ⟨h7, h8, h9, h10⟩; first | omega | (simp_all; done) | (simp_all; omega))))
     refine g_end2 (.inl rfl) Try.results43 (.tmp rfl) (.tmp rfl) [] (ASub.refl _) (AHeap.sub_refl _) (fun p hp => by cases hp) ⟨av, m, h, by rw [hN]; rfl, EffTo.refl _ _, hL, by rw [hN]; exact hR, by omega⟩
    ·
     try simp only [NM] at hg46
     refine m_takel_yes (j := 19) (t := 46) 20 rfl rfl rfl rfl rfl (by kernel_rfl) (by kernel_rfl) (by kernel_rfl) (fun _ _ _ _ h => h) (vl_fieldAddr ty87 fo87_5 ty22 rfl) rfl rfl ?_
     refine m_take_yes (j := 19) (t := 46) 21 true rfl rfl rfl rfl rfl (by kernel_rfl) (by kernel_rfl) (by kernel_rfl) (fun _ _ _ _ h => h) (v_loadl ty22 rfl rfl rfl rfl) rfl rfl ?_
     refine m_take_yes (j := 19) (t := 46) 22 false rfl rfl rfl rfl rfl (by kernel_rfl) (by kernel_rfl) (by kernel_rfl) (fun _ _ _ _ h => h) (v_indexAddr ty22 ty46 rfl rfl rfl rfl hr0 rfl) rfl rfl ?_
     refine m_take_yes (j := 19) (t := 46) 23 false rfl rfl rfl rfl rfl (by kernel_rfl) (by kernel_rfl) (by kernel_rfl) (fun _ _ _ _ h => h) (by first | exact v_fieldAddr ty46 fo46_0 ty3 rfl | exact v_fieldAddr_box ty46 fo46_0 ty3 rfl) rfl rfl ?_
     refine m_take_yes (j := 19) (t := 46) 24 true rfl rfl rfl rfl rfl (by kernel_rfl) (by kernel_rfl) (by kernel_rfl) (fun _ _ _ _ h => h) (by first | exact v_load ty3 rfl rfl rfl hr0 rfl | exact v_load_box ty3 rfl rfl (by assumption) rfl) rfl rfl ?_
     refine m_take_yes (j := 19) (t := 46) 25 false rfl rfl rfl rfl rfl (by kernel_rfl) (by kernel_rfl) (by kernel_rfl) (fun _ _ _ _ h => h) (v_move rfl) rfl rfl ?_
     refine m_take_yes (j := 19) (t := 46) 26 false rfl rfl rfl rfl rfl (by kernel_rfl) (by kernel_rfl) (by kernel_rfl) (fun _ _ _ _ h => h) (v_neq rfl rfl) rfl rfl ?_
     refine m_tk 27 false rfl rfl (by kernel_rfl) (v_pick_f rfl rfl) rfl rfl ?_
     refine m_tk 28 false rfl rfl (by kernel_rfl) (v_move rfl) rfl rfl ?_
     refine m_split 55 rfl (fun hg55 => ?_) (fun hg55 => ?_)
     ·
      try simp only [NM] at hg55
      refine m_take_no (j := 28) (t := 55) 29 rfl rfl rfl rfl rfl rfl (by kernel_rfl) (by kernel_rfl) (by kernel_rfl) (fun _ _ _ _ h => h) rfl rfl ?_
      refine m_take_no (j := 28) (t := 55) 30 rfl rfl rfl rfl rfl rfl (by kernel_rfl) (by kernel_rfl) (by kernel_rfl) (fun _ _ _ _ h => h) rfl rfl ?_
      refine m_take_no (j := 28) (t := 55) 31 rfl rfl rfl rfl rfl rfl (by kernel_rfl) (by kernel_rfl) (by kernel_rfl) (fun _ _ _ _ h => h) rfl rfl ?_
      refine m_take_no (j := 28) (t := 55) 32 rfl rfl rfl rfl rfl rfl (by kernel_rfl) (by kernel_rfl) (by kernel_rfl) (fun _ _ _ _ h => h) rfl rfl ?_
      refine m_take_no (j := 28) (t := 55) 33 rfl rfl rfl rfl rfl rfl (by kernel_rfl) (by kernel_rfl) (by kernel_rfl) (fun _ _ _ _ h => h) rfl rfl ?_
      refine m_take_no (j := 28) (t := 55) 34 rfl rfl rfl rfl rfl rfl (by kernel_rfl) (by kernel_rfl) (by kernel_rfl) (fun _ _ _ _ h => h) rfl rfl ?_
      refine m_tk 35 false rfl rfl (by kernel_rfl) (v_pick_t rfl rfl) rfl rfl ?_
      refine m_tk 36 false rfl rfl (by kernel_rfl) (v_move rfl) rfl rfl ?_
      refine m_take_no (j := 36) (t := 63) 37 rfl rfl rfl rfl rfl rfl (by kernel_rfl) (by kernel_rfl) (by kernel_rfl) (fun _ _ _ _ h => h) rfl rfl ?_
      refine m_take_no (j := 36) (t := 63) 38 rfl rfl rfl rfl rfl rfl (by kernel_rfl) (by kernel_rfl) (by kernel_rfl) (fun _ _ _ _ h => h) rfl rfl ?_
      refine m_take_no (j := 36) (t := 63) 39 rfl rfl rfl rfl rfl rfl (by kernel_rfl) (by kernel_rfl) (by kernel_rfl) (fun _ _ _ _ h => h) rfl rfl ?_
      refine m_take_no (j := 36) (t := 63) 40 rfl rfl rfl rfl rfl rfl (by kernel_rfl) (by kernel_rfl) (by kernel_rfl) (fun _ _ _ _ h => h) rfl rfl ?_
      refine m_take_no (j := 36) (t := 63) 41 rfl rfl rfl rfl rfl rfl (by kernel_rfl) (by kernel_rfl) (by kernel_rfl) (fun _ _ _ _ h => h) rfl rfl ?_
      refine m_take_no (j := 36) (t := 63) 42 rfl rfl rfl rfl rfl rfl (by kernel_rfl) (by kernel_rfl) (by kernel_rfl) (fun _ _ _ _ h => h) rfl rfl ?_
      refine m_take_no (j := 36) (t := 63) 43 rfl rfl rfl rfl rfl rfl (by kernel_rfl) (by kernel_rfl) (by kernel_rfl) (fun _ _ _ _ h => h) rfl rfl ?_
      refine m_take_no (j := 36) (t := 63) 44 rfl rfl rfl rfl rfl rfl (by kernel_rfl) (by kernel_rfl) (by kernel_rfl) (fun _ _ _ _ h => h) rfl rfl ?_
      refine m_take_no (j := 36) (t := 63) 45 rfl rfl rfl rfl rfl rfl (by kernel_rfl) (by kernel_rfl) (by kernel_rfl) (fun _ _ _ _ h => h) rfl rfl ?_
      refine m_take_no (j := 36) (t := 63) 46 rfl rfl rfl rfl rfl rfl (by kernel_rfl) (by kernel_rfl) (by kernel_rfl) (fun _ _ _ _ h => h) rfl rfl ?_
      refine m_take_no (j := 36) (t := 63) 47 rfl rfl rfl rfl rfl rfl (by kernel_rfl) (by kernel_rfl) (by kernel_rfl) (fun _ _ _ _ h => h) rfl rfl ?_
      refine m_tk 48 false rfl rfl (by kernel_rfl) (v_pick_t rfl rfl) rfl rfl ?_
      refine m_done (by kernel_rfl) ?_
      refine g_next hK6 ?_
      first | refine g_keep [2, 8, 75] [3, 4] [3, 4] (keep_cons rfl (keep_cons rfl (keep_cons rfl keep_nil))) (lkeep_cons rfl (lkeep_cons rfl lkeep_nil)) (keep_cons rfl (keep_cons rfl keep_nil)) rfl ?_ | refine g_keep [2, 8, 75] [3, 4] [3, 4] rfl rfl rfl rfl ?_
      refine g_cond rfl (fun _ => ?_) (fun h => by cases h)
      refine g_seq (fun K9 hK9 => ?_)
      refine g_region ?_
      refine g_step rfl (s_fieldAddr ty85 fo85_3 ty83 rfl rfl ?_)
      refine g_step rfl (s_val (v_loadl ty83 rfl rfl rfl rfl) rfl rfl ?_)
      refine g_step rfl (s_val (v_assign rfl) rfl rfl ?_)
      refine g_step rfl (s_val (v_assign rfl) rfl rfl ?_)
      refine g_nil ?_
      refine g_next hK9 ?_
      refine g_ret ?_
      refine g_then_ret ?_
      refine g_then_ret ?_
      have hN : doW room s i x = (s, false) := (doW_1 (by omega)).trans (by first | exact bootW_n (by simp_all; omega) | (rw [hB]; exact if_neg (by rintro ⟨h7, h8, h9, h10⟩; first | omega | (simp_all; done) | (simp_all; omega))))
      refine g_end2 (.inl rfl) Try.results43 (.tmp rfl) (.tmp rfl) [] (ASub.refl _) (AHeap.sub_refl _) (fun p hp => by cases hp) ⟨av, m, h, by rw [hN]; rfl, EffTo.refl _ _, hL, by rw [hN]; exact hR, by omega⟩
     ·
      try simp only [NM] at hg55
      refine m_takel_yes (j := 28) (t := 55) 29 rfl rfl rfl rfl rfl (by kernel_rfl) (by kernel_rfl) (by kernel_rfl) (fun _ _ _ _ h => h) (vl_fieldAddr ty87 fo87_5 ty22 rfl) rfl rfl ?_
      refine m_take_yes (j := 28) (t := 55) 30 true rfl rfl rfl rfl rfl (by kernel_rfl) (by kernel_rfl) (by kernel_rfl) (fun _ _ _ _ h => h) (v_loadl ty22 rfl rfl rfl rfl) rfl rfl ?_
      refine m_take_yes (j := 28) (t := 55) 31 false rfl rfl rfl rfl rfl (by kernel_rfl) (by kernel_rfl) (by kernel_rfl) (fun _ _ _ _ h => h) (v_indexAddr ty22 ty46 rfl rfl rfl rfl hr0 rfl) rfl rfl ?_
      refine m_take_yes (j := 28) (t := 55) 32 false rfl rfl rfl rfl rfl (by kernel_rfl) (by kernel_rfl) (by kernel_rfl) (fun _ _ _ _ h => h) (by first | exact v_fieldAddr ty46 fo46_2 ty3 rfl | exact v_fieldAddr_box ty46 fo46_2 ty3 rfl) rfl rfl ?_
      refine m_take_yes (j := 28) (t := 55) 33 true rfl rfl rfl rfl rfl (by kernel_rfl) (by kernel_rfl) (by kernel_rfl) (fun _ _ _ _ h => h) (by first | exact v_load ty3 rfl rfl rfl hr0 rfl | exact v_load_box ty3 rfl rfl (by assumption) rfl) rfl rfl ?_
      refine m_take_yes (j := 28) (t := 55) 34 false rfl rfl rfl rfl rfl (by kernel_rfl) (by kernel_rfl) (by kernel_rfl) (fun _ _ _ _ h => h) (v_neq rfl rfl) rfl rfl ?_
      refine m_tk 35 false rfl rfl (by kernel_rfl) (v_pick_f rfl rfl) rfl rfl ?_
      refine m_tk 36 false rfl rfl (by kernel_rfl) (v_move rfl) rfl rfl ?_
      refine m_split 63 rfl (fun hg63 => ?_) (fun hg63 => ?_)
      ·
       try simp only [NM] at hg63
       refine m_take_no (j := 36) (t := 63) 37 rfl rfl rfl rfl rfl rfl (by kernel_rfl) (by kernel_rfl) (by kernel_rfl) (fun _ _ _ _ h => h) rfl rfl ?_
       refine m_take_no (j := 36) (t := 63) 38 rfl rfl rfl rfl rfl rfl (by kernel_rfl) (by kernel_rfl) (by kernel_rfl) (fun _ _ _ _ h => h) rfl rfl ?_
       refine m_take_no (j := 36) (t := 63) 39 rfl rfl rfl rfl rfl rfl (by kernel_rfl) (by kernel_rfl) (by kernel_rfl) (fun _ _ _ _ h => h) rfl rfl ?_
       refine m_take_no (j := 36) (t := 63) 40 rfl rfl rfl rfl rfl rfl (by kernel_rfl) (by kernel_rfl) (by kernel_rfl) (fun _ _ _ _ h => h) rfl rfl ?_
       refine m_take_no (j := 36) (t := 63) 41 rfl rfl rfl rfl rfl rfl (by kernel_rfl) (by kernel_rfl) (by kernel_rfl) (fun _ _ _ _ h => h) rfl rfl ?_
       refine m_take_no (j := 36) (t := 63) 42 rfl rfl rfl rfl rfl rfl (by kernel_rfl) (by kernel_rfl) (by kernel_rfl) (fun _ _ _ _ h => h) rfl rfl ?_
       refine m_take_no (j := 36) (t := 63) 43 rfl rfl rfl rfl rfl rfl (by kernel_rfl) (by kernel_rfl) (by kernel_rfl) (fun _ _ _ _ h => h) rfl rfl ?_
       refine m_take_no (j := 36) (t := 63) 44 rfl rfl rfl rfl rfl rfl (by kernel_rfl) (by kernel_rfl) (by kernel_rfl) (fun _ _ _ _ h => h) rfl rfl ?_
       refine m_take_no (j := 36) (t := 63) 45 rfl rfl rfl rfl rfl rfl (by kernel_rfl) (by kernel_rfl) (by kernel_rfl) (fun _ _ _ _ h => h) rfl rfl ?_
       refine m_take_no (j := 36) (t := 63) 46 rfl rfl rfl rfl rfl rfl (by kernel_rfl) (by kernel_rfl) (by kernel_rfl) (fun _ _ _ _ h => h) rfl rfl ?_
       refine m_take_no (j := 36) (t := 63) 47 rfl rfl rfl rfl rfl rfl (by kernel_rfl) (by kernel_rfl) (by kernel_rfl) (fun _ _ _ _ h => h) rfl rfl ?_
       refine m_tk 48 false rfl rfl (by kernel_rfl) (v_pick_t rfl rfl) rfl rfl ?_
       refine m_done (by kernel_rfl) ?_
       refine g_next hK6 ?_
       first | refine g_keep [2, 8, 75] [3, 4] [3, 4] (keep_cons rfl (keep_cons rfl (keep_cons rfl keep_nil))) (lkeep_cons rfl (lkeep_cons rfl lkeep_nil)) (keep_cons rfl (keep_cons rfl keep_nil)) rfl ?_ | refine g_keep [2, 8, 75] [3, 4] [3, 4] rfl rfl rfl rfl ?_
       refine g_cond rfl (fun _ => ?_) (fun h => by cases h)
       refine g_seq (fun K10 hK10 => ?_)
       refine g_region ?_
       refine g_step rfl (s_fieldAddr ty85 fo85_3 ty83 rfl rfl ?_)
       refine g_step rfl (s_val (v_loadl ty83 rfl rfl rfl rfl) rfl rfl ?_)
       refine g_step rfl (s_val (v_assign rfl) rfl rfl ?_)
       refine g_step rfl (s_val (v_assign rfl) rfl rfl ?_)
       refine g_nil ?_
       refine g_next hK10 ?_
       refine g_ret ?_
       refine g_then_ret ?_
       refine g_then_ret ?_
       have hN : doW room s i x = (s, false) := (doW_1 (by omega)).trans (by first | exact bootW_n (by simp_all; omega) | (rw [hB]; exact if_neg (by rintro ⟨h7, h8, h9, h10⟩; first | omega | (simp_all; done) | (simp_all; omega))))
       refine g_end2 (.inl rfl) Try.results43 (.tmp rfl) (.tmp rfl) [] (ASub.refl _) (AHeap.sub_refl _) (fun p hp => by cases hp) ⟨av, m, h, by rw [hN]; rfl, EffTo.refl _ _, hL, by rw [hN]; exact hR, by omega⟩
      ·
       try simp only [NM] at hg63
       refine m_takel_yes (j := 36) (t := 63) 37 rfl rfl rfl rfl rfl (by kernel_rfl) (by kernel_rfl) (by kernel_rfl) (fun _ _ _ _ h => h) (vl_fieldAddr ty87 fo87_5 ty22 rfl) rfl rfl ?_
       refine m_take_yes (j := 36) (t := 63) 38 true rfl rfl rfl rfl rfl (by kernel_rfl) (by kernel_rfl) (by kernel_rfl) (fun _ _ _ _ h => h) (v_loadl ty22 rfl rfl rfl rfl) rfl rfl ?_
       refine m_take_yes (j := 36) (t := 63) 39 false rfl rfl rfl rfl rfl (by kernel_rfl) (by kernel_rfl) (by kernel_rfl) (fun _ _ _ _ h => h) (v_indexAddr ty22 ty46 rfl rfl rfl rfl hr0 rfl) rfl rfl ?_
       refine m_take_yes (j := 36) (t := 63) 40 false rfl rfl rfl rfl rfl (by kernel_rfl) (by kernel_rfl) (by kernel_rfl) (fun _ _ _ _ h => h) (by first | exact v_fieldAddr ty46 fo46_1 ty3 rfl | exact v_fieldAddr_box ty46 fo46_1 ty3 rfl) rfl rfl ?_
       refine m_take_yes (j := 36) (t := 63) 41 true rfl rfl rfl rfl rfl (by kernel_rfl) (by kernel_rfl) (by kernel_rfl) (fun _ _ _ _ h => h) (by first | exact v_load ty3 rfl rfl rfl hr0 rfl | exact v_load_box ty3 rfl rfl (by assumption) rfl) rfl rfl ?_
       refine m_takel_yes (j := 36) (t := 63) 42 rfl rfl rfl rfl rfl (by kernel_rfl) (by kernel_rfl) (by kernel_rfl) (fun _ _ _ _ h => h) (vl_fieldAddr ty85 fo85_2 ty71 rfl) rfl rfl ?_
       refine m_take_yes (j := 36) (t := 63) 43 true rfl rfl rfl rfl rfl (by kernel_rfl) (by kernel_rfl) (by kernel_rfl) (fun _ _ _ _ h => h) (v_loadl ty71 rfl rfl rfl rfl) rfl rfl ?_
       refine m_take_yes (j := 36) (t := 63) 44 false rfl rfl rfl rfl rfl (by kernel_rfl) (by kernel_rfl) (by kernel_rfl) (fun _ _ _ _ h => h) (v_move rfl) rfl rfl ?_
       refine m_take_yes (j := 36) (t := 63) 45 false rfl rfl rfl rfl rfl (by kernel_rfl) (by kernel_rfl) (by kernel_rfl) (fun _ _ _ _ h => h) (v_indexAddr ty71 ty3 rfl rfl hVc hxi (map_get hcl) rfl) rfl rfl ?_
       refine m_take_yes (j := 36) (t := 63) 46 true rfl rfl rfl rfl rfl (by kernel_rfl) (by kernel_rfl) (by kernel_rfl) (fun _ _ _ _ h => h) (by first | exact v_load ty3 rfl rfl hVc (map_get hcl) rfl | exact v_load_box ty3 rfl rfl (by assumption) rfl) rfl rfl ?_
       refine m_take_yes (j := 36) (t := 63) 47 false rfl rfl rfl rfl rfl (by kernel_rfl) (by kernel_rfl) (by kernel_rfl) (fun _ _ _ _ h => h) (v_lss rfl rfl) rfl rfl ?_
       refine m_tk 48 false rfl rfl (by kernel_rfl) (v_pick_f rfl rfl) rfl rfl ?_
       refine m_done (by kernel_rfl) ?_
       refine g_next hK6 ?_
       first | refine g_keep [2, 8, 75] [3, 4] [3, 4] (keep_cons rfl (keep_cons rfl (keep_cons rfl keep_nil))) (lkeep_cons rfl (lkeep_cons rfl lkeep_nil)) (keep_cons rfl (keep_cons rfl keep_nil)) rfl ?_ | refine g_keep [2, 8, 75] [3, 4] [3, 4] rfl rfl rfl rfl ?_
       refine g_cond rfl (fun hc75 => ?_) (fun hc75 => ?_)
       ·
        try simp only [NM] at hc75
        refine g_seq (fun K11 hK11 => ?_)
        refine g_region ?_
        refine g_step rfl (s_fieldAddr ty85 fo85_3 ty83 rfl rfl ?_)
        refine g_step rfl (s_val (v_loadl ty83 rfl rfl rfl rfl) rfl rfl ?_)
        refine g_step rfl (s_val (v_assign rfl) rfl rfl ?_)
        refine g_step rfl (s_val (v_assign rfl) rfl rfl ?_)
        refine g_nil ?_
        refine g_next hK11 ?_
        refine g_ret ?_
        refine g_then_ret ?_
        refine g_then_ret ?_
        have hN : doW room s i x = (s, false) := (doW_1 (by omega)).trans (by first | exact bootW_n (by simp_all; omega) | (rw [hB]; exact if_neg (by rintro ⟨h7, h8, h9, h10⟩; first | omega | (simp_all; done) | (simp_all; omega))))
        refine g_end2 (.inl rfl) Try.results43 (.tmp rfl) (.tmp rfl) [] (ASub.refl _) (AHeap.sub_refl _) (fun p hp => by cases hp) ⟨av, m, h, by rw [hN]; rfl, EffTo.refl _ _, hL, by rw [hN]; exact hR, by omega⟩
       ·
        try simp only [NM] at hc75
        have hcond : recValid r = true ∧ r.id = (i : Int) ∧ c ≤ r.inc ∧ r.st = 0 := by refine ⟨?_, ?_, ?_, ?_⟩ <;> (first | omega | (simp_all; done) | (simp_all; omega))
        have hN := lg_boot (room := room) (by omega) hlo hrr hcs hcond
        obtain ⟨q0, hq0⟩ := get_some (l := m.has) (k := i) (by rw [hR.nh]; exact hix)
        refine g_skip ?_
        refine g_next hK5 ?_
        refine g_seq (fun K12 hK12 => ?_)
        refine g_region ?_
        refine g_step rfl (s_fieldAddr ty85 fo85_0 ty81 rfl rfl ?_)
        refine g_step rfl (s_val (v_loadl ty81 rfl rfl rfl rfl) rfl rfl ?_)
        refine g_step rfl (s_val (v_move rfl) rfl rfl ?_)
        refine g_step rfl (s_val (v_indexAddr ty81 ty4 rfl rfl hVu hxi (map_get hup0) rfl) rfl rfl ?_)
        refine g_step rfl (s_store_row (k := i) (off := 0) (old := .bool false) (new := .bool true) ty4 rfl rfl huu (by rw [Nat.zero_add]; exact map_get hup0) rfl rfl rfl rfl hDu ?_)
        rw [show (0 + i : Nat) = i from Nat.zero_add i, set_map_b]
        have hL1 := hL.setU (m.ups.set i true)
        have hE1 := (EffTo.refl h w0.heap.size).write (b := ur) (.row 1 ((m.ups.set i true).map .bool)) (.inl (by rw [hL.uu]; simp))
        have hs1 := hE1.within hhH
        have hhr1 : (AHeap.set H ur (.row 1 ((m.ups.set i true).map .bool))) hr = _ := hs1 _ _ hL1.hh
        have hVh1 := AV.view_own_all (n := s.tl.length) hhr1 (by rw [List.length_map]; exact hR.nh.symm)
        have hE2 := hE1.write (b := hr) (.row 3 ((m.has.set i ((i : Int), room, coresOf x.recs)).map encMl)) (.inl (by rw [hL1.hh]; simp))
        refine g_nil ?_
        refine g_next hK12 ?_
        refine g_seq (fun K13 hK13 => ?_)
        refine g_draw (n := 11) (fun j => !([10] : List Nat).contains j) rfl rfl ?_
        refine m_takel 0 rfl rfl (by kernel_rfl) (by kernel_rfl) (by kernel_rfl) (fun _ _ _ _ h => h) (vl_fieldAddr ty85 fo85_1 ty82 rfl) rfl rfl ?_
        refine m_tk 1 true rfl rfl (by kernel_rfl) (v_loadl ty82 rfl rfl rfl rfl) rfl rfl ?_
        refine m_tk 2 false rfl rfl (by kernel_rfl) (v_move rfl) rfl rfl ?_
        refine m_tk 3 false rfl rfl (by kernel_rfl) (v_move rfl) rfl rfl ?_
        refine m_tk 4 false rfl rfl (by kernel_rfl) (v_move rfl) rfl rfl ?_
        refine m_takel 5 rfl rfl (by kernel_rfl) (by kernel_rfl) (by kernel_rfl) (fun _ _ _ _ h => h) (vl_fieldAddr ty87 fo87_5 ty22 rfl) rfl rfl ?_
        refine m_tk 6 true rfl rfl (by kernel_rfl) (v_loadl ty22 rfl rfl rfl rfl) rfl rfl ?_
        refine m_one 7 (by kernel_rfl) rfl rfl ?_
        refine sm_callp rfl rfl rfl (cores34_ok x.recs _ (by omega)) ?_
        rintro _ rfl
        refine m_tk 8 false rfl rfl (by kernel_rfl) (v_sub (b := (mdl x.node room (coresOf x.recs))) (v_build (vs := [(0, _), (1, _), (2, _)]) (zs := [(.int .i64 0), (.int .i64 0), .nil0]) (cells := [_, _, _]) ty61 pl61 rfl rfl rfl) (ASub.of_wk rfl)) rfl rfl ?_
        refine m_tk 9 false rfl rfl (by kernel_rfl) (v_indexAddr ty82 ty61 rfl rfl hVh1 hxi (map_get hq0) rfl) rfl rfl ?_
        refine m_one 10 (by kernel_rfl) rfl rfl ?_
        refine sm_any rfl (s_store_row (k := i) (off := 0) (old := encMl q0) (new := mdl x.node room (coresOf x.recs)) ty61 rfl rfl hhr1 (by rw [Nat.zero_add]; exact map_get hq0) rfl rfl rfl rfl hDh ?_)
        rw [show (0 + i : Nat) = i from Nat.zero_add i, set_map_h, show ((x.node, room, coresOf x.recs) : Int × Int × List Rc) = ((i : Int), room, coresOf x.recs) from by rw [hxi]]
        refine m_done (by kernel_rfl) ?_
        refine g_next hK13 ?_
        refine g_seq (fun K14 hK14 => ?_)
        refine g_region ?_
        refine g_step rfl (s_fieldAddr ty85 fo85_3 ty83 rfl rfl ?_)
        refine g_step rfl (s_val (v_loadl ty83 rfl rfl rfl rfl) rfl rfl ?_)
        refine g_step rfl (s_val (v_assign rfl) rfl rfl ?_)
        refine g_step rfl (s_val (v_assign rfl) rfl rfl ?_)
        refine g_nil ?_
        refine g_next hK14 ?_
        refine g_ret ?_
        refine g_then_ret ?_
        refine g_end2 (.inl rfl) Try.results43 (.tmp rfl) (.tmp rfl) [(hr, (.row 3 ((m.has.set i ((i : Int), room, coresOf x.recs)).map encMl))), (ur, .row 1 ((m.ups.set i true).map .bool))] (ASub.refl _) (AHeap.sub_refl _) (hE2.ok hG) ⟨av, _, _, by rw [hN]; rfl, hE2, hL1.setH _, by rw [hN]; exact hR.boot hix (cores_fine hxn), by simp⟩
 ·
  try simp only [NM] at hc26
  refine g_skip ?_
  refine g_next hK3 ?_
  refine g_seq (fun K15 hK15 => ?_)
  refine g_seq (fun K16 hK16 => ?_)
  refine g_region ?_
  refine g_step rfl (s_fieldAddr ty87 fo87_0 ty3 rfl rfl ?_)
  refine g_step rfl (s_val (v_loadl ty3 rfl rfl rfl rfl) rfl rfl ?_)
  refine g_step rfl (s_val (v_eql rfl rfl) rfl rfl ?_)
  refine g_nil ?_
  refine g_next hK16 ?_
  refine g_cond rfl (fun hc96 => ?_) (fun hc96 => ?_)
  ·
   try simp only [NM] at hc96
   refine g_seq (fun K17 hK17 => ?_)
   refine g_seq (fun K18 hK18 => ?_)
   refine g_region ?_
   refine g_step rfl (s_val (v_move rfl) rfl rfl ?_)
   refine g_step rfl (s_val (v_lss rfl rfl) rfl rfl ?_)
   refine g_step rfl (s_val (v_move rfl) rfl rfl ?_)
   refine g_split 99 rfl (fun hg99 => ?_) (fun hg99 => ?_)
   ·
    try simp only [NM] at hg99
    refine g_step_no (j := 2) (t := 99) rfl rfl rfl rfl rfl rfl rfl ?_
    refine g_step_no (j := 2) (t := 99) rfl rfl rfl rfl rfl rfl rfl ?_
    refine g_step_no (j := 2) (t := 99) rfl rfl rfl rfl rfl rfl rfl ?_
    refine g_step_no (j := 2) (t := 99) rfl rfl rfl rfl rfl rfl rfl ?_
    refine g_step_no (j := 2) (t := 99) rfl rfl rfl rfl rfl rfl rfl ?_
    refine g_step rfl (s_val (v_pick_t rfl rfl) rfl rfl ?_)
    refine g_nil ?_
    refine g_next hK18 ?_
    refine g_cond rfl (fun _ => ?_) (fun h => by cases h)
    refine g_seq (fun K19 hK19 => ?_)
    refine g_region ?_
    refine g_step rfl (s_fieldAddr ty85 fo85_3 ty83 rfl rfl ?_)
    refine g_step rfl (s_val (v_loadl ty83 rfl rfl rfl rfl) rfl rfl ?_)
    refine g_step rfl (s_val (v_assign rfl) rfl rfl ?_)
    refine g_step rfl (s_val (v_assign rfl) rfl rfl ?_)
    refine g_nil ?_
    refine g_next hK19 ?_
    first | refine g_keep [6, 7] [] [] (keep_cons rfl (keep_cons rfl keep_nil)) lkeep_nil keep_nil rfl ?_ | refine g_keep [6, 7] [] [] rfl rfl rfl rfl ?_
    refine g_ret ?_
    refine g_then_ret ?_
    refine g_then_ret ?_
    have hN : doW room s i x = (s, false) := (doW_4 (by omega)).trans (hR.again_no (by first | exact .inl (by omega) | exact .inr (by omega)))
    refine g_end2 (.inl rfl) Try.results43 (.tmp rfl) (.tmp rfl) [] (ASub.refl _) (AHeap.sub_refl _) (fun p hp => by cases hp) ⟨av, m, h, by rw [hN]; rfl, EffTo.refl _ _, hL, by rw [hN]; exact hR, by omega⟩
   ·
    try simp only [NM] at hg99
    refine g_step_yes (j := 2) (t := 99) rfl rfl rfl rfl (s_val (by first | exact v_loadl_all ty85 rfl rfl rfl rfl rfl | exact v_loadl_part (cs := [_, _, _, _]) ty85 rfl rfl rfl rfl rfl rfl) rfl rfl ?_)
    refine g_step_yes (j := 2) (t := 99) rfl rfl rfl rfl (s_fieldAddr ty87 fo87_2 ty3 rfl rfl ?_)
    refine g_step_yes (j := 2) (t := 99) rfl rfl rfl rfl (s_val (v_loadl ty3 rfl rfl rfl rfl) rfl rfl ?_)
    refine g_step_yes (j := 2) (t := 99) rfl rfl rfl rfl (s_callp rfl rfl rfl (letter34_ok h ur hr cr s.tl.length av m x.other _ hL hhH (by omega)) ?_)
    rintro _ rfl
    refine g_step_yes (j := 2) (t := 99) rfl rfl rfl rfl (s_val (v_geq rfl rfl) rfl rfl ?_)
    refine g_step rfl (s_val (v_pick_f rfl rfl) rfl rfl ?_)
    refine g_nil ?_
    refine g_next hK18 ?_
    refine g_cond rfl (fun hc105 => ?_) (fun hc105 => ?_)
    ·
     try simp only [NM] at hc105
     refine g_seq (fun K20 hK20 => ?_)
     refine g_region ?_
     refine g_step rfl (s_fieldAddr ty85 fo85_3 ty83 rfl rfl ?_)
     refine g_step rfl (s_val (v_loadl ty83 rfl rfl rfl rfl) rfl rfl ?_)
     refine g_step rfl (s_val (v_assign rfl) rfl rfl ?_)
     refine g_step rfl (s_val (v_assign rfl) rfl rfl ?_)
     refine g_nil ?_
     refine g_next hK20 ?_
     refine g_ret ?_
     refine g_then_ret ?_
     refine g_then_ret ?_
     have hN : doW room s i x = (s, false) := (doW_4 (by omega)).trans (hR.again_no (by first | exact .inl (by omega) | exact .inr (by omega)))
     refine g_end2 (.inl rfl) Try.results43 (.tmp rfl) (.tmp rfl) [] (ASub.refl _) (AHeap.sub_refl _) (fun p hp => by cases hp) ⟨av, m, h, by rw [hN]; rfl, EffTo.refl _ _, hL, by rw [hN]; exact hR, by omega⟩
    ·
     try simp only [NM] at hc105
     refine g_skip ?_
     refine g_next hK17 ?_
     refine g_seq (fun K21 hK21 => ?_)
     refine g_draw (n := 15) (fun j => !([12] : List Nat).contains j) rfl rfl ?_
     obtain ⟨j, q, hj, hq, hA9, hR9⟩ := hR.again_yes (x := x) (by omega) (by omega)
     have hN := (doW_4 (room := room) (i := i) (by omega : x.kind = 4)).trans hA9
     refine m_takel 0 rfl rfl (by kernel_rfl) (by kernel_rfl) (by kernel_rfl) (fun _ _ _ _ h => h) (vl_fieldAddr ty85 fo85_3 ty83 rfl) rfl rfl ?_
     refine m_tk 1 true rfl rfl (by kernel_rfl) (v_loadl ty83 rfl rfl rfl rfl) rfl rfl ?_
     refine m_takel 2 rfl rfl (by kernel_rfl) (by kernel_rfl) (by kernel_rfl) (fun _ _ _ _ h => h) (vl_fieldAddr ty87 fo87_2 ty3 rfl) rfl rfl ?_
     refine m_tk 3 true rfl rfl (by kernel_rfl) (v_loadl ty3 rfl rfl rfl rfl) rfl rfl ?_
     refine m_takel 4 rfl rfl (by kernel_rfl) (by kernel_rfl) (by kernel_rfl) (fun _ _ _ _ h => h) (vl_fieldAddr ty85 fo85_3 ty83 rfl) rfl rfl ?_
     refine m_tk 5 true rfl rfl (by kernel_rfl) (v_loadl ty83 rfl rfl rfl rfl) rfl rfl ?_
     refine m_tk 6 false rfl rfl (by kernel_rfl) (v_move rfl) rfl rfl ?_
     refine m_tk 7 false rfl rfl (by kernel_rfl) (v_indexAddr ty83 ty97 rfl rfl hPv hj (map_get hq) rfl) rfl rfl ?_
     refine m_tk 8 false rfl rfl (by kernel_rfl) (by first | exact v_fieldAddr ty97 fo97_1 ty22 rfl | exact v_fieldAddr_box ty97 fo97_1 ty22 rfl) rfl rfl ?_
     refine m_tk 9 true rfl rfl (by kernel_rfl) (by first | exact v_load ty22 rfl rfl hPv (map_get hq) rfl | exact v_load_box ty22 rfl rfl (by assumption) rfl) rfl rfl ?_
     refine m_tk 10 false rfl rfl (by kernel_rfl) (v_sub (b := (encPo (x.other, q.2))) (v_build (vs := [(0, _), (1, _)]) (zs := [(.int .i64 0), .nil0]) (cells := [_, _]) ty97 pl97 rfl rfl rfl) (ASub.of_wk rfl)) rfl rfl ?_
     refine m_one 11 (by kernel_rfl) rfl rfl ?_
     refine sm_lit ty83 ty97 rfl rfl rfl rfl rfl rfl rfl ?_
     refine m_one 12 (by kernel_rfl) rfl rfl ?_
     refine sm_any rfl (s_appendV (l := (m.post.map encPo)) (m := ([((x.other, q.2) : Int × List Rc)].map encPo)) ty83 ty97 rfl rfl (hL.sv hhH _) rfl rfl (by refine Even.map _ ?_ _; intro _; rfl) (by intro x hx; obtain ⟨_, _, rfl⟩ := List.mem_map.1 hx; rfl) rfl (by simp) (by simp; omega) (by simp; omega) ?_)
     intro r' hr'
     rw [← List.map_append]
     obtain ⟨hE2, hL2⟩ := hL.put hhH hr' (m.post ++ [(x.other, q.2)])
     refine m_tk 13 false rfl rfl (by kernel_rfl) (v_assign rfl) rfl rfl ?_
     refine m_tk 14 false rfl rfl (by kernel_rfl) (v_assign rfl) rfl rfl ?_
     refine m_done (by kernel_rfl) ?_
     refine g_next hK21 ?_
     first | refine g_keep [6, 7] [] [] (keep_cons rfl (keep_cons rfl keep_nil)) lkeep_nil keep_nil rfl ?_ | refine g_keep [6, 7] [] [] rfl rfl rfl rfl ?_
     refine g_ret ?_
     refine g_then_ret ?_
     refine g_end2 (.inl rfl) Try.results43 (.tmp rfl) (.tmp rfl) [(r', .row 2 ((m.post ++ [(x.other, q.2)]).map encPo))] (ASub.refl _) (AHeap.sub_refl _) (hE2.ok hG) ⟨_, _, _, by rw [hN]; rfl, hE2, hL2, by rw [hN]; exact hR9, by simp⟩
  ·
   try simp only [NM] at hc96
   refine g_skip ?_
   refine g_next hK15 ?_
   refine g_seq (fun K22 hK22 => ?_)
   refine g_seq (fun K23 hK23 => ?_)
   refine g_region ?_
   refine g_step rfl (s_fieldAddr ty85 fo85_0 ty81 rfl rfl ?_)
   refine g_step rfl (s_val (v_loadl ty81 rfl rfl rfl rfl) rfl rfl ?_)
   refine g_step rfl (s_val (v_move rfl) rfl rfl ?_)
   refine g_step rfl (s_val (v_indexAddr ty81 ty4 rfl rfl hVu hxi (map_get hup0) rfl) rfl rfl ?_)
   refine g_step rfl (s_val (by first | exact v_load ty4 rfl rfl hVu (map_get hup0) rfl | exact v_load_box ty4 rfl rfl (by assumption) rfl) rfl rfl ?_)
   refine g_step rfl (s_val (v_not rfl) rfl rfl ?_)
   refine g_nil ?_
   refine g_next hK23 ?_
   refine g_cond rfl (fun hc126 => ?_) (fun hc126 => ?_)
   ·
    try simp only [NM] at hc126
    refine g_seq (fun K24 hK24 => ?_)
    refine g_region ?_
    refine g_step rfl (s_fieldAddr ty85 fo85_3 ty83 rfl rfl ?_)
    refine g_step rfl (s_val (v_loadl ty83 rfl rfl rfl rfl) rfl rfl ?_)
    refine g_step rfl (s_val (v_assign rfl) rfl rfl ?_)
    refine g_step rfl (s_val (v_assign rfl) rfl rfl ?_)
    refine g_nil ?_
    refine g_next hK24 ?_
    refine g_ret ?_
    refine g_then_ret ?_
    have hN : doW room s i x = (s, false) := doW_dn (by omega) (by omega) hlo
    refine g_end2 (.inl rfl) Try.results43 (.tmp rfl) (.tmp rfl) [] (ASub.refl _) (AHeap.sub_refl _) (fun p hp => by cases hp) ⟨av, m, h, by rw [hN]; rfl, EffTo.refl _ _, hL, by rw [hN]; exact hR, by omega⟩
   · exfalso; (try simp only [NM] at hc126); simp at hc126

theorem legalUp_ok (h : AHeap) (ur hr cr : Nat) (av : AV) (room : Int) (s : Wd) (m : LM) (x : Mv) (i : Nat) (l : List Rc) (G : AHeap) (hL : LA h ur hr cr av m) (hR : MRel room s m) (hG : h.sub G) (hok : WOk room s) (hxi : x.node = (i : Int)) (hlo : lOf s i = some l) (hix : i < s.tl.length) (hxn : x.recs.length ≤ 1000) (hxs : ∀ y ∈ x.recs, Small y.bag) (hpl : m.post.length ≤ 100) (h1 : 1 ≤ room) (h48 : room ≤ 48) : LCalls Try.prog 43 [(mdA ur hr cr s.tl.length av), encMv x, .int .i64 room] G (fun b => h b ≠ none) (fun n v effs => ∃ av' m' h', v = .tup [av', .bool (doW room s i x).2] ∧ EffTo h h' n effs ∧ LA h' ur hr cr av' m' ∧ MRel room (doW room s i x).1 m' ∧ m'.post.length ≤ m.post.length + 1) := by
 refine LCalls.intro 289 fi43 rfl Try.ntmps43 rfl (fun b hb => sub_some hG hb) (fun H hH w0 hw0 => ?_)
 have hhH := AHeap.sub_trans hG hH
 have huu := hhH _ _ hL.uu
 have hhr := hhH _ _ hL.hh
 have hcc := hhH _ _ hL.cc
 have hPv := (hL.pp.mono hhH).view
 have hVu : (AV.own ur 1 0 s.tl.length).view H = some (m.ups.map .bool) := AV.view_own_all huu (by rw [List.length_map, hR.nu])
 have hVh : (AV.own hr 3 0 s.tl.length).view H = some (m.has.map encMl) := AV.view_own_all hhr (by rw [List.length_map, hR.nh])
 have hVc : (AV.own cr 1 0 s.tl.length).view H = some (m.cells.map (.int .i64)) := AV.view_own_all hcc (by rw [List.length_map, hR.nc, hok.len])
 have hup0 : m.ups[i]? = some true := by rw [hR.up i hix, hlo]; rfl
 have hDu : h ur ≠ none ∨ w0.heap.size ≤ ur := .inl (by rw [hL.uu]; simp)
 have hDh : h hr ≠ none ∨ w0.heap.size ≤ hr := .inl (by rw [hL.hh]; simp)
 have hh0 := hR.has i l hlo
 have hM := lOf_inv hok hlo
 have hMl := hM.len
 refine g_seq (fun K0 hK0 => ?_)
 refine g_region ?_
 refine g_step rfl (s_box rfl rfl rfl rfl ?_)
 refine g_step rfl (s_box rfl rfl rfl rfl ?_)
 refine g_step rfl (s_val (v_assign rfl) rfl rfl ?_)
 refine g_step rfl (s_val (v_assign rfl) rfl rfl ?_)
 refine g_nil ?_
 refine g_next hK0 ?_
 refine g_seq (fun K1 hK1 => ?_)
 refine g_region ?_
 refine g_step rfl (s_fieldAddr ty87 fo87_1 ty3 rfl rfl ?_)
 refine g_step rfl (s_val (v_loadl ty3 rfl rfl rfl rfl) rfl rfl ?_)
 refine g_step rfl (s_val (v_assign rfl) rfl rfl ?_)
 refine g_nil ?_
 refine g_next hK1 ?_
 refine g_seq (fun K2 hK2 => ?_)
 refine g_region ?_
 refine g_step rfl (s_val (by first | exact v_loadl_all ty85 rfl rfl rfl rfl rfl | exact v_loadl_part (cs := [_, _, _, _]) ty85 rfl rfl rfl rfl rfl rfl) rfl rfl ?_)
 refine g_step rfl (s_fieldAddr ty87 fo87_4 ty3 rfl rfl ?_)
 refine g_step rfl (s_val (v_loadl ty3 rfl rfl rfl rfl) rfl rfl ?_)
 refine g_step rfl (s_callp rfl rfl rfl (letter34_ok h ur hr cr s.tl.length av m x.letter _ hL hhH (by omega)) ?_)
 rintro _ rfl
 refine g_step rfl (s_val (v_assign rfl) rfl rfl ?_)
 refine g_nil ?_
 refine g_next hK2 ?_
 refine g_seq (fun K3 hK3 => ?_)
 refine g_seq (fun K4 hK4 => ?_)
 refine g_region ?_
 refine g_step rfl (s_fieldAddr ty87 fo87_0 ty3 rfl rfl ?_)
 refine g_step rfl (s_val (v_loadl ty3 rfl rfl rfl rfl) rfl rfl ?_)
 refine g_step rfl (s_val (v_eql rfl rfl) rfl rfl ?_)
 refine g_nil ?_
 refine g_next hK4 ?_
 refine g_cond rfl (fun hc26 => ?_) (fun hc26 => ?_)
 ·
  try simp only [NM] at hc26
  refine g_seq (fun K5 hK5 => ?_)
  refine g_seq (fun K6 hK6 => ?_)
  refine g_draw (n := 49) (fun j => !([] : List Nat).contains j) rfl rfl ?_
  refine m_takel 0 rfl rfl (by kernel_rfl) (by kernel_rfl) (by kernel_rfl) (fun _ _ _ _ h => h) (vl_fieldAddr ty85 fo85_0 ty81 rfl) rfl rfl ?_
  refine m_tk 1 true rfl rfl (by kernel_rfl) (v_loadl ty81 rfl rfl rfl rfl) rfl rfl ?_
  refine m_tk 2 false rfl rfl (by kernel_rfl) (v_move rfl) rfl rfl ?_
  refine m_tk 3 false rfl rfl (by kernel_rfl) (v_indexAddr ty81 ty4 rfl rfl hVu hxi (map_get hup0) rfl) rfl rfl ?_
  refine m_tk 4 true rfl rfl (by kernel_rfl) (by first | exact v_load ty4 rfl rfl hVu (map_get hup0) rfl | exact v_load_box ty4 rfl rfl (by assumption) rfl) rfl rfl ?_
  refine m_tk 5 false rfl rfl (by kernel_rfl) (v_move rfl) rfl rfl ?_
  refine m_split 32 rfl (fun hg32 => ?_) (fun hg32 => ?_)
  ·
   try simp only [NM] at hg32
   refine m_take_no (j := 5) (t := 32) 6 rfl rfl rfl rfl rfl rfl (by kernel_rfl) (by kernel_rfl) (by kernel_rfl) (fun _ _ _ _ h => h) rfl rfl ?_
   refine m_take_no (j := 5) (t := 32) 7 rfl rfl rfl rfl rfl rfl (by kernel_rfl) (by kernel_rfl) (by kernel_rfl) (fun _ _ _ _ h => h) rfl rfl ?_
   refine m_take_no (j := 5) (t := 32) 8 rfl rfl rfl rfl rfl rfl (by kernel_rfl) (by kernel_rfl) (by kernel_rfl) (fun _ _ _ _ h => h) rfl rfl ?_
   refine m_take_no (j := 5) (t := 32) 9 rfl rfl rfl rfl rfl rfl (by kernel_rfl) (by kernel_rfl) (by kernel_rfl) (fun _ _ _ _ h => h) rfl rfl ?_
   refine m_tk 10 false rfl rfl (by kernel_rfl) (v_pick_t rfl rfl) rfl rfl ?_
   refine m_tk 11 false rfl rfl (by kernel_rfl) (v_move rfl) rfl rfl ?_
   refine m_take_no (j := 11) (t := 38) 12 rfl rfl rfl rfl rfl rfl (by kernel_rfl) (by kernel_rfl) (by kernel_rfl) (fun _ _ _ _ h => h) rfl rfl ?_
   refine m_take_no (j := 11) (t := 38) 13 rfl rfl rfl rfl rfl rfl (by kernel_rfl) (by kernel_rfl) (by kernel_rfl) (fun _ _ _ _ h => h) rfl rfl ?_
   refine m_take_no (j := 11) (t := 38) 14 rfl rfl rfl rfl rfl rfl (by kernel_rfl) (by kernel_rfl) (by kernel_rfl) (fun _ _ _ _ h => h) rfl rfl ?_
   refine m_take_no (j := 11) (t := 38) 15 rfl rfl rfl rfl rfl rfl (by kernel_rfl) (by kernel_rfl) (by kernel_rfl) (fun _ _ _ _ h => h) rfl rfl ?_
   refine m_take_no (j := 11) (t := 38) 16 rfl rfl rfl rfl rfl rfl (by kernel_rfl) (by kernel_rfl) (by kernel_rfl) (fun _ _ _ _ h => h) rfl rfl ?_
   refine m_take_no (j := 11) (t := 38) 17 rfl rfl rfl rfl rfl rfl (by kernel_rfl) (by kernel_rfl) (by kernel_rfl) (fun _ _ _ _ h => h) rfl rfl ?_
   refine m_tk 18 false rfl rfl (by kernel_rfl) (v_pick_t rfl rfl) rfl rfl ?_
   refine m_tk 19 false rfl rfl (by kernel_rfl) (v_move rfl) rfl rfl ?_
   refine m_take_no (j := 19) (t := 46) 20 rfl rfl rfl rfl rfl rfl (by kernel_rfl) (by kernel_rfl) (by kernel_rfl) (fun _ _ _ _ h => h) rfl rfl ?_
   refine m_take_no (j := 19) (t := 46) 21 rfl rfl rfl rfl rfl rfl (by kernel_rfl) (by kernel_rfl) (by kernel_rfl) (fun _ _ _ _ h => h) rfl rfl ?_
   refine m_take_no (j := 19) (t := 46) 22 rfl rfl rfl rfl rfl rfl (by kernel_rfl) (by kernel_rfl) (by kernel_rfl) (fun _ _ _ _ h => h) rfl rfl ?_
   refine m_take_no (j := 19) (t := 46) 23 rfl rfl rfl rfl rfl rfl (by kernel_rfl) (by kernel_rfl) (by kernel_rfl) (fun _ _ _ _ h => h) rfl rfl ?_
   refine m_take_no (j := 19) (t := 46) 24 rfl rfl rfl rfl rfl rfl (by kernel_rfl) (by kernel_rfl) (by kernel_rfl) (fun _ _ _ _ h => h) rfl rfl ?_
   refine m_take_no (j := 19) (t := 46) 25 rfl rfl rfl rfl rfl rfl (by kernel_rfl) (by kernel_rfl) (by kernel_rfl) (fun _ _ _ _ h => h) rfl rfl ?_
   refine m_take_no (j := 19) (t := 46) 26 rfl rfl rfl rfl rfl rfl (by kernel_rfl) (by kernel_rfl) (by kernel_rfl) (fun _ _ _ _ h => h) rfl rfl ?_
   refine m_tk 27 false rfl rfl (by kernel_rfl) (v_pick_t rfl rfl) rfl rfl ?_
   refine m_tk 28 false rfl rfl (by kernel_rfl) (v_move rfl) rfl rfl ?_
   refine m_take_no (j := 28) (t := 55) 29 rfl rfl rfl rfl rfl rfl (by kernel_rfl) (by kernel_rfl) (by kernel_rfl) (fun _ _ _ _ h => h) rfl rfl ?_
   refine m_take_no (j := 28) (t := 55) 30 rfl rfl rfl rfl rfl rfl (by kernel_rfl) (by kernel_rfl) (by kernel_rfl) (fun _ _ _ _ h => h) rfl rfl ?_
   refine m_take_no (j := 28) (t := 55) 31 rfl rfl rfl rfl rfl rfl (by kernel_rfl) (by kernel_rfl) (by kernel_rfl) (fun _ _ _ _ h => h) rfl rfl ?_
   refine m_take_no (j := 28) (t := 55) 32 rfl rfl rfl rfl rfl rfl (by kernel_rfl) (by kernel_rfl) (by kernel_rfl) (fun _ _ _ _ h => h) rfl rfl ?_
   refine m_take_no (j := 28) (t := 55) 33 rfl rfl rfl rfl rfl rfl (by kernel_rfl) (by kernel_rfl) (by kernel_rfl) (fun _ _ _ _ h => h) rfl rfl ?_
   refine m_take_no (j := 28) (t := 55) 34 rfl rfl rfl rfl rfl rfl (by kernel_rfl) (by kernel_rfl) (by kernel_rfl) (fun _ _ _ _ h => h) rfl rfl ?_
   refine m_tk 35 false rfl rfl (by kernel_rfl) (v_pick_t rfl rfl) rfl rfl ?_
   refine m_tk 36 false rfl rfl (by kernel_rfl) (v_move rfl) rfl rfl ?_
   refine m_take_no (j := 36) (t := 63) 37 rfl rfl rfl rfl rfl rfl (by kernel_rfl) (by kernel_rfl) (by kernel_rfl) (fun _ _ _ _ h => h) rfl rfl ?_
   refine m_take_no (j := 36) (t := 63) 38 rfl rfl rfl rfl rfl rfl (by kernel_rfl) (by kernel_rfl) (by kernel_rfl) (fun _ _ _ _ h => h) rfl rfl ?_
   refine m_take_no (j := 36) (t := 63) 39 rfl rfl rfl rfl rfl rfl (by kernel_rfl) (by kernel_rfl) (by kernel_rfl) (fun _ _ _ _ h => h) rfl rfl ?_
   refine m_take_no (j := 36) (t := 63) 40 rfl rfl rfl rfl rfl rfl (by kernel_rfl) (by kernel_rfl) (by kernel_rfl) (fun _ _ _ _ h => h) rfl rfl ?_
   refine m_take_no (j := 36) (t := 63) 41 rfl rfl rfl rfl rfl rfl (by kernel_rfl) (by kernel_rfl) (by kernel_rfl) (fun _ _ _ _ h => h) rfl rfl ?_
   refine m_take_no (j := 36) (t := 63) 42 rfl rfl rfl rfl rfl rfl (by kernel_rfl) (by kernel_rfl) (by kernel_rfl) (fun _ _ _ _ h => h) rfl rfl ?_
   refine m_take_no (j := 36) (t := 63) 43 rfl rfl rfl rfl rfl rfl (by kernel_rfl) (by kernel_rfl) (by kernel_rfl) (fun _ _ _ _ h => h) rfl rfl ?_
   refine m_take_no (j := 36) (t := 63) 44 rfl rfl rfl rfl rfl rfl (by kernel_rfl) (by kernel_rfl) (by kernel_rfl) (fun _ _ _ _ h => h) rfl rfl ?_
   refine m_take_no (j := 36) (t := 63) 45 rfl rfl rfl rfl rfl rfl (by kernel_rfl) (by kernel_rfl) (by kernel_rfl) (fun _ _ _ _ h => h) rfl rfl ?_
   refine m_take_no (j := 36) (t := 63) 46 rfl rfl rfl rfl rfl rfl (by kernel_rfl) (by kernel_rfl) (by kernel_rfl) (fun _ _ _ _ h => h) rfl rfl ?_
   refine m_take_no (j := 36) (t := 63) 47 rfl rfl rfl rfl rfl rfl (by kernel_rfl) (by kernel_rfl) (by kernel_rfl) (fun _ _ _ _ h => h) rfl rfl ?_
   refine m_tk 48 false rfl rfl (by kernel_rfl) (v_pick_t rfl rfl) rfl rfl ?_
   refine m_done (by kernel_rfl) ?_
   refine g_next hK6 ?_
   first | refine g_keep [2, 8, 75] [3, 4] [3, 4] (keep_cons rfl (keep_cons rfl (keep_cons rfl keep_nil))) (lkeep_cons rfl (lkeep_cons rfl lkeep_nil)) (keep_cons rfl (keep_cons rfl keep_nil)) rfl ?_ | refine g_keep [2, 8, 75] [3, 4] [3, 4] rfl rfl rfl rfl ?_
   refine g_cond rfl (fun _ => ?_) (fun h => by cases h)
   refine g_seq (fun K7 hK7 => ?_)
   refine g_region ?_
   refine g_step rfl (s_fieldAddr ty85 fo85_3 ty83 rfl rfl ?_)
   refine g_step rfl (s_val (v_loadl ty83 rfl rfl rfl rfl) rfl rfl ?_)
   refine g_step rfl (s_val (v_assign rfl) rfl rfl ?_)
   refine g_step rfl (s_val (v_assign rfl) rfl rfl ?_)
   refine g_nil ?_
   refine g_next hK7 ?_
   refine g_ret ?_
   refine g_then_ret ?_
   refine g_then_ret ?_
   have hN : doW room s i x = (s, false) := (doW_1 (by omega)).trans (bootW_up hlo)
   refine g_end2 (.inl rfl) Try.results43 (.tmp rfl) (.tmp rfl) [] (ASub.refl _) (AHeap.sub_refl _) (fun p hp => by cases hp) ⟨av, m, h, by rw [hN]; rfl, EffTo.refl _ _, hL, by rw [hN]; exact hR, by omega⟩
  · exfalso; (try simp only [NM] at hg32); simp at hg32
 ·
  try simp only [NM] at hc26
  refine g_skip ?_
  refine g_next hK3 ?_
  refine g_seq (fun K8 hK8 => ?_)
  refine g_seq (fun K9 hK9 => ?_)
  refine g_region ?_
  refine g_step rfl (s_fieldAddr ty87 fo87_0 ty3 rfl rfl ?_)
  refine g_step rfl (s_val (v_loadl ty3 rfl rfl rfl rfl) rfl rfl ?_)
  refine g_step rfl (s_val (v_eql rfl rfl) rfl rfl ?_)
  refine g_nil ?_
  refine g_next hK9 ?_
  refine g_cond rfl (fun hc96 => ?_) (fun hc96 => ?_)
  ·
   try simp only [NM] at hc96
   refine g_seq (fun K10 hK10 => ?_)
   refine g_seq (fun K11 hK11 => ?_)
   refine g_region ?_
   refine g_step rfl (s_val (v_move rfl) rfl rfl ?_)
   refine g_step rfl (s_val (v_lss rfl rfl) rfl rfl ?_)
   refine g_step rfl (s_val (v_move rfl) rfl rfl ?_)
   refine g_split 99 rfl (fun hg99 => ?_) (fun hg99 => ?_)
   ·
    try simp only [NM] at hg99
    refine g_step_no (j := 2) (t := 99) rfl rfl rfl rfl rfl rfl rfl ?_
    refine g_step_no (j := 2) (t := 99) rfl rfl rfl rfl rfl rfl rfl ?_
    refine g_step_no (j := 2) (t := 99) rfl rfl rfl rfl rfl rfl rfl ?_
    refine g_step_no (j := 2) (t := 99) rfl rfl rfl rfl rfl rfl rfl ?_
    refine g_step_no (j := 2) (t := 99) rfl rfl rfl rfl rfl rfl rfl ?_
    refine g_step rfl (s_val (v_pick_t rfl rfl) rfl rfl ?_)
    refine g_nil ?_
    refine g_next hK11 ?_
    refine g_cond rfl (fun _ => ?_) (fun h => by cases h)
    refine g_seq (fun K12 hK12 => ?_)
    refine g_region ?_
    refine g_step rfl (s_fieldAddr ty85 fo85_3 ty83 rfl rfl ?_)
    refine g_step rfl (s_val (v_loadl ty83 rfl rfl rfl rfl) rfl rfl ?_)
    refine g_step rfl (s_val (v_assign rfl) rfl rfl ?_)
    refine g_step rfl (s_val (v_assign rfl) rfl rfl ?_)
    refine g_nil ?_
    refine g_next hK12 ?_
    first | refine g_keep [6, 7] [] [] (keep_cons rfl (keep_cons rfl keep_nil)) lkeep_nil keep_nil rfl ?_ | refine g_keep [6, 7] [] [] rfl rfl rfl rfl ?_
    refine g_ret ?_
    refine g_then_ret ?_
    refine g_then_ret ?_
    have hN : doW room s i x = (s, false) := (doW_4 (by omega)).trans (hR.again_no (by first | exact .inl (by omega) | exact .inr (by omega)))
    refine g_end2 (.inl rfl) Try.results43 (.tmp rfl) (.tmp rfl) [] (ASub.refl _) (AHeap.sub_refl _) (fun p hp => by cases hp) ⟨av, m, h, by rw [hN]; rfl, EffTo.refl _ _, hL, by rw [hN]; exact hR, by omega⟩
   ·
    try simp only [NM] at hg99
    refine g_step_yes (j := 2) (t := 99) rfl rfl rfl rfl (s_val (by first | exact v_loadl_all ty85 rfl rfl rfl rfl rfl | exact v_loadl_part (cs := [_, _, _, _]) ty85 rfl rfl rfl rfl rfl rfl) rfl rfl ?_)
    refine g_step_yes (j := 2) (t := 99) rfl rfl rfl rfl (s_fieldAddr ty87 fo87_2 ty3 rfl rfl ?_)
    refine g_step_yes (j := 2) (t := 99) rfl rfl rfl rfl (s_val (v_loadl ty3 rfl rfl rfl rfl) rfl rfl ?_)
    refine g_step_yes (j := 2) (t := 99) rfl rfl rfl rfl (s_callp rfl rfl rfl (letter34_ok h ur hr cr s.tl.length av m x.other _ hL hhH (by omega)) ?_)
    rintro _ rfl
    refine g_step_yes (j := 2) (t := 99) rfl rfl rfl rfl (s_val (v_geq rfl rfl) rfl rfl ?_)
    refine g_step rfl (s_val (v_pick_f rfl rfl) rfl rfl ?_)
    refine g_nil ?_
    refine g_next hK11 ?_
    refine g_cond rfl (fun hc105 => ?_) (fun hc105 => ?_)
    ·
     try simp only [NM] at hc105
     refine g_seq (fun K13 hK13 => ?_)
     refine g_region ?_
     refine g_step rfl (s_fieldAddr ty85 fo85_3 ty83 rfl rfl ?_)
     refine g_step rfl (s_val (v_loadl ty83 rfl rfl rfl rfl) rfl rfl ?_)
     refine g_step rfl (s_val (v_assign rfl) rfl rfl ?_)
     refine g_step rfl (s_val (v_assign rfl) rfl rfl ?_)
     refine g_nil ?_
     refine g_next hK13 ?_
     refine g_ret ?_
     refine g_then_ret ?_
     refine g_then_ret ?_
     have hN : doW room s i x = (s, false) := (doW_4 (by omega)).trans (hR.again_no (by first | exact .inl (by omega) | exact .inr (by omega)))
     refine g_end2 (.inl rfl) Try.results43 (.tmp rfl) (.tmp rfl) [] (ASub.refl _) (AHeap.sub_refl _) (fun p hp => by cases hp) ⟨av, m, h, by rw [hN]; rfl, EffTo.refl _ _, hL, by rw [hN]; exact hR, by omega⟩
    ·
     try simp only [NM] at hc105
     refine g_skip ?_
     refine g_next hK10 ?_
     refine g_seq (fun K14 hK14 => ?_)
     refine g_draw (n := 15) (fun j => !([12] : List Nat).contains j) rfl rfl ?_
     obtain ⟨j, q, hj, hq, hA9, hR9⟩ := hR.again_yes (x := x) (by omega) (by omega)
     have hN := (doW_4 (room := room) (i := i) (by omega : x.kind = 4)).trans hA9
     refine m_takel 0 rfl rfl (by kernel_rfl) (by kernel_rfl) (by kernel_rfl) (fun _ _ _ _ h => h) (vl_fieldAddr ty85 fo85_3 ty83 rfl) rfl rfl ?_
     refine m_tk 1 true rfl rfl (by kernel_rfl) (v_loadl ty83 rfl rfl rfl rfl) rfl rfl ?_
     refine m_takel 2 rfl rfl (by kernel_rfl) (by kernel_rfl) (by kernel_rfl) (fun _ _ _ _ h => h) (vl_fieldAddr ty87 fo87_2 ty3 rfl) rfl rfl ?_
     refine m_tk 3 true rfl rfl (by kernel_rfl) (v_loadl ty3 rfl rfl rfl rfl) rfl rfl ?_
     refine m_takel 4 rfl rfl (by kernel_rfl) (by kernel_rfl) (by kernel_rfl) (fun _ _ _ _ h => h) (vl_fieldAddr ty85 fo85_3 ty83 rfl) rfl rfl ?_
     refine m_tk 5 true rfl rfl (by kernel_rfl) (v_loadl ty83 rfl rfl rfl rfl) rfl rfl ?_
     refine m_tk 6 false rfl rfl (by kernel_rfl) (v_move rfl) rfl rfl ?_
     refine m_tk 7 false rfl rfl (by kernel_rfl) (v_indexAddr ty83 ty97 rfl rfl hPv hj (map_get hq) rfl) rfl rfl ?_
     refine m_tk 8 false rfl rfl (by kernel_rfl) (by first | exact v_fieldAddr ty97 fo97_1 ty22 rfl | exact v_fieldAddr_box ty97 fo97_1 ty22 rfl) rfl rfl ?_
     refine m_tk 9 true rfl rfl (by kernel_rfl) (by first | exact v_load ty22 rfl rfl hPv (map_get hq) rfl | exact v_load_box ty22 rfl rfl (by assumption) rfl) rfl rfl ?_
     refine m_tk 10 false rfl rfl (by kernel_rfl) (v_sub (b := (encPo (x.other, q.2))) (v_build (vs := [(0, _), (1, _)]) (zs := [(.int .i64 0), .nil0]) (cells := [_, _]) ty97 pl97 rfl rfl rfl) (ASub.of_wk rfl)) rfl rfl ?_
     refine m_one 11 (by kernel_rfl) rfl rfl ?_
     refine sm_lit ty83 ty97 rfl rfl rfl rfl rfl rfl rfl ?_
     refine m_one 12 (by kernel_rfl) rfl rfl ?_
     refine sm_any rfl (s_appendV (l := (m.post.map encPo)) (m := ([((x.other, q.2) : Int × List Rc)].map encPo)) ty83 ty97 rfl rfl (hL.sv hhH _) rfl rfl (by refine Even.map _ ?_ _; intro _; rfl) (by intro x hx; obtain ⟨_, _, rfl⟩ := List.mem_map.1 hx; rfl) rfl (by simp) (by simp; omega) (by simp; omega) ?_)
     intro r' hr'
     rw [← List.map_append]
     obtain ⟨hE2, hL2⟩ := hL.put hhH hr' (m.post ++ [(x.other, q.2)])
     refine m_tk 13 false rfl rfl (by kernel_rfl) (v_assign rfl) rfl rfl ?_
     refine m_tk 14 false rfl rfl (by kernel_rfl) (v_assign rfl) rfl rfl ?_
     refine m_done (by kernel_rfl) ?_
     refine g_next hK14 ?_
     first | refine g_keep [6, 7] [] [] (keep_cons rfl (keep_cons rfl keep_nil)) lkeep_nil keep_nil rfl ?_ | refine g_keep [6, 7] [] [] rfl rfl rfl rfl ?_
     refine g_ret ?_
     refine g_then_ret ?_
     refine g_end2 (.inl rfl) Try.results43 (.tmp rfl) (.tmp rfl) [(r', .row 2 ((m.post ++ [(x.other, q.2)]).map encPo))] (ASub.refl _) (AHeap.sub_refl _) (hE2.ok hG) ⟨_, _, _, by rw [hN]; rfl, hE2, hL2, by rw [hN]; exact hR9, by simp⟩
  ·
   try simp only [NM] at hc96
   refine g_skip ?_
   refine g_next hK8 ?_
   refine g_seq (fun K15 hK15 => ?_)
   refine g_seq (fun K16 hK16 => ?_)
   refine g_region ?_
   refine g_step rfl (s_fieldAddr ty85 fo85_0 ty81 rfl rfl ?_)
   refine g_step rfl (s_val (v_loadl ty81 rfl rfl rfl rfl) rfl rfl ?_)
   refine g_step rfl (s_val (v_move rfl) rfl rfl ?_)
   refine g_step rfl (s_val (v_indexAddr ty81 ty4 rfl rfl hVu hxi (map_get hup0) rfl) rfl rfl ?_)
   refine g_step rfl (s_val (by first | exact v_load ty4 rfl rfl hVu (map_get hup0) rfl | exact v_load_box ty4 rfl rfl (by assumption) rfl) rfl rfl ?_)
   refine g_step rfl (s_val (v_not rfl) rfl rfl ?_)
   refine g_nil ?_
   refine g_next hK16 ?_
   refine g_cond rfl (fun hc126 => ?_) (fun hc126 => ?_)
   · exfalso; (try simp only [NM] at hc126); simp at hc126
   ·
    try simp only [NM] at hc126
    refine g_skip ?_
    refine g_next hK15 ?_
    refine g_seq (fun K17 hK17 => ?_)
    refine g_region ?_
    refine g_step rfl (s_fieldAddr ty85 fo85_1 ty82 rfl rfl ?_)
    refine g_step rfl (s_val (v_loadl ty82 rfl rfl rfl rfl) rfl rfl ?_)
    refine g_step rfl (s_val (v_move rfl) rfl rfl ?_)
    refine g_step rfl (s_val (v_indexAddr ty82 ty61 rfl rfl hVh hxi (map_get hh0) rfl) rfl rfl ?_)
    refine g_step rfl (s_val (by first | exact v_fieldAddr ty61 fo61_2 ty22 rfl | exact v_fieldAddr_box ty61 fo61_2 ty22 rfl) rfl rfl ?_)
    refine g_step rfl (s_val (by first | exact v_load ty22 rfl rfl hVh (map_get hh0) rfl | exact v_load_box ty22 rfl rfl (by assumption) rfl) rfl rfl ?_)
    refine g_step rfl (s_val (v_move rfl) rfl rfl ?_)
    refine g_step rfl (s_callp rfl rfl rfl (find_ok l x.node _ _ rfl (by omega) hM.b) ?_)
    rintro _ rfl
    refine g_step rfl (s_val (v_move rfl) rfl rfl ?_)
    refine g_step rfl (s_val (v_extract rfl rfl) rfl rfl ?_)
    refine g_step rfl (s_val (v_extract rfl rfl) rfl rfl ?_)
    refine g_step rfl (s_alloc (av := (.agg [(.int .i64 0), (.int .i64 0), (.int .i64 0), (.int .i64 0), (.int .i64 0), (.bool false), .nil0])) ty46 rfl rfl rfl rfl ?_)
    refine g_step rfl (s_store_all ty46 rfl rfl rfl rfl rfl rfl ?_)
    refine g_step rfl (s_val (v_assign rfl) rfl rfl ?_)
    refine g_nil ?_
    refine g_next hK17 ?_
    first | refine g_keep [8, 9] [3, 4, 10] [3, 4, 10] (keep_cons rfl (keep_cons rfl keep_nil)) (lkeep_cons rfl (lkeep_cons rfl (lkeep_cons rfl lkeep_nil))) (keep_cons rfl (keep_cons rfl (keep_cons rfl keep_nil))) rfl ?_ | refine g_keep [8, 9] [3, 4, 10] [3, 4, 10] rfl rfl rfl rfl ?_
    refine g_seq (fun K18 hK18 => ?_)
    refine g_seq (fun K19 hK19 => ?_)
    refine g_region ?_
    refine g_step rfl (s_fieldAddr ty87 fo87_0 ty3 rfl rfl ?_)
    refine g_step rfl (s_val (v_loadl ty3 rfl rfl rfl rfl) rfl rfl ?_)
    refine g_step rfl (s_val (v_eql rfl rfl) rfl rfl ?_)
    refine g_nil ?_
    refine g_next hK19 ?_
    refine g_cond rfl (fun hc142 => ?_) (fun hc142 => ?_)
    ·
     try simp only [NM] at hc142
     refine g_seq (fun K20 hK20 => ?_)
     refine g_region ?_
     refine g_step rfl (s_fieldAddr ty85 fo85_0 ty81 rfl rfl ?_)
     refine g_step rfl (s_val (v_loadl ty81 rfl rfl rfl rfl) rfl rfl ?_)
     refine g_step rfl (s_val (v_move rfl) rfl rfl ?_)
     refine g_step rfl (s_val (v_indexAddr ty81 ty4 rfl rfl hVu hxi (map_get hup0) rfl) rfl rfl ?_)
     refine g_step rfl (s_store_row (k := i) (off := 0) (old := .bool true) (new := .bool false) ty4 rfl rfl huu (by rw [Nat.zero_add]; exact map_get hup0) rfl rfl rfl rfl hDu ?_)
     rw [show (0 + i : Nat) = i from Nat.zero_add i, set_map_b]
     have hL1 := hL.setU (m.ups.set i false)
     have hE1 := (EffTo.refl h w0.heap.size).write (b := ur) (.row 1 ((m.ups.set i false).map .bool)) (.inl (by rw [hL.uu]; simp))
     refine g_nil ?_
     refine g_next hK20 ?_
     refine g_seq (fun K21 hK21 => ?_)
     refine g_region ?_
     refine g_step rfl (s_fieldAddr ty85 fo85_3 ty83 rfl rfl ?_)
     refine g_step rfl (s_val (v_loadl ty83 rfl rfl rfl rfl) rfl rfl ?_)
     refine g_step rfl (s_val (v_assign rfl) rfl rfl ?_)
     refine g_step rfl (s_val (v_assign rfl) rfl rfl ?_)
     refine g_nil ?_
     refine g_next hK21 ?_
     refine g_ret ?_
     refine g_then_ret ?_
     have hN := lg_halt (room := room) (by omega) hlo
     refine g_end2 (.inl rfl) Try.results43 (.tmp rfl) (.tmp rfl) [(ur, .row 1 ((m.ups.set i false).map .bool))] (ASub.refl _) (AHeap.sub_refl _) (hE1.ok hG) ⟨av, _, _, by rw [hN]; rfl, hE1, hL1, by rw [hN]; exact hR.halt hix, by simp⟩
    ·
     try simp only [NM] at hc142
     refine g_skip ?_
     refine g_next hK18 ?_
     refine g_seq (fun K22 hK22 => ?_)
     refine g_seq (fun K23 hK23 => ?_)
     refine g_region ?_
     refine g_step rfl (s_fieldAddr ty87 fo87_0 ty3 rfl rfl ?_)
     refine g_step rfl (s_val (v_loadl ty3 rfl rfl rfl rfl) rfl rfl ?_)
     refine g_step rfl (s_val (v_eql rfl rfl) rfl rfl ?_)
     refine g_nil ?_
     refine g_next hK23 ?_
     refine g_cond rfl (fun hc151 => ?_) (fun hc151 => ?_)
     ·
      try simp only [NM] at hc151
      refine g_seq (fun K24 hK24 => ?_)
      refine g_seq (fun K25 hK25 => ?_)
      refine g_region ?_
      refine g_step rfl (s_val (v_assign rfl) rfl rfl ?_)
      refine g_nil ?_
      refine g_next hK25 ?_
      refine g_block ?_
      first | refine g_keep [8, 9, 12] [3, 4] [3, 4] (keep_cons rfl (keep_cons rfl (keep_cons rfl keep_nil))) (lkeep_cons rfl (lkeep_cons rfl lkeep_nil)) (keep_cons rfl (keep_cons rfl keep_nil)) rfl ?_ | refine g_keep [8, 9, 12] [3, 4] [3, 4] rfl rfl rfl rfl ?_
      refine g_loop (fun n env L B G => ∃ (k : Nat) , k ≤ x.recs.length ∧ n = x.recs.length - k ∧ env = [(8, .int .i64 x.node), (9, .int .i64 (lix m.post x.letter)), (12, .int .i64 (k : Int))] ∧ L = [(3, 3, 0), (4, 4, 0)] ∧ B = [(3, (mdA ur hr cr s.tl.length av)), (4, (encMv x))] ∧ H = G ∧ ((x.recs.take k).all fun r => (rfind l r.id).2 && akin (rfind l r.id).1 r) = true) (x.recs.length) ⟨0, Nat.zero_le _, rfl, rfl, rfl, rfl, rfl, rfl⟩ (fun n env L B G hI => ?_)
      obtain ⟨k, hk, rfl, rfl, rfl, rfl, rfl, hc⟩ := hI
      refine g_seq (fun K26 hK26 => ?_)
      refine g_seq (fun K27 hK27 => ?_)
      refine g_region ?_
      refine g_step rfl (s_val (v_move rfl) rfl rfl ?_)
      refine g_step rfl (s_fieldAddr ty87 fo87_5 ty22 rfl rfl ?_)
      refine g_step rfl (s_val (v_loadl ty22 rfl rfl rfl rfl) rfl rfl ?_)
      refine g_step rfl (s_val (v_len ty22 rfl (by first | rfl | assumption) (by first | exact List.length_map .. | rfl)) rfl rfl ?_)
      refine g_step rfl (s_val (v_lss rfl rfl) rfl rfl ?_)
      refine g_nil ?_
      refine g_next hK27 ?_
      refine g_cond rfl (fun hc156 => ?_) (fun hc156 => ?_)
      ·
       try simp only [NM] at hc156
       obtain ⟨y, hy⟩ := get_some (l := x.recs) (k := k) (by omega)
       refine g_skip ?_
       refine g_next hK26 ?_
       refine g_seq (fun K28 hK28 => ?_)
       refine g_block ?_
       refine g_seq (fun K29 hK29 => ?_)
       refine g_draw (n := 19) (fun j => !([17] : List Nat).contains j) rfl rfl ?_
       refine m_takel 0 rfl rfl (by kernel_rfl) (by kernel_rfl) (by kernel_rfl) (fun _ _ _ _ h => h) (vl_fieldAddr ty85 fo85_1 ty82 rfl) rfl rfl ?_
       refine m_tk 1 true rfl rfl (by kernel_rfl) (v_loadl ty82 rfl rfl rfl rfl) rfl rfl ?_
       refine m_tk 2 false rfl rfl (by kernel_rfl) (v_move rfl) rfl rfl ?_
       refine m_tk 3 false rfl rfl (by kernel_rfl) (v_indexAddr ty82 ty61 rfl rfl hVh hxi (map_get hh0) rfl) rfl rfl ?_
       refine m_tk 4 false rfl rfl (by kernel_rfl) (by first | exact v_fieldAddr ty61 fo61_2 ty22 rfl | exact v_fieldAddr_box ty61 fo61_2 ty22 rfl) rfl rfl ?_
       refine m_tk 5 true rfl rfl (by kernel_rfl) (by first | exact v_load ty22 rfl rfl hVh (map_get hh0) rfl | exact v_load_box ty22 rfl rfl (by assumption) rfl) rfl rfl ?_
       refine m_takel 6 rfl rfl (by kernel_rfl) (by kernel_rfl) (by kernel_rfl) (fun _ _ _ _ h => h) (vl_fieldAddr ty87 fo87_5 ty22 rfl) rfl rfl ?_
       refine m_tk 7 true rfl rfl (by kernel_rfl) (v_loadl ty22 rfl rfl rfl rfl) rfl rfl ?_
       refine m_tk 8 false rfl rfl (by kernel_rfl) (v_move rfl) rfl rfl ?_
       refine m_tk 9 false rfl rfl (by kernel_rfl) (v_indexAddr ty22 ty46 rfl rfl (by first | rfl | assumption) (by first | rfl | exact (rfl : (0 : Int) = ((0 : Nat) : Int)) | exact (Int.toNat_of_nonneg (by omega)).symm) (map_get hy) rfl) rfl rfl ?_
       refine m_tk 10 false rfl rfl (by kernel_rfl) (by first | exact v_fieldAddr ty46 fo46_0 ty3 rfl | exact v_fieldAddr_box ty46 fo46_0 ty3 rfl) rfl rfl ?_
       refine m_tk 11 true rfl rfl (by kernel_rfl) (by first | exact v_load ty3 rfl rfl (by first | rfl | assumption) (map_get hy) rfl | exact v_load_box ty3 rfl rfl (by assumption) rfl) rfl rfl ?_
       refine m_all (is := [12, 16]) (by kernel_rfl) rfl (fun _ _ _ => trivial) (fun i hi => ?_)
       rcases (by simpa using hi : i = 12 ∨ i = 16) with rfl | rfl
       ·
        refine ⟨_, rfl, .inl ⟨rfl, ?_⟩⟩
        refine sm_callp rfl rfl rfl (find_ok l y.id _ _ rfl (by omega) hM.b) ?_
        rintro _ rfl
        refine m_tk 13 false rfl rfl (by kernel_rfl) (v_move rfl) rfl rfl ?_
        refine m_tk 14 false rfl rfl (by kernel_rfl) (v_extract rfl rfl) rfl rfl ?_
        refine m_tk 15 false rfl rfl (by kernel_rfl) (v_extract rfl rfl) rfl rfl ?_
        refine m_one 16 (by kernel_rfl) rfl rfl ?_
        refine sm_alloc (av := (.agg [(.int .i64 0), (.int .i64 0), (.int .i64 0), (.int .i64 0), (.int .i64 0), (.bool false), .nil0])) ty46 rfl rfl rfl rfl ?_
        refine m_one 17 (by kernel_rfl) rfl rfl ?_
        refine sm_any rfl (s_store_all ty46 rfl rfl rfl rfl rfl rfl ?_)
        refine m_tk 18 false rfl rfl (by kernel_rfl) (v_assign rfl) rfl rfl ?_
        refine m_done (by kernel_rfl) ?_
        refine g_next hK29 ?_
        refine g_seq (fun K30 hK30 => ?_)
        refine g_draw (n := 12) (fun j => !([] : List Nat).contains j) rfl rfl ?_
        refine m_tk 0 false rfl rfl (by kernel_rfl) (v_move rfl) rfl rfl ?_
        refine m_tk 1 false rfl rfl (by kernel_rfl) (v_not rfl) rfl rfl ?_
        refine m_tk 2 false rfl rfl (by kernel_rfl) (v_move rfl) rfl rfl ?_
        refine m_split 177 rfl (fun hg177 => ?_) (fun hg177 => ?_)
        ·
         try simp only [NM] at hg177
         refine m_take_no (j := 2) (t := 177) 3 rfl rfl rfl rfl rfl rfl (by kernel_rfl) (by kernel_rfl) (by kernel_rfl) (fun _ _ _ _ h => h) rfl rfl ?_
         refine m_take_no (j := 2) (t := 177) 4 rfl rfl rfl rfl rfl rfl (by kernel_rfl) (by kernel_rfl) (by kernel_rfl) (fun _ _ _ _ h => h) rfl rfl ?_
         refine m_take_no (j := 2) (t := 177) 5 rfl rfl rfl rfl rfl rfl (by kernel_rfl) (by kernel_rfl) (by kernel_rfl) (fun _ _ _ _ h => h) rfl rfl ?_
         refine m_take_no (j := 2) (t := 177) 6 rfl rfl rfl rfl rfl rfl (by kernel_rfl) (by kernel_rfl) (by kernel_rfl) (fun _ _ _ _ h => h) rfl rfl ?_
         refine m_take_no (j := 2) (t := 177) 7 rfl rfl rfl rfl rfl rfl (by kernel_rfl) (by kernel_rfl) (by kernel_rfl) (fun _ _ _ _ h => h) rfl rfl ?_
         refine m_take_no (j := 2) (t := 177) 8 rfl rfl rfl rfl rfl rfl (by kernel_rfl) (by kernel_rfl) (by kernel_rfl) (fun _ _ _ _ h => h) rfl rfl ?_
         refine m_take_no (j := 2) (t := 177) 9 rfl rfl rfl rfl rfl rfl (by kernel_rfl) (by kernel_rfl) (by kernel_rfl) (fun _ _ _ _ h => h) rfl rfl ?_
         refine m_take_no (j := 2) (t := 177) 10 rfl rfl rfl rfl rfl rfl (by kernel_rfl) (by kernel_rfl) (by kernel_rfl) (fun _ _ _ _ h => h) rfl rfl ?_
         refine m_tk 11 false rfl rfl (by kernel_rfl) (v_pick_t rfl rfl) rfl rfl ?_
         refine m_done (by kernel_rfl) ?_
         refine g_next hK30 ?_
         first | refine g_keep [8, 9, 12, 186] [3, 4] [3, 4] (keep_cons rfl (keep_cons rfl (keep_cons rfl (keep_cons rfl keep_nil)))) (lkeep_cons rfl (lkeep_cons rfl lkeep_nil)) (keep_cons rfl (keep_cons rfl keep_nil)) rfl ?_ | refine g_keep [8, 9, 12, 186] [3, 4] [3, 4] rfl rfl rfl rfl ?_
         refine g_cond rfl (fun _ => ?_) (fun h => by cases h)
         refine g_seq (fun K31 hK31 => ?_)
         refine g_region ?_
         refine g_step rfl (s_fieldAddr ty85 fo85_3 ty83 rfl rfl ?_)
         refine g_step rfl (s_val (v_loadl ty83 rfl rfl rfl rfl) rfl rfl ?_)
         refine g_step rfl (s_val (v_assign rfl) rfl rfl ?_)
         refine g_step rfl (s_val (v_assign rfl) rfl rfl ?_)
         refine g_nil ?_
         refine g_next hK31 ?_
         refine g_ret ?_
         refine g_block_ret ?_
         refine g_then_ret ?_
         refine g_then_ret ?_
         refine g_block_ret ?_
         refine g_then_ret ?_
         refine g_then_ret ?_
         have hN : doW room s i x = (s, false) := lg_send_no (by omega) hlo (.inr (List.all_eq_false.2 ⟨y, mem_get hy, by simp_all⟩))
         refine g_end2 (.inl rfl) Try.results43 (.tmp rfl) (.tmp rfl) [] (ASub.refl _) (AHeap.sub_refl _) (fun p hp => by cases hp) ⟨av, m, h, by rw [hN]; rfl, EffTo.refl _ _, hL, by rw [hN]; exact hR, by omega⟩
        ·
         try simp only [NM] at hg177
         refine m_take_yes (j := 2) (t := 177) 3 true rfl rfl rfl rfl rfl (by kernel_rfl) (by kernel_rfl) (by kernel_rfl) (fun _ _ _ _ h => h) (by first | exact v_loadl_all ty46 rfl rfl rfl rfl rfl | exact v_loadl_part (cs := [_, _, _, _, _, _, _]) ty46 rfl rfl rfl rfl rfl rfl) rfl rfl ?_
         refine m_takel_yes (j := 2) (t := 177) 4 rfl rfl rfl rfl rfl (by kernel_rfl) (by kernel_rfl) (by kernel_rfl) (fun _ _ _ _ h => h) (vl_fieldAddr ty87 fo87_5 ty22 rfl) rfl rfl ?_
         refine m_take_yes (j := 2) (t := 177) 5 true rfl rfl rfl rfl rfl (by kernel_rfl) (by kernel_rfl) (by kernel_rfl) (fun _ _ _ _ h => h) (v_loadl ty22 rfl rfl rfl rfl) rfl rfl ?_
         refine m_take_yes (j := 2) (t := 177) 6 false rfl rfl rfl rfl rfl (by kernel_rfl) (by kernel_rfl) (by kernel_rfl) (fun _ _ _ _ h => h) (v_move rfl) rfl rfl ?_
         refine m_take_yes (j := 2) (t := 177) 7 false rfl rfl rfl rfl rfl (by kernel_rfl) (by kernel_rfl) (by kernel_rfl) (fun _ _ _ _ h => h) (v_indexAddr ty22 ty46 rfl rfl (by first | rfl | assumption) (by first | rfl | exact (rfl : (0 : Int) = ((0 : Nat) : Int)) | exact (Int.toNat_of_nonneg (by omega)).symm) (map_get hy) rfl) rfl rfl ?_
         refine m_take_yes (j := 2) (t := 177) 8 true rfl rfl rfl rfl rfl (by kernel_rfl) (by kernel_rfl) (by kernel_rfl) (fun _ _ _ _ h => h) (by first | exact v_load_elt ty46 rfl rfl (by first | rfl | assumption) (map_get hy) rfl rfl | exact v_load_box_all ty46 rfl rfl (by assumption) rfl rfl | exact v_load_part (cs := [_, _, _, _, _, _, _]) ty46 rfl rfl (by first | rfl | assumption) (map_get hy) rfl rfl rfl | exact v_load_box_part (cs := [_, _, _, _, _, _, _]) ty46 rfl rfl (by assumption) rfl rfl rfl) rfl rfl ?_
         refine m_one_yes (j := 2) (t := 177) 9 (by kernel_rfl) rfl rfl rfl rfl rfl ?_
         refine sm_callp rfl rfl rfl (akin_ok _ _ _) ?_
         rintro _ rfl
         refine m_take_yes (j := 2) (t := 177) 10 false rfl rfl rfl rfl rfl (by kernel_rfl) (by kernel_rfl) (by kernel_rfl) (fun _ _ _ _ h => h) (v_not rfl) rfl rfl ?_
         refine m_tk 11 false rfl rfl (by kernel_rfl) (v_pick_f rfl rfl) rfl rfl ?_
         refine m_done (by kernel_rfl) ?_
         refine g_next hK30 ?_
         first | refine g_keep [8, 9, 12, 186] [3, 4] [3, 4] (keep_cons rfl (keep_cons rfl (keep_cons rfl (keep_cons rfl keep_nil)))) (lkeep_cons rfl (lkeep_cons rfl lkeep_nil)) (keep_cons rfl (keep_cons rfl keep_nil)) rfl ?_ | refine g_keep [8, 9, 12, 186] [3, 4] [3, 4] rfl rfl rfl rfl ?_
         refine g_cond rfl (fun hc186 => ?_) (fun hc186 => ?_)
         ·
          try simp only [NM] at hc186
          refine g_seq (fun K32 hK32 => ?_)
          refine g_region ?_
          refine g_step rfl (s_fieldAddr ty85 fo85_3 ty83 rfl rfl ?_)
          refine g_step rfl (s_val (v_loadl ty83 rfl rfl rfl rfl) rfl rfl ?_)
          refine g_step rfl (s_val (v_assign rfl) rfl rfl ?_)
          refine g_step rfl (s_val (v_assign rfl) rfl rfl ?_)
          refine g_nil ?_
          refine g_next hK32 ?_
          refine g_ret ?_
          refine g_block_ret ?_
          refine g_then_ret ?_
          refine g_then_ret ?_
          refine g_block_ret ?_
          refine g_then_ret ?_
          refine g_then_ret ?_
          have hN : doW room s i x = (s, false) := lg_send_no (by omega) hlo (.inr (List.all_eq_false.2 ⟨y, mem_get hy, by simp_all⟩))
          refine g_end2 (.inl rfl) Try.results43 (.tmp rfl) (.tmp rfl) [] (ASub.refl _) (AHeap.sub_refl _) (fun p hp => by cases hp) ⟨av, m, h, by rw [hN]; rfl, EffTo.refl _ _, hL, by rw [hN]; exact hR, by omega⟩
         ·
          try simp only [NM] at hc186
          refine g_skip ?_
          refine g_block_normal ?_
          refine g_next hK28 ?_
          refine g_region ?_
          refine g_step rfl (s_val (v_move rfl) rfl rfl ?_)
          refine g_step rfl (s_val (v_add rfl rfl (by omega)) rfl rfl ?_)
          refine g_step rfl (s_val (v_assign rfl) rfl rfl ?_)
          refine g_nil ?_
          first | refine g_keep [8, 9, 12] [3, 4] [3, 4] (keep_cons rfl (keep_cons rfl (keep_cons rfl keep_nil))) (lkeep_cons rfl (lkeep_cons rfl lkeep_nil)) (keep_cons rfl (keep_cons rfl keep_nil)) rfl ?_ | refine g_keep [8, 9, 12] [3, 4] [3, 4] rfl rfl rfl rfl ?_
          exact g_round _ (by omega) ⟨k + 1, by omega, rfl, rfl, rfl, rfl, rfl, by rw [all_snoc hy, hc]; simp_all⟩
       ·
        refine ⟨_, rfl, .inl ⟨rfl, ?_⟩⟩
        refine sm_alloc (av := (.agg [(.int .i64 0), (.int .i64 0), (.int .i64 0), (.int .i64 0), (.int .i64 0), (.bool false), .nil0])) ty46 rfl rfl rfl rfl ?_
        refine m_one 12 (by kernel_rfl) rfl rfl ?_
        refine sm_callp rfl rfl rfl (find_ok l y.id _ _ rfl (by omega) hM.b) ?_
        rintro _ rfl
        refine m_tk 13 false rfl rfl (by kernel_rfl) (v_move rfl) rfl rfl ?_
        refine m_tk 14 false rfl rfl (by kernel_rfl) (v_extract rfl rfl) rfl rfl ?_
        refine m_tk 15 false rfl rfl (by kernel_rfl) (v_extract rfl rfl) rfl rfl ?_
        refine m_one 17 (by kernel_rfl) rfl rfl ?_
        refine sm_any rfl (s_store_all ty46 rfl rfl rfl rfl rfl rfl ?_)
        refine m_tk 18 false rfl rfl (by kernel_rfl) (v_assign rfl) rfl rfl ?_
        refine m_done (by kernel_rfl) ?_
        refine g_next hK29 ?_
        refine g_seq (fun K33 hK33 => ?_)
        refine g_draw (n := 12) (fun j => !([] : List Nat).contains j) rfl rfl ?_
        refine m_tk 0 false rfl rfl (by kernel_rfl) (v_move rfl) rfl rfl ?_
        refine m_tk 1 false rfl rfl (by kernel_rfl) (v_not rfl) rfl rfl ?_
        refine m_tk 2 false rfl rfl (by kernel_rfl) (v_move rfl) rfl rfl ?_
        refine m_split 177 rfl (fun hg177 => ?_) (fun hg177 => ?_)
        ·
         try simp only [NM] at hg177
         refine m_take_no (j := 2) (t := 177) 3 rfl rfl rfl rfl rfl rfl (by kernel_rfl) (by kernel_rfl) (by kernel_rfl) (fun _ _ _ _ h => h) rfl rfl ?_
         refine m_take_no (j := 2) (t := 177) 4 rfl rfl rfl rfl rfl rfl (by kernel_rfl) (by kernel_rfl) (by kernel_rfl) (fun _ _ _ _ h => h) rfl rfl ?_
         refine m_take_no (j := 2) (t := 177) 5 rfl rfl rfl rfl rfl rfl (by kernel_rfl) (by kernel_rfl) (by kernel_rfl) (fun _ _ _ _ h => h) rfl rfl ?_
         refine m_take_no (j := 2) (t := 177) 6 rfl rfl rfl rfl rfl rfl (by kernel_rfl) (by kernel_rfl) (by kernel_rfl) (fun _ _ _ _ h => h) rfl rfl ?_
         refine m_take_no (j := 2) (t := 177) 7 rfl rfl rfl rfl rfl rfl (by kernel_rfl) (by kernel_rfl) (by kernel_rfl) (fun _ _ _ _ h => h) rfl rfl ?_
         refine m_take_no (j := 2) (t := 177) 8 rfl rfl rfl rfl rfl rfl (by kernel_rfl) (by kernel_rfl) (by kernel_rfl) (fun _ _ _ _ h => h) rfl rfl ?_
         refine m_take_no (j := 2) (t := 177) 9 rfl rfl rfl rfl rfl rfl (by kernel_rfl) (by kernel_rfl) (by kernel_rfl) (fun _ _ _ _ h => h) rfl rfl ?_
         refine m_take_no (j := 2) (t := 177) 10 rfl rfl rfl rfl rfl rfl (by kernel_rfl) (by kernel_rfl) (by kernel_rfl) (fun _ _ _ _ h => h) rfl rfl ?_
         refine m_tk 11 false rfl rfl (by kernel_rfl) (v_pick_t rfl rfl) rfl rfl ?_
         refine m_done (by kernel_rfl) ?_
         refine g_next hK33 ?_
         first | refine g_keep [8, 9, 12, 186] [3, 4] [3, 4] (keep_cons rfl (keep_cons rfl (keep_cons rfl (keep_cons rfl keep_nil)))) (lkeep_cons rfl (lkeep_cons rfl lkeep_nil)) (keep_cons rfl (keep_cons rfl keep_nil)) rfl ?_ | refine g_keep [8, 9, 12, 186] [3, 4] [3, 4] rfl rfl rfl rfl ?_
         refine g_cond rfl (fun _ => ?_) (fun h => by cases h)
         refine g_seq (fun K34 hK34 => ?_)
         refine g_region ?_
         refine g_step rfl (s_fieldAddr ty85 fo85_3 ty83 rfl rfl ?_)
         refine g_step rfl (s_val (v_loadl ty83 rfl rfl rfl rfl) rfl rfl ?_)
         refine g_step rfl (s_val (v_assign rfl) rfl rfl ?_)
         refine g_step rfl (s_val (v_assign rfl) rfl rfl ?_)
         refine g_nil ?_
         refine g_next hK34 ?_
         refine g_ret ?_
         refine g_block_ret ?_
         refine g_then_ret ?_
         refine g_then_ret ?_
         refine g_block_ret ?_
         refine g_then_ret ?_
         refine g_then_ret ?_
         have hN : doW room s i x = (s, false) := lg_send_no (by omega) hlo (.inr (List.all_eq_false.2 ⟨y, mem_get hy, by simp_all⟩))
         refine g_end2 (.inl rfl) Try.results43 (.tmp rfl) (.tmp rfl) [] (ASub.refl _) (AHeap.sub_refl _) (fun p hp => by cases hp) ⟨av, m, h, by rw [hN]; rfl, EffTo.refl _ _, hL, by rw [hN]; exact hR, by omega⟩
        ·
         try simp only [NM] at hg177
         refine m_take_yes (j := 2) (t := 177) 3 true rfl rfl rfl rfl rfl (by kernel_rfl) (by kernel_rfl) (by kernel_rfl) (fun _ _ _ _ h => h) (by first | exact v_loadl_all ty46 rfl rfl rfl rfl rfl | exact v_loadl_part (cs := [_, _, _, _, _, _, _]) ty46 rfl rfl rfl rfl rfl rfl) rfl rfl ?_
         refine m_takel_yes (j := 2) (t := 177) 4 rfl rfl rfl rfl rfl (by kernel_rfl) (by kernel_rfl) (by kernel_rfl) (fun _ _ _ _ h => h) (vl_fieldAddr ty87 fo87_5 ty22 rfl) rfl rfl ?_
         refine m_take_yes (j := 2) (t := 177) 5 true rfl rfl rfl rfl rfl (by kernel_rfl) (by kernel_rfl) (by kernel_rfl) (fun _ _ _ _ h => h) (v_loadl ty22 rfl rfl rfl rfl) rfl rfl ?_
         refine m_take_yes (j := 2) (t := 177) 6 false rfl rfl rfl rfl rfl (by kernel_rfl) (by kernel_rfl) (by kernel_rfl) (fun _ _ _ _ h => h) (v_move rfl) rfl rfl ?_
         refine m_take_yes (j := 2) (t := 177) 7 false rfl rfl rfl rfl rfl (by kernel_rfl) (by kernel_rfl) (by kernel_rfl) (fun _ _ _ _ h => h) (v_indexAddr ty22 ty46 rfl rfl (by first | rfl | assumption) (by first | rfl | exact (rfl : (0 : Int) = ((0 : Nat) : Int)) | exact (Int.toNat_of_nonneg (by omega)).symm) (map_get hy) rfl) rfl rfl ?_
         refine m_take_yes (j := 2) (t := 177) 8 true rfl rfl rfl rfl rfl (by kernel_rfl) (by kernel_rfl) (by kernel_rfl) (fun _ _ _ _ h => h) (by first | exact v_load_elt ty46 rfl rfl (by first | rfl | assumption) (map_get hy) rfl rfl | exact v_load_box_all ty46 rfl rfl (by assumption) rfl rfl | exact v_load_part (cs := [_, _, _, _, _, _, _]) ty46 rfl rfl (by first | rfl | assumption) (map_get hy) rfl rfl rfl | exact v_load_box_part (cs := [_, _, _, _, _, _, _]) ty46 rfl rfl (by assumption) rfl rfl rfl) rfl rfl ?_
         refine m_one_yes (j := 2) (t := 177) 9 (by kernel_rfl) rfl rfl rfl rfl rfl ?_
         refine sm_callp rfl rfl rfl (akin_ok _ _ _) ?_
         rintro _ rfl
         refine m_take_yes (j := 2) (t := 177) 10 false rfl rfl rfl rfl rfl (by kernel_rfl) (by kernel_rfl) (by kernel_rfl) (fun _ _ _ _ h => h) (v_not rfl) rfl rfl ?_
         refine m_tk 11 false rfl rfl (by kernel_rfl) (v_pick_f rfl rfl) rfl rfl ?_
         refine m_done (by kernel_rfl) ?_
         refine g_next hK33 ?_
         first | refine g_keep [8, 9, 12, 186] [3, 4] [3, 4] (keep_cons rfl (keep_cons rfl (keep_cons rfl (keep_cons rfl keep_nil)))) (lkeep_cons rfl (lkeep_cons rfl lkeep_nil)) (keep_cons rfl (keep_cons rfl keep_nil)) rfl ?_ | refine g_keep [8, 9, 12, 186] [3, 4] [3, 4] rfl rfl rfl rfl ?_
         refine g_cond rfl (fun hc186 => ?_) (fun hc186 => ?_)
         ·
          try simp only [NM] at hc186
          refine g_seq (fun K35 hK35 => ?_)
          refine g_region ?_
          refine g_step rfl (s_fieldAddr ty85 fo85_3 ty83 rfl rfl ?_)
          refine g_step rfl (s_val (v_loadl ty83 rfl rfl rfl rfl) rfl rfl ?_)
          refine g_step rfl (s_val (v_assign rfl) rfl rfl ?_)
          refine g_step rfl (s_val (v_assign rfl) rfl rfl ?_)
          refine g_nil ?_
          refine g_next hK35 ?_
          refine g_ret ?_
          refine g_block_ret ?_
          refine g_then_ret ?_
          refine g_then_ret ?_
          refine g_block_ret ?_
          refine g_then_ret ?_
          refine g_then_ret ?_
          have hN : doW room s i x = (s, false) := lg_send_no (by omega) hlo (.inr (List.all_eq_false.2 ⟨y, mem_get hy, by simp_all⟩))
          refine g_end2 (.inl rfl) Try.results43 (.tmp rfl) (.tmp rfl) [] (ASub.refl _) (AHeap.sub_refl _) (fun p hp => by cases hp) ⟨av, m, h, by rw [hN]; rfl, EffTo.refl _ _, hL, by rw [hN]; exact hR, by omega⟩
         ·
          try simp only [NM] at hc186
          refine g_skip ?_
          refine g_block_normal ?_
          refine g_next hK28 ?_
          refine g_region ?_
          refine g_step rfl (s_val (v_move rfl) rfl rfl ?_)
          refine g_step rfl (s_val (v_add rfl rfl (by omega)) rfl rfl ?_)
          refine g_step rfl (s_val (v_assign rfl) rfl rfl ?_)
          refine g_nil ?_
          first | refine g_keep [8, 9, 12] [3, 4] [3, 4] (keep_cons rfl (keep_cons rfl (keep_cons rfl keep_nil))) (lkeep_cons rfl (lkeep_cons rfl lkeep_nil)) (keep_cons rfl (keep_cons rfl keep_nil)) rfl ?_ | refine g_keep [8, 9, 12] [3, 4] [3, 4] rfl rfl rfl rfl ?_
          exact g_round _ (by omega) ⟨k + 1, by omega, rfl, rfl, rfl, rfl, rfl, by rw [all_snoc hy, hc]; simp_all⟩
      ·
       try simp only [NM] at hc156
       obtain rfl : k = x.recs.length := by omega
       rw [List.take_length] at hc
       refine g_exit ?_
       refine g_then_exit ?_
       refine g_then_exit ?_
       refine g_block_same ?_
       refine g_next hK24 ?_
       refine g_seq (fun K36 hK36 => ?_)
       refine g_seq (fun K37 hK37 => ?_)
       refine g_region ?_
       refine g_step rfl (s_val (v_move rfl) rfl rfl ?_)
       refine g_step rfl (s_val (v_geq rfl rfl) rfl rfl ?_)
       refine g_nil ?_
       refine g_next hK37 ?_
       refine g_cond rfl (fun hc190 => ?_) (fun hc190 => ?_)
       ·
        try simp only [NM] at hc190
        refine g_seq (fun K38 hK38 => ?_)
        refine g_region ?_
        refine g_step rfl (s_fieldAddr ty85 fo85_3 ty83 rfl rfl ?_)
        refine g_step rfl (s_val (v_loadl ty83 rfl rfl rfl rfl) rfl rfl ?_)
        refine g_step rfl (s_val (v_assign rfl) rfl rfl ?_)
        refine g_step rfl (s_val (v_assign rfl) rfl rfl ?_)
        refine g_nil ?_
        refine g_next hK38 ?_
        refine g_ret ?_
        refine g_then_ret ?_
        refine g_then_ret ?_
        have hN : doW room s i x = (s, false) := lg_send_no (by omega) hlo (.inl (by obtain ⟨_, _, _, _, h9⟩ := hR.letter_of (x := x) (by omega); rw [h9]; rfl))
        refine g_end2 (.inl rfl) Try.results43 (.tmp rfl) (.tmp rfl) [] (ASub.refl _) (AHeap.sub_refl _) (fun p hp => by cases hp) ⟨av, m, h, by rw [hN]; rfl, EffTo.refl _ _, hL, by rw [hN]; exact hR, by omega⟩
       ·
        try simp only [NM] at hc190
        refine g_skip ?_
        refine g_next hK36 ?_
        refine g_seq (fun K39 hK39 => ?_)
        refine g_draw (n := 12) (fun j => !([9] : List Nat).contains j) rfl rfl ?_
        have hno := hR.none_of (no := x.letter) (by omega)
        have hR9 := hR.letter (coresOf x.recs) hno
        have hN := lg_send (room := room) (by omega) hlo hno hc
        refine m_takel 0 rfl rfl (by kernel_rfl) (by kernel_rfl) (by kernel_rfl) (fun _ _ _ _ h => h) (vl_fieldAddr ty85 fo85_3 ty83 rfl) rfl rfl ?_
        refine m_tk 1 true rfl rfl (by kernel_rfl) (v_loadl ty83 rfl rfl rfl rfl) rfl rfl ?_
        refine m_takel 2 rfl rfl (by kernel_rfl) (by kernel_rfl) (by kernel_rfl) (fun _ _ _ _ h => h) (vl_fieldAddr ty87 fo87_4 ty3 rfl) rfl rfl ?_
        refine m_tk 3 true rfl rfl (by kernel_rfl) (v_loadl ty3 rfl rfl rfl rfl) rfl rfl ?_
        refine m_takel 4 rfl rfl (by kernel_rfl) (by kernel_rfl) (by kernel_rfl) (fun _ _ _ _ h => h) (vl_fieldAddr ty87 fo87_5 ty22 rfl) rfl rfl ?_
        refine m_tk 5 true rfl rfl (by kernel_rfl) (v_loadl ty22 rfl rfl rfl rfl) rfl rfl ?_
        refine m_one 6 (by kernel_rfl) rfl rfl ?_
        refine sm_callp rfl rfl rfl (cores34_ok x.recs _ (by omega)) ?_
        rintro _ rfl
        refine m_tk 7 false rfl rfl (by kernel_rfl) (v_sub (b := (encPo (x.letter, coresOf x.recs))) (v_build (vs := [(0, _), (1, _)]) (zs := [(.int .i64 0), .nil0]) (cells := [_, _]) ty97 pl97 rfl rfl rfl) (ASub.of_wk rfl)) rfl rfl ?_
        refine m_one 8 (by kernel_rfl) rfl rfl ?_
        refine sm_lit ty83 ty97 rfl rfl rfl rfl rfl rfl rfl ?_
        refine m_one 9 (by kernel_rfl) rfl rfl ?_
        refine sm_any rfl (s_appendV (l := (m.post.map encPo)) (m := ([((x.letter, coresOf x.recs) : Int × List Rc)].map encPo)) ty83 ty97 rfl rfl (hL.sv hhH _) rfl rfl (by refine Even.map _ ?_ _; intro _; rfl) (by intro x hx; obtain ⟨_, _, rfl⟩ := List.mem_map.1 hx; rfl) rfl (by simp) (by simp; omega) (by simp; omega) ?_)
        intro r' hr'
        rw [← List.map_append]
        obtain ⟨hE2, hL2⟩ := hL.put hhH hr' (m.post ++ [(x.letter, coresOf x.recs)])
        refine m_tk 10 false rfl rfl (by kernel_rfl) (v_assign rfl) rfl rfl ?_
        refine m_tk 11 false rfl rfl (by kernel_rfl) (v_assign rfl) rfl rfl ?_
        refine m_done (by kernel_rfl) ?_
        refine g_next hK39 ?_
        refine g_ret ?_
        refine g_then_ret ?_
        refine g_end2 (.inl rfl) Try.results43 (.tmp rfl) (.tmp rfl) [(r', .row 2 ((m.post ++ [(x.letter, coresOf x.recs)]).map encPo))] (ASub.refl _) (AHeap.sub_refl _) (hE2.ok hG) ⟨_, _, _, by rw [hN]; rfl, hE2, hL2, by rw [hN]; exact hR9, by simp⟩
     ·
      try simp only [NM] at hc151
      refine g_skip ?_
      refine g_next hK22 ?_
      refine g_seq (fun K40 hK40 => ?_)
      refine g_seq (fun K41 hK41 => ?_)
      refine g_region ?_
      refine g_step rfl (s_fieldAddr ty87 fo87_0 ty3 rfl rfl ?_)
      refine g_step rfl (s_val (v_loadl ty3 rfl rfl rfl rfl) rfl rfl ?_)
      refine g_step rfl (s_val (v_eql rfl rfl) rfl rfl ?_)
      refine g_nil ?_
      refine g_next hK41 ?_
      refine g_cond rfl (fun hc205 => ?_) (fun hc205 => ?_)
      ·
       try simp only [NM] at hc205
       refine g_seq (fun K42 hK42 => ?_)
       refine g_seq (fun K43 hK43 => ?_)
       refine g_region ?_
       refine g_step rfl (s_val (v_move rfl) rfl rfl ?_)
       refine g_step rfl (s_val (v_lss rfl rfl) rfl rfl ?_)
       refine g_step rfl (s_val (v_move rfl) rfl rfl ?_)
       refine g_split 208 rfl (fun hg208 => ?_) (fun hg208 => ?_)
       ·
        try simp only [NM] at hg208
        refine g_step_no (j := 2) (t := 208) rfl rfl rfl rfl rfl rfl rfl ?_
        refine g_step_no (j := 2) (t := 208) rfl rfl rfl rfl rfl rfl rfl ?_
        refine g_step_no (j := 2) (t := 208) rfl rfl rfl rfl rfl rfl rfl ?_
        refine g_step rfl (s_val (v_pick_t rfl rfl) rfl rfl ?_)
        refine g_nil ?_
        refine g_next hK43 ?_
        refine g_cond rfl (fun _ => ?_) (fun h => by cases h)
        refine g_seq (fun K44 hK44 => ?_)
        refine g_region ?_
        refine g_step rfl (s_fieldAddr ty85 fo85_3 ty83 rfl rfl ?_)
        refine g_step rfl (s_val (v_loadl ty83 rfl rfl rfl rfl) rfl rfl ?_)
        refine g_step rfl (s_val (v_assign rfl) rfl rfl ?_)
        refine g_step rfl (s_val (v_assign rfl) rfl rfl ?_)
        refine g_nil ?_
        refine g_next hK44 ?_
        refine g_ret ?_
        refine g_then_ret ?_
        refine g_then_ret ?_
        have hN : doW room s i x = (s, false) := lg_hear_no (by omega) hlo (by first | exact .inl (hR.none_of (by omega)) | exact .inr (by rw [← hxi]; assumption))
        refine g_end2 (.inl rfl) Try.results43 (.tmp rfl) (.tmp rfl) [] (ASub.refl _) (AHeap.sub_refl _) (fun p hp => by cases hp) ⟨av, m, h, by rw [hN]; rfl, EffTo.refl _ _, hL, by rw [hN]; exact hR, by omega⟩
       ·
        try simp only [NM] at hg208
        refine g_step_yes (j := 2) (t := 208) rfl rfl rfl rfl (s_fieldAddr ty46 fo46_2 ty3 rfl rfl ?_)
        refine g_step_yes (j := 2) (t := 208) rfl rfl rfl rfl (s_val (v_loadl ty3 rfl rfl rfl rfl) rfl rfl ?_)
        refine g_step_yes (j := 2) (t := 208) rfl rfl rfl rfl (s_val (v_eql rfl rfl) rfl rfl ?_)
        refine g_step rfl (s_val (v_pick_f rfl rfl) rfl rfl ?_)
        refine g_nil ?_
        refine g_next hK43 ?_
        refine g_cond rfl (fun hc212 => ?_) (fun hc212 => ?_)
        ·
         try simp only [NM] at hc212
         refine g_seq (fun K45 hK45 => ?_)
         refine g_region ?_
         refine g_step rfl (s_fieldAddr ty85 fo85_3 ty83 rfl rfl ?_)
         refine g_step rfl (s_val (v_loadl ty83 rfl rfl rfl rfl) rfl rfl ?_)
         refine g_step rfl (s_val (v_assign rfl) rfl rfl ?_)
         refine g_step rfl (s_val (v_assign rfl) rfl rfl ?_)
         refine g_nil ?_
         refine g_next hK45 ?_
         refine g_ret ?_
         refine g_then_ret ?_
         refine g_then_ret ?_
         have hN : doW room s i x = (s, false) := lg_hear_no (by omega) hlo (by first | exact .inl (hR.none_of (by omega)) | exact .inr (by rw [← hxi]; assumption))
         refine g_end2 (.inl rfl) Try.results43 (.tmp rfl) (.tmp rfl) [] (ASub.refl _) (AHeap.sub_refl _) (fun p hp => by cases hp) ⟨av, m, h, by rw [hN]; rfl, EffTo.refl _ _, hL, by rw [hN]; exact hR, by omega⟩
        ·
         try simp only [NM] at hc212
         refine g_skip ?_
         refine g_next hK42 ?_
         refine g_seq (fun K46 hK46 => ?_)
         refine g_seq (fun K47 hK47 => ?_)
         refine g_region ?_
         obtain ⟨j, q, hj, hq, hpg⟩ := hR.letter_of (x := x) (by omega)
         have hms := hok.bag _ _ hpg
         have hml := hok.lsz _ _ hpg
         have hN := lg_hear (room := room) (by omega) hlo hpg (by rw [← hxi]; assumption)
         refine g_step rfl (s_val (v_assign rfl) rfl rfl ?_)
         refine g_nil ?_
         refine g_next hK47 ?_
         refine g_block ?_
         first | refine g_keep [8, 9, 15] [3] [3] (keep_cons rfl (keep_cons rfl (keep_cons rfl keep_nil))) (lkeep_cons rfl lkeep_nil) (keep_cons rfl keep_nil) rfl ?_ | refine g_keep [8, 9, 15] [3] [3] rfl rfl rfl rfl ?_
         refine g_loop (fun n env L B G => ∃ (k : Nat) (h1 : AHeap) (hs1 : List (Int × Int × List Rc)) (e1 : List (Nat × ARow)), k ≤ q.2.length ∧ n = q.2.length - k ∧ env = [(8, .int .i64 x.node), (9, .int .i64 (lix m.post x.letter)), (15, .int .i64 (k : Int))] ∧ L = [(3, 3, 0)] ∧ B = [(3, (mdA ur hr cr s.tl.length av))] ∧ G = setAll H e1 ∧ EffTo h h1 w0.heap.size e1 ∧ LA h1 ur hr cr av ⟨m.ups, hs1, m.cells, m.post⟩ ∧ MRel room (setT s i (some (joinAll (i : Int) room l (q.2.take k)))) ⟨m.ups, hs1, m.cells, m.post⟩) (q.2.length) ⟨0, h, m.has, [], Nat.zero_le _, rfl, rfl, rfl, rfl, rfl, ⟨EffTo.refl _ _, hL, by rw [show (joinAll (i : Int) room l (q.2.take 0)) = l from rfl, setT_self hlo]; exact hR⟩⟩ (fun n env L B G hI => ?_)
         obtain ⟨k, h1, hs1, e1, hk, rfl, rfl, rfl, rfl, rfl, hE1, hL1, hR1⟩ := hI
         have hs1' := hE1.within hhH
         have hPv1 := (hL1.pp.mono hs1').view
         have hh1 := hR1.has i (joinAll (i : Int) room l (q.2.take k)) (lOf_setS hix)
         have hhr1 := hs1' _ _ hL1.hh
         have hVh1 : (AV.own hr 3 0 s.tl.length).view (setAll H e1) = some (hs1.map encMl) := AV.view_own_all hhr1 (by rw [List.length_map]; have h9 := hR1.nh; rw [setT_len] at h9; exact h9.symm)
         have hM1 := joinAll_inv (i : Int) (q.2.take k) hM (fun z hz => hms z (List.mem_of_mem_take hz))
         obtain ⟨o1, ho1⟩ := hM1.o
         have hDh1 := hE1.some (b := hr) (by rw [hL1.hh]; simp)
         refine g_seq (fun K48 hK48 => ?_)
         refine g_seq (fun K49 hK49 => ?_)
         refine g_region ?_
         refine g_step rfl (s_val (v_move rfl) rfl rfl ?_)
         refine g_step rfl (s_fieldAddr ty85 fo85_3 ty83 rfl rfl ?_)
         refine g_step rfl (s_val (v_loadl ty83 rfl rfl rfl rfl) rfl rfl ?_)
         refine g_step rfl (s_val (v_move rfl) rfl rfl ?_)
         refine g_step rfl (s_val (v_indexAddr ty83 ty97 rfl rfl hPv1 hj (map_get hq) rfl) rfl rfl ?_)
         refine g_step rfl (s_val (by first | exact v_fieldAddr ty97 fo97_1 ty22 rfl | exact v_fieldAddr_box ty97 fo97_1 ty22 rfl) rfl rfl ?_)
         refine g_step rfl (s_val (by first | exact v_load ty22 rfl rfl hPv1 (map_get hq) rfl | exact v_load_box ty22 rfl rfl (by assumption) rfl) rfl rfl ?_)
         refine g_step rfl (s_val (v_len ty22 rfl (by first | rfl | assumption) (by first | exact List.length_map .. | rfl)) rfl rfl ?_)
         refine g_step rfl (s_val (v_lss rfl rfl) rfl rfl ?_)
         refine g_nil ?_
         refine g_next hK49 ?_
         refine g_cond rfl (fun hc223 => ?_) (fun hc223 => ?_)
         ·
          try simp only [NM] at hc223
          obtain ⟨y, hy⟩ := get_some (l := q.2) (k := k) (by omega)
          have hys := hms y (mem_get hy)
          refine g_skip ?_
          refine g_next hK48 ?_
          refine g_seq (fun K50 hK50 => ?_)
          refine g_block ?_
          refine g_seq (fun K51 hK51 => ?_)
          refine g_draw (n := 22) (fun j => !([20] : List Nat).contains j) rfl rfl ?_
          refine m_takel 0 rfl rfl (by kernel_rfl) (by kernel_rfl) (by kernel_rfl) (fun _ _ _ _ h => h) (vl_fieldAddr ty85 fo85_1 ty82 rfl) rfl rfl ?_
          refine m_tk 1 true rfl rfl (by kernel_rfl) (v_loadl ty82 rfl rfl rfl rfl) rfl rfl ?_
          refine m_tk 2 false rfl rfl (by kernel_rfl) (v_move rfl) rfl rfl ?_
          refine m_tk 3 false rfl rfl (by kernel_rfl) (v_indexAddr ty82 ty61 rfl rfl hVh1 hxi (map_get hh1) rfl) rfl rfl ?_
          refine m_tk 4 true rfl rfl (by kernel_rfl) (by first | exact v_load_elt ty61 rfl rfl hVh1 (map_get hh1) rfl rfl | exact v_load_box_all ty61 rfl rfl (by assumption) rfl rfl | exact v_load_part (cs := [_, _, _]) ty61 rfl rfl hVh1 (map_get hh1) rfl rfl rfl | exact v_load_box_part (cs := [_, _, _]) ty61 rfl rfl (by assumption) rfl rfl rfl) rfl rfl ?_
          refine m_takel 5 rfl rfl (by kernel_rfl) (by kernel_rfl) (by kernel_rfl) (fun _ _ _ _ h => h) (vl_fieldAddr ty85 fo85_3 ty83 rfl) rfl rfl ?_
          refine m_tk 6 true rfl rfl (by kernel_rfl) (v_loadl ty83 rfl rfl rfl rfl) rfl rfl ?_
          refine m_tk 7 false rfl rfl (by kernel_rfl) (v_move rfl) rfl rfl ?_
          refine m_tk 8 false rfl rfl (by kernel_rfl) (v_indexAddr ty83 ty97 rfl rfl hPv1 hj (map_get hq) rfl) rfl rfl ?_
          refine m_tk 9 false rfl rfl (by kernel_rfl) (by first | exact v_fieldAddr ty97 fo97_1 ty22 rfl | exact v_fieldAddr_box ty97 fo97_1 ty22 rfl) rfl rfl ?_
          refine m_tk 10 true rfl rfl (by kernel_rfl) (by first | exact v_load ty22 rfl rfl hPv1 (map_get hq) rfl | exact v_load_box ty22 rfl rfl (by assumption) rfl) rfl rfl ?_
          refine m_tk 11 false rfl rfl (by kernel_rfl) (v_move rfl) rfl rfl ?_
          refine m_tk 12 false rfl rfl (by kernel_rfl) (v_indexAddr ty22 ty46 rfl rfl (by first | rfl | assumption) (by first | rfl | exact (rfl : (0 : Int) = ((0 : Nat) : Int)) | exact (Int.toNat_of_nonneg (by omega)).symm) (map_get hy) rfl) rfl rfl ?_
          refine m_tk 13 true rfl rfl (by kernel_rfl) (by first | exact v_load_elt ty46 rfl rfl (by first | rfl | assumption) (map_get hy) rfl rfl | exact v_load_box_all ty46 rfl rfl (by assumption) rfl rfl | exact v_load_part (cs := [_, _, _, _, _, _, _]) ty46 rfl rfl (by first | rfl | assumption) (map_get hy) rfl rfl rfl | exact v_load_box_part (cs := [_, _, _, _, _, _, _]) ty46 rfl rfl (by assumption) rfl rfl rfl) rfl rfl ?_
          refine m_tk 14 false rfl rfl (by kernel_rfl) (v_sub (b := (encAc ⟨0, y⟩)) (v_build (vs := [(0, _), (1, _)]) (zs := [(.int .i64 0), (.int .i64 0), (.int .i64 0), (.int .i64 0), (.int .i64 0), (.int .i64 0), (.bool false), .nil0]) (cells := [_, _, _, _, _, _, _, _]) ty65 pl65 rfl rfl rfl) (ASub.of_wk rfl)) rfl rfl ?_
          refine m_all (is := [15, 19]) (by kernel_rfl) rfl (fun _ _ _ => trivial) (fun i hi => ?_)
          rcases (by simpa using hi : i = 15 ∨ i = 19) with rfl | rfl
          ·
           refine ⟨_, rfl, .inl ⟨rfl, ?_⟩⟩
           refine sm_callp rfl rfl rfl (do25_ok (i : Int) room (joinAll (i : Int) room l (q.2.take k)) ⟨0, y⟩ _ hM1 hys) ?_
           rintro _ rfl
           refine m_tk 16 false rfl rfl (by kernel_rfl) (v_move rfl) rfl rfl ?_
           refine m_tk 17 false rfl rfl (by kernel_rfl) (v_extract rfl rfl) rfl rfl ?_
           refine m_tk 18 false rfl rfl (by kernel_rfl) (v_extract rfl rfl) rfl rfl ?_
           refine m_one 19 (by kernel_rfl) rfl rfl ?_
           refine sm_alloc (av := (.agg [(.int .i64 0), (.int .i64 0), .nil0])) ty61 rfl rfl rfl rfl ?_
           refine m_one 20 (by kernel_rfl) rfl rfl ?_
           refine sm_any rfl (s_store_all ty61 rfl rfl rfl rfl rfl rfl ?_)
           refine m_tk 21 false rfl rfl (by kernel_rfl) (v_assign rfl) rfl rfl ?_
           refine m_done (by kernel_rfl) ?_
           refine g_next hK51 ?_
           first | refine g_keep [8, 9, 15] [3, 16] [3, 16] (keep_cons rfl (keep_cons rfl (keep_cons rfl keep_nil))) (lkeep_cons rfl (lkeep_cons rfl lkeep_nil)) (keep_cons rfl (keep_cons rfl keep_nil)) rfl ?_ | refine g_keep [8, 9, 15] [3, 16] [3, 16] rfl rfl rfl rfl ?_
           refine g_region ?_
           refine g_step rfl (s_fieldAddr ty85 fo85_1 ty82 rfl rfl ?_)
           refine g_step rfl (s_val (v_loadl ty82 rfl rfl rfl rfl) rfl rfl ?_)
           refine g_step rfl (s_val (v_move rfl) rfl rfl ?_)
           refine g_step rfl (s_val (by first | exact v_loadl_all ty61 rfl rfl rfl rfl rfl | exact v_loadl_part (cs := [_, _, _]) ty61 rfl rfl rfl rfl rfl rfl) rfl rfl ?_)
           refine g_step rfl (s_val (v_indexAddr ty82 ty61 rfl rfl hVh1 hxi (map_get hh1) rfl) rfl rfl ?_)
           refine g_step rfl (s_store_row (k := i) (off := 0) (old := encMl ((i : Int), room, (joinAll (i : Int) room l (q.2.take k)))) (new := mdl (i : Int) room (doL (i : Int) room (joinAll (i : Int) room l (q.2.take k)) ⟨0, y⟩).1) ty61 rfl rfl hhr1 (by rw [Nat.zero_add]; exact map_get hh1) rfl rfl rfl rfl hDh1 ?_)
           rw [show (0 + i : Nat) = i from Nat.zero_add i, set_map_h]
           refine g_nil ?_
           refine g_block_normal ?_
           refine g_next hK50 ?_
           refine g_region ?_
           refine g_step rfl (s_val (v_move rfl) rfl rfl ?_)
           refine g_step rfl (s_val (v_add rfl rfl (by omega)) rfl rfl ?_)
           refine g_step rfl (s_val (v_assign rfl) rfl rfl ?_)
           refine g_nil ?_
           first | refine g_keep [8, 9, 15] [3] [3] (keep_cons rfl (keep_cons rfl (keep_cons rfl keep_nil))) (lkeep_cons rfl lkeep_nil) (keep_cons rfl keep_nil) rfl ?_ | refine g_keep [8, 9, 15] [3] [3] rfl rfl rfl rfl ?_
           exact g_round _ (by omega) ⟨k + 1, h1.set hr (.row 3 ((hs1.set i ((i : Int), room, (doL (i : Int) room (joinAll (i : Int) room l (q.2.take k)) ⟨0, y⟩).1)).map encMl)), hs1.set i ((i : Int), room, (doL (i : Int) room (joinAll (i : Int) room l (q.2.take k)) ⟨0, y⟩).1), (hr, (.row 3 ((hs1.set i ((i : Int), room, (doL (i : Int) room (joinAll (i : Int) room l (q.2.take k)) ⟨0, y⟩).1)).map encMl))) :: e1, by omega, rfl, rfl, rfl, rfl, rfl, ⟨hE1.write _ (.inl (by rw [hL1.hh]; simp)), hL1.setH _, by rw [joinAll_snoc hy]; have h9 := hR1.act (lOf_setS hix) (do_step (a := ⟨0, y⟩) hM1 ho1 hys).1.fine; rw [setT_setT] at h9; exact h9⟩⟩
          ·
           refine ⟨_, rfl, .inl ⟨rfl, ?_⟩⟩
           refine sm_alloc (av := (.agg [(.int .i64 0), (.int .i64 0), .nil0])) ty61 rfl rfl rfl rfl ?_
           refine m_one 15 (by kernel_rfl) rfl rfl ?_
           refine sm_callp rfl rfl rfl (do25_ok (i : Int) room (joinAll (i : Int) room l (q.2.take k)) ⟨0, y⟩ _ hM1 hys) ?_
           rintro _ rfl
           refine m_tk 16 false rfl rfl (by kernel_rfl) (v_move rfl) rfl rfl ?_
           refine m_tk 17 false rfl rfl (by kernel_rfl) (v_extract rfl rfl) rfl rfl ?_
           refine m_tk 18 false rfl rfl (by kernel_rfl) (v_extract rfl rfl) rfl rfl ?_
           refine m_one 20 (by kernel_rfl) rfl rfl ?_
           refine sm_any rfl (s_store_all ty61 rfl rfl rfl rfl rfl rfl ?_)
           refine m_tk 21 false rfl rfl (by kernel_rfl) (v_assign rfl) rfl rfl ?_
           refine m_done (by kernel_rfl) ?_
           refine g_next hK51 ?_
           first | refine g_keep [8, 9, 15] [3, 16] [3, 16] (keep_cons rfl (keep_cons rfl (keep_cons rfl keep_nil))) (lkeep_cons rfl (lkeep_cons rfl lkeep_nil)) (keep_cons rfl (keep_cons rfl keep_nil)) rfl ?_ | refine g_keep [8, 9, 15] [3, 16] [3, 16] rfl rfl rfl rfl ?_
           refine g_region ?_
           refine g_step rfl (s_fieldAddr ty85 fo85_1 ty82 rfl rfl ?_)
           refine g_step rfl (s_val (v_loadl ty82 rfl rfl rfl rfl) rfl rfl ?_)
           refine g_step rfl (s_val (v_move rfl) rfl rfl ?_)
           refine g_step rfl (s_val (by first | exact v_loadl_all ty61 rfl rfl rfl rfl rfl | exact v_loadl_part (cs := [_, _, _]) ty61 rfl rfl rfl rfl rfl rfl) rfl rfl ?_)
           refine g_step rfl (s_val (v_indexAddr ty82 ty61 rfl rfl hVh1 hxi (map_get hh1) rfl) rfl rfl ?_)
           refine g_step rfl (s_store_row (k := i) (off := 0) (old := encMl ((i : Int), room, (joinAll (i : Int) room l (q.2.take k)))) (new := mdl (i : Int) room (doL (i : Int) room (joinAll (i : Int) room l (q.2.take k)) ⟨0, y⟩).1) ty61 rfl rfl hhr1 (by rw [Nat.zero_add]; exact map_get hh1) rfl rfl rfl rfl hDh1 ?_)
           rw [show (0 + i : Nat) = i from Nat.zero_add i, set_map_h]
           refine g_nil ?_
           refine g_block_normal ?_
           refine g_next hK50 ?_
           refine g_region ?_
           refine g_step rfl (s_val (v_move rfl) rfl rfl ?_)
           refine g_step rfl (s_val (v_add rfl rfl (by omega)) rfl rfl ?_)
           refine g_step rfl (s_val (v_assign rfl) rfl rfl ?_)
           refine g_nil ?_
           first | refine g_keep [8, 9, 15] [3] [3] (keep_cons rfl (keep_cons rfl (keep_cons rfl keep_nil))) (lkeep_cons rfl lkeep_nil) (keep_cons rfl keep_nil) rfl ?_ | refine g_keep [8, 9, 15] [3] [3] rfl rfl rfl rfl ?_
           exact g_round _ (by omega) ⟨k + 1, h1.set hr (.row 3 ((hs1.set i ((i : Int), room, (doL (i : Int) room (joinAll (i : Int) room l (q.2.take k)) ⟨0, y⟩).1)).map encMl)), hs1.set i ((i : Int), room, (doL (i : Int) room (joinAll (i : Int) room l (q.2.take k)) ⟨0, y⟩).1), (hr, (.row 3 ((hs1.set i ((i : Int), room, (doL (i : Int) room (joinAll (i : Int) room l (q.2.take k)) ⟨0, y⟩).1)).map encMl))) :: e1, by omega, rfl, rfl, rfl, rfl, rfl, ⟨hE1.write _ (.inl (by rw [hL1.hh]; simp)), hL1.setH _, by rw [joinAll_snoc hy]; have h9 := hR1.act (lOf_setS hix) (do_step (a := ⟨0, y⟩) hM1 ho1 hys).1.fine; rw [setT_setT] at h9; exact h9⟩⟩
         ·
          try simp only [NM] at hc223
          obtain rfl : k = q.2.length := by omega
          rw [List.take_length] at hR1
          refine g_exit ?_
          refine g_then_exit ?_
          refine g_then_exit ?_
          refine g_block_same ?_
          refine g_next hK46 ?_
          refine g_seq (fun K52 hK52 => ?_)
          refine g_region ?_
          refine g_step rfl (s_fieldAddr ty85 fo85_3 ty83 rfl rfl ?_)
          refine g_step rfl (s_val (v_loadl ty83 rfl rfl rfl rfl) rfl rfl ?_)
          refine g_step rfl (s_val (v_assign rfl) rfl rfl ?_)
          refine g_step rfl (s_val (v_assign rfl) rfl rfl ?_)
          refine g_nil ?_
          refine g_next hK52 ?_
          refine g_ret ?_
          refine g_then_ret ?_
          refine g_end2 (.inl rfl) Try.results43 (.tmp rfl) (.tmp rfl) e1 (ASub.refl _) (AHeap.sub_refl _) (hE1.ok hG) ⟨av, _, h1, by rw [hN]; rfl, hE1, hL1, by rw [hN]; exact hR1, by simp⟩
      ·
       try simp only [NM] at hc205
       refine g_skip ?_
       refine g_next hK40 ?_
       refine g_seq (fun K53 hK53 => ?_)
       refine g_seq (fun K54 hK54 => ?_)
       refine g_region ?_
       refine g_step rfl (s_fieldAddr ty87 fo87_0 ty3 rfl rfl ?_)
       refine g_step rfl (s_val (v_loadl ty3 rfl rfl rfl rfl) rfl rfl ?_)
       refine g_step rfl (s_val (v_eql rfl rfl) rfl rfl ?_)
       refine g_step rfl (s_val (v_move rfl) rfl rfl ?_)
       refine g_split 255 rfl (fun hg255 => ?_) (fun hg255 => ?_)
       ·
        try simp only [NM] at hg255
        refine g_step_no (j := 3) (t := 255) rfl rfl rfl rfl rfl rfl rfl ?_
        refine g_step_no (j := 3) (t := 255) rfl rfl rfl rfl rfl rfl rfl ?_
        refine g_step_no (j := 3) (t := 255) rfl rfl rfl rfl rfl rfl rfl ?_
        refine g_step rfl (s_val (v_pick_t rfl rfl) rfl rfl ?_)
        refine g_nil ?_
        refine g_next hK54 ?_
        refine g_cond rfl (fun _ => ?_) (fun h => by cases h)
        refine g_seq (fun K55 hK55 => ?_)
        refine g_draw (n := 16) (fun j => !([13] : List Nat).contains j) rfl rfl ?_
        refine m_takel 0 rfl rfl (by kernel_rfl) (by kernel_rfl) (by kernel_rfl) (fun _ _ _ _ h => h) (vl_fieldAddr ty85 fo85_3 ty83 rfl) rfl rfl ?_
        refine m_tk 2 true rfl rfl (by kernel_rfl) (by first | exact v_loadl_all ty85 rfl rfl rfl rfl rfl | exact v_loadl_part (cs := [_, _, _, _]) ty85 rfl rfl rfl rfl rfl rfl) rfl rfl ?_
        refine m_tk 3 false rfl rfl (by kernel_rfl) (v_move rfl) rfl rfl ?_
        refine m_takel 4 rfl rfl (by kernel_rfl) (by kernel_rfl) (by kernel_rfl) (fun _ _ _ _ h => h) (vl_fieldAddr ty87 fo87_0 ty3 rfl) rfl rfl ?_
        refine m_tk 5 true rfl rfl (by kernel_rfl) (v_loadl ty3 rfl rfl rfl rfl) rfl rfl ?_
        refine m_tk 6 false rfl rfl (by kernel_rfl) (v_sub_ rfl rfl (by omega)) rfl rfl ?_
        refine m_takel 7 rfl rfl (by kernel_rfl) (by kernel_rfl) (by kernel_rfl) (fun _ _ _ _ h => h) (vl_fieldAddr ty87 fo87_2 ty3 rfl) rfl rfl ?_
        refine m_tk 8 true rfl rfl (by kernel_rfl) (v_loadl ty3 rfl rfl rfl rfl) rfl rfl ?_
        refine m_takel 9 rfl rfl (by kernel_rfl) (by kernel_rfl) (by kernel_rfl) (fun _ _ _ _ h => h) (vl_fieldAddr ty87 fo87_3 ty3 rfl) rfl rfl ?_
        refine m_tk 10 true rfl rfl (by kernel_rfl) (v_loadl ty3 rfl rfl rfl rfl) rfl rfl ?_
        refine m_tk 11 false rfl rfl (by kernel_rfl) (v_sub (b := (encR ⟨x.other, x.inc, 0, ⟨0, 0⟩, false, []⟩)) (v_build (vs := [(0, _), (1, _)]) (zs := [(.int .i64 0), (.int .i64 0), (.int .i64 0), (.int .i64 0), (.int .i64 0), (.bool false), .nil0]) (cells := [_, _, _, _, _, _, _]) ty46 pl46 rfl rfl rfl) (ASub.of_wk rfl)) rfl rfl ?_
        refine m_tk 12 false rfl rfl (by kernel_rfl) (v_sub (b := (encAc (acM x))) (v_build (vs := [(0, _), (1, _)]) (zs := [(.int .i64 0), (.int .i64 0), (.int .i64 0), (.int .i64 0), (.int .i64 0), (.int .i64 0), (.bool false), .nil0]) (cells := [_, _, _, _, _, _, _, _]) ty65 pl65 rfl rfl rfl) (ASub.of_wk rfl)) rfl rfl ?_
        refine m_all (is := [1, 13]) (by kernel_rfl) rfl (fun _ _ _ => trivial) (fun i hi => ?_)
        rcases (by simpa using hi : i = 1 ∨ i = 13) with rfl | rfl
        ·
         refine ⟨_, rfl, .inl ⟨rfl, ?_⟩⟩
         refine sm_val (v_loadl ty83 rfl rfl rfl rfl) rfl rfl ?_
         refine m_one 13 (by kernel_rfl) rfl rfl ?_
         refine sm_any rfl (s_call rfl rfl rfl (act34_ok h ur hr cr s.tl.length av room m i x.node l (acM x) 1 _ hL hhH hxi hR.nh hh0 hM small0) (fun b hb => .inl hb) ?_)
         rintro n1 rv1 effs1 hn1 hdom1 ⟨rfl, h', hE1, hL1⟩ hok1
         refine m_tk 14 false rfl rfl (by kernel_rfl) (v_assign rfl) rfl rfl ?_
         refine m_tk 15 false rfl rfl (by kernel_rfl) (v_assign rfl) rfl rfl ?_
         refine m_done (by kernel_rfl) ?_
         refine g_next hK55 ?_
         first | refine g_keep [6, 7] [] [] (keep_cons rfl (keep_cons rfl keep_nil)) lkeep_nil keep_nil rfl ?_ | refine g_keep [6, 7] [] [] rfl rfl rfl rfl ?_
         refine g_ret ?_
         refine g_then_ret ?_
         have hN := lg_6 (room := room) (by omega : x.kind = 6 ∨ x.kind = 7) hlo
         have hR1 := hR.acted hlo hM small0 hN
         refine g_end2 (.inl rfl) Try.results43 (.tmp rfl) (.tmp rfl) effs1 (ASub.refl _) (AHeap.sub_refl _) ((hE1.weaken hn1).ok hG) ⟨av, _, h', by rw [hN], hE1.weaken hn1, hL1, hR1, by split <;> simp⟩
        ·
         refine ⟨_, rfl, .inl ⟨rfl, ?_⟩⟩
         refine sm_any rfl (s_call rfl rfl rfl (act34_ok h ur hr cr s.tl.length av room m i x.node l (acM x) 1 _ hL hhH hxi hR.nh hh0 hM small0) (fun b hb => .inl hb) ?_)
         rintro n1 rv1 effs1 hn1 hdom1 ⟨rfl, h', hE1, hL1⟩ hok1
         refine m_tk 1 true rfl rfl (by kernel_rfl) (v_loadl ty83 rfl rfl rfl rfl) rfl rfl ?_
         refine m_tk 14 false rfl rfl (by kernel_rfl) (v_assign rfl) rfl rfl ?_
         refine m_tk 15 false rfl rfl (by kernel_rfl) (v_assign rfl) rfl rfl ?_
         refine m_done (by kernel_rfl) ?_
         refine g_next hK55 ?_
         first | refine g_keep [6, 7] [] [] (keep_cons rfl (keep_cons rfl keep_nil)) lkeep_nil keep_nil rfl ?_ | refine g_keep [6, 7] [] [] rfl rfl rfl rfl ?_
         refine g_ret ?_
         refine g_then_ret ?_
         have hN := lg_6 (room := room) (by omega : x.kind = 6 ∨ x.kind = 7) hlo
         have hR1 := hR.acted hlo hM small0 hN
         refine g_end2 (.inl rfl) Try.results43 (.tmp rfl) (.tmp rfl) effs1 (ASub.refl _) (AHeap.sub_refl _) ((hE1.weaken hn1).ok hG) ⟨av, _, h', by rw [hN], hE1.weaken hn1, hL1, hR1, by split <;> simp⟩
       ·
        try simp only [NM] at hg255
        refine g_step_yes (j := 3) (t := 255) rfl rfl rfl rfl (s_fieldAddr ty87 fo87_0 ty3 rfl rfl ?_)
        refine g_step_yes (j := 3) (t := 255) rfl rfl rfl rfl (s_val (v_loadl ty3 rfl rfl rfl rfl) rfl rfl ?_)
        refine g_step_yes (j := 3) (t := 255) rfl rfl rfl rfl (s_val (v_eql rfl rfl) rfl rfl ?_)
        refine g_step rfl (s_val (v_pick_f rfl rfl) rfl rfl ?_)
        refine g_nil ?_
        refine g_next hK54 ?_
        refine g_cond rfl (fun hc259 => ?_) (fun hc259 => ?_)
        ·
         try simp only [NM] at hc259
         refine g_seq (fun K56 hK56 => ?_)
         refine g_draw (n := 16) (fun j => !([13] : List Nat).contains j) rfl rfl ?_
         refine m_takel 0 rfl rfl (by kernel_rfl) (by kernel_rfl) (by kernel_rfl) (fun _ _ _ _ h => h) (vl_fieldAddr ty85 fo85_3 ty83 rfl) rfl rfl ?_
         refine m_tk 2 true rfl rfl (by kernel_rfl) (by first | exact v_loadl_all ty85 rfl rfl rfl rfl rfl | exact v_loadl_part (cs := [_, _, _, _]) ty85 rfl rfl rfl rfl rfl rfl) rfl rfl ?_
         refine m_tk 3 false rfl rfl (by kernel_rfl) (v_move rfl) rfl rfl ?_
         refine m_takel 4 rfl rfl (by kernel_rfl) (by kernel_rfl) (by kernel_rfl) (fun _ _ _ _ h => h) (vl_fieldAddr ty87 fo87_0 ty3 rfl) rfl rfl ?_
         refine m_tk 5 true rfl rfl (by kernel_rfl) (v_loadl ty3 rfl rfl rfl rfl) rfl rfl ?_
         refine m_tk 6 false rfl rfl (by kernel_rfl) (v_sub_ rfl rfl (by omega)) rfl rfl ?_
         refine m_takel 7 rfl rfl (by kernel_rfl) (by kernel_rfl) (by kernel_rfl) (fun _ _ _ _ h => h) (vl_fieldAddr ty87 fo87_2 ty3 rfl) rfl rfl ?_
         refine m_tk 8 true rfl rfl (by kernel_rfl) (v_loadl ty3 rfl rfl rfl rfl) rfl rfl ?_
         refine m_takel 9 rfl rfl (by kernel_rfl) (by kernel_rfl) (by kernel_rfl) (fun _ _ _ _ h => h) (vl_fieldAddr ty87 fo87_3 ty3 rfl) rfl rfl ?_
         refine m_tk 10 true rfl rfl (by kernel_rfl) (v_loadl ty3 rfl rfl rfl rfl) rfl rfl ?_
         refine m_tk 11 false rfl rfl (by kernel_rfl) (v_sub (b := (encR ⟨x.other, x.inc, 0, ⟨0, 0⟩, false, []⟩)) (v_build (vs := [(0, _), (1, _)]) (zs := [(.int .i64 0), (.int .i64 0), (.int .i64 0), (.int .i64 0), (.int .i64 0), (.bool false), .nil0]) (cells := [_, _, _, _, _, _, _]) ty46 pl46 rfl rfl rfl) (ASub.of_wk rfl)) rfl rfl ?_
         refine m_tk 12 false rfl rfl (by kernel_rfl) (v_sub (b := (encAc (acM x))) (v_build (vs := [(0, _), (1, _)]) (zs := [(.int .i64 0), (.int .i64 0), (.int .i64 0), (.int .i64 0), (.int .i64 0), (.int .i64 0), (.bool false), .nil0]) (cells := [_, _, _, _, _, _, _, _]) ty65 pl65 rfl rfl rfl) (ASub.of_wk rfl)) rfl rfl ?_
         refine m_all (is := [1, 13]) (by kernel_rfl) rfl (fun _ _ _ => trivial) (fun i hi => ?_)
         rcases (by simpa using hi : i = 1 ∨ i = 13) with rfl | rfl
         ·
          refine ⟨_, rfl, .inl ⟨rfl, ?_⟩⟩
          refine sm_val (v_loadl ty83 rfl rfl rfl rfl) rfl rfl ?_
          refine m_one 13 (by kernel_rfl) rfl rfl ?_
          refine sm_any rfl (s_call rfl rfl rfl (act34_ok h ur hr cr s.tl.length av room m i x.node l (acM x) 1 _ hL hhH hxi hR.nh hh0 hM small0) (fun b hb => .inl hb) ?_)
          rintro n1 rv1 effs1 hn1 hdom1 ⟨rfl, h', hE1, hL1⟩ hok1
          refine m_tk 14 false rfl rfl (by kernel_rfl) (v_assign rfl) rfl rfl ?_
          refine m_tk 15 false rfl rfl (by kernel_rfl) (v_assign rfl) rfl rfl ?_
          refine m_done (by kernel_rfl) ?_
          refine g_next hK56 ?_
          first | refine g_keep [6, 7] [] [] (keep_cons rfl (keep_cons rfl keep_nil)) lkeep_nil keep_nil rfl ?_ | refine g_keep [6, 7] [] [] rfl rfl rfl rfl ?_
          refine g_ret ?_
          refine g_then_ret ?_
          have hN := lg_6 (room := room) (by omega : x.kind = 6 ∨ x.kind = 7) hlo
          have hR1 := hR.acted hlo hM small0 hN
          refine g_end2 (.inl rfl) Try.results43 (.tmp rfl) (.tmp rfl) effs1 (ASub.refl _) (AHeap.sub_refl _) ((hE1.weaken hn1).ok hG) ⟨av, _, h', by rw [hN], hE1.weaken hn1, hL1, hR1, by split <;> simp⟩
         ·
          refine ⟨_, rfl, .inl ⟨rfl, ?_⟩⟩
          refine sm_any rfl (s_call rfl rfl rfl (act34_ok h ur hr cr s.tl.length av room m i x.node l (acM x) 1 _ hL hhH hxi hR.nh hh0 hM small0) (fun b hb => .inl hb) ?_)
          rintro n1 rv1 effs1 hn1 hdom1 ⟨rfl, h', hE1, hL1⟩ hok1
          refine m_tk 1 true rfl rfl (by kernel_rfl) (v_loadl ty83 rfl rfl rfl rfl) rfl rfl ?_
          refine m_tk 14 false rfl rfl (by kernel_rfl) (v_assign rfl) rfl rfl ?_
          refine m_tk 15 false rfl rfl (by kernel_rfl) (v_assign rfl) rfl rfl ?_
          refine m_done (by kernel_rfl) ?_
          refine g_next hK56 ?_
          first | refine g_keep [6, 7] [] [] (keep_cons rfl (keep_cons rfl keep_nil)) lkeep_nil keep_nil rfl ?_ | refine g_keep [6, 7] [] [] rfl rfl rfl rfl ?_
          refine g_ret ?_
          refine g_then_ret ?_
          have hN := lg_6 (room := room) (by omega : x.kind = 6 ∨ x.kind = 7) hlo
          have hR1 := hR.acted hlo hM small0 hN
          refine g_end2 (.inl rfl) Try.results43 (.tmp rfl) (.tmp rfl) effs1 (ASub.refl _) (AHeap.sub_refl _) ((hE1.weaken hn1).ok hG) ⟨av, _, h', by rw [hN], hE1.weaken hn1, hL1, hR1, by split <;> simp⟩
        ·
         try simp only [NM] at hc259
         refine g_skip ?_
         refine g_next hK53 ?_
         refine g_seq (fun K57 hK57 => ?_)
         refine g_seq (fun K58 hK58 => ?_)
         refine g_region ?_
         refine g_step rfl (s_fieldAddr ty87 fo87_0 ty3 rfl rfl ?_)
         refine g_step rfl (s_val (v_loadl ty3 rfl rfl rfl rfl) rfl rfl ?_)
         refine g_step rfl (s_val (v_eql rfl rfl) rfl rfl ?_)
         refine g_nil ?_
         refine g_next hK58 ?_
         refine g_cond rfl (fun hc276 => ?_) (fun hc276 => ?_)
         ·
          try simp only [NM] at hc276
          refine g_seq (fun K59 hK59 => ?_)
          refine g_draw (n := 8) (fun j => !([5] : List Nat).contains j) rfl rfl ?_
          refine m_takel 0 rfl rfl (by kernel_rfl) (by kernel_rfl) (by kernel_rfl) (fun _ _ _ _ h => h) (vl_fieldAddr ty85 fo85_3 ty83 rfl) rfl rfl ?_
          refine m_tk 2 true rfl rfl (by kernel_rfl) (by first | exact v_loadl_all ty85 rfl rfl rfl rfl rfl | exact v_loadl_part (cs := [_, _, _, _]) ty85 rfl rfl rfl rfl rfl rfl) rfl rfl ?_
          refine m_tk 3 false rfl rfl (by kernel_rfl) (v_move rfl) rfl rfl ?_
          refine m_tk 4 false rfl rfl (by kernel_rfl) (v_sub (b := (encAc (acK 3))) (v_build (vs := [(0, _)]) (zs := [(.int .i64 0), (.int .i64 0), (.int .i64 0), (.int .i64 0), (.int .i64 0), (.int .i64 0), (.bool false), .nil0]) (cells := [_, _, _, _, _, _, _, _]) ty65 pl65 rfl rfl rfl) (ASub.of_wk rfl)) rfl rfl ?_
          refine m_all (is := [1, 5]) (by kernel_rfl) rfl (fun _ _ _ => trivial) (fun i hi => ?_)
          rcases (by simpa using hi : i = 1 ∨ i = 5) with rfl | rfl
          ·
           refine ⟨_, rfl, .inl ⟨rfl, ?_⟩⟩
           refine sm_val (v_loadl ty83 rfl rfl rfl rfl) rfl rfl ?_
           refine m_one 5 (by kernel_rfl) rfl rfl ?_
           refine sm_any rfl (s_call rfl rfl rfl (act34_ok h ur hr cr s.tl.length av room m i x.node l (acK 3) 0 _ hL hhH hxi hR.nh hh0 hM small0) (fun b hb => .inl hb) ?_)
           rintro n1 rv1 effs1 hn1 hdom1 ⟨rfl, h', hE1, hL1⟩ hok1
           refine m_tk 6 false rfl rfl (by kernel_rfl) (v_assign rfl) rfl rfl ?_
           refine m_tk 7 false rfl rfl (by kernel_rfl) (v_assign rfl) rfl rfl ?_
           refine m_done (by kernel_rfl) ?_
           refine g_next hK59 ?_
           refine g_ret ?_
           refine g_then_ret ?_
           have hN := lg_8 (room := room) (by omega) hlo
           have hR1 := hR.acted hlo hM small0 hN
           refine g_end2 (.inl rfl) Try.results43 (.tmp rfl) (.tmp rfl) effs1 (ASub.refl _) (AHeap.sub_refl _) ((hE1.weaken hn1).ok hG) ⟨av, _, h', by rw [hN], hE1.weaken hn1, hL1, hR1, by split <;> simp⟩
          ·
           refine ⟨_, rfl, .inl ⟨rfl, ?_⟩⟩
           refine sm_any rfl (s_call rfl rfl rfl (act34_ok h ur hr cr s.tl.length av room m i x.node l (acK 3) 0 _ hL hhH hxi hR.nh hh0 hM small0) (fun b hb => .inl hb) ?_)
           rintro n1 rv1 effs1 hn1 hdom1 ⟨rfl, h', hE1, hL1⟩ hok1
           refine m_tk 1 true rfl rfl (by kernel_rfl) (v_loadl ty83 rfl rfl rfl rfl) rfl rfl ?_
           refine m_tk 6 false rfl rfl (by kernel_rfl) (v_assign rfl) rfl rfl ?_
           refine m_tk 7 false rfl rfl (by kernel_rfl) (v_assign rfl) rfl rfl ?_
           refine m_done (by kernel_rfl) ?_
           refine g_next hK59 ?_
           refine g_ret ?_
           refine g_then_ret ?_
           have hN := lg_8 (room := room) (by omega) hlo
           have hR1 := hR.acted hlo hM small0 hN
           refine g_end2 (.inl rfl) Try.results43 (.tmp rfl) (.tmp rfl) effs1 (ASub.refl _) (AHeap.sub_refl _) ((hE1.weaken hn1).ok hG) ⟨av, _, h', by rw [hN], hE1.weaken hn1, hL1, hR1, by split <;> simp⟩
         ·
          try simp only [NM] at hc276
          refine g_skip ?_
          refine g_next hK57 ?_
          refine g_seq (fun K60 hK60 => ?_)
          refine g_draw (n := 8) (fun j => !([5] : List Nat).contains j) rfl rfl ?_
          refine m_takel 0 rfl rfl (by kernel_rfl) (by kernel_rfl) (by kernel_rfl) (fun _ _ _ _ h => h) (vl_fieldAddr ty85 fo85_3 ty83 rfl) rfl rfl ?_
          refine m_tk 2 true rfl rfl (by kernel_rfl) (by first | exact v_loadl_all ty85 rfl rfl rfl rfl rfl | exact v_loadl_part (cs := [_, _, _, _]) ty85 rfl rfl rfl rfl rfl rfl) rfl rfl ?_
          refine m_tk 3 false rfl rfl (by kernel_rfl) (v_move rfl) rfl rfl ?_
          refine m_tk 4 false rfl rfl (by kernel_rfl) (v_sub (b := (encAc (acK 4))) (v_build (vs := [(0, _)]) (zs := [(.int .i64 0), (.int .i64 0), (.int .i64 0), (.int .i64 0), (.int .i64 0), (.int .i64 0), (.bool false), .nil0]) (cells := [_, _, _, _, _, _, _, _]) ty65 pl65 rfl rfl rfl) (ASub.of_wk rfl)) rfl rfl ?_
          refine m_all (is := [1, 5]) (by kernel_rfl) rfl (fun _ _ _ => trivial) (fun i hi => ?_)
          rcases (by simpa using hi : i = 1 ∨ i = 5) with rfl | rfl
          ·
           refine ⟨_, rfl, .inl ⟨rfl, ?_⟩⟩
           refine sm_val (v_loadl ty83 rfl rfl rfl rfl) rfl rfl ?_
           refine m_one 5 (by kernel_rfl) rfl rfl ?_
           refine sm_any rfl (s_call rfl rfl rfl (act34_ok h ur hr cr s.tl.length av room m i x.node l (acK 4) 1 _ hL hhH hxi hR.nh hh0 hM small0) (fun b hb => .inl hb) ?_)
           rintro n1 rv1 effs1 hn1 hdom1 ⟨rfl, h', hE1, hL1⟩ hok1
           refine m_tk 6 false rfl rfl (by kernel_rfl) (v_assign rfl) rfl rfl ?_
           refine m_tk 7 false rfl rfl (by kernel_rfl) (v_assign rfl) rfl rfl ?_
           refine m_done (by kernel_rfl) ?_
           refine g_next hK60 ?_
           refine g_ret ?_
           have hN := lg_9 (room := room) (x := x) (by omega) (by omega) (by omega) (by omega) (by omega) (by omega) (by omega) hlo
           have hR1 := hR.acted hlo hM small0 hN
           refine g_end2 (.inl rfl) Try.results43 (.tmp rfl) (.tmp rfl) effs1 (ASub.refl _) (AHeap.sub_refl _) ((hE1.weaken hn1).ok hG) ⟨av, _, h', by rw [hN], hE1.weaken hn1, hL1, hR1, by split <;> simp⟩
          ·
           refine ⟨_, rfl, .inl ⟨rfl, ?_⟩⟩
           refine sm_any rfl (s_call rfl rfl rfl (act34_ok h ur hr cr s.tl.length av room m i x.node l (acK 4) 1 _ hL hhH hxi hR.nh hh0 hM small0) (fun b hb => .inl hb) ?_)
           rintro n1 rv1 effs1 hn1 hdom1 ⟨rfl, h', hE1, hL1⟩ hok1
           refine m_tk 1 true rfl rfl (by kernel_rfl) (v_loadl ty83 rfl rfl rfl rfl) rfl rfl ?_
           refine m_tk 6 false rfl rfl (by kernel_rfl) (v_assign rfl) rfl rfl ?_
           refine m_tk 7 false rfl rfl (by kernel_rfl) (v_assign rfl) rfl rfl ?_
           refine m_done (by kernel_rfl) ?_
           refine g_next hK60 ?_
           refine g_ret ?_
           have hN := lg_9 (room := room) (x := x) (by omega) (by omega) (by omega) (by omega) (by omega) (by omega) (by omega) hlo
           have hR1 := hR.acted hlo hM small0 hN
           refine g_end2 (.inl rfl) Try.results43 (.tmp rfl) (.tmp rfl) effs1 (ASub.refl _) (AHeap.sub_refl _) ((hE1.weaken hn1).ok hG) ⟨av, _, h', by rw [hN], hE1.weaken hn1, hL1, hR1, by split <;> simp⟩

theorem legal_ok (h : AHeap) (ur hr cr : Nat) (av : AV) (room : Int) (s : Wd) (m : LM) (x : Mv) (i n : Nat) (hn : n = s.tl.length) (G : AHeap) (hL : LA h ur hr cr av m) (hR : MRel room s m) (hG : h.sub G) (hok : WOk room s) (hxi : x.node = (i : Int)) (hix : i < s.tl.length) (hxn : x.recs.length ≤ 1000) (hxs : ∀ y ∈ x.recs, Small y.bag) (hpl : m.post.length ≤ 100) (h1 : 1 ≤ room) (h48 : room ≤ 48) : LCalls Try.prog 43 [(mdA ur hr cr n av), encMv x, .int .i64 room] G (fun b => h b ≠ none) (fun n v effs => ∃ av' m' h', v = .tup [av', .bool (doW room s i x).2] ∧ EffTo h h' n effs ∧ LA h' ur hr cr av' m' ∧ MRel room (doW room s i x).1 m' ∧ m'.post.length ≤ m.post.length + 1) := by
  subst hn
  cases hlo : lOf s i with
  | none => exact legalDn_ok h ur hr cr av room s m x i G hL hR hG hok hxi hlo hix hxn hxs hpl h1 h48
  | some l => exact legalUp_ok h ur hr cr av room s m x i l G hL hR hG hok hxi hlo hix hxn hxs hpl h1 h48
end Go.Proofs.Ytgipbhfblmblcaa

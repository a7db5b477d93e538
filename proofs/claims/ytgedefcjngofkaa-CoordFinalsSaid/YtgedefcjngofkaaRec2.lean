import Derived.Test.YtgedefcjngofkaaLaw08
import Derived.Test.YtgedefcjngofkaaPRec3
import Derived.Test.YtgedefcjngofkaaAmB
set_option maxHeartbeats 8000000
set_option linter.unusedSimpArgs false
set_option linter.unusedVariables false
set_option maxRecDepth 100000
namespace Go.Proofs.Ytgedefcjngofkaa
open Go Go.Proofs.Ytgedefcjngofkaa.AM
theorem whereS_ok (l : List Rc) (f b : Nat) (caps : List AV) (q : Int → Rc → Bool) (s : Int) (G : AHeap) (hG : G b = some (.box (.int .i64 s))) (hl : l.length ≤ 1000000) (hcall : ∀ x ∈ l, ∀ (s' : Int) (H : AHeap), H b = some (.box (.int .i64 s')) → LCalls Try.prog f ([encR x] ++ caps) H (· = b) (fun _ r effs => r = .bool (q s' x) ∧ effs = [(b, .box (.int .i64 x.id))])) : LCalls Try.prog 64 [encRs l, .fn (.func f) caps] G (· = b) (fun _ r effs => r = .int .i64 (idxS q s l : Nat) ∧ ∃ s' : Int, effs = [(b, .box (.int .i64 s'))]) := by
 refine LCalls.intro 21 fi64 rfl Try.ntmps64 rfl (fun b hb => by subst hb; rw [hG]; simp) (fun H hH w0 hw0 => ?_)
 have hG1 := hH _ _ hG
 refine g_seq (fun K0 hK0 => ?_)
 refine g_region ?_
 refine g_step rfl (s_val (v_assign rfl) rfl rfl ?_)
 refine g_nil ?_
 refine g_next hK0 ?_
 refine g_seq (fun K1 hK1 => ?_)
 refine g_seq (fun K2 hK2 => ?_)
 refine g_region ?_
 refine g_step rfl (s_val (v_move rfl) rfl rfl ?_)
 refine g_step rfl (s_val (v_len ty22 rfl (by first | rfl | assumption) (by first | exact List.length_map .. | rfl)) rfl rfl ?_)
 refine g_step rfl (s_val (v_move rfl) rfl rfl ?_)
 refine g_nil ?_
 refine g_next hK2 ?_
 refine g_block ?_
 first | refine g_keep [0, 1, 7, 8, 9] [] [] (keep_cons rfl (keep_cons rfl (keep_cons rfl (keep_cons rfl (keep_cons rfl keep_nil))))) lkeep_nil keep_nil rfl ?_ | refine g_keep [0, 1, 7, 8, 9] [] [] rfl rfl rfl rfl ?_
 refine g_loop (fun n env L B G => ∃ (k : Nat) (s' : Int), k ≤ l.length ∧ n = l.length - k ∧ env = [(0, encRs l), (1, .fn (.func f) caps), (7, encRs l), (8, .int .i64 (l.length : Int)), (9, .int .i64 (k : Int))] ∧ L = [] ∧ B = [] ∧ G = H.set b (.box (.int .i64 s')) ∧ idxS q s' (l.drop k) + k = idxS q s l) (l.length) ⟨0, s, Nat.zero_le _, rfl, rfl, rfl, rfl, (AHeap.set_same _ _ _ hG1).symm, rfl⟩ (fun n env L B G hI => ?_)
 obtain ⟨k, s', hk, rfl, rfl, rfl, rfl, rfl, hc⟩ := hI
 refine g_seq (fun K3 hK3 => ?_)
 refine g_region ?_
 refine g_step rfl (s_val (v_lss rfl rfl) rfl rfl ?_)
 refine g_nil ?_
 refine g_next hK3 ?_
 refine g_seq (fun K4 hK4 => ?_)
 refine g_cond rfl (fun hc10 => ?_) (fun hc10 => ?_)
 ·
  try simp only [NM] at hc10
  obtain ⟨x, hx⟩ := get_some (l := l) (k := k) (by omega)
  refine g_skip ?_
  refine g_next hK4 ?_
  refine g_seq (fun K5 hK5 => ?_)
  refine g_block ?_
  refine g_seq (fun K6 hK6 => ?_)
  refine g_region ?_
  refine g_step rfl (s_val (v_move rfl) rfl rfl ?_)
  refine g_step rfl (s_val (v_indexAddr ty22 ty32 rfl rfl (by first | rfl | assumption) (by first | rfl | exact (rfl : (0 : Int) = ((0 : Nat) : Int)) | exact (Int.toNat_of_nonneg (by omega)).symm) (by first | assumption | exact map_get (by assumption) | rfl) rfl) rfl rfl ?_)
  refine g_step rfl (s_val (by first | exact v_load_elt ty32 rfl rfl (by first | rfl | assumption) (by first | assumption | exact map_get (by assumption) | rfl) rfl rfl | exact v_load_box_all ty32 rfl rfl (by assumption) rfl rfl | exact v_load_part (cs := [_, _, _, _, _, _, _]) ty32 rfl rfl (by first | rfl | assumption) (by first | assumption | exact map_get (by assumption) | rfl) rfl rfl rfl | exact v_load_box_part (cs := [_, _, _, _, _, _, _]) ty32 rfl rfl (by assumption) rfl rfl rfl) rfl rfl ?_)
  refine g_step rfl (s_alloc (av := (.agg [(.int .i64 0), (.int .i64 0), (.int .i64 0), (.int .i64 0), (.int .i64 0), (.bool false), .nil0])) ty32 rfl rfl rfl rfl ?_)
  refine g_step rfl (s_val (v_assign rfl) rfl rfl ?_)
  refine g_step rfl (s_store_all ty32 rfl rfl rfl rfl rfl rfl ?_)
  refine g_nil ?_
  refine g_next hK6 ?_
  refine g_seq (fun K7 hK7 => ?_)
  refine g_region ?_
  refine g_step rfl (s_val (v_move rfl) rfl rfl ?_)
  refine g_step rfl (s_val (by first | exact v_loadl_all ty32 rfl rfl rfl rfl rfl | exact v_loadl_part (cs := [_, _, _, _, _, _, _]) ty32 rfl rfl rfl rfl rfl rfl) rfl rfl ?_)
  refine g_step rfl (s_call rfl rfl rfl (hcall x (mem_get hx) s' _ (AHeap.get_set _ _ _)) (fun b hb => .inl hb) ?_)
  rintro n1 r1 effs1 hn1 hdom1 ⟨rfl, rfl⟩ hok1
  refine g_nil ?_
  refine g_next hK7 ?_
  refine g_cond rfl (fun hc16 => ?_) (fun hc16 => ?_)
  ·
   try simp only [NM] at hc16
   refine g_seq (fun K8 hK8 => ?_)
   refine g_region ?_
   refine g_step rfl (s_val (v_move rfl) rfl rfl ?_)
   refine g_step rfl (s_val (v_assign rfl) rfl rfl ?_)
   refine g_nil ?_
   refine g_next hK8 ?_
   refine g_ret ?_
   refine g_block_ret ?_
   refine g_then_ret ?_
   refine g_then_ret ?_
   refine g_block_ret ?_
   refine g_then_ret ?_
   refine g_end1 (.inl rfl) Try.results64 (.tmp rfl) [(b, .box (.int .i64 x.id))] (ASub.refl _) (by show AHeap.sub (H.set b _) ((H.set b _).set b _); rw [AHeap.set_set]; exact AHeap.sub_refl _) (fun q hq => .inl (by simp at hq; subst hq; rw [hG]; simp)) ⟨by rw [idxS_hit (N := 0) hc hx hc16], _, rfl⟩
  ·
   try simp only [NM] at hc16
   refine g_skip ?_
   refine g_block_normal ?_
   refine g_next hK5 ?_
   refine g_region ?_
   refine g_step rfl (s_val (v_add rfl rfl (by omega)) rfl rfl ?_)
   refine g_step rfl (s_val (v_move rfl) rfl rfl ?_)
   refine g_nil ?_
   first | refine g_keep [0, 1, 7, 8, 9] [] [] (keep_cons rfl (keep_cons rfl (keep_cons rfl (keep_cons rfl (keep_cons rfl keep_nil))))) lkeep_nil keep_nil rfl ?_ | refine g_keep [0, 1, 7, 8, 9] [] [] rfl rfl rfl rfl ?_
   exact g_round _ (by omega) ⟨k + 1, x.id, by omega, rfl, rfl, rfl, rfl, (AHeap.set_set _ _ _ _), idxS_miss hc hx hc16⟩
 ·
  try simp only [NM] at hc10
  obtain rfl : k = l.length := by omega
  refine g_exit ?_
  refine g_then_exit ?_
  refine g_then_exit ?_
  refine g_block_same ?_
  refine g_next hK1 ?_
  refine g_seq (fun K9 hK9 => ?_)
  refine g_region ?_
  refine g_step rfl (s_val (v_move rfl) rfl rfl ?_)
  refine g_step rfl (s_val (v_len ty22 rfl (by first | rfl | assumption) (by first | exact List.length_map .. | rfl)) rfl rfl ?_)
  refine g_step rfl (s_val (v_assign rfl) rfl rfl ?_)
  refine g_nil ?_
  refine g_next hK9 ?_
  refine g_ret ?_
  refine g_end1 (.inl rfl) Try.results64 (.tmp rfl) [(b, .box (.int .i64 s'))] (ASub.refl _) (AHeap.sub_refl _) (fun q hq => .inl (by simp at hq; subst hq; rw [hG]; simp)) ⟨by rw [idxS_end hc], _, rfl⟩

theorem sorted1_ok (b : Nat) (s : Int) (x : Rc) (G : AHeap) (hG : G b = some (.box (.int .i64 s))) (hl : Small x.bag) : LCalls Try.prog 73 [encR x, .box b 0] G (· = b) (fun _ r effs => r = .bool (badS s x) ∧ effs = [(b, .box (.int .i64 x.id))]) := by
 refine LCalls.intro 17 fi73 rfl Try.ntmps73 rfl (fun b hb => by subst hb; rw [hG]; simp) (fun H hH w0 hw0 => ?_)
 have hG1 := hH _ _ hG
 refine g_seq (fun K0 hK0 => ?_)
 refine g_region ?_
 refine g_step rfl (s_box rfl rfl rfl rfl ?_)
 refine g_step rfl (s_val (v_assign rfl) rfl rfl ?_)
 refine g_nil ?_
 refine g_next hK0 ?_
 refine g_seq (fun K1 hK1 => ?_)
 refine g_region ?_
 refine g_step rfl (s_val (by first | exact v_loadl_all ty32 rfl rfl rfl rfl rfl | exact v_loadl_part (cs := [_, _, _, _, _, _, _]) ty32 rfl rfl rfl rfl rfl rfl) rfl rfl ?_)
 refine g_step rfl (s_callp rfl rfl rfl (recValid_ok x _ hl) ?_)
 rintro _ rfl
 refine g_step rfl (s_val (v_not rfl) rfl rfl ?_)
 refine g_step rfl (s_val (v_move rfl) rfl rfl ?_)
 refine g_split 8 rfl (fun hg8 => ?_) (fun hg8 => ?_)
 ·
  try simp only [NM] at hg8
  refine g_step_no (j := 3) (t := 8) rfl rfl rfl rfl rfl rfl rfl ?_
  refine g_step_no (j := 3) (t := 8) rfl rfl rfl rfl rfl rfl rfl ?_
  refine g_step_no (j := 3) (t := 8) rfl rfl rfl rfl rfl rfl rfl ?_
  refine g_step_no (j := 3) (t := 8) rfl rfl rfl rfl rfl rfl rfl ?_
  refine g_step rfl (s_val (v_pick_t rfl rfl) rfl rfl ?_)
  refine g_step rfl (s_val (v_assign rfl) rfl rfl ?_)
  refine g_nil ?_
  refine g_next hK1 ?_
  refine g_seq (fun K2 hK2 => ?_)
  refine g_region ?_
  refine g_step rfl (s_fieldAddr ty32 fo32_0 ty3 rfl rfl ?_)
  refine g_step rfl (s_val (v_loadl ty3 rfl rfl rfl rfl) rfl rfl ?_)
  refine g_step rfl (s_store_box (new := .int .i64 x.id) ty3 rfl rfl (by assumption) rfl rfl rfl rfl (.inl rfl) ?_)
  refine g_nil ?_
  refine g_next hK2 ?_
  refine g_seq (fun K3 hK3 => ?_)
  refine g_region ?_
  refine g_step rfl (s_val (v_move rfl) rfl rfl ?_)
  refine g_step rfl (s_val (v_assign rfl) rfl rfl ?_)
  refine g_nil ?_
  refine g_next hK3 ?_
  refine g_ret ?_
  refine g_end1 (.inl rfl) Try.results73 (.tmp rfl) [(b, .box (.int .i64 x.id))] (ASub.refl _) (AHeap.sub_refl _) (fun q hq => .inl (by simp at hq; subst hq; rw [hG]; simp)) ⟨by simp_all [badS], rfl⟩
 ·
  try simp only [NM] at hg8
  refine g_step_yes (j := 3) (t := 8) rfl rfl rfl rfl (s_fieldAddr ty32 fo32_0 ty3 rfl rfl ?_)
  refine g_step_yes (j := 3) (t := 8) rfl rfl rfl rfl (s_val (v_loadl ty3 rfl rfl rfl rfl) rfl rfl ?_)
  refine g_step_yes (j := 3) (t := 8) rfl rfl rfl rfl (s_val (by first | exact v_load ty3 rfl rfl (by first | rfl | assumption) (by first | assumption | exact map_get (by assumption) | rfl) rfl | exact v_load_box ty3 rfl rfl (by assumption) rfl) rfl rfl ?_)
  refine g_step_yes (j := 3) (t := 8) rfl rfl rfl rfl (s_val (v_leq rfl rfl) rfl rfl ?_)
  refine g_step rfl (s_val (v_pick_f rfl rfl) rfl rfl ?_)
  refine g_step rfl (s_val (v_assign rfl) rfl rfl ?_)
  refine g_nil ?_
  refine g_next hK1 ?_
  refine g_seq (fun K4 hK4 => ?_)
  refine g_region ?_
  refine g_step rfl (s_fieldAddr ty32 fo32_0 ty3 rfl rfl ?_)
  refine g_step rfl (s_val (v_loadl ty3 rfl rfl rfl rfl) rfl rfl ?_)
  refine g_step rfl (s_store_box (new := .int .i64 x.id) ty3 rfl rfl (by assumption) rfl rfl rfl rfl (.inl rfl) ?_)
  refine g_nil ?_
  refine g_next hK4 ?_
  refine g_seq (fun K5 hK5 => ?_)
  refine g_region ?_
  refine g_step rfl (s_val (v_move rfl) rfl rfl ?_)
  refine g_step rfl (s_val (v_assign rfl) rfl rfl ?_)
  refine g_nil ?_
  refine g_next hK5 ?_
  refine g_ret ?_
  refine g_end1 (.inl rfl) Try.results73 (.tmp rfl) [(b, .box (.int .i64 x.id))] (ASub.refl _) (AHeap.sub_refl _) (fun q hq => .inl (by simp at hq; subst hq; rw [hG]; simp)) ⟨by simp_all [badS], rfl⟩

theorem sorted_ok (l : List Rc) (G : AHeap) (hl : l.length ≤ 1000000) (hll : ∀ x ∈ l, Small x.bag) : PCalls Try.prog 33 [encRs l] G (fun r => r = .bool (srt l)) := by
 refine LCalls.intro 10 fi33 rfl Try.ntmps33 rfl (fun _ h => h.elim) (fun H hH w0 hw0 => ?_)
 refine g_seq (fun K0 hK0 => ?_)
 refine g_region ?_
 refine g_step rfl (s_val (v_assign rfl) rfl rfl ?_)
 refine g_nil ?_
 refine g_next hK0 ?_
 refine g_seq (fun K1 hK1 => ?_)
 refine g_region ?_
 refine g_step rfl (s_alloc (av := (.int .i64 0)) ty3 rfl rfl rfl rfl ?_)
 refine g_step rfl (s_store_all ty3 rfl rfl rfl rfl rfl rfl ?_)
 refine g_nil ?_
 refine g_next hK1 ?_
 refine g_seq (fun K2 hK2 => ?_)
 refine g_region ?_
 refine g_step rfl (s_val (v_move rfl) rfl rfl ?_)
 refine g_expose 3 rfl rfl (fun r3 hr3 hw3 => ?_)
 refine g_step rfl (s_val (v_makeFunc rfl) rfl rfl ?_)
 refine g_step rfl (s_call rfl rfl rfl (whereS_ok l 73 r3 [.box r3 0] badS (-1) _ (AHeap.get_set _ _ _) hl (fun x hx s' H' h' => sorted1_ok r3 s' x H' h' (hll x hx))) (fun b hb => .inr (by subst hb; exact hw3)) ?_)
 rintro n1 _ effs1 hn1 hdom1 ⟨rfl, s', rfl⟩ hok1
 refine g_step rfl (s_val (v_move rfl) rfl rfl ?_)
 refine g_step rfl (s_val (v_len ty22 rfl (by first | rfl | assumption) (by first | exact List.length_map .. | rfl)) rfl rfl ?_)
 refine g_step rfl (s_val (v_eql rfl rfl) rfl rfl ?_)
 refine g_step rfl (s_val (v_assign rfl) rfl rfl ?_)
 refine g_nil ?_
 refine g_next hK2 ?_
 refine g_ret ?_
 refine g_end1 (.inl rfl) Try.results33 (.tmp rfl) [] (ASub.refl _) (by show AHeap.sub H ((H.set r3 _).set r3 _); rw [AHeap.set_set]; exact AHeap.sub_set (AHeap.sub_refl _) hr3) (fun p hp => by cases hp) ⟨rfl, ?_⟩
 first | (simp [srt, ← idxS_srt, Int.natCast_inj]; done) | (simp [srt, ← idxS_srt, Int.natCast_inj]; rfl)

theorem allAlike_ok (a b : List Rc) (G : AHeap) (va vb : AV) (hva : va.view G = some (a.map encR)) (hvb : vb.view G = some (b.map encR)) (hl : a.length ≤ 1000000) (hla : ∀ x ∈ a, Small x.bag) : PCalls Try.prog 29 [va, vb] G (fun r => r = .bool (decide (a = b))) := by
 refine LCalls.intro 27 fi29 rfl Try.ntmps29 rfl (fun _ h => h.elim) (fun H hH w0 hw0 => ?_)
 have hva := view_sub hH hva
 have hvb := view_sub hH hvb
 refine g_seq (fun K0 hK0 => ?_)
 refine g_region ?_
 refine g_step rfl (s_val (v_assign rfl) rfl rfl ?_)
 refine g_nil ?_
 refine g_next hK0 ?_
 refine g_seq (fun K1 hK1 => ?_)
 refine g_seq (fun K2 hK2 => ?_)
 refine g_region ?_
 refine g_step rfl (s_val (v_move rfl) rfl rfl ?_)
 refine g_step rfl (s_val (v_len ty22 rfl (by first | rfl | assumption) (by first | exact List.length_map .. | rfl)) rfl rfl ?_)
 refine g_step rfl (s_val (v_move rfl) rfl rfl ?_)
 refine g_step rfl (s_val (v_len ty22 rfl (by first | rfl | assumption) (by first | exact List.length_map .. | rfl)) rfl rfl ?_)
 refine g_step rfl (s_val (v_neq rfl rfl) rfl rfl ?_)
 refine g_nil ?_
 refine g_next hK2 ?_
 refine g_cond rfl (fun hc10 => ?_) (fun hc10 => ?_)
 ·
  try simp only [NM] at hc10
  have hne : a ≠ b := fun e => hc10 (by rw [e])
  refine g_seq (fun K3 hK3 => ?_)
  refine g_region ?_
  refine g_step rfl (s_val (v_assign rfl) rfl rfl ?_)
  refine g_nil ?_
  refine g_next hK3 ?_
  refine g_ret ?_
  refine g_then_ret ?_
  refine g_end1 (.inl rfl) Try.results29 (.tmp rfl) [] (ASub.refl _) (AHeap.sub_refl _) (fun p hp => by cases hp) ⟨rfl, ?_⟩
  first | (simp [hne]; done) | (simp [hne]; rfl)
 ·
  try simp only [NM] at hc10
  refine g_skip ?_
  refine g_next hK1 ?_
  refine g_seq (fun K4 hK4 => ?_)
  refine g_seq (fun K5 hK5 => ?_)
  refine g_region ?_
  refine g_step rfl (s_val (v_assign rfl) rfl rfl ?_)
  refine g_nil ?_
  refine g_next hK5 ?_
  refine g_block ?_
  first | refine g_keep [0, 1, 5] [] [] (keep_cons rfl (keep_cons rfl (keep_cons rfl keep_nil))) lkeep_nil keep_nil rfl ?_ | refine g_keep [0, 1, 5] [] [] rfl rfl rfl rfl ?_
  refine g_loop (fun n env L B G => ∃ (k : Nat) , k ≤ a.length ∧ n = a.length - k ∧ env = [(0, va), (1, vb), (5, .int .i64 (k : Int))] ∧ L = [] ∧ B = [] ∧ H = G ∧ a.take k = b.take k) (a.length) ⟨0, Nat.zero_le _, rfl, rfl, rfl, rfl, rfl, rfl⟩ (fun n env L B G hI => ?_)
  obtain ⟨k, hk, rfl, rfl, rfl, rfl, rfl, hc⟩ := hI
  refine g_seq (fun K6 hK6 => ?_)
  refine g_seq (fun K7 hK7 => ?_)
  refine g_region ?_
  refine g_step rfl (s_val (v_move rfl) rfl rfl ?_)
  refine g_step rfl (s_val (v_move rfl) rfl rfl ?_)
  refine g_step rfl (s_val (v_len ty22 rfl (by first | rfl | assumption) (by first | exact List.length_map .. | rfl)) rfl rfl ?_)
  refine g_step rfl (s_val (v_lss rfl rfl) rfl rfl ?_)
  refine g_nil ?_
  refine g_next hK7 ?_
  refine g_cond rfl (fun hc14 => ?_) (fun hc14 => ?_)
  ·
   try simp only [NM] at hc14
   obtain ⟨x, hx⟩ := get_some (l := a) (k := k) (by omega)
   obtain ⟨y, hy⟩ := get_some (l := b) (k := k) (by omega)
   refine g_skip ?_
   refine g_next hK6 ?_
   refine g_seq (fun K8 hK8 => ?_)
   refine g_block ?_
   refine g_seq (fun K9 hK9 => ?_)
   refine g_draw (n := 10) (fun j => !([] : List Nat).contains j) rfl rfl ?_
   refine m_tk 0 false rfl rfl (by kernel_rfl) (v_move rfl) rfl rfl ?_
   refine m_tk 1 false rfl rfl (by kernel_rfl) (v_move rfl) rfl rfl ?_
   refine m_tk 2 false rfl rfl (by kernel_rfl) (v_indexAddr ty22 ty32 rfl rfl (by first | rfl | assumption) (by first | rfl | exact (rfl : (0 : Int) = ((0 : Nat) : Int)) | exact (Int.toNat_of_nonneg (by omega)).symm) (by first | assumption | exact map_get (by assumption) | rfl) rfl) rfl rfl ?_
   refine m_tk 3 true rfl rfl (by kernel_rfl) (by first | exact v_load_elt ty32 rfl rfl (by first | rfl | assumption) (by first | assumption | exact map_get (by assumption) | rfl) rfl rfl | exact v_load_box_all ty32 rfl rfl (by assumption) rfl rfl | exact v_load_part (cs := [_, _, _, _, _, _, _]) ty32 rfl rfl (by first | rfl | assumption) (by first | assumption | exact map_get (by assumption) | rfl) rfl rfl rfl | exact v_load_box_part (cs := [_, _, _, _, _, _, _]) ty32 rfl rfl (by assumption) rfl rfl rfl) rfl rfl ?_
   refine m_tk 4 false rfl rfl (by kernel_rfl) (v_move rfl) rfl rfl ?_
   refine m_tk 5 false rfl rfl (by kernel_rfl) (v_move rfl) rfl rfl ?_
   refine m_tk 6 false rfl rfl (by kernel_rfl) (v_indexAddr ty22 ty32 rfl rfl (by first | rfl | assumption) (by first | rfl | exact (rfl : (0 : Int) = ((0 : Nat) : Int)) | exact (Int.toNat_of_nonneg (by omega)).symm) (by first | assumption | exact map_get (by assumption) | rfl) rfl) rfl rfl ?_
   refine m_tk 7 true rfl rfl (by kernel_rfl) (by first | exact v_load_elt ty32 rfl rfl (by first | rfl | assumption) (by first | assumption | exact map_get (by assumption) | rfl) rfl rfl | exact v_load_box_all ty32 rfl rfl (by assumption) rfl rfl | exact v_load_part (cs := [_, _, _, _, _, _, _]) ty32 rfl rfl (by first | rfl | assumption) (by first | assumption | exact map_get (by assumption) | rfl) rfl rfl rfl | exact v_load_box_part (cs := [_, _, _, _, _, _, _]) ty32 rfl rfl (by assumption) rfl rfl rfl) rfl rfl ?_
   refine m_one 8 (by kernel_rfl) rfl rfl ?_
   refine sm_callp rfl rfl rfl (alike_ok x y _ (hla x (mem_get hx))) ?_
   rintro _ rfl
   refine m_tk 9 false rfl rfl (by kernel_rfl) (v_not rfl) rfl rfl ?_
   refine m_done (by kernel_rfl) ?_
   refine g_next hK9 ?_
   refine g_cond rfl (fun hc26 => ?_) (fun hc26 => ?_)
   ·
    try simp only [NM] at hc26
    have hne : a ≠ b := fun e => hc26 (by subst e; rw [hx] at hy; exact Option.some.inj hy)
    refine g_seq (fun K10 hK10 => ?_)
    refine g_region ?_
    refine g_step rfl (s_val (v_assign rfl) rfl rfl ?_)
    refine g_nil ?_
    refine g_next hK10 ?_
    refine g_ret ?_
    refine g_block_ret ?_
    refine g_then_ret ?_
    refine g_then_ret ?_
    refine g_block_ret ?_
    refine g_then_ret ?_
    refine g_end1 (.inl rfl) Try.results29 (.tmp rfl) [] (ASub.refl _) (AHeap.sub_refl _) (fun p hp => by cases hp) ⟨rfl, ?_⟩
    first | (simp [hne]; done) | (simp [hne]; rfl)
   ·
    try simp only [NM] at hc26
    refine g_skip ?_
    refine g_block_normal ?_
    refine g_next hK8 ?_
    refine g_region ?_
    refine g_step rfl (s_val (v_move rfl) rfl rfl ?_)
    refine g_step rfl (s_val (v_add rfl rfl (by omega)) rfl rfl ?_)
    refine g_step rfl (s_val (v_assign rfl) rfl rfl ?_)
    refine g_nil ?_
    first | refine g_keep [0, 1, 5] [] [] (keep_cons rfl (keep_cons rfl (keep_cons rfl keep_nil))) lkeep_nil keep_nil rfl ?_ | refine g_keep [0, 1, 5] [] [] rfl rfl rfl rfl ?_
    exact g_round _ (by omega) ⟨k + 1, by omega, rfl, rfl, rfl, rfl, rfl, by rw [List.take_add_one, List.take_add_one, hc, hx, hy, hc26]⟩
  ·
   try simp only [NM] at hc14
   obtain rfl : k = a.length := by omega
   have hab : a = b := by rw [List.take_length, List.take_of_length_le (by omega)] at hc; exact hc
   refine g_exit ?_
   refine g_then_exit ?_
   refine g_then_exit ?_
   refine g_block_same ?_
   refine g_next hK4 ?_
   refine g_seq (fun K11 hK11 => ?_)
   refine g_region ?_
   refine g_step rfl (s_val (v_assign rfl) rfl rfl ?_)
   refine g_nil ?_
   refine g_next hK11 ?_
   refine g_ret ?_
   refine g_end1 (.inl rfl) Try.results29 (.tmp rfl) [] (ASub.refl _) (AHeap.sub_refl _) (fun p hp => by cases hp) ⟨rfl, ?_⟩
   first | (simp [hab]; done) | (simp [hab]; rfl)

theorem find1_ok (b : Nat) (id : Int) (x : Rc) (G : AHeap) (hG : G b = some (.box (.int .i64 id))) : PCalls Try.prog 65 [encR x, .box b 0] G (fun v => v = .bool (decide (x.id = id))) := by
 refine LCalls.intro 8 fi65 rfl Try.ntmps65 rfl (fun _ h => h.elim) (fun H hH w0 hw0 => ?_)
 have hG := hH _ _ hG
 refine g_seq (fun K0 hK0 => ?_)
 refine g_region ?_
 refine g_step rfl (s_box rfl rfl rfl rfl ?_)
 refine g_step rfl (s_val (v_assign rfl) rfl rfl ?_)
 refine g_nil ?_
 refine g_next hK0 ?_
 refine g_seq (fun K1 hK1 => ?_)
 refine g_region ?_
 refine g_step rfl (s_fieldAddr ty32 fo32_0 ty3 rfl rfl ?_)
 refine g_step rfl (s_val (v_loadl ty3 rfl rfl rfl rfl) rfl rfl ?_)
 refine g_step rfl (s_val (by first | exact v_load ty3 rfl rfl (by first | rfl | assumption) (by first | assumption | exact map_get (by assumption) | rfl) rfl | exact v_load_box ty3 rfl rfl (by assumption) rfl) rfl rfl ?_)
 refine g_step rfl (s_val (v_eql rfl rfl) rfl rfl ?_)
 refine g_step rfl (s_val (v_assign rfl) rfl rfl ?_)
 refine g_nil ?_
 refine g_next hK1 ?_
 refine g_ret ?_
 refine g_end1 (.inl rfl) Try.results65 (.tmp rfl) [] (ASub.refl _) (AHeap.sub_refl _) (fun p hp => by cases hp) ⟨rfl, ?_⟩
 rfl

theorem find_ok (l : List Rc) (id : Int) (G : AHeap) (va : AV) (hva : va.view G = some (l.map encR)) (hl : l.length ≤ 1000000) (hll : ∀ x ∈ l, Small x.bag) : PCalls Try.prog 26 [va, .int .i64 id] G (fun r => r = .tup [encR (rfind l id).1, .bool (rfind l id).2]) := by
 refine LCalls.intro 20 fi26 rfl Try.ntmps26 rfl (fun _ h => h.elim) (fun H hH w0 hw0 => ?_)
 have hva := view_sub hH hva
 refine g_seq (fun K0 hK0 => ?_)
 refine g_region ?_
 refine g_step rfl (s_box rfl rfl rfl rfl ?_)
 refine g_step rfl (s_alloc (av := (.agg [(.int .i64 0), (.int .i64 0), (.int .i64 0), (.int .i64 0), (.int .i64 0), (.bool false), .nil0])) ty32 rfl rfl rfl rfl ?_)
 refine g_step rfl (s_val (v_assign rfl) rfl rfl ?_)
 refine g_nil ?_
 refine g_next hK0 ?_
 refine g_seq (fun K1 hK1 => ?_)
 refine g_region ?_
 refine g_step rfl (s_val (v_move rfl) rfl rfl ?_)
 refine g_expose 3 rfl rfl (fun r3 hr3 hw3 => ?_)
 refine g_step rfl (s_val (v_makeFunc rfl) rfl rfl ?_)
 have hva2 : va.view (AHeap.set H r3 (.box (.int .i64 id))) = some (l.map encR) := view_sub (AHeap.sub_set (AHeap.sub_refl _) hr3) hva
 refine g_step rfl (s_callp rfl rfl rfl (where_ok l 65 [.box r3 0] (fun x => decide (x.id = id)) _ va hva2 hl (fun x hx H' h' => find1_ok r3 id x H' (h' _ _ (AHeap.get_set _ _ _)))) ?_)
 rintro _ rfl
 refine g_step rfl (s_val (v_assign rfl) rfl rfl ?_)
 refine g_nil ?_
 refine g_next hK1 ?_
 refine g_seq (fun K2 hK2 => ?_)
 refine g_seq (fun K3 hK3 => ?_)
 refine g_region ?_
 refine g_step rfl (s_val (v_move rfl) rfl rfl ?_)
 refine g_step rfl (s_val (v_move rfl) rfl rfl ?_)
 refine g_step rfl (s_val (v_len ty22 rfl hva2 (by first | exact List.length_map .. | rfl)) rfl rfl ?_)
 refine g_step rfl (s_val (v_eql rfl rfl) rfl rfl ?_)
 refine g_nil ?_
 refine g_next hK3 ?_
 refine g_cond rfl (fun hc13 => ?_) (fun hc13 => ?_)
 ·
  try simp only [NM] at hc13
  refine g_seq (fun K4 hK4 => ?_)
  refine g_region ?_
  refine g_step rfl (s_val (v_sub (b := (encR rzero)) (v_build (vs := []) (zs := [(.int .i64 0), (.int .i64 0), (.int .i64 0), (.int .i64 0), (.int .i64 0), (.bool false), .nil0]) (cells := [_, _, _, _, _, _, _]) ty32 pl32 rfl rfl rfl) (ASub.of_wk rfl)) rfl rfl ?_)
  refine g_step rfl (s_store_all ty32 rfl rfl rfl rfl rfl rfl ?_)
  refine g_step rfl (s_val (v_assign rfl) rfl rfl ?_)
  refine g_nil ?_
  refine g_next hK4 ?_
  refine g_ret ?_
  refine g_then_ret ?_
  refine g_end2 (.inl rfl) Try.results26 (.agg ty32 rfl rfl rfl rfl rfl) (.tmp rfl) [] (ASub.refl _) (AHeap.sub_set (AHeap.sub_refl _) hr3) (fun p hp => by cases hp) ⟨rfl, ?_⟩
  first | (rw [rfind_none (by omega)]; done) | (rw [rfind_none (by omega)]; rfl)
 ·
  try simp only [NM] at hc13
  obtain ⟨x, hx⟩ := get_some (l := l) (k := idx (fun x => decide (x.id = id)) l) (by have := idx_le (fun x => decide (x.id = id)) l; omega)
  have hsx := hll x (mem_get hx)
  refine g_skip ?_
  refine g_next hK2 ?_
  refine g_seq (fun K5 hK5 => ?_)
  refine g_region ?_
  refine g_step rfl (s_val (v_move rfl) rfl rfl ?_)
  refine g_step rfl (s_val (v_move rfl) rfl rfl ?_)
  refine g_step rfl (s_val (v_indexAddr ty22 ty32 rfl rfl hva2 (by first | rfl | exact (rfl : (0 : Int) = ((0 : Nat) : Int)) | exact (Int.toNat_of_nonneg (by omega)).symm) (by first | assumption | exact map_get (by assumption) | rfl) rfl) rfl rfl ?_)
  refine g_step rfl (s_val (by first | exact v_load_elt ty32 rfl rfl hva2 (by first | assumption | exact map_get (by assumption) | rfl) rfl rfl | exact v_load_box_all ty32 rfl rfl (by assumption) rfl rfl | exact v_load_part (cs := [_, _, _, _, _, _, _]) ty32 rfl rfl hva2 (by first | assumption | exact map_get (by assumption) | rfl) rfl rfl rfl | exact v_load_box_part (cs := [_, _, _, _, _, _, _]) ty32 rfl rfl (by assumption) rfl rfl rfl) rfl rfl ?_)
  refine g_step rfl (s_callp rfl rfl rfl (clone_ok x _ hsx) ?_)
  rintro _ rfl
  refine g_step rfl (s_store_all ty32 rfl rfl rfl rfl rfl rfl ?_)
  refine g_step rfl (s_val (v_assign rfl) rfl rfl ?_)
  refine g_nil ?_
  refine g_next hK5 ?_
  refine g_ret ?_
  refine g_end2 (.inl rfl) Try.results26 (.agg ty32 rfl rfl rfl rfl rfl) (.tmp rfl) [] (ASub.refl _) (AHeap.sub_set (AHeap.sub_refl _) hr3) (fun p hp => by cases hp) ⟨rfl, ?_⟩
  first | (rw [rfind_some hx]; done) | (rw [rfind_some hx]; rfl)

theorem recCopyO_ok (l : List Rc) (G : AHeap) (va : AV) (hva : va.view G = some (l.map encR)) (hl : l.length ≤ 1000000) (hll : ∀ x ∈ l, Small x.bag) : LCalls Try.prog 23 [va] G noD (fun n r effs => OwnR n 7 r (l.map encR) effs) := by
 refine LCalls.intro 19 fi23 rfl Try.ntmps23 rfl (fun _ h => h.elim) (fun H hH w0 hw0 => ?_)
 have hva := view_sub hH hva
 refine g_seq (fun K0 hK0 => ?_)
 refine g_region ?_
 refine g_step rfl (s_val (v_assign rfl) rfl rfl ?_)
 refine g_nil ?_
 refine g_next hK0 ?_
 refine g_seq (fun K1 hK1 => ?_)
 refine g_region ?_
 refine g_step rfl (s_val (v_assign rfl) rfl rfl ?_)
 refine g_nil ?_
 refine g_next hK1 ?_
 refine g_seq (fun K2 hK2 => ?_)
 refine g_seq (fun K3 hK3 => ?_)
 refine g_region ?_
 refine g_step rfl (s_val (v_move rfl) rfl rfl ?_)
 refine g_step rfl (s_val (v_len ty22 rfl (by first | rfl | assumption) (by first | exact List.length_map .. | rfl)) rfl rfl ?_)
 refine g_step rfl (s_val (v_move rfl) rfl rfl ?_)
 refine g_nil ?_
 refine g_next hK3 ?_
 refine g_block ?_
 first | refine g_keep [3, 6, 7, 8] [] [] (keep_cons rfl (keep_cons rfl (keep_cons rfl (keep_cons rfl keep_nil)))) lkeep_nil keep_nil rfl ?_ | refine g_keep [3, 6, 7, 8] [] [] rfl rfl rfl rfl ?_
 refine g_loop (fun n env L B G => ∃ (k : Nat) (av : AV), k ≤ l.length ∧ n = l.length - k ∧ env = [(3, av), (6, va), (7, .int .i64 (l.length : Int)), (8, .int .i64 (k : Int))] ∧ L = [] ∧ B = [] ∧ Own w0.heap.size 7 H av ((l.take k).map encR) G) (l.length) ⟨0, .nil0, Nat.zero_le _, rfl, rfl, rfl, rfl, Own.nil ..⟩ (fun n env L B G hI => ?_)
 obtain ⟨k, av, hk, rfl, rfl, rfl, rfl, hown⟩ := hI
 have hva2 : va.view G = some (l.map encR) := view_sub hown.sub hva
 refine g_seq (fun K4 hK4 => ?_)
 refine g_region ?_
 refine g_step rfl (s_val (v_lss rfl rfl) rfl rfl ?_)
 refine g_nil ?_
 refine g_next hK4 ?_
 refine g_seq (fun K5 hK5 => ?_)
 refine g_cond rfl (fun hc9 => ?_) (fun hc9 => ?_)
 ·
  try simp only [NM] at hc9
  obtain ⟨x, hx⟩ := get_some (l := l) (k := k) (by omega)
  have hsx := hll x (mem_get hx)
  refine g_skip ?_
  refine g_next hK5 ?_
  refine g_seq (fun K6 hK6 => ?_)
  refine g_block ?_
  refine g_seq (fun K7 hK7 => ?_)
  refine g_region ?_
  refine g_step rfl (s_val (v_indexAddr ty22 ty32 rfl rfl hva2 (by first | rfl | exact (rfl : (0 : Int) = ((0 : Nat) : Int)) | exact (Int.toNat_of_nonneg (by omega)).symm) (by first | assumption | exact map_get (by assumption) | rfl) rfl) rfl rfl ?_)
  refine g_step rfl (s_val (by first | exact v_load_elt ty32 rfl rfl hva2 (by first | assumption | exact map_get (by assumption) | rfl) rfl rfl | exact v_load_box_all ty32 rfl rfl (by assumption) rfl rfl | exact v_load_part (cs := [_, _, _, _, _, _, _]) ty32 rfl rfl hva2 (by first | assumption | exact map_get (by assumption) | rfl) rfl rfl rfl | exact v_load_box_part (cs := [_, _, _, _, _, _, _]) ty32 rfl rfl (by assumption) rfl rfl rfl) rfl rfl ?_)
  refine g_step rfl (s_alloc (av := (.agg [(.int .i64 0), (.int .i64 0), (.int .i64 0), (.int .i64 0), (.int .i64 0), (.bool false), .nil0])) ty32 rfl rfl rfl rfl ?_)
  refine g_step rfl (s_store_all ty32 rfl rfl rfl rfl rfl rfl ?_)
  refine g_nil ?_
  refine g_next hK7 ?_
  refine g_region ?_
  refine g_step rfl (s_val (v_move rfl) rfl rfl ?_)
  refine g_step rfl (s_val (by first | exact v_loadl_all ty32 rfl rfl rfl rfl rfl | exact v_loadl_part (cs := [_, _, _, _, _, _, _]) ty32 rfl rfl rfl rfl rfl rfl) rfl rfl ?_)
  refine g_step rfl (s_callp rfl rfl rfl (clone_ok x _ hsx) ?_)
  rintro _ rfl
  refine g_step rfl (s_lit ty22 ty32 rfl rfl rfl rfl rfl rfl rfl ?_)
  refine g_step rfl (s_append (l := ((l.take k).map encR)) (m := ([x].map encR)) ty22 ty32 rfl rfl hown rfl rfl (by refine Even.map _ ?_ _; intro _; rfl) (by intro x hx; obtain ⟨_, _, rfl⟩ := List.mem_map.1 hx; rfl) rfl (by simp; omega) (by simp; omega) ?_)
  intro av16 G16 hown16
  refine g_step rfl (s_val (v_assign rfl) rfl rfl ?_)
  refine g_nil ?_
  refine g_block_normal ?_
  refine g_next hK6 ?_
  refine g_region ?_
  refine g_step rfl (s_val (v_add rfl rfl (by omega)) rfl rfl ?_)
  refine g_step rfl (s_val (v_move rfl) rfl rfl ?_)
  refine g_nil ?_
  first | refine g_keep [3, 6, 7, 8] [] [] (keep_cons rfl (keep_cons rfl (keep_cons rfl (keep_cons rfl keep_nil)))) lkeep_nil keep_nil rfl ?_ | refine g_keep [3, 6, 7, 8] [] [] rfl rfl rfl rfl ?_
  exact g_round _ (by omega) ⟨k + 1, av16, by omega, rfl, rfl, rfl, rfl, by rw [List.take_add_one, hx, List.map_append]; exact hown16⟩
 ·
  try simp only [NM] at hc9
  obtain rfl : k = l.length := by omega
  rw [List.take_length] at hown
  obtain ⟨e, he1, he2, he3⟩ := hown.effs
  refine g_exit ?_
  refine g_then_exit ?_
  refine g_then_exit ?_
  refine g_block_same ?_
  refine g_next hK2 ?_
  refine g_seq (fun K8 hK8 => ?_)
  refine g_region ?_
  refine g_step rfl (s_val (v_move rfl) rfl rfl ?_)
  refine g_step rfl (s_val (v_assign rfl) rfl rfl ?_)
  refine g_nil ?_
  refine g_next hK8 ?_
  refine g_ret ?_
  refine g_end1 (.inl rfl) Try.results23 (.tmp rfl) e (ASub.refl _) (by rw [he3]; exact AHeap.sub_refl _) (fun q hq => .inr (he2 q hq)) he1

theorem recCopy_ok (l : List Rc) (G : AHeap) (va : AV) (hva : va.view G = some (l.map encR)) (hl : l.length ≤ 1000000) (hll : ∀ x ∈ l, Small x.bag) : PCalls Try.prog 23 [va] G (fun r => r = encRs l) := LCalls.freeze (recCopyO_ok l G va hva hl hll)
theorem put_ok (l : List Rc) (r : Rc) (G : AHeap) (va : AV) (hva : va.view G = some (l.map encR)) (hl : l.length ≤ 1000000) (hll : ∀ x ∈ l, Small x.bag) (hr : Small r.bag) : PCalls Try.prog 28 [va, encR r] G (fun v => v = encRs (rput l r)) := by
 refine LCalls.intro 44 fi28 rfl Try.ntmps28 rfl (fun _ h => h.elim) (fun H hH w0 hw0 => ?_)
 have hva := view_sub hH hva
 refine g_seq (fun K0 hK0 => ?_)
 refine g_region ?_
 refine g_step rfl (s_box rfl rfl rfl rfl ?_)
 refine g_step rfl (s_val (v_assign rfl) rfl rfl ?_)
 refine g_nil ?_
 refine g_next hK0 ?_
 refine g_seq (fun K1 hK1 => ?_)
 refine g_region ?_
 refine g_expose 3 rfl rfl (fun r3 hr3 hw3 => ?_)
 refine g_step rfl (s_val (v_move rfl) rfl rfl ?_)
 refine g_step rfl (s_call rfl rfl rfl (recCopyO_ok l _ va (view_sub (AHeap.sub_set (AHeap.sub_refl _) hr3) hva) hl hll) (fun _ h => h.elim) ?_)
 rintro n1 av effs1 hn1 hdom1 hR1 hok1
 have hown := hR1.own (n0 := w0.heap.size) hn1 hdom1
 generalize setAll (AHeap.set H r3 (.box (encR r))) effs1 = G1 at hown ⊢
 have hb := hown.sub _ _ (AHeap.get_set H r3 (.box (encR r)))
 have hva2 : va.view G1 = some (l.map encR) := view_sub hown.sub (view_sub (AHeap.sub_set (AHeap.sub_refl _) hr3) hva)
 have hov := hown.view
 refine g_step rfl (s_val (v_assign rfl) rfl rfl ?_)
 refine g_nil ?_
 refine g_next hK1 ?_
 refine g_seq (fun K2 hK2 => ?_)
 refine g_seq (fun K3 hK3 => ?_)
 refine g_region ?_
 refine g_step rfl (s_val (v_move rfl) rfl rfl ?_)
 refine g_step rfl (s_val (v_makeFunc rfl) rfl rfl ?_)
 refine g_step rfl (s_callp rfl rfl rfl (where_ok l 66 [.box r3 0] (fun x => decide (x.id = r.id)) _ va hva2 hl (fun x hx H' h' => put1_ok r3 r x H' (h' _ _ hb))) ?_)
 rintro _ rfl
 refine g_step rfl (s_val (v_assign rfl) rfl rfl ?_)
 refine g_nil ?_
 refine g_next hK3 ?_
 refine g_seq (fun K4 hK4 => ?_)
 refine g_region ?_
 refine g_step rfl (s_val (v_move rfl) rfl rfl ?_)
 refine g_step rfl (s_val (v_move rfl) rfl rfl ?_)
 refine g_step rfl (s_val (v_len ty22 rfl hva2 (by first | exact List.length_map .. | rfl)) rfl rfl ?_)
 refine g_step rfl (s_val (v_lss rfl rfl) rfl rfl ?_)
 refine g_nil ?_
 refine g_next hK4 ?_
 refine g_cond rfl (fun hc16 => ?_) (fun hc16 => ?_)
 ·
  try simp only [NM] at hc16
  obtain ⟨x, hx⟩ := get_some (l := l) (k := idx (fun x => decide (x.id = r.id)) l) (by omega)
  refine g_seq (fun K5 hK5 => ?_)
  refine g_region ?_
  refine g_step rfl (s_val (v_move rfl) rfl rfl ?_)
  refine g_step rfl (s_val (v_move rfl) rfl rfl ?_)
  refine g_step rfl (s_val (by first | exact v_load_elt ty32 rfl rfl (by first | rfl | assumption) (by first | assumption | exact map_get (by assumption) | rfl) rfl rfl | exact v_load_box_all ty32 rfl rfl (by assumption) rfl rfl | exact v_load_part (cs := [_, _, _, _, _, _, _]) ty32 rfl rfl (by first | rfl | assumption) (by first | assumption | exact map_get (by assumption) | rfl) rfl rfl rfl | exact v_load_box_part (cs := [_, _, _, _, _, _, _]) ty32 rfl rfl (by assumption) rfl rfl rfl) rfl rfl ?_)
  refine g_step rfl (s_callp rfl rfl rfl (clone_ok r _ hr) ?_)
  rintro _ rfl
  refine g_step rfl (s_val (v_indexAddr ty22 ty32 rfl rfl hov (by first | rfl | exact (rfl : (0 : Int) = ((0 : Nat) : Int)) | exact (Int.toNat_of_nonneg (by omega)).symm) (by first | assumption | exact map_get (by assumption) | rfl) rfl) rfl rfl ?_)
  refine g_step rfl (s_store_own (k := idx (fun x => decide (x.id = r.id)) l) (off := 0) (old := encR x) (new := encR r) ty32 rfl rfl hown (map_get hx) rfl rfl rfl rfl ?_)
  intro G21 hown21
  rw [← List.map_set] at hown21
  refine g_nil ?_
  refine g_next hK5 ?_
  refine g_seq (fun K6 hK6 => ?_)
  refine g_region ?_
  refine g_step rfl (s_val (v_move rfl) rfl rfl ?_)
  refine g_freeze 22 rfl hown21 ?_
  refine g_step rfl (s_val (v_assign rfl) rfl rfl ?_)
  refine g_nil ?_
  refine g_next hK6 ?_
  refine g_ret ?_
  refine g_then_ret ?_
  refine g_end1 (.inl rfl) Try.results28 (.tmp rfl) [] (ASub.refl _) (AHeap.sub_set (AHeap.sub_refl _) hr3) (fun p hp => by cases hp) ⟨rfl, ?_⟩
  first | (rw [rput_hit (by omega)]; rfl; done) | (rw [rput_hit (by omega)]; rfl; rfl)
 ·
  try simp only [NM] at hc16
  refine g_skip ?_
  refine g_next hK2 ?_
  refine g_seq (fun K7 hK7 => ?_)
  refine g_region ?_
  refine g_step rfl (s_val (v_move rfl) rfl rfl ?_)
  refine g_step rfl (s_val (v_makeFunc rfl) rfl rfl ?_)
  refine g_step rfl (s_callp rfl rfl rfl (where_ok l 67 [.box r3 0] (fun x => decide (r.id < x.id)) _ va hva2 hl (fun x hx H' h' => put2_ok r3 r x H' (h' _ _ hb))) ?_)
  rintro _ rfl
  refine g_step rfl (s_val (v_assign rfl) rfl rfl ?_)
  refine g_nil ?_
  refine g_next hK7 ?_
  refine g_seq (fun K8 hK8 => ?_)
  refine g_region ?_
  have hil := idx_le (fun x => decide (r.id < x.id)) l
  refine g_step rfl (s_val (v_move rfl) rfl rfl ?_)
  refine g_step rfl (s_val (v_sub (b := (encR rzero)) (v_build (vs := []) (zs := [(.int .i64 0), (.int .i64 0), (.int .i64 0), (.int .i64 0), (.int .i64 0), (.bool false), .nil0]) (cells := [_, _, _, _, _, _, _]) ty32 pl32 rfl rfl rfl) (ASub.of_wk rfl)) rfl rfl ?_)
  refine g_step rfl (s_lit ty22 ty32 rfl rfl rfl rfl rfl rfl rfl ?_)
  refine g_step rfl (s_append (l := (l.map encR)) (m := ([rzero].map encR)) ty22 ty32 rfl rfl hown rfl rfl (by refine Even.map _ ?_ _; intro _; rfl) (by intro x hx; obtain ⟨_, _, rfl⟩ := List.mem_map.1 hx; rfl) rfl (by simp; omega) (by simp; omega) ?_)
  intro av29 G29 hown29
  rw [← List.map_append] at hown29
  obtain ⟨p, hp1, hp2, rfl, rfl⟩ := hown29.resolve_left (by rintro ⟨_, h0, _⟩; simp at h0)
  rcases Nat.lt_or_ge (idx (fun x => decide (r.id < x.id)) l) l.length with hi | hi
  ·
   refine g_step rfl (s_val (v_assign rfl) rfl rfl ?_)
   refine g_nil ?_
   refine g_next hK8 ?_
   refine g_seq (fun K9 hK9 => ?_)
   refine g_draw (n := 8) (fun j => !([7] : List Nat).contains j) rfl rfl ?_
   refine m_tk 0 false rfl rfl (by kernel_rfl) (v_move rfl) rfl rfl ?_
   refine m_tk 1 false rfl rfl (by kernel_rfl) (v_move rfl) rfl rfl ?_
   refine m_tk 2 false rfl rfl (by kernel_rfl) (v_add rfl rfl (by omega)) rfl rfl ?_
   refine m_tk 3 false rfl rfl (by kernel_rfl) (v_slice_own (lo := ((idx (fun x => decide (r.id < x.id)) l) + 1)) (hi := (l.length + 1)) ty22 ty32 rfl rfl rfl (by simp) (by simp) (by omega) (by simp) (.inr (by simp; omega))) rfl rfl ?_
   refine m_tk 4 false rfl rfl (by kernel_rfl) (v_move rfl) rfl rfl ?_
   refine m_tk 5 false rfl rfl (by kernel_rfl) (v_move rfl) rfl rfl ?_
   refine m_tk 6 false rfl rfl (by kernel_rfl) (v_slice_own (lo := (idx (fun x => decide (r.id < x.id)) l)) (hi := (l.length + 1)) ty22 ty32 rfl rfl rfl rfl (by simp) (by omega) (by simp) (.inr (by simp; omega))) rfl rfl ?_
   refine m_one 7 (by kernel_rfl) rfl rfl ?_
   refine sm_any rfl (s_copy (l := ((l ++ [rzero]).map encR)) (m := (((l ++ [rzero]).drop (idx (fun x => decide (r.id < x.id)) l)).map encR)) (l' := (((l ++ [rzero]).take ((idx (fun x => decide (r.id < x.id)) l) + 1) ++ ((l ++ [rzero]).drop (idx (fun x => decide (r.id < x.id)) l)).take (l.length - (idx (fun x => decide (r.id < x.id)) l)) ++ (l ++ [rzero]).drop (l.length + 1)).map encR)) (k := (l.length - (idx (fun x => decide (r.id < x.id)) l))) ty22 ty32 rfl rfl (AHeap.get_set _ _ _) (by simp; omega) rfl (by rw [AV.view_own (AHeap.get_set _ _ _) (by simp; omega)]; congr 1; rw [Nat.zero_add, List.map_drop, List.take_of_length_le (by simp)]) (by refine Even.map _ ?_ _; intro _; rfl) (by intro x hx; obtain ⟨_, _, rfl⟩ := List.mem_map.1 hx; rfl) (.inr hp2) (by simp; omega) (by rw [Nat.zero_add, show (idx (fun x => decide (r.id < x.id)) l) + 1 + (l.length - (idx (fun x => decide (r.id < x.id)) l)) = l.length + 1 by omega]; simp only [List.map_append, List.map_take, List.map_drop]) ?_)
   rw [AHeap.set_set]
   obtain ⟨w, hw⟩ := get_some (l := ((l ++ [rzero]).take ((idx (fun x => decide (r.id < x.id)) l) + 1) ++ ((l ++ [rzero]).drop (idx (fun x => decide (r.id < x.id)) l)).take (l.length - (idx (fun x => decide (r.id < x.id)) l)) ++ (l ++ [rzero]).drop (l.length + 1))) (k := (idx (fun x => decide (r.id < x.id)) l)) (by simp; omega)
   have hown8 : Own w0.heap.size 7 (H.set r3 (.box (encR r))) (.own p 7 0 (List.map encR (l ++ [rzero])).length) (((l ++ [rzero]).take ((idx (fun x => decide (r.id < x.id)) l) + 1) ++ ((l ++ [rzero]).drop (idx (fun x => decide (r.id < x.id)) l)).take (l.length - (idx (fun x => decide (r.id < x.id)) l)) ++ (l ++ [rzero]).drop (l.length + 1)).map encR) _ := .inr ⟨p, hp1, hp2, by congr 1; simp; omega, rfl⟩
   have hb8 := hown8.sub _ _ (AHeap.get_set H r3 (.box (encR r)))
   refine m_done (by kernel_rfl) ?_
   refine g_next hK9 ?_
   first | refine g_keep [3, 5, 7] [] [] (keep_cons rfl (keep_cons rfl (keep_cons rfl keep_nil))) lkeep_nil keep_nil rfl ?_ | refine g_keep [3, 5, 7] [] [] rfl rfl rfl rfl ?_
   refine g_seq (fun K10 hK10 => ?_)
   refine g_region ?_
   refine g_step rfl (s_val (v_move rfl) rfl rfl ?_)
   refine g_step rfl (s_val (v_move rfl) rfl rfl ?_)
   skip
   refine g_step rfl (s_val (by first | exact v_load_elt ty32 rfl rfl (by first | rfl | assumption) (by first | assumption | exact map_get (by assumption) | rfl) rfl rfl | exact v_load_box_all ty32 rfl rfl (by assumption) rfl rfl | exact v_load_part (cs := [_, _, _, _, _, _, _]) ty32 rfl rfl (by first | rfl | assumption) (by first | assumption | exact map_get (by assumption) | rfl) rfl rfl rfl | exact v_load_box_part (cs := [_, _, _, _, _, _, _]) ty32 rfl rfl (by assumption) rfl rfl rfl) rfl rfl ?_)
   refine g_step rfl (s_callp rfl rfl rfl (clone_ok r _ hr) ?_)
   rintro _ rfl
   refine g_step rfl (s_val (v_indexAddr ty22 ty32 rfl rfl hown8.view (by first | rfl | exact (rfl : (0 : Int) = ((0 : Nat) : Int)) | exact (Int.toNat_of_nonneg (by omega)).symm) (map_get hw) rfl) rfl rfl ?_)
   refine g_step rfl (s_store_own (k := (idx (fun x => decide (r.id < x.id)) l)) (off := 0) (old := encR w) (new := encR r) ty32 rfl rfl hown8 (map_get hw) rfl rfl rfl rfl ?_)
   intro G42 hown42
   rw [← List.map_set, ins_eq l rzero r _ hil] at hown42
   refine g_nil ?_
   refine g_next hK10 ?_
   refine g_seq (fun K11 hK11 => ?_)
   refine g_region ?_
   refine g_step rfl (s_val (v_move rfl) rfl rfl ?_)
   refine g_freeze 43 rfl hown42 ?_
   refine g_step rfl (s_val (v_assign rfl) rfl rfl ?_)
   refine g_nil ?_
   refine g_next hK11 ?_
   refine g_ret ?_
   refine g_end1 (.inl rfl) Try.results28 (.tmp rfl) [] (ASub.refl _) (AHeap.sub_set (AHeap.sub_refl _) hr3) (fun p hp => by cases hp) ⟨rfl, ?_⟩
   first | (rw [rput_miss (by omega)]; rfl; done) | (rw [rput_miss (by omega)]; rfl; rfl)
  ·
   refine g_step rfl (s_val (v_assign rfl) rfl rfl ?_)
   refine g_nil ?_
   refine g_next hK8 ?_
   refine g_seq (fun K12 hK12 => ?_)
   refine g_draw (n := 8) (fun j => !([7] : List Nat).contains j) rfl rfl ?_
   refine m_tk 0 false rfl rfl (by kernel_rfl) (v_move rfl) rfl rfl ?_
   refine m_tk 1 false rfl rfl (by kernel_rfl) (v_move rfl) rfl rfl ?_
   refine m_tk 2 false rfl rfl (by kernel_rfl) (v_add rfl rfl (by omega)) rfl rfl ?_
   refine m_tk 3 false rfl rfl (by kernel_rfl) (v_slice_empty (lo := l.length + 1) ty22 ty32 rfl rfl rfl (by simp; omega) (by simp) (by simp)) rfl rfl ?_
   refine m_tk 4 false rfl rfl (by kernel_rfl) (v_move rfl) rfl rfl ?_
   refine m_tk 5 false rfl rfl (by kernel_rfl) (v_move rfl) rfl rfl ?_
   refine m_tk 6 false rfl rfl (by kernel_rfl) (v_slice_own (lo := (idx (fun x => decide (r.id < x.id)) l)) (hi := (l.length + 1)) ty22 ty32 rfl rfl rfl rfl (by simp) (by omega) (by simp) (.inr (by simp; omega))) rfl rfl ?_
   refine m_one 7 (by kernel_rfl) rfl rfl ?_
   refine sm_any rfl (s_copy_nil (m := (((l ++ [rzero]).drop (idx (fun x => decide (r.id < x.id)) l)).map encR)) ty22 ty32 rfl rfl rfl (by rw [AV.view_own (AHeap.get_set _ _ _) (by simp; omega)]; congr 1; rw [Nat.zero_add, List.map_drop, List.take_of_length_le (by simp)]) (by refine Even.map _ ?_ _; intro _; rfl) ?_)
   refine m_done (by kernel_rfl) ?_
   refine g_next hK12 ?_
   first | refine g_keep [3, 5, 7] [] [] (keep_cons rfl (keep_cons rfl (keep_cons rfl keep_nil))) lkeep_nil keep_nil rfl ?_ | refine g_keep [3, 5, 7] [] [] rfl rfl rfl rfl ?_
   refine g_seq (fun K13 hK13 => ?_)
   refine g_region ?_
   have hie : (idx (fun x => decide (r.id < x.id)) l) = l.length := by omega
   have hown8 : Own w0.heap.size 7 (H.set r3 (.box (encR r))) (.own p 7 0 (List.map encR (l ++ [rzero])).length) ((l ++ [rzero]).map encR) _ := .inr ⟨p, hp1, hp2, rfl, rfl⟩
   have hb8 := hown8.sub _ _ (AHeap.get_set H r3 (.box (encR r)))
   obtain ⟨w, hw⟩ := get_some (l := (l ++ [rzero])) (k := (idx (fun x => decide (r.id < x.id)) l)) (by simp; omega)
   refine g_step rfl (s_val (v_move rfl) rfl rfl ?_)
   refine g_step rfl (s_val (v_move rfl) rfl rfl ?_)
   refine g_step rfl (s_val (by first | exact v_load_elt ty32 rfl rfl (by first | rfl | assumption) (by first | assumption | exact map_get (by assumption) | rfl) rfl rfl | exact v_load_box_all ty32 rfl rfl (by assumption) rfl rfl | exact v_load_part (cs := [_, _, _, _, _, _, _]) ty32 rfl rfl (by first | rfl | assumption) (by first | assumption | exact map_get (by assumption) | rfl) rfl rfl rfl | exact v_load_box_part (cs := [_, _, _, _, _, _, _]) ty32 rfl rfl (by assumption) rfl rfl rfl) rfl rfl ?_)
   refine g_step rfl (s_callp rfl rfl rfl (clone_ok r _ hr) ?_)
   rintro _ rfl
   refine g_step rfl (s_val (v_indexAddr ty22 ty32 rfl rfl hown8.view (by first | rfl | exact (rfl : (0 : Int) = ((0 : Nat) : Int)) | exact (Int.toNat_of_nonneg (by omega)).symm) (map_get hw) rfl) rfl rfl ?_)
   refine g_step rfl (s_store_own (k := (idx (fun x => decide (r.id < x.id)) l)) (off := 0) (old := encR w) (new := encR r) ty32 rfl rfl hown8 (map_get hw) rfl rfl rfl rfl ?_)
   intro G42 hown42
   rw [← List.map_set, hie, ins_end, ← hie] at hown42
   refine g_nil ?_
   refine g_next hK13 ?_
   refine g_seq (fun K14 hK14 => ?_)
   refine g_region ?_
   refine g_step rfl (s_val (v_move rfl) rfl rfl ?_)
   refine g_freeze 43 rfl hown42 ?_
   refine g_step rfl (s_val (v_assign rfl) rfl rfl ?_)
   refine g_nil ?_
   refine g_next hK14 ?_
   refine g_ret ?_
   refine g_end1 (.inl rfl) Try.results28 (.tmp rfl) [] (ASub.refl _) (AHeap.sub_set (AHeap.sub_refl _) hr3) (fun p hp => by cases hp) ⟨rfl, ?_⟩
   first | (rw [rput_miss (by omega)]; rfl; done) | (rw [rput_miss (by omega)]; rfl; rfl)

end Go.Proofs.Ytgedefcjngofkaa

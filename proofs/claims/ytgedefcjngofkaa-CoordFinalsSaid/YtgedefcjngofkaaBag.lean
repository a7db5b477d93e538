import Derived.Test.YtgedefcjngofkaaFacts
import Derived.Test.YtgedefcjngofkaaPBag
import Derived.Test.YtgedefcjngofkaaAmB
set_option maxHeartbeats 8000000
set_option linter.unusedSimpArgs false
set_option linter.unusedVariables false
set_option maxRecDepth 100000
namespace Go.Proofs.Ytgedefcjngofkaa
open Go Go.Proofs.Ytgedefcjngofkaa.AM
theorem isNaN_ok (x : Int) (G : AHeap) : PCalls Try.prog 122 [.int .u8 x] G (fun r => r = .bool false) := by
 refine LCalls.intro 6 fi122 rfl Try.ntmps122 rfl (fun _ h => h.elim) (fun H hH w0 hw0 => ?_)
 refine g_seq (fun K0 hK0 => ?_)
 refine g_region ?_
 refine g_step rfl (s_val (v_assign rfl) rfl rfl ?_)
 refine g_nil ?_
 refine g_next hK0 ?_
 refine g_seq (fun K1 hK1 => ?_)
 refine g_region ?_
 refine g_step rfl (s_val (v_move rfl) rfl rfl ?_)
 refine g_step rfl (s_val (v_move rfl) rfl rfl ?_)
 refine g_step rfl (s_val (v_neq rfl rfl) rfl rfl ?_)
 refine g_step rfl (s_val (v_assign rfl) rfl rfl ?_)
 refine g_nil ?_
 refine g_next hK1 ?_
 refine g_ret ?_
 refine g_end1 (.inl rfl) Try.results122 (.tmp rfl) [] (ASub.refl _) (AHeap.sub_refl _) (fun p hp => by cases hp) ⟨rfl, ?_⟩
 first | (simp; done) | (simp; rfl)

theorem cmpCompare_ok (x y : Int) (G : AHeap) : PCalls Try.prog 113 [.int .u8 x, .int .u8 y] G (fun r => r = .int .i64 (cmpI x y)) := by
 refine LCalls.intro 20 fi113 rfl Try.ntmps113 rfl (fun _ h => h.elim) (fun H hH w0 hw0 => ?_)
 refine g_seq (fun K0 hK0 => ?_)
 refine g_region ?_
 refine g_step rfl (s_val (v_assign rfl) rfl rfl ?_)
 refine g_nil ?_
 refine g_next hK0 ?_
 refine g_seq (fun K1 hK1 => ?_)
 refine g_region ?_
 refine g_step rfl (s_val (v_move rfl) rfl rfl ?_)
 refine g_step rfl (s_callp rfl rfl rfl (isNaN_ok _ _) ?_)
 rintro _ rfl
 refine g_step rfl (s_val (v_assign rfl) rfl rfl ?_)
 refine g_nil ?_
 refine g_next hK1 ?_
 refine g_seq (fun K2 hK2 => ?_)
 refine g_region ?_
 refine g_step rfl (s_val (v_move rfl) rfl rfl ?_)
 refine g_step rfl (s_callp rfl rfl rfl (isNaN_ok _ _) ?_)
 rintro _ rfl
 refine g_step rfl (s_val (v_assign rfl) rfl rfl ?_)
 refine g_nil ?_
 refine g_next hK2 ?_
 refine g_seq (fun K3 hK3 => ?_)
 refine g_seq (fun K4 hK4 => ?_)
 refine g_region ?_
 refine g_step rfl (s_val (v_move rfl) rfl rfl ?_)
 refine g_nil ?_
 refine g_next hK4 ?_
 refine g_cond rfl (fun hc11 => ?_) (fun hc11 => ?_)
 · exfalso; (try simp only [NM] at hc11); cases hc11
 ·
  try simp only [NM] at hc11
  refine g_skip ?_
  refine g_next hK3 ?_
  refine g_seq (fun K5 hK5 => ?_)
  refine g_seq (fun K6 hK6 => ?_)
  refine g_region ?_
  refine g_step rfl (s_val (v_move rfl) rfl rfl ?_)
  refine g_nil ?_
  refine g_next hK6 ?_
  refine g_cond rfl (fun hc13 => ?_) (fun hc13 => ?_)
  · exfalso; (try simp only [NM] at hc13); cases hc13
  ·
   try simp only [NM] at hc13
   refine g_skip ?_
   refine g_next hK5 ?_
   refine g_seq (fun K7 hK7 => ?_)
   refine g_seq (fun K8 hK8 => ?_)
   refine g_region ?_
   refine g_step rfl (s_val (v_move rfl) rfl rfl ?_)
   refine g_step rfl (s_val (v_move rfl) rfl rfl ?_)
   refine g_step rfl (s_val (v_lss rfl rfl) rfl rfl ?_)
   refine g_nil ?_
   refine g_next hK8 ?_
   refine g_cond rfl (fun hc16 => ?_) (fun hc16 => ?_)
   ·
    try simp only [NM] at hc16
    refine g_seq (fun K9 hK9 => ?_)
    refine g_region ?_
    refine g_step rfl (s_val (v_assign rfl) rfl rfl ?_)
    refine g_nil ?_
    refine g_next hK9 ?_
    refine g_ret ?_
    refine g_then_ret ?_
    refine g_end1 (.inl rfl) Try.results113 (.tmp rfl) [] (ASub.refl _) (AHeap.sub_refl _) (fun p hp => by cases hp) ⟨rfl, ?_⟩
    first | (simp [cmpI, hc16]; done) | (simp [cmpI, hc16]; rfl)
   ·
    try simp only [NM] at hc16
    refine g_skip ?_
    refine g_next hK7 ?_
    refine g_seq (fun K10 hK10 => ?_)
    refine g_seq (fun K11 hK11 => ?_)
    refine g_region ?_
    refine g_step rfl (s_val (v_move rfl) rfl rfl ?_)
    refine g_step rfl (s_val (v_move rfl) rfl rfl ?_)
    refine g_step rfl (s_val (v_gtr rfl rfl) rfl rfl ?_)
    refine g_nil ?_
    refine g_next hK11 ?_
    refine g_cond rfl (fun hc19 => ?_) (fun hc19 => ?_)
    ·
     try simp only [NM] at hc19
     refine g_seq (fun K12 hK12 => ?_)
     refine g_region ?_
     refine g_step rfl (s_val (v_assign rfl) rfl rfl ?_)
     refine g_nil ?_
     refine g_next hK12 ?_
     refine g_ret ?_
     refine g_then_ret ?_
     refine g_end1 (.inl rfl) Try.results113 (.tmp rfl) [] (ASub.refl _) (AHeap.sub_refl _) (fun p hp => by cases hp) ⟨rfl, ?_⟩
     first | (simp [cmpI, hc19]; omega; done) | (simp [cmpI, hc19]; omega; rfl)
    ·
     try simp only [NM] at hc19
     refine g_skip ?_
     refine g_next hK10 ?_
     refine g_seq (fun K13 hK13 => ?_)
     refine g_region ?_
     refine g_step rfl (s_val (v_assign rfl) rfl rfl ?_)
     refine g_nil ?_
     refine g_next hK13 ?_
     refine g_ret ?_
     refine g_end1 (.inl rfl) Try.results113 (.tmp rfl) [] (ASub.refl _) (AHeap.sub_refl _) (fun p hp => by cases hp) ⟨rfl, ?_⟩
     first | (simp [cmpI]; omega; done) | (simp [cmpI]; omega; rfl)

theorem cmpBytes_ok (a b : List Int) (G : AHeap) (va : AV) (hva : va.view G = some (a.map (.int .u8))) (vb : AV) (hvb : vb.view G = some (b.map (.int .u8))) (hl : a.length ≤ 1000000) : PCalls Try.prog 109 [va, vb] G (fun r => r = .int .i64 (cmpB a b)) := by
 refine LCalls.intro 36 fi109 rfl Try.ntmps109 rfl (fun _ h => h.elim) (fun H hH w0 hw0 => ?_)
 have hva := view_sub hH hva
 have hvb := view_sub hH hvb
 refine g_seq (fun K0 hK0 => ?_)
 refine g_region ?_
 refine g_step rfl (s_val (v_assign rfl) rfl rfl ?_)
 refine g_nil ?_
 refine g_next hK0 ?_
 refine g_seq (fun K1 hK1 => ?_)
 refine g_seq (fun K2 hK2 => ?_)
 refine g_region ?_
 refine g_step rfl (s_val (v_move rfl) rfl rfl ?_)
 refine g_step rfl (s_val (v_len ty129 rfl hva (by first | exact List.length_map .. | rfl)) rfl rfl ?_)
 refine g_step rfl (s_val (v_move rfl) rfl rfl ?_)
 refine g_nil ?_
 refine g_next hK2 ?_
 refine g_block ?_
 first | refine g_keep [0, 1, 9, 10, 11] [] [] (keep_cons rfl (keep_cons rfl (keep_cons rfl (keep_cons rfl (keep_cons rfl keep_nil))))) lkeep_nil keep_nil rfl ?_ | refine g_keep [0, 1, 9, 10, 11] [] [] rfl rfl rfl rfl ?_
 refine g_loop (fun n env L B G => ∃ k : Nat, k ≤ a.length ∧ k ≤ b.length ∧ n = a.length - k ∧ env = [(0, va), (1, vb), (9, va), (10, .int .i64 (a.length : Int)), (11, .int .i64 (k : Int))] ∧ L = [] ∧ B = [] ∧ G = H ∧ cmpB (a.drop k) (b.drop k) = cmpB a b) a.length ⟨0, by omega, by omega, rfl, rfl, rfl, rfl, rfl, rfl⟩ (fun n env L B G hI => ?_)
 obtain ⟨k, hk, hkb, rfl, rfl, rfl, rfl, rfl, hc⟩ := hI
 refine g_seq (fun K3 hK3 => ?_)
 refine g_region ?_
 refine g_step rfl (s_val (v_lss rfl rfl) rfl rfl ?_)
 refine g_nil ?_
 refine g_next hK3 ?_
 refine g_seq (fun K4 hK4 => ?_)
 refine g_cond rfl (fun hc12 => ?_) (fun hc12 => ?_)
 ·
  try simp only [NM] at hc12
  obtain ⟨x, hx⟩ := get_some (l := a) (k := k) (by omega)
  refine g_skip ?_
  refine g_next hK4 ?_
  refine g_seq (fun K5 hK5 => ?_)
  refine g_block ?_
  refine g_seq (fun K6 hK6 => ?_)
  refine g_region ?_
  refine g_step rfl (s_val (v_move rfl) rfl rfl ?_)
  refine g_step rfl (s_val (v_indexAddr ty129 ty5 rfl rfl hva (by first | rfl | exact (rfl : (0 : Int) = ((0 : Nat) : Int)) | exact (Int.toNat_of_nonneg (by omega)).symm) (by first | assumption | exact map_get (by assumption) | rfl) rfl) rfl rfl ?_)
  refine g_step rfl (s_val (by first | exact v_load ty5 rfl rfl hva (by first | assumption | exact map_get (by assumption) | rfl) rfl | exact v_load_box ty5 rfl rfl (by assumption) rfl) rfl rfl ?_)
  refine g_step rfl (s_val (v_assign rfl) rfl rfl ?_)
  refine g_step rfl (s_val (v_assign rfl) rfl rfl ?_)
  refine g_nil ?_
  refine g_next hK6 ?_
  refine g_seq (fun K7 hK7 => ?_)
  refine g_seq (fun K8 hK8 => ?_)
  refine g_region ?_
  refine g_step rfl (s_val (v_move rfl) rfl rfl ?_)
  refine g_step rfl (s_val (v_move rfl) rfl rfl ?_)
  refine g_step rfl (s_val (v_len ty129 rfl hvb (by first | exact List.length_map .. | rfl)) rfl rfl ?_)
  refine g_step rfl (s_val (v_geq rfl rfl) rfl rfl ?_)
  refine g_nil ?_
  refine g_next hK8 ?_
  refine g_cond rfl (fun hc19 => ?_) (fun hc19 => ?_)
  ·
   try simp only [NM] at hc19
   rw [drop_cons hx, List.drop_of_length_le (show b.length ≤ k by omega), cmpB] at hc
   refine g_seq (fun K9 hK9 => ?_)
   refine g_region ?_
   refine g_step rfl (s_val (v_assign rfl) rfl rfl ?_)
   refine g_nil ?_
   refine g_next hK9 ?_
   refine g_ret ?_
   refine g_then_ret ?_
   refine g_block_ret ?_
   refine g_then_ret ?_
   refine g_then_ret ?_
   refine g_block_ret ?_
   refine g_then_ret ?_
   refine g_end1 (.inl rfl) Try.results109 (.tmp rfl) [] (ASub.refl _) (AHeap.sub_refl _) (fun p hp => by cases hp) ⟨rfl, ?_⟩
   first | (rw [← hc]; rfl; done) | (rw [← hc]; rfl; rfl)
  ·
   try simp only [NM] at hc19
   obtain ⟨y, hy⟩ := get_some (l := b) (k := k) (by omega)
   refine g_skip ?_
   refine g_next hK7 ?_
   refine g_seq (fun K10 hK10 => ?_)
   refine g_region ?_
   refine g_step rfl (s_val (v_move rfl) rfl rfl ?_)
   refine g_step rfl (s_val (v_move rfl) rfl rfl ?_)
   refine g_step rfl (s_val (v_indexAddr ty129 ty5 rfl rfl hvb (by first | rfl | exact (rfl : (0 : Int) = ((0 : Nat) : Int)) | exact (Int.toNat_of_nonneg (by omega)).symm) (by first | assumption | exact map_get (by assumption) | rfl) rfl) rfl rfl ?_)
   refine g_step rfl (s_val (by first | exact v_load ty5 rfl rfl hvb (by first | assumption | exact map_get (by assumption) | rfl) rfl | exact v_load_box ty5 rfl rfl (by assumption) rfl) rfl rfl ?_)
   refine g_step rfl (s_val (v_assign rfl) rfl rfl ?_)
   refine g_nil ?_
   refine g_next hK10 ?_
   refine g_seq (fun K11 hK11 => ?_)
   refine g_region ?_
   refine g_step rfl (s_val (v_move rfl) rfl rfl ?_)
   refine g_step rfl (s_val (v_move rfl) rfl rfl ?_)
   refine g_step rfl (s_callp rfl rfl rfl (cmpCompare_ok _ _ _) ?_)
   rintro _ rfl
   refine g_step rfl (s_val (v_assign rfl) rfl rfl ?_)
   refine g_nil ?_
   refine g_next hK11 ?_
   refine g_seq (fun K12 hK12 => ?_)
   refine g_region ?_
   refine g_step rfl (s_val (v_move rfl) rfl rfl ?_)
   refine g_step rfl (s_val (v_neq rfl rfl) rfl rfl ?_)
   refine g_nil ?_
   refine g_next hK12 ?_
   first | refine g_keep [0, 1, 8, 9, 10, 11, 28] [] [] (keep_cons rfl (keep_cons rfl (keep_cons rfl (keep_cons rfl (keep_cons rfl (keep_cons rfl (keep_cons rfl keep_nil))))))) lkeep_nil keep_nil rfl ?_ | refine g_keep [0, 1, 8, 9, 10, 11, 28] [] [] rfl rfl rfl rfl ?_
   refine g_cond rfl (fun hc28 => ?_) (fun hc28 => ?_)
   ·
    try simp only [NM] at hc28
    have he : cmpI x y = cmpB a b := by rw [← hc, drop_cons hx, drop_cons hy, cmpB]; rw [cmpI] at hc28 ⊢; split <;> first | rfl | (split <;> first | rfl | (exfalso; rw [if_neg (by assumption), if_neg (by assumption)] at hc28; exact hc28 rfl))
    refine g_seq (fun K13 hK13 => ?_)
    refine g_region ?_
    refine g_step rfl (s_val (v_move rfl) rfl rfl ?_)
    refine g_step rfl (s_val (v_assign rfl) rfl rfl ?_)
    refine g_nil ?_
    refine g_next hK13 ?_
    refine g_ret ?_
    refine g_block_ret ?_
    refine g_then_ret ?_
    refine g_then_ret ?_
    refine g_block_ret ?_
    refine g_then_ret ?_
    refine g_end1 (.inl rfl) Try.results109 (.tmp rfl) [] (ASub.refl _) (AHeap.sub_refl _) (fun p hp => by cases hp) ⟨rfl, ?_⟩
    first | (rw [he]; done) | (rw [he]; rfl)
   ·
    try simp only [NM] at hc28
    refine g_skip ?_
    refine g_block_normal ?_
    refine g_next hK5 ?_
    refine g_region ?_
    refine g_step rfl (s_val (v_add rfl rfl (by omega)) rfl rfl ?_)
    refine g_step rfl (s_val (v_move rfl) rfl rfl ?_)
    refine g_nil ?_
    first | refine g_keep [0, 1, 9, 10, 11] [] [] (keep_cons rfl (keep_cons rfl (keep_cons rfl (keep_cons rfl (keep_cons rfl keep_nil))))) lkeep_nil keep_nil rfl ?_ | refine g_keep [0, 1, 9, 10, 11] [] [] rfl rfl rfl rfl ?_
    exact g_round _ (by omega) ⟨k + 1, by omega, by omega, rfl, rfl, rfl, rfl, rfl, by rw [drop_cons hx, drop_cons hy, cmpB] at hc; rw [cmpI] at hc28; split at hc28 <;> first | omega | (split at hc28 <;> first | omega | (rw [if_neg (by assumption), if_neg (by assumption)] at hc; exact hc))⟩
 ·
  try simp only [NM] at hc12
  obtain rfl : k = a.length := by omega
  rw [List.drop_length] at hc
  refine g_exit ?_
  refine g_then_exit ?_
  refine g_then_exit ?_
  refine g_block_same ?_
  refine g_next hK1 ?_
  refine g_seq (fun K14 hK14 => ?_)
  refine g_seq (fun K15 hK15 => ?_)
  refine g_region ?_
  refine g_step rfl (s_val (v_move rfl) rfl rfl ?_)
  refine g_step rfl (s_val (v_len ty129 rfl hva (by first | exact List.length_map .. | rfl)) rfl rfl ?_)
  refine g_step rfl (s_val (v_move rfl) rfl rfl ?_)
  refine g_step rfl (s_val (v_len ty129 rfl hvb (by first | exact List.length_map .. | rfl)) rfl rfl ?_)
  refine g_step rfl (s_val (v_lss rfl rfl) rfl rfl ?_)
  refine g_nil ?_
  refine g_next hK15 ?_
  refine g_cond rfl (fun hc35 => ?_) (fun hc35 => ?_)
  ·
   try simp only [NM] at hc35
   obtain ⟨y, hy⟩ := get_some (l := b) (k := a.length) (by omega)
   rw [drop_cons hy, cmpB] at hc
   refine g_seq (fun K16 hK16 => ?_)
   refine g_region ?_
   refine g_step rfl (s_val (v_assign rfl) rfl rfl ?_)
   refine g_nil ?_
   refine g_next hK16 ?_
   refine g_ret ?_
   refine g_then_ret ?_
   refine g_end1 (.inl rfl) Try.results109 (.tmp rfl) [] (ASub.refl _) (AHeap.sub_refl _) (fun p hp => by cases hp) ⟨rfl, ?_⟩
   first | (rw [← hc]; rfl; done) | (rw [← hc]; rfl; rfl)
  ·
   try simp only [NM] at hc35
   rw [List.drop_of_length_le (show b.length ≤ a.length by omega), cmpB] at hc
   refine g_skip ?_
   refine g_next hK14 ?_
   refine g_seq (fun K17 hK17 => ?_)
   refine g_region ?_
   refine g_step rfl (s_val (v_assign rfl) rfl rfl ?_)
   refine g_nil ?_
   refine g_next hK17 ?_
   refine g_ret ?_
   refine g_end1 (.inl rfl) Try.results109 (.tmp rfl) [] (ASub.refl _) (AHeap.sub_refl _) (fun p hp => by cases hp) ⟨rfl, ?_⟩
   first | (rw [← hc]; rfl; done) | (rw [← hc]; rfl; rfl)

theorem sign_ok (f g : Fd) (G : AHeap) (hl : f.data.length ≤ 1000000) : PCalls Try.prog 105 [encFd f, encFd g] G (fun r => r = .int .i64 (signF f g)) := by
 refine LCalls.intro 20 fi105 rfl Try.ntmps105 rfl (fun _ h => h.elim) (fun H hH w0 hw0 => ?_)
 refine g_seq (fun K0 hK0 => ?_)
 refine g_region ?_
 refine g_step rfl (s_box rfl rfl rfl rfl ?_)
 refine g_step rfl (s_box rfl rfl rfl rfl ?_)
 refine g_step rfl (s_val (v_assign rfl) rfl rfl ?_)
 refine g_nil ?_
 refine g_next hK0 ?_
 refine g_seq (fun K1 hK1 => ?_)
 refine g_seq (fun K2 hK2 => ?_)
 refine g_region ?_
 refine g_step rfl (s_fieldAddr ty131 fo131_0 ty3 rfl rfl ?_)
 refine g_step rfl (s_val (v_loadl ty3 rfl rfl rfl rfl) rfl rfl ?_)
 refine g_step rfl (s_fieldAddr ty131 fo131_0 ty3 rfl rfl ?_)
 refine g_step rfl (s_val (v_loadl ty3 rfl rfl rfl rfl) rfl rfl ?_)
 refine g_step rfl (s_val (v_neq rfl rfl) rfl rfl ?_)
 refine g_nil ?_
 refine g_next hK2 ?_
 refine g_cond rfl (fun hc9 => ?_) (fun hc9 => ?_)
 ·
  try simp only [NM] at hc9
  refine g_seq (fun K3 hK3 => ?_)
  refine g_seq (fun K4 hK4 => ?_)
  refine g_region ?_
  refine g_step rfl (s_fieldAddr ty131 fo131_0 ty3 rfl rfl ?_)
  refine g_step rfl (s_val (v_loadl ty3 rfl rfl rfl rfl) rfl rfl ?_)
  refine g_step rfl (s_fieldAddr ty131 fo131_0 ty3 rfl rfl ?_)
  refine g_step rfl (s_val (v_loadl ty3 rfl rfl rfl rfl) rfl rfl ?_)
  refine g_step rfl (s_val (v_lss rfl rfl) rfl rfl ?_)
  refine g_nil ?_
  refine g_next hK4 ?_
  refine g_cond rfl (fun hc14 => ?_) (fun hc14 => ?_)
  ·
   try simp only [NM] at hc14
   refine g_seq (fun K5 hK5 => ?_)
   refine g_region ?_
   refine g_step rfl (s_val (v_assign rfl) rfl rfl ?_)
   refine g_nil ?_
   refine g_next hK5 ?_
   refine g_ret ?_
   refine g_then_ret ?_
   refine g_then_ret ?_
   refine g_end1 (.inl rfl) Try.results105 (.tmp rfl) [] (ASub.refl _) (AHeap.sub_refl _) (fun p hp => by cases hp) ⟨rfl, ?_⟩
   first | (simp [signF, hc9, hc14]; done) | (simp [signF, hc9, hc14]; rfl)
  ·
   try simp only [NM] at hc14
   refine g_skip ?_
   refine g_next hK3 ?_
   refine g_seq (fun K6 hK6 => ?_)
   refine g_region ?_
   refine g_step rfl (s_val (v_assign rfl) rfl rfl ?_)
   refine g_nil ?_
   refine g_next hK6 ?_
   refine g_ret ?_
   refine g_then_ret ?_
   refine g_end1 (.inl rfl) Try.results105 (.tmp rfl) [] (ASub.refl _) (AHeap.sub_refl _) (fun p hp => by cases hp) ⟨rfl, ?_⟩
   first | (simp [signF, hc9]; omega; done) | (simp [signF, hc9]; omega; rfl)
 ·
  try simp only [NM] at hc9
  refine g_skip ?_
  refine g_next hK1 ?_
  refine g_seq (fun K7 hK7 => ?_)
  refine g_region ?_
  refine g_step rfl (s_fieldAddr ty131 fo131_1 ty129 rfl rfl ?_)
  refine g_step rfl (s_val (v_loadl ty129 rfl rfl rfl rfl) rfl rfl ?_)
  refine g_step rfl (s_fieldAddr ty131 fo131_1 ty129 rfl rfl ?_)
  refine g_step rfl (s_val (v_loadl ty129 rfl rfl rfl rfl) rfl rfl ?_)
  refine g_step rfl (s_callp rfl rfl rfl (cmpBytes_ok f.data g.data _ _ rfl _ rfl hl) ?_)
  rintro _ rfl
  refine g_step rfl (s_val (v_assign rfl) rfl rfl ?_)
  refine g_nil ?_
  refine g_next hK7 ?_
  refine g_ret ?_
  refine g_end1 (.inl rfl) Try.results105 (.tmp rfl) [] (ASub.refl _) (AHeap.sub_refl _) (fun p hp => by cases hp) ⟨rfl, ?_⟩
  first | (simp [signF, hc9]; done) | (simp [signF, hc9]; rfl)

theorem bagCompare_ok (a b : List Fd) (G : AHeap) (va vb : AV) (hva : va.view G = some (a.map encFd)) (hvb : vb.view G = some (b.map encFd)) (hl : Small a) : PCalls Try.prog 90 [va, vb] G (fun r => r = .int .i64 (cmpBag a b)) := by
 refine LCalls.intro 43 fi90 rfl Try.ntmps90 rfl (fun _ h => h.elim) (fun H hH w0 hw0 => ?_)
 have hl1 := hl.1
 have hva := view_sub hH hva
 have hvb := view_sub hH hvb
 refine g_seq (fun K0 hK0 => ?_)
 refine g_region ?_
 refine g_step rfl (s_val (v_assign rfl) rfl rfl ?_)
 refine g_nil ?_
 refine g_next hK0 ?_
 refine g_seq (fun K1 hK1 => ?_)
 refine g_seq (fun K2 hK2 => ?_)
 refine g_region ?_
 refine g_step rfl (s_val (v_assign rfl) rfl rfl ?_)
 refine g_nil ?_
 refine g_next hK2 ?_
 refine g_block ?_
 first | refine g_keep [0, 1, 5] [] [] (keep_cons rfl (keep_cons rfl (keep_cons rfl keep_nil))) lkeep_nil keep_nil rfl ?_ | refine g_keep [0, 1, 5] [] [] rfl rfl rfl rfl ?_
 refine g_loop (fun n env L B G => ∃ k : Nat, k ≤ a.length ∧ k ≤ b.length ∧ n = a.length - k ∧ env = [(0, va), (1, vb), (5, .int .i64 (k : Int))] ∧ L = [] ∧ B = [] ∧ G = H ∧ cmpBag (a.drop k) (b.drop k) = cmpBag a b) a.length ⟨0, by omega, by omega, rfl, rfl, rfl, rfl, rfl, rfl⟩ (fun n env L B G hI => ?_)
 obtain ⟨k, hk, hkb, rfl, rfl, rfl, rfl, rfl, hc⟩ := hI
 refine g_seq (fun K3 hK3 => ?_)
 refine g_seq (fun K4 hK4 => ?_)
 refine g_region ?_
 refine g_step rfl (s_val (v_move rfl) rfl rfl ?_)
 refine g_step rfl (s_val (v_move rfl) rfl rfl ?_)
 refine g_step rfl (s_val (v_len ty30 rfl hva (by first | exact List.length_map .. | rfl)) rfl rfl ?_)
 refine g_step rfl (s_val (v_lss rfl rfl) rfl rfl ?_)
 refine g_step rfl (s_val (v_move rfl) rfl rfl ?_)
 refine g_split 11 rfl (fun hg11 => ?_) (fun hg11 => ?_)
 ·
  try simp only [NM] at hg11
  refine g_step_yes (j := 4) (t := 11) rfl rfl rfl rfl (s_val (v_move rfl) rfl rfl ?_)
  refine g_step_yes (j := 4) (t := 11) rfl rfl rfl rfl (s_val (v_move rfl) rfl rfl ?_)
  refine g_step_yes (j := 4) (t := 11) rfl rfl rfl rfl (s_val (v_len ty30 rfl hvb (by first | exact List.length_map .. | rfl)) rfl rfl ?_)
  refine g_step_yes (j := 4) (t := 11) rfl rfl rfl rfl (s_val (v_lss rfl rfl) rfl rfl ?_)
  refine g_step rfl (s_val (v_pick_t rfl rfl) rfl rfl ?_)
  refine g_nil ?_
  refine g_next hK4 ?_
  refine g_cond rfl (fun hc16 => ?_) (fun hc16 => ?_)
  ·
   try simp only [NM] at hc16
   obtain ⟨x, hx⟩ := get_some (l := a) (k := k) (by omega)
   obtain ⟨y, hy⟩ := get_some (l := b) (k := k) (by omega)
   have hsx := bsize_mem (mem_get hx)
   have hl2 := hl.2
   refine g_skip ?_
   refine g_next hK3 ?_
   refine g_seq (fun K5 hK5 => ?_)
   refine g_block ?_
   refine g_seq (fun K6 hK6 => ?_)
   refine g_draw (n := 10) (fun j => !([] : List Nat).contains j) rfl rfl ?_
   refine m_tk 0 false rfl rfl (by kernel_rfl) (v_move rfl) rfl rfl ?_
   refine m_tk 1 false rfl rfl (by kernel_rfl) (v_move rfl) rfl rfl ?_
   refine m_tk 2 false rfl rfl (by kernel_rfl) (v_indexAddr ty30 ty131 rfl rfl hva (by first | rfl | exact (rfl : (0 : Int) = ((0 : Nat) : Int)) | exact (Int.toNat_of_nonneg (by omega)).symm) (by first | assumption | exact map_get (by assumption) | rfl) rfl) rfl rfl ?_
   refine m_tk 3 true rfl rfl (by kernel_rfl) (by first | exact v_load_elt ty131 rfl rfl hva (by first | assumption | exact map_get (by assumption) | rfl) rfl rfl | exact v_load_box_all ty131 rfl rfl (by assumption) rfl rfl | exact v_load_part (cs := [_, _]) ty131 rfl rfl hva (by first | assumption | exact map_get (by assumption) | rfl) rfl rfl rfl | exact v_load_box_part (cs := [_, _]) ty131 rfl rfl (by assumption) rfl rfl rfl) rfl rfl ?_
   refine m_tk 4 false rfl rfl (by kernel_rfl) (v_move rfl) rfl rfl ?_
   refine m_tk 5 false rfl rfl (by kernel_rfl) (v_move rfl) rfl rfl ?_
   refine m_tk 6 false rfl rfl (by kernel_rfl) (v_indexAddr ty30 ty131 rfl rfl hvb (by first | rfl | exact (rfl : (0 : Int) = ((0 : Nat) : Int)) | exact (Int.toNat_of_nonneg (by omega)).symm) (by first | assumption | exact map_get (by assumption) | rfl) rfl) rfl rfl ?_
   refine m_tk 7 true rfl rfl (by kernel_rfl) (by first | exact v_load_elt ty131 rfl rfl hvb (by first | assumption | exact map_get (by assumption) | rfl) rfl rfl | exact v_load_box_all ty131 rfl rfl (by assumption) rfl rfl | exact v_load_part (cs := [_, _]) ty131 rfl rfl hvb (by first | assumption | exact map_get (by assumption) | rfl) rfl rfl rfl | exact v_load_box_part (cs := [_, _]) ty131 rfl rfl (by assumption) rfl rfl rfl) rfl rfl ?_
   refine m_one 8 (by kernel_rfl) rfl rfl ?_
   refine sm_callp rfl rfl rfl (sign_ok x y _ (by omega)) ?_
   rintro _ rfl
   refine m_tk 9 false rfl rfl (by kernel_rfl) (v_assign rfl) rfl rfl ?_
   refine m_done (by kernel_rfl) ?_
   refine g_next hK6 ?_
   refine g_seq (fun K7 hK7 => ?_)
   refine g_region ?_
   refine g_step rfl (s_val (v_move rfl) rfl rfl ?_)
   refine g_step rfl (s_val (v_neq rfl rfl) rfl rfl ?_)
   refine g_nil ?_
   refine g_next hK7 ?_
   first | refine g_keep [0, 1, 5, 6, 29] [] [] (keep_cons rfl (keep_cons rfl (keep_cons rfl (keep_cons rfl (keep_cons rfl keep_nil))))) lkeep_nil keep_nil rfl ?_ | refine g_keep [0, 1, 5, 6, 29] [] [] rfl rfl rfl rfl ?_
   refine g_cond rfl (fun hc29 => ?_) (fun hc29 => ?_)
   ·
    try simp only [NM] at hc29
    rw [drop_cons hx, drop_cons hy, cmpBag, if_neg hc29] at hc
    refine g_seq (fun K8 hK8 => ?_)
    refine g_region ?_
    refine g_step rfl (s_val (v_move rfl) rfl rfl ?_)
    refine g_step rfl (s_val (v_assign rfl) rfl rfl ?_)
    refine g_nil ?_
    refine g_next hK8 ?_
    refine g_ret ?_
    refine g_block_ret ?_
    refine g_then_ret ?_
    refine g_then_ret ?_
    refine g_block_ret ?_
    refine g_then_ret ?_
    refine g_end1 (.inl rfl) Try.results90 (.tmp rfl) [] (ASub.refl _) (AHeap.sub_refl _) (fun p hp => by cases hp) ⟨rfl, ?_⟩
    first | (rw [hc]; done) | (rw [hc]; rfl)
   ·
    try simp only [NM] at hc29
    refine g_skip ?_
    refine g_block_normal ?_
    refine g_next hK5 ?_
    refine g_region ?_
    refine g_step rfl (s_val (v_move rfl) rfl rfl ?_)
    refine g_step rfl (s_val (v_add rfl rfl (by omega)) rfl rfl ?_)
    refine g_step rfl (s_val (v_assign rfl) rfl rfl ?_)
    refine g_nil ?_
    first | refine g_keep [0, 1, 5] [] [] (keep_cons rfl (keep_cons rfl (keep_cons rfl keep_nil))) lkeep_nil keep_nil rfl ?_ | refine g_keep [0, 1, 5] [] [] rfl rfl rfl rfl ?_
    exact g_round _ (by omega) ⟨k + 1, by omega, by omega, rfl, rfl, rfl, rfl, rfl, by rw [drop_cons hx, drop_cons hy, cmpBag, if_pos hc29] at hc; exact hc⟩
  ·
   try simp only [NM] at hc16
   have hend : a.length ≤ k ∨ b.length ≤ k := .inr (by omega)
   refine g_exit ?_
   refine g_then_exit ?_
   refine g_then_exit ?_
   refine g_block_same ?_
   refine g_next hK1 ?_
   refine g_seq (fun K9 hK9 => ?_)
   refine g_block ?_
   refine g_seq (fun K10 hK10 => ?_)
   refine g_region ?_
   refine g_step rfl (s_val (v_move rfl) rfl rfl ?_)
   refine g_step rfl (s_val (v_len ty30 rfl hva (by first | exact List.length_map .. | rfl)) rfl rfl ?_)
   refine g_step rfl (s_val (v_move rfl) rfl rfl ?_)
   refine g_step rfl (s_val (v_len ty30 rfl hvb (by first | exact List.length_map .. | rfl)) rfl rfl ?_)
   refine g_step rfl (s_val (v_lss rfl rfl) rfl rfl ?_)
   refine g_step rfl (s_val (v_assign rfl) rfl rfl ?_)
   refine g_nil ?_
   refine g_next hK10 ?_
   refine g_cond rfl (fun hc31 => ?_) (fun hc31 => ?_)
   ·
    try simp only [NM] at hc31
    refine g_seq (fun K11 hK11 => ?_)
    refine g_region ?_
    refine g_step rfl (s_val (v_assign rfl) rfl rfl ?_)
    refine g_nil ?_
    refine g_next hK11 ?_
    refine g_ret ?_
    refine g_block_ret ?_
    refine g_then_ret ?_
    refine g_end1 (.inl rfl) Try.results90 (.tmp rfl) [] (ASub.refl _) (AHeap.sub_refl _) (fun p hp => by cases hp) ⟨rfl, ?_⟩
    obtain ⟨y, hy⟩ := get_some (l := b) (k := k) (by omega)
    rw [List.drop_of_length_le (show a.length ≤ k by omega), drop_cons hy, cmpBag] at hc
    rw [← hc]; rfl
   ·
    try simp only [NM] at hc31
    refine g_seq (fun K12 hK12 => ?_)
    refine g_region ?_
    refine g_step rfl (s_val (v_move rfl) rfl rfl ?_)
    refine g_step rfl (s_val (v_len ty30 rfl hva (by first | exact List.length_map .. | rfl)) rfl rfl ?_)
    refine g_step rfl (s_val (v_move rfl) rfl rfl ?_)
    refine g_step rfl (s_val (v_len ty30 rfl hvb (by first | exact List.length_map .. | rfl)) rfl rfl ?_)
    refine g_step rfl (s_val (v_gtr rfl rfl) rfl rfl ?_)
    refine g_step rfl (s_val (v_assign rfl) rfl rfl ?_)
    refine g_nil ?_
    refine g_next hK12 ?_
    first | refine g_keep [37] [] [] (keep_cons rfl keep_nil) lkeep_nil keep_nil rfl ?_ | refine g_keep [37] [] [] rfl rfl rfl rfl ?_
    refine g_cond rfl (fun hc37 => ?_) (fun hc37 => ?_)
    ·
     try simp only [NM] at hc37
     refine g_seq (fun K13 hK13 => ?_)
     refine g_region ?_
     refine g_step rfl (s_val (v_assign rfl) rfl rfl ?_)
     refine g_nil ?_
     refine g_next hK13 ?_
     refine g_ret ?_
     refine g_block_ret ?_
     refine g_then_ret ?_
     refine g_end1 (.inl rfl) Try.results90 (.tmp rfl) [] (ASub.refl _) (AHeap.sub_refl _) (fun p hp => by cases hp) ⟨rfl, ?_⟩
     obtain ⟨y, hy⟩ := get_some (l := a) (k := k) (by omega)
     rw [drop_cons hy, List.drop_of_length_le (show b.length ≤ k by omega), cmpBag] at hc
     rw [← hc]; rfl
    ·
     try simp only [NM] at hc37
     refine g_skip ?_
     refine g_block_normal ?_
     refine g_next hK9 ?_
     refine g_seq (fun K14 hK14 => ?_)
     refine g_region ?_
     refine g_step rfl (s_val (v_assign rfl) rfl rfl ?_)
     refine g_nil ?_
     refine g_next hK14 ?_
     refine g_ret ?_
     refine g_end1 (.inl rfl) Try.results90 (.tmp rfl) [] (ASub.refl _) (AHeap.sub_refl _) (fun p hp => by cases hp) ⟨rfl, ?_⟩
     rw [List.drop_of_length_le (show a.length ≤ k by omega), List.drop_of_length_le (show b.length ≤ k by omega), cmpBag] at hc
     rw [← hc]; rfl
 ·
  try simp only [NM] at hg11
  have hend : a.length ≤ k ∨ b.length ≤ k := .inl (by omega)
  refine g_step_no (j := 4) (t := 11) rfl rfl rfl rfl rfl rfl rfl ?_
  refine g_step_no (j := 4) (t := 11) rfl rfl rfl rfl rfl rfl rfl ?_
  refine g_step_no (j := 4) (t := 11) rfl rfl rfl rfl rfl rfl rfl ?_
  refine g_step_no (j := 4) (t := 11) rfl rfl rfl rfl rfl rfl rfl ?_
  refine g_step rfl (s_val (v_pick_f rfl rfl) rfl rfl ?_)
  refine g_nil ?_
  refine g_next hK4 ?_
  refine g_cond rfl (fun h => by cases h) (fun _ => ?_)
  refine g_exit ?_
  refine g_then_exit ?_
  refine g_then_exit ?_
  refine g_block_same ?_
  refine g_next hK1 ?_
  refine g_seq (fun K15 hK15 => ?_)
  refine g_block ?_
  refine g_seq (fun K16 hK16 => ?_)
  refine g_region ?_
  refine g_step rfl (s_val (v_move rfl) rfl rfl ?_)
  refine g_step rfl (s_val (v_len ty30 rfl hva (by first | exact List.length_map .. | rfl)) rfl rfl ?_)
  refine g_step rfl (s_val (v_move rfl) rfl rfl ?_)
  refine g_step rfl (s_val (v_len ty30 rfl hvb (by first | exact List.length_map .. | rfl)) rfl rfl ?_)
  refine g_step rfl (s_val (v_lss rfl rfl) rfl rfl ?_)
  refine g_step rfl (s_val (v_assign rfl) rfl rfl ?_)
  refine g_nil ?_
  refine g_next hK16 ?_
  refine g_cond rfl (fun hc31 => ?_) (fun hc31 => ?_)
  ·
   try simp only [NM] at hc31
   refine g_seq (fun K17 hK17 => ?_)
   refine g_region ?_
   refine g_step rfl (s_val (v_assign rfl) rfl rfl ?_)
   refine g_nil ?_
   refine g_next hK17 ?_
   refine g_ret ?_
   refine g_block_ret ?_
   refine g_then_ret ?_
   refine g_end1 (.inl rfl) Try.results90 (.tmp rfl) [] (ASub.refl _) (AHeap.sub_refl _) (fun p hp => by cases hp) ⟨rfl, ?_⟩
   obtain ⟨y, hy⟩ := get_some (l := b) (k := k) (by omega)
   rw [List.drop_of_length_le (show a.length ≤ k by omega), drop_cons hy, cmpBag] at hc
   rw [← hc]; rfl
  ·
   try simp only [NM] at hc31
   refine g_seq (fun K18 hK18 => ?_)
   refine g_region ?_
   refine g_step rfl (s_val (v_move rfl) rfl rfl ?_)
   refine g_step rfl (s_val (v_len ty30 rfl hva (by first | exact List.length_map .. | rfl)) rfl rfl ?_)
   refine g_step rfl (s_val (v_move rfl) rfl rfl ?_)
   refine g_step rfl (s_val (v_len ty30 rfl hvb (by first | exact List.length_map .. | rfl)) rfl rfl ?_)
   refine g_step rfl (s_val (v_gtr rfl rfl) rfl rfl ?_)
   refine g_step rfl (s_val (v_assign rfl) rfl rfl ?_)
   refine g_nil ?_
   refine g_next hK18 ?_
   first | refine g_keep [37] [] [] (keep_cons rfl keep_nil) lkeep_nil keep_nil rfl ?_ | refine g_keep [37] [] [] rfl rfl rfl rfl ?_
   refine g_cond rfl (fun hc37 => ?_) (fun hc37 => ?_)
   ·
    try simp only [NM] at hc37
    refine g_seq (fun K19 hK19 => ?_)
    refine g_region ?_
    refine g_step rfl (s_val (v_assign rfl) rfl rfl ?_)
    refine g_nil ?_
    refine g_next hK19 ?_
    refine g_ret ?_
    refine g_block_ret ?_
    refine g_then_ret ?_
    refine g_end1 (.inl rfl) Try.results90 (.tmp rfl) [] (ASub.refl _) (AHeap.sub_refl _) (fun p hp => by cases hp) ⟨rfl, ?_⟩
    obtain ⟨y, hy⟩ := get_some (l := a) (k := k) (by omega)
    rw [drop_cons hy, List.drop_of_length_le (show b.length ≤ k by omega), cmpBag] at hc
    rw [← hc]; rfl
   ·
    try simp only [NM] at hc37
    refine g_skip ?_
    refine g_block_normal ?_
    refine g_next hK15 ?_
    refine g_seq (fun K20 hK20 => ?_)
    refine g_region ?_
    refine g_step rfl (s_val (v_assign rfl) rfl rfl ?_)
    refine g_nil ?_
    refine g_next hK20 ?_
    refine g_ret ?_
    refine g_end1 (.inl rfl) Try.results90 (.tmp rfl) [] (ASub.refl _) (AHeap.sub_refl _) (fun p hp => by cases hp) ⟨rfl, ?_⟩
    rw [List.drop_of_length_le (show a.length ≤ k by omega), List.drop_of_length_le (show b.length ≤ k by omega), cmpBag] at hc
    rw [← hc]; rfl

theorem bagSame_ok (a b : List Fd) (G : AHeap) (va vb : AV) (hva : va.view G = some (a.map encFd)) (hvb : vb.view G = some (b.map encFd)) (hl : Small a) : PCalls Try.prog 63 [va, vb] G (fun r => r = .bool (decide (a = b))) := by
 refine LCalls.intro 9 fi63 rfl Try.ntmps63 rfl (fun _ h => h.elim) (fun H hH w0 hw0 => ?_)
 have hva := view_sub hH hva
 have hvb := view_sub hH hvb
 refine g_seq (fun K0 hK0 => ?_)
 refine g_region ?_
 refine g_step rfl (s_val (v_assign rfl) rfl rfl ?_)
 refine g_nil ?_
 refine g_next hK0 ?_
 refine g_seq (fun K1 hK1 => ?_)
 refine g_region ?_
 refine g_step rfl (s_val (v_move rfl) rfl rfl ?_)
 refine g_step rfl (s_val (v_move rfl) rfl rfl ?_)
 refine g_step rfl (s_callp rfl rfl rfl (bagCompare_ok a b _ _ _ hva hvb hl) ?_)
 rintro _ rfl
 refine g_step rfl (s_val (v_eql rfl rfl) rfl rfl ?_)
 refine g_step rfl (s_val (v_assign rfl) rfl rfl ?_)
 refine g_nil ?_
 refine g_next hK1 ?_
 refine g_ret ?_
 refine g_end1 (.inl rfl) Try.results63 (.tmp rfl) [] (ASub.refl _) (AHeap.sub_refl _) (fun p hp => by cases hp) ⟨rfl, ?_⟩
 first | (simp [cmpBag_zero]; done) | (simp [cmpBag_zero]; rfl)

theorem bagSize_ok (a : List Fd) (G : AHeap) (va : AV) (hva : va.view G = some (a.map encFd)) (hl : Small a) : PCalls Try.prog 86 [va] G (fun r => r = .int .i64 (bsize a)) := by
 refine LCalls.intro 19 fi86 rfl Try.ntmps86 rfl (fun _ h => h.elim) (fun H hH w0 hw0 => ?_)
 have hl1 := hl.1
 have hva := view_sub hH hva
 refine g_seq (fun K0 hK0 => ?_)
 refine g_region ?_
 refine g_step rfl (s_val (v_assign rfl) rfl rfl ?_)
 refine g_nil ?_
 refine g_next hK0 ?_
 refine g_seq (fun K1 hK1 => ?_)
 refine g_region ?_
 refine g_step rfl (s_val (v_assign rfl) rfl rfl ?_)
 refine g_nil ?_
 refine g_next hK1 ?_
 refine g_seq (fun K2 hK2 => ?_)
 refine g_seq (fun K3 hK3 => ?_)
 refine g_region ?_
 refine g_step rfl (s_val (v_move rfl) rfl rfl ?_)
 refine g_step rfl (s_val (v_len ty30 rfl (by first | rfl | assumption) (by first | exact List.length_map .. | rfl)) rfl rfl ?_)
 refine g_step rfl (s_val (v_move rfl) rfl rfl ?_)
 refine g_nil ?_
 refine g_next hK3 ?_
 refine g_block ?_
 first | refine g_keep [3, 6, 7, 8] [] [] (keep_cons rfl (keep_cons rfl (keep_cons rfl (keep_cons rfl keep_nil)))) lkeep_nil keep_nil rfl ?_ | refine g_keep [3, 6, 7, 8] [] [] rfl rfl rfl rfl ?_
 refine g_loop (fun n env L B G => ∃ k : Nat, k ≤ a.length ∧ n = a.length - k ∧ env = [(3, .int .i64 (bsize (a.take k))), (6, va), (7, .int .i64 (a.length : Int)), (8, .int .i64 (k : Int))] ∧ L = [] ∧ B = [] ∧ G = H) a.length ⟨0, by omega, rfl, rfl, rfl, rfl, rfl⟩ (fun n env L B G hI => ?_)
 obtain ⟨k, hk, rfl, rfl, rfl, rfl, rfl⟩ := hI
 refine g_seq (fun K4 hK4 => ?_)
 refine g_region ?_
 refine g_step rfl (s_val (v_lss rfl rfl) rfl rfl ?_)
 refine g_nil ?_
 refine g_next hK4 ?_
 refine g_seq (fun K5 hK5 => ?_)
 refine g_cond rfl (fun hc9 => ?_) (fun hc9 => ?_)
 ·
  try simp only [NM] at hc9
  obtain ⟨x, hx⟩ := get_some (l := a) (k := k) (by omega)
  have hbk := bsize_le a (k + 1)
  rw [bsize_take hx] at hbk
  have hb0 := bsize_nonneg (a.take k)
  have hb1 := hl.2
  refine g_skip ?_
  refine g_next hK5 ?_
  refine g_seq (fun K6 hK6 => ?_)
  refine g_block ?_
  refine g_seq (fun K7 hK7 => ?_)
  refine g_region ?_
  refine g_step rfl (s_val (v_indexAddr ty30 ty131 rfl rfl (by first | rfl | assumption) (by first | rfl | exact (rfl : (0 : Int) = ((0 : Nat) : Int)) | exact (Int.toNat_of_nonneg (by omega)).symm) (by first | assumption | exact map_get (by assumption) | rfl) rfl) rfl rfl ?_)
  refine g_step rfl (s_val (by first | exact v_load_elt ty131 rfl rfl (by first | rfl | assumption) (by first | assumption | exact map_get (by assumption) | rfl) rfl rfl | exact v_load_box_all ty131 rfl rfl (by assumption) rfl rfl | exact v_load_part (cs := [_, _]) ty131 rfl rfl (by first | rfl | assumption) (by first | assumption | exact map_get (by assumption) | rfl) rfl rfl rfl | exact v_load_box_part (cs := [_, _]) ty131 rfl rfl (by assumption) rfl rfl rfl) rfl rfl ?_)
  refine g_step rfl (s_alloc (av := (.agg [(.int .i64 0), .nil0])) ty131 rfl rfl rfl rfl ?_)
  refine g_step rfl (s_store_all ty131 rfl rfl rfl rfl rfl rfl ?_)
  refine g_nil ?_
  refine g_next hK7 ?_
  refine g_region ?_
  refine g_step rfl (s_val (v_move rfl) rfl rfl ?_)
  refine g_step rfl (s_fieldAddr ty131 fo131_1 ty129 rfl rfl ?_)
  refine g_step rfl (s_val (v_loadl ty129 rfl rfl rfl rfl) rfl rfl ?_)
  refine g_step rfl (s_val (v_len ty129 rfl (by first | rfl | assumption) (by first | exact List.length_map .. | rfl)) rfl rfl ?_)
  refine g_step rfl (s_val (v_add rfl rfl (by omega)) rfl rfl ?_)
  refine g_step rfl (s_val (v_assign rfl) rfl rfl ?_)
  refine g_nil ?_
  refine g_block_normal ?_
  refine g_next hK6 ?_
  refine g_region ?_
  refine g_step rfl (s_val (v_add rfl rfl (by omega)) rfl rfl ?_)
  refine g_step rfl (s_val (v_move rfl) rfl rfl ?_)
  refine g_nil ?_
  first | refine g_keep [3, 6, 7, 8] [] [] (keep_cons rfl (keep_cons rfl (keep_cons rfl (keep_cons rfl keep_nil)))) lkeep_nil keep_nil rfl ?_ | refine g_keep [3, 6, 7, 8] [] [] rfl rfl rfl rfl ?_
  exact g_round _ (by omega) ⟨k + 1, by omega, rfl, by rw [bsize_take hx]; rfl, rfl, rfl, rfl⟩
 ·
  try simp only [NM] at hc9
  obtain rfl : k = a.length := by omega
  refine g_exit ?_
  refine g_then_exit ?_
  refine g_then_exit ?_
  refine g_block_same ?_
  refine g_next hK2 ?_
  refine g_seq (fun K8 hK8 => ?_)
  refine g_region ?_
  refine g_step rfl (s_val (v_move rfl) rfl rfl ?_)
  refine g_step rfl (s_val (v_assign rfl) rfl rfl ?_)
  refine g_nil ?_
  refine g_next hK8 ?_
  refine g_ret ?_
  refine g_end1 (.inl rfl) Try.results86 (.tmp rfl) [] (ASub.refl _) (AHeap.sub_refl _) (fun p hp => by cases hp) ⟨rfl, ?_⟩
  first | (simp; done) | (simp; rfl)

theorem bagLight_ok (a : List Fd) (G : AHeap) (va : AV) (hva : va.view G = some (a.map encFd)) (hl : Small a) : PCalls Try.prog 51 [va] G (fun r => r = .bool (decide (bsize a ≤ 1024))) := by
 refine LCalls.intro 6 fi51 rfl Try.ntmps51 rfl (fun _ h => h.elim) (fun H hH w0 hw0 => ?_)
 have hva := view_sub hH hva
 refine g_seq (fun K0 hK0 => ?_)
 refine g_region ?_
 refine g_step rfl (s_val (v_assign rfl) rfl rfl ?_)
 refine g_nil ?_
 refine g_next hK0 ?_
 refine g_seq (fun K1 hK1 => ?_)
 refine g_region ?_
 refine g_step rfl (s_val (v_move rfl) rfl rfl ?_)
 refine g_step rfl (s_callp rfl rfl rfl (bagSize_ok a _ _ hva hl) ?_)
 rintro _ rfl
 refine g_step rfl (s_val (v_leq rfl rfl) rfl rfl ?_)
 refine g_step rfl (s_val (v_assign rfl) rfl rfl ?_)
 refine g_nil ?_
 refine g_next hK1 ?_
 refine g_ret ?_
 refine g_end1 (.inl rfl) Try.results51 (.tmp rfl) [] (ASub.refl _) (AHeap.sub_refl _) (fun p hp => by cases hp) ⟨rfl, ?_⟩
 rfl

theorem bagValid_ok (a : List Fd) (G : AHeap) (va : AV) (hva : va.view G = some (a.map encFd)) (hl : Small a) : PCalls Try.prog 96 [va] G (fun r => r = .bool (bagValid a)) := by
 refine LCalls.intro 35 fi96 rfl Try.ntmps96 rfl (fun _ h => h.elim) (fun H hH w0 hw0 => ?_)
 have hva := view_sub hH hva
 have hl1 := hl.1
 refine g_seq (fun K0 hK0 => ?_)
 refine g_region ?_
 refine g_step rfl (s_val (v_assign rfl) rfl rfl ?_)
 refine g_nil ?_
 refine g_next hK0 ?_
 refine g_seq (fun K1 hK1 => ?_)
 refine g_seq (fun K2 hK2 => ?_)
 refine g_region ?_
 refine g_step rfl (s_val (v_move rfl) rfl rfl ?_)
 refine g_step rfl (s_val (v_len ty30 rfl (by first | rfl | assumption) (by first | exact List.length_map .. | rfl)) rfl rfl ?_)
 refine g_step rfl (s_val (v_gtr rfl rfl) rfl rfl ?_)
 refine g_nil ?_
 refine g_next hK2 ?_
 refine g_cond rfl (fun hc9 => ?_) (fun hc9 => ?_)
 ·
  try simp only [NM] at hc9
  refine g_seq (fun K3 hK3 => ?_)
  refine g_region ?_
  refine g_step rfl (s_val (v_assign rfl) rfl rfl ?_)
  refine g_nil ?_
  refine g_next hK3 ?_
  refine g_ret ?_
  refine g_then_ret ?_
  refine g_end1 (.inl rfl) Try.results96 (.tmp rfl) [] (ASub.refl _) (AHeap.sub_refl _) (fun p hp => by cases hp) ⟨rfl, ?_⟩
  first | (simp [bagValid]; omega; done) | (simp [bagValid]; omega; rfl)
 ·
  try simp only [NM] at hc9
  refine g_skip ?_
  refine g_next hK1 ?_
  refine g_seq (fun K4 hK4 => ?_)
  refine g_region ?_
  refine g_step rfl (s_val (v_assign rfl) rfl rfl ?_)
  refine g_step rfl (s_val (v_assign rfl) rfl rfl ?_)
  refine g_nil ?_
  refine g_next hK4 ?_
  refine g_seq (fun K5 hK5 => ?_)
  refine g_seq (fun K6 hK6 => ?_)
  refine g_region ?_
  refine g_step rfl (s_val (v_move rfl) rfl rfl ?_)
  refine g_step rfl (s_val (v_len ty30 rfl (by first | rfl | assumption) (by first | exact List.length_map .. | rfl)) rfl rfl ?_)
  refine g_step rfl (s_val (v_move rfl) rfl rfl ?_)
  refine g_nil ?_
  refine g_next hK6 ?_
  refine g_block ?_
  first | refine g_keep [3, 4, 10, 11, 12] [] [] (keep_cons rfl (keep_cons rfl (keep_cons rfl (keep_cons rfl (keep_cons rfl keep_nil))))) lkeep_nil keep_nil rfl ?_ | refine g_keep [3, 4, 10, 11, 12] [] [] rfl rfl rfl rfl ?_
  refine g_loop (fun n env L B G => ∃ (k : Nat) (last : Int), k ≤ a.length ∧ n = a.length - k ∧ env = [(3, .int .i64 last), (4, .int .i64 (bsize (a.take k))), (10, va), (11, .int .i64 (a.length : Int)), (12, .int .i64 (k : Int))] ∧ L = [] ∧ B = [] ∧ G = H ∧ bvGo (a.drop k) last (bsize (a.take k)) = bagValid a) a.length ⟨0, 32, by omega, rfl, rfl, rfl, rfl, rfl, by rw [bagValid, if_neg (by omega)]; rfl⟩ (fun n env L B G hI => ?_)
  obtain ⟨k, last, hk, rfl, rfl, rfl, rfl, rfl, hc⟩ := hI
  refine g_seq (fun K7 hK7 => ?_)
  refine g_region ?_
  refine g_step rfl (s_val (v_lss rfl rfl) rfl rfl ?_)
  refine g_nil ?_
  refine g_next hK7 ?_
  refine g_seq (fun K8 hK8 => ?_)
  refine g_cond rfl (fun hc13 => ?_) (fun hc13 => ?_)
  ·
   try simp only [NM] at hc13
   obtain ⟨x, hx⟩ := get_some (l := a) (k := k) (by omega)
   have hbk := bsize_le a (k + 1)
   rw [bsize_take hx] at hbk
   have hb0 := bsize_nonneg (a.take k)
   have hb1 := hl.2
   refine g_skip ?_
   refine g_next hK8 ?_
   refine g_seq (fun K9 hK9 => ?_)
   refine g_block ?_
   refine g_seq (fun K10 hK10 => ?_)
   refine g_region ?_
   refine g_step rfl (s_val (v_indexAddr ty30 ty131 rfl rfl (by first | rfl | assumption) (by first | rfl | exact (rfl : (0 : Int) = ((0 : Nat) : Int)) | exact (Int.toNat_of_nonneg (by omega)).symm) (by first | assumption | exact map_get (by assumption) | rfl) rfl) rfl rfl ?_)
   refine g_step rfl (s_val (by first | exact v_load_elt ty131 rfl rfl (by first | rfl | assumption) (by first | assumption | exact map_get (by assumption) | rfl) rfl rfl | exact v_load_box_all ty131 rfl rfl (by assumption) rfl rfl | exact v_load_part (cs := [_, _]) ty131 rfl rfl (by first | rfl | assumption) (by first | assumption | exact map_get (by assumption) | rfl) rfl rfl rfl | exact v_load_box_part (cs := [_, _]) ty131 rfl rfl (by assumption) rfl rfl rfl) rfl rfl ?_)
   refine g_step rfl (s_alloc (av := (.agg [(.int .i64 0), .nil0])) ty131 rfl rfl rfl rfl ?_)
   refine g_step rfl (s_store_all ty131 rfl rfl rfl rfl rfl rfl ?_)
   refine g_nil ?_
   refine g_next hK10 ?_
   refine g_seq (fun K11 hK11 => ?_)
   refine g_seq (fun K12 hK12 => ?_)
   refine g_region ?_
   refine g_step rfl (s_fieldAddr ty131 fo131_0 ty3 rfl rfl ?_)
   refine g_step rfl (s_val (v_loadl ty3 rfl rfl rfl rfl) rfl rfl ?_)
   refine g_step rfl (s_val (v_move rfl) rfl rfl ?_)
   refine g_step rfl (s_val (v_lss rfl rfl) rfl rfl ?_)
   refine g_step rfl (s_val (v_move rfl) rfl rfl ?_)
   refine g_split 20 rfl (fun hg20 => ?_) (fun hg20 => ?_)
   ·
    try simp only [NM] at hg20
    refine g_step_no (j := 4) (t := 20) rfl rfl rfl rfl rfl rfl rfl ?_
    refine g_step_no (j := 4) (t := 20) rfl rfl rfl rfl rfl rfl rfl ?_
    refine g_step_no (j := 4) (t := 20) rfl rfl rfl rfl rfl rfl rfl ?_
    refine g_step rfl (s_val (v_pick_t rfl rfl) rfl rfl ?_)
    refine g_nil ?_
    refine g_next hK12 ?_
    refine g_cond rfl (fun _ => ?_) (fun h => by cases h)
    refine g_seq (fun K13 hK13 => ?_)
    refine g_region ?_
    refine g_step rfl (s_val (v_assign rfl) rfl rfl ?_)
    refine g_nil ?_
    refine g_next hK13 ?_
    refine g_ret ?_
    refine g_then_ret ?_
    refine g_block_ret ?_
    refine g_then_ret ?_
    refine g_then_ret ?_
    refine g_block_ret ?_
    refine g_then_ret ?_
    refine g_end1 (.inl rfl) Try.results96 (.tmp rfl) [] (ASub.refl _) (AHeap.sub_refl _) (fun p hp => by cases hp) ⟨rfl, ?_⟩
    first | (rw [← hc, drop_cons hx, bvGo, if_pos (by omega)]; rfl; done) | (rw [← hc, drop_cons hx, bvGo, if_pos (by omega)]; rfl; rfl)
   ·
    try simp only [NM] at hg20
    refine g_step_yes (j := 4) (t := 20) rfl rfl rfl rfl (s_fieldAddr ty131 fo131_0 ty3 rfl rfl ?_)
    refine g_step_yes (j := 4) (t := 20) rfl rfl rfl rfl (s_val (v_loadl ty3 rfl rfl rfl rfl) rfl rfl ?_)
    refine g_step_yes (j := 4) (t := 20) rfl rfl rfl rfl (s_val (v_gtr rfl rfl) rfl rfl ?_)
    refine g_step rfl (s_val (v_pick_f rfl rfl) rfl rfl ?_)
    refine g_nil ?_
    refine g_next hK12 ?_
    refine g_cond rfl (fun hc24 => ?_) (fun hc24 => ?_)
    ·
     try simp only [NM] at hc24
     refine g_seq (fun K14 hK14 => ?_)
     refine g_region ?_
     refine g_step rfl (s_val (v_assign rfl) rfl rfl ?_)
     refine g_nil ?_
     refine g_next hK14 ?_
     refine g_ret ?_
     refine g_then_ret ?_
     refine g_block_ret ?_
     refine g_then_ret ?_
     refine g_then_ret ?_
     refine g_block_ret ?_
     refine g_then_ret ?_
     refine g_end1 (.inl rfl) Try.results96 (.tmp rfl) [] (ASub.refl _) (AHeap.sub_refl _) (fun p hp => by cases hp) ⟨rfl, ?_⟩
     first | (rw [← hc, drop_cons hx, bvGo, if_pos (by omega)]; rfl; done) | (rw [← hc, drop_cons hx, bvGo, if_pos (by omega)]; rfl; rfl)
    ·
     try simp only [NM] at hc24
     refine g_skip ?_
     refine g_next hK11 ?_
     refine g_seq (fun K15 hK15 => ?_)
     refine g_region ?_
     refine g_step rfl (s_fieldAddr ty131 fo131_0 ty3 rfl rfl ?_)
     refine g_step rfl (s_val (v_loadl ty3 rfl rfl rfl rfl) rfl rfl ?_)
     refine g_step rfl (s_val (v_assign rfl) rfl rfl ?_)
     refine g_nil ?_
     refine g_next hK15 ?_
     refine g_seq (fun K16 hK16 => ?_)
     refine g_region ?_
     refine g_step rfl (s_val (v_move rfl) rfl rfl ?_)
     refine g_step rfl (s_fieldAddr ty131 fo131_1 ty129 rfl rfl ?_)
     refine g_step rfl (s_val (v_loadl ty129 rfl rfl rfl rfl) rfl rfl ?_)
     refine g_step rfl (s_val (v_len ty129 rfl (by first | rfl | assumption) (by first | exact List.length_map .. | rfl)) rfl rfl ?_)
     refine g_step rfl (s_val (v_add rfl rfl (by omega)) rfl rfl ?_)
     refine g_step rfl (s_val (v_assign rfl) rfl rfl ?_)
     refine g_nil ?_
     refine g_next hK16 ?_
     refine g_seq (fun K17 hK17 => ?_)
     refine g_region ?_
     refine g_step rfl (s_val (v_move rfl) rfl rfl ?_)
     refine g_step rfl (s_val (v_gtr rfl rfl) rfl rfl ?_)
     refine g_nil ?_
     refine g_next hK17 ?_
     refine g_cond rfl (fun hc33 => ?_) (fun hc33 => ?_)
     ·
      try simp only [NM] at hc33
      refine g_seq (fun K18 hK18 => ?_)
      refine g_region ?_
      refine g_step rfl (s_val (v_assign rfl) rfl rfl ?_)
      refine g_nil ?_
      refine g_next hK18 ?_
      refine g_ret ?_
      refine g_block_ret ?_
      refine g_then_ret ?_
      refine g_then_ret ?_
      refine g_block_ret ?_
      refine g_then_ret ?_
      refine g_end1 (.inl rfl) Try.results96 (.tmp rfl) [] (ASub.refl _) (AHeap.sub_refl _) (fun p hp => by cases hp) ⟨rfl, ?_⟩
      first | (rw [← hc, drop_cons hx, bvGo, if_neg (by omega), if_pos (by omega)]; rfl; done) | (rw [← hc, drop_cons hx, bvGo, if_neg (by omega), if_pos (by omega)]; rfl; rfl)
     ·
      try simp only [NM] at hc33
      refine g_skip ?_
      refine g_block_normal ?_
      refine g_next hK9 ?_
      refine g_region ?_
      refine g_step rfl (s_val (v_add rfl rfl (by omega)) rfl rfl ?_)
      refine g_step rfl (s_val (v_move rfl) rfl rfl ?_)
      refine g_nil ?_
      first | refine g_keep [3, 4, 10, 11, 12] [] [] (keep_cons rfl (keep_cons rfl (keep_cons rfl (keep_cons rfl (keep_cons rfl keep_nil))))) lkeep_nil keep_nil rfl ?_ | refine g_keep [3, 4, 10, 11, 12] [] [] rfl rfl rfl rfl ?_
      exact g_round _ (by omega) ⟨k + 1, x.tag, by omega, rfl, by rw [bsize_take hx]; rfl, rfl, rfl, rfl, by rw [drop_cons hx, bvGo, if_neg (by omega), if_neg (by omega)] at hc; rw [bsize_take hx]; exact hc⟩
  ·
   try simp only [NM] at hc13
   rw [List.drop_of_length_le (by omega), bvGo] at hc
   refine g_exit ?_
   refine g_then_exit ?_
   refine g_then_exit ?_
   refine g_block_same ?_
   refine g_next hK5 ?_
   refine g_seq (fun K19 hK19 => ?_)
   refine g_region ?_
   refine g_step rfl (s_val (v_assign rfl) rfl rfl ?_)
   refine g_nil ?_
   refine g_next hK19 ?_
   refine g_ret ?_
   refine g_end1 (.inl rfl) Try.results96 (.tmp rfl) [] (ASub.refl _) (AHeap.sub_refl _) (fun p hp => by cases hp) ⟨rfl, ?_⟩
   first | (rw [← hc]; rfl; done) | (rw [← hc]; rfl; rfl)

theorem bagOne_ok (f : Fd) (G : AHeap) (hl : f.data.length ≤ 1000000) : PCalls Try.prog 104 [encFd f] G (fun r => r = encFd f) := by
 refine LCalls.intro 16 fi104 rfl Try.ntmps104 rfl (fun _ h => h.elim) (fun H hH w0 hw0 => ?_)
 refine g_seq (fun K0 hK0 => ?_)
 refine g_region ?_
 refine g_step rfl (s_box rfl rfl rfl rfl ?_)
 refine g_step rfl (s_alloc (av := (.agg [(.int .i64 0), .nil0])) ty131 rfl rfl rfl rfl ?_)
 refine g_nil ?_
 refine g_next hK0 ?_
 refine g_seq (fun K1 hK1 => ?_)
 refine g_region ?_
 refine g_step rfl (s_fieldAddr ty131 fo131_1 ty129 rfl rfl ?_)
 refine g_step rfl (s_val (v_loadl ty129 rfl rfl rfl rfl) rfl rfl ?_)
 refine g_step rfl (s_val (v_len ty129 rfl (by first | rfl | assumption) (by first | exact List.length_map .. | rfl)) rfl rfl ?_)
 refine g_step rfl (s_makeO (n := f.data.length) (za := (.int .u8 0)) ty129 ty5 rfl rfl rfl rfl rfl rfl (by omega) (by omega) ?_)
 intro r7 hr7 hw7
 refine g_step rfl (s_val (v_assign rfl) rfl rfl ?_)
 refine g_nil ?_
 refine g_next hK1 ?_
 refine g_seq (fun K2 hK2 => ?_)
 refine g_region ?_
 refine g_step rfl (s_val (v_move rfl) rfl rfl ?_)
 refine g_step rfl (s_fieldAddr ty131 fo131_1 ty129 rfl rfl ?_)
 refine g_step rfl (s_val (v_loadl ty129 rfl rfl rfl rfl) rfl rfl ?_)
 refine g_step rfl (s_copy (l := (List.replicate f.data.length (.int .u8 0))) (m := (f.data.map (.int .u8))) (l' := (f.data.map (.int .u8))) (k := f.data.length) ty129 ty5 rfl rfl (AHeap.get_set _ _ _) (by simp <;> omega) rfl (by first | rfl | assumption) (by refine Even.map _ ?_ _; intro _; rfl) (by intro x hx; obtain ⟨_, _, rfl⟩ := List.mem_map.1 hx; rfl) (.inr hw7) (by simp <;> omega) (by simp [List.take_of_length_le]) ?_)
 rw [AHeap.set_set]
 refine g_nil ?_
 refine g_next hK2 ?_
 refine g_seq (fun K3 hK3 => ?_)
 refine g_region ?_
 refine g_step rfl (s_fieldAddr ty131 fo131_0 ty3 rfl rfl ?_)
 refine g_step rfl (s_val (v_loadl ty3 rfl rfl rfl rfl) rfl rfl ?_)
 refine g_step rfl (s_val (v_move rfl) rfl rfl ?_)
 refine g_freeze 14 rfl (H := H) (sz := 1) (l := f.data.map (.int .u8)) (.inr ⟨r7, hr7, hw7, by simp, rfl⟩) ?_
 refine g_step rfl (s_val (v_build (vs := [(0, _), (1, _)]) (zs := [(.int .i64 0), .nil0]) (cells := [_, _]) ty131 pl131 rfl rfl rfl) rfl rfl ?_)
 refine g_step rfl (s_store_all ty131 rfl rfl rfl rfl rfl rfl ?_)
 refine g_nil ?_
 refine g_next hK3 ?_
 refine g_ret ?_
 refine g_end1 (.inl rfl) Try.results104 (.agg ty131 rfl rfl rfl rfl rfl) [] (ASub.refl _) (AHeap.sub_refl _) (fun p hp => by cases hp) ⟨rfl, ?_⟩
 rfl

theorem bagCopyO_ok (a : List Fd) (G : AHeap) (va : AV) (hva : va.view G = some (a.map encFd)) (hl : Small a) : LCalls Try.prog 89 [va] G noD (fun n r effs => OwnR n 2 r (a.map encFd) effs) := by
 refine LCalls.intro 19 fi89 rfl Try.ntmps89 rfl (fun _ h => h.elim) (fun H hH w0 hw0 => ?_)
 have hl1 := hl.1
 have hva := view_sub hH hva
 refine g_seq (fun K0 hK0 => ?_)
 refine g_region ?_
 refine g_step rfl (s_val (v_assign rfl) rfl rfl ?_)
 refine g_nil ?_
 refine g_next hK0 ?_
 refine g_seq (fun K1 hK1 => ?_)
 refine g_region ?_
 refine g_step rfl (s_val (v_assign rfl) rfl rfl ?_)
 refine g_nil ?_
 refine g_next hK1 ?_
 refine g_seq (fun K2 hK2 => ?_)
 refine g_seq (fun K3 hK3 => ?_)
 refine g_region ?_
 refine g_step rfl (s_val (v_move rfl) rfl rfl ?_)
 refine g_step rfl (s_val (v_len ty30 rfl (by first | rfl | assumption) (by first | exact List.length_map .. | rfl)) rfl rfl ?_)
 refine g_step rfl (s_val (v_move rfl) rfl rfl ?_)
 refine g_nil ?_
 refine g_next hK3 ?_
 refine g_block ?_
 first | refine g_keep [3, 6, 7, 8] [] [] (keep_cons rfl (keep_cons rfl (keep_cons rfl (keep_cons rfl keep_nil)))) lkeep_nil keep_nil rfl ?_ | refine g_keep [3, 6, 7, 8] [] [] rfl rfl rfl rfl ?_
 refine g_loop (fun n env L B G => ∃ (k : Nat) (av : AV), k ≤ a.length ∧ n = a.length - k ∧ env = [(3, av), (6, va), (7, .int .i64 (a.length : Int)), (8, .int .i64 (k : Int))] ∧ L = [] ∧ B = [] ∧ Own w0.heap.size 2 H av ((a.take k).map encFd) G) (a.length) ⟨0, .nil0, Nat.zero_le _, rfl, rfl, rfl, rfl, Own.nil ..⟩ (fun n env L B G hI => ?_)
 obtain ⟨k, av, hk, rfl, rfl, rfl, rfl, hown⟩ := hI
 have hva2 : va.view G = some (a.map encFd) := view_sub hown.sub hva
 refine g_seq (fun K4 hK4 => ?_)
 refine g_region ?_
 refine g_step rfl (s_val (v_lss rfl rfl) rfl rfl ?_)
 refine g_nil ?_
 refine g_next hK4 ?_
 refine g_seq (fun K5 hK5 => ?_)
 refine g_cond rfl (fun hc9 => ?_) (fun hc9 => ?_)
 ·
  try simp only [NM] at hc9
  obtain ⟨x, hx⟩ := get_some (l := a) (k := k) (by omega)
  have hsx := bsize_mem (mem_get hx)
  have hl2 := hl.2
  refine g_skip ?_
  refine g_next hK5 ?_
  refine g_seq (fun K6 hK6 => ?_)
  refine g_block ?_
  refine g_seq (fun K7 hK7 => ?_)
  refine g_region ?_
  refine g_step rfl (s_val (v_indexAddr ty30 ty131 rfl rfl hva2 (by first | rfl | exact (rfl : (0 : Int) = ((0 : Nat) : Int)) | exact (Int.toNat_of_nonneg (by omega)).symm) (by first | assumption | exact map_get (by assumption) | rfl) rfl) rfl rfl ?_)
  refine g_step rfl (s_val (by first | exact v_load_elt ty131 rfl rfl hva2 (by first | assumption | exact map_get (by assumption) | rfl) rfl rfl | exact v_load_box_all ty131 rfl rfl (by assumption) rfl rfl | exact v_load_part (cs := [_, _]) ty131 rfl rfl hva2 (by first | assumption | exact map_get (by assumption) | rfl) rfl rfl rfl | exact v_load_box_part (cs := [_, _]) ty131 rfl rfl (by assumption) rfl rfl rfl) rfl rfl ?_)
  refine g_step rfl (s_alloc (av := (.agg [(.int .i64 0), .nil0])) ty131 rfl rfl rfl rfl ?_)
  refine g_step rfl (s_store_all ty131 rfl rfl rfl rfl rfl rfl ?_)
  refine g_nil ?_
  refine g_next hK7 ?_
  refine g_region ?_
  refine g_step rfl (s_val (v_move rfl) rfl rfl ?_)
  refine g_step rfl (s_val (by first | exact v_loadl_all ty131 rfl rfl rfl rfl rfl | exact v_loadl_part (cs := [_, _]) ty131 rfl rfl rfl rfl rfl rfl) rfl rfl ?_)
  refine g_step rfl (s_callp rfl rfl rfl (bagOne_ok _ _ (by omega)) ?_)
  rintro _ rfl
  refine g_step rfl (s_lit ty30 ty131 rfl rfl rfl rfl rfl rfl rfl ?_)
  refine g_step rfl (s_append (l := ((a.take k).map encFd)) (m := ([x].map encFd)) ty30 ty131 rfl rfl hown rfl rfl (by refine Even.map _ ?_ _; intro _; rfl) (by intro x hx; obtain ⟨_, _, rfl⟩ := List.mem_map.1 hx; rfl) rfl (by simp; omega) (by simp; omega) ?_)
  intro av16 G16 hown16
  refine g_step rfl (s_val (v_assign rfl) rfl rfl ?_)
  refine g_nil ?_
  refine g_block_normal ?_
  refine g_next hK6 ?_
  refine g_region ?_
  refine g_step rfl (s_val (v_add rfl rfl (by omega)) rfl rfl ?_)
  refine g_step rfl (s_val (v_move rfl) rfl rfl ?_)
  refine g_nil ?_
  first | refine g_keep [3, 6, 7, 8] [] [] (keep_cons rfl (keep_cons rfl (keep_cons rfl (keep_cons rfl keep_nil)))) lkeep_nil keep_nil rfl ?_ | refine g_keep [3, 6, 7, 8] [] [] rfl rfl rfl rfl ?_
  exact g_round _ (by omega) ⟨k + 1, av16, by omega, rfl, rfl, rfl, rfl, by rw [List.take_add_one, hx, List.map_append]; exact hown16⟩
 ·
  try simp only [NM] at hc9
  obtain rfl : k = a.length := by omega
  rw [List.take_length] at hown
  obtain ⟨e, he1, he2, he3⟩ := hown.effs
  refine g_exit ?_
  refine g_then_exit ?_
  refine g_then_exit ?_
  refine g_block_same ?_
  refine g_next hK2 ?_
  refine g_seq (fun K8 hK8 => ?_)
  refine g_region ?_
  refine g_step rfl (s_val (v_move rfl) rfl rfl ?_)
  refine g_step rfl (s_val (v_assign rfl) rfl rfl ?_)
  refine g_nil ?_
  refine g_next hK8 ?_
  refine g_ret ?_
  refine g_end1 (.inl rfl) Try.results89 (.tmp rfl) e (ASub.refl _) (by rw [he3]; exact AHeap.sub_refl _) (fun q hq => .inr (he2 q hq)) he1

theorem bagCopy_ok (a : List Fd) (G : AHeap) (va : AV) (hva : va.view G = some (a.map encFd)) (hl : Small a) : PCalls Try.prog 89 [va] G (fun r => r = encBag a) := LCalls.freeze (bagCopyO_ok a G va hva hl)
end Go.Proofs.Ytgedefcjngofkaa

/- Plain: what the laws of merging ask. -/
import Derived.Test.YtngffembdhcijaaPMerge
set_option linter.unusedVariables false
namespace Go.Proofs.Ytngffembdhcijaa
open Go.Proofs.Ytngffembdhcijaa.AM
theorem rfind_isSome (l : List Rc) (id : Int) : (rfind l id).2 = (l.find? (fun x => decide (x.id = id))).isSome := by
  unfold rfind
  cases l.find? (fun x => decide (x.id = id)) <;> rfl
theorem merge_finds {l : List Rc} {r : Rc} (h : r ∈ l) : (rfind (mergeL l) r.id).2 = true := by
  obtain ⟨a, ha⟩ := acc_some h
  rw [rfind_isSome, mergeL_find, ha]; rfl
section
variable {id : Int} {a b c : Option Rc} (ha : ∀ x, a = some x → x.id = id) (hb : ∀ x, b = some x → x.id = id) (hc : ∀ x, c = some x → x.id = id)
include ha hb hc
set_option linter.unusedSectionVars false
theorem ojn2_id : ∀ x, ojn2 a b = some x → x.id = id := by
  intro x hx
  cases a with
  | none => rw [ojn2_none] at hx; exact hb x hx
  | some u => cases b with
    | none => exact ha x hx
    | some v =>
      injection hx with hx
      rw [← hx, jn_id ((ha u rfl).trans (hb v rfl).symm)]; exact ha u rfl
theorem ojn2_four : ojn2 c (ojn2 a (ojn2 b a)) = ojn2 a (ojn2 b c) := by
  rw [ojn2_comm hb ha, ← ojn2_assoc a a b, ojn2_idem, ojn2_comm hc (ojn2_id ha hb hc), ojn2_assoc]
theorem ojn2_up1 : ojn2 a (ojn2 a (ojn2 b c)) = ojn2 a (ojn2 b c) := by rw [← ojn2_assoc, ojn2_idem]
theorem ojn2_up2 : ojn2 b (ojn2 a (ojn2 b c)) = ojn2 a (ojn2 b c) := by
  rw [← ojn2_assoc, ojn2_comm hb ha, ojn2_assoc, ← ojn2_assoc b b c, ojn2_idem]
theorem ojn2_up3 : ojn2 c (ojn2 a (ojn2 b c)) = ojn2 a (ojn2 b c) := by
  rw [← ojn2_assoc a b c, ojn2_comm hc (ojn2_id (ojn2_id ha hb hc) hc hc), ojn2_assoc, ojn2_idem]
end
theorem acc_ids (l : List Rc) (id : Int) : ∀ x, accId l id = some x → x.id = id := fun _ h => acc_id h
theorem acc3 (x y z : List Rc) (id : Int) : accId [x, y, z].flatten id = ojn2 (accId x id) (ojn2 (accId y id) (accId z id)) := by
  simp only [List.flatten_cons, List.flatten_nil, acc_append, acc_nil, ojn2_none']
theorem acc4 (x y z w : List Rc) (id : Int) : accId [x, y, z, w].flatten id = ojn2 (accId x id) (ojn2 (accId y id) (ojn2 (accId z id) (accId w id))) := by
  simp only [List.flatten_cons, List.flatten_nil, acc_append, acc_nil, ojn2_none']
theorem acc2 (x y : List Rc) (id : Int) : accId [x, y].flatten id = ojn2 (accId x id) (accId y id) := by
  simp only [List.flatten_cons, List.flatten_nil, acc_append, acc_nil, ojn2_none']
theorem flat_valid {ls : List (List Rc)} (h : ls.all srt = true) : ∀ r ∈ ls.flatten, recValid r = true := fun r hr => by
  obtain ⟨l, h1, h2⟩ := List.mem_flatten.1 hr
  exact (srt_incr (List.all_eq_true.1 h l h1)).2 r h2
theorem orders_eq {x y z : List Rc} (hx : srt x = true) (hy : srt y = true) (hz : srt z = true) : mergeL [x, y, z].flatten = mergeL [z, x, y, x].flatten :=
  mergeL_congr (flat_valid (by simp [hx, hy, hz])) (flat_valid (by simp [hx, hy, hz])) fun id => by
    rw [acc3, acc4, ojn2_four (acc_ids x id) (acc_ids y id) (acc_ids z id)]
theorem merge_srt {ls : List (List Rc)} (h : ls.all srt = true) : srt (mergeL ls.flatten) = true := mergeL_srt (flat_valid h)
theorem orders_late {x y z : List Rc} (hx : srt x = true) (hy : srt y = true) (hz : srt z = true) : mergeL [x, y, z].flatten = mergeL [x, mergeL [y, z].flatten].flatten :=
  mergeL_congr (flat_valid (by simp [hx, hy, hz])) (flat_valid (by simp only [List.all_cons, List.all_nil, hx, merge_srt (ls := [y, z]) (by simp [hy, hz]), Bool.and_true])) fun id => by
    rw [acc3, acc2, acc_incr id (srt_incr (merge_srt (ls := [y, z]) (by simp [hy, hz]))).1, mergeL_find, acc2]
theorem orders_under {x y z : List Rc} (hx : srt x = true) (hy : srt y = true) (hz : srt z = true) : under x (mergeL [x, y, z].flatten) = true ∧ under y (mergeL [x, y, z].flatten) = true ∧ under z (mergeL [x, y, z].flatten) = true := by
  have hv := flat_valid (ls := [x, y, z]) (by simp [hx, hy, hz])
  refine ⟨under_merge hx hv fun id => ?_, under_merge hy hv fun id => ?_, under_merge hz hv fun id => ?_⟩ <;> rw [acc3]
  · exact ojn2_up1 (acc_ids x id) (acc_ids y id) (acc_ids z id)
  · exact ojn2_up2 (acc_ids x id) (acc_ids y id) (acc_ids z id)
  · exact ojn2_up3 (acc_ids x id) (acc_ids y id) (acc_ids z id)
theorem flat2_len (a b : List Rc) : [a, b].flatten.length = a.length + b.length := by simp
theorem app_get {x y : List Rc} {k : Nat} {z : Rc} (h : (x ++ y)[k]? = some z) : (k < x.length → x[k]? = some z) ∧ (x.length ≤ k → y[k - x.length]? = some z) :=
  ⟨fun hk => by rw [List.getElem?_append_left hk] at h; exact h, fun hk => by rw [List.getElem?_append_right hk] at h; exact h⟩
end Go.Proofs.Ytngffembdhcijaa

/-
  Plain facts for BoardWakes: processes wait at a full buffer, each with its byte, and at an empty one. No conditions.
-/
import Derived.Test.YtglbfmcbojjglaaPlainH
namespace Go.Proofs.Ytglbfmcbojjglaa

/-- A process with the byte 100 + its number. -/
def fv (x : Wt) : Wt := ⟨x.proc, x.prio, 100 + x.proc⟩
def lv (ps : List Int) (k : Nat) : List Wt := (lst ps k).map fv

theorem enter_map (l : List Wt) (x : Wt) : enterW (l.map fv) (fv x) = (enterW l x).map fv := by
  have h : (l.map fv).findIdx (fun y => decide (y.prio < (fv x).prio)) = l.findIdx (fun y => decide (y.prio < x.prio)) := by
    rw [List.findIdx_map]
    rfl
  unfold enterW insW
  rw [h, List.map_append, List.map_cons, List.map_take, List.map_drop]
theorem lv_succ (ps : List Int) (k : Nat) : enterW (lv ps k) ⟨k, ps.getD k 0, 100 + k⟩ = lv ps (k + 1) := enter_map (lst ps k) ⟨k, ps.getD k 0, 0⟩
theorem ord_map {l : List Wt} (h : OrdW l) : OrdW (l.map fv) := by
  refine ⟨fun x hx => ?_, List.pairwise_map.2 h.2.1, List.pairwise_map.2 h.2.2⟩
  obtain ⟨y, hy, rfl⟩ := List.mem_map.1 hx
  exact h.1 y hy
theorem lv_ord (ps : List Int) (k : Nat) : OrdW (lv ps k) := ord_map (good_lst ps k).ordW
theorem lv_wf (ps : List Int) {k : Nat} (hk : k ≤ 1000) : WfW (lv ps k) := fun x hx => by
  obtain ⟨y, hy, rfl⟩ := List.mem_map.1 hx
  exact (good_lst ps k).wf hk y hy
theorem lv_len (ps : List Int) (k : Nat) : (lv ps k).length = k := by
  unfold lv
  rw [List.length_map, (good_lst ps k).len]
theorem mayL_map (l : List Wt) (q : Int) : mayL (l.map fv) q = mayL l q := by
  unfold mayL
  rw [List.any_map]
  rfl
theorem mayB_put (p : List Wt) (q : Int) : mayB p [] q = mayL p q := by simp [mayB, mayL]
theorem vldBu_full {p : List Wt} (c : Int) (ho : OrdW p) : vldBu 1 [c] p [] = true := by
  have h0 : OrdW [] := OrdW.nil
  simp [vldBu, ho, h0]

theorem put_first (c : Int) : putBu 1 [] [] [] 90 0 c = ([c], [], [], true, -1, 0) := by
  rw [put_store (by decide) rfl (by decide)]
  rfl
theorem put_full (ps : List Int) (c : Int) (k : Nat) : putBu 1 [c] (lv ps k) [] k (ps.getD k 0) (100 + k) = ([c], lv ps (k + 1), [], false, -1, 0) := by
  have hm : mayL (lv ps k) k = true := by
    unfold lv
    rw [mayL_map]
    exact (good_lst ps k).may
  rw [put_wait (by rw [vldBu_full c (lv_ord ps k), mayB_put, hm]; rfl) rfl (by simp), lv_succ]
theorem may_91 (ps : List Int) (k j : Nat) (hk : k ≤ 10) : mayL ((lst ps k).drop j) 91 = true := by
  rw [mayL_iff (by decide)]
  rintro ⟨x, hx, e⟩
  have := ((good_lst ps k).el x (List.mem_of_mem_drop hx)).2.2.1
  omega
theorem drop_cons {α : Type} (l : List α) (j : Nat) (hj : j < l.length) : l.drop j = l[j] :: l.drop (j + 1) := List.drop_eq_getElem_cons hj
theorem get_drop (ps : List Int) (c : Int) (k j : Nat) (hk : k ≤ 10) (hj : j < (lst ps k).length) : getBu 1 [c] ((lv ps k).drop j) [] 91 0 = ([100 + (lst ps k)[j].proc], (lv ps k).drop (j + 1), [], c, true, (lst ps k)[j].proc, 0) := by
  have hm : mayL ((lv ps k).drop j) 91 = true := by
    unfold lv
    rw [← List.map_drop, mayL_map]
    exact may_91 ps k j hk
  have hjl : j < (lv ps k).length := by unfold lv; simpa using hj
  have hx : (lv ps k)[j] = fv (lst ps k)[j] := by simp [lv]
  rw [get_wake (by rw [vldBu_full c ((lv_ord ps k).drop j), mayB_put, hm]; rfl) rfl (drop_cons _ j hjl), hx]
  rfl
theorem put_drop (ps : List Int) (k j : Nat) (hk : k ≤ 10) (hj : j < (lst ps k).length) : putBu 1 [] [] ((lst ps k).drop j) 91 0 7 = ([], [], (lst ps k).drop (j + 1), true, (lst ps k)[j].proc, 0) := by
  have h := good_lst ps k
  rw [put_wake (by rw [vldBu_get (by decide) (by decide) (h.ordW.drop j) (fun x hx => h.val x (List.mem_of_mem_drop hx)), mayB_nil, may_91 ps k j hk]; rfl) (drop_cons _ j hj)]
theorem get_last (c : Int) : getBu 1 [c] [] [] 91 0 = ([], [], [], c, true, -1, 0) := by
  rw [get_take (by rw [vldBu_full c OrdW.nil]; rfl) rfl rfl]
theorem put_last : putBu 1 [] [] [] 91 0 7 = ([7], [], [], true, -1, 0) := by decide
end Go.Proofs.Ytglbfmcbojjglaa

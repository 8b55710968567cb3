/-
  Plain facts for SemaCancels: who leaves a list, and who enters behind. No conditions.
-/
import Derived.Test.YtglbfmcbojjglaaPlainB
namespace Go.Proofs.Ytglbfmcbojjglaa

theorem enterW_split {A D : List Wt} {x : Wt} (h1 : ∀ a ∈ A, ¬ a.prio < x.prio) (h2 : ∀ d ∈ D, d.prio < x.prio) : enterW (A ++ D) x = A ++ x :: D := by
  have hk : (A ++ D).findIdx (fun y => decide (y.prio < x.prio)) = A.length := by
    cases D with
    | nil =>
      rw [List.append_nil, List.findIdx_eq_length]
      intro a ha
      simpa using h1 a ha
    | cons d D =>
      rw [List.findIdx_eq (by simp)]
      refine ⟨?_, fun j hj => ?_⟩
      · rw [List.getElem_append_right (Nat.le_refl _)]
        simpa using h2 d (by simp)
      · rw [List.getElem_append_left hj]
        simpa using h1 _ (List.getElem_mem hj)
  unfold enterW insW
  rw [hk, List.take_left, List.drop_left]

theorem leave_enter {l : List Wt} {x : Wt} {q : Int} (hs : l.Pairwise (fun a b => b.prio ≤ a.prio)) : leaveW (enterW l x) q = if x.proc = q then leaveW l q else enterW (leaveW l q) x := by
  have hl : leaveW l q = (l.take (l.findIdx fun y => decide (y.prio < x.prio))).filter (fun y => !decide (y.proc = q)) ++ (l.drop (l.findIdx fun y => decide (y.prio < x.prio))).filter (fun y => !decide (y.proc = q)) := by
    rw [← List.filter_append, List.take_append_drop]; rfl
  have h1 : ∀ a ∈ (l.take (l.findIdx fun y => decide (y.prio < x.prio))).filter (fun y => !decide (y.proc = q)), ¬ a.prio < x.prio := fun a ha => by
    have := enter_take (List.mem_filter.1 ha).1
    omega
  have h2 : ∀ d ∈ (l.drop (l.findIdx fun y => decide (y.prio < x.prio))).filter (fun y => !decide (y.proc = q)), d.prio < x.prio := fun d hd => enter_drop hs (List.mem_filter.1 hd).1
  have h3 : leaveW (enterW l x) q = (l.take (l.findIdx fun y => decide (y.prio < x.prio))).filter (fun y => !decide (y.proc = q)) ++ (if x.proc = q then [] else [x]) ++ (l.drop (l.findIdx fun y => decide (y.prio < x.prio))).filter (fun y => !decide (y.proc = q)) := by
    unfold leaveW enterW insW
    rw [List.filter_append, List.filter_cons]
    by_cases hx : x.proc = q <;> simp [hx]
  by_cases hx : x.proc = q
  · rw [h3, if_pos hx, if_pos hx, hl, List.append_nil]
  · rw [h3, if_neg hx, if_neg hx, hl, enterW_split h1 h2]
    simp

theorem leave_none {l : List Wt} {q : Int} (h : ∀ x ∈ l, x.proc ≠ q) : leaveW l q = l := by
  unfold leaveW
  rw [List.filter_eq_self]
  intro x hx
  simpa using h x hx
theorem leave_mem {l : List Wt} {q : Int} {x : Wt} : x ∈ leaveW l q ↔ x ∈ l ∧ x.proc ≠ q := by
  unfold leaveW
  rw [List.mem_filter]
  simp
theorem leave_leave (l : List Wt) (q : Int) : leaveW (leaveW l q) q = leaveW l q := leave_none fun _ hx => (leave_mem.1 hx).2
theorem OrdW.leave {l : List Wt} (h : OrdW l) (q : Int) : OrdW (leaveW l q) :=
  ⟨fun x hx => h.1 x (leave_mem.1 hx).1, h.2.1.sublist List.filter_sublist, h.2.2.sublist List.filter_sublist⟩

theorem lst_prio (ps : List Int) (k : Nat) : (lst ps k).Pairwise (fun a b => b.prio ≤ a.prio) := (good_lst ps k).ord.imp fun {_ _} hab => ahead_prio hab

/-- The others, one process left out. -/
theorem leave_lst (ps : List Int) (g k : Nat) : leaveW (lst ps (k + 1)) g = if k = g then leaveW (lst ps k) g else enterW (leaveW (lst ps k) g) ⟨k, ps.getD k 0, 0⟩ := by
  show leaveW (enterW (lst ps k) ⟨k, ps.getD k 0, 0⟩) g = _
  rw [leave_enter (lst_prio ps k)]
  by_cases h : k = g
  · subst h; simp
  · have : ¬ ((k : Int) = (g : Int)) := by omega
    simp [h, this]

theorem leave_valid (ps : List Int) (g : Int) (k : Nat) : vldS 0 (leaveW (lst ps k) g) = true ∧ vldE false (leaveW (lst ps k) g) = true ∧ mayL (leaveW (lst ps k) g) k = true ∧ WfW (leaveW (lst ps k) g) ∨ 1000 < k := by
  by_cases hk : k ≤ 1000
  · have h := good_lst ps k
    have ho := h.ordW.leave g
    have hv : ∀ x ∈ leaveW (lst ps k) g, x.val = 0 := fun x hx => h.val x (leave_mem.1 hx).1
    refine .inl ⟨vldS_of ho hv, vldE_of ho hv, ?_, fun x hx => h.wf hk x (leave_mem.1 hx).1⟩
    rw [mayL_iff (by omega)]
    rintro ⟨x, hx, e⟩
    have := (h.el x (leave_mem.1 hx).1).2.2.1
    omega
  · exact .inr (by omega)
theorem leave_length (l : List Wt) (q : Int) : (leaveW l q).length ≤ l.length := List.length_filter_le _ _

theorem wait_leave (ps : List Int) (g k : Nat) (hk : k ≤ 1000) (hne : k ≠ g) : waitS 0 (leaveW (lst ps k) g) k (ps.getD k 0) = (0, leaveW (lst ps (k + 1)) g, false, 0) := by
  obtain ⟨h1, _, h3, _⟩ := (leave_valid ps g k).resolve_right (by omega)
  unfold waitS
  rw [h1, h3, leave_lst, if_neg hne]
  simp
theorem until_leave (ps : List Int) (g k : Nat) (hk : k ≤ 1000) (hne : k ≠ g) : untilE false (leaveW (lst ps k) g) k (ps.getD k 0) = (leaveW (lst ps (k + 1)) g, false, 0) := by
  obtain ⟨_, h2, h3, _⟩ := (leave_valid ps g k).resolve_right (by omega)
  unfold untilE
  rw [h2, h3, leave_lst, if_neg hne]
  simp
theorem cancel_lst (ps : List Int) (g : Int) (k : Nat) : cancelS 0 (lst ps k) g = (leaveW (lst ps k) g, 0) ∧ cancelE false (lst ps k) g = (leaveW (lst ps k) g, 0) := by
  have h := good_lst ps k
  unfold cancelS cancelE
  rw [vldS_of h.ordW h.val, vldE_of h.ordW h.val]
  simp
theorem cancel_leave (ps : List Int) (g : Int) (k : Nat) (hk : k ≤ 1000) : cancelS 0 (leaveW (lst ps k) g) g = (leaveW (lst ps k) g, 0) ∧ cancelE false (leaveW (lst ps k) g) g = (leaveW (lst ps k) g, 0) := by
  obtain ⟨h1, h2, _, _⟩ := (leave_valid ps g k).resolve_right (by omega)
  unfold cancelS cancelE
  rw [h1, h2]
  simp [leave_leave]
end Go.Proofs.Ytglbfmcbojjglaa

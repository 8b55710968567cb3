/-
  Plain facts for SemaConserves and QueuingOrder: what an operation makes of a valid semaphore. No conditions.
-/
import Derived.Test.YtglbfmcbojjglaaPlainC
namespace Go.Proofs.Ytglbfmcbojjglaa

theorem OrdW.enter {l : List Wt} {x : Wt} (h : OrdW l) (h0 : 0 ≤ x.proc) (hn : ∀ y ∈ l, y.proc ≠ x.proc) : OrdW (enterW l x) := by
  refine ⟨fun y hy => ?_, enter_pairwise h.2.1 (fun y hy => hn y (List.mem_of_mem_take hy)) (fun y hy => (hn y (List.mem_of_mem_drop hy)).symm), enter_pairwise h.2.2 (fun y hy => enter_take hy) (fun y hy => Int.le_of_lt (enter_drop h.2.2 hy))⟩
  rcases enterW_mem.1 hy with rfl | hy
  · exact h0
  · exact h.1 y hy

theorem vldS_iff {c : Int} {l : List Wt} : vldS c l = true ↔ 0 ≤ c ∧ c ≤ 255 ∧ OrdW l ∧ (∀ x ∈ l, x.val = 0) ∧ (c = 0 ∨ l = []) := by
  simp only [vldS, vldL, Bool.and_eq_true, decide_eq_true_eq, Bool.not_eq_true', List.any_eq_false, bne_iff_ne, ne_eq, Decidable.not_not, Bool.or_eq_true, beq_iff_eq, List.length_eq_zero_iff]
  constructor
  · rintro ⟨⟨h1, h2⟩, ⟨h3, h4⟩, h5⟩
    exact ⟨h1, h2, h3, h4, h5⟩
  · rintro ⟨h1, h2, h3, h4, h5⟩
    exact ⟨⟨h1, h2⟩, ⟨h3, h4⟩, h5⟩

theorem cons_signal {c : Int} {l : List Wt} (h : vldS c l = true) :
    (∃ x m, l = x :: m ∧ c = 0 ∧ signalS c l = (0, m, x.proc, 0) ∧ 0 ≤ x.proc ∧ vldS 0 m = true) ∨
    (l = [] ∧ c = 255 ∧ signalS c l = (255, [], -1, 4)) ∨ (l = [] ∧ 0 ≤ c ∧ c < 255 ∧ signalS c l = (c + 1, [], -1, 0) ∧ vldS (c + 1) [] = true) := by
  obtain ⟨h1, h2, h3, h4, h5⟩ := vldS_iff.1 h
  cases l with
  | nil =>
    by_cases hc : c = 255
    · exact .inr (.inl ⟨rfl, hc, by subst hc; simp [signalS, h]⟩)
    · exact .inr (.inr ⟨rfl, h1, by omega, by simp [signalS, h, hc], vldS_iff.2 ⟨by omega, by omega, OrdW.nil, by simp, .inr rfl⟩⟩)
  | cons x m =>
    have hc : c = 0 := h5.resolve_right (by simp)
    subst hc
    exact .inl ⟨x, m, rfl, rfl, by simp [signalS, h], h3.1 x (by simp), vldS_iff.2 ⟨by omega, by omega, h3.drop 1, fun y hy => h4 y (by simp [hy]), .inl rfl⟩⟩

theorem cons_cancel {c : Int} {l : List Wt} (h : vldS c l = true) (p : Int) : cancelS c l p = (leaveW l p, 0) ∧ vldS c (leaveW l p) = true := by
  obtain ⟨h1, h2, h3, h4, h5⟩ := vldS_iff.1 h
  refine ⟨by simp [cancelS, h], vldS_iff.2 ⟨h1, h2, h3.leave p, fun x hx => h4 x (leave_mem.1 hx).1, ?_⟩⟩
  rcases h5 with h5 | h5
  · exact .inl h5
  · subst h5; exact .inr rfl

theorem cons_wait {c : Int} {l : List Wt} (h : vldS c l = true) {p : Int} (hp : 0 ≤ p) (r : Int) :
    (waitS c l p r = (c, l, false, 2) ∧ l.any (fun x => decide (x.proc = p)) = true) ∨ (0 < c ∧ waitS c l p r = (c - 1, l, true, 0) ∧ vldS (c - 1) l = true) ∨
    (c = 0 ∧ waitS c l p r = (0, enterW l ⟨p, r, 0⟩, false, 0) ∧ vldS 0 (enterW l ⟨p, r, 0⟩) = true) := by
  obtain ⟨h1, h2, h3, h4, h5⟩ := vldS_iff.1 h
  cases hm : mayL l p with
  | false =>
    refine .inl ⟨by simp [waitS, hm], ?_⟩
    simp only [mayL, Bool.and_eq_false_iff, decide_eq_false_iff_not, Bool.not_eq_false'] at hm
    exact hm.resolve_left (by omega)
  | true =>
    have hn := (mayL_iff hp).1 hm
    by_cases hc : 0 < c
    · refine .inr (.inl ⟨hc, by simp [waitS, h, hm, hc], vldS_iff.2 ⟨by omega, by omega, h3, h4, .inr (h5.resolve_left (by omega))⟩⟩)
    · have hc0 : c = 0 := by omega
      subst hc0
      refine .inr (.inr ⟨rfl, by simp [waitS, h, hm], vldS_iff.2 ⟨by omega, by omega, h3.enter hp (fun y hy e => hn ⟨y, hy, e⟩), fun x hx => ?_, .inl rfl⟩⟩)
      rcases enterW_mem.1 hx with rfl | hx
      · rfl
      · exact h4 x hx

theorem WfW.leave {l : List Wt} (h : WfW l) (p : Int) : WfW (leaveW l p) := fun x hx => h x (leave_mem.1 hx).1
theorem WfW.enter {l : List Wt} (h : WfW l) {x : Wt} (hx : (Lit.int .i64 x.proc).wf = true) : WfW (enterW l x) := fun y hy => by
  rcases enterW_mem.1 hy with rfl | hy
  · exact hx
  · exact h y hy
end Go.Proofs.Ytglbfmcbojjglaa

/-
  Plain facts: what processes that enter one after the other come to. No program in sight.
-/
import Derived.Test.YtglbfmcbojjglaaSignal
namespace Go.Proofs.Ytglbfmcbojjglaa

/-- a is woken ahead of b. -/
def Ahead (a b : Wt) : Prop := b.prio < a.prio ∨ (a.prio = b.prio ∧ a.proc < b.proc)

/-- The first k processes have entered, with the priorities ps. -/
def lst (ps : List Int) : Nat → List Wt
  | 0 => []
  | k + 1 => enterW (lst ps k) ⟨k, ps.getD k 0, 0⟩

structure Good (ps : List Int) (k : Nat) (l : List Wt) : Prop where
  len : l.length = k
  el : ∀ x ∈ l, x.val = 0 ∧ 0 ≤ x.proc ∧ x.proc < k ∧ x.prio = ps.getD x.proc.toNat 0
  ord : l.Pairwise Ahead

theorem enterW_mem {l : List Wt} {x y : Wt} : y ∈ enterW l x ↔ y = x ∨ y ∈ l := by
  unfold enterW insW
  rw [List.mem_append, List.mem_cons]
  constructor
  · rintro (h | h | h)
    · exact .inr (List.mem_of_mem_take h)
    · exact .inl h
    · exact .inr (List.mem_of_mem_drop h)
  · rintro (h | h)
    · exact .inr (.inl h)
    · rw [← List.take_append_drop (l.findIdx fun y => decide (y.prio < x.prio)) l, List.mem_append] at h
      rcases h with h | h
      · exact .inl h
      · exact .inr (.inr h)
theorem enterW_length (l : List Wt) (x : Wt) : (enterW l x).length = l.length + 1 := insW_length l _ x List.findIdx_le_length

theorem enter_take {l : List Wt} {x y : Wt} (h : y ∈ l.take (l.findIdx fun y => decide (y.prio < x.prio))) : x.prio ≤ y.prio := by
  rw [List.mem_take_iff_getElem] at h
  obtain ⟨j, hj, rfl⟩ := h
  have := List.not_of_lt_findIdx (p := fun y : Wt => decide (y.prio < x.prio)) (xs := l) (i := j) (by omega)
  simp at this
  omega
theorem enter_drop {l : List Wt} {x y : Wt} (hs : l.Pairwise (fun a b => b.prio ≤ a.prio)) (h : y ∈ l.drop (l.findIdx fun y => decide (y.prio < x.prio))) : y.prio < x.prio := by
  generalize hk : (l.findIdx fun y => decide (y.prio < x.prio)) = k at h
  by_cases hlt : k < l.length
  · rw [List.drop_eq_getElem_cons hlt, List.mem_cons] at h
    have h0 : l[k].prio < x.prio := by
      have := List.findIdx_getElem (xs := l) (p := fun y : Wt => decide (y.prio < x.prio)) (w := by rw [hk]; exact hlt)
      simp only [hk, decide_eq_true_eq] at this
      exact this
    rcases h with rfl | h
    · exact h0
    · obtain ⟨j, hj, rfl⟩ := List.getElem_of_mem h
      rw [List.getElem_drop]
      rw [List.pairwise_iff_getElem] at hs
      simp only [List.length_drop] at hj
      have := hs k (k + 1 + j) hlt (by omega) (by omega)
      omega
  · rw [List.drop_eq_nil_of_le (by omega)] at h
    cases h

theorem ahead_prio {a b : Wt} (h : Ahead a b) : b.prio ≤ a.prio := by unfold Ahead at h; omega
theorem ahead_proc {a b : Wt} (h : Ahead a b) (h2 : b.prio = a.prio) : a.proc < b.proc := by unfold Ahead at h; omega

theorem enter_pairwise {R : Wt → Wt → Prop} {l : List Wt} {x : Wt} (hp : l.Pairwise R) (h1 : ∀ y ∈ l.take (l.findIdx fun y => decide (y.prio < x.prio)), R y x) (h2 : ∀ y ∈ l.drop (l.findIdx fun y => decide (y.prio < x.prio)), R x y) : (enterW l x).Pairwise R := by
  unfold enterW insW
  rw [← List.take_append_drop (l.findIdx fun y => decide (y.prio < x.prio)) l, List.pairwise_append] at hp
  rw [List.pairwise_append, List.pairwise_cons]
  refine ⟨hp.1, ⟨h2, hp.2.1⟩, fun a ha b hb => ?_⟩
  rw [List.mem_cons] at hb
  rcases hb with rfl | hb
  · exact h1 a ha
  · exact hp.2.2 a ha b hb

theorem Good.step {ps : List Int} {k : Nat} {l : List Wt} (h : Good ps k l) : Good ps (k + 1) (enterW l ⟨k, ps.getD k 0, 0⟩) := by
  refine ⟨by rw [enterW_length, h.len], fun x hx => ?_, ?_⟩
  · rw [enterW_mem] at hx
    rcases hx with rfl | hx
    · exact ⟨rfl, by show (0 : Int) ≤ (k : Int); omega, by show (k : Int) < ((k + 1 : Nat) : Int); omega, by simp⟩
    · have := h.el x hx
      exact ⟨this.1, this.2.1, by omega, this.2.2.2⟩
  · refine enter_pairwise h.ord (fun y hy => ?_) (fun y hy => ?_)
    · have h1 := enter_take hy
      have h2 := (h.el y (List.mem_of_mem_take hy)).2.2.1
      unfold Ahead
      simp only at h1 ⊢
      omega
    · have h1 := enter_drop (h.ord.imp fun {a b} hab => ahead_prio hab) hy
      exact .inl h1

theorem good_lst (ps : List Int) (k : Nat) : Good ps k (lst ps k) := by
  induction k with
  | zero => exact ⟨rfl, by simp [lst], List.Pairwise.nil⟩
  | succ k ih => exact ih.step

theorem Good.ordW {ps : List Int} {k : Nat} {l : List Wt} (h : Good ps k l) : OrdW l := by
  refine ⟨fun x hx => (h.el x hx).2.1, List.Pairwise.imp_of_mem (fun {a b} ha hb hab e => ?_) h.ord, h.ord.imp fun {a b} hab => ahead_prio hab⟩
  have h1 := (h.el a ha).2.2.2
  have h2 := (h.el b hb).2.2.2
  rw [e] at h1
  unfold Ahead at hab
  omega

theorem OrdW.drop {l : List Wt} (h : OrdW l) (k : Nat) : OrdW (l.drop k) :=
  ⟨fun x hx => h.1 x (List.mem_of_mem_drop hx), h.2.1.sublist (List.drop_sublist k l), h.2.2.sublist (List.drop_sublist k l)⟩

theorem vldL_of {l : List Wt} (ho : OrdW l) (hv : ∀ x ∈ l, x.val = 0) : vldL l true = true := by
  have : l.any (fun x => x.val != 0) = false := by
    rw [List.any_eq_false]
    intro x hx
    simp [hv x hx]
  simp [vldL, ho, this]
theorem vldS_of {l : List Wt} (ho : OrdW l) (hv : ∀ x ∈ l, x.val = 0) : vldS 0 l = true := by
  simp only [vldS]
  rw [show ((0 : Int) == 0) = true from rfl, vldL_of ho hv]
  rfl
theorem vldE_of {l : List Wt} (ho : OrdW l) (hv : ∀ x ∈ l, x.val = 0) : vldE false l = true := by
  simp only [vldE, Bool.not_false]
  exact vldL_of ho hv

theorem Good.val {ps : List Int} {k : Nat} {l : List Wt} (h : Good ps k l) : ∀ x ∈ l, x.val = 0 := fun x hx => (h.el x hx).1
theorem Good.may {ps : List Int} {k : Nat} {l : List Wt} (h : Good ps k l) : mayL l k = true := by
  have : l.any (fun x => decide (x.proc = (k : Int))) = false := by
    rw [List.any_eq_false]
    intro x hx
    have := (h.el x hx).2.2.1
    simp
    omega
  simp only [mayL, this]
  simp
theorem Good.wf {ps : List Int} {k : Nat} {l : List Wt} (h : Good ps k l) (hk : k ≤ 1000) : WfW l := fun x hx => by
  have := h.el x hx
  exact WalkArith.wf_i64 (by omega)
theorem WfW.drop {l : List Wt} (h : WfW l) (j : Nat) : WfW (l.drop j) := fun x hx => h x (List.mem_of_mem_drop hx)

theorem wait_lst (ps : List Int) (k : Nat) : waitS 0 (lst ps k) k (ps.getD k 0) = (0, lst ps (k + 1), false, 0) := by
  have h := good_lst ps k
  unfold waitS
  rw [vldS_of h.ordW h.val, h.may]
  simp [lst]
theorem until_lst (ps : List Int) (k : Nat) : untilE false (lst ps k) k (ps.getD k 0) = (lst ps (k + 1), false, 0) := by
  have h := good_lst ps k
  unfold untilE
  rw [vldE_of h.ordW h.val, h.may]
  simp [lst]
theorem raise_lst (ps : List Int) (k : Nat) : raiseE false (lst ps k) = (true, [], (lst ps k).map (·.proc), 0) := by
  have h := good_lst ps k
  unfold raiseE
  rw [vldE_of h.ordW h.val]
  simp
theorem signal_drop {ps : List Int} {k : Nat} {l : List Wt} (h : Good ps k l) (j : Nat) (hj : j < l.length) : signalS 0 (l.drop j) = (0, l.drop (j + 1), l[j].proc, 0) := by
  have hv := vldS_of (h.ordW.drop j) (fun x hx => h.val x (List.mem_of_mem_drop hx))
  unfold signalS
  rw [hv, List.drop_eq_getElem_cons hj]
  simp

/-- The order in which they are woken, as the law asks it of two neighbours. -/
theorem Good.next {ps : List Int} {k : Nat} {l : List Wt} (h : Good ps k l) (j : Nat) (hj : j + 1 < l.length) :
    ¬ (ps.getD (l[j]'(by omega)).proc.toNat 0 < ps.getD l[j + 1].proc.toNat 0) ∧ (ps.getD (l[j]'(by omega)).proc.toNat 0 = ps.getD l[j + 1].proc.toNat 0 → (l[j]'(by omega)).proc < l[j + 1].proc) := by
  have ho := h.ord
  rw [List.pairwise_iff_getElem] at ho
  have h0 := ho j (j + 1) (by omega) hj (by omega)
  have h1 := (h.el _ (List.getElem_mem (by omega : j < l.length))).2.2.2
  have h2 := (h.el _ (List.getElem_mem hj)).2.2.2
  unfold Ahead at h0
  rw [← h1, ← h2]
  omega
end Go.Proofs.Ytglbfmcbojjglaa

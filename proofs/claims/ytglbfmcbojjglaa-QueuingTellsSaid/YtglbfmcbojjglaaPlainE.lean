/-
  Plain facts for QueuingOrder and QueuingLists. No conditions.
-/
import Derived.Test.YtglbfmcbojjglaaPlainD
namespace Go.Proofs.Ytglbfmcbojjglaa

theorem leave_one {l : List Wt} {p : Int} (h : l.Pairwise (fun a b => a.proc ≠ b.proc)) {k : Nat} (hk : k < l.length) (hp : l[k].proc = p) : (leaveW l p).length = l.length - 1 := by
  induction l generalizing k with
  | nil => simp at hk
  | cons a l ih =>
    rw [List.pairwise_cons] at h
    by_cases ha : a.proc = p
    · have : leaveW (a :: l) p = l := by
        have h1 : leaveW l p = l := leave_none fun y hy e => h.1 y hy (by rw [ha, e])
        show List.filter _ (a :: l) = l
        rw [List.filter_cons]
        simp only [ha, decide_true, Bool.not_true]
        exact h1
      rw [this]
      simp
    · cases k with
      | zero => exact absurd hp ha
      | succ k =>
        simp only [List.getElem_cons_succ] at hp
        have h1 := ih h.2 (by simpa using hk) hp
        have h2 : leaveW (a :: l) p = a :: leaveW l p := by
          show List.filter _ (a :: l) = _
          rw [List.filter_cons]
          simp [ha, leaveW]
        rw [h2, List.length_cons, h1, List.length_cons]
        have : 0 < l.length := by simp at hk; omega
        omega

theorem ordW_enter_iff {l : List Wt} {x : Wt} (h : OrdW l) (hn : ∀ y ∈ l, y.proc ≠ x.proc) : OrdW (enterW l x) ↔ 0 ≤ x.proc :=
  ⟨fun ho => ho.1 x (enterW_mem.2 (.inl rfl)), fun h0 => h.enter h0 hn⟩
theorem leave_enter_back {l : List Wt} {x : Wt} (h : OrdW l) (hn : ∀ y ∈ l, y.proc ≠ x.proc) : leaveW (enterW l x) x.proc = l := by
  rw [leave_enter h.2.2, if_pos rfl, leave_none hn]

/-- The place at which x enters. -/
def posW (l : List Wt) (x : Wt) : Nat := l.findIdx fun y => decide (y.prio < x.prio)
theorem posW_le (l : List Wt) (x : Wt) : posW l x ≤ l.length := List.findIdx_le_length
theorem enter_at {l : List Wt} {x : Wt} (h : OrdW l) (hn : ∀ y ∈ l, y.proc ≠ x.proc) (k : Nat) (hk : k < (enterW l x).length) :
    (k < posW l x ∧ (enterW l x)[k] ≠ x ∧ x.prio ≤ (enterW l x)[k].prio) ∨ (k = posW l x ∧ (enterW l x)[k] = x) ∨ (posW l x < k ∧ (enterW l x)[k] ≠ x ∧ (enterW l x)[k].prio < x.prio) := by
  have hle := posW_le l x
  have hlen := enterW_length l x
  have he : enterW l x = l.take (posW l x) ++ x :: l.drop (posW l x) := rfl
  have hne : ∀ y ∈ l, y ≠ x := fun y hy e => hn y hy (by rw [e])
  have htl : (l.take (posW l x)).length = posW l x := by simp; omega
  rcases Nat.lt_trichotomy k (posW l x) with hlt | heq | hgt
  · left
    have h1 : (enterW l x)[k] = (l.take (posW l x))[k]'(by omega) := by simp only [he]; rw [List.getElem_append_left (by omega)]
    have hm : (enterW l x)[k] ∈ l.take (posW l x) := by rw [h1]; exact List.getElem_mem _
    exact ⟨hlt, hne _ (List.mem_of_mem_take hm), enter_take hm⟩
  · right; left
    refine ⟨heq, ?_⟩
    simp only [he]
    rw [List.getElem_append_right (by omega)]
    simp [htl, heq]
  · right; right
    have h1 : (enterW l x)[k] = (l.drop (posW l x))[k - posW l x - 1]'(by simp; omega) := by
      simp only [he]
      rw [List.getElem_append_right (by omega)]
      simp only [htl]
      rw [List.getElem_cons, dif_neg (by omega)]
    have hm : (enterW l x)[k] ∈ l.drop (posW l x) := by rw [h1]; exact List.getElem_mem _
    exact ⟨hgt, hne _ (List.mem_of_mem_drop hm), enter_drop h.2.2 hm⟩
end Go.Proofs.Ytglbfmcbojjglaa

/-
  Plain facts for the laws of layer 24: processes wait at an empty buffer, at a full one, at a blackboard; one is cancelled. No conditions.
-/
import Derived.Test.YtglbfmcbojjglaaPlainC
import Derived.Test.YtglbfmcbojjglaaBuC
import Derived.Test.YtglbfmcbojjglaaBdB
namespace Go.Proofs.Ytglbfmcbojjglaa

theorem TyB.nil (w : World) (B : Nat) : TyB w B (.slice none 0 0) [] := Ty.nil _ _ _ _
theorem TyW.nil (w : World) (B : Nat) : TyW w B (.slice none 0 0) [] := Ty.nil _ _ _ _
theorem vldBu_get {n : Int} {g : List Wt} (hn1 : 1 ≤ n) (hn2 : n ≤ 16) (ho : OrdW g) (hv : ∀ x ∈ g, x.val = 0) : vldBu n [] [] g = true := by
  have h1 : g.any (fun y => y.val != 0) = false := by
    rw [List.any_eq_false]
    intro x hx
    simp [hv x hx]
  have h0 : OrdW [] := OrdW.nil
  have h2 : (0 : Int) ≤ n := by omega
  simp [vldBu, hn1, hn2, ho, h1, h0, h2]
theorem vldBd_wait {l : List Wt} (ho : OrdW l) (hv : ∀ x ∈ l, x.val = 0) : vldBd false 0 l = true := by
  have h1 : l.any (fun y => y.val != 0) = false := by
    rw [List.any_eq_false]
    intro x hx
    simp [hv x hx]
  simp [vldBd, ho, h1]
theorem mayB_nil (g : List Wt) (q : Int) : mayB [] g q = mayL g q := rfl
theorem leave_good (ps : List Int) (g : Int) (k : Nat) : OrdW (leaveW (lst ps k) g) ∧ ∀ x ∈ leaveW (lst ps k) g, x.val = 0 :=
  ⟨(good_lst ps k).ordW.leave g, fun x hx => (good_lst ps k).val x (leave_mem.1 hx).1⟩

theorem getBu_lst (ps : List Int) (k : Nat) : getBu 1 [] [] (lst ps k) k (ps.getD k 0) = ([], [], lst ps (k + 1), 0, false, -1, 0) := by
  have g := good_lst ps k
  rw [get_wait (by rw [vldBu_get (by decide) (by decide) g.ordW g.val, mayB_nil, g.may]; rfl) rfl]
  rfl
theorem lookBd_lst (ps : List Int) (k : Nat) : lookBd false 0 (lst ps k) k (ps.getD k 0) = (lst ps (k + 1), 0, false, 0) := by
  have g := good_lst ps k
  unfold lookBd
  rw [vldBd_wait g.ordW g.val, g.may]
  simp [lst]
theorem getBu_leave (ps : List Int) (g k : Nat) (hk : k ≤ 1000) (hne : k ≠ g) : getBu 1 [] [] (leaveW (lst ps k) g) k (ps.getD k 0) = ([], [], leaveW (lst ps (k + 1)) g, 0, false, -1, 0) := by
  obtain ⟨h1, h2⟩ := leave_good ps g k
  obtain ⟨_, _, h3, _⟩ := (leave_valid ps g k).resolve_right (by omega)
  rw [get_wait (by rw [vldBu_get (by decide) (by decide) h1 h2, mayB_nil, h3]; rfl) rfl, leave_lst, if_neg hne]
theorem lookBd_leave (ps : List Int) (g k : Nat) (hk : k ≤ 1000) (hne : k ≠ g) : lookBd false 0 (leaveW (lst ps k) g) k (ps.getD k 0) = (leaveW (lst ps (k + 1)) g, 0, false, 0) := by
  obtain ⟨h1, h2⟩ := leave_good ps g k
  obtain ⟨_, _, h3, _⟩ := (leave_valid ps g k).resolve_right (by omega)
  unfold lookBd
  rw [vldBd_wait h1 h2, h3, leave_lst, if_neg hne]
  simp
theorem cancBu_lst (ps : List Int) (g : Int) (k : Nat) : cancBu 1 [] [] (lst ps k) g = ([], leaveW (lst ps k) g, 0) := by
  have h := good_lst ps k
  unfold cancBu
  rw [vldBu_get (by decide) (by decide) h.ordW h.val]
  simp [leaveW]
theorem cancBu_leave (ps : List Int) (g : Int) (k : Nat) : cancBu 1 [] [] (leaveW (lst ps k) g) g = ([], leaveW (lst ps k) g, 0) := by
  obtain ⟨h1, h2⟩ := leave_good ps g k
  unfold cancBu
  rw [vldBu_get (by decide) (by decide) h1 h2, leave_leave]
  simp [leaveW]
theorem cancBd_lst (ps : List Int) (g : Int) (k : Nat) : cancBd false 0 (lst ps k) g = (leaveW (lst ps k) g, 0) := by
  have h := good_lst ps k
  unfold cancBd
  rw [vldBd_wait h.ordW h.val]
  simp
theorem cancBd_leave (ps : List Int) (g : Int) (k : Nat) : cancBd false 0 (leaveW (lst ps k) g) g = (leaveW (lst ps k) g, 0) := by
  obtain ⟨h1, h2⟩ := leave_good ps g k
  unfold cancBd
  rw [vldBd_wait h1 h2, leave_leave]
  simp
theorem leave_wf (ps : List Int) (g : Int) {k : Nat} (hk : k ≤ 1000) : WfW (leaveW (lst ps k) g) := fun x hx => (good_lst ps k).wf hk x (leave_mem.1 hx).1
theorem leave_len (ps : List Int) (g : Int) (k : Nat) : (leaveW (lst ps k) g).length ≤ k := Nat.le_trans (leave_length _ _) (Nat.le_of_eq (good_lst ps k).len)
theorem lookBd_again (ps : List Int) (k : Nat) : lookBd false 0 (lst ps (k + 1)) k 0 = (lst ps (k + 1), 0, false, 2) := by
  have hm : mayL (lst ps (k + 1)) (k : Int) = false := by
    have : ¬ mayL (lst ps (k + 1)) (k : Int) = true := by
      rw [mayL_iff (by omega)]
      intro hn
      exact hn ⟨⟨k, ps.getD k 0, 0⟩, enterW_mem.2 (.inl rfl), rfl⟩
    simpa using this
  simp [lookBd, hm]
theorem clearBd_lst (ps : List Int) (k : Nat) : clearBd false 0 (lst ps k) = (false, 0, 0) := by
  have h := good_lst ps k
  simp [clearBd, vldBd_wait h.ordW h.val]
theorem showBd_lst (ps : List Int) (k : Nat) (v : Int) : showBd false 0 (lst ps k) v = (true, v, [], (lst ps k).map (·.proc), 0) := by
  have h := good_lst ps k
  simp [showBd, vldBd_wait h.ordW h.val]
end Go.Proofs.Ytglbfmcbojjglaa

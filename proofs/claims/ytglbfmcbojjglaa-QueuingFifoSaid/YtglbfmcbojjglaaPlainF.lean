/-
  Plain facts for QueuingWakes: processes wait at an empty port, one is cancelled, the others are woken. No conditions.
-/
import Derived.Test.YtglbfmcbojjglaaPlainE
import Derived.Test.YtglbfmcbojjglaaQueE
namespace Go.Proofs.Ytglbfmcbojjglaa

theorem vldQ_port {k s d r : Int} (h : vldQ k s d r [] [] 0 = true) : 1 ≤ s ∧ s ≤ 64 ∧ 1 ≤ d ∧ d ≤ 16 ∧ badP k s d r = false := by
  simp only [vldQ, Bool.and_eq_true, Bool.not_eq_true'] at h
  have hb := h.1.1.1
  refine ⟨?_, ?_, ?_, ?_, hb⟩ <;> (simp only [badP, Bool.or_eq_false_iff, decide_eq_false_iff_not] at hb; omega)
theorem vldQ_wait {k s d r : Int} (h : vldQ k s d r [] [] 0 = true) {l : List Wt} (ho : OrdW l) (hv : ∀ x ∈ l, x.val = 0) : vldQ k s d r [] l 0 = true := by
  obtain ⟨_, _, h3, _, h5⟩ := vldQ_port h
  have ha : l.any (fun x => x.val != 0) = false := by
    rw [List.any_eq_false]
    intro x hx
    simp [hv x hx]
  have hs : badS d 0 0 l.length (decide (OrdW l)) = false := by
    simp [badS, ho]
    omega
  simp only [vldQ, List.length_nil, List.any_nil, h5, hs, ha]
  rfl

theorem recv_lst {k s d r : Int} (h : vldQ k s d r [] [] 0 = true) (ps : List Int) (n : Nat) : recvQ k s d r [] (lst ps n) 0 n (ps.getD n 0) = ([], lst ps (n + 1), [], false, 0) := by
  have g := good_lst ps n
  unfold recvQ
  rw [vldQ_wait h g.ordW g.val, g.may]
  simp [lst]
theorem recv_again {k s d r : Int} (ps : List Int) (n : Nat) : recvQ k s d r [] (lst ps (n + 1)) 0 n 0 = ([], lst ps (n + 1), [], false, 2) := by
  have hm : mayL (lst ps (n + 1)) (n : Int) = false := by
    have : ¬ mayL (lst ps (n + 1)) (n : Int) = true := by
      rw [mayL_iff (by omega)]
      intro hn
      exact hn ⟨⟨n, ps.getD n 0, 0⟩, enterW_mem.2 (.inl rfl), rfl⟩
    simpa using this
  simp [recvQ, hm]
theorem canc_lst {k s d r : Int} (h : vldQ k s d r [] [] 0 = true) (ps : List Int) (n : Nat) (g : Int) : cancQ k s d r [] (lst ps n) 0 g = (leaveW (lst ps n) g, 0) := by
  have gg := good_lst ps n
  simp [cancQ, vldQ_wait h gg.ordW gg.val]

/-- All but one. -/
def Lg (ps : List Int) (n g : Nat) : List Wt := leaveW (lst ps n) g
theorem lst_has (ps : List Int) {n g : Nat} (hg : g < n) : ∃ x ∈ lst ps n, x.proc = (g : Int) := by
  induction n with
  | zero => omega
  | succ n ih =>
    by_cases h : g = n
    · subst h; exact ⟨_, enterW_mem.2 (.inl rfl), rfl⟩
    · obtain ⟨x, hx, he⟩ := ih (by omega)
      exact ⟨x, enterW_mem.2 (.inr hx), he⟩
theorem Lg_length (ps : List Int) {n g : Nat} (hg : g < n) : (Lg ps n g).length = n - 1 := by
  obtain ⟨x, hx, he⟩ := lst_has ps hg
  obtain ⟨k, hk, rfl⟩ := List.getElem_of_mem hx
  have := leave_one (good_lst ps n).ordW.2.1 hk he
  rw [(good_lst ps n).len] at this
  exact this
theorem Lg_el (ps : List Int) {n g : Nat} {x : Wt} (hx : x ∈ Lg ps n g) : x.val = 0 ∧ 0 ≤ x.proc ∧ x.proc < n ∧ x.prio = ps.getD x.proc.toNat 0 ∧ x.proc ≠ g := by
  obtain ⟨h1, h2⟩ := leave_mem.1 hx
  obtain ⟨a, b, c, d⟩ := (good_lst ps n).el x h1
  exact ⟨a, b, c, d, h2⟩
theorem Lg_ord (ps : List Int) (n g : Nat) : OrdW (Lg ps n g) := (good_lst ps n).ordW.leave g
theorem Lg_wf (ps : List Int) {n g : Nat} (hn : n ≤ 1000) : WfW (Lg ps n g) := ((good_lst ps n).wf hn).leave g
theorem Lg_next (ps : List Int) (n g j : Nat) (hj : j + 1 < (Lg ps n g).length) :
    ¬ (ps.getD ((Lg ps n g)[j]'(by omega)).proc.toNat 0 < ps.getD (Lg ps n g)[j + 1].proc.toNat 0) ∧ (ps.getD ((Lg ps n g)[j]'(by omega)).proc.toNat 0 = ps.getD (Lg ps n g)[j + 1].proc.toNat 0 → ((Lg ps n g)[j]'(by omega)).proc < (Lg ps n g)[j + 1].proc) := by
  have ho : (Lg ps n g).Pairwise Ahead := (good_lst ps n).ord.sublist List.filter_sublist
  rw [List.pairwise_iff_getElem] at ho
  have h0 := ho j (j + 1) (by omega) hj (by omega)
  have h1 := (Lg_el ps (List.getElem_mem (by omega : j < (Lg ps n g).length))).2.2.2.1
  have h2 := (Lg_el ps (List.getElem_mem hj)).2.2.2.1
  unfold Ahead at h0
  rw [← h1, ← h2]
  omega
theorem send_drop {k s d r : Int} (h : vldQ k s d r [] [] 0 = true) {L : List Wt} (ho : OrdW L) (hv : ∀ x ∈ L, x.val = 0) (j : Nat) (hj : j < L.length) (b : Int) :
    sendQ k s d r [] (L.drop j) 0 [b] = ([], L.drop (j + 1), 0, L[j].proc, 0) := by
  have hs := (vldQ_port h).1
  unfold sendQ
  rw [vldQ_wait h (ho.drop j) (fun x hx => hv x (List.mem_of_mem_drop hx)), if_neg (by simp), if_neg (by simp; omega), List.drop_eq_getElem_cons hj]
theorem send_last {k s d r : Int} (h : vldQ k s d r [] [] 0 = true) (b : Int) : sendQ k s d r [] [] 0 [b] = ([[b]], [], 0, -1, 0) := by
  have hs := (vldQ_port h).1
  have hd := (vldQ_port h).2.2.1
  unfold sendQ
  rw [h, if_neg (by simp), if_neg (by simp; omega)]
  simp only [List.length_nil]
  rw [if_neg (by simp; omega)]
  rfl
end Go.Proofs.Ytglbfmcbojjglaa

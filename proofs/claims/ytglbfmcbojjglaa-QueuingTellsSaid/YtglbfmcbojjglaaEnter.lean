/-
  The contract of queuing.Enter. Conditions: the list can be read and has at most a hundred thousand elements.
-/
import Derived.Test.YtglbfmcbojjglaaInsert
import Derived.Deep.RegionWith
namespace Go.Proofs.Ytglbfmcbojjglaa
open Go.RowKit

/-- P23.1: behind all with at least the priority. -/
def enterW (l : List Wt) (x : Wt) : List Wt := insW l (l.findIdx fun y => decide (y.prio < x.prio)) x

set_option maxHeartbeats 400000 in
theorem enter1_c (x : Wt) (g : Nat) (p : Int) (w W : World) (hc : w.cell? ⟨g, 1, none⟩ = some (.int .i64 p)) (hg : g < w.heap.size) (hb : Below w.heap.size w W) :
    Calls Try.prog 96 #[.agg #[.int .i64 x.proc, .int .i64 x.prio, .int .u8 x.val], .pointer (some ⟨g, 0, none⟩)] W fun e w' => e = .returned (.bool (decide (x.prio < p))) ∧ Below w.heap.size w w' := by
  have hc' : W.cell? ⟨g, 1, none⟩ = some (.int .i64 p) := (hb.cell (p := ⟨g, 1, none⟩) hg).trans hc
  have hgW : g < W.heap.size := Nat.lt_of_lt_of_le hg hb.size
  have HB := Lib.hid hb
  clear hb hc
  go_enter Try.func96, Try.ntmps96
  go_wp2
  go_ret
  exact ⟨rfl, HB.out.alloc HB.out.size _⟩

theorem own_mono {w : World} {base base' : Nat} {e : TypeId} {size : Nat} {v : Value} {n : Nat} {xs : List Value} (h : w.ownsRow base e size v n xs) (hb : base' ≤ base) : w.ownsRow base' e size v n xs := by
  refine ⟨h.1, ?_⟩
  rcases h.2 with h2 | ⟨g, cap, cur, hv, hbg, r⟩
  · exact .inl h2
  · exact .inr ⟨g, cap, cur, hv, by omega, r⟩

theorem insert_step (w W : World) (v : Value) (l : List Wt) (x : Wt) (k vb base : Nat) (hown : W.ownsRow base 56 3 v l.length (cellsW l)) (hbb : w.heap.size ≤ base) (hbW : base ≤ W.heap.size)
    (hv : W.heap[vb]? = some (.cells (encW x).toArray 56 (0, 0))) (hne : ∀ g, v.ownBlock = some g → g ≠ vb) (hb : Below w.heap.size w W) (hl : l.length ≤ 100000) (hk : k ≤ l.length) :
    Calls Try.prog 97 #[v, .int .i64 k, .slice (some ⟨vb, 0, none⟩) 1 1] W fun e w' =>
      ∃ v', e = .returned v' ∧ w'.ownsRow w.heap.size 56 3 v' (insW l k x).length (cellsW (insW l k x)) ∧ Below w.heap.size w w' := by
  refine (insertW_c base v l vb k x W hown hbW (by omega) hk hv (fun e => hne vb e rfl)).mono ?_
  rintro e w' ⟨v', rfl, ho, hg⟩
  exact ⟨v', rfl, own_mono ho hbb, hb.grown hg hb.size (fun g hgg => Nat.le_trans hbb (hown.lt g hgg).1)⟩

theorem stepA (w W1 w2 : World) (v : Value) (l : List Wt) (x : Wt) (k : Nat) (hB : Below w.heap.size w W1) (hs : w.heap.size ≤ W1.heap.size) (HO : Hid (w2.ownsRow W1.heap.size 56 3 v l.length (cellsW l))) (HB : Hid (Below W1.heap.size W1 w2))
    (hl : l.length ≤ 100000) (hk : k ≤ l.length) :
    Calls Try.prog 97 #[v, .int .i64 k, .slice (some ⟨w2.heap.size, 0, none⟩) 1 1] (w2.alloc (.cells #[.int .i64 x.proc, .int .i64 x.prio, .int .u8 x.val] 56)) fun e w' =>
      ∃ v', e = .returned v' ∧ w'.ownsRow w.heap.size 56 3 v' (insW l k x).length (cellsW (insW l k x)) ∧ Below w.heap.size w w' :=
  have hB2 := hB.trans (HB.out.mono hs)
  insert_step w _ v l x k w2.heap.size W1.heap.size (HO.out.alloc _) hs (Nat.le_trans HB.out.size (by simp)) (heap_alloc_new w2 _) (fun g hg => Nat.ne_of_lt (HO.out.lt g hg).2) (hB2.alloc hB2.size _) hl hk

theorem stepB (w W1 w2 : World) (v : Value) (l : List Wt) (x : Wt) (k vb : Nat) (hB : Below w.heap.size w W1) (hs : w.heap.size ≤ W1.heap.size) (hvb : vb < W1.heap.size) (hv : W1.heap[vb]? = some (.cells (encW x).toArray 56 (0, 0)))
    (HO : Hid (w2.ownsRow W1.heap.size 56 3 v l.length (cellsW l))) (HB : Hid (Below W1.heap.size W1 w2))
    (hl : l.length ≤ 100000) (hk : k ≤ l.length) :
    Calls Try.prog 97 #[v, .int .i64 k, .slice (some ⟨vb, 0, none⟩) 1 1] w2 fun e w' =>
      ∃ v', e = .returned v' ∧ w'.ownsRow w.heap.size 56 3 v' (insW l k x).length (cellsW (insW l k x)) ∧ Below w.heap.size w w' :=
  insert_step w _ v l x k vb W1.heap.size HO.out hs HB.out.size ((HB.out.block vb hvb).trans hv) (fun g hg => by have := (HO.out.lt g hg).1; omega) (hB.trans (HB.out.mono hs)) hl hk

/-- The three ways through the last statement of Enter, each to the call of Insert. -/
def EnterEnd (w : World) (l : List Wt) (e : Ending) (w' : World) : Prop :=
  ∃ v', e = .returned v' ∧ w'.ownsRow w.heap.size 56 3 v' l.length (cellsW l) ∧ Below w.heap.size w w'

set_option maxHeartbeats 1000000 in
theorem enterW_c (v : Value) (l : List Wt) (x : Wt) (w : World) (h : RdW w 0 v l) (hl : l.length ≤ 100000) :
    Calls Try.prog 39 #[v, .agg #[.int .i64 x.proc, .int .i64 x.prio, .int .u8 x.val]] w fun e w' =>
      EnterEnd w (enterW l x) e w' := by
  obtain ⟨ao, cap, rfl, hnc, hno, _⟩ := h.open_
  obtain ⟨W0, hW0⟩ : ∃ W0, W0 = w.alloc (.cells #[.int .i64 x.proc, .int .i64 x.prio, .int .u8 x.val] 56) := ⟨_, rfl⟩
  have hz : W0.heap.size = w.heap.size + 1 := by subst hW0; simp
  have hW0b : W0.heap[w.heap.size]? = some (.cells (encW x).toArray 56 (0, 0)) := by subst hW0; exact heap_alloc_new w _
  have hb0 : Below w.heap.size w W0 := by subst hW0; exact (Below.refl _ _).alloc (Nat.le_refl _) _
  have hW0c : W0.cell? ⟨w.heap.size, 1, none⟩ = some (.int .i64 x.prio) := by rw [cell_of_row W0 _ _ _ _ _ hW0b]; rfl
  have h0 : RdW W0 0 (.slice ao l.length cap) l := h.below hb0
  have hpred : PredW 96 #[.pointer (some ⟨w.heap.size, 0, none⟩)] (fun y => decide (y.prio < x.prio)) W0 := fun W y hW => enter1_c y w.heap.size x.prio W0 W hW0c (by omega) hW
  have hidx := Lib.hid (indexW_c (.slice ao l.length cap) l 96 #[.pointer (some ⟨w.heap.size, 0, none⟩)] _ (enters_c Try.func96 (by kernel_rfl) rfl) W0 h0 (by omega) hpred)
  have H0 := Lib.hid h0
  have HB0 := Lib.hid hb0
  have HW0b := Lib.hid hW0b
  clear h hpred h0 hb0 hW0b hW0c
  have hfi : l.findIdx (fun y => decide (y.prio < x.prio)) ≤ l.length := List.findIdx_le_length
  have hfa : Hid (firstAt (fun y => decide (y.prio < x.prio)) l = if l.findIdx (fun y => decide (y.prio < x.prio)) < l.length then ((l.findIdx (fun y => decide (y.prio < x.prio)) : Nat) : Int) else -1) := rfl
  unfold enterW
  generalize l.findIdx (fun y => decide (y.prio < x.prio)) = k at hfi hfa ⊢
  generalize firstAt (fun y => decide (y.prio < x.prio)) l = q at hidx hfa
  -- the two ways to the place
  have hq : (q < 0 ∧ k = l.length) ∨ (q = (k : Int) ∧ k < l.length) := by
    have := hfa.out
    by_cases hk : k < l.length
    · rw [if_pos hk] at this; exact .inr ⟨this, hk⟩
    · rw [if_neg hk] at this; exact .inl ⟨by omega, by omega⟩
  clear hfa
  have HW0 := Lib.hid hW0
  clear hW0
  have hsz : w.heap.size < W0.heap.size := by omega
  rcases hq with ⟨hq1, rfl⟩ | ⟨rfl, hk⟩
  · go_enter Try.func39, Try.ntmps39
    go_wp2_with fail
    rw [← HW0.out]
    refine hidx.out.mono ?_
    rintro e w1 ⟨rfl, hb1⟩
    have hR1 := Lib.hid (H0.out.below hb1)
    have hB1 := Lib.hid (HB0.out.trans (hb1.mono (by omega)))
    have hblk : Hid (w1.heap[w.heap.size]? = some (.cells (encW x).toArray 56 (0, 0))) := (hb1.block _ hsz).trans HW0b.out
    have c0 : w1.cell? ⟨w.heap.size, 0, none⟩ = some (.int .i64 x.proc) := by rw [cell_of_row w1 _ _ _ _ _ hblk.out]; rfl
    have c1 : w1.cell? ⟨w.heap.size, 1, none⟩ = some (.int .i64 x.prio) := by rw [cell_of_row w1 _ _ _ _ _ hblk.out]; rfl
    have c2 : w1.cell? ⟨w.heap.size, 2, none⟩ = some (.int .u8 x.val) := by rw [cell_of_row w1 _ _ _ _ _ hblk.out]; rfl
    have hs1 : w.heap.size < w1.heap.size := Nat.lt_of_lt_of_le hsz hb1.size
    have sA : Hid (Below w.heap.size w w1.drew ∧ w.heap.size ≤ w1.drew.heap.size) := ⟨hB1.out.drew, Nat.le_of_lt hs1⟩
    have sB : Hid (Below w.heap.size w (w1.alloc (.cells #[.int .i64 x.proc, .int .i64 x.prio, .int .u8 x.val] 56)).drew ∧ w.heap.size ≤ (w1.alloc (.cells #[.int .i64 x.proc, .int .i64 x.prio, .int .u8 x.val] 56)).drew.heap.size ∧ w1.heap.size < (w1.alloc (.cells #[.int .i64 x.proc, .int .i64 x.prio, .int .u8 x.val] 56)).drew.heap.size ∧
        (w1.alloc (.cells #[.int .i64 x.proc, .int .i64 x.prio, .int .u8 x.val] 56)).drew.heap[w1.heap.size]? = some (.cells (encW x).toArray 56 (0, 0))) := ⟨(hB1.out.alloc (Nat.le_of_lt hs1) _).drew, (by simp; omega), (by simp), heap_alloc_new w1 _⟩
    clear hb1 hidx H0 HB0 HW0b HW0 hz hsz
    go_wp2_with fail
    go_region_with (first
      | (go_at_call 98; refine (cloneW_c _ l _ (by first | exact hR1.out.drew | exact hR1.out.drew.alloc _) (by omega)).mono ?_; rintro e w2 ⟨v1, rfl, hown, hb2⟩; have HO2 := Lib.hid hown; have HB2 := Lib.hid hb2; have e0 : w2.cell? ⟨w.heap.size, 0, none⟩ = some (.int .i64 x.proc) := (hb2.cell (p := ⟨w.heap.size, 0, none⟩) (by first | exact hs1 | (simp; omega))).trans (by go_simp); have e1 : w2.cell? ⟨w.heap.size, 1, none⟩ = some (.int .i64 x.prio) := (hb2.cell (p := ⟨w.heap.size, 1, none⟩) (by first | exact hs1 | (simp; omega))).trans (by go_simp); have e2 : w2.cell? ⟨w.heap.size, 2, none⟩ = some (.int .u8 x.val) := (hb2.cell (p := ⟨w.heap.size, 2, none⟩) (by first | exact hs1 | (simp; omega))).trans (by go_simp); clear hown hb2)
      | (go_at_call 97; with_reducible refine (stepA w w1.drew w2 v1 l x l.length sA.out.1 sA.out.2 HO2 HB2 hl hfi).mono ?_; rintro e w3 ⟨v3, rfl, ho3, hb3⟩; have HO3 := Lib.hid ho3; have HB3 := Lib.hid hb3; clear ho3 hb3)
      | (go_at_call 97; with_reducible refine (stepB w (w1.alloc (.cells #[.int .i64 x.proc, .int .i64 x.prio, .int .u8 x.val] 56)).drew w2 v1 l x l.length w1.heap.size sB.out.1 sB.out.2.1 sB.out.2.2.1 sB.out.2.2.2 HO2 HB2 hl hfi).mono ?_; rintro e w3 ⟨v3, rfl, ho3, hb3⟩; have HO3 := Lib.hid ho3; have HB3 := Lib.hid hb3; clear ho3 hb3))
    all_goals
      go_wp2
      go_ret
      exact ⟨_, rfl, HO3.out, HB3.out⟩
  · go_enter Try.func39, Try.ntmps39
    go_wp2_with fail
    rw [← HW0.out]
    refine hidx.out.mono ?_
    rintro e w1 ⟨rfl, hb1⟩
    have hR1 := Lib.hid (H0.out.below hb1)
    have hB1 := Lib.hid (HB0.out.trans (hb1.mono (by omega)))
    have hblk : Hid (w1.heap[w.heap.size]? = some (.cells (encW x).toArray 56 (0, 0))) := (hb1.block _ hsz).trans HW0b.out
    have c0 : w1.cell? ⟨w.heap.size, 0, none⟩ = some (.int .i64 x.proc) := by rw [cell_of_row w1 _ _ _ _ _ hblk.out]; rfl
    have c1 : w1.cell? ⟨w.heap.size, 1, none⟩ = some (.int .i64 x.prio) := by rw [cell_of_row w1 _ _ _ _ _ hblk.out]; rfl
    have c2 : w1.cell? ⟨w.heap.size, 2, none⟩ = some (.int .u8 x.val) := by rw [cell_of_row w1 _ _ _ _ _ hblk.out]; rfl
    have hs1 : w.heap.size < w1.heap.size := Nat.lt_of_lt_of_le hsz hb1.size
    have sA : Hid (Below w.heap.size w w1.drew ∧ w.heap.size ≤ w1.drew.heap.size) := ⟨hB1.out.drew, Nat.le_of_lt hs1⟩
    have sB : Hid (Below w.heap.size w (w1.alloc (.cells #[.int .i64 x.proc, .int .i64 x.prio, .int .u8 x.val] 56)).drew ∧ w.heap.size ≤ (w1.alloc (.cells #[.int .i64 x.proc, .int .i64 x.prio, .int .u8 x.val] 56)).drew.heap.size ∧ w1.heap.size < (w1.alloc (.cells #[.int .i64 x.proc, .int .i64 x.prio, .int .u8 x.val] 56)).drew.heap.size ∧
        (w1.alloc (.cells #[.int .i64 x.proc, .int .i64 x.prio, .int .u8 x.val] 56)).drew.heap[w1.heap.size]? = some (.cells (encW x).toArray 56 (0, 0))) := ⟨(hB1.out.alloc (Nat.le_of_lt hs1) _).drew, (by simp; omega), (by simp), heap_alloc_new w1 _⟩
    clear hb1 hidx H0 HB0 HW0b HW0 hz hsz
    go_wp2_with fail
    go_region_with (first
      | (go_at_call 98; refine (cloneW_c _ l _ (by first | exact hR1.out.drew | exact hR1.out.drew.alloc _) (by omega)).mono ?_; rintro e w2 ⟨v1, rfl, hown, hb2⟩; have HO2 := Lib.hid hown; have HB2 := Lib.hid hb2; have e0 : w2.cell? ⟨w.heap.size, 0, none⟩ = some (.int .i64 x.proc) := (hb2.cell (p := ⟨w.heap.size, 0, none⟩) (by first | exact hs1 | (simp; omega))).trans (by go_simp); have e1 : w2.cell? ⟨w.heap.size, 1, none⟩ = some (.int .i64 x.prio) := (hb2.cell (p := ⟨w.heap.size, 1, none⟩) (by first | exact hs1 | (simp; omega))).trans (by go_simp); have e2 : w2.cell? ⟨w.heap.size, 2, none⟩ = some (.int .u8 x.val) := (hb2.cell (p := ⟨w.heap.size, 2, none⟩) (by first | exact hs1 | (simp; omega))).trans (by go_simp); clear hown hb2)
      | (go_at_call 97; with_reducible refine (stepA w w1.drew w2 v1 l x k sA.out.1 sA.out.2 HO2 HB2 hl hfi).mono ?_; rintro e w3 ⟨v3, rfl, ho3, hb3⟩; have HO3 := Lib.hid ho3; have HB3 := Lib.hid hb3; clear ho3 hb3)
      | (go_at_call 97; with_reducible refine (stepB w (w1.alloc (.cells #[.int .i64 x.proc, .int .i64 x.prio, .int .u8 x.val] 56)).drew w2 v1 l x k w1.heap.size sB.out.1 sB.out.2.1 sB.out.2.2.1 sB.out.2.2.2 HO2 HB2 hl hfi).mono ?_; rintro e w3 ⟨v3, rfl, ho3, hb3⟩; have HO3 := Lib.hid ho3; have HB3 := Lib.hid hb3; clear ho3 hb3))
    all_goals
      go_wp2
      go_ret
      exact ⟨_, rfl, HO3.out, HB3.out⟩
end Go.Proofs.Ytglbfmcbojjglaa

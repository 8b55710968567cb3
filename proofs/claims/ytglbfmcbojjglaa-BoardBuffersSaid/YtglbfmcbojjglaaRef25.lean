/-
  The contracts of nacelleref25.list, ValidSema and ValidEvent. Conditions: the list can be read, at most ninety thousand elements.
-/
import Derived.Test.YtglbfmcbojjglaaRefOrd
namespace Go.Proofs.Ytglbfmcbojjglaa
open Go.RowKit

/-- A list is ordered and holds no bytes. -/
def bare25 (l : List Wt) : Bool := !l.any (fun x => x.val != 0) && decide (OrdW l)

set_option maxHeartbeats 1000000 in
theorem list25_c (v : Value) (l : List Wt) (w : World) (h : RdW w 0 v l) (hl : l.length ≤ 90000) :
    Calls Try.prog 109 #[v] w fun e w' => e = .returned (.bool (bare25 l)) ∧ Below w.heap.size w w' := by
  obtain ⟨ao, ca, rfl, hca, hna, pa⟩ := h.open_
  have HPA := Lib.hid pa
  have HR := Lib.hid h
  clear h pa
  go_enter Try.func109, Try.ntmps109
  go_wp2
  go_loopg [3] l.length (fun gg s3 wr => ∃ k : Nat, k ≤ l.length ∧ l.length - k ≤ gg ∧ s3 = .int .i64 k ∧ Aside (Below w.heap.size w wr) ∧ Aside (∀ x ∈ l.take k, x.val = 0))
  case atStart => exact ⟨0, Nat.zero_le _, by omega, rfl, Below.refl _ w, by simp [Aside]⟩
  case round =>
    obtain ⟨k, hk, hg, rfl, BW, A⟩ := hrel
    by_cases hlt : k < l.length
    · have hltz : (k : Int) < (l.length : Int) := by omega
      obtain ⟨b, off, rfl, _, hbs, ca'⟩ := HPA.out (by omega)
      obtain ⟨c0, c1, c2⟩ := ca' k hlt
      rw [← BW.out.cell (p := ⟨b, _, none⟩) hbs] at c0 c1 c2
      have hbr : b < wr.heap.size := Nat.lt_of_lt_of_le hbs BW.out.size
      clear ca'
      by_cases hv : l[k].val = 0
      · have hq : (l[k].val != 0) = false := by simp [hv]
        have HV := Lib.hid hv
        clear hv
        go_wp2
        go_roundg (l.length - (k + 1))
        case measure => omega
        case rel =>
          refine ⟨k + 1, by omega, by omega, by go_num, BW.out, fun x hx => ?_⟩
          rw [List.take_succ_eq_append_getElem hlt, List.mem_append, List.mem_singleton] at hx
          rcases hx with hx | rfl
          · exact A.out x hx
          · exact HV.out
      · have hq : (l[k].val != 0) = true := by simp [hv]
        have HV := Lib.hid hv
        clear hv
        go_wp2
        go_ret
        refine ⟨ret_bool ?_, BW.out⟩
        have : l.any (fun x => x.val != 0) = true := List.any_eq_true.2 ⟨l[k], List.getElem_mem hlt, by simpa using HV.out⟩
        simp [bare25, this]
    · have hltz : ¬ (k : Int) < (l.length : Int) := by omega
      have HA : Hid (bare25 l = decide (OrdW l)) := by
        show _ = _
        have h1 : l.any (fun x => x.val != 0) = false := by
          rw [List.any_eq_false]
          intro x hx
          have := A.out x (by rw [List.take_of_length_le (by omega)]; exact hx)
          simp [this]
        simp [bare25, h1]
      have RB := Lib.hid (HR.out.below BW.out)
      clear hlt
      go_wp2_with fail
      refine (refOrdered_c _ l _ RB.out hl).mono ?_
      rintro e w1 ⟨rfl, b1⟩
      have HB := Lib.hid (BW.out.trans (b1.mono BW.out.size))
      clear b1
      go_wp2_with fail
      go_ret
      exact ⟨ret_bool HA.out.symm, HB.out⟩

theorem vldS_bare (n : Int) (l : List Wt) : vldS n l = (decide (0 ≤ n) && decide (n ≤ 255) && (bare25 l && ((n == 0) || l.length == 0))) := by
  unfold vldS vldL bare25
  cases decide (OrdW l) <;> cases (l.any fun x => x.val != 0) <;> simp
theorem vldE_bare (u : Bool) (l : List Wt) : vldE u l = (bare25 l && (!u || l.length == 0)) := by
  unfold vldE vldL bare25
  cases decide (OrdW l) <;> cases (l.any fun x => x.val != 0) <;> simp

set_option maxHeartbeats 2000000 in
theorem validS25_c (n : Int) (v : Value) (l : List Wt) (w : World) (h : RdW w 0 v l) (hl : l.length ≤ 90000) :
    Calls Try.prog 58 #[.agg #[.int .i64 n, v]] w fun e w' => e = .returned (.bool (vldS n l)) ∧ Below w.heap.size w w' := by
  obtain ⟨W0, hW0⟩ : ∃ W0, W0 = w.alloc (.cells #[.int .i64 n, v] 88) := ⟨_, rfl⟩
  have hb0 : Below w.heap.size w W0 := by subst hW0; exact (Below.refl _ w).alloc (Nat.le_refl _) _
  have hblk : W0.heap[w.heap.size]? = some (.cells #[.int .i64 n, v] 88 (0, 0)) := by subst hW0; exact heap_alloc_new w _
  have HC := Lib.hid (list25_c v l W0 (h.below hb0) hl)
  obtain ⟨ao, ca, rfl, hca, hna, pa⟩ := h.open_
  have HBLK := Lib.hid hblk
  have HB0 := Lib.hid hb0
  have HW0 := Lib.hid hW0
  have HVB := Lib.hid (vldS_bare n l)
  clear h pa hca hna hb0 hW0 hblk
  by_cases h1 : 0 ≤ n
  · have E1 := Lib.hid (decide_eq_true h1)
    by_cases h2 : n ≤ 255
    · have E2 := Lib.hid (decide_eq_true h2)
      cases hb : bare25 l with
      | true =>
        have HB := Lib.hid hb
        rw [hb] at HC
        clear hb
        by_cases h3 : n = 0
        · have q3 : (n == 0) = true := by simp [h3]
          have E3 := Lib.hid q3
          clear h3
          go_enter Try.func58, Try.ntmps58
          go_wp2_with fail
          rw [← HW0.out]
          refine HC.out.mono ?_
          rintro e w1 ⟨rfl, b1⟩
          obtain ⟨x0, x1, _, _⟩ := twoBlk ((b1.block _ (blk_lt HBLK.out)).trans HBLK.out)
          have xs : w.heap.size < w1.heap.size := Nat.lt_of_lt_of_le (blk_lt HBLK.out) b1.size
          have HBE := Lib.hid (HB0.out.trans (b1.mono HB0.out.size))
          clear b1 HC HW0
          go_wp2_with fail
          go_ret
          exact ⟨ret_bool (by rw [HVB.out, E1.out, E2.out, HB.out, E3.out]; rfl), HBE.out⟩
        · have q3 : (n == 0) = false := by simp [h3]
          have E3 := Lib.hid q3
          have hlen : ((l.length : Int) == 0) = (l.length == 0) := by rw [Bool.eq_iff_iff]; simp
          have HLEN := Lib.hid hlen
          clear h3 hlen
          go_enter Try.func58, Try.ntmps58
          go_wp2_with fail
          rw [← HW0.out]
          refine HC.out.mono ?_
          rintro e w1 ⟨rfl, b1⟩
          obtain ⟨x0, x1, _, _⟩ := twoBlk ((b1.block _ (blk_lt HBLK.out)).trans HBLK.out)
          have xs : w.heap.size < w1.heap.size := Nat.lt_of_lt_of_le (blk_lt HBLK.out) b1.size
          have HBE := Lib.hid (HB0.out.trans (b1.mono HB0.out.size))
          clear b1 HC HW0
          go_wp2_with fail
          go_ret
          exact ⟨ret_bool (by rw [HVB.out, E1.out, E2.out, HB.out, E3.out]; first | rfl | (rw [← HLEN.out]; rfl)), HBE.out⟩
      | false =>
        have HB := Lib.hid hb
        rw [hb] at HC
        clear hb
        go_enter Try.func58, Try.ntmps58
        go_wp2_with fail
        rw [← HW0.out]
        refine HC.out.mono ?_
        rintro e w1 ⟨rfl, b1⟩
        have HBE := Lib.hid (HB0.out.trans (b1.mono HB0.out.size))
        clear b1 HC HW0
        go_wp2_with fail
        go_ret
        exact ⟨ret_bool (by rw [HVB.out, E1.out, E2.out, HB.out]; rfl), HBE.out⟩
    · have E2 := Lib.hid (decide_eq_false h2)
      clear HC
      go_enter Try.func58, Try.ntmps58
      go_wp2_with fail
      go_ret
      refine ⟨ret_bool (by rw [HVB.out, E1.out, E2.out]; rfl), ?_⟩
      rw [← HW0.out]
      exact HB0.out
  · have E1 := Lib.hid (decide_eq_false h1)
    clear HC
    go_enter Try.func58, Try.ntmps58
    go_wp2_with fail
    go_ret
    refine ⟨ret_bool (by rw [HVB.out, E1.out]; rfl), ?_⟩
    rw [← HW0.out]
    exact HB0.out

set_option maxHeartbeats 2000000 in
theorem validE25_c (u : Bool) (v : Value) (l : List Wt) (w : World) (h : RdW w 0 v l) (hl : l.length ≤ 90000) :
    Calls Try.prog 66 #[.agg #[.bool u, v]] w fun e w' => e = .returned (.bool (vldE u l)) ∧ Below w.heap.size w w' := by
  obtain ⟨W0, hW0⟩ : ∃ W0, W0 = w.alloc (.cells #[.bool u, v] 102) := ⟨_, rfl⟩
  have hb0 : Below w.heap.size w W0 := by subst hW0; exact (Below.refl _ w).alloc (Nat.le_refl _) _
  have hblk : W0.heap[w.heap.size]? = some (.cells #[.bool u, v] 102 (0, 0)) := by subst hW0; exact heap_alloc_new w _
  have HC := Lib.hid (list25_c v l W0 (h.below hb0) hl)
  obtain ⟨ao, ca, rfl, hca, hna, pa⟩ := h.open_
  have HBLK := Lib.hid hblk
  have HB0 := Lib.hid hb0
  have HW0 := Lib.hid hW0
  have HVB := Lib.hid (vldE_bare u l)
  have hlen : ((l.length : Int) == 0) = (l.length == 0) := by rw [Bool.eq_iff_iff]; simp
  have HLEN := Lib.hid hlen
  clear h pa hca hna hb0 hW0 hblk hlen
  generalize hbr : bare25 l = br at HC
  have HB := Lib.hid hbr
  clear hbr
  cases br <;> cases u
  all_goals
    go_enter Try.func66, Try.ntmps66
    go_wp2_with fail
    rw [← HW0.out]
    refine HC.out.mono ?_
    rintro e w1 ⟨rfl, b1⟩
    obtain ⟨x0, x1, _, _⟩ := twoBlk ((b1.block _ (blk_lt HBLK.out)).trans HBLK.out)
    have xs : w.heap.size < w1.heap.size := Nat.lt_of_lt_of_le (blk_lt HBLK.out) b1.size
    have HBE := Lib.hid (HB0.out.trans (b1.mono HB0.out.size))
    clear b1 HC HW0
    go_wp2_with fail
    go_ret
    exact ⟨ret_bool (by rw [HVB.out, HB.out]; first | rfl | (rw [← HLEN.out]; rfl)), HBE.out⟩
end Go.Proofs.Ytglbfmcbojjglaa

/-
  Contracts of sema.ValidSema, sema.ValidEvent and of the method procs. Conditions: the list can be read, its processes are of type int, at most a hundred thousand elements.
-/
import Derived.Test.YtglbfmcbojjglaaSemaB
namespace Go.Proofs.Ytglbfmcbojjglaa
open Go.RowKit

theorem below_drewN' {B : Nat} {a w : World} (h : Below B a w) (n : Nat) : Below B a (w.drewN n) := ⟨h.os, h.tape, h.output, h.size, h.block⟩

def vldS (n : Int) (l : List Wt) : Bool := decide (0 ≤ n) && decide (n ≤ 255) && vldL l (n == 0)

set_option maxHeartbeats 1000000 in
set_option maxRecDepth 100000 in
theorem validS_c (n : Int) (v : Value) (l : List Wt) (w : World) (h : RdW w 0 v l) (hwf : WfW l) (hl : l.length ≤ 100000) :
    Calls Try.prog 57 #[.agg #[.int .i64 n, v]] w fun e w' => e = .returned (.bool (vldS n l)) ∧ Below w.heap.size w w' := by
  obtain ⟨ao, cap, rfl, hnc, hno, _⟩ := h.open_
  have HR := Lib.hid (h.alloc (.cells #[.int .i64 n, .slice ao l.length cap] 71)).drew
  have HWF := Lib.hid hwf
  clear h hwf
  by_cases h0 : 0 ≤ n
  · by_cases h1 : n ≤ 255
    · have hv : Hid (vldS n l = vldL l (n == 0)) := by show _ = _; simp [vldS, h0, h1]
      rw [hv.out]
      clear hv
      have d0 : decide (0 ≤ n) = true := decide_eq_true h0
      have d1 : decide (n ≤ 255) = true := decide_eq_true h1
      have hB0 : Hid (Below w.heap.size w (w.alloc (.cells #[.int .i64 n, .slice ao l.length cap] 71)).drew) := ((Below.refl _ w).alloc (Nat.le_refl _) _).drew
      have hbs : Hid (w.heap.size ≤ (w.alloc (.cells #[.int .i64 n, .slice ao l.length cap] 71)).drew.heap.size) := by show _ ≤ _; simp
      generalize hq : vldL l (n == 0) = q
      have HQ := Lib.hid hq
      clear hq
      go_enter Try.func57, Try.ntmps57
      go_wp2_with fail
      go_region_with (first
        | (go_at_call 101; refine (openS_c n _ l _ HR.out hl).mono ?_; rintro e w2 ⟨g, v1, rfl, hg1, hg2, hfr, hb2, _⟩; have HG := Lib.hid hg2; have HF := Lib.hid hfr; have HB2 := Lib.hid (hB0.out.trans (hb2.mono hbs.out)); have e0 : w2.cell? ⟨w.heap.size, 0, none⟩ = some (.int .i64 n) := ((hb2.cell (p := ⟨w.heap.size, 0, none⟩) (by simp)).trans (by go_simp)); clear hg1 hg2 hfr hb2)
        | (go_at_call 108; refine (valid_c g 0 v1 l (n == 0) _ (by rw [cell_of_row _ _ _ _ _ _ HG.out]; rfl) HF.out.rd HWF.out hl).mono ?_; rintro e w3 ⟨rfl, hb3⟩; rw [HQ.out]; have HB3 := Lib.hid (HB2.out.trans (hb3.mono HB2.out.size)); clear hb3))
      all_goals
        go_wp2
        go_ret
        exact ⟨rfl, HB3.out⟩
    · have hv : Hid (vldS n l = false) := by show _ = _; simp [vldS]; omega
      rw [hv.out]
      clear hv HR HWF
      have d0 : decide (0 ≤ n) = true := decide_eq_true h0
      have d1 : decide (n ≤ 255) = false := decide_eq_false h1
      go_enter Try.func57, Try.ntmps57
      go_wp2_with fail
      refine wp_region_quiet_lit (by kernel_rfl) (by kernel_rfl) ?_
      iterate 19 (first | go_big_quiet_step (fail) | quiet_step (fail))
      refine wpQuiet_nil ?_
      intro _ hw'
      obtain ⟨nq, hw''⟩ := hw'
      subst hw''
      go_wp2
      go_ret
      exact ⟨rfl, below_drewN' ((Below.refl _ w).alloc (Nat.le_refl _) _) _⟩
  · have hv : Hid (vldS n l = false) := by show _ = _; simp [vldS]; omega
    rw [hv.out]
    clear hv HR HWF
    have d0 : decide (0 ≤ n) = false := decide_eq_false h0
    go_enter Try.func57, Try.ntmps57
    go_wp2_with fail
    refine wp_region_quiet_lit (by kernel_rfl) (by kernel_rfl) ?_
    iterate 19 (first | go_big_quiet_step (fail) | quiet_step (fail))
    refine wpQuiet_nil ?_
    intro _ hw'
    obtain ⟨nq, hw''⟩ := hw'
    subst hw''
    go_wp2
    go_ret
    exact ⟨rfl, below_drewN' ((Below.refl _ w).alloc (Nat.le_refl _) _) _⟩

def vldE (up : Bool) (l : List Wt) : Bool := vldL l (!up)

set_option maxHeartbeats 1000000 in
set_option maxRecDepth 100000 in
theorem validE_c (n : Bool) (v : Value) (l : List Wt) (w : World) (h : RdW w 0 v l) (hwf : WfW l) (hl : l.length ≤ 100000) :
    Calls Try.prog 65 #[.agg #[.bool n, v]] w fun e w' => e = .returned (.bool (vldE n l)) ∧ Below w.heap.size w w' := by
  obtain ⟨ao, cap, rfl, hnc, hno, _⟩ := h.open_
  have HR := Lib.hid (h.alloc (.cells #[.bool n, .slice ao l.length cap] 73)).drew
  have HWF := Lib.hid hwf
  clear h hwf
  have hB0 : Hid (Below w.heap.size w (w.alloc (.cells #[.bool n, .slice ao l.length cap] 73)).drew) := ((Below.refl _ w).alloc (Nat.le_refl _) _).drew
  have hbs : Hid (w.heap.size ≤ (w.alloc (.cells #[.bool n, .slice ao l.length cap] 73)).drew.heap.size) := by show _ ≤ _; simp
  generalize hq : vldE n l = q
  have HQ := Lib.hid hq
  clear hq
  go_enter Try.func65, Try.ntmps65
  go_wp2_with fail
  go_region_with (first
    | (go_at_call 105; refine (openE_c n _ l _ HR.out hl).mono ?_; rintro e w2 ⟨g, v1, rfl, hg1, hg2, hfr, hb2, _⟩; have HG := Lib.hid hg2; have HF := Lib.hid hfr; have HB2 := Lib.hid (hB0.out.trans (hb2.mono hbs.out)); have e0 : w2.cell? ⟨w.heap.size, 0, none⟩ = some (.bool n) := ((hb2.cell (p := ⟨w.heap.size, 0, none⟩) (by simp)).trans (by go_simp)); clear hg1 hg2 hfr hb2)
    | (go_at_call 108; refine (valid_c g 0 v1 l (!n) _ (by rw [cell_of_row _ _ _ _ _ _ HG.out]; rfl) HF.out.rd HWF.out hl).mono ?_; rintro e w3 ⟨rfl, hb3⟩; rw [show vldL l (!n) = q from HQ.out]; have HB3 := Lib.hid (HB2.out.trans (hb3.mono HB2.out.size)); clear hb3))
  all_goals
    go_wp2
    go_ret
    exact ⟨rfl, HB3.out⟩

end Go.Proofs.Ytglbfmcbojjglaa

/-
  The contract of queuing.Ordered. Conditions: the list can be read, its processes are of type int, it has at most a hundred thousand elements.
-/
import Derived.Test.YtglbfmcbojjglaaMaps
namespace Go.Proofs.Ytglbfmcbojjglaa
open Go.RowKit Go.Maps

def WfW (l : List Wt) : Prop := ∀ x ∈ l, (Lit.int .i64 x.proc).wf = true

set_option maxHeartbeats 1000000 in
set_option maxRecDepth 100000 in
theorem orderedW_c (v : Value) (l : List Wt) (w : World) (h : RdW w 0 v l) (hwf : WfW l) (hl : l.length ≤ 100000) :
    Calls Try.prog 44 #[v] w fun e w' => e = .returned (.bool (decide (OrdW l))) ∧ Below w.heap.size w w' := by
  obtain ⟨ao, ca, rfl, hca, hna, pa⟩ := h.open_
  clear h
  have hmm := @run_makeMap Try.prog
  have HWF := Lib.hid hwf
  clear hwf
  go_enter Try.func44, Try.ntmps44
  go_wp2
  clear hmm
  go_loopg [4, 5, 9] l.length (fun gg _ _ s9 wr => ∃ k : Nat, k ≤ l.length ∧ l.length - k ≤ gg ∧ s9 = .int .i64 k ∧ Aside (Below w.heap.size w wr ∧ CntM 3 .i64 wr w.heap.size k (cntP (l.take k)) ∧ OrdW (l.take k)))
  case atStart => exact ⟨0, Nat.zero_le _, by omega, rfl, (Below.refl _ w).alloc (Nat.le_refl _) _, CntM.made 3 .i64 w, OrdW.nil⟩
  case round =>
    obtain ⟨k, hk, hg, rfl, A⟩ := hrel
    by_cases hlt : k < l.length
    · have hltz : (k : Int) < (l.length : Int) := by omega
      obtain ⟨b, off, rfl, _, hbs, ca⟩ := pa (by omega)
      obtain ⟨c0, c1, c2⟩ := ca k hlt
      rw [← A.out.1.cell (p := ⟨b, _, none⟩) hbs] at c0 c1 c2
      have cp : Hid (0 < k → ∃ hh : k - 1 < l.length, wr.cell? ⟨b, off + (k - 1) * 3 + 1, none⟩ = some (.int .i64 l[k - 1].prio)) := fun h0 => ⟨by omega, (A.out.1.cell (p := ⟨b, _, none⟩) hbs).trans (ca (k - 1) (by omega)).2.1⟩
      have hbr : b < wr.heap.size := Nat.lt_of_lt_of_le hbs A.out.1.size
      clear pa ca
      have hwx : (Lit.int .i64 l[k].proc).wf = true := HWF.out _ (List.getElem_mem hlt)
      have hstep := Lib.hid (ordW_step l k hlt A.out.2.2)
      have hc1 : (CntM 3 .i64 (wr.alloc (.cells #[.int .i64 l[k].proc, .int .i64 l[k].prio, .int .u8 l[k].val] 56)) w.heap.size k (cntP (l.take k))) := A.out.2.1.alloc _
      have hlk := hc1.look Try.underlying139 Try.underlying3 l[k].proc hwx
      have hcl : cntP (l.take k) l[k].proc ≤ 100000 := by have := cntP_le (l.take k) l[k].proc; simp at this; omega
      have hcn := cntP_nonneg (l.take k) l[k].proc
      have hwc : (Lit.int .i64 (cntP (l.take k) l[k].proc + 1)).wf = true := WalkArith.wf_i64 (by omega)
      have HC1 := Lib.hid hc1
      clear hc1
      generalize hcq : cntP (l.take k) l[k].proc = c at hlk hcl hcn hwc
      have HCQ := Lib.hid hcq
      clear hcq
      -- what is known behind the update
      have hbehind : Hid (∀ w2, CntM 3 .i64 w2 w.heap.size (k + 1) (fun y => if y = l[k].proc then c + 1 else cntP (l.take k) y) → (wr.alloc (.cells #[.int .i64 l[k].proc, .int .i64 l[k].prio, .int .u8 l[k].val] 56)).grownBy w2 (some w.heap.size) →
          w2.heap[wr.heap.size]? = some (.cells #[.int .i64 l[k].proc, .int .i64 l[k].prio, .int .u8 l[k].val] 56 (0, 0)) ∧ (∀ m, (Instr.lookup 139 (.map (some w.heap.size)) (.int .i64 l[k].proc) false).run Try.prog (w2.drewN m) = .ok (.int .i64 (c + 1)) (w2.drewN m)) ∧
          (0 < k → ∃ hh : k - 1 < l.length, w2.cell? ⟨b, off + (k - 1) * 3 + 1, none⟩ = some (.int .i64 l[k - 1].prio)) ∧ Below w.heap.size w w2) := by
        intro w2 hc2 hg2
        have hmb : w.heap.size < wr.heap.size := A.out.2.1.lt
        refine ⟨(hg2.block wr.heap.size (by simp) (by simp; omega)).trans (heap_alloc_new wr _), fun m => ?_, fun h0 => ?_, ?_⟩
        · have := (hc2.drewN m).look Try.underlying139 Try.underlying3 l[k].proc hwx
          rwa [if_pos rfl] at this
        · obtain ⟨hh, hc⟩ := cp.out h0
          exact ⟨hh, hg2.cell (World.cell?_alloc_lt _ _ _ hbr |>.trans hc) (by simp; omega)⟩
        · exact (A.out.1.alloc A.out.1.size _).grown hg2 (by simp; omega) (by intro j hj; simp at hj; omega)
      have arm : Hid (∀ w2 : World, w2.heap[wr.heap.size]? = some (.cells #[.int .i64 l[k].proc, .int .i64 l[k].prio, .int .u8 l[k].val] 56 (0, 0)) →
          w2.cell? ⟨wr.heap.size, 0, none⟩ = some (.int .i64 l[k].proc) ∧ w2.cell? ⟨wr.heap.size, 1, none⟩ = some (.int .i64 l[k].prio)) := fun w2 h2 =>
        ⟨by rw [cell_of_row w2 _ _ _ _ _ h2]; rfl, by rw [cell_of_row w2 _ _ _ _ _ h2]; rfl⟩
      go_wp2_with (at_mapUpdate; refine wpList_cnt_update rfl _ _ _ 139 rfl Try.underlying139 Try.underlying3 HC1.out (by unfold maxLen; omega) l[k].proc (c + 1) hwx hwc rfl rfl rfl ?_; intro w2 hc2 hg2; obtain ⟨p1, p2, p3, p4⟩ := hbehind.out w2 hc2 hg2; obtain ⟨e0, e1⟩ := arm.out w2 p1; have P3 := Lib.hid p3; have P4 := Lib.hid p4; have HC2 := Lib.hid hc2; clear hc2 hg2 p1 p3 p4)
      clear hbehind arm cp hlk hwx hwc HC1 c0 c1 c2 HWF
      have hprev : Hid (cntP (l.take k) l[k].proc = 0 ↔ ∀ y ∈ l.take k, y.proc ≠ l[k].proc) := cntP_zero_iff _ _
      have hdone : Hid (∀ m, (¬ OrdW (l.take (k + 1))) → Ending.returned (.bool false) = .returned (.bool (decide (OrdW l))) ∧ Below w.heap.size w (w2.drewN m)) := fun m hno =>
        ⟨ret_bool (decide_eq_false (fun h => hno (h.take _))).symm, ⟨P4.out.os, P4.out.tape, P4.out.output, P4.out.size, P4.out.block⟩⟩
      have hgo : Hid (∀ m, OrdW (l.take (k + 1)) → Below w.heap.size w (w2.drewN m) ∧ CntM 3 .i64 (w2.drewN m) w.heap.size (k + 1) (cntP (l.take (k + 1))) ∧ OrdW (l.take (k + 1))) := fun m ho => by
        refine ⟨⟨P4.out.os, P4.out.tape, P4.out.output, P4.out.size, P4.out.block⟩, ?_, ho⟩
        have := cntP_snoc (l.take k) l[k]
        rw [← List.take_succ_eq_append_getElem hlt, HCQ.out] at this
        rw [← this]
        exact HC2.out.drewN m
      generalize hcc : c + 1 = c' at *
      have HC' := Lib.hid hcc
      clear hcc
      by_cases hA : 1 < c'
      · have hAd : decide ((1 : Int) < c') = true := decide_eq_true hA
        refine wp_region_quiet_lit (by kernel_rfl) (by kernel_rfl) ?_
        iterate 25 (first | go_big_quiet_step (fail) | quiet_step (fail))
        refine wpQuiet_nil ?_
        intro _ hw'
        obtain ⟨nq, hw''⟩ := hw'
        subst hw''
        go_wp2
        go_ret
        refine hdone.out _ (fun ho => ?_)
        have := hprev.out.2 ((hstep.out.1 ho).2.1)
        have := HCQ.out
        have := HC'.out
        omega
      · have hAd : decide ((1 : Int) < c') = false := decide_eq_false hA
        have hc0 : Hid (c = 0) := by have := HC'.out; show c = 0; omega
        by_cases hB : l[k].proc < 0
        · have hBd : decide (l[k].proc < 0) = true := decide_eq_true hB
          refine wp_region_quiet_lit (by kernel_rfl) (by kernel_rfl) ?_
          iterate 25 (first | go_big_quiet_step (fail) | quiet_step (fail))
          refine wpQuiet_nil ?_
          intro _ hw'
          obtain ⟨nq, hw''⟩ := hw'
          subst hw''
          go_wp2
          go_ret
          refine hdone.out _ (fun ho => ?_)
          have := (hstep.out.1 ho).1
          omega
        · have hBd : decide (l[k].proc < 0) = false := decide_eq_false hB
          have hnot : Hid (∀ y ∈ l.take k, y.proc ≠ l[k].proc) := hprev.out.1 (by rw [HCQ.out]; exact hc0.out)
          by_cases hC : 0 < k
          · have hCz : (0 : Int) < (k : Int) := by omega
            have hCd : decide ((0 : Int) < (k : Int)) = true := decide_eq_true hCz
            have hCd2 : decide (0 < k) = true := decide_eq_true hC
            obtain ⟨hh, cp1⟩ := P3.out hC
            have htn : ((k : Int) - 1).toNat = k - 1 := by omega
            have hwr : IntKind.i64.wrap ((k : Int) - 1) = (k : Int) - 1 := by rw [IntKind.wrap_i64]; omega
            have hb0 : (0 : Int) ≤ (k : Int) - 1 := by omega
            have hb0' : (1 : Int) ≤ (k : Int) := by omega
            have hb1 : (k : Int) - 1 < (l.length : Int) := by omega
            by_cases hD : l[k - 1].prio < l[k].prio
            · have hDd : decide (l[k - 1].prio < l[k].prio) = true := decide_eq_true hD
              refine wp_region_quiet_lit (by kernel_rfl) (by kernel_rfl) ?_
              iterate 25 (first | go_big_quiet_step (fail) | quiet_step (fail))
              refine wpQuiet_nil ?_
              intro _ hw'
              obtain ⟨nq, hw''⟩ := hw'
              subst hw''
              go_wp2
              go_ret
              refine hdone.out _ (fun ho => ?_)
              have := (hstep.out.1 ho).2.2 hC
              omega
            · have hDd : decide (l[k - 1].prio < l[k].prio) = false := decide_eq_false hD
              refine wp_region_quiet_lit (by kernel_rfl) (by kernel_rfl) ?_
              iterate 25 (first | go_big_quiet_step (fail) | quiet_step (fail))
              refine wpQuiet_nil ?_
              intro _ hw'
              obtain ⟨nq, hw''⟩ := hw'
              subst hw''
              go_wp2
              go_roundg (l.length - (k + 1))
              case measure => omega
              case rel =>
                exact ⟨k + 1, by omega, by omega, by go_num, hgo.out _ (hstep.out.2 ⟨by omega, hnot.out, fun _ => by omega⟩)⟩
          · have hCd : decide ((0 : Int) < (k : Int)) = false := decide_eq_false (by omega)
            have hCd2 : decide (0 < k) = false := decide_eq_false hC
            refine wp_region_quiet_lit (by kernel_rfl) (by kernel_rfl) ?_
            iterate 25 (first | go_big_quiet_step (fail) | quiet_step (fail))
            refine wpQuiet_nil ?_
            intro _ hw'
            obtain ⟨nq, hw''⟩ := hw'
            subst hw''
            go_wp2
            go_roundg (l.length - (k + 1))
            case measure => omega
            case rel =>
              exact ⟨k + 1, by omega, by omega, by go_num, hgo.out _ (hstep.out.2 ⟨by omega, hnot.out, fun h0 => absurd h0 hC⟩)⟩
    · have hltz : ¬ (k : Int) < (l.length : Int) := by omega
      go_wp2
      go_ret
      refine ⟨ret_bool (decide_eq_true ?_).symm, A.out.1⟩
      have := A.out.2.2
      rwa [List.take_of_length_le (by omega)] at this
end Go.Proofs.Ytglbfmcbojjglaa

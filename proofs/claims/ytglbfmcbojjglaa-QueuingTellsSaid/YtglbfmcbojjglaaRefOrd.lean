/-
  The contract of nacelleref23.Ordered. Conditions: the list can be read, at most ninety thousand elements.
-/
import Derived.Test.YtglbfmcbojjglaaRef23
import Derived.Test.YtglbfmcbojjglaaQueB
namespace Go.Proofs.Ytglbfmcbojjglaa
open Go.RowKit

/-- A world in which all that was there in w is as it was: the class for regions that read, draw their order, and call functions that lay memory. -/
structure BelW (w : World) where
  W : World
  h : Below w.heap.size w W
instance (w : World) : Inhabited (BelW w) := ⟨⟨w, Below.refl _ w⟩⟩
theorem wp_region_quiet_bel {P : Program} {id : Nat} {Q : Exit → Act → World → Prop} {a : Act} {w : World} {l : List Oper} (hm : P.follows .mixedOrders = true) (hB : Region.lexB .any l.toArray = true)
    (h : wpQuiet P l.toArray (fun w' => ∃ p : BelW w, w' = p.W) (fun a' => ∀ w', (∃ p : BelW w, w' = p.W) → Q .normal a' w') l a) : (Code.region id l.toArray true).wp P Q a w :=
  wp_region_quiet (C := fun w' => ∃ p : BelW w, w' = p.W) hm hB ⟨⟨w.drew, (Below.refl _ w).drew⟩, rfl⟩ (by simpa using h)
theorem Calls.bel_of {P : Program} {f : FuncId} {args : Array Value} {w : World} {p : BelW w} {v : Value}
    (h : Calls P f args p.W fun e w' => e = .returned v ∧ Below p.W.heap.size p.W w') : Calls P f args p.W fun e w'' => e = .returned v ∧ ∃ q : BelW w, w'' = q.W :=
  h.mono fun _ w' ⟨he, hb⟩ => ⟨he, ⟨w', p.h.trans (hb.mono p.h.size)⟩, rfl⟩

theorem RdW.takeK {w : World} {B b off m c : Nat} {l : List Wt} (h : RdW w B (.slice (some ⟨b, off, none⟩) m c) l) (k : Nat) (hk : k ≤ l.length) : RdW w B (.slice (some ⟨b, off, none⟩) k c) (l.take k) := by
  obtain ⟨ao, cap, hv, h1, h2, h3, hp⟩ := h
  simp only [Value.slice.injEq] at hv
  obtain ⟨rfl, rfl, rfl⟩ := hv
  have hl : (l.take k).length = k := by simp; omega
  refine ⟨_, _, by rw [hl], by omega, by simp, cellsW_length _, fun h0 => ?_⟩
  obtain ⟨b', off', ha, hB, hbs, hc⟩ := hp (by omega)
  refine ⟨b', off', ha, hB, hbs, fun j u hu => hc j u ?_⟩
  rw [← cellsW_take, List.getElem?_take] at hu
  split at hu
  · exact hu
  · cases hu

set_option maxHeartbeats 4000000 in
set_option maxRecDepth 100000 in
theorem refOrdered_c (v : Value) (l : List Wt) (w : World) (h : RdW w 0 v l) (hl : l.length ≤ 90000) :
    Calls Try.prog 45 #[v] w fun e w' => e = .returned (.bool (decide (OrdW l))) ∧ Below w.heap.size w w' := by
  obtain ⟨ao, ca, rfl, hca, hna, pa⟩ := h.open_
  have HPA := Lib.hid pa
  have HR := Lib.hid h
  clear h pa
  go_enter Try.func45, Try.ntmps45
  go_wp2
  go_loopg [3] l.length (fun gg s3 wr => ∃ k : Nat, k ≤ l.length ∧ l.length - k ≤ gg ∧ s3 = .int .i64 k ∧ Aside (Below w.heap.size w wr) ∧ Aside (OrdW (l.take k)))
  case atStart => exact ⟨0, Nat.zero_le _, by omega, rfl, Below.refl _ w, OrdW.nil⟩
  case round =>
    obtain ⟨k, hk, hg, rfl, BW, A⟩ := hrel
    by_cases hlt : k < l.length
    · have hltz : (k : Int) < (l.length : Int) := by omega
      obtain ⟨b, off, rfl, _, hbs, ca'⟩ := HPA.out (by omega)
      have HCA := Lib.hid ca'
      have hall : ∀ p : BelW wr, Below w.heap.size w p.W := fun p => BW.out.trans (p.h.mono BW.out.size)
      obtain ⟨c0, c1, c2⟩ := ca' k hlt
      have y0 : ∀ p : BelW wr, p.W.cell? ⟨b, off + k * 3, none⟩ = some (.int .i64 l[k].proc) := fun p => ((hall p).cell (p := ⟨b, _, none⟩) hbs).trans c0
      have y1 : ∀ p : BelW wr, p.W.cell? ⟨b, off + k * 3 + 1, none⟩ = some (.int .i64 l[k].prio) := fun p => ((hall p).cell (p := ⟨b, _, none⟩) hbs).trans c1
      have hbr : ∀ p : BelW wr, b < p.W.heap.size := fun p => Nat.lt_of_lt_of_le hbs (hall p).size
      have hstep := Lib.hid (ordW_step l k hlt A.out)
      have RTP : Hid (∀ p : BelW wr, RdW p.W 0 (.slice (some ⟨b, off, none⟩) k ca) (l.take k)) := fun p => (HR.out.takeK k hk).below (hall p)
      have hdone : Hid (∀ W : World, Below w.heap.size w W → ¬ OrdW (l.take (k + 1)) → Ending.returned (.bool false) = .returned (.bool (decide (OrdW l))) ∧ Below w.heap.size w W) := fun W hb hno =>
        ⟨ret_bool (decide_eq_false (fun h => hno (h.take _))).symm, hb⟩
      have HALL := Lib.hid hall
      have hkc : k ≤ ca := by omega
      have hkz : (0 : Int) ≤ (k : Int) := by omega
      have hkcz : (k : Int) ≤ (ca : Int) := by omega
      clear ca' A c0 c1 c2 hall
      by_cases hA : l[k].proc < 0
      · have hAd : decide (l[k].proc < 0) = true := decide_eq_true hA
        have HN : Hid (¬ OrdW (l.take (k + 1))) := fun ho => by have := (hstep.out.1 ho).1; omega
        go_upto_region 4 with (fail)
        refine wp_region_quiet_bel (by kernel_rfl) (by kernel_rfl) ?_
        iterate 35 (first | go_big_quiet_step (fail) | quiet_step (fail))
        refine wpQuiet_nil ?_
        intro _ hw'
        obtain ⟨p, hw''⟩ := hw'
        subst hw''
        have HP := Lib.hid (BW.out.trans (p.h.mono BW.out.size))
        clear y0 y1 RTP
        go_wp2_with fail
        go_ret
        exact hdone.out _ HP.out HN.out
      · have hAd : decide (l[k].proc < 0) = false := decide_eq_false hA
        cases hh : (l.take k).any (fun x => decide (x.proc = l[k].proc)) with
        | true =>
          have HN : Hid (¬ OrdW (l.take (k + 1))) := fun ho => by
            rw [List.any_eq_true] at hh
            obtain ⟨y, hy, he⟩ := hh
            exact (hstep.out.1 ho).2.1 y hy (by simpa using he)
          have HHAS : Hid (∀ p : BelW wr, Calls Try.prog 93 #[.slice (some ⟨b, off, none⟩) k ca, .int .i64 l[k].proc] p.W fun e w'' => e = .returned (.bool true) ∧ ∃ q : BelW wr, w'' = q.W) := fun p => by
            have hc := refHas_c _ (l.take k) l[k].proc p.W (RTP.out p) (by have := List.length_take_le k l; omega)
            rw [hh] at hc
            exact Calls.bel_of hc
          clear hh
          go_upto_region 4 with (fail)
          refine wp_region_quiet_bel (by kernel_rfl) (by kernel_rfl) ?_
          iterate 35 (first | go_big_quiet_step (exact HHAS.out _) | quiet_step (exact HHAS.out _))
          refine wpQuiet_nil ?_
          intro _ hw'
          obtain ⟨p, hw''⟩ := hw'
          subst hw''
          have HP := Lib.hid (BW.out.trans (p.h.mono BW.out.size))
          clear y0 y1 RTP
          go_wp2_with fail
          go_ret
          exact hdone.out _ HP.out HN.out
        | false =>
          have HNE : Hid (∀ y ∈ l.take k, y.proc ≠ l[k].proc) := by
            rw [List.any_eq_false] at hh
            intro y hy e
            exact hh y hy (by simp [e])
          have HHAS : Hid (∀ p : BelW wr, Calls Try.prog 93 #[.slice (some ⟨b, off, none⟩) k ca, .int .i64 l[k].proc] p.W fun e w'' => e = .returned (.bool false) ∧ ∃ q : BelW wr, w'' = q.W) := fun p => by
            have hc := refHas_c _ (l.take k) l[k].proc p.W (RTP.out p) (by have := List.length_take_le k l; omega)
            rw [hh] at hc
            exact Calls.bel_of hc
          clear hh
          by_cases hC : 0 < k
          · have hCz : (0 : Int) < (k : Int) := by omega
            have hCd : decide ((0 : Int) < (k : Int)) = true := decide_eq_true hCz
            have hCd2 : decide (0 < k) = true := decide_eq_true hC
            obtain ⟨_, g1, _⟩ := HCA.out (k - 1) (by omega)
            have y2 : ∀ p : BelW wr, p.W.cell? ⟨b, off + (k - 1) * 3 + 1, none⟩ = some (.int .i64 l[k - 1].prio) := fun p => ((HALL.out p).cell (p := ⟨b, _, none⟩) hbs).trans g1
            clear g1
            have htn : ((k : Int) - 1).toNat = k - 1 := by omega
            have hwr : IntKind.i64.wrap ((k : Int) - 1) = (k : Int) - 1 := by rw [IntKind.wrap_i64]; omega
            have hb0 : (0 : Int) ≤ (k : Int) - 1 := by omega
            have hb0' : (1 : Int) ≤ (k : Int) := by omega
            have hb1z : (k : Int) - 1 < (l.length : Int) := by omega
            by_cases hD : l[k - 1].prio < l[k].prio
            · have hDd : decide (l[k - 1].prio < l[k].prio) = true := decide_eq_true hD
              have HN : Hid (¬ OrdW (l.take (k + 1))) := fun ho => by have := (hstep.out.1 ho).2.2 hC; omega
              go_upto_region 4 with (fail)
              refine wp_region_quiet_bel (by kernel_rfl) (by kernel_rfl) ?_
              iterate 35 (first | go_big_quiet_step (exact HHAS.out _) | quiet_step (exact HHAS.out _))
              refine wpQuiet_nil ?_
              intro _ hw'
              obtain ⟨p, hw''⟩ := hw'
              subst hw''
              have HP := Lib.hid (BW.out.trans (p.h.mono BW.out.size))
              clear y0 y1 RTP
              go_wp2_with fail
              go_ret
              exact hdone.out _ HP.out HN.out
            · have hDd : decide (l[k - 1].prio < l[k].prio) = false := decide_eq_false hD
              have HNX : Hid (OrdW (l.take (k + 1))) := hstep.out.2 ⟨by omega, HNE.out, fun _ => by omega⟩
              go_upto_region 4 with (fail)
              refine wp_region_quiet_bel (by kernel_rfl) (by kernel_rfl) ?_
              iterate 35 (first | go_big_quiet_step (exact HHAS.out _) | quiet_step (exact HHAS.out _))
              refine wpQuiet_nil ?_
              intro _ hw'
              obtain ⟨p, hw''⟩ := hw'
              subst hw''
              have HP := Lib.hid (BW.out.trans (p.h.mono BW.out.size))
              clear y0 y1 RTP
              go_wp2_with fail
              go_roundg (l.length - (k + 1))
              case measure => omega
              case rel => exact ⟨k + 1, by omega, by omega, by go_num, HP.out, HNX.out⟩
          · have hCd : decide ((0 : Int) < (k : Int)) = false := decide_eq_false (by omega)
            have hCd2 : decide (0 < k) = false := decide_eq_false hC
            have HNX : Hid (OrdW (l.take (k + 1))) := hstep.out.2 ⟨by omega, HNE.out, fun h0 => absurd h0 hC⟩
            go_upto_region 4 with (fail)
            refine wp_region_quiet_bel (by kernel_rfl) (by kernel_rfl) ?_
            iterate 35 (first | go_big_quiet_step (exact HHAS.out _) | quiet_step (exact HHAS.out _))
            refine wpQuiet_nil ?_
            intro _ hw'
            obtain ⟨p, hw''⟩ := hw'
            subst hw''
            have HP := Lib.hid (BW.out.trans (p.h.mono BW.out.size))
            clear y0 y1 RTP
            go_wp2_with fail
            go_roundg (l.length - (k + 1))
            case measure => omega
            case rel => exact ⟨k + 1, by omega, by omega, by go_num, HP.out, HNX.out⟩
    · have hltz : ¬ (k : Int) < (l.length : Int) := by omega
      go_wp2
      go_ret
      refine ⟨ret_bool (decide_eq_true ?_).symm, BW.out⟩
      have := A.out
      rwa [List.take_of_length_le (by omega)] at this
end Go.Proofs.Ytglbfmcbojjglaa

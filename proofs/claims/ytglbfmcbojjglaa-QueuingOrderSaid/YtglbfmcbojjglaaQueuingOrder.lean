/-
  QueuingOrder: for every list and process the call returns true, and nothing that was there before has turned. No conditions but that the list can be read and holds numbers of its types.
-/
import Derived.Test.YtglbfmcbojjglaaAwake23
import Derived.Test.YtglbfmcbojjglaaPlainE
import Derived.Deep.DeepCutAuto
import Derived.Deep.RegionHeld3
namespace Go.Proofs.Ytglbfmcbojjglaa
open Go.RowKit

theorem eqlW (w : World) (x y : Wt) : (binOp .eql 56 (.agg #[.int .i64 x.proc, .int .i64 x.prio, .int .u8 x.val]) (.agg #[.int .i64 y.proc, .int .i64 y.prio, .int .u8 y.val])).run Try.prog w = .ok (.bool (decide (x = y))) w := by
  have hS : Try.prog.underlying 56 = some (.struct (Try.prog.fieldsOf 56)) := by kernel_rfl
  have hp : Try.prog.stoodInHeld 56 = false := by kernel_rfl
  rw [run_eql_struct, show (10000 : Nat) = 9999 + 1 from rfl, run_equalIn_agg w 9999 56 _ _ hS hp]
  simp only [Program.fieldsOf, Try.underlying56]
  go_simp
  by_cases h1 : x.proc = y.proc <;> by_cases h2 : x.prio = y.prio <;> by_cases h3 : x.val = y.val <;> simp [h1, h2, h3, Wt.ext_iff']

theorem boxW {W : World} {g : Nat} {x : Wt} (h : W.heap[g]? = some (.cells #[.int .i64 x.proc, .int .i64 x.prio, .int .u8 x.val] 56 (0, 0))) :
    W.cell? ⟨g, 0, none⟩ = some (.int .i64 x.proc) ∧ W.cell? ⟨g, 1, none⟩ = some (.int .i64 x.prio) ∧ W.cell? ⟨g, 2, none⟩ = some (.int .u8 x.val) := by
  refine ⟨?_, ?_, ?_⟩ <;> (rw [cell_of_row _ _ _ _ _ _ h]; rfl)

set_option maxHeartbeats 4000000 in
set_option maxRecDepth 100000 in
theorem queuingOrder_c (v : Value) (l : List Wt) (x : Wt) (w : World) (h : RdW w 0 v l) (hwf : WfW l) (hx : (Lit.int .i64 x.proc).wf = true) (hl : l.length ≤ 9223372036854775807) :
    Calls Try.prog 8 #[v, .agg #[.int .i64 x.proc, .int .i64 x.prio, .int .u8 x.val]] w fun e w' => e = .returned (.bool true) ∧ Below w.heap.size w w' := by
  obtain ⟨ao, ca, rfl, hca, hna, hpa⟩ := h.open_
  have HPA := Lib.hid hpa
  have HWF := Lib.hid hwf
  have HX := Lib.hid hx
  obtain ⟨W0, hW0⟩ : ∃ W0, W0 = w.alloc (.cells #[.int .i64 x.proc, .int .i64 x.prio, .int .u8 x.val] 56) := ⟨_, rfl⟩
  have BX : Hid (W0.heap[w.heap.size]? = some (.cells #[.int .i64 x.proc, .int .i64 x.prio, .int .u8 x.val] 56 (0, 0))) := by subst hW0; exact heap_alloc_new w _
  have HB0 : Hid (Below w.heap.size w W0) := by subst hW0; exact (Below.refl _ w).alloc (Nat.le_refl _) _
  have HR := Lib.hid (h.below HB0.out)
  have hsz : w.heap.size < W0.heap.size := by subst hW0; simp
  have hpre : ∀ W : World, Below W0.heap.size W0 W → Below w.heap.size w W := fun W hb => HB0.out.trans (hb.mono HB0.out.size)
  have HPRE := Lib.hid hpre
  have HW0 := Lib.hid hW0
  clear hpa hwf hx h hW0 hpre hca hna
  go_enter Try.func8, Try.ntmps8
  by_cases h40 : (40 : Int) < (l.length : Int)
  · go_wp2_with fail
    rw [← HW0.out]
    refine (awake23_c _).mono ?_
    rintro e w9 ⟨rfl, b9⟩
    have HB9 := Lib.hid (HPRE.out _ b9)
    clear b9
    go_wp2_with fail
    go_ret
    exact ⟨rfl, HB9.out⟩
  · have hl40 : l.length ≤ 40 := by omega
    go_wp2_with fail
    rw [← HW0.out]
    refine (orderedW_c _ l _ HR.out HWF.out (by omega)).mono ?_
    rintro e w1 ⟨rfl, b1⟩
    have HB1 := Lib.hid b1
    clear b1 HW0
    by_cases ho : OrdW l
    · rw [decide_eq_true ho]
      have HO := Lib.hid ho
      clear ho
      go_wp2_with fail
      go_loopg [22] l.length (fun gg s22 wr => ∃ k : Nat, k ≤ l.length ∧ l.length - k ≤ gg ∧ s22 = .int .i64 k ∧ Aside (Below W0.heap.size W0 wr) ∧ Aside (∀ y ∈ l.take k, y.proc ≠ x.proc))
      case atStart => exact ⟨0, Nat.zero_le _, by omega, rfl, HB1.out, by simp [Aside]⟩
      case round =>
        obtain ⟨k, hk, hg, rfl, BR, A⟩ := hrel
        clear HB1
        obtain ⟨x0, x1, x2⟩ := boxW ((BR.out.block _ hsz).trans BX.out)
        have hsr : w.heap.size < wr.heap.size := Nat.lt_of_lt_of_le hsz BR.out.size
        by_cases hlt : k < l.length
        · have hltz : (k : Int) < (l.length : Int) := by omega
          obtain ⟨b, off, rfl, _, hbs, ca⟩ := HPA.out (by omega)
          obtain ⟨c0, c1, c2⟩ := ca k hlt
          have hbw : Below w.heap.size w wr := HPRE.out _ BR.out
          rw [← hbw.cell (p := ⟨b, _, none⟩) hbs] at c0 c1 c2
          have hbr : b < wr.heap.size := Nat.lt_of_lt_of_le hbs hbw.size
          clear hbs ca hbw
          by_cases hep : l[k].proc = x.proc
          · have hq : (l[k].proc == x.proc) = true := by simp [hep]
            have HEP := Lib.hid hep
            clear hep
            have RR := Lib.hid ((HR.out.below BR.out).alloc (.cells #[.int .i64 l[k].proc, .int .i64 l[k].prio, .int .u8 l[k].val] 56))
            have BR2 := Lib.hid (BR.out.alloc BR.out.size (.cells #[.int .i64 l[k].proc, .int .i64 l[k].prio, .int .u8 l[k].val] 56))
            have hln := leave_one HO.out.2.1 hlt HEP.out
            have HLN := Lib.hid hln
            clear hln
            go_wp2_with fail
            refine (leaveW_c _ l x.proc _ RR.out (by omega)).mono ?_
            rintro e w2 ⟨v2, rfl, ho2, hb2⟩
            obtain ⟨a2, d2, rfl⟩ := own_slice ho2
            have R2 := Lib.hid (FrW.of_own ho2).rd
            have BR3 := Lib.hid (BR2.out.trans (hb2.mono BR2.out.size))
            have RR2 := Lib.hid (RR.out.below hb2)
            clear ho2 hb2 RR BR2
            go_wp2_with fail
            refine (orderedW_c _ (leaveW l x.proc) _ R2.out (HWF.out.leave _) (by rw [HLN.out]; omega)).mono ?_
            rintro e w3 ⟨rfl, b3⟩
            rw [decide_eq_true (HO.out.leave x.proc)]
            have BR4 := Lib.hid (BR3.out.trans (b3.mono BR3.out.size))
            have RR3 := Lib.hid (RR2.out.below b3)
            clear b3 BR3 RR2 R2 x0 x1 x2
            obtain ⟨x0, x1, x2⟩ := boxW ((BR4.out.block _ hsz).trans BX.out)
            have hs3 : w.heap.size < w3.heap.size := Nat.lt_of_lt_of_le hsz BR4.out.size
            go_wp2_with fail
            refine (leaveW_c _ l x.proc _ RR3.out (by omega)).mono ?_
            rintro e w4 ⟨v4, rfl, ho4, hb4⟩
            obtain ⟨a4, d4, rfl⟩ := own_slice ho4
            have BR5 := Lib.hid (BR4.out.trans (hb4.mono BR4.out.size))
            rw [HLN.out]
            have hnn : 1 ≤ l.length := by omega
            have hq5 : (((l.length - 1 : Nat) : Int) == (l.length : Int) - 1) = true := by simp; omega
            clear ho4 hb4 RR3 BR4 x0 x1 x2
            go_wp2_with fail
            refine (awake23_c _).mono ?_
            rintro e w9 ⟨rfl, b9⟩
            have HB9 := Lib.hid (HPRE.out _ (BR5.out.trans (b9.mono BR5.out.size)))
            clear b9
            go_wp2_with fail
            go_ret
            exact ⟨rfl, HB9.out⟩
          · have hq : (l[k].proc == x.proc) = false := by simp [hep]
            have HEP := Lib.hid hep
            clear hep
            go_wp2_with fail
            go_roundg (l.length - (k + 1))
            case measure => omega
            case rel =>
              refine ⟨k + 1, by omega, by omega, by go_num, BR.out.alloc BR.out.size _, fun y hy => ?_⟩
              rw [List.take_succ_eq_append_getElem hlt, List.mem_append, List.mem_singleton] at hy
              rcases hy with hy | rfl
              · exact A.out y hy
              · exact HEP.out
        · have hltz : ¬ (k : Int) < (l.length : Int) := by omega
          have HN : Hid (∀ y ∈ l, y.proc ≠ x.proc) := by have := A.out; rwa [List.take_of_length_le (by omega)] at this
          have HIN := Lib.hid (ordW_enter_iff HO.out HN.out)
          have HBK := Lib.hid (leave_enter_back HO.out HN.out)
          have HAT := Lib.hid (enter_at HO.out HN.out)
          have hlen := enterW_length l x
          have hple := posW_le l x
          have hwfi := HWF.out.enter HX.out
          have HWI := Lib.hid hwfi
          clear A hwfi
          have RR := Lib.hid (HR.out.below BR.out)
          clear hk hg hlt
          go_wp2_with fail
          refine (enterW_c _ l x _ RR.out (by omega)).mono ?_
          rintro e w2 ⟨v2, rfl, ho2, hb2⟩
          generalize hin : enterW l x = li at *
          obtain ⟨a2, d2, rfl⟩ := own_slice ho2
          have R2 := Lib.hid (FrW.of_own ho2).rd
          have BR2 := Lib.hid (BR.out.trans (hb2.mono BR.out.size))
          have RR2 := Lib.hid (RR.out.below hb2)
          clear ho2 hb2 RR BR x0 x1 x2 hin hsr
          obtain ⟨x0, x1, x2⟩ := boxW ((BR2.out.block _ hsz).trans BX.out)
          have hs2 : w.heap.size < w2.heap.size := Nat.lt_of_lt_of_le hsz BR2.out.size
          have hq1 : (((li.length : Nat) : Int) != (l.length : Int) + 1) = false := by simp; omega
          have hwr : IntKind.i64.wrap ((l.length : Int) + 1) = (l.length : Int) + 1 := by rw [IntKind.wrap_i64]; omega
          have hq1n : (li.length != l.length + 1) = false := by simp; omega
          have hpi : decide (0 ≤ x.proc) = decide (OrdW li) := by rw [Bool.eq_iff_iff]; simp [HIN.out]
          have HPI := Lib.hid hpi
          have hlib : li.length ≤ 41 := by omega
          have HLEN := Lib.hid hlen
          have hple2 : posW l x < li.length := by omega
          clear hpi hlen hple
          go_upto_region 10 with (fail)
          go_cut [76] (fun s76 wx => s76 = .bool false ∧ Aside (Below W0.heap.size W0 wx ∧ RdW wx 0 (.slice a2 li.length d2) li))
          case first =>
            have hsg : (0 ≤ x.proc ∧ decide (OrdW li) = true) ∨ (¬ 0 ≤ x.proc ∧ decide (OrdW li) = false) := by
              by_cases hp : 0 ≤ x.proc
              · exact .inl ⟨hp, by rw [← HPI.out]; simp [hp]⟩
              · exact .inr ⟨hp, by rw [← HPI.out]; simp [hp]⟩
            rcases hsg with ⟨hp, hdo⟩ | ⟨hp, hdo⟩
            all_goals
              have HDO := Lib.hid hdo
              clear hdo
            all_goals
              go_region_held3 (fun w' => w'.cell? ⟨w.heap.size, 0, none⟩ = some (.int .i64 x.proc)) (first | go_keep | assumption) (first
              | (go_at_call 44; refine (orderedW_c _ li _ (by exact R2.out) HWI.out (by omega)).mono ?_; rintro e w3 ⟨rfl, b3⟩; replace b3 : Below w2.heap.size w2 w3 := (by first | exact b3 | exact below_un b3); rw [HDO.out]; have BR3 := Lib.hid (BR2.out.trans (b3.mono BR2.out.size)); have R3 := Lib.hid (R2.out.below b3); have RR3 := Lib.hid (RR2.out.below b3); obtain ⟨z0, z1, z2⟩ := boxW ((BR3.out.block _ hsz).trans BX.out); have hs3 : w.heap.size < w3.heap.size := Nat.lt_of_lt_of_le hsz BR3.out.size; clear b3)
              | (go_at_call 40; refine (leaveW_c _ li x.proc _ (by exact R3.out) (by omega)).mono ?_; rintro e w4 ⟨v4, rfl, ho4, b4⟩; replace b4 : Below w3.heap.size w3 w4 := (by first | exact b4 | exact below_un b4); obtain ⟨a4, d4, rfl⟩ := own_slice ho4; rw [HBK.out] at ho4; rw [HBK.out]; have R4 := Lib.hid (FrW.of_own ho4).rd; have RR4 := Lib.hid (RR3.out.below b4); have BR4 := Lib.hid (BR3.out.trans (b4.mono BR3.out.size)); have R4i := Lib.hid (R3.out.below b4); obtain ⟨t0, t1, t2⟩ := boxW ((BR4.out.block _ hsz).trans BX.out); have hs4 : w.heap.size < w4.heap.size := Nat.lt_of_lt_of_le hsz BR4.out.size; clear ho4 b4)
              | (go_at_call 41; refine (waiters_c _ _ l l _ (by exact R4.out) (by exact RR4.out) (by omega) (by omega)).mono ?_; rintro e w5 ⟨rfl, j5, rfl⟩; rw [show decide (l = l) = true from by simp]))
            all_goals
              go_wp2_with fail
              go_meet
              first
                | exact ⟨rfl, below_drewN' BR4.out _, R4i.out⟩
                | exact ⟨rfl, below_drewN' BR4.out.drew _, R4i.out⟩
          case rest =>
            obtain ⟨rfl, A2⟩ := hcut
            clear x0 x1 x2 RR2 BR2 R2 hs2
            go_wp2_with fail
            go_loopg [8, 79] li.length (fun gg s8 s79 wr => ∃ k : Nat, k ≤ li.length ∧ li.length - k ≤ gg ∧ s79 = .int .i64 k ∧ s8 = .bool (decide (posW l x < k)) ∧ Aside (Below W0.heap.size W0 wr) ∧ Aside (RdW wr 0 (.slice a2 li.length d2) li))
            case atStart => exact ⟨0, Nat.zero_le _, by omega, rfl, by simp, A2.out.1, A2.out.2⟩
            case round =>
              obtain ⟨k, hk, hg, rfl, rfl, BR, AR⟩ := hrel
              clear A2
              by_cases hlt : k < li.length
              · have hltz : (k : Int) < (li.length : Int) := by omega
                obtain ⟨aa, cc, hv, _, _, pp⟩ := AR.out.open_
                obtain ⟨b, off, ha, _, hbs, ca⟩ := pp (by omega)
                obtain ⟨c0, c1, c2⟩ := ca k hlt
                obtain rfl : a2 = some ⟨b, off, none⟩ := by simp only [Value.slice.injEq] at hv; rw [hv.1, ha]
                obtain ⟨x0, x1, x2⟩ := boxW ((BR.out.block _ hsz).trans BX.out)
                have hsr : w.heap.size < wr.heap.size := Nat.lt_of_lt_of_le hsz BR.out.size
                have hne := fun W => eqlW W li[k] x
                have AR2 := Lib.hid (AR.out.alloc (.cells #[.int .i64 li[k].proc, .int .i64 li[k].prio, .int .u8 li[k].val] 56))
                have BR2 := Lib.hid (BR.out.alloc BR.out.size (.cells #[.int .i64 li[k].proc, .int .i64 li[k].prio, .int .u8 li[k].val] 56))
                clear hv ha pp ca
                rcases HAT.out k hlt with ⟨h1, h2, h3⟩ | ⟨h1, h2⟩ | ⟨h1, h2, h3⟩
                · have hd : decide (posW l x < k) = false := by simp; omega
                  have he : decide (li[k] = x) = false := by simp [h2]
                  have HD1 : Hid (decide (posW l x < k + 1) = false) := by show _ = _; simp; omega
                  rw [hd]
                  clear h1 h2 hd
                  go_wp2_with fail
                  go_roundg (li.length - (k + 1))
                  case measure => omega
                  case rel => exact ⟨k + 1, by omega, by omega, by go_num, by rw [HD1.out], BR2.out, AR2.out⟩
                · have he : decide (li[k] = x) = true := by simp [h2]
                  have HD1 : Hid (decide (posW l x < k + 1) = true) := by show _ = _; simp; omega
                  clear h1 h2
                  go_wp2_with fail
                  go_roundg (li.length - (k + 1))
                  case measure => omega
                  case rel => exact ⟨k + 1, by omega, by omega, by go_num, by rw [HD1.out], BR2.out, AR2.out⟩
                · have hd : decide (posW l x < k) = true := by simp; omega
                  have he : decide (li[k] = x) = false := by simp [h2]
                  have h4 : ¬ (x.prio ≤ li[k].prio) := by omega
                  have HD1 : Hid (decide (posW l x < k + 1) = true) := by show _ = _; simp; omega
                  rw [hd]
                  clear h1 h2 h3 hd
                  go_wp2_with fail
                  go_roundg (li.length - (k + 1))
                  case measure => omega
                  case rel => exact ⟨k + 1, by omega, by omega, by go_num, by rw [HD1.out], BR2.out, AR2.out⟩
              · have hltz : ¬ (k : Int) < (li.length : Int) := by omega
                have hd : decide (posW l x < k) = true := by simp; omega
                rw [hd]
                clear hd
                go_wp2_with fail
                refine (awake23_c _).mono ?_
                rintro e w9 ⟨rfl, b9⟩
                have HB9 := Lib.hid (HPRE.out _ (BR.out.trans (b9.mono BR.out.size)))
                clear b9
                go_wp2_with fail
                go_ret
                exact ⟨rfl, HB9.out⟩
    · rw [decide_eq_false ho]
      clear ho
      go_wp2_with fail
      refine (awake23_c _).mono ?_
      rintro e w9 ⟨rfl, b9⟩
      have HB9 := Lib.hid (HPRE.out _ (HB1.out.trans (b9.mono HB1.out.size)))
      clear b9
      go_wp2_with fail
      go_ret
      exact ⟨rfl, HB9.out⟩
end Go.Proofs.Ytglbfmcbojjglaa

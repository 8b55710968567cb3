/-
  Package board: the contracts of ValidBuffer and open. Conditions: what is read can be read, the processes are of type int, at most ninety thousand elements.
-/
import Derived.Test.YtglbfmcbojjglaaBuA
import Derived.Test.YtglbfmcbojjglaaSemaA
import Derived.Deep.RegionHeld3
namespace Go.Proofs.Ytglbfmcbojjglaa
open Go.RowKit

/-- P24.1 -/
def vldBu (n : Int) (d : List Int) (p g : List Wt) : Bool := decide (1 ≤ n) && decide (n ≤ 16) && decide ((d.length : Int) ≤ n) && (decide (OrdW p) && decide (OrdW g)) && (p.length == 0 || (d.length : Int) == n) && (g.length == 0 || d.length == 0) && !g.any (fun y => y.val != 0)
/-- A process may act. -/
def mayB (p g : List Wt) (q : Int) : Bool := decide (0 ≤ q) && !(p ++ g).any (fun x => decide (x.proc = q))
theorem allocBu2 (w : World) (o o' : Obj) : ((w.alloc o).alloc o').heap[w.heap.size + 1]? = some o' := by
  have := heap_alloc_new (w.alloc o) o'
  simpa using this

set_option maxHeartbeats 4000000 in
set_option maxRecDepth 100000 in
theorem validBu_c (n : Int) (vd vp vg : Value) (d : List Int) (p g : List Wt) (w : World) (hd : RdI .u8 w 0 vd d) (hp : RdW w 0 vp p) (hg : RdW w 0 vg g) (wp : WfW p) (wg : WfW g) (hpl : p.length ≤ 100000) (hgl : g.length ≤ 100000) :
    Calls Try.prog 80 #[.agg #[.int .i64 n, vd, vp, vg]] w fun e w' => e = .returned (.bool (vldBu n d p g)) ∧ Below w.heap.size w w' := by
  obtain ⟨ad, cd, rfl, _, _, _⟩ := hd.open_
  obtain ⟨ap, cp, rfl, _, _, _⟩ := hp.open_
  obtain ⟨ag, cg, rfl, _, _, _⟩ := hg.open_
  have B0 : Hid (Below w.heap.size w (w.alloc (.cells #[.int .i64 n, .slice ad d.length cd, .slice ap p.length cp, .slice ag g.length cg] 125))) := (Below.refl _ w).alloc (Nat.le_refl _) _
  obtain ⟨W1, hW1⟩ : ∃ W1, W1 = (w.alloc (.cells #[.int .i64 n, .slice ad d.length cd, .slice ap p.length cp, .slice ag g.length cg] 125)).alloc (.cells #[.slice ap p.length cp, .slice ag g.length cg] 25) := ⟨_, rfl⟩
  have B1 : Hid (Below w.heap.size w W1) := by subst hW1; exact ((Below.refl _ w).alloc (Nat.le_refl _) _).alloc (by simp) _
  have BK : Hid (W1.heap[w.heap.size]? = some (.cells #[.int .i64 n, .slice ad d.length cd, .slice ap p.length cp, .slice ag g.length cg] 125 (0, 0))) := by subst hW1; exact (Below.heap_alloc _ _ _ (by simp)).trans (heap_alloc_new w _)
  have HL : Hid (Calls Try.prog 115 #[.slice (some ⟨w.heap.size + 1, 0, none⟩) 2 2] W1 fun e w' => e = .returned (.bool (decide (OrdW p) && decide (OrdW g))) ∧ Below W1.heap.size W1 w') := by
    have hc := lists_c (.slice (some ⟨w.heap.size + 1, 0, none⟩) 2 2) [p, g] W1 (by subst hW1; exact RdL.two (by simp) (hp.alloc _) (hg.alloc _)) (by simp) (fun y hy => by simp only [List.mem_cons, List.not_mem_nil, or_false] at hy; rcases hy with rfl | rfl <;> first | exact ⟨wp, hpl⟩ | exact ⟨wg, hgl⟩)
    rw [show (!([p, g].any (fun y => !decide (OrdW y)))) = (decide (OrdW p) && decide (OrdW g)) from by simp only [List.any_cons, List.any_nil]; cases decide (OrdW p) <;> cases decide (OrdW g) <;> rfl] at hc
    exact hc
  have HBR : Hid (∀ W, Below w.heap.size w W → Calls Try.prog 116 #[.slice ag g.length cg] W fun e w' => e = .returned (.bool (!g.any (fun y => y.val != 0))) ∧ Below W.heap.size W w') := fun W hb => bare_c _ g W (hg.below hb) (by omega)
  have HW1 := Lib.hid hW1
  clear hd hp hg wp wg hW1
  by_cases h1 : 1 ≤ n
  · by_cases h2 : n ≤ 16
    · by_cases h3 : (d.length : Int) ≤ n
      · cases hod : (decide (OrdW p) && decide (OrdW g)) with
        | false =>
          rw [hod] at HL
          rw [show vldBu n d p g = false by simp only [vldBu, hod]; simp]
          clear hod HBR
          go_enter Try.func80, Try.ntmps80
          go_wp2_with fail
          rw [← HW1.out]
          refine HL.out.mono ?_
          rintro e w2 ⟨rfl, b2⟩
          have B2 := Lib.hid (B1.out.trans (b2.mono B1.out.size))
          clear b2 HL
          go_wp2_with fail
          go_ret
          exact ⟨rfl, B2.out⟩
        | true =>
          rw [hod] at HL
          have HV : Hid (vldBu n d p g = ((p.length == 0 || (d.length : Int) == n) && (g.length == 0 || d.length == 0) && !g.any (fun y => y.val != 0))) := by show _ = _; simp only [vldBu, hod, decide_eq_true h1, decide_eq_true h2, decide_eq_true h3]; simp
          rw [HV.out]
          clear HV hod
          generalize (!g.any (fun y => y.val != 0)) = br at HBR ⊢
          have hE' : ((p.length : Int) == 0) = (p.length == 0) := by rw [Bool.eq_iff_iff]; simp
          have hG' : ((g.length : Int) == 0) = (g.length == 0) := by rw [Bool.eq_iff_iff]; simp
          have hH' : ((d.length : Int) == 0) = (d.length == 0) := by rw [Bool.eq_iff_iff]; simp
          cases hE : (p.length == 0) <;> cases hF : ((d.length : Int) == n) <;> cases hG : (g.length == 0) <;> cases hH : (d.length == 0)
          all_goals
            rw [hE] at hE'
            rw [hG] at hG'
            rw [hH] at hH'
            go_enter Try.func80, Try.ntmps80
            go_wp2_with fail
            rw [← HW1.out]
            refine HL.out.mono ?_
            rintro e w2 ⟨rfl, b2⟩
            have B2 := Lib.hid (B1.out.trans (b2.mono B1.out.size))
            obtain ⟨x0, x1, x2, x3, _, _, _, _⟩ := fourBlk ((b2.block _ (blk_lt BK.out)).trans BK.out)
            have hx := blk_lt ((b2.block _ (blk_lt BK.out)).trans BK.out)
            clear b2 HL
            go_wp2_with (go_at_call 116; refine (HBR.out _ B2.out).mono ?_; rintro e w3 ⟨rfl, b3⟩; have B3 := Lib.hid (B2.out.trans (b3.mono B2.out.size)); clear b3)
            go_ret
            exact ⟨ret_bool (by first | rfl | simp), by first | exact B2.out | exact B3.out⟩
      · rw [show vldBu n d p g = false by simp [vldBu, h3]]
        clear HL HBR HW1 B1 BK
        go_enter Try.func80, Try.ntmps80
        go_wp2_with fail
        go_ret
        exact ⟨rfl, B0.out⟩
    · rw [show vldBu n d p g = false by simp [vldBu, h2]]
      clear HL HBR HW1 B1 BK
      go_enter Try.func80, Try.ntmps80
      go_wp2_with fail
      go_ret
      exact ⟨rfl, B0.out⟩
  · rw [show vldBu n d p g = false by simp [vldBu, h1]]
    clear HL HBR HW1 B1 BK
    go_enter Try.func80, Try.ntmps80
    go_wp2_with fail
    go_ret
    exact ⟨rfl, B0.out⟩

/-- What open returns: a copy in block gb, and whether the buffer is valid and the process may act. -/
def OpenBu (w : World) (n : Int) (d : List Int) (p g : List Wt) (q : Int) (e : Ending) (w' : World) : Prop :=
  ∃ gb vd vp vg, e = .returned (.tuple #[.pointer (some ⟨gb, 0, none⟩), .bool (vldBu n d p g && mayB p g q)]) ∧ w.heap.size ≤ gb ∧ w'.heap[gb]? = some (.cells #[.int .i64 n, vd, vp, vg] 206 (0, 0)) ∧ TyB w' w.heap.size vd d ∧ TyW w' w.heap.size vp p ∧ TyW w' w.heap.size vg g ∧ Below w.heap.size w w'

set_option maxHeartbeats 4000000 in
set_option maxRecDepth 100000 in
theorem openBu_c (n : Int) (q : Int) (vd vp vg : Value) (d : List Int) (p g : List Wt) (w : World) (hd : RdI .u8 w 0 vd d) (hp : RdW w 0 vp p) (hg : RdW w 0 vg g) (wp : WfW p) (wg : WfW g) (hdl : d.length ≤ 40000) (hpl : p.length ≤ 40000) (hgl : g.length ≤ 40000) :
    Calls Try.prog 110 #[.agg #[.int .i64 n, vd, vp, vg], .int .i64 q] w (OpenBu w n d p g q) := by
  obtain ⟨ad, cd, rfl, _, _, _⟩ := hd.open_
  obtain ⟨ap, cp, rfl, _, _, _⟩ := hp.open_
  obtain ⟨ag, cg, rfl, _, _, _⟩ := hg.open_
  obtain ⟨W0, hW0⟩ : ∃ W0, W0 = w.alloc (.cells #[.int .i64 n, .slice ad d.length cd, .slice ap p.length cp, .slice ag g.length cg] 125) := ⟨_, rfl⟩
  have B0 : Hid (Below w.heap.size w W0) := by subst hW0; exact (Below.refl _ w).alloc (Nat.le_refl _) _
  have BK : Hid (W0.heap[w.heap.size]? = some (.cells #[.int .i64 n, .slice ad d.length cd, .slice ap p.length cp, .slice ag g.length cg] 125 (0, 0))) := by subst hW0; exact heap_alloc_new w _
  have HD := Lib.hid (hd.below B0.out)
  have HP := Lib.hid (hp.below B0.out)
  have HG := Lib.hid (hg.below B0.out)
  have WP := Lib.hid wp
  have WG := Lib.hid wg
  have HW0 := Lib.hid hW0
  have h0 := blk_lt BK.out
  obtain ⟨x0, x1, x2, x3, _, _, _, _⟩ := fourBlk BK.out
  clear hd hp hg wp wg hW0
  go_enter Try.func110, Try.ntmps110
  go_upto_region 1 with (fail)
  rw [← HW0.out]
  go_cut [6] (fun s6 wx => ∃ (gb : Nat) (vd' vp' vg' : Value), s6 = .pointer (some ⟨gb, 0, none⟩) ∧ Aside (W0.heap.size ≤ gb ∧ wx.heap[gb]? = some (.cells #[.int .i64 n, vd', vp', vg'] 206 (0, 0)) ∧ TyB wx W0.heap.size vd' d ∧ TyW wx W0.heap.size vp' p ∧ TyW wx W0.heap.size vg' g ∧ Below W0.heap.size W0 wx))
  case first =>
    go_region_held3 (fun w' => w'.cell? ⟨w.heap.size, 0, none⟩ = some (.int .i64 n) ∧ w'.cell? ⟨w.heap.size, 1, none⟩ = some (.slice ad d.length cd) ∧ w'.cell? ⟨w.heap.size, 2, none⟩ = some (.slice ap p.length cp) ∧ w'.cell? ⟨w.heap.size, 3, none⟩ = some (.slice ag g.length cg)) (first | go_keep | (refine ⟨?_, ?_, ?_, ?_⟩ <;> assumption))
      ((first
        | (go_at_call 91; (refine (cloneB_c _ d _ (by exact HD.out) (by omega)).mono ?_); rintro e w2 ⟨v2, rfl, o2, b2⟩; replace b2 : Below W0.heap.size W0 w2 := (by first | exact b2 | exact below_un b2); replace o2 : OwnB w2 W0.heap.size v2 d := o2; obtain ⟨a2, c2, rfl⟩ := own_slice o2; have T2 : Hid (TyB w2 W0.heap.size (.slice a2 d.length c2) d) := Ty.of_own o2; have HB2 := Lib.hid b2; obtain ⟨r0, r1, r2, r3, _, _, _, _⟩ := fourBlk ((b2.block _ h0).trans BK.out); have hs2 : w.heap.size < w2.heap.size := Nat.lt_of_lt_of_le h0 b2.size; clear o2 b2)
        | (go_at_call_of 98 (Value.slice ap p.length cp); (refine (cloneW_c _ p _ (by exact HP.out.below HB2.out) (by omega)).mono ?_); rintro e w3 ⟨v3, rfl, o3, b3⟩; replace b3 : Below w2.heap.size w2 w3 := (by first | exact b3 | exact below_un b3); replace o3 : w3.ownsRow w2.heap.size 56 3 v3 p.length (cellsW p) := o3; obtain ⟨a3, c3, rfl⟩ := own_slice o3; have T3 : Hid (TyW w3 W0.heap.size (.slice a3 p.length c3) p) := Ty.mono (Ty.of_own o3) HB2.out.size; have T23 : Hid (TyB w3 W0.heap.size (.slice a2 d.length c2) d) := Ty.below T2.out b3; have HB3 := Lib.hid (HB2.out.trans (b3.mono HB2.out.size)); obtain ⟨r30, r31, r32, r33, _, _, _, _⟩ := fourBlk ((HB3.out.block _ h0).trans BK.out); have hs3 : w.heap.size < w3.heap.size := Nat.lt_of_lt_of_le h0 HB3.out.size; clear o3 b3)
        | (go_at_call_of 98 (Value.slice ag g.length cg); (refine (cloneW_c _ g _ (by exact HG.out.below HB3.out) (by omega)).mono ?_); rintro e w4 ⟨v4, rfl, o4, b4⟩; replace b4 : Below w3.heap.size w3 w4 := (by first | exact b4 | exact below_un b4); replace o4 : w4.ownsRow w3.heap.size 56 3 v4 g.length (cellsW g) := o4; obtain ⟨a4, c4, rfl⟩ := own_slice o4; have T4 : Hid (TyW w4 W0.heap.size (.slice a4 g.length c4) g) := Ty.mono (Ty.of_own o4) HB3.out.size; have T34 : Hid (TyW w4 W0.heap.size (.slice a3 p.length c3) p) := Ty.below T3.out b4; have T24 : Hid (TyB w4 W0.heap.size (.slice a2 d.length c2) d) := Ty.below T23.out b4; have HB4 := Lib.hid (HB3.out.trans (b4.mono HB3.out.size)); obtain ⟨r40, r41, r42, r43, _, _, _, _⟩ := fourBlk ((HB4.out.block _ h0).trans BK.out); have hs4 : w.heap.size < w4.heap.size := Nat.lt_of_lt_of_le h0 HB4.out.size; clear o4 b4)))
    all_goals
      go_wp2_with fail
      go_meet
      exact ⟨_, _, _, _, rfl, HB4.out.size, heap_alloc_new w4 _, Ty.alloc T24.out _, Ty.alloc T34.out _, Ty.alloc T4.out _, HB4.out.alloc HB4.out.size _⟩
  case rest =>
    obtain ⟨gb, vd', vp', vg', rfl, A⟩ := hcut
    obtain ⟨hA1, hA2, hA3, hA4, hA5, hA6⟩ := A.out
    obtain ⟨wr, rfl⟩ : ∃ wr : World, wr = wc := ⟨_, rfl⟩
    have hz0 : w.heap.size ≤ W0.heap.size := B0.out.size
    have HEND : Hid (∀ W (b : Bool), Below wr.heap.size wr W → b = (vldBu n d p g && mayB p g q) → OpenBu w n d p g q (.returned (.tuple #[.pointer (some ⟨gb, 0, none⟩), .bool b])) W) := fun W b hb he => by
      subst he
      have hbw := hA6.trans (hb.mono hA6.size)
      exact ⟨gb, vd', vp', vg', rfl, by omega, (hb.block _ (blk_lt hA2)).trans hA2, Ty.mono (Ty.below hA3 hb) hz0, Ty.mono (Ty.below hA4 hb) hz0, Ty.mono (Ty.below hA5 hb) hz0, B0.out.trans (hbw.mono B0.out.size)⟩
    have BW := Lib.hid hA6
    have BKW := Lib.hid ((hA6.block _ h0).trans BK.out)
    clear A hA1 hA2 hA3 hA4 hA5 hA6 x0 x1 x2 x3
    obtain ⟨x0, x1, x2, x3, _, _, _, _⟩ := fourBlk BKW.out
    have hx := blk_lt BKW.out
    go_wp2_with fail
    have hv := validBu_c n _ _ _ d p g wr (HD.out.below BW.out) (HP.out.below BW.out) (HG.out.below BW.out) WP.out WG.out (by omega) (by omega)
    cases k1 : vldBu n d p g with
    | false =>
      rw [k1] at hv
      have K1 := Lib.hid k1
      refine hv.mono ?_
      clear hv k1
      rintro e w5 ⟨rfl, b5⟩
      have HB5 := Lib.hid b5
      clear b5 x0 x1 x2 x3 hx
      go_wp2_with fail
      go_ret2
      exact HEND.out _ _ HB5.out (by rw [K1.out]; rfl)
    | true =>
      rw [k1] at hv
      have K1 := Lib.hid k1
      refine hv.mono ?_
      clear hv k1
      rintro e w5 ⟨rfl, b5⟩
      have HB5 := Lib.hid b5
      have BK5 := Lib.hid ((b5.block _ hx).trans BKW.out)
      clear b5 x0 x1 x2 x3
      obtain ⟨x0, x1, x2, x3, _, _, _, _⟩ := fourBlk BK5.out
      have hx5 := blk_lt BK5.out
      by_cases hq : 0 ≤ q
      · go_wp2_with fail
        have hb5 := BW.out.trans (HB5.out.mono BW.out.size)
        have hw := bwaits_c q (.slice (some ⟨w5.heap.size, 0, none⟩) 2 2) [p, g] (w5.alloc (.cells #[.slice ap p.length cp, .slice ag g.length cg] 25)) (RdL.two rfl (HP.out.below hb5) (HG.out.below hb5)) (by simp) (by rw [flat_two, List.length_append]; omega)
        rw [flat_two] at hw
        refine hw.mono ?_
        clear hw hb5
        rintro e w6 ⟨rfl, b6⟩
        have hb5a := HB5.out.alloc HB5.out.size (.cells #[.slice ap p.length cp, .slice ag g.length cg] 25)
        have HB6 := Lib.hid (hb5a.trans (b6.mono hb5a.size))
        have HMAY : Hid (mayB p g q = !((p ++ g).any fun x => decide (x.proc = q))) := by show _ = _; simp only [mayB, decide_eq_true hq, Bool.true_and]
        generalize ((p ++ g).any fun x => decide (x.proc = q)) = od at HMAY ⊢
        clear b6 hb5a x0 x1 x2 x3
        go_wp2_with fail
        go_ret2
        exact HEND.out _ _ HB6.out (by rw [K1.out, HMAY.out]; rfl)
      · have HM : Hid (mayB p g q = false) := by show _ = _; simp [mayB, hq]
        go_wp2_with fail
        go_ret2
        exact HEND.out _ _ HB5.out (by rw [K1.out, HM.out]; rfl)
end Go.Proofs.Ytglbfmcbojjglaa

/-
  Package board: the contracts of Look and Show. Conditions: the list can be read, its processes are of type int, at most ninety thousand elements.
-/
import Derived.Test.YtglbfmcbojjglaaBdB
namespace Go.Proofs.Ytglbfmcbojjglaa
open Go.RowKit

set_option maxHeartbeats 4000000 in
set_option maxRecDepth 100000 in
theorem lookBd_c (h : Bool) (x : Int) (p r : Int) (v : Value) (l : List Wt) (w : World) (hr : RdW w 0 v l) (hwf : WfW l) (hl : l.length ≤ 90000) :
    Calls Try.prog 71 #[.agg #[.bool h, .int .u8 x, v], .int .i64 p, .int .i64 r] w (RBd3 w h x (lookBd h x l p r).1 (.int .u8 (lookBd h x l p r).2.1) (.bool (lookBd h x l p r).2.2.1) (.int .i64 (lookBd h x l p r).2.2.2)) := by
  obtain ⟨ao, ca, rfl, _, _, _⟩ := hr.open_
  obtain ⟨W0, hW0⟩ : ∃ W0, W0 = (w.alloc (.cells #[.bool h, .int .u8 x, .slice ao l.length ca] 131)).alloc (.cells #[.bool false, .int .u8 0, .slice none 0 0] 131) := ⟨_, rfl⟩
  have B0 : Hid (Below w.heap.size w W0) := by subst hW0; exact ((Below.refl _ w).alloc (Nat.le_refl _) _).alloc (by simp) _
  have BK : Hid (W0.heap[w.heap.size]? = some (.cells #[.bool h, .int .u8 x, .slice ao l.length ca] 131 (0, 0))) := by subst hW0; exact (Below.heap_alloc _ _ _ (by simp)).trans (heap_alloc_new w _)
  have HW0 := Lib.hid hW0
  have HR := Lib.hid hr
  have HWF := Lib.hid hwf
  clear hr hwf hW0
  cases k1 : vldBd h x l with
  | false =>
    rw [show lookBd h x l p r = (l, 0, false, 2) by simp [lookBd, k1]]
    have K1 := Lib.hid k1
    clear k1
    go_enter Try.func71, Try.ntmps71
    go_wp2_with fail
    rw [← HW0.out]
    refine (ownBd_c h x _ l W0 (HR.out.below B0.out) (by omega)).mono ?_
    rintro e w1 ⟨v1, rfl, fr1, b1⟩
    obtain ⟨a1, c1, rfl⟩ := Ty.shape fr1
    have M1 := Lib.hid (BM.new (h := h) (x := x) HW0.out fr1 b1)
    obtain ⟨p0, p1, p2, p3, p4, p5⟩ := threeBlk ((b1.block _ (blk_lt BK.out)).trans BK.out)
    have hp1 := blk_lt ((b1.block _ (blk_lt BK.out)).trans BK.out)
    clear fr1 b1
    go_wp2_with fail
    obtain ⟨W1, hW1⟩ : ∃ W1, W1 = w1.alloc (.cells #[.bool h, .int .u8 x, .slice a1 l.length c1] 131) := ⟨_, rfl⟩
    rw [← hW1] at M1 ⊢
    clear hW1 p0 p1 p2 p3 p4 p5 HW0
    have hv := validBd_c h x _ l W1 (HR.out.below M1.out.bel) HWF.out (by omega)
    rw [K1.out] at hv
    refine hv.mono ?_
    clear hv
    rintro e w2 ⟨rfl, b2⟩
    have M2 := Lib.hid (M1.out.next b2)
    clear b2 M1
    obtain ⟨p0, p1, p2, p3, p4, p5⟩ := threeBlk M2.out.arg
    obtain ⟨r0, r1, r2, r3, r4, r5⟩ := threeBlk M2.out.res
    obtain ⟨o0, o1, o2, o3, o4, o5⟩ := threeBlk M2.out.obj
    have hos := blk_lt M2.out.obj
    have has := blk_lt M2.out.arg
    have hrs := blk_lt M2.out.res
    have hge := M2.out.ge
    have hn1 : w1.heap.size ≠ w.heap.size + 1 := by omega
    have hn2 : w.heap.size + 1 ≠ w1.heap.size := by omega
    go_wp2_with fail
    refine bodyPost_ret (v := .tuple #[.agg #[.bool h, .int .u8 x, .slice a1 l.length c1], .int .u8 0, .bool false, .int .i64 2]) (by simp [results, Try.results71, go_sem, r0, r1, r2]) rfl ?_
    exact ⟨_, rfl, M2.out.last _ _ _⟩
  | true =>
    have K1 := Lib.hid k1
    by_cases hp : p < 0
    · rw [show lookBd h x l p r = (l, 0, false, 2) by simp [lookBd, mayL, Int.not_le.2 hp]]
      clear k1
      go_enter Try.func71, Try.ntmps71
      go_wp2_with fail
      rw [← HW0.out]
      refine (ownBd_c h x _ l W0 (HR.out.below B0.out) (by omega)).mono ?_
      rintro e w1 ⟨v1, rfl, fr1, b1⟩
      obtain ⟨a1, c1, rfl⟩ := Ty.shape fr1
      have M1 := Lib.hid (BM.new (h := h) (x := x) HW0.out fr1 b1)
      obtain ⟨p0, p1, p2, p3, p4, p5⟩ := threeBlk ((b1.block _ (blk_lt BK.out)).trans BK.out)
      have hp1 := blk_lt ((b1.block _ (blk_lt BK.out)).trans BK.out)
      clear fr1 b1
      go_wp2_with fail
      obtain ⟨W1, hW1⟩ : ∃ W1, W1 = w1.alloc (.cells #[.bool h, .int .u8 x, .slice a1 l.length c1] 131) := ⟨_, rfl⟩
      rw [← hW1] at M1 ⊢
      clear hW1 p0 p1 p2 p3 p4 p5 HW0
      have hv := validBd_c h x _ l W1 (HR.out.below M1.out.bel) HWF.out (by omega)
      rw [K1.out] at hv
      refine hv.mono ?_
      clear hv
      rintro e w2 ⟨rfl, b2⟩
      have M2 := Lib.hid (M1.out.next b2)
      clear b2 M1
      obtain ⟨p0, p1, p2, p3, p4, p5⟩ := threeBlk M2.out.arg
      obtain ⟨r0, r1, r2, r3, r4, r5⟩ := threeBlk M2.out.res
      obtain ⟨o0, o1, o2, o3, o4, o5⟩ := threeBlk M2.out.obj
      have hos := blk_lt M2.out.obj
      have has := blk_lt M2.out.arg
      have hrs := blk_lt M2.out.res
      have hge := M2.out.ge
      have hn1 : w1.heap.size ≠ w.heap.size + 1 := by omega
      have hn2 : w.heap.size + 1 ≠ w1.heap.size := by omega
      go_wp2_with fail
      refine bodyPost_ret (v := .tuple #[.agg #[.bool h, .int .u8 x, .slice a1 l.length c1], .int .u8 0, .bool false, .int .i64 2]) (by simp [results, Try.results71, go_sem, r0, r1, r2]) rfl ?_
      exact ⟨_, rfl, M2.out.last _ _ _⟩
    · have hp' : 0 ≤ p := by omega
      cases ka : l.any (fun y => decide (y.proc = p)) with
      | true =>
        rw [show lookBd h x l p r = (l, 0, false, 2) by simp [lookBd, mayL, ka]]
        have KA := Lib.hid ka
        clear k1 ka
        go_enter Try.func71, Try.ntmps71
        go_wp2_with fail
        rw [← HW0.out]
        refine (ownBd_c h x _ l W0 (HR.out.below B0.out) (by omega)).mono ?_
        rintro e w1 ⟨v1, rfl, fr1, b1⟩
        obtain ⟨a1, c1, rfl⟩ := Ty.shape fr1
        have M1 := Lib.hid (BM.new (h := h) (x := x) HW0.out fr1 b1)
        obtain ⟨p0, p1, p2, p3, p4, p5⟩ := threeBlk ((b1.block _ (blk_lt BK.out)).trans BK.out)
        have hp1 := blk_lt ((b1.block _ (blk_lt BK.out)).trans BK.out)
        clear fr1 b1
        go_wp2_with fail
        obtain ⟨W1, hW1⟩ : ∃ W1, W1 = w1.alloc (.cells #[.bool h, .int .u8 x, .slice a1 l.length c1] 131) := ⟨_, rfl⟩
        rw [← hW1] at M1 ⊢
        clear hW1 p0 p1 p2 p3 p4 p5 HW0
        have hv := validBd_c h x _ l W1 (HR.out.below M1.out.bel) HWF.out (by omega)
        rw [K1.out] at hv
        refine hv.mono ?_
        clear hv
        rintro e w2 ⟨rfl, b2⟩
        have M2 := Lib.hid (M1.out.next b2)
        clear b2 M1
        obtain ⟨p0, p1, p2, p3, p4, p5⟩ := threeBlk M2.out.arg
        obtain ⟨r0, r1, r2, r3, r4, r5⟩ := threeBlk M2.out.res
        obtain ⟨o0, o1, o2, o3, o4, o5⟩ := threeBlk M2.out.obj
        have hos := blk_lt M2.out.obj
        have has := blk_lt M2.out.arg
        have hrs := blk_lt M2.out.res
        have hge := M2.out.ge
        have hn1 : w1.heap.size ≠ w.heap.size + 1 := by omega
        have hn2 : w.heap.size + 1 ≠ w1.heap.size := by omega
        have M2a := Lib.hid (M2.out.next ((Below.refl _ w2).alloc (Nat.le_refl _) (.cells #[.slice ao l.length ca] 25)))
        go_wp2_with fail
        have hq := bwaits_c p (.slice (some ⟨w2.heap.size, 0, none⟩) 1 1) [l] (w2.alloc (.cells #[.slice ao l.length ca] 25)) (RdL.one rfl (HR.out.below M2.out.bel)) (by simp) (by rw [flat_one]; omega)
        rw [flat_one, KA.out] at hq
        refine hq.mono ?_
        clear hq
        rintro e w3 ⟨rfl, b3⟩
        have M3 := Lib.hid (M2a.out.next b3)
        clear b3 M2a M2 p0 p1 p2 p3 p4 p5 r0 r1 r2 r3 r4 r5 o0 o1 o2 o3 o4 o5 hos has hrs
        obtain ⟨p0, p1, p2, p3, p4, p5⟩ := threeBlk M3.out.arg
        obtain ⟨r0, r1, r2, r3, r4, r5⟩ := threeBlk M3.out.res
        obtain ⟨o0, o1, o2, o3, o4, o5⟩ := threeBlk M3.out.obj
        have hos := blk_lt M3.out.obj
        have has := blk_lt M3.out.arg
        have hrs := blk_lt M3.out.res
        go_wp2_with fail
        refine bodyPost_ret (v := .tuple #[.agg #[.bool h, .int .u8 x, .slice a1 l.length c1], .int .u8 0, .bool false, .int .i64 2]) (by simp [results, Try.results71, go_sem, r0, r1, r2]) rfl ?_
        exact ⟨_, rfl, M3.out.last _ _ _⟩
      | false =>
        have KA := Lib.hid ka
        have hm : mayL l p = true := by simp [mayL, hp', ka]
        cases h with
        | true =>
          rw [show lookBd true x l p r = (l, x, true, 0) by simp [lookBd, k1, hm]]
          clear k1 ka hm
          go_enter Try.func71, Try.ntmps71
          go_wp2_with fail
          rw [← HW0.out]
          refine (ownBd_c true x _ l W0 (HR.out.below B0.out) (by omega)).mono ?_
          rintro e w1 ⟨v1, rfl, fr1, b1⟩
          obtain ⟨a1, c1, rfl⟩ := Ty.shape fr1
          have M1 := Lib.hid (BM.new (h := true) (x := x) HW0.out fr1 b1)
          obtain ⟨p0, p1, p2, p3, p4, p5⟩ := threeBlk ((b1.block _ (blk_lt BK.out)).trans BK.out)
          have hp1 := blk_lt ((b1.block _ (blk_lt BK.out)).trans BK.out)
          clear fr1 b1
          go_wp2_with fail
          obtain ⟨W1, hW1⟩ : ∃ W1, W1 = w1.alloc (.cells #[.bool true, .int .u8 x, .slice a1 l.length c1] 131) := ⟨_, rfl⟩
          rw [← hW1] at M1 ⊢
          clear hW1 p0 p1 p2 p3 p4 p5 HW0
          have hv := validBd_c true x _ l W1 (HR.out.below M1.out.bel) HWF.out (by omega)
          rw [K1.out] at hv
          refine hv.mono ?_
          clear hv
          rintro e w2 ⟨rfl, b2⟩
          have M2 := Lib.hid (M1.out.next b2)
          clear b2 M1
          obtain ⟨p0, p1, p2, p3, p4, p5⟩ := threeBlk M2.out.arg
          obtain ⟨r0, r1, r2, r3, r4, r5⟩ := threeBlk M2.out.res
          obtain ⟨o0, o1, o2, o3, o4, o5⟩ := threeBlk M2.out.obj
          have hos := blk_lt M2.out.obj
          have has := blk_lt M2.out.arg
          have hrs := blk_lt M2.out.res
          have hge := M2.out.ge
          have hn1 : w1.heap.size ≠ w.heap.size + 1 := by omega
          have hn2 : w.heap.size + 1 ≠ w1.heap.size := by omega
          have M2a := Lib.hid (M2.out.next ((Below.refl _ w2).alloc (Nat.le_refl _) (.cells #[.slice ao l.length ca] 25)))
          go_wp2_with fail
          have hq := bwaits_c p (.slice (some ⟨w2.heap.size, 0, none⟩) 1 1) [l] (w2.alloc (.cells #[.slice ao l.length ca] 25)) (RdL.one rfl (HR.out.below M2.out.bel)) (by simp) (by rw [flat_one]; omega)
          rw [flat_one, KA.out] at hq
          refine hq.mono ?_
          clear hq
          rintro e w3 ⟨rfl, b3⟩
          have M3 := Lib.hid (M2a.out.next b3)
          clear b3 M2a M2 p0 p1 p2 p3 p4 p5 r0 r1 r2 r3 r4 r5 o0 o1 o2 o3 o4 o5 hos has hrs
          obtain ⟨p0, p1, p2, p3, p4, p5⟩ := threeBlk M3.out.arg
          obtain ⟨r0, r1, r2, r3, r4, r5⟩ := threeBlk M3.out.res
          obtain ⟨o0, o1, o2, o3, o4, o5⟩ := threeBlk M3.out.obj
          have hos := blk_lt M3.out.obj
          have has := blk_lt M3.out.arg
          have hrs := blk_lt M3.out.res
          go_wp2_with fail
          go_region
          all_goals
            go_wp2_with fail
            refine bodyPost_ret (v := .tuple #[.agg #[.bool true, .int .u8 x, .slice a1 l.length c1], .int .u8 x, .bool true, .int .i64 0]) (by simp [results, Try.results71, go_sem, r0, r1, r2]) rfl ?_
            exact ⟨_, rfl, M3.out.drew.last _ _ _⟩
        | false =>
          rw [show lookBd false x l p r = (enterW l ⟨p, r, 0⟩, 0, false, 0) by simp [lookBd, k1, hm]]
          clear k1 ka hm
          go_enter Try.func71, Try.ntmps71
          go_wp2_with fail
          rw [← HW0.out]
          refine (ownBd_c false x _ l W0 (HR.out.below B0.out) (by omega)).mono ?_
          rintro e w1 ⟨v1, rfl, fr1, b1⟩
          obtain ⟨a1, c1, rfl⟩ := Ty.shape fr1
          have M1 := Lib.hid (BM.new (h := false) (x := x) HW0.out fr1 b1)
          obtain ⟨p0, p1, p2, p3, p4, p5⟩ := threeBlk ((b1.block _ (blk_lt BK.out)).trans BK.out)
          have hp1 := blk_lt ((b1.block _ (blk_lt BK.out)).trans BK.out)
          clear fr1 b1
          go_wp2_with fail
          obtain ⟨W1, hW1⟩ : ∃ W1, W1 = w1.alloc (.cells #[.bool false, .int .u8 x, .slice a1 l.length c1] 131) := ⟨_, rfl⟩
          rw [← hW1] at M1 ⊢
          clear hW1 p0 p1 p2 p3 p4 p5 HW0
          have hv := validBd_c false x _ l W1 (HR.out.below M1.out.bel) HWF.out (by omega)
          rw [K1.out] at hv
          refine hv.mono ?_
          clear hv
          rintro e w2 ⟨rfl, b2⟩
          have M2 := Lib.hid (M1.out.next b2)
          clear b2 M1
          obtain ⟨p0, p1, p2, p3, p4, p5⟩ := threeBlk M2.out.arg
          obtain ⟨r0, r1, r2, r3, r4, r5⟩ := threeBlk M2.out.res
          obtain ⟨o0, o1, o2, o3, o4, o5⟩ := threeBlk M2.out.obj
          have hos := blk_lt M2.out.obj
          have has := blk_lt M2.out.arg
          have hrs := blk_lt M2.out.res
          have hge := M2.out.ge
          have hn1 : w1.heap.size ≠ w.heap.size + 1 := by omega
          have hn2 : w.heap.size + 1 ≠ w1.heap.size := by omega
          have M2a := Lib.hid (M2.out.next ((Below.refl _ w2).alloc (Nat.le_refl _) (.cells #[.slice ao l.length ca] 25)))
          go_wp2_with fail
          have hq := bwaits_c p (.slice (some ⟨w2.heap.size, 0, none⟩) 1 1) [l] (w2.alloc (.cells #[.slice ao l.length ca] 25)) (RdL.one rfl (HR.out.below M2.out.bel)) (by simp) (by rw [flat_one]; omega)
          rw [flat_one, KA.out] at hq
          refine hq.mono ?_
          clear hq
          rintro e w3 ⟨rfl, b3⟩
          have M3 := Lib.hid (M2a.out.next b3)
          clear b3 M2a M2 p0 p1 p2 p3 p4 p5 r0 r1 r2 r3 r4 r5 o0 o1 o2 o3 o4 o5 hos has hrs
          obtain ⟨p0, p1, p2, p3, p4, p5⟩ := threeBlk M3.out.arg
          obtain ⟨r0, r1, r2, r3, r4, r5⟩ := threeBlk M3.out.res
          obtain ⟨o0, o1, o2, o3, o4, o5⟩ := threeBlk M3.out.obj
          have hos := blk_lt M3.out.obj
          have has := blk_lt M3.out.arg
          have hrs := blk_lt M3.out.res
          go_wp2_with fail
          refine (enterW_c _ l ⟨p, r, 0⟩ w3 M3.out.fr.rd (by omega)).mono ?_
          rintro e w4 ⟨v3, rfl, ho3, hb3⟩
          obtain ⟨a3, c3, rfl⟩ := own_slice ho3
          have M4 := Lib.hid (M3.out.put2 hb3 ho3)
          clear p0 p1 p2 p3 p4 p5 r0 r1 r2 r3 r4 r5 o0 o1 o2 o3 o4 o5 hos has hrs
          obtain ⟨r0, r1, r2, r3, r4, r5⟩ := threeBlk (M3.out.next hb3).res
          obtain ⟨o0, o1, o2, o3, o4, o5⟩ := threeBlk (M3.out.next hb3).obj
          have hos := blk_lt (M3.out.next hb3).obj
          have hrs := blk_lt (M3.out.next hb3).res
          clear ho3 hb3 M3
          generalize (enterW l ⟨p, r, 0⟩).length = m3 at M4 ⊢
          go_wp2_with fail
          refine bodyPost_ret (v := .tuple #[.agg #[.bool false, .int .u8 x, .slice a3 m3 c3], .int .u8 0, .bool false, .int .i64 0]) (by simp [results, Try.results71, go_sem, r0, r1, r2]) rfl ?_
          exact ⟨_, rfl, M4.out.last _ _ _⟩

/-- What Show keeps: the argument and the result's variable. -/
structure BV (w W : World) (h0 : Bool) (x0 : Int) (v0 : Value) : Prop where
  arg : W.heap[w.heap.size]? = some (.cells #[.bool h0, .int .u8 x0, v0] 131 (0, 0))
  res : W.heap[w.heap.size + 1]? = some (.cells #[.bool false, .int .u8 0, .slice none 0 0] 131 (0, 0))
  bel : Below w.heap.size w W
  sz : w.heap.size + 2 ≤ W.heap.size
section
variable {w W W' : World} {h0 : Bool} {x0 : Int} {v0 : Value}
theorem BV.next (m : BV w W h0 x0 v0) (hb : Below W.heap.size W W') : BV w W' h0 x0 v0 := ⟨(hb.block _ (blk_lt m.arg)).trans m.arg, (hb.block _ (blk_lt m.res)).trans m.res, m.bel.trans (hb.mono m.bel.size), Nat.le_trans m.sz hb.size⟩
theorem BV.grown {row : Option Nat} (m : BV w W h0 x0 v0) (hg : W.grownBy W' row) (hr : ∀ g, row = some g → w.heap.size + 2 ≤ g) : BV w W' h0 x0 v0 := by
  refine ⟨(hg.block _ (blk_lt m.arg) (fun e => ?_)).trans m.arg, (hg.block _ (blk_lt m.res) (fun e => ?_)).trans m.res, m.bel.grown hg m.bel.size (fun g e => by have := hr g e; omega), Nat.le_trans m.sz hg.size⟩
  · have := hr _ e.symm; omega
  · have := hr _ e.symm; omega
theorem BV.start (hW : W = (w.alloc (.cells #[.bool h0, .int .u8 x0, v0] 131)).alloc (.cells #[.bool false, .int .u8 0, .slice none 0 0] 131)) : BV w W h0 x0 v0 := by
  subst hW
  exact ⟨(Below.heap_alloc _ _ _ (by simp)).trans (heap_alloc_new w _), allocBd2 w _ _, ((Below.refl _ w).alloc (Nat.le_refl _) _).alloc (by simp) _, by simp⟩
theorem BV.last (m : BV w W h0 x0 v0) (a b c : Value) : Below w.heap.size w (((W.setCell ⟨w.heap.size + 1, 0, none⟩ a).setCell ⟨w.heap.size + 1, 1, none⟩ b).setCell ⟨w.heap.size + 1, 2, none⟩ c) :=
  ((m.bel.setCell (p := ⟨w.heap.size + 1, 0, none⟩) (by simp) _).setCell (p := ⟨w.heap.size + 1, 1, none⟩) (by simp) _).setCell (p := ⟨w.heap.size + 1, 2, none⟩) (by simp) _
end

set_option maxHeartbeats 4000000 in
set_option maxRecDepth 100000 in
theorem showBd_c (h : Bool) (x : Int) (y : Int) (v : Value) (l : List Wt) (w : World) (hr : RdW w 0 v l) (hwf : WfW l) (hl : l.length ≤ 90000) :
    Calls Try.prog 74 #[.agg #[.bool h, .int .u8 x, v], .int .u8 y] w (RBdI w (showBd h x l y).1 (showBd h x l y).2.1 (showBd h x l y).2.2.1 (showBd h x l y).2.2.2.1 (.int .i64 (showBd h x l y).2.2.2.2)) := by
  obtain ⟨ao, ca, rfl, _, _, hpa⟩ := hr.open_
  obtain ⟨W0, hW0⟩ : ∃ W0, W0 = (w.alloc (.cells #[.bool h, .int .u8 x, .slice ao l.length ca] 131)).alloc (.cells #[.bool false, .int .u8 0, .slice none 0 0] 131) := ⟨_, rfl⟩
  have B0 : Hid (Below w.heap.size w W0) := by subst hW0; exact ((Below.refl _ w).alloc (Nat.le_refl _) _).alloc (by simp) _
  have BK : Hid (W0.heap[w.heap.size]? = some (.cells #[.bool h, .int .u8 x, .slice ao l.length ca] 131 (0, 0))) := by subst hW0; exact (Below.heap_alloc _ _ _ (by simp)).trans (heap_alloc_new w _)
  have HW0 := Lib.hid hW0
  have HR := Lib.hid hr
  have HWF := Lib.hid hwf
  have M0 := Lib.hid (BV.start HW0.out)
  obtain ⟨i0, hi, hz0, hz1, hz2⟩ := info_parts info_I
  clear hr hwf hW0
  cases k1 : vldBd h x l with
  | false =>
    rw [show showBd h x l y = (h, x, l, [], 2) by simp [showBd, k1]]
    have K1 := Lib.hid k1
    clear k1 hpa
    go_enter Try.func74, Try.ntmps74
    go_wp2_with fail
    rw [← HW0.out]
    have hv := validBd_c h x _ l W0 (HR.out.below B0.out) HWF.out (by omega)
    rw [K1.out] at hv
    refine hv.mono ?_
    clear hv
    rintro e w2 ⟨rfl, b2⟩
    have M2 := Lib.hid (M0.out.next b2)
    clear b2 M0 HW0
    obtain ⟨p0, p1, p2, p3, p4, p5⟩ := threeBlk M2.out.arg
    obtain ⟨r0, r1, r2, r3, r4, r5⟩ := threeBlk M2.out.res
    have has := blk_lt M2.out.arg
    have hrs := blk_lt M2.out.res
    go_wp2_with fail
    refine (ownBd_c h x _ l w2 (HR.out.below M2.out.bel) (by omega)).mono ?_
    rintro e w3 ⟨v3, rfl, fr3, b3⟩
    obtain ⟨a3, c3, rfl⟩ := Ty.shape fr3
    have M3 := Lib.hid (M2.out.next b3)
    have F3 : Hid (TyW w3 (w.heap.size + 2) (.slice a3 l.length c3) l) := Ty.mono fr3 M2.out.sz
    clear b3 fr3 M2 p0 p1 p2 p3 p4 p5 r0 r1 r2 r3 r4 r5 has hrs
    obtain ⟨r0, r1, r2, r3, r4, r5⟩ := threeBlk M3.out.res
    have hrs := blk_lt M3.out.res
    go_wp2_with fail
    refine bodyPost_ret (v := .tuple #[.agg #[.bool h, .int .u8 x, .slice a3 l.length c3], .slice none 0 0, .int .i64 2]) (by simp [results, Try.results74, go_sem, r0, r1, r2]) rfl ?_
    exact ⟨_, _, rfl, Ty.mono (Ty.set3 F3.out (Tag.of M3.out.res) (by decide) _ _ _) (by omega), World.ownsRow_nil _ _ _ _, M3.out.last _ _ _⟩
  | true =>
    rw [show showBd h x l y = (true, y, [], l.map (·.proc), 0) by simp [showBd, k1]]
    have K1 := Lib.hid k1
    have HPA := Lib.hid hpa
    clear k1 hpa
    go_enter Try.func74, Try.ntmps74
    go_wp2_with fail
    rw [← HW0.out]
    have hv := validBd_c h x _ l W0 (HR.out.below B0.out) HWF.out (by omega)
    rw [K1.out] at hv
    refine hv.mono ?_
    clear hv
    rintro e w2 ⟨rfl, b2⟩
    have M2 := Lib.hid (M0.out.next b2)
    clear b2 M0 HW0
    obtain ⟨p0, p1, p2, p3, p4, p5⟩ := threeBlk M2.out.arg
    obtain ⟨r0, r1, r2, r3, r4, r5⟩ := threeBlk M2.out.res
    have has := blk_lt M2.out.arg
    have hrs := blk_lt M2.out.res
    go_wp2_with fail
    clear p0 p1 p2 p3 p4 p5 r0 r1 r2 r3 r4 r5 has hrs
    go_loopg [7, 9, 18] l.length (fun gg s7 _ s18 wr => ∃ k : Nat, k ≤ l.length ∧ l.length - k ≤ gg ∧ s18 = .int .i64 k ∧ Aside (BV w wr h x (.slice ao l.length ca) ∧ OwnI wr (w.heap.size + 2) s7 ((l.take k).map (·.proc))))
    case atStart => exact ⟨0, Nat.zero_le _, by omega, rfl, M2.out, World.ownsRow_nil _ _ _ _⟩
    case round =>
      obtain ⟨k, hk, hg, rfl, A⟩ := hrel
      clear M2
      by_cases hlt : k < l.length
      · have hltz : (k : Int) < (l.length : Int) := by omega
        obtain ⟨b', off, rfl, _, hbs, ca'⟩ := HPA.out (by omega)
        obtain ⟨c0, c1, c2⟩ := ca' k hlt
        rw [← A.out.1.bel.cell (p := ⟨b', _, none⟩) hbs] at c0 c1 c2
        have hbr : b' < wr.heap.size := Nat.lt_of_lt_of_le hbs A.out.1.bel.size
        clear ca'
        have hlen : ((l.take k).map (·.proc)).length = k := by simp; omega
        have HLN := Lib.hid hlen
        clear hlen
        have hown := A.out.2
        unfold OwnI at hown
        rw [HLN.out] at hown
        have HO := Lib.hid hown
        have hw1 : w.heap.size + 2 ≤ wr.heap.size := A.out.1.sz
        clear hown
        go_wp2_with (at_builtin; refine wpList_append_own _ rfl _ _ 78 rfl (w.heap.size + 2) 3 i0 (.int .i64 0) 1 8 Try.underlying78 hi hz0 hz1 hz2 rfl (by decide) _ _ _ rfl ((HO.out.alloc _).alloc _) ⟨wr.heap.size + 1, 0, none⟩ 1 1 [.int .i64 l[k].proc] rfl rfl ?c1 ?c2 ?c3 ?c4 ?c5 ?_)
        case c1 =>
          intro j u hj
          match j, hj with
          | 0, hj => simp at hj; subst hj; rw [addr_add]; go_simp
        case c2 => intro u hu; simp at hu; subst hu; rfl
        case c3 => unfold maxLen; omega
        case c4 => omega
        case c5 => simp; omega
        intro v' w1 hown' hgrow _
        have HO' := Lib.hid hown'
        have HG' := Lib.hid hgrow
        clear hown' hgrow
        go_wp2
        go_roundg (l.length - (k + 1))
        case measure => omega
        case rel =>
          refine ⟨k + 1, by omega, by omega, by go_num, (A.out.1.next (((Below.refl _ wr).alloc (Nat.le_refl _) _).alloc (by simp) _)).grown HG'.out (fun g hg => (HO.out.lt g hg).1), ?_⟩
          unfold OwnI
          rw [List.take_succ_eq_append_getElem hlt, List.map_append, List.length_append, HLN.out, List.map_append]
          simpa [List.map_take] using HO'.out
      · have hltz : ¬ (k : Int) < (l.length : Int) := by omega
        obtain ⟨r0, r1, r2, r3, r4, r5⟩ := threeBlk A.out.1.res
        have hrs := blk_lt A.out.1.res
        have hown := A.out.2
        rw [List.take_of_length_le (by omega)] at hown
        obtain ⟨a7, m7, c7, rfl, hm7⟩ := own_shape hown
        clear hm7
        have HO := Lib.hid hown
        have M3 := Lib.hid A.out.1
        clear hown A
        go_wp2_with fail
        refine bodyPost_ret (v := .tuple #[.agg #[.bool true, .int .u8 y, .slice none 0 0], .slice a7 m7 c7, .int .i64 0]) (by simp [results, Try.results74, go_sem, r0, r1, r2]) rfl ?_
        exact ⟨_, _, rfl, Ty.nil _ _ _ _, own_mono (own_low (own_low (own_low HO.out (by omega)) (by omega)) (by omega)) (by omega), M3.out.last _ _ _⟩
end Go.Proofs.Ytglbfmcbojjglaa

/-
  Contracts of the exported functions of package sema but Signal. Conditions: the list can be read, its processes are of type int, at most ninety thousand elements.
-/
import Derived.Test.YtglbfmcbojjglaaSemaD
namespace Go.Proofs.Ytglbfmcbojjglaa
open Go.RowKit

/-- P25.2 -/
def waitS (n : Int) (l : List Wt) (p r : Int) : Int × List Wt × Bool × Int :=
  if vldS n l = false ∨ mayL l p = false then (n, l, false, 2) else if 0 < n then (n - 1, l, true, 0) else (n, enterW l ⟨p, r, 0⟩, false, 0)
/-- P25.4 -/
def cancelS (n : Int) (l : List Wt) (p : Int) : List Wt × Int := if vldS n l = false then (l, 2) else (leaveW l p, 0)
def cancelE (n : Bool) (l : List Wt) (p : Int) : List Wt × Int := if vldE n l = false then (l, 2) else (leaveW l p, 0)
/-- P25.3 -/
def lowerE (n : Bool) (l : List Wt) : Bool × Int := if vldE n l = false then (n, 2) else (false, 0)
def untilE (n : Bool) (l : List Wt) (p r : Int) : List Wt × Bool × Int :=
  if vldE n l = false ∨ mayL l p = false then (l, false, 2) else if n = true then (l, true, 0) else (enterW l ⟨p, r, 0⟩, false, 0)
def raiseE (n : Bool) (l : List Wt) : Bool × List Wt × List Int × Int := if vldE n l = false then (n, l, [], 2) else (true, [], l.map (·.proc), 0)

theorem vldS_bd {n : Int} {l : List Wt} (h : vldS n l = true) : 0 ≤ n ∧ n ≤ 255 := by
  simp only [vldS, Bool.and_eq_true, decide_eq_true_eq] at h
  exact ⟨h.1.1, h.1.2⟩

theorem mid_leave {w W W' : World} {t t' : TypeId} {c z v0 : Value} {g : Nat} {v1 c1 : Value} {l m : List Wt} {v2 : Value} (h : Mid w W t t' c z v0 g v1 c1 l) (ho : W'.ownsRow W.heap.size 56 3 v2 m.length (cellsW m)) (hb : Below W.heap.size W W') :
    Mid w (W'.setCell ⟨g, 0, none⟩ v2) t t' c z v0 g v2 c1 m := by
  have hge := h.ge
  have hl := blk_lt h.obj
  refine (h.next hb).put0 v2 ((FrW.of_own ho).mono (by omega)) (fun a n cc hv hn => ?_)
  subst hv
  have := (ho.lt a.block rfl).1
  omega

set_option maxHeartbeats 2000000 in
set_option maxRecDepth 100000 in
theorem waitS_c (n : Int) (p r : Int) (v : Value) (l : List Wt) (w : World) (h : RdW w 0 v l) (hwf : WfW l) (hl : l.length ≤ 90000) :
    Calls Try.prog 46 #[.agg #[.int .i64 n, v], .int .i64 p, .int .i64 r] w (Ret3 w (.int .i64 (waitS n l p r).1) (waitS n l p r).2.1 (.bool (waitS n l p r).2.2.1) (.int .i64 (waitS n l p r).2.2.2)) := by
  obtain ⟨ao, cap, rfl, hnc, hno, _⟩ := h.open_
  obtain ⟨W0, hW0⟩ : ∃ W0, W0 = ((w.alloc (.cells #[.int .i64 n, .slice ao l.length cap] 71)).alloc (.cells #[.int .i64 0, .slice none 0 0] 71)) := ⟨_, rfl⟩
  have hR0 : RdW W0 0 (.slice ao l.length cap) l := by subst hW0; exact (h.alloc _).alloc _
  have HOp := Lib.hid (openS_c n _ l W0 hR0 (by omega))
  have HW0 := Lib.hid hW0
  have HR0 := Lib.hid hR0
  have HWF := Lib.hid hwf
  clear h hW0 hR0 hwf
  have hway : (vldS n l = false ∧ waitS n l p r = (n, l, false, 2)) ∨ (vldS n l = true ∧ mayL l p = false ∧ waitS n l p r = (n, l, false, 2)) ∨ (vldS n l = true ∧ mayL l p = true ∧ 0 < n ∧ waitS n l p r = (n - 1, l, true, 0)) ∨
      (vldS n l = true ∧ mayL l p = true ∧ n = 0 ∧ waitS n l p r = (n, enterW l ⟨p, r, 0⟩, false, 0)) := by
    unfold waitS
    cases h1 : vldS n l
    · simp
    · have hn := vldS_bd h1
      cases h2 : mayL l p
      · simp
      · by_cases h3 : 0 < n
        · simp [h3]
        · have : n = 0 := by omega
          simp [this]
  rcases hway with ⟨k1, k2⟩ | ⟨k1, k2, k3⟩ | ⟨k1, k2, k3, k4⟩ | ⟨k1, k2, rfl, k4⟩
  · rw [k2]
    clear k2
    have K1 := Lib.hid k1
    clear k1
    go_enter Try.func46, Try.ntmps46
    go_wp2_with fail
    rw [← HW0.out]
    refine HOp.out.mono ?_
    rintro e w1 ⟨g, v1, rfl, hg1, hg2, hfr, hb1, hap⟩
    have M1 := Lib.hid (Mid.open_ HW0.out hg1 hg2 hfr hb1 hap)
    obtain ⟨a1, d1, rfl⟩ := fr_slice hfr
    have HR1 := Lib.hid (HR0.out.below hb1)
    obtain ⟨x0, x1, _, _⟩ := twoBlk M1.out.arg
    clear hg1 hg2 hfr hb1 hap HOp HR0 HW0
    go_wp2_with fail
    have hv := validS_c n _ l w1 HR1.out HWF.out (by omega)
    rw [K1.out] at hv
    refine hv.mono ?_
    clear hv
    rintro e w2 ⟨rfl, hb2⟩
    have M2 := Lib.hid (M1.out.next hb2)
    obtain ⟨o0, o1, o2, o3⟩ := twoBlk M2.out.obj
    have os := blk_lt M2.out.obj
    clear hb2 M1 x0 x1 HR1 HWF
    go_wp2_with fail
    refine (closeS_c g n a1 _ d1 _ (M2.out).obj).mono ?_
    rintro e w3 ⟨rfl, hb3⟩
    have M3 := Lib.hid ((M2.out).next hb3)
    obtain ⟨y0, y1, y2, y3⟩ := twoBlk M3.out.res
    have ys := blk_lt M3.out.res
    clear hb3 o0 o1 o2 o3
    go_wp2_with fail
    refine bodyPost_ret (v := .tuple #[.agg #[.int .i64 n, .slice a1 l.length d1], .bool false, .int .i64 2]) (by simp [results, Try.results46, go_sem, y0, y1]) rfl ?_
    exact ⟨_, rfl, M3.out.last _ _⟩
  · rw [k3]
    clear k3
    have K1 := Lib.hid k1
    have K2 := Lib.hid k2
    clear k1 k2
    go_enter Try.func46, Try.ntmps46
    go_wp2_with fail
    rw [← HW0.out]
    refine HOp.out.mono ?_
    rintro e w1 ⟨g, v1, rfl, hg1, hg2, hfr, hb1, hap⟩
    have M1 := Lib.hid (Mid.open_ HW0.out hg1 hg2 hfr hb1 hap)
    obtain ⟨a1, d1, rfl⟩ := fr_slice hfr
    have HR1 := Lib.hid (HR0.out.below hb1)
    obtain ⟨x0, x1, _, _⟩ := twoBlk M1.out.arg
    clear hg1 hg2 hfr hb1 hap HOp HR0 HW0
    go_wp2_with fail
    have hv := validS_c n _ l w1 HR1.out HWF.out (by omega)
    rw [K1.out] at hv
    refine hv.mono ?_
    clear hv
    rintro e w2 ⟨rfl, hb2⟩
    have M2 := Lib.hid (M1.out.next hb2)
    obtain ⟨o0, o1, o2, o3⟩ := twoBlk M2.out.obj
    have os := blk_lt M2.out.obj
    clear hb2 M1 x0 x1 HR1 HWF
    go_wp2_with fail
    have hm := may_c g 0 _ l p w2 o0 M2.out.fr.rd (by omega)
    rw [K2.out] at hm
    refine hm.mono ?_
    clear hm o0 o1 o2 o3
    rintro e w3 ⟨rfl, hb3⟩
    have M3 := Lib.hid (M2.out.next hb3)
    obtain ⟨o0, o1, o2, o3⟩ := twoBlk M3.out.obj
    clear hb3 M2
    go_wp2_with fail
    refine (closeS_c g n a1 _ d1 _ (M3.out).obj).mono ?_
    rintro e w4 ⟨rfl, hb4⟩
    have M4 := Lib.hid ((M3.out).next hb4)
    obtain ⟨y0, y1, y2, y3⟩ := twoBlk M4.out.res
    have ys := blk_lt M4.out.res
    clear hb4 o0 o1 o2 o3
    go_wp2_with fail
    refine bodyPost_ret (v := .tuple #[.agg #[.int .i64 n, .slice a1 l.length d1], .bool false, .int .i64 2]) (by simp [results, Try.results46, go_sem, y0, y1]) rfl ?_
    exact ⟨_, rfl, M4.out.last _ _⟩
  · rw [k4]
    clear k4
    have K1 := Lib.hid k1
    have K2 := Lib.hid k2
    clear k1 k2
    have hnb := vldS_bd K1.out
    have hn0 : 0 ≤ n := hnb.1
    have hn1 : n ≤ 255 := hnb.2
    clear hnb
    go_enter Try.func46, Try.ntmps46
    go_wp2_with fail
    rw [← HW0.out]
    refine HOp.out.mono ?_
    rintro e w1 ⟨g, v1, rfl, hg1, hg2, hfr, hb1, hap⟩
    have M1 := Lib.hid (Mid.open_ HW0.out hg1 hg2 hfr hb1 hap)
    obtain ⟨a1, d1, rfl⟩ := fr_slice hfr
    have HR1 := Lib.hid (HR0.out.below hb1)
    obtain ⟨x0, x1, _, _⟩ := twoBlk M1.out.arg
    clear hg1 hg2 hfr hb1 hap HOp HR0 HW0
    go_wp2_with fail
    have hv := validS_c n _ l w1 HR1.out HWF.out (by omega)
    rw [K1.out] at hv
    refine hv.mono ?_
    clear hv
    rintro e w2 ⟨rfl, hb2⟩
    have M2 := Lib.hid (M1.out.next hb2)
    obtain ⟨o0, o1, o2, o3⟩ := twoBlk M2.out.obj
    have os := blk_lt M2.out.obj
    clear hb2 M1 x0 x1 HR1 HWF
    go_wp2_with fail
    have hm := may_c g 0 _ l p w2 o0 M2.out.fr.rd (by omega)
    rw [K2.out] at hm
    refine hm.mono ?_
    clear hm o0 o1 o2 o3
    rintro e w3 ⟨rfl, hb3⟩
    have M3 := Lib.hid (M2.out.next hb3)
    obtain ⟨o0, o1, o2, o3⟩ := twoBlk M3.out.obj
    clear hb3 M2
    go_wp2_with fail
    refine (closeS_c g (n - 1) a1 _ d1 _ (M3.out.put1 (.int .i64 (n - 1))).obj).mono ?_
    rintro e w4 ⟨rfl, hb4⟩
    have M4 := Lib.hid ((M3.out.put1 (.int .i64 (n - 1))).next hb4)
    obtain ⟨y0, y1, y2, y3⟩ := twoBlk M4.out.res
    have ys := blk_lt M4.out.res
    clear hb4 o0 o1 o2 o3
    go_wp2_with fail
    refine bodyPost_ret (v := .tuple #[.agg #[.int .i64 (n - 1), .slice a1 l.length d1], .bool true, .int .i64 0]) (by simp [results, Try.results46, go_sem, y0, y1]) rfl ?_
    exact ⟨_, rfl, M4.out.last _ _⟩
  · rw [k4]
    clear k4
    have K1 := Lib.hid k1
    have K2 := Lib.hid k2
    clear k1 k2
    go_enter Try.func46, Try.ntmps46
    go_wp2_with fail
    rw [← HW0.out]
    refine HOp.out.mono ?_
    rintro e w1 ⟨g, v1, rfl, hg1, hg2, hfr, hb1, hap⟩
    have M1 := Lib.hid (Mid.open_ HW0.out hg1 hg2 hfr hb1 hap)
    obtain ⟨a1, d1, rfl⟩ := fr_slice hfr
    have HR1 := Lib.hid (HR0.out.below hb1)
    obtain ⟨x0, x1, _, _⟩ := twoBlk M1.out.arg
    clear hg1 hg2 hfr hb1 hap HOp HR0 HW0
    go_wp2_with fail
    have hv := validS_c 0 _ l w1 HR1.out HWF.out (by omega)
    rw [K1.out] at hv
    refine hv.mono ?_
    clear hv
    rintro e w2 ⟨rfl, hb2⟩
    have M2 := Lib.hid (M1.out.next hb2)
    obtain ⟨o0, o1, o2, o3⟩ := twoBlk M2.out.obj
    have os := blk_lt M2.out.obj
    clear hb2 M1 x0 x1 HR1 HWF
    go_wp2_with fail
    have hm := may_c g 0 _ l p w2 o0 M2.out.fr.rd (by omega)
    rw [K2.out] at hm
    refine hm.mono ?_
    clear hm o0 o1 o2 o3
    rintro e w3 ⟨rfl, hb3⟩
    have M3 := Lib.hid (M2.out.next hb3)
    obtain ⟨o0, o1, o2, o3⟩ := twoBlk M3.out.obj
    clear hb3 M2
    go_wp2_with fail
    refine (enterM_c g 192 _ (.int .i64 0) l p r w3 M3.out.obj M3.out.fr.rd (by omega)).mono ?_
    clear o0 o1 o2 o3
    rintro e w4 ⟨v4, rfl, ho4, hf4, hg4⟩
    obtain ⟨a4, d4, rfl⟩ := fr_slice hf4
    have M4 := Lib.hid (M3.out.enter ho4 hf4 hg4)
    obtain ⟨o0, o1, o2, o3⟩ := twoBlk M4.out.obj
    clear ho4 hf4 hg4 M3
    go_wp2_with fail
    refine (closeS_c g 0 a4 _ d4 _ (M4.out).obj).mono ?_
    rintro e w5 ⟨rfl, hb5⟩
    have M5 := Lib.hid ((M4.out).next hb5)
    obtain ⟨y0, y1, y2, y3⟩ := twoBlk M5.out.res
    have ys := blk_lt M5.out.res
    clear hb5 o0 o1 o2 o3
    go_wp2_with fail
    refine bodyPost_ret (v := .tuple #[.agg #[.int .i64 0, .slice a4 (enterW l ⟨p, r, 0⟩).length d4], .bool false, .int .i64 0]) (by simp [results, Try.results46, go_sem, y0, y1]) rfl ?_
    exact ⟨_, rfl, M5.out.last _ _⟩

set_option maxHeartbeats 2000000 in
set_option maxRecDepth 100000 in
theorem untilE_c (n : Bool) (p r : Int) (v : Value) (l : List Wt) (w : World) (h : RdW w 0 v l) (hwf : WfW l) (hl : l.length ≤ 90000) :
    Calls Try.prog 47 #[.agg #[.bool n, v], .int .i64 p, .int .i64 r] w (Ret3 w (.bool n) (untilE n l p r).1 (.bool (untilE n l p r).2.1) (.int .i64 (untilE n l p r).2.2)) := by
  obtain ⟨ao, cap, rfl, hnc, hno, _⟩ := h.open_
  obtain ⟨W0, hW0⟩ : ∃ W0, W0 = ((w.alloc (.cells #[.bool n, .slice ao l.length cap] 73)).alloc (.cells #[.bool false, .slice none 0 0] 73)) := ⟨_, rfl⟩
  have hR0 : RdW W0 0 (.slice ao l.length cap) l := by subst hW0; exact (h.alloc _).alloc _
  have HOp := Lib.hid (openE_c n _ l W0 hR0 (by omega))
  have HW0 := Lib.hid hW0
  have HR0 := Lib.hid hR0
  have HWF := Lib.hid hwf
  clear h hW0 hR0 hwf
  have hway : (vldE n l = false ∧ untilE n l p r = (l, false, 2)) ∨ (vldE n l = true ∧ mayL l p = false ∧ untilE n l p r = (l, false, 2)) ∨ (vldE n l = true ∧ mayL l p = true ∧ n = true ∧ untilE n l p r = (l, true, 0)) ∨
      (vldE n l = true ∧ mayL l p = true ∧ n = false ∧ untilE n l p r = (enterW l ⟨p, r, 0⟩, false, 0)) := by
    unfold untilE
    cases h1 : vldE n l
    · simp
    · cases h2 : mayL l p
      · simp
      · cases n <;> simp
  rcases hway with ⟨k1, k2⟩ | ⟨k1, k2, k3⟩ | ⟨k1, k2, rfl, k4⟩ | ⟨k1, k2, rfl, k4⟩
  · rw [k2]
    clear k2
    have K1 := Lib.hid k1
    clear k1
    go_enter Try.func47, Try.ntmps47
    go_wp2_with fail
    rw [← HW0.out]
    refine HOp.out.mono ?_
    rintro e w1 ⟨g, v1, rfl, hg1, hg2, hfr, hb1, hap⟩
    have M1 := Lib.hid (Mid.open_ HW0.out hg1 hg2 hfr hb1 hap)
    obtain ⟨a1, d1, rfl⟩ := fr_slice hfr
    have HR1 := Lib.hid (HR0.out.below hb1)
    obtain ⟨x0, x1, _, _⟩ := twoBlk M1.out.arg
    clear hg1 hg2 hfr hb1 hap HOp HR0 HW0
    go_wp2_with fail
    have hv := validE_c n _ l w1 HR1.out HWF.out (by omega)
    rw [K1.out] at hv
    refine hv.mono ?_
    clear hv
    rintro e w2 ⟨rfl, hb2⟩
    have M2 := Lib.hid (M1.out.next hb2)
    obtain ⟨o0, o1, o2, o3⟩ := twoBlk M2.out.obj
    have os := blk_lt M2.out.obj
    clear hb2 M1 x0 x1 HR1 HWF
    go_wp2_with fail
    refine (closeE_c g n a1 _ d1 _ (M2.out).obj).mono ?_
    rintro e w3 ⟨rfl, hb3⟩
    have M3 := Lib.hid ((M2.out).next hb3)
    obtain ⟨y0, y1, y2, y3⟩ := twoBlk M3.out.res
    have ys := blk_lt M3.out.res
    clear hb3 o0 o1 o2 o3
    go_wp2_with fail
    refine bodyPost_ret (v := .tuple #[.agg #[.bool n, .slice a1 l.length d1], .bool false, .int .i64 2]) (by simp [results, Try.results47, go_sem, y0, y1]) rfl ?_
    exact ⟨_, rfl, M3.out.last _ _⟩
  · rw [k3]
    clear k3
    have K1 := Lib.hid k1
    have K2 := Lib.hid k2
    clear k1 k2
    go_enter Try.func47, Try.ntmps47
    go_wp2_with fail
    rw [← HW0.out]
    refine HOp.out.mono ?_
    rintro e w1 ⟨g, v1, rfl, hg1, hg2, hfr, hb1, hap⟩
    have M1 := Lib.hid (Mid.open_ HW0.out hg1 hg2 hfr hb1 hap)
    obtain ⟨a1, d1, rfl⟩ := fr_slice hfr
    have HR1 := Lib.hid (HR0.out.below hb1)
    obtain ⟨x0, x1, _, _⟩ := twoBlk M1.out.arg
    clear hg1 hg2 hfr hb1 hap HOp HR0 HW0
    go_wp2_with fail
    have hv := validE_c n _ l w1 HR1.out HWF.out (by omega)
    rw [K1.out] at hv
    refine hv.mono ?_
    clear hv
    rintro e w2 ⟨rfl, hb2⟩
    have M2 := Lib.hid (M1.out.next hb2)
    obtain ⟨o0, o1, o2, o3⟩ := twoBlk M2.out.obj
    have os := blk_lt M2.out.obj
    clear hb2 M1 x0 x1 HR1 HWF
    go_wp2_with fail
    have hm := may_c g 0 _ l p w2 o0 M2.out.fr.rd (by omega)
    rw [K2.out] at hm
    refine hm.mono ?_
    clear hm o0 o1 o2 o3
    rintro e w3 ⟨rfl, hb3⟩
    have M3 := Lib.hid (M2.out.next hb3)
    obtain ⟨o0, o1, o2, o3⟩ := twoBlk M3.out.obj
    clear hb3 M2
    go_wp2_with fail
    refine (closeE_c g n a1 _ d1 _ (M3.out).obj).mono ?_
    rintro e w4 ⟨rfl, hb4⟩
    have M4 := Lib.hid ((M3.out).next hb4)
    obtain ⟨y0, y1, y2, y3⟩ := twoBlk M4.out.res
    have ys := blk_lt M4.out.res
    clear hb4 o0 o1 o2 o3
    go_wp2_with fail
    refine bodyPost_ret (v := .tuple #[.agg #[.bool n, .slice a1 l.length d1], .bool false, .int .i64 2]) (by simp [results, Try.results47, go_sem, y0, y1]) rfl ?_
    exact ⟨_, rfl, M4.out.last _ _⟩
  · rw [k4]
    clear k4
    have K1 := Lib.hid k1
    have K2 := Lib.hid k2
    clear k1 k2
    go_enter Try.func47, Try.ntmps47
    go_wp2_with fail
    rw [← HW0.out]
    refine HOp.out.mono ?_
    rintro e w1 ⟨g, v1, rfl, hg1, hg2, hfr, hb1, hap⟩
    have M1 := Lib.hid (Mid.open_ HW0.out hg1 hg2 hfr hb1 hap)
    obtain ⟨a1, d1, rfl⟩ := fr_slice hfr
    have HR1 := Lib.hid (HR0.out.below hb1)
    obtain ⟨x0, x1, _, _⟩ := twoBlk M1.out.arg
    clear hg1 hg2 hfr hb1 hap HOp HR0 HW0
    go_wp2_with fail
    have hv := validE_c true _ l w1 HR1.out HWF.out (by omega)
    rw [K1.out] at hv
    refine hv.mono ?_
    clear hv
    rintro e w2 ⟨rfl, hb2⟩
    have M2 := Lib.hid (M1.out.next hb2)
    obtain ⟨o0, o1, o2, o3⟩ := twoBlk M2.out.obj
    have os := blk_lt M2.out.obj
    clear hb2 M1 x0 x1 HR1 HWF
    go_wp2_with fail
    have hm := may_c g 0 _ l p w2 o0 M2.out.fr.rd (by omega)
    rw [K2.out] at hm
    refine hm.mono ?_
    clear hm o0 o1 o2 o3
    rintro e w3 ⟨rfl, hb3⟩
    have M3 := Lib.hid (M2.out.next hb3)
    obtain ⟨o0, o1, o2, o3⟩ := twoBlk M3.out.obj
    clear hb3 M2
    go_wp2_with fail
    refine (closeE_c g true a1 _ d1 _ (M3.out).obj).mono ?_
    rintro e w4 ⟨rfl, hb4⟩
    have M4 := Lib.hid ((M3.out).next hb4)
    obtain ⟨y0, y1, y2, y3⟩ := twoBlk M4.out.res
    have ys := blk_lt M4.out.res
    clear hb4 o0 o1 o2 o3
    go_wp2_with fail
    refine bodyPost_ret (v := .tuple #[.agg #[.bool true, .slice a1 l.length d1], .bool true, .int .i64 0]) (by simp [results, Try.results47, go_sem, y0, y1]) rfl ?_
    exact ⟨_, rfl, M4.out.last _ _⟩
  · rw [k4]
    clear k4
    have K1 := Lib.hid k1
    have K2 := Lib.hid k2
    clear k1 k2
    go_enter Try.func47, Try.ntmps47
    go_wp2_with fail
    rw [← HW0.out]
    refine HOp.out.mono ?_
    rintro e w1 ⟨g, v1, rfl, hg1, hg2, hfr, hb1, hap⟩
    have M1 := Lib.hid (Mid.open_ HW0.out hg1 hg2 hfr hb1 hap)
    obtain ⟨a1, d1, rfl⟩ := fr_slice hfr
    have HR1 := Lib.hid (HR0.out.below hb1)
    obtain ⟨x0, x1, _, _⟩ := twoBlk M1.out.arg
    clear hg1 hg2 hfr hb1 hap HOp HR0 HW0
    go_wp2_with fail
    have hv := validE_c false _ l w1 HR1.out HWF.out (by omega)
    rw [K1.out] at hv
    refine hv.mono ?_
    clear hv
    rintro e w2 ⟨rfl, hb2⟩
    have M2 := Lib.hid (M1.out.next hb2)
    obtain ⟨o0, o1, o2, o3⟩ := twoBlk M2.out.obj
    have os := blk_lt M2.out.obj
    clear hb2 M1 x0 x1 HR1 HWF
    go_wp2_with fail
    have hm := may_c g 0 _ l p w2 o0 M2.out.fr.rd (by omega)
    rw [K2.out] at hm
    refine hm.mono ?_
    clear hm o0 o1 o2 o3
    rintro e w3 ⟨rfl, hb3⟩
    have M3 := Lib.hid (M2.out.next hb3)
    obtain ⟨o0, o1, o2, o3⟩ := twoBlk M3.out.obj
    clear hb3 M2
    go_wp2_with fail
    refine (enterM_c g 198 _ (.bool false) l p r w3 M3.out.obj M3.out.fr.rd (by omega)).mono ?_
    clear o0 o1 o2 o3
    rintro e w4 ⟨v4, rfl, ho4, hf4, hg4⟩
    obtain ⟨a4, d4, rfl⟩ := fr_slice hf4
    have M4 := Lib.hid (M3.out.enter ho4 hf4 hg4)
    obtain ⟨o0, o1, o2, o3⟩ := twoBlk M4.out.obj
    clear ho4 hf4 hg4 M3
    go_wp2_with fail
    refine (closeE_c g false a4 _ d4 _ (M4.out).obj).mono ?_
    rintro e w5 ⟨rfl, hb5⟩
    have M5 := Lib.hid ((M4.out).next hb5)
    obtain ⟨y0, y1, y2, y3⟩ := twoBlk M5.out.res
    have ys := blk_lt M5.out.res
    clear hb5 o0 o1 o2 o3
    go_wp2_with fail
    refine bodyPost_ret (v := .tuple #[.agg #[.bool false, .slice a4 (enterW l ⟨p, r, 0⟩).length d4], .bool false, .int .i64 0]) (by simp [results, Try.results47, go_sem, y0, y1]) rfl ?_
    exact ⟨_, rfl, M5.out.last _ _⟩

set_option maxHeartbeats 2000000 in
set_option maxRecDepth 100000 in
theorem cancelS_c (n : Int) (p : Int) (v : Value) (l : List Wt) (w : World) (h : RdW w 0 v l) (hwf : WfW l) (hl : l.length ≤ 90000) :
    Calls Try.prog 55 #[.agg #[.int .i64 n, v], .int .i64 p] w (Ret2 w (.int .i64 n) (cancelS n l p).1 (.int .i64 (cancelS n l p).2)) := by
  obtain ⟨ao, cap, rfl, hnc, hno, _⟩ := h.open_
  obtain ⟨W0, hW0⟩ : ∃ W0, W0 = ((w.alloc (.cells #[.int .i64 n, .slice ao l.length cap] 71)).alloc (.cells #[.int .i64 0, .slice none 0 0] 71)) := ⟨_, rfl⟩
  have hR0 : RdW W0 0 (.slice ao l.length cap) l := by subst hW0; exact (h.alloc _).alloc _
  have HOp := Lib.hid (openS_c n _ l W0 hR0 (by omega))
  have HW0 := Lib.hid hW0
  have HR0 := Lib.hid hR0
  have HWF := Lib.hid hwf
  clear h hW0 hR0 hwf
  have hway : (vldS n l = false ∧ cancelS n l p = (l, 2)) ∨ (vldS n l = true ∧ cancelS n l p = (leaveW l p, 0)) := by
    unfold cancelS
    cases h1 : vldS n l <;> simp
  rcases hway with ⟨k1, k2⟩ | ⟨k1, k2⟩
  · rw [k2]
    clear k2
    have K1 := Lib.hid k1
    clear k1
    go_enter Try.func55, Try.ntmps55
    go_wp2_with fail
    rw [← HW0.out]
    refine HOp.out.mono ?_
    rintro e w1 ⟨g, v1, rfl, hg1, hg2, hfr, hb1, hap⟩
    have M1 := Lib.hid (Mid.open_ HW0.out hg1 hg2 hfr hb1 hap)
    obtain ⟨a1, d1, rfl⟩ := fr_slice hfr
    have HR1 := Lib.hid (HR0.out.below hb1)
    obtain ⟨x0, x1, _, _⟩ := twoBlk M1.out.arg
    clear hg1 hg2 hfr hb1 hap HOp HR0 HW0
    go_wp2_with fail
    have hv := validS_c n _ l w1 HR1.out HWF.out (by omega)
    rw [K1.out] at hv
    refine hv.mono ?_
    clear hv
    rintro e w2 ⟨rfl, hb2⟩
    have M2 := Lib.hid (M1.out.next hb2)
    obtain ⟨o0, o1, o2, o3⟩ := twoBlk M2.out.obj
    have os := blk_lt M2.out.obj
    clear hb2 M1 x0 x1 HR1 HWF
    go_wp2_with fail
    refine (closeS_c g n a1 _ d1 _ (M2.out).obj).mono ?_
    rintro e w3 ⟨rfl, hb3⟩
    have M3 := Lib.hid ((M2.out).next hb3)
    obtain ⟨y0, y1, y2, y3⟩ := twoBlk M3.out.res
    have ys := blk_lt M3.out.res
    clear hb3 o0 o1 o2 o3
    go_wp2_with fail
    refine bodyPost_ret (v := .tuple #[.agg #[.int .i64 n, .slice a1 l.length d1], .int .i64 2]) (by simp [results, Try.results55, go_sem, y0, y1]) rfl ?_
    exact ⟨_, rfl, M3.out.last _ _⟩
  · rw [k2]
    clear k2
    have K1 := Lib.hid k1
    clear k1
    go_enter Try.func55, Try.ntmps55
    go_wp2_with fail
    rw [← HW0.out]
    refine HOp.out.mono ?_
    rintro e w1 ⟨g, v1, rfl, hg1, hg2, hfr, hb1, hap⟩
    have M1 := Lib.hid (Mid.open_ HW0.out hg1 hg2 hfr hb1 hap)
    obtain ⟨a1, d1, rfl⟩ := fr_slice hfr
    have HR1 := Lib.hid (HR0.out.below hb1)
    obtain ⟨x0, x1, _, _⟩ := twoBlk M1.out.arg
    clear hg1 hg2 hfr hb1 hap HOp HR0 HW0
    go_wp2_with fail
    have hv := validS_c n _ l w1 HR1.out HWF.out (by omega)
    rw [K1.out] at hv
    refine hv.mono ?_
    clear hv
    rintro e w2 ⟨rfl, hb2⟩
    have M2 := Lib.hid (M1.out.next hb2)
    obtain ⟨o0, o1, o2, o3⟩ := twoBlk M2.out.obj
    have os := blk_lt M2.out.obj
    clear hb2 M1 x0 x1 HR1 HWF
    go_wp2_with fail
    refine (leaveW_c _ l p w2 M2.out.fr.rd (by omega)).mono ?_
    rintro e w3 ⟨v3, rfl, ho3, hb3⟩
    obtain ⟨a3, d3, rfl⟩ := own_slice ho3
    have M3 := Lib.hid (mid_leave M2.out ho3 hb3)
    clear o0 o1 o2 o3
    obtain ⟨o0, o1, o2, o3⟩ := twoBlk (M2.out.next hb3).obj
    clear ho3 hb3 M2
    go_wp2_with fail
    refine (closeS_c g n a3 _ d3 _ (M3.out).obj).mono ?_
    rintro e w4 ⟨rfl, hb4⟩
    have M4 := Lib.hid ((M3.out).next hb4)
    obtain ⟨y0, y1, y2, y3⟩ := twoBlk M4.out.res
    have ys := blk_lt M4.out.res
    clear hb4 o0 o1 o2 o3
    go_wp2_with fail
    refine bodyPost_ret (v := .tuple #[.agg #[.int .i64 n, .slice a3 (leaveW l p).length d3], .int .i64 0]) (by simp [results, Try.results55, go_sem, y0, y1]) rfl ?_
    exact ⟨_, rfl, M4.out.last _ _⟩

set_option maxHeartbeats 2000000 in
set_option maxRecDepth 100000 in
theorem cancelE_c (n : Bool) (p : Int) (v : Value) (l : List Wt) (w : World) (h : RdW w 0 v l) (hwf : WfW l) (hl : l.length ≤ 90000) :
    Calls Try.prog 63 #[.agg #[.bool n, v], .int .i64 p] w (Ret2 w (.bool n) (cancelE n l p).1 (.int .i64 (cancelE n l p).2)) := by
  obtain ⟨ao, cap, rfl, hnc, hno, _⟩ := h.open_
  obtain ⟨W0, hW0⟩ : ∃ W0, W0 = ((w.alloc (.cells #[.bool n, .slice ao l.length cap] 73)).alloc (.cells #[.bool false, .slice none 0 0] 73)) := ⟨_, rfl⟩
  have hR0 : RdW W0 0 (.slice ao l.length cap) l := by subst hW0; exact (h.alloc _).alloc _
  have HOp := Lib.hid (openE_c n _ l W0 hR0 (by omega))
  have HW0 := Lib.hid hW0
  have HR0 := Lib.hid hR0
  have HWF := Lib.hid hwf
  clear h hW0 hR0 hwf
  have hway : (vldE n l = false ∧ cancelE n l p = (l, 2)) ∨ (vldE n l = true ∧ cancelE n l p = (leaveW l p, 0)) := by
    unfold cancelE
    cases h1 : vldE n l <;> simp
  rcases hway with ⟨k1, k2⟩ | ⟨k1, k2⟩
  · rw [k2]
    clear k2
    have K1 := Lib.hid k1
    clear k1
    go_enter Try.func63, Try.ntmps63
    go_wp2_with fail
    rw [← HW0.out]
    refine HOp.out.mono ?_
    rintro e w1 ⟨g, v1, rfl, hg1, hg2, hfr, hb1, hap⟩
    have M1 := Lib.hid (Mid.open_ HW0.out hg1 hg2 hfr hb1 hap)
    obtain ⟨a1, d1, rfl⟩ := fr_slice hfr
    have HR1 := Lib.hid (HR0.out.below hb1)
    obtain ⟨x0, x1, _, _⟩ := twoBlk M1.out.arg
    clear hg1 hg2 hfr hb1 hap HOp HR0 HW0
    go_wp2_with fail
    have hv := validE_c n _ l w1 HR1.out HWF.out (by omega)
    rw [K1.out] at hv
    refine hv.mono ?_
    clear hv
    rintro e w2 ⟨rfl, hb2⟩
    have M2 := Lib.hid (M1.out.next hb2)
    obtain ⟨o0, o1, o2, o3⟩ := twoBlk M2.out.obj
    have os := blk_lt M2.out.obj
    clear hb2 M1 x0 x1 HR1 HWF
    go_wp2_with fail
    refine (closeE_c g n a1 _ d1 _ (M2.out).obj).mono ?_
    rintro e w3 ⟨rfl, hb3⟩
    have M3 := Lib.hid ((M2.out).next hb3)
    obtain ⟨y0, y1, y2, y3⟩ := twoBlk M3.out.res
    have ys := blk_lt M3.out.res
    clear hb3 o0 o1 o2 o3
    go_wp2_with fail
    refine bodyPost_ret (v := .tuple #[.agg #[.bool n, .slice a1 l.length d1], .int .i64 2]) (by simp [results, Try.results63, go_sem, y0, y1]) rfl ?_
    exact ⟨_, rfl, M3.out.last _ _⟩
  · rw [k2]
    clear k2
    have K1 := Lib.hid k1
    clear k1
    go_enter Try.func63, Try.ntmps63
    go_wp2_with fail
    rw [← HW0.out]
    refine HOp.out.mono ?_
    rintro e w1 ⟨g, v1, rfl, hg1, hg2, hfr, hb1, hap⟩
    have M1 := Lib.hid (Mid.open_ HW0.out hg1 hg2 hfr hb1 hap)
    obtain ⟨a1, d1, rfl⟩ := fr_slice hfr
    have HR1 := Lib.hid (HR0.out.below hb1)
    obtain ⟨x0, x1, _, _⟩ := twoBlk M1.out.arg
    clear hg1 hg2 hfr hb1 hap HOp HR0 HW0
    go_wp2_with fail
    have hv := validE_c n _ l w1 HR1.out HWF.out (by omega)
    rw [K1.out] at hv
    refine hv.mono ?_
    clear hv
    rintro e w2 ⟨rfl, hb2⟩
    have M2 := Lib.hid (M1.out.next hb2)
    obtain ⟨o0, o1, o2, o3⟩ := twoBlk M2.out.obj
    have os := blk_lt M2.out.obj
    clear hb2 M1 x0 x1 HR1 HWF
    go_wp2_with fail
    refine (leaveW_c _ l p w2 M2.out.fr.rd (by omega)).mono ?_
    rintro e w3 ⟨v3, rfl, ho3, hb3⟩
    obtain ⟨a3, d3, rfl⟩ := own_slice ho3
    have M3 := Lib.hid (mid_leave M2.out ho3 hb3)
    clear o0 o1 o2 o3
    obtain ⟨o0, o1, o2, o3⟩ := twoBlk (M2.out.next hb3).obj
    clear ho3 hb3 M2
    go_wp2_with fail
    refine (closeE_c g n a3 _ d3 _ (M3.out).obj).mono ?_
    rintro e w4 ⟨rfl, hb4⟩
    have M4 := Lib.hid ((M3.out).next hb4)
    obtain ⟨y0, y1, y2, y3⟩ := twoBlk M4.out.res
    have ys := blk_lt M4.out.res
    clear hb4 o0 o1 o2 o3
    go_wp2_with fail
    refine bodyPost_ret (v := .tuple #[.agg #[.bool n, .slice a3 (leaveW l p).length d3], .int .i64 0]) (by simp [results, Try.results63, go_sem, y0, y1]) rfl ?_
    exact ⟨_, rfl, M4.out.last _ _⟩

set_option maxHeartbeats 2000000 in
set_option maxRecDepth 100000 in
theorem lowerE_c (n : Bool) (v : Value) (l : List Wt) (w : World) (h : RdW w 0 v l) (hwf : WfW l) (hl : l.length ≤ 90000) :
    Calls Try.prog 51 #[.agg #[.bool n, v]] w (Ret2 w (.bool (lowerE n l).1) l (.int .i64 (lowerE n l).2)) := by
  obtain ⟨ao, cap, rfl, hnc, hno, _⟩ := h.open_
  obtain ⟨W0, hW0⟩ : ∃ W0, W0 = ((w.alloc (.cells #[.bool n, .slice ao l.length cap] 73)).alloc (.cells #[.bool false, .slice none 0 0] 73)) := ⟨_, rfl⟩
  have hR0 : RdW W0 0 (.slice ao l.length cap) l := by subst hW0; exact (h.alloc _).alloc _
  have HOp := Lib.hid (openE_c n _ l W0 hR0 (by omega))
  have HW0 := Lib.hid hW0
  have HR0 := Lib.hid hR0
  have HWF := Lib.hid hwf
  clear h hW0 hR0 hwf
  have hway : (vldE n l = false ∧ lowerE n l = (n, 2)) ∨ (vldE n l = true ∧ lowerE n l = (false, 0)) := by
    unfold lowerE
    cases h1 : vldE n l <;> simp
  rcases hway with ⟨k1, k2⟩ | ⟨k1, k2⟩
  · rw [k2]
    clear k2
    have K1 := Lib.hid k1
    clear k1
    go_enter Try.func51, Try.ntmps51
    go_wp2_with fail
    rw [← HW0.out]
    refine HOp.out.mono ?_
    rintro e w1 ⟨g, v1, rfl, hg1, hg2, hfr, hb1, hap⟩
    have M1 := Lib.hid (Mid.open_ HW0.out hg1 hg2 hfr hb1 hap)
    obtain ⟨a1, d1, rfl⟩ := fr_slice hfr
    have HR1 := Lib.hid (HR0.out.below hb1)
    obtain ⟨x0, x1, _, _⟩ := twoBlk M1.out.arg
    clear hg1 hg2 hfr hb1 hap HOp HR0 HW0
    go_wp2_with fail
    have hv := validE_c n _ l w1 HR1.out HWF.out (by omega)
    rw [K1.out] at hv
    refine hv.mono ?_
    clear hv
    rintro e w2 ⟨rfl, hb2⟩
    have M2 := Lib.hid (M1.out.next hb2)
    obtain ⟨o0, o1, o2, o3⟩ := twoBlk M2.out.obj
    have os := blk_lt M2.out.obj
    clear hb2 M1 x0 x1 HR1 HWF
    go_wp2_with fail
    refine (closeE_c g n a1 _ d1 _ (M2.out).obj).mono ?_
    rintro e w3 ⟨rfl, hb3⟩
    have M3 := Lib.hid ((M2.out).next hb3)
    obtain ⟨y0, y1, y2, y3⟩ := twoBlk M3.out.res
    have ys := blk_lt M3.out.res
    clear hb3 o0 o1 o2 o3
    go_wp2_with fail
    refine bodyPost_ret (v := .tuple #[.agg #[.bool n, .slice a1 l.length d1], .int .i64 2]) (by simp [results, Try.results51, go_sem, y0, y1]) rfl ?_
    exact ⟨_, rfl, M3.out.last _ _⟩
  · rw [k2]
    clear k2
    have K1 := Lib.hid k1
    clear k1
    go_enter Try.func51, Try.ntmps51
    go_wp2_with fail
    rw [← HW0.out]
    refine HOp.out.mono ?_
    rintro e w1 ⟨g, v1, rfl, hg1, hg2, hfr, hb1, hap⟩
    have M1 := Lib.hid (Mid.open_ HW0.out hg1 hg2 hfr hb1 hap)
    obtain ⟨a1, d1, rfl⟩ := fr_slice hfr
    have HR1 := Lib.hid (HR0.out.below hb1)
    obtain ⟨x0, x1, _, _⟩ := twoBlk M1.out.arg
    clear hg1 hg2 hfr hb1 hap HOp HR0 HW0
    go_wp2_with fail
    have hv := validE_c n _ l w1 HR1.out HWF.out (by omega)
    rw [K1.out] at hv
    refine hv.mono ?_
    clear hv
    rintro e w2 ⟨rfl, hb2⟩
    have M2 := Lib.hid (M1.out.next hb2)
    obtain ⟨o0, o1, o2, o3⟩ := twoBlk M2.out.obj
    have os := blk_lt M2.out.obj
    clear hb2 M1 x0 x1 HR1 HWF
    go_wp2_with fail
    refine (closeE_c g false a1 _ d1 _ (M2.out.put1 (.bool false)).obj).mono ?_
    rintro e w3 ⟨rfl, hb3⟩
    have M3 := Lib.hid ((M2.out.put1 (.bool false)).next hb3)
    obtain ⟨y0, y1, y2, y3⟩ := twoBlk M3.out.res
    have ys := blk_lt M3.out.res
    clear hb3 o0 o1 o2 o3
    go_wp2_with fail
    refine bodyPost_ret (v := .tuple #[.agg #[.bool false, .slice a1 l.length d1], .int .i64 0]) (by simp [results, Try.results51, go_sem, y0, y1]) rfl ?_
    exact ⟨_, rfl, M3.out.last _ _⟩

def RetR (w : World) (c : Value) (l : List Wt) (m : List Int) (y : Value) (e : Ending) (w' : World) : Prop := ∃ v u, e = .returned (.tuple #[.agg #[c, v], u, y]) ∧ FrW w' w.heap.size v l ∧ OwnI w' w.heap.size u m ∧ Below w.heap.size w w'

theorem mid_raise {w W W' : World} {t t' : TypeId} {c z v0 : Value} {g : Nat} {v1 c1 : Value} {l : List Wt} {m : List Int} {u : Value} (h : Mid w W t t' c z v0 g v1 c1 l) (ho : OwnI W' W.heap.size u m) (hb : Below W.heap.size W W') (x y : Value) :
    FrW ((W'.setCell ⟨w.heap.size + 1, 0, none⟩ x).setCell ⟨w.heap.size + 1, 1, none⟩ y) w.heap.size (.slice none 0 0) [] ∧ OwnI ((W'.setCell ⟨w.heap.size + 1, 0, none⟩ x).setCell ⟨w.heap.size + 1, 1, none⟩ y) w.heap.size u m ∧ Below w.heap.size w ((W'.setCell ⟨w.heap.size + 1, 0, none⟩ x).setCell ⟨w.heap.size + 1, 1, none⟩ y) := by
  have hl := blk_lt h.res
  exact ⟨FrW.nil _ _, own_mono (ownsRow_setCell_below (ownsRow_setCell_below ho (a := ⟨w.heap.size + 1, 0, none⟩) hl _) (a := ⟨w.heap.size + 1, 1, none⟩) hl _) (by omega), ((h.next hb).last x y).2⟩

set_option maxHeartbeats 2000000 in
set_option maxRecDepth 100000 in
theorem raiseE_c (n : Bool) (v : Value) (l : List Wt) (w : World) (h : RdW w 0 v l) (hwf : WfW l) (hl : l.length ≤ 90000) :
    Calls Try.prog 48 #[.agg #[.bool n, v]] w (RetR w (.bool (raiseE n l).1) (raiseE n l).2.1 (raiseE n l).2.2.1 (.int .i64 (raiseE n l).2.2.2)) := by
  obtain ⟨ao, cap, rfl, hnc, hno, _⟩ := h.open_
  obtain ⟨W0, hW0⟩ : ∃ W0, W0 = ((w.alloc (.cells #[.bool n, .slice ao l.length cap] 73)).alloc (.cells #[.bool false, .slice none 0 0] 73)) := ⟨_, rfl⟩
  have hR0 : RdW W0 0 (.slice ao l.length cap) l := by subst hW0; exact (h.alloc _).alloc _
  have HOp := Lib.hid (openE_c n _ l W0 hR0 (by omega))
  have HW0 := Lib.hid hW0
  have HR0 := Lib.hid hR0
  have HWF := Lib.hid hwf
  clear h hW0 hR0 hwf
  have hway : (vldE n l = false ∧ raiseE n l = (n, l, [], 2)) ∨ (vldE n l = true ∧ raiseE n l = (true, [], l.map (·.proc), 0)) := by
    unfold raiseE
    cases h1 : vldE n l <;> simp
  rcases hway with ⟨k1, k2⟩ | ⟨k1, k2⟩
  · rw [k2]
    clear k2
    have K1 := Lib.hid k1
    clear k1
    go_enter Try.func48, Try.ntmps48
    go_wp2_with fail
    rw [← HW0.out]
    refine HOp.out.mono ?_
    rintro e w1 ⟨g, v1, rfl, hg1, hg2, hfr, hb1, hap⟩
    have M1 := Lib.hid (Mid.open_ HW0.out hg1 hg2 hfr hb1 hap)
    obtain ⟨a1, d1, rfl⟩ := fr_slice hfr
    have HR1 := Lib.hid (HR0.out.below hb1)
    obtain ⟨x0, x1, _, _⟩ := twoBlk M1.out.arg
    clear hg1 hg2 hfr hb1 hap HOp HR0 HW0
    go_wp2_with fail
    have hv := validE_c n _ l w1 HR1.out HWF.out (by omega)
    rw [K1.out] at hv
    refine hv.mono ?_
    clear hv
    rintro e w2 ⟨rfl, hb2⟩
    have M2 := Lib.hid (M1.out.next hb2)
    obtain ⟨o0, o1, o2, o3⟩ := twoBlk M2.out.obj
    have os := blk_lt M2.out.obj
    clear hb2 M1 x0 x1 HR1 HWF
    go_wp2_with fail
    refine (closeE_c g n a1 _ d1 _ (M2.out).obj).mono ?_
    rintro e w3 ⟨rfl, hb3⟩
    have M3 := Lib.hid ((M2.out).next hb3)
    obtain ⟨y0, y1, y2, y3⟩ := twoBlk M3.out.res
    have ys := blk_lt M3.out.res
    clear hb3 o0 o1 o2 o3
    go_wp2_with fail
    refine bodyPost_ret (v := .tuple #[.agg #[.bool n, .slice a1 l.length d1], .slice none 0 0, .int .i64 2]) (by simp [results, Try.results48, go_sem, y0, y1]) rfl ?_
    exact ⟨_, _, rfl, (M3.out.last _ _).1, World.ownsRow_nil _ _ _ _, (M3.out.last _ _).2⟩
  · rw [k2]
    clear k2
    have K1 := Lib.hid k1
    clear k1
    go_enter Try.func48, Try.ntmps48
    go_wp2_with fail
    rw [← HW0.out]
    refine HOp.out.mono ?_
    rintro e w1 ⟨g, v1, rfl, hg1, hg2, hfr, hb1, hap⟩
    have M1 := Lib.hid (Mid.open_ HW0.out hg1 hg2 hfr hb1 hap)
    obtain ⟨a1, d1, rfl⟩ := fr_slice hfr
    have HR1 := Lib.hid (HR0.out.below hb1)
    obtain ⟨x0, x1, _, _⟩ := twoBlk M1.out.arg
    clear hg1 hg2 hfr hb1 hap HOp HR0 HW0
    go_wp2_with fail
    have hv := validE_c n _ l w1 HR1.out HWF.out (by omega)
    rw [K1.out] at hv
    refine hv.mono ?_
    clear hv
    rintro e w2 ⟨rfl, hb2⟩
    have M2 := Lib.hid (M1.out.next hb2)
    obtain ⟨o0, o1, o2, o3⟩ := twoBlk M2.out.obj
    have os := blk_lt M2.out.obj
    clear hb2 M1 x0 x1 HR1 HWF
    go_wp2_with fail
    refine (procs_c g 0 _ l w2 o0 M2.out.fr.rd (by omega)).mono ?_
    rintro e w3 ⟨u3, rfl, ho3, hb3⟩
    obtain ⟨a3, d3, rfl⟩ := own_slice ho3
    have HF := Lib.hid (mid_raise M2.out ho3 hb3 (.bool true) (.slice none 0 0))
    clear o0 o1 o2 o3
    obtain ⟨y0, y1, y2, y3⟩ := twoBlk (M2.out.next hb3).res
    have ys := blk_lt (M2.out.next hb3).res
    clear ho3 hb3 M2
    go_wp2_with fail
    refine bodyPost_ret (v := .tuple #[.agg #[.bool true, .slice none 0 0], .slice a3 (l.map (·.proc)).length d3, .int .i64 0]) (by simp [results, Try.results48, go_sem, y0, y1]) rfl ?_
    exact ⟨_, _, rfl, HF.out⟩

end Go.Proofs.Ytglbfmcbojjglaa

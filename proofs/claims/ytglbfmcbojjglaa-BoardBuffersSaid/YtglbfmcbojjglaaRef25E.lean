/-
  The contracts of nacelleref25.Lower, Until, CancelEvent and Raise. Conditions: the list can be read, at most ninety thousand elements.
-/
import Derived.Test.YtglbfmcbojjglaaRef25S
namespace Go.Proofs.Ytglbfmcbojjglaa
open Go.RowKit

section
variable {w W W' : World} {c v z : Value} {t : TypeId}
theorem V25.grown {B : Nat} {row : Option Nat} (h : V25 w W c v z t) (hg : W.grownBy W' row) (hB : w.heap.size + 1 < B) (hr : ∀ g, row = some g → B ≤ g) : V25 w W' c v z t := by
  refine ⟨(hg.block _ (blk_lt h.arg) (fun e => ?_)).trans h.arg, (hg.block _ (blk_lt h.res) (fun e => ?_)).trans h.res, ⟨hg.os.trans h.bel.os, hg.tape.trans h.bel.tape, hg.output.trans h.bel.output, Nat.le_trans h.bel.size hg.size, fun k hk => ?_⟩⟩
  · have := hr _ e.symm; omega
  · have := hr _ e.symm; omega
  · exact (hg.block k (Nat.lt_of_lt_of_le hk h.bel.size) (fun e => by have := hr _ e.symm; omega)).trans (h.bel.block k hk)
end
def RtR (w : World) (c : Value) (l : List Wt) (m : List Int) (y : Value) (e : Ending) (w' : World) : Prop := ∃ v u, e = .returned (.tuple #[.agg #[c, v], u, y]) ∧ RdW w' 0 v l ∧ RdI .i64 w' 0 u m ∧ Below w.heap.size w w'

set_option maxHeartbeats 2000000 in
set_option maxRecDepth 100000 in
theorem lower25_c (n : Bool) (v : Value) (l : List Wt) (w : World) (h : RdW w 0 v l) (hl : l.length ≤ 90000) :
    Calls Try.prog 61 #[.agg #[.bool n, v]] w (Rt2 w (.bool (lowerE n l).1) l (.int .i64 (lowerE n l).2)) := by
  obtain ⟨ao, ca, rfl, hca, hna, pa⟩ := h.open_
  have HR := Lib.hid h
  obtain ⟨W0, hW0⟩ : ∃ W0, W0 = (w.alloc (.cells #[.bool n, .slice ao l.length ca] 102)).alloc (.cells #[.bool false, .slice none 0 0] 102) := ⟨_, rfl⟩
  have V0 := Lib.hid (V25.start hW0)
  have HW0 := Lib.hid hW0
  clear h pa hca hna hW0
  have hway : (vldE n l = false ∧ lowerE n l = (n, 2)) ∨ (vldE n l = true ∧ lowerE n l = (false, 0)) := by
    unfold lowerE
    cases vldE n l <;> simp
  rcases hway with ⟨k1, k2⟩ | ⟨k1, k2⟩
  · rw [k2]
    clear k2
    have K1 := Lib.hid k1
    clear k1
    go_enter Try.func61, Try.ntmps61
    go_wp2_with fail
    rw [← HW0.out]
    have hv := validE25_c n _ l W0 (HR.out.below V0.out.bel) hl
    rw [K1.out] at hv
    refine hv.mono ?_
    clear hv
    rintro e w1 ⟨rfl, b1⟩
    have V1 := Lib.hid (V0.out.next b1)
    clear b1 V0 HW0
    obtain ⟨g0, g1, _, _⟩ := twoBlk V1.out.arg
    obtain ⟨r0, r1, r2, r3⟩ := twoBlk V1.out.res
    have hgs1 := blk_lt V1.out.arg
    have hrs1 := blk_lt V1.out.res
    go_wp2_with fail
    refine bodyPost_ret (v := .tuple #[.agg #[.bool n, .slice ao l.length ca], .int .i64 2]) (by simp [results, Try.results61, go_sem, r0, r1]) rfl ?_
    exact ⟨_, rfl, HR.out.below (V1.out.fin _ _), V1.out.fin _ _⟩
  · rw [k2]
    clear k2
    have K1 := Lib.hid k1
    clear k1
    go_enter Try.func61, Try.ntmps61
    go_wp2_with fail
    rw [← HW0.out]
    have hv := validE25_c n _ l W0 (HR.out.below V0.out.bel) hl
    rw [K1.out] at hv
    refine hv.mono ?_
    clear hv
    rintro e w1 ⟨rfl, b1⟩
    have V1 := Lib.hid (V0.out.next b1)
    clear b1 V0 HW0
    obtain ⟨g0, g1, _, _⟩ := twoBlk V1.out.arg
    obtain ⟨r0, r1, r2, r3⟩ := twoBlk V1.out.res
    have hgs1 := blk_lt V1.out.arg
    have hrs1 := blk_lt V1.out.res
    go_wp2_with fail
    refine bodyPost_ret (v := .tuple #[.agg #[.bool false, .slice ao l.length ca], .int .i64 0]) (by simp [results, Try.results61, go_sem, r0, r1]) rfl ?_
    exact ⟨_, rfl, HR.out.below (V1.out.fin _ _), V1.out.fin _ _⟩

set_option maxHeartbeats 2000000 in
set_option maxRecDepth 100000 in
theorem until25_c (n : Bool) (p r : Int) (v : Value) (l : List Wt) (w : World) (h : RdW w 0 v l) (hl : l.length ≤ 90000) :
    Calls Try.prog 62 #[.agg #[.bool n, v], .int .i64 p, .int .i64 r] w (Rt3 w (.bool n) (untilE n l p r).1 (.bool (untilE n l p r).2.1) (.int .i64 (untilE n l p r).2.2)) := by
  obtain ⟨ao, ca, rfl, hca, hna, pa⟩ := h.open_
  have HR := Lib.hid h
  obtain ⟨W0, hW0⟩ : ∃ W0, W0 = (w.alloc (.cells #[.bool n, .slice ao l.length ca] 102)).alloc (.cells #[.bool false, .slice none 0 0] 102) := ⟨_, rfl⟩
  have V0 := Lib.hid (V25.start hW0)
  have HW0 := Lib.hid hW0
  clear h pa hca hna hW0
  have hway : (vldE n l = false ∧ untilE n l p r = (l, false, 2)) ∨ (vldE n l = true ∧ p < 0 ∧ untilE n l p r = (l, false, 2)) ∨ (vldE n l = true ∧ 0 ≤ p ∧ l.any (fun x => decide (x.proc = p)) = true ∧ untilE n l p r = (l, false, 2)) ∨
      (vldE n l = true ∧ 0 ≤ p ∧ l.any (fun x => decide (x.proc = p)) = false ∧ n = true ∧ untilE n l p r = (l, true, 0)) ∨ (vldE n l = true ∧ 0 ≤ p ∧ l.any (fun x => decide (x.proc = p)) = false ∧ n = false ∧ untilE n l p r = (enterW l ⟨p, r, 0⟩, false, 0)) := by
    unfold untilE mayL
    cases h1 : vldE n l
    · simp
    · by_cases hp : 0 ≤ p
      · cases ha : l.any (fun x => decide (x.proc = p))
        · cases n
          · exact .inr (.inr (.inr (.inr ⟨rfl, hp, rfl, rfl, by simp [hp]⟩)))
          · exact .inr (.inr (.inr (.inl ⟨rfl, hp, rfl, rfl, by simp [hp]⟩)))
        · exact .inr (.inr (.inl ⟨rfl, hp, rfl, by simp⟩))
      · exact .inr (.inl ⟨rfl, by omega, by simp [hp]⟩)
  rcases hway with ⟨k1, k2⟩ | ⟨k1, kp, k2⟩ | ⟨k1, kp, ka, k2⟩ | ⟨k1, kp, ka, rfl, k2⟩ | ⟨k1, kp, ka, rfl, k2⟩
  · rw [k2]
    clear k2
    have K1 := Lib.hid k1
    clear k1
    go_enter Try.func62, Try.ntmps62
    go_wp2_with fail
    rw [← HW0.out]
    have hv := validE25_c n _ l W0 (HR.out.below V0.out.bel) hl
    rw [K1.out] at hv
    refine hv.mono ?_
    clear hv
    rintro e w1 ⟨rfl, b1⟩
    have V1 := Lib.hid (V0.out.next b1)
    clear b1 V0 HW0
    obtain ⟨g0, g1, _, _⟩ := twoBlk V1.out.arg
    obtain ⟨r0, r1, r2, r3⟩ := twoBlk V1.out.res
    have hgs1 := blk_lt V1.out.arg
    have hrs1 := blk_lt V1.out.res
    go_wp2_with fail
    refine bodyPost_ret (v := .tuple #[.agg #[.bool n, .slice ao l.length ca], .bool false, .int .i64 2]) (by simp [results, Try.results62, go_sem, r0, r1]) rfl ?_
    exact ⟨_, rfl, HR.out.below (V1.out.fin _ _), V1.out.fin _ _⟩
  · rw [k2]
    clear k2
    have K1 := Lib.hid k1
    clear k1
    go_enter Try.func62, Try.ntmps62
    go_wp2_with fail
    rw [← HW0.out]
    have hv := validE25_c n _ l W0 (HR.out.below V0.out.bel) hl
    rw [K1.out] at hv
    refine hv.mono ?_
    clear hv
    rintro e w1 ⟨rfl, b1⟩
    have V1 := Lib.hid (V0.out.next b1)
    clear b1 V0 HW0
    obtain ⟨g0, g1, _, _⟩ := twoBlk V1.out.arg
    obtain ⟨r0, r1, r2, r3⟩ := twoBlk V1.out.res
    have hgs1 := blk_lt V1.out.arg
    have hrs1 := blk_lt V1.out.res
    go_wp2_with fail
    refine bodyPost_ret (v := .tuple #[.agg #[.bool n, .slice ao l.length ca], .bool false, .int .i64 2]) (by simp [results, Try.results62, go_sem, r0, r1]) rfl ?_
    exact ⟨_, rfl, HR.out.below (V1.out.fin _ _), V1.out.fin _ _⟩
  · rw [k2]
    clear k2
    have K1 := Lib.hid k1
    clear k1
    have KA := Lib.hid ka
    clear ka
    have hp0 : ¬ (p < 0) := by omega
    clear kp
    go_enter Try.func62, Try.ntmps62
    go_wp2_with fail
    rw [← HW0.out]
    have hv := validE25_c n _ l W0 (HR.out.below V0.out.bel) hl
    rw [K1.out] at hv
    refine hv.mono ?_
    clear hv
    rintro e w1 ⟨rfl, b1⟩
    have V1 := Lib.hid (V0.out.next b1)
    clear b1 V0 HW0
    obtain ⟨g0, g1, _, _⟩ := twoBlk V1.out.arg
    obtain ⟨r0, r1, r2, r3⟩ := twoBlk V1.out.res
    have hgs1 := blk_lt V1.out.arg
    have hrs1 := blk_lt V1.out.res
    go_wp2_with fail
    have hv := refHas_c _ l p w1 (HR.out.below V1.out.bel) hl
    rw [KA.out] at hv
    refine hv.mono ?_
    clear hv
    rintro e w2 ⟨rfl, b2⟩
    have V2 := Lib.hid (V1.out.next b2)
    clear b2 V1 g0 g1 r0 r1 r2 r3 hgs1 hrs1
    obtain ⟨g0, g1, _, _⟩ := twoBlk V2.out.arg
    obtain ⟨r0, r1, r2, r3⟩ := twoBlk V2.out.res
    have hgs2 := blk_lt V2.out.arg
    have hrs2 := blk_lt V2.out.res
    go_wp2_with fail
    refine bodyPost_ret (v := .tuple #[.agg #[.bool n, .slice ao l.length ca], .bool false, .int .i64 2]) (by simp [results, Try.results62, go_sem, r0, r1]) rfl ?_
    exact ⟨_, rfl, HR.out.below (V2.out.fin _ _), V2.out.fin _ _⟩
  · rw [k2]
    clear k2
    have K1 := Lib.hid k1
    clear k1
    have KA := Lib.hid ka
    clear ka
    have hp0 : ¬ (p < 0) := by omega
    clear kp
    go_enter Try.func62, Try.ntmps62
    go_wp2_with fail
    rw [← HW0.out]
    have hv := validE25_c true _ l W0 (HR.out.below V0.out.bel) hl
    rw [K1.out] at hv
    refine hv.mono ?_
    clear hv
    rintro e w1 ⟨rfl, b1⟩
    have V1 := Lib.hid (V0.out.next b1)
    clear b1 V0 HW0
    obtain ⟨g0, g1, _, _⟩ := twoBlk V1.out.arg
    obtain ⟨r0, r1, r2, r3⟩ := twoBlk V1.out.res
    have hgs1 := blk_lt V1.out.arg
    have hrs1 := blk_lt V1.out.res
    go_wp2_with fail
    have hv := refHas_c _ l p w1 (HR.out.below V1.out.bel) hl
    rw [KA.out] at hv
    refine hv.mono ?_
    clear hv
    rintro e w2 ⟨rfl, b2⟩
    have V2 := Lib.hid (V1.out.next b2)
    clear b2 V1 g0 g1 r0 r1 r2 r3 hgs1 hrs1
    obtain ⟨g0, g1, _, _⟩ := twoBlk V2.out.arg
    obtain ⟨r0, r1, r2, r3⟩ := twoBlk V2.out.res
    have hgs2 := blk_lt V2.out.arg
    have hrs2 := blk_lt V2.out.res
    go_wp2_with fail
    refine bodyPost_ret (v := .tuple #[.agg #[.bool true, .slice ao l.length ca], .bool true, .int .i64 0]) (by simp [results, Try.results62, go_sem, r0, r1]) rfl ?_
    exact ⟨_, rfl, HR.out.below (V2.out.fin _ _), V2.out.fin _ _⟩
  · rw [k2]
    clear k2
    have K1 := Lib.hid k1
    clear k1
    have KA := Lib.hid ka
    clear ka
    have hp0 : ¬ (p < 0) := by omega
    clear kp
    go_enter Try.func62, Try.ntmps62
    go_wp2_with fail
    rw [← HW0.out]
    have hv := validE25_c false _ l W0 (HR.out.below V0.out.bel) hl
    rw [K1.out] at hv
    refine hv.mono ?_
    clear hv
    rintro e w1 ⟨rfl, b1⟩
    have V1 := Lib.hid (V0.out.next b1)
    clear b1 V0 HW0
    obtain ⟨g0, g1, _, _⟩ := twoBlk V1.out.arg
    obtain ⟨r0, r1, r2, r3⟩ := twoBlk V1.out.res
    have hgs1 := blk_lt V1.out.arg
    have hrs1 := blk_lt V1.out.res
    go_wp2_with fail
    have hv := refHas_c _ l p w1 (HR.out.below V1.out.bel) hl
    rw [KA.out] at hv
    refine hv.mono ?_
    clear hv
    rintro e w2 ⟨rfl, b2⟩
    have V2 := Lib.hid (V1.out.next b2)
    clear b2 V1 g0 g1 r0 r1 r2 r3 hgs1 hrs1
    obtain ⟨g0, g1, _, _⟩ := twoBlk V2.out.arg
    obtain ⟨r0, r1, r2, r3⟩ := twoBlk V2.out.res
    have hgs2 := blk_lt V2.out.arg
    have hrs2 := blk_lt V2.out.res
    go_wp2_with fail
    refine (refEnter_c _ l ⟨p, r, 0⟩ w2 (HR.out.below V2.out.bel) hl).mono ?_
    rintro e w3 ⟨v3, rfl, ho3, b3⟩
    obtain ⟨a3, c3, rfl⟩ := own_slice ho3
    have V3 := Lib.hid (V2.out.next b3)
    have FO := Lib.hid (fun x y => V25.ownFin (w := w) (FrW.of_own ho3) hrs2 x y)
    clear b3 ho3 V2 g0 g1 r0 r1 r2 r3 hgs2
    obtain ⟨g0, g1, _, _⟩ := twoBlk V3.out.arg
    obtain ⟨r0, r1, r2, r3⟩ := twoBlk V3.out.res
    have hgs3 := blk_lt V3.out.arg
    have hrs3 := blk_lt V3.out.res
    generalize (enterW l ⟨p, r, 0⟩).length = m3 at FO ⊢
    go_wp2_with fail
    refine bodyPost_ret (v := .tuple #[.agg #[.bool false, .slice a3 m3 c3], .bool false, .int .i64 0]) (by simp [results, Try.results62, go_sem, r0, r1]) rfl ?_
    exact ⟨_, rfl, FO.out _ _, V3.out.fin _ _⟩

set_option maxHeartbeats 2000000 in
set_option maxRecDepth 100000 in
theorem cancelE25_c (n : Bool) (p : Int) (v : Value) (l : List Wt) (w : World) (h : RdW w 0 v l) (hl : l.length ≤ 90000) :
    Calls Try.prog 64 #[.agg #[.bool n, v], .int .i64 p] w (Rt2 w (.bool n) (cancelE n l p).1 (.int .i64 (cancelE n l p).2)) := by
  obtain ⟨ao, ca, rfl, hca, hna, pa⟩ := h.open_
  have HR := Lib.hid h
  obtain ⟨W0, hW0⟩ : ∃ W0, W0 = (w.alloc (.cells #[.bool n, .slice ao l.length ca] 102)).alloc (.cells #[.bool false, .slice none 0 0] 102) := ⟨_, rfl⟩
  have V0 := Lib.hid (V25.start hW0)
  have HW0 := Lib.hid hW0
  clear h pa hca hna hW0
  have hway : (vldE n l = false ∧ cancelE n l p = (l, 2)) ∨ (vldE n l = true ∧ cancelE n l p = (leaveW l p, 0)) := by
    unfold cancelE
    cases vldE n l <;> simp
  rcases hway with ⟨k1, k2⟩ | ⟨k1, k2⟩
  · rw [k2]
    clear k2
    have K1 := Lib.hid k1
    clear k1
    go_enter Try.func64, Try.ntmps64
    go_wp2_with fail
    rw [← HW0.out]
    have hv := validE25_c n _ l W0 (HR.out.below V0.out.bel) hl
    rw [K1.out] at hv
    refine hv.mono ?_
    clear hv
    rintro e w1 ⟨rfl, b1⟩
    have V1 := Lib.hid (V0.out.next b1)
    clear b1 V0 HW0
    obtain ⟨g0, g1, _, _⟩ := twoBlk V1.out.arg
    obtain ⟨r0, r1, r2, r3⟩ := twoBlk V1.out.res
    have hgs1 := blk_lt V1.out.arg
    have hrs1 := blk_lt V1.out.res
    go_wp2_with fail
    refine bodyPost_ret (v := .tuple #[.agg #[.bool n, .slice ao l.length ca], .int .i64 2]) (by simp [results, Try.results64, go_sem, r0, r1]) rfl ?_
    exact ⟨_, rfl, HR.out.below (V1.out.fin _ _), V1.out.fin _ _⟩
  · rw [k2]
    clear k2
    have K1 := Lib.hid k1
    clear k1
    go_enter Try.func64, Try.ntmps64
    go_wp2_with fail
    rw [← HW0.out]
    have hv := validE25_c n _ l W0 (HR.out.below V0.out.bel) hl
    rw [K1.out] at hv
    refine hv.mono ?_
    clear hv
    rintro e w1 ⟨rfl, b1⟩
    have V1 := Lib.hid (V0.out.next b1)
    clear b1 V0 HW0
    obtain ⟨g0, g1, _, _⟩ := twoBlk V1.out.arg
    obtain ⟨r0, r1, r2, r3⟩ := twoBlk V1.out.res
    have hgs1 := blk_lt V1.out.arg
    have hrs1 := blk_lt V1.out.res
    have RL := Lib.hid (HR.out.below V1.out.bel)
    go_wp2_with fail
    go_region_with (go_at_call 43; refine (refLeave_c _ l p _ (by exact RL.out) hl).mono ?_; rintro e w2 ⟨v2, rfl, ho2, b2⟩; replace b2 : Below w1.heap.size w1 w2 := (by first | exact b2 | exact below_un b2); replace ho2 : w2.ownsRow w1.heap.size 56 3 v2 (leaveW l p).length (cellsW (leaveW l p)) := ho2; obtain ⟨a2, c2, rfl⟩ := own_slice ho2; have V2 := Lib.hid (V1.out.next b2); have FO := Lib.hid (fun x y => V25.ownFin (w := w) (FrW.of_own ho2) hrs1 x y); obtain ⟨s0, s1, _, _⟩ := twoBlk V2.out.arg; obtain ⟨t0, t1, t2, t3⟩ := twoBlk V2.out.res; have hss := blk_lt V2.out.arg; have hts := blk_lt V2.out.res; clear b2 ho2)
    all_goals
      go_wp2_with fail
      refine bodyPost_ret (v := .tuple #[.agg #[.bool n, .slice a2 (leaveW l p).length c2], .int .i64 0]) (by simp [results, Try.results64, go_sem, t0, t1]) rfl ?_
      exact ⟨_, rfl, FO.out _ _, V2.out.fin _ _⟩

set_option maxHeartbeats 2000000 in
set_option maxRecDepth 100000 in
theorem raise25_c (n : Bool) (v : Value) (l : List Wt) (w : World) (h : RdW w 0 v l) (hl : l.length ≤ 90000) :
    Calls Try.prog 60 #[.agg #[.bool n, v]] w (RtR w (.bool (raiseE n l).1) (raiseE n l).2.1 (raiseE n l).2.2.1 (.int .i64 (raiseE n l).2.2.2)) := by
  obtain ⟨ao, ca, rfl, hca, hna, pa⟩ := h.open_
  have HR := Lib.hid h
  obtain ⟨W0, hW0⟩ : ∃ W0, W0 = (w.alloc (.cells #[.bool n, .slice ao l.length ca] 102)).alloc (.cells #[.bool false, .slice none 0 0] 102) := ⟨_, rfl⟩
  have V0 := Lib.hid (V25.start hW0)
  have HW0 := Lib.hid hW0
  clear h pa hca hna hW0
  have hway : (vldE n l = false ∧ raiseE n l = (n, l, [], 2)) ∨ (vldE n l = true ∧ raiseE n l = (true, [], l.map (·.proc), 0)) := by
    unfold raiseE
    cases vldE n l <;> simp
  rcases hway with ⟨k1, k2⟩ | ⟨k1, k2⟩
  · rw [k2]
    clear k2
    have K1 := Lib.hid k1
    clear k1
    go_enter Try.func60, Try.ntmps60
    go_wp2_with fail
    rw [← HW0.out]
    have hv := validE25_c n _ l W0 (HR.out.below V0.out.bel) hl
    rw [K1.out] at hv
    refine hv.mono ?_
    clear hv
    rintro e w1 ⟨rfl, b1⟩
    have V1 := Lib.hid (V0.out.next b1)
    clear b1 V0 HW0
    obtain ⟨g0, g1, _, _⟩ := twoBlk V1.out.arg
    obtain ⟨r0, r1, r2, r3⟩ := twoBlk V1.out.res
    have hgs1 := blk_lt V1.out.arg
    have hrs1 := blk_lt V1.out.res
    go_wp2_with fail
    refine bodyPost_ret (v := .tuple #[.agg #[.bool n, .slice ao l.length ca], .slice none 0 0, .int .i64 2]) (by simp [results, Try.results60, go_sem, r0, r1]) rfl ?_
    exact ⟨_, _, rfl, HR.out.below (V1.out.fin _ _), RdI.nil _ _ _, V1.out.fin _ _⟩
  · rw [k2]
    clear k2
    have K1 := Lib.hid k1
    clear k1
    go_enter Try.func60, Try.ntmps60
    go_wp2_with fail
    rw [← HW0.out]
    have hv := validE25_c n _ l W0 (HR.out.below V0.out.bel) hl
    rw [K1.out] at hv
    refine hv.mono ?_
    clear hv
    rintro e w1 ⟨rfl, b1⟩
    have V1 := Lib.hid (V0.out.next b1)
    clear b1 V0 HW0
    obtain ⟨g0, g1, _, _⟩ := twoBlk V1.out.arg
    obtain ⟨r0, r1, r2, r3⟩ := twoBlk V1.out.res
    have hgs1 := blk_lt V1.out.arg
    have hrs1 := blk_lt V1.out.res
    obtain ⟨i0, hi, hz0, hz1, hz2⟩ := info_parts info_I
    obtain ⟨ao', ca', hvv, _, _, hpa⟩ := HR.out.open_
    simp only [Value.slice.injEq] at hvv
    obtain ⟨h1, _, h3⟩ := hvv
    subst h1 h3
    have HPA := Lib.hid hpa
    clear hpa
    go_wp2_with fail
    go_loopg [5, 6] l.length (fun gg s5 s6 wr => ∃ k : Nat, k ≤ l.length ∧ l.length - k ≤ gg ∧ s6 = .int .i64 k ∧ Aside (V25 w wr (.bool n) (.slice ao l.length ca) (.bool false) 102 ∧ w1.heap.size ≤ wr.heap.size ∧ OwnI wr w1.heap.size s5 ((l.take k).map (·.proc))))
    case atStart => exact ⟨0, Nat.zero_le _, by omega, rfl, V1.out, Nat.le_refl _, World.ownsRow_nil _ _ _ _⟩
    case round =>
      obtain ⟨k, hk, hg, rfl, A⟩ := hrel
      have V2 := Lib.hid A.out.1
      have hw1 : w1.heap.size ≤ wr.heap.size := A.out.2.1
      have HI := Lib.hid A.out.2.2
      clear A V1 g0 g1 r0 r1 r2 r3 hgs1
      obtain ⟨g0, g1, _, _⟩ := twoBlk V2.out.arg
      obtain ⟨r0, r1, r2, r3⟩ := twoBlk V2.out.res
      have hgs2 := blk_lt V2.out.arg
      have hrs2 := blk_lt V2.out.res
      obtain ⟨a5, c5, rfl⟩ := own_slice HI.out
      have hlen : ((l.take k).map (·.proc)).length = k := by simp; omega
      have hown := HI.out
      unfold OwnI at hown
      rw [hlen] at hown
      have HO := Lib.hid hown
      have HLN := Lib.hid hlen
      rw [hlen]
      clear hown hlen
      by_cases hlt : k < l.length
      · have hltz : (k : Int) < (l.length : Int) := by omega
        obtain ⟨b, off, hao, _, hbs, ca'⟩ := HPA.out (by omega)
        obtain ⟨y0, _, _⟩ := ca' k hlt
        rw [← V2.out.bel.cell (p := ⟨b, _, none⟩) hbs] at y0
        have hbr : b < wr.heap.size := Nat.lt_of_lt_of_le hbs V2.out.bel.size
        clear ca'
        subst hao
        go_wp2_with (at_builtin; refine wpList_append_own _ rfl _ _ 78 rfl w1.heap.size 3 i0 (.int .i64 0) 1 8 Try.underlying78 hi hz0 hz1 hz2 rfl (by decide) _ _ _ rfl (HO.out.alloc _) ⟨wr.heap.size, 0, none⟩ 1 1 [.int .i64 l[k].proc] rfl rfl ?c1 ?c2 ?c3 ?c4 ?c5 ?_)
        case c1 =>
          intro j u hj
          match j, hj with
          | 0, hj => simp at hj; subst hj; rw [addr_add]; go_simp
        case c2 => intro u hu; simp at hu; subst hu; rfl
        case c3 => unfold maxLen; omega
        case c4 => omega
        case c5 => first | omega | (simp; omega)
        intro v' w3 hown' hgrow _
        have HO' := Lib.hid hown'
        have V3 := Lib.hid ((V2.out.next ((Below.refl _ _).alloc (Nat.le_refl _) (.cells #[.int .i64 l[k].proc] 3))).grown hgrow hrs1 (fun g hg => (HO.out.lt g hg).1))
        have hw3 : w1.heap.size ≤ w3.heap.size := by have := hgrow.size; simp at this; omega
        clear hown' hgrow
        go_wp2
        go_roundg (l.length - (k + 1))
        case measure => omega
        case rel =>
          refine ⟨k + 1, by omega, by omega, by go_num, V3.out, hw3, ?_⟩
          unfold OwnI
          rw [List.take_succ_eq_append_getElem hlt, List.map_append, List.length_append, HLN.out, List.map_append]
          simpa [List.map_take] using HO'.out
      · have hltz : ¬ (k : Int) < (l.length : Int) := by omega
        have HF : Hid (∀ x y, RdI .i64 (fin2 w wr x y) 0 (.slice a5 k c5) (l.map (·.proc))) := fun x y => by
          have h1 : OwnI wr w1.heap.size (.slice a5 k c5) (l.map (·.proc)) := by
            have h2 := HI.out
            rw [HLN.out] at h2
            rwa [List.take_of_length_le (by omega)] at h2
          exact ((h1.rd.low hrs1).low hrs1).mono (Nat.zero_le _)
        clear hlt
        go_wp2_with fail
        refine bodyPost_ret (v := .tuple #[.agg #[.bool true, .slice none 0 0], .slice a5 k c5, .int .i64 0]) (by simp [results, Try.results60, go_sem, r0, r1]) rfl ?_
        exact ⟨_, _, rfl, (FrW.nil _ 0).1, HF.out _ _, V2.out.fin _ _⟩
end Go.Proofs.Ytglbfmcbojjglaa

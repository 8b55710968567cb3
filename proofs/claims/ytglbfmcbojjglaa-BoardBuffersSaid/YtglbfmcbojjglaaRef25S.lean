/-
  The contracts of nacelleref25.Wait, Signal and CancelSema. Conditions: the list can be read, at most ninety thousand elements.
-/
import Derived.Test.YtglbfmcbojjglaaRef25
namespace Go.Proofs.Ytglbfmcbojjglaa
open Go.RowKit

/-- The two variables of an operation of the reference. -/
structure V25 (w W : World) (c v z : Value) (t : TypeId) : Prop where
  arg : W.heap[w.heap.size]? = some (.cells #[c, v] t (0, 0))
  res : W.heap[w.heap.size + 1]? = some (.cells #[z, .slice none 0 0] t (0, 0))
  bel : Below w.heap.size w W
def fin2 (w W : World) (x y : Value) : World := (W.setCell ⟨w.heap.size + 1, 0, none⟩ x).setCell ⟨w.heap.size + 1, 1, none⟩ y
section
variable {w W W' : World} {c v z : Value} {t : TypeId}
theorem V25.start (h : W = (w.alloc (.cells #[c, v] t)).alloc (.cells #[z, .slice none 0 0] t)) : V25 w W c v z t := by
  subst h
  refine ⟨(Below.heap_alloc _ _ _ (by simp)).trans (heap_alloc_new w _), ?_, ((Below.refl _ w).alloc (Nat.le_refl _) _).alloc (by simp) _⟩
  have := heap_alloc_new (w.alloc (.cells #[c, v] t)) (.cells #[z, .slice none 0 0] t)
  simpa using this
theorem V25.next (h : V25 w W c v z t) (hb : Below W.heap.size W W') : V25 w W' c v z t :=
  ⟨(hb.block _ (blk_lt h.arg)).trans h.arg, (hb.block _ (blk_lt h.res)).trans h.res, h.bel.trans (hb.mono h.bel.size)⟩
theorem V25.fin (h : V25 w W c v z t) (x y : Value) : Below w.heap.size w (fin2 w W x y) :=
  (h.bel.setCell (p := ⟨w.heap.size + 1, 0, none⟩) (Nat.le_succ _) x).setCell (p := ⟨w.heap.size + 1, 1, none⟩) (Nat.le_succ _) y
theorem V25.finD (h : V25 w W c v z t) (x y : Value) : Below w.heap.size w (fin2 w W.drew x y) := by
  have := h.fin x y
  exact ⟨this.os, this.tape, this.output, this.size, this.block⟩
theorem V25.ownFin {B : Nat} {u : Value} {l : List Wt} (h : FrW W B u l) (hB : w.heap.size + 1 < B) (x y : Value) : RdW (fin2 w W x y) 0 u l := ((h.low hB).low hB).rd
theorem RdW.tail {B b off m d : Nat} {x : Wt} {l k : List Wt} (h : RdW w B (.slice (some ⟨b, off, none⟩) m d) k) (hk : k = x :: l) : RdW w B (.slice (if d = 1 then some ⟨b, off, none⟩ else some ⟨b, off + 3, none⟩) (m - 1) (d - 1)) l := by
  subst hk
  obtain ⟨ao, cap, hv, h1, h2, h3, hp⟩ := h
  simp only [Value.slice.injEq, List.length_cons] at hv
  obtain ⟨rfl, rfl, rfl⟩ := hv
  simp only [List.length_cons] at h1 h3 hp
  obtain ⟨b', off', ha, hB, hbs, hc⟩ := hp (by omega)
  simp only [Option.some.injEq, Addr.mk.injEq, and_true] at ha
  obtain ⟨rfl, rfl⟩ := ha
  rw [Nat.add_sub_cancel]
  refine ⟨_, _, rfl, by omega, ?_, cellsW_length l, fun h0 => ?_⟩
  · intro h; split at h <;> cases h
  · rw [if_neg (by omega)]
    refine ⟨b, off + 3, rfl, hB, hbs, fun j u hu => ?_⟩
    have := hc (3 + j) u (by rw [cellsW_cons, List.getElem?_append_right (by rw [encW_length]; omega), encW_length]; simpa using hu)
    rwa [← Nat.add_assoc] at this
theorem RdW.head00 {B m d : Nat} {a : Option Addr} {x : Wt} {l k : List Wt} (h : RdW w B (.slice a m d) k) (hk : k = x :: l) : ∃ b off, a = some ⟨b, off, none⟩ ∧ b < w.heap.size ∧ w.cell? ⟨b, off, none⟩ = some (.int .i64 x.proc) := by
  subst hk
  obtain ⟨ao, cap, hv, h1, h2, h3, hp⟩ := h
  simp only [Value.slice.injEq, List.length_cons] at hv
  obtain ⟨rfl, rfl, rfl⟩ := hv
  simp only [List.length_cons] at hp
  obtain ⟨b', off', rfl, hB, hbs, hc⟩ := hp (by omega)
  exact ⟨b', off', rfl, hbs, hc 0 _ rfl⟩
end
def Rt3 (w : World) (c : Value) (l : List Wt) (x y : Value) (e : Ending) (w' : World) : Prop := ∃ v, e = .returned (.tuple #[.agg #[c, v], x, y]) ∧ RdW w' 0 v l ∧ Below w.heap.size w w'
def Rt2 (w : World) (c : Value) (l : List Wt) (y : Value) (e : Ending) (w' : World) : Prop := ∃ v, e = .returned (.tuple #[.agg #[c, v], y]) ∧ RdW w' 0 v l ∧ Below w.heap.size w w'

set_option maxHeartbeats 2000000 in
set_option maxRecDepth 100000 in
theorem wait25_c (n : Int) (p r : Int) (v : Value) (l : List Wt) (w : World) (h : RdW w 0 v l) (hl : l.length ≤ 90000) :
    Calls Try.prog 53 #[.agg #[.int .i64 n, v], .int .i64 p, .int .i64 r] w (Rt3 w (.int .i64 (waitS n l p r).1) (waitS n l p r).2.1 (.bool (waitS n l p r).2.2.1) (.int .i64 (waitS n l p r).2.2.2)) := by
  obtain ⟨ao, ca, rfl, hca, hna, pa⟩ := h.open_
  have HR := Lib.hid h
  obtain ⟨W0, hW0⟩ : ∃ W0, W0 = (w.alloc (.cells #[.int .i64 n, .slice ao l.length ca] 88)).alloc (.cells #[.int .i64 0, .slice none 0 0] 88) := ⟨_, rfl⟩
  have V0 := Lib.hid (V25.start hW0)
  have HW0 := Lib.hid hW0
  clear h pa hca hna hW0
  have hway : (vldS n l = false ∧ waitS n l p r = (n, l, false, 2)) ∨ (vldS n l = true ∧ p < 0 ∧ waitS n l p r = (n, l, false, 2)) ∨ (vldS n l = true ∧ 0 ≤ p ∧ l.any (fun x => decide (x.proc = p)) = true ∧ waitS n l p r = (n, l, false, 2)) ∨
      (vldS n l = true ∧ 0 ≤ p ∧ l.any (fun x => decide (x.proc = p)) = false ∧ 0 < n ∧ waitS n l p r = (n - 1, l, true, 0)) ∨ (vldS n l = true ∧ 0 ≤ p ∧ l.any (fun x => decide (x.proc = p)) = false ∧ n = 0 ∧ waitS n l p r = (0, enterW l ⟨p, r, 0⟩, false, 0)) := by
    unfold waitS mayL
    cases h1 : vldS n l
    · simp
    · have hn := vldS_bd h1
      by_cases hp : 0 ≤ p
      · cases ha : l.any (fun x => decide (x.proc = p))
        · by_cases h3 : 0 < n
          · exact .inr (.inr (.inr (.inl ⟨rfl, hp, rfl, h3, by simp [hp, h3]⟩)))
          · have h0 : n = 0 := by omega
            subst h0
            exact .inr (.inr (.inr (.inr ⟨rfl, hp, rfl, rfl, by simp [hp]⟩)))
        · exact .inr (.inr (.inl ⟨rfl, hp, rfl, by simp⟩))
      · exact .inr (.inl ⟨rfl, by omega, by simp [hp]⟩)
  rcases hway with ⟨k1, k2⟩ | ⟨k1, kp, k2⟩ | ⟨k1, kp, ka, k2⟩ | ⟨k1, kp, ka, kn, k2⟩ | ⟨k1, kp, ka, rfl, k2⟩
  · rw [k2]
    clear k2
    have K1 := Lib.hid k1
    clear k1
    go_enter Try.func53, Try.ntmps53
    go_wp2_with fail
    rw [← HW0.out]
    have hv := validS25_c n _ l W0 (HR.out.below V0.out.bel) hl
    rw [K1.out] at hv
    refine hv.mono ?_
    clear hv
    rintro e w1 ⟨rfl, b1⟩
    have V1 := Lib.hid (V0.out.next b1)
    clear b1 V0 HW0
    obtain ⟨g0, g1, _, _⟩ := twoBlk V1.out.arg
    obtain ⟨r0, r1, r2, r3⟩ := twoBlk V1.out.res
    have hgs1 := blk_lt V1.out.arg
    have hrs1 := blk_lt V1.out.res
    go_wp2_with fail
    refine bodyPost_ret (v := .tuple #[.agg #[.int .i64 n, .slice ao l.length ca], .bool false, .int .i64 2]) (by simp [results, Try.results53, go_sem, r0, r1]) rfl ?_
    exact ⟨_, rfl, HR.out.below (V1.out.fin _ _), V1.out.fin _ _⟩
  · rw [k2]
    clear k2
    have K1 := Lib.hid k1
    clear k1
    go_enter Try.func53, Try.ntmps53
    go_wp2_with fail
    rw [← HW0.out]
    have hv := validS25_c n _ l W0 (HR.out.below V0.out.bel) hl
    rw [K1.out] at hv
    refine hv.mono ?_
    clear hv
    rintro e w1 ⟨rfl, b1⟩
    have V1 := Lib.hid (V0.out.next b1)
    clear b1 V0 HW0
    obtain ⟨g0, g1, _, _⟩ := twoBlk V1.out.arg
    obtain ⟨r0, r1, r2, r3⟩ := twoBlk V1.out.res
    have hgs1 := blk_lt V1.out.arg
    have hrs1 := blk_lt V1.out.res
    go_wp2_with fail
    refine bodyPost_ret (v := .tuple #[.agg #[.int .i64 n, .slice ao l.length ca], .bool false, .int .i64 2]) (by simp [results, Try.results53, go_sem, r0, r1]) rfl ?_
    exact ⟨_, rfl, HR.out.below (V1.out.fin _ _), V1.out.fin _ _⟩
  · rw [k2]
    clear k2
    have K1 := Lib.hid k1
    clear k1
    have KA := Lib.hid ka
    clear ka
    have hp0 : ¬ (p < 0) := by omega
    clear kp
    go_enter Try.func53, Try.ntmps53
    go_wp2_with fail
    rw [← HW0.out]
    have hv := validS25_c n _ l W0 (HR.out.below V0.out.bel) hl
    rw [K1.out] at hv
    refine hv.mono ?_
    clear hv
    rintro e w1 ⟨rfl, b1⟩
    have V1 := Lib.hid (V0.out.next b1)
    clear b1 V0 HW0
    obtain ⟨g0, g1, _, _⟩ := twoBlk V1.out.arg
    obtain ⟨r0, r1, r2, r3⟩ := twoBlk V1.out.res
    have hgs1 := blk_lt V1.out.arg
    have hrs1 := blk_lt V1.out.res
    go_wp2_with fail
    have hv := refHas_c _ l p w1 (HR.out.below V1.out.bel) hl
    rw [KA.out] at hv
    refine hv.mono ?_
    clear hv
    rintro e w2 ⟨rfl, b2⟩
    have V2 := Lib.hid (V1.out.next b2)
    clear b2 V1 g0 g1 r0 r1 r2 r3 hgs1 hrs1
    obtain ⟨g0, g1, _, _⟩ := twoBlk V2.out.arg
    obtain ⟨r0, r1, r2, r3⟩ := twoBlk V2.out.res
    have hgs2 := blk_lt V2.out.arg
    have hrs2 := blk_lt V2.out.res
    go_wp2_with fail
    refine bodyPost_ret (v := .tuple #[.agg #[.int .i64 n, .slice ao l.length ca], .bool false, .int .i64 2]) (by simp [results, Try.results53, go_sem, r0, r1]) rfl ?_
    exact ⟨_, rfl, HR.out.below (V2.out.fin _ _), V2.out.fin _ _⟩
  · rw [k2]
    clear k2
    have K1 := Lib.hid k1
    clear k1
    have KA := Lib.hid ka
    clear ka
    have hp0 : ¬ (p < 0) := by omega
    clear kp
    have hnb := vldS_bd K1.out
    have hn1 : n ≤ 255 := hnb.2
    clear hnb
    go_enter Try.func53, Try.ntmps53
    go_wp2_with fail
    rw [← HW0.out]
    have hv := validS25_c n _ l W0 (HR.out.below V0.out.bel) hl
    rw [K1.out] at hv
    refine hv.mono ?_
    clear hv
    rintro e w1 ⟨rfl, b1⟩
    have V1 := Lib.hid (V0.out.next b1)
    clear b1 V0 HW0
    obtain ⟨g0, g1, _, _⟩ := twoBlk V1.out.arg
    obtain ⟨r0, r1, r2, r3⟩ := twoBlk V1.out.res
    have hgs1 := blk_lt V1.out.arg
    have hrs1 := blk_lt V1.out.res
    go_wp2_with fail
    have hv := refHas_c _ l p w1 (HR.out.below V1.out.bel) hl
    rw [KA.out] at hv
    refine hv.mono ?_
    clear hv
    rintro e w2 ⟨rfl, b2⟩
    have V2 := Lib.hid (V1.out.next b2)
    clear b2 V1 g0 g1 r0 r1 r2 r3 hgs1 hrs1
    obtain ⟨g0, g1, _, _⟩ := twoBlk V2.out.arg
    obtain ⟨r0, r1, r2, r3⟩ := twoBlk V2.out.res
    have hgs2 := blk_lt V2.out.arg
    have hrs2 := blk_lt V2.out.res
    go_wp2_with fail
    refine bodyPost_ret (v := .tuple #[.agg #[.int .i64 (n - 1), .slice ao l.length ca], .bool true, .int .i64 0]) (by simp [results, Try.results53, go_sem, r0, r1]) rfl ?_
    exact ⟨_, rfl, HR.out.below (V2.out.fin _ _), V2.out.fin _ _⟩
  · rw [k2]
    clear k2
    have K1 := Lib.hid k1
    clear k1
    have KA := Lib.hid ka
    clear ka
    have hp0 : ¬ (p < 0) := by omega
    clear kp
    go_enter Try.func53, Try.ntmps53
    go_wp2_with fail
    rw [← HW0.out]
    have hv := validS25_c 0 _ l W0 (HR.out.below V0.out.bel) hl
    rw [K1.out] at hv
    refine hv.mono ?_
    clear hv
    rintro e w1 ⟨rfl, b1⟩
    have V1 := Lib.hid (V0.out.next b1)
    clear b1 V0 HW0
    obtain ⟨g0, g1, _, _⟩ := twoBlk V1.out.arg
    obtain ⟨r0, r1, r2, r3⟩ := twoBlk V1.out.res
    have hgs1 := blk_lt V1.out.arg
    have hrs1 := blk_lt V1.out.res
    go_wp2_with fail
    have hv := refHas_c _ l p w1 (HR.out.below V1.out.bel) hl
    rw [KA.out] at hv
    refine hv.mono ?_
    clear hv
    rintro e w2 ⟨rfl, b2⟩
    have V2 := Lib.hid (V1.out.next b2)
    clear b2 V1 g0 g1 r0 r1 r2 r3 hgs1 hrs1
    obtain ⟨g0, g1, _, _⟩ := twoBlk V2.out.arg
    obtain ⟨r0, r1, r2, r3⟩ := twoBlk V2.out.res
    have hgs2 := blk_lt V2.out.arg
    have hrs2 := blk_lt V2.out.res
    go_wp2_with fail
    refine (refEnter_c _ l ⟨p, r, 0⟩ w2 (HR.out.below V2.out.bel) hl).mono ?_
    rintro e w3 ⟨v3, rfl, ho3, b3⟩
    obtain ⟨a3, c3, rfl⟩ := own_slice ho3
    have V3 := Lib.hid (V2.out.next b3)
    have FO := Lib.hid (fun x y => V25.ownFin (w := w) (FrW.of_own ho3) hrs2 x y)
    clear b3 ho3 V2 g0 g1 r0 r1 r2 r3 hgs2
    obtain ⟨g0, g1, _, _⟩ := twoBlk V3.out.arg
    obtain ⟨r0, r1, r2, r3⟩ := twoBlk V3.out.res
    have hgs3 := blk_lt V3.out.arg
    have hrs3 := blk_lt V3.out.res
    generalize (enterW l ⟨p, r, 0⟩).length = m3 at FO ⊢
    go_wp2_with fail
    refine bodyPost_ret (v := .tuple #[.agg #[.int .i64 0, .slice a3 m3 c3], .bool false, .int .i64 0]) (by simp [results, Try.results53, go_sem, r0, r1]) rfl ?_
    exact ⟨_, rfl, FO.out _ _, V3.out.fin _ _⟩

set_option maxHeartbeats 2000000 in
set_option maxRecDepth 100000 in
theorem signal25_c (n : Int) (v : Value) (l : List Wt) (w : World) (h : RdW w 0 v l) (hl : l.length ≤ 90000) :
    Calls Try.prog 54 #[.agg #[.int .i64 n, v]] w (Rt3 w (.int .i64 (signalS n l).1) (signalS n l).2.1 (.int .i64 (signalS n l).2.2.1) (.int .i64 (signalS n l).2.2.2)) := by
  obtain ⟨ao, ca, rfl, hca, hna, pa⟩ := h.open_
  have HR := Lib.hid h
  obtain ⟨W0, hW0⟩ : ∃ W0, W0 = (w.alloc (.cells #[.int .i64 n, .slice ao l.length ca] 88)).alloc (.cells #[.int .i64 0, .slice none 0 0] 88) := ⟨_, rfl⟩
  have V0 := Lib.hid (V25.start hW0)
  have HW0 := Lib.hid hW0
  clear h pa hca hna hW0
  have hway : (vldS n l = false ∧ signalS n l = (n, l, -1, 2)) ∨ (vldS n l = true ∧ n = 0 ∧ ∃ x m, l = x :: m ∧ signalS n l = (0, m, x.proc, 0)) ∨ (vldS n l = true ∧ l = [] ∧ n = 255 ∧ signalS n l = (255, l, -1, 4)) ∨
      (vldS n l = true ∧ l = [] ∧ n ≠ 255 ∧ signalS n l = (n + 1, l, -1, 0)) := by
    cases h1 : vldS n l
    · exact .inl ⟨rfl, by simp [signalS, h1]⟩
    · rcases cons_signal h1 with ⟨x, m, hl, hc, he, _, _⟩ | ⟨hl, hc, he⟩ | ⟨hl, _, hc, he, _⟩
      · exact .inr (.inl ⟨rfl, hc, x, m, hl, he⟩)
      · exact .inr (.inr (.inl ⟨rfl, hl, hc, by rw [he, hl]⟩))
      · exact .inr (.inr (.inr ⟨rfl, hl, by omega, by rw [he, hl]⟩))
  rcases hway with ⟨k1, k2⟩ | ⟨k1, rfl, x, m, kl, k2⟩ | ⟨k1, kl, rfl, k2⟩ | ⟨k1, kl, k3, k2⟩
  · rw [k2]
    clear k2
    have K1 := Lib.hid k1
    clear k1
    go_enter Try.func54, Try.ntmps54
    go_wp2_with fail
    rw [← HW0.out]
    have hv := validS25_c n _ l W0 (HR.out.below V0.out.bel) hl
    rw [K1.out] at hv
    refine hv.mono ?_
    clear hv
    rintro e w1 ⟨rfl, b1⟩
    have V1 := Lib.hid (V0.out.next b1)
    clear b1 V0 HW0
    obtain ⟨g0, g1, _, _⟩ := twoBlk V1.out.arg
    obtain ⟨r0, r1, r2, r3⟩ := twoBlk V1.out.res
    have hgs1 := blk_lt V1.out.arg
    have hrs1 := blk_lt V1.out.res
    go_wp2_with fail
    refine bodyPost_ret (v := .tuple #[.agg #[.int .i64 n, .slice ao l.length ca], .int .i64 (-1), .int .i64 2]) (by simp [results, Try.results54, go_sem, r0, r1]) rfl ?_
    exact ⟨_, rfl, HR.out.below (V1.out.fin _ _), V1.out.fin _ _⟩
  · rw [k2]
    clear k2
    have K1 := Lib.hid k1
    clear k1
    have KL := Lib.hid kl
    have hl0 : 0 < l.length := by rw [kl]; simp
    have hl1 : (0 : Int) < (l.length : Int) := by omega
    have hl2 : 1 ≤ ca := by obtain ⟨_, _, hv, h1, _⟩ := HR.out; simp only [Value.slice.injEq] at hv; omega
    clear kl
    go_enter Try.func54, Try.ntmps54
    go_wp2_with fail
    rw [← HW0.out]
    have hv := validS25_c 0 _ l W0 (HR.out.below V0.out.bel) hl
    rw [K1.out] at hv
    refine hv.mono ?_
    clear hv
    rintro e w1 ⟨rfl, b1⟩
    have V1 := Lib.hid (V0.out.next b1)
    clear b1 V0 HW0
    obtain ⟨g0, g1, _, _⟩ := twoBlk V1.out.arg
    obtain ⟨r0, r1, r2, r3⟩ := twoBlk V1.out.res
    have hgs1 := blk_lt V1.out.arg
    have hrs1 := blk_lt V1.out.res
    obtain ⟨b, off, rfl, hbw, e0⟩ := HR.out.head00 KL.out
    have e1 : w1.cell? ⟨b, off, none⟩ = some (.int .i64 x.proc) := (V1.out.bel.cell (p := ⟨b, off, none⟩) hbw).trans e0
    have hb2 : ¬ (b = w.heap.size + 1) := by omega
    have hb3 : b < w1.heap.size := Nat.lt_of_lt_of_le hbw V1.out.bel.size
    clear e0
    by_cases hc1 : ca = 1
    · subst hc1
      have T2 : Hid (RdW w 0 (.slice (some ⟨b, off, none⟩) (l.length - 1) 0) m) := by have := HR.out.tail KL.out; first | rwa [if_pos rfl] at this | rwa [if_pos trivial] at this
      go_wp2_with fail
      go_region
      all_goals
        go_wp2_with fail
        refine bodyPost_ret (v := .tuple #[.agg #[.int .i64 0, .slice (some ⟨b, off, none⟩) (l.length - 1) 0], .int .i64 x.proc, .int .i64 0]) (by simp [results, Try.results54, go_sem, r0, r1]) rfl ?_
        first | exact ⟨_, rfl, T2.out.below (V1.out.fin _ _), V1.out.fin _ _⟩ | exact ⟨_, rfl, T2.out.below (V1.out.finD _ _), V1.out.finD _ _⟩
    · skip
      have T2 : Hid (RdW w 0 (.slice (some ⟨b, off + 3, none⟩) (l.length - 1) (ca - 1)) m) := by have := HR.out.tail KL.out; first | rwa [if_neg hc1] at this | rwa [if_pos trivial] at this
      go_wp2_with fail
      go_region
      all_goals
        go_wp2_with fail
        refine bodyPost_ret (v := .tuple #[.agg #[.int .i64 0, .slice (some ⟨b, off + 3, none⟩) (l.length - 1) (ca - 1)], .int .i64 x.proc, .int .i64 0]) (by simp [results, Try.results54, go_sem, r0, r1]) rfl ?_
        first | exact ⟨_, rfl, T2.out.below (V1.out.fin _ _), V1.out.fin _ _⟩ | exact ⟨_, rfl, T2.out.below (V1.out.finD _ _), V1.out.finD _ _⟩
  · rw [k2]
    clear k2
    have K1 := Lib.hid k1
    clear k1
    have hl0 : ¬ (0 < l.length) := by rw [kl]; simp
    have hl1 : ¬ ((0 : Int) < (l.length : Int)) := by omega
    clear kl
    go_enter Try.func54, Try.ntmps54
    go_wp2_with fail
    rw [← HW0.out]
    have hv := validS25_c 255 _ l W0 (HR.out.below V0.out.bel) hl
    rw [K1.out] at hv
    refine hv.mono ?_
    clear hv
    rintro e w1 ⟨rfl, b1⟩
    have V1 := Lib.hid (V0.out.next b1)
    clear b1 V0 HW0
    obtain ⟨g0, g1, _, _⟩ := twoBlk V1.out.arg
    obtain ⟨r0, r1, r2, r3⟩ := twoBlk V1.out.res
    have hgs1 := blk_lt V1.out.arg
    have hrs1 := blk_lt V1.out.res
    go_wp2_with fail
    refine bodyPost_ret (v := .tuple #[.agg #[.int .i64 255, .slice ao l.length ca], .int .i64 (-1), .int .i64 4]) (by simp [results, Try.results54, go_sem, r0, r1]) rfl ?_
    exact ⟨_, rfl, HR.out.below (V1.out.fin _ _), V1.out.fin _ _⟩
  · rw [k2]
    clear k2
    have K1 := Lib.hid k1
    clear k1
    have hl0 : ¬ (0 < l.length) := by rw [kl]; simp
    have hl1 : ¬ ((0 : Int) < (l.length : Int)) := by omega
    clear kl
    have hne : (n == 255) = false := by simp; exact k3
    have hnb := vldS_bd K1.out
    have hn0 : 0 ≤ n := hnb.1
    have hn1 : n < 255 := by have := hnb.2; omega
    clear hnb k3
    go_enter Try.func54, Try.ntmps54
    go_wp2_with fail
    rw [← HW0.out]
    have hv := validS25_c n _ l W0 (HR.out.below V0.out.bel) hl
    rw [K1.out] at hv
    refine hv.mono ?_
    clear hv
    rintro e w1 ⟨rfl, b1⟩
    have V1 := Lib.hid (V0.out.next b1)
    clear b1 V0 HW0
    obtain ⟨g0, g1, _, _⟩ := twoBlk V1.out.arg
    obtain ⟨r0, r1, r2, r3⟩ := twoBlk V1.out.res
    have hgs1 := blk_lt V1.out.arg
    have hrs1 := blk_lt V1.out.res
    go_wp2_with fail
    refine bodyPost_ret (v := .tuple #[.agg #[.int .i64 (n + 1), .slice ao l.length ca], .int .i64 (-1), .int .i64 0]) (by simp [results, Try.results54, go_sem, r0, r1]) rfl ?_
    exact ⟨_, rfl, HR.out.below (V1.out.fin _ _), V1.out.fin _ _⟩

set_option maxHeartbeats 2000000 in
set_option maxRecDepth 100000 in
theorem cancel25_c (n : Int) (p : Int) (v : Value) (l : List Wt) (w : World) (h : RdW w 0 v l) (hl : l.length ≤ 90000) :
    Calls Try.prog 56 #[.agg #[.int .i64 n, v], .int .i64 p] w (Rt2 w (.int .i64 n) (cancelS n l p).1 (.int .i64 (cancelS n l p).2)) := by
  obtain ⟨ao, ca, rfl, hca, hna, pa⟩ := h.open_
  have HR := Lib.hid h
  obtain ⟨W0, hW0⟩ : ∃ W0, W0 = (w.alloc (.cells #[.int .i64 n, .slice ao l.length ca] 88)).alloc (.cells #[.int .i64 0, .slice none 0 0] 88) := ⟨_, rfl⟩
  have V0 := Lib.hid (V25.start hW0)
  have HW0 := Lib.hid hW0
  clear h pa hca hna hW0
  have hway : (vldS n l = false ∧ cancelS n l p = (l, 2)) ∨ (vldS n l = true ∧ cancelS n l p = (leaveW l p, 0)) := by
    unfold cancelS
    cases vldS n l <;> simp
  rcases hway with ⟨k1, k2⟩ | ⟨k1, k2⟩
  · rw [k2]
    clear k2
    have K1 := Lib.hid k1
    clear k1
    go_enter Try.func56, Try.ntmps56
    go_wp2_with fail
    rw [← HW0.out]
    have hv := validS25_c n _ l W0 (HR.out.below V0.out.bel) hl
    rw [K1.out] at hv
    refine hv.mono ?_
    clear hv
    rintro e w1 ⟨rfl, b1⟩
    have V1 := Lib.hid (V0.out.next b1)
    clear b1 V0 HW0
    obtain ⟨g0, g1, _, _⟩ := twoBlk V1.out.arg
    obtain ⟨r0, r1, r2, r3⟩ := twoBlk V1.out.res
    have hgs1 := blk_lt V1.out.arg
    have hrs1 := blk_lt V1.out.res
    go_wp2_with fail
    refine bodyPost_ret (v := .tuple #[.agg #[.int .i64 n, .slice ao l.length ca], .int .i64 2]) (by simp [results, Try.results56, go_sem, r0, r1]) rfl ?_
    exact ⟨_, rfl, HR.out.below (V1.out.fin _ _), V1.out.fin _ _⟩
  · rw [k2]
    clear k2
    have K1 := Lib.hid k1
    clear k1
    go_enter Try.func56, Try.ntmps56
    go_wp2_with fail
    rw [← HW0.out]
    have hv := validS25_c n _ l W0 (HR.out.below V0.out.bel) hl
    rw [K1.out] at hv
    refine hv.mono ?_
    clear hv
    rintro e w1 ⟨rfl, b1⟩
    have V1 := Lib.hid (V0.out.next b1)
    clear b1 V0 HW0
    obtain ⟨g0, g1, _, _⟩ := twoBlk V1.out.arg
    obtain ⟨r0, r1, r2, r3⟩ := twoBlk V1.out.res
    have hgs1 := blk_lt V1.out.arg
    have hrs1 := blk_lt V1.out.res
    have RL := Lib.hid (HR.out.below V1.out.bel)
    go_wp2_with fail
    go_region_with (go_at_call 43; refine (refLeave_c _ l p _ (by exact RL.out) hl).mono ?_; rintro e w2 ⟨v2, rfl, ho2, b2⟩; replace b2 : Below w1.heap.size w1 w2 := (by first | exact b2 | exact below_un b2); replace ho2 : w2.ownsRow w1.heap.size 56 3 v2 (leaveW l p).length (cellsW (leaveW l p)) := ho2; obtain ⟨a2, c2, rfl⟩ := own_slice ho2; have V2 := Lib.hid (V1.out.next b2); have FO := Lib.hid (fun x y => V25.ownFin (w := w) (FrW.of_own ho2) hrs1 x y); obtain ⟨s0, s1, _, _⟩ := twoBlk V2.out.arg; obtain ⟨t0, t1, t2, t3⟩ := twoBlk V2.out.res; have hss := blk_lt V2.out.arg; have hts := blk_lt V2.out.res; clear b2 ho2)
    all_goals
      go_wp2_with fail
      refine bodyPost_ret (v := .tuple #[.agg #[.int .i64 n, .slice a2 (leaveW l p).length c2], .int .i64 0]) (by simp [results, Try.results56, go_sem, t0, t1]) rfl ?_
      exact ⟨_, rfl, FO.out _ _, V2.out.fin _ _⟩
end Go.Proofs.Ytglbfmcbojjglaa

/-
  The contracts of nacelleref24.bare, ValidBoard, Clear, CancelBoard, Look and Show. Conditions: the list can be read, at most ninety thousand elements.
-/
import Derived.Test.YtglbfmcbojjglaaBdC
import Derived.Test.YtglbfmcbojjglaaRef25E
namespace Go.Proofs.Ytglbfmcbojjglaa
open Go.RowKit

set_option maxHeartbeats 1000000 in
theorem bare24_c (v : Value) (l : List Wt) (w : World) (h : RdW w 0 v l) (hl : l.length ≤ 90000) :
    Calls Try.prog 117 #[v] w fun e w' => e = .returned (.bool (!l.any (fun x => x.val != 0))) ∧ Below w.heap.size w w' := by
  obtain ⟨ao, ca, rfl, hca, hna, pa⟩ := h.open_
  have HPA := Lib.hid pa
  clear h pa
  go_enter Try.func117, Try.ntmps117
  go_wp2
  go_loopg [3] l.length (fun gg s3 wr => ∃ k : Nat, k ≤ l.length ∧ l.length - k ≤ gg ∧ s3 = .int .i64 k ∧ w = wr ∧ Aside (∀ x ∈ l.take k, x.val = 0))
  case atStart => exact ⟨0, Nat.zero_le _, by omega, rfl, rfl, by simp [Aside]⟩
  case round =>
    obtain ⟨k, hk, hg, rfl, rfl, A⟩ := hrel
    by_cases hlt : k < l.length
    · have hltz : (k : Int) < (l.length : Int) := by omega
      obtain ⟨b, off, rfl, _, hbs, ca'⟩ := HPA.out (by omega)
      obtain ⟨c0, c1, c2⟩ := ca' k hlt
      clear ca'
      by_cases hv : l[k].val = 0
      · have hq : (l[k].val != 0) = false := by simp [hv]
        have HV := Lib.hid hv
        clear hv
        go_wp2
        go_roundg (l.length - (k + 1))
        case measure => omega
        case rel =>
          refine ⟨k + 1, by omega, by omega, by go_num, rfl, fun x hx => ?_⟩
          rw [List.take_succ_eq_append_getElem hlt, List.mem_append, List.mem_singleton] at hx
          rcases hx with hx | rfl
          · exact A.out x hx
          · exact HV.out
      · have hq : (l[k].val != 0) = true := by simp [hv]
        have HV := Lib.hid hv
        clear hv
        go_wp2
        go_ret
        refine ⟨ret_bool ?_, Below.refl _ _⟩
        have : l.any (fun x => x.val != 0) = true := List.any_eq_true.2 ⟨l[k], List.getElem_mem hlt, by simpa using HV.out⟩
        simp [this]
    · have hltz : ¬ (k : Int) < (l.length : Int) := by omega
      have HA : Hid ((!l.any (fun x => x.val != 0)) = true) := by
        show _ = _
        have h1 : l.any (fun x => x.val != 0) = false := by
          rw [List.any_eq_false]
          intro x hx
          have := A.out x (by rw [List.take_of_length_le (by omega)]; exact hx)
          simp [this]
        simp [h1]
      clear hlt
      go_wp2
      go_ret
      exact ⟨ret_bool HA.out.symm, Below.refl _ _⟩

/-- The two variables of an operation of the reference on a blackboard. -/
structure V24 (w W : World) (a b c : Value) : Prop where
  arg : W.heap[w.heap.size]? = some (.cells #[a, b, c] 155 (0, 0))
  res : W.heap[w.heap.size + 1]? = some (.cells #[.bool false, .int .u8 0, .slice none 0 0] 155 (0, 0))
  bel : Below w.heap.size w W
def fin24 (w W : World) (x y z : Value) : World := ((W.setCell ⟨w.heap.size + 1, 0, none⟩ x).setCell ⟨w.heap.size + 1, 1, none⟩ y).setCell ⟨w.heap.size + 1, 2, none⟩ z
section
variable {w W W' : World} {a b c : Value}
theorem V24.start (h : W = (w.alloc (.cells #[a, b, c] 155)).alloc (.cells #[.bool false, .int .u8 0, .slice none 0 0] 155)) : V24 w W a b c := by
  subst h
  refine ⟨(Below.heap_alloc _ _ _ (by simp)).trans (heap_alloc_new w _), ?_, ((Below.refl _ w).alloc (Nat.le_refl _) _).alloc (by simp) _⟩
  have := heap_alloc_new (w.alloc (.cells #[a, b, c] 155)) (.cells #[.bool false, .int .u8 0, .slice none 0 0] 155)
  simpa using this
theorem V24.next (h : V24 w W a b c) (hb : Below W.heap.size W W') : V24 w W' a b c :=
  ⟨(hb.block _ (blk_lt h.arg)).trans h.arg, (hb.block _ (blk_lt h.res)).trans h.res, h.bel.trans (hb.mono h.bel.size)⟩
theorem V24.fin (h : V24 w W a b c) (x y z : Value) : Below w.heap.size w (fin24 w W x y z) :=
  ((h.bel.setCell (p := ⟨w.heap.size + 1, 0, none⟩) (Nat.le_succ _) x).setCell (p := ⟨w.heap.size + 1, 1, none⟩) (Nat.le_succ _) y).setCell (p := ⟨w.heap.size + 1, 2, none⟩) (Nat.le_succ _) z
theorem V24.finD (h : V24 w W a b c) (x y z : Value) : Below w.heap.size w (fin24 w W.drew x y z) := by
  have := h.fin x y z
  exact ⟨this.os, this.tape, this.output, this.size, this.block⟩
theorem V24.ownFin {B : Nat} {u : Value} {l : List Wt} (h : FrW W B u l) (hB : w.heap.size + 1 < B) (x y z : Value) : RdW (fin24 w W x y z) 0 u l := (((h.low hB).low hB).low hB).rd
theorem V24.grown {B : Nat} {row : Option Nat} (h : V24 w W a b c) (hg : W.grownBy W' row) (hB : w.heap.size + 1 < B) (hr : ∀ g, row = some g → B ≤ g) : V24 w W' a b c := by
  refine ⟨(hg.block _ (blk_lt h.arg) (fun e => ?_)).trans h.arg, (hg.block _ (blk_lt h.res) (fun e => ?_)).trans h.res, ⟨hg.os.trans h.bel.os, hg.tape.trans h.bel.tape, hg.output.trans h.bel.output, Nat.le_trans h.bel.size hg.size, fun k hk => ?_⟩⟩
  · have := hr _ e.symm; omega
  · have := hr _ e.symm; omega
  · exact (hg.block k (Nat.lt_of_lt_of_le hk h.bel.size) (fun e => by have := hr _ e.symm; omega)).trans (h.bel.block k hk)
end
def Rb1 (w : World) (h : Bool) (x : Int) (l : List Wt) (y : Value) (e : Ending) (w' : World) : Prop := ∃ v, e = .returned (.tuple #[.agg #[.bool h, .int .u8 x, v], y]) ∧ RdW w' 0 v l ∧ Below w.heap.size w w'
def Rb3 (w : World) (h : Bool) (x : Int) (l : List Wt) (y1 y2 y3 : Value) (e : Ending) (w' : World) : Prop := ∃ v, e = .returned (.tuple #[.agg #[.bool h, .int .u8 x, v], y1, y2, y3]) ∧ RdW w' 0 v l ∧ Below w.heap.size w w'
def RbI (w : World) (h : Bool) (x : Int) (l : List Wt) (m : List Int) (y : Value) (e : Ending) (w' : World) : Prop := ∃ v u, e = .returned (.tuple #[.agg #[.bool h, .int .u8 x, v], u, y]) ∧ RdW w' 0 v l ∧ RdI .i64 w' 0 u m ∧ Below w.heap.size w w'

set_option maxHeartbeats 2000000 in
theorem validBd24_c (h : Bool) (x : Int) (v : Value) (l : List Wt) (w : World) (hr : RdW w 0 v l) (hl : l.length ≤ 90000) :
    Calls Try.prog 89 #[.agg #[.bool h, .int .u8 x, v]] w fun e w' => e = .returned (.bool (vldBd h x l)) ∧ Below w.heap.size w w' := by
  obtain ⟨W0, hW0⟩ : ∃ W0, W0 = w.alloc (.cells #[.bool h, .int .u8 x, v] 155) := ⟨_, rfl⟩
  have hb0 : Below w.heap.size w W0 := by subst hW0; exact (Below.refl _ w).alloc (Nat.le_refl _) _
  have hblk : W0.heap[w.heap.size]? = some (.cells #[.bool h, .int .u8 x, v] 155 (0, 0)) := by subst hW0; exact heap_alloc_new w _
  have HR := Lib.hid hr
  obtain ⟨ao, ca, rfl, hca, hna, pa⟩ := hr.open_
  have HBLK := Lib.hid hblk
  have HB0 := Lib.hid hb0
  have HW0 := Lib.hid hW0
  clear hr pa hca hna hb0 hW0 hblk
  have hlen : ((l.length : Int) == 0) = (l.length == 0) := by rw [Bool.eq_iff_iff]; simp
  have HLEN := Lib.hid hlen
  clear hlen
  cases ho : decide (OrdW l) with
  | false =>
    rw [show vldBd h x l = false by simp [vldBd, ho]]
    have HO := Lib.hid ho
    clear ho
    go_enter Try.func89, Try.ntmps89
    go_wp2_with fail
    rw [← HW0.out]
    have hv := refOrdered_c _ l W0 (HR.out.below HB0.out) hl
    rw [HO.out] at hv
    refine hv.mono ?_
    clear hv
    rintro e w1 ⟨rfl, b1⟩
    have HBE := Lib.hid (HB0.out.trans (b1.mono HB0.out.size))
    clear b1 HW0
    go_wp2_with fail
    go_ret
    exact ⟨ret_bool rfl, HBE.out⟩
  | true =>
    have HO := Lib.hid ho
    cases hb : (!l.any (fun y => y.val != 0)) with
    | false =>
      rw [show vldBd h x l = false by simp only [vldBd, hb]; simp]
      have HB := Lib.hid hb
      clear ho hb
      go_enter Try.func89, Try.ntmps89
      go_wp2_with fail
      rw [← HW0.out]
      have hv := refOrdered_c _ l W0 (HR.out.below HB0.out) hl
      rw [HO.out] at hv
      refine hv.mono ?_
      clear hv
      rintro e w1 ⟨rfl, b1⟩
      have hbk1 := (b1.block _ (blk_lt HBLK.out)).trans HBLK.out
      obtain ⟨x0, x1, x2, _, _, _⟩ := threeBlk hbk1
      have xs : w.heap.size < w1.heap.size := blk_lt hbk1
      have HBK1 := Lib.hid hbk1
      have HB1 := Lib.hid (HB0.out.trans (b1.mono HB0.out.size))
      clear b1 HW0 hbk1
      go_wp2_with fail
      have hv := bare24_c _ l w1 (HR.out.below HB1.out) hl
      rw [HB.out] at hv
      refine hv.mono ?_
      clear hv
      rintro e w2 ⟨rfl, b2⟩
      clear x0 x1 x2
      obtain ⟨x0, x1, x2, _, _, _⟩ := threeBlk ((b2.block _ xs).trans HBK1.out)
      have xs2 : w.heap.size < w2.heap.size := Nat.lt_of_lt_of_le xs b2.size
      have HBE := Lib.hid (HB1.out.trans (b2.mono HB1.out.size))
      clear b2
      go_wp2_with fail
      go_ret
      exact ⟨ret_bool rfl, HBE.out⟩
    | true =>
      cases h with
      | true =>
        rw [show vldBd true x l = (l.length == 0) by simp only [vldBd, hb, ho]; simp]
        have HB := Lib.hid hb
        clear ho hb
        go_enter Try.func89, Try.ntmps89
        go_wp2_with fail
        rw [← HW0.out]
        have hv := refOrdered_c _ l W0 (HR.out.below HB0.out) hl
        rw [HO.out] at hv
        refine hv.mono ?_
        clear hv
        rintro e w1 ⟨rfl, b1⟩
        have hbk1 := (b1.block _ (blk_lt HBLK.out)).trans HBLK.out
        obtain ⟨x0, x1, x2, _, _, _⟩ := threeBlk hbk1
        have xs : w.heap.size < w1.heap.size := blk_lt hbk1
        have HBK1 := Lib.hid hbk1
        have HB1 := Lib.hid (HB0.out.trans (b1.mono HB0.out.size))
        clear b1 HW0 hbk1
        go_wp2_with fail
        have hv := bare24_c _ l w1 (HR.out.below HB1.out) hl
        rw [HB.out] at hv
        refine hv.mono ?_
        clear hv
        rintro e w2 ⟨rfl, b2⟩
        clear x0 x1 x2
        obtain ⟨x0, x1, x2, _, _, _⟩ := threeBlk ((b2.block _ xs).trans HBK1.out)
        have xs2 : w.heap.size < w2.heap.size := Nat.lt_of_lt_of_le xs b2.size
        have HBE := Lib.hid (HB1.out.trans (b2.mono HB1.out.size))
        clear b2
        go_wp2_with fail
        go_ret
        exact ⟨ret_bool HLEN.out, HBE.out⟩
      | false =>
        rw [show vldBd false x l = (x == 0) by simp only [vldBd, hb, ho]; simp]
        have HB := Lib.hid hb
        clear ho hb
        go_enter Try.func89, Try.ntmps89
        go_wp2_with fail
        rw [← HW0.out]
        have hv := refOrdered_c _ l W0 (HR.out.below HB0.out) hl
        rw [HO.out] at hv
        refine hv.mono ?_
        clear hv
        rintro e w1 ⟨rfl, b1⟩
        have hbk1 := (b1.block _ (blk_lt HBLK.out)).trans HBLK.out
        obtain ⟨x0, x1, x2, _, _, _⟩ := threeBlk hbk1
        have xs : w.heap.size < w1.heap.size := blk_lt hbk1
        have HBK1 := Lib.hid hbk1
        have HB1 := Lib.hid (HB0.out.trans (b1.mono HB0.out.size))
        clear b1 HW0 hbk1
        go_wp2_with fail
        have hv := bare24_c _ l w1 (HR.out.below HB1.out) hl
        rw [HB.out] at hv
        refine hv.mono ?_
        clear hv
        rintro e w2 ⟨rfl, b2⟩
        clear x0 x1 x2
        obtain ⟨x0, x1, x2, _, _, _⟩ := threeBlk ((b2.block _ xs).trans HBK1.out)
        have xs2 : w.heap.size < w2.heap.size := Nat.lt_of_lt_of_le xs b2.size
        have HBE := Lib.hid (HB1.out.trans (b2.mono HB1.out.size))
        clear b2
        go_wp2_with fail
        go_ret
        exact ⟨ret_bool rfl, HBE.out⟩

set_option maxHeartbeats 2000000 in
set_option maxRecDepth 100000 in
theorem clear24_c (h : Bool) (x : Int) (v : Value) (l : List Wt) (w : World) (hr : RdW w 0 v l) (hl : l.length ≤ 90000) :
    Calls Try.prog 85 #[.agg #[.bool h, .int .u8 x, v]] w (Rb1 w (clearBd h x l).1 (clearBd h x l).2.1 l (.int .i64 (clearBd h x l).2.2)) := by
  obtain ⟨ao, ca, rfl, hca, hna, pa⟩ := hr.open_
  have HR := Lib.hid hr
  obtain ⟨W0, hW0⟩ : ∃ W0, W0 = (w.alloc (.cells #[.bool h, .int .u8 x, .slice ao l.length ca] 155)).alloc (.cells #[.bool false, .int .u8 0, .slice none 0 0] 155) := ⟨_, rfl⟩
  have V0 := Lib.hid (V24.start hW0)
  have HW0 := Lib.hid hW0
  clear hr pa hca hna hW0
  have hway : (vldBd h x l = false ∧ clearBd h x l = (h, x, 2)) ∨ (vldBd h x l = true ∧ clearBd h x l = (false, 0, 0)) := by
    unfold clearBd
    cases vldBd h x l <;> simp
  rcases hway with ⟨k1, k2⟩ | ⟨k1, k2⟩
  · rw [k2]
    clear k2
    have K1 := Lib.hid k1
    clear k1
    go_enter Try.func85, Try.ntmps85
    go_wp2_with fail
    rw [← HW0.out]
    have hv := validBd24_c h x _ l W0 (HR.out.below V0.out.bel) hl
    rw [K1.out] at hv
    refine hv.mono ?_
    clear hv
    rintro e w1 ⟨rfl, b1⟩
    have V1 := Lib.hid (V0.out.next b1)
    clear b1 V0 HW0
    obtain ⟨g0, g1, g2, _, _, _⟩ := threeBlk V1.out.arg
    obtain ⟨r0, r1, r2, r3, r4, r5⟩ := threeBlk V1.out.res
    have hgs1 := blk_lt V1.out.arg
    have hrs1 := blk_lt V1.out.res
    go_wp2_with fail
    refine bodyPost_ret (v := .tuple #[.agg #[.bool h, .int .u8 x, .slice ao l.length ca], .int .i64 2]) (by simp [results, Try.results85, go_sem, r0, r1, r2]) rfl ?_
    exact ⟨_, rfl, HR.out.below (V1.out.fin _ _ _), V1.out.fin _ _ _⟩
  · rw [k2]
    clear k2
    have K1 := Lib.hid k1
    clear k1
    go_enter Try.func85, Try.ntmps85
    go_wp2_with fail
    rw [← HW0.out]
    have hv := validBd24_c h x _ l W0 (HR.out.below V0.out.bel) hl
    rw [K1.out] at hv
    refine hv.mono ?_
    clear hv
    rintro e w1 ⟨rfl, b1⟩
    have V1 := Lib.hid (V0.out.next b1)
    clear b1 V0 HW0
    obtain ⟨g0, g1, g2, _, _, _⟩ := threeBlk V1.out.arg
    obtain ⟨r0, r1, r2, r3, r4, r5⟩ := threeBlk V1.out.res
    have hgs1 := blk_lt V1.out.arg
    have hrs1 := blk_lt V1.out.res
    go_wp2_with fail
    refine bodyPost_ret (v := .tuple #[.agg #[.bool false, .int .u8 0, .slice ao l.length ca], .int .i64 0]) (by simp [results, Try.results85, go_sem, r0, r1, r2]) rfl ?_
    exact ⟨_, rfl, HR.out.below (V1.out.fin _ _ _), V1.out.fin _ _ _⟩

set_option maxHeartbeats 2000000 in
set_option maxRecDepth 100000 in
theorem canc24_c (h : Bool) (x : Int) (p : Int) (v : Value) (l : List Wt) (w : World) (hr : RdW w 0 v l) (hl : l.length ≤ 90000) :
    Calls Try.prog 87 #[.agg #[.bool h, .int .u8 x, v], .int .i64 p] w (Rb1 w h x (cancBd h x l p).1 (.int .i64 (cancBd h x l p).2)) := by
  obtain ⟨ao, ca, rfl, hca, hna, pa⟩ := hr.open_
  have HR := Lib.hid hr
  obtain ⟨W0, hW0⟩ : ∃ W0, W0 = (w.alloc (.cells #[.bool h, .int .u8 x, .slice ao l.length ca] 155)).alloc (.cells #[.bool false, .int .u8 0, .slice none 0 0] 155) := ⟨_, rfl⟩
  have V0 := Lib.hid (V24.start hW0)
  have HW0 := Lib.hid hW0
  clear hr pa hca hna hW0
  have hway : (vldBd h x l = false ∧ cancBd h x l p = (l, 2)) ∨ (vldBd h x l = true ∧ cancBd h x l p = (leaveW l p, 0)) := by
    unfold cancBd
    cases vldBd h x l <;> simp
  rcases hway with ⟨k1, k2⟩ | ⟨k1, k2⟩
  · rw [k2]
    clear k2
    have K1 := Lib.hid k1
    clear k1
    go_enter Try.func87, Try.ntmps87
    go_wp2_with fail
    rw [← HW0.out]
    have hv := validBd24_c h x _ l W0 (HR.out.below V0.out.bel) hl
    rw [K1.out] at hv
    refine hv.mono ?_
    clear hv
    rintro e w1 ⟨rfl, b1⟩
    have V1 := Lib.hid (V0.out.next b1)
    clear b1 V0 HW0
    obtain ⟨g0, g1, g2, _, _, _⟩ := threeBlk V1.out.arg
    obtain ⟨r0, r1, r2, r3, r4, r5⟩ := threeBlk V1.out.res
    have hgs1 := blk_lt V1.out.arg
    have hrs1 := blk_lt V1.out.res
    go_wp2_with fail
    refine bodyPost_ret (v := .tuple #[.agg #[.bool h, .int .u8 x, .slice ao l.length ca], .int .i64 2]) (by simp [results, Try.results87, go_sem, r0, r1, r2]) rfl ?_
    exact ⟨_, rfl, HR.out.below (V1.out.fin _ _ _), V1.out.fin _ _ _⟩
  · rw [k2]
    clear k2
    have K1 := Lib.hid k1
    clear k1
    go_enter Try.func87, Try.ntmps87
    go_wp2_with fail
    rw [← HW0.out]
    have hv := validBd24_c h x _ l W0 (HR.out.below V0.out.bel) hl
    rw [K1.out] at hv
    refine hv.mono ?_
    clear hv
    rintro e w1 ⟨rfl, b1⟩
    have V1 := Lib.hid (V0.out.next b1)
    clear b1 V0 HW0
    obtain ⟨g0, g1, g2, _, _, _⟩ := threeBlk V1.out.arg
    obtain ⟨r0, r1, r2, r3, r4, r5⟩ := threeBlk V1.out.res
    have hgs1 := blk_lt V1.out.arg
    have hrs1 := blk_lt V1.out.res
    have RL := Lib.hid (HR.out.below V1.out.bel)
    go_wp2_with fail
    go_region_with (go_at_call 43; refine (refLeave_c _ l p _ (by exact RL.out) hl).mono ?_; rintro e w2 ⟨v2, rfl, ho2, b2⟩; replace b2 : Below w1.heap.size w1 w2 := (by first | exact b2 | exact below_un b2); replace ho2 : w2.ownsRow w1.heap.size 56 3 v2 (leaveW l p).length (cellsW (leaveW l p)) := ho2; obtain ⟨a2, c2, rfl⟩ := own_slice ho2; have V2 := Lib.hid (V1.out.next b2); have FO := Lib.hid (fun x y z => V24.ownFin (w := w) (FrW.of_own ho2) hrs1 x y z); obtain ⟨s0, s1, s2, _, _, _⟩ := threeBlk V2.out.arg; obtain ⟨t0, t1, t2, t3, t4, t5⟩ := threeBlk V2.out.res; have hss := blk_lt V2.out.arg; have hts := blk_lt V2.out.res; clear b2 ho2)
    all_goals
      go_wp2_with fail
      refine bodyPost_ret (v := .tuple #[.agg #[.bool h, .int .u8 x, .slice a2 (leaveW l p).length c2], .int .i64 0]) (by simp [results, Try.results87, go_sem, t0, t1, t2]) rfl ?_
      exact ⟨_, rfl, FO.out _ _ _, V2.out.fin _ _ _⟩

set_option maxHeartbeats 2000000 in
set_option maxRecDepth 100000 in
theorem look24_c (h : Bool) (x : Int) (p r : Int) (v : Value) (l : List Wt) (w : World) (hr : RdW w 0 v l) (hl : l.length ≤ 90000) :
    Calls Try.prog 84 #[.agg #[.bool h, .int .u8 x, v], .int .i64 p, .int .i64 r] w (Rb3 w h x (lookBd h x l p r).1 (.int .u8 (lookBd h x l p r).2.1) (.bool (lookBd h x l p r).2.2.1) (.int .i64 (lookBd h x l p r).2.2.2)) := by
  obtain ⟨ao, ca, rfl, hca, hna, pa⟩ := hr.open_
  have HR := Lib.hid hr
  obtain ⟨W0, hW0⟩ : ∃ W0, W0 = (w.alloc (.cells #[.bool h, .int .u8 x, .slice ao l.length ca] 155)).alloc (.cells #[.bool false, .int .u8 0, .slice none 0 0] 155) := ⟨_, rfl⟩
  have V0 := Lib.hid (V24.start hW0)
  have HW0 := Lib.hid hW0
  clear hr pa hca hna hW0
  have hway : (vldBd h x l = false ∧ lookBd h x l p r = (l, 0, false, 2)) ∨ (vldBd h x l = true ∧ p < 0 ∧ lookBd h x l p r = (l, 0, false, 2)) ∨ (vldBd h x l = true ∧ 0 ≤ p ∧ l.any (fun x => decide (x.proc = p)) = true ∧ lookBd h x l p r = (l, 0, false, 2)) ∨
      (vldBd h x l = true ∧ 0 ≤ p ∧ l.any (fun x => decide (x.proc = p)) = false ∧ h = true ∧ lookBd h x l p r = (l, x, true, 0)) ∨ (vldBd h x l = true ∧ 0 ≤ p ∧ l.any (fun x => decide (x.proc = p)) = false ∧ h = false ∧ x = 0 ∧ lookBd h x l p r = (enterW l ⟨p, r, 0⟩, 0, false, 0)) := by
    cases h1 : vldBd h x l
    · simp [lookBd, h1]
    · by_cases hp : 0 ≤ p
      · cases ha : l.any (fun x => decide (x.proc = p))
        · have hm : mayL l p = true := by unfold mayL; simp only [ha]; simp [hp]
          cases h
          · have hx : x = 0 := by simp [vldBd] at h1; exact h1.2
            exact .inr (.inr (.inr (.inr ⟨rfl, hp, rfl, rfl, hx, by simp [lookBd, h1, hm]⟩)))
          · exact .inr (.inr (.inr (.inl ⟨rfl, hp, rfl, rfl, by simp [lookBd, h1, hm]⟩)))
        · have hm : mayL l p = false := by unfold mayL; simp only [ha]; simp
          exact .inr (.inr (.inl ⟨rfl, hp, rfl, by simp [lookBd, h1, hm]⟩))
      · have hm : mayL l p = false := by unfold mayL; simp [hp]
        exact .inr (.inl ⟨rfl, by omega, by simp [lookBd, h1, hm]⟩)
  rcases hway with ⟨k1, k2⟩ | ⟨k1, kp, k2⟩ | ⟨k1, kp, ka, k2⟩ | ⟨k1, kp, ka, rfl, k2⟩ | ⟨k1, kp, ka, rfl, rfl, k2⟩
  · rw [k2]
    clear k2
    have K1 := Lib.hid k1
    clear k1
    go_enter Try.func84, Try.ntmps84
    go_wp2_with fail
    rw [← HW0.out]
    have hv := validBd24_c h x _ l W0 (HR.out.below V0.out.bel) hl
    rw [K1.out] at hv
    refine hv.mono ?_
    clear hv
    rintro e w1 ⟨rfl, b1⟩
    have V1 := Lib.hid (V0.out.next b1)
    clear b1 V0 HW0
    obtain ⟨g0, g1, g2, _, _, _⟩ := threeBlk V1.out.arg
    obtain ⟨r0, r1, r2, r3, r4, r5⟩ := threeBlk V1.out.res
    have hgs1 := blk_lt V1.out.arg
    have hrs1 := blk_lt V1.out.res
    go_wp2_with fail
    refine bodyPost_ret (v := .tuple #[.agg #[.bool h, .int .u8 x, .slice ao l.length ca], .int .u8 0, .bool false, .int .i64 2]) (by simp [results, Try.results84, go_sem, r0, r1, r2]) rfl ?_
    exact ⟨_, rfl, HR.out.below (V1.out.fin _ _ _), V1.out.fin _ _ _⟩
  · rw [k2]
    clear k2
    have K1 := Lib.hid k1
    clear k1
    go_enter Try.func84, Try.ntmps84
    go_wp2_with fail
    rw [← HW0.out]
    have hv := validBd24_c h x _ l W0 (HR.out.below V0.out.bel) hl
    rw [K1.out] at hv
    refine hv.mono ?_
    clear hv
    rintro e w1 ⟨rfl, b1⟩
    have V1 := Lib.hid (V0.out.next b1)
    clear b1 V0 HW0
    obtain ⟨g0, g1, g2, _, _, _⟩ := threeBlk V1.out.arg
    obtain ⟨r0, r1, r2, r3, r4, r5⟩ := threeBlk V1.out.res
    have hgs1 := blk_lt V1.out.arg
    have hrs1 := blk_lt V1.out.res
    go_wp2_with fail
    refine bodyPost_ret (v := .tuple #[.agg #[.bool h, .int .u8 x, .slice ao l.length ca], .int .u8 0, .bool false, .int .i64 2]) (by simp [results, Try.results84, go_sem, r0, r1, r2]) rfl ?_
    exact ⟨_, rfl, HR.out.below (V1.out.fin _ _ _), V1.out.fin _ _ _⟩
  · rw [k2]
    clear k2
    have K1 := Lib.hid k1
    clear k1
    have KA := Lib.hid ka
    clear ka
    have hp0 : ¬ (p < 0) := by omega
    clear kp
    go_enter Try.func84, Try.ntmps84
    go_wp2_with fail
    rw [← HW0.out]
    have hv := validBd24_c h x _ l W0 (HR.out.below V0.out.bel) hl
    rw [K1.out] at hv
    refine hv.mono ?_
    clear hv
    rintro e w1 ⟨rfl, b1⟩
    have V1 := Lib.hid (V0.out.next b1)
    clear b1 V0 HW0
    obtain ⟨g0, g1, g2, _, _, _⟩ := threeBlk V1.out.arg
    obtain ⟨r0, r1, r2, r3, r4, r5⟩ := threeBlk V1.out.res
    have hgs1 := blk_lt V1.out.arg
    have hrs1 := blk_lt V1.out.res
    go_wp2_with fail
    have hv := refHas_c _ l p w1 (HR.out.below V1.out.bel) hl
    rw [KA.out] at hv
    refine hv.mono ?_
    clear hv
    rintro e w2 ⟨rfl, b2⟩
    have V2 := Lib.hid (V1.out.next b2)
    clear b2 V1 g0 g1 g2 r0 r1 r2 r3 r4 r5 hgs1 hrs1
    obtain ⟨g0, g1, g2, _, _, _⟩ := threeBlk V2.out.arg
    obtain ⟨r0, r1, r2, r3, r4, r5⟩ := threeBlk V2.out.res
    have hgs2 := blk_lt V2.out.arg
    have hrs2 := blk_lt V2.out.res
    go_wp2_with fail
    refine bodyPost_ret (v := .tuple #[.agg #[.bool h, .int .u8 x, .slice ao l.length ca], .int .u8 0, .bool false, .int .i64 2]) (by simp [results, Try.results84, go_sem, r0, r1, r2]) rfl ?_
    exact ⟨_, rfl, HR.out.below (V2.out.fin _ _ _), V2.out.fin _ _ _⟩
  · rw [k2]
    clear k2
    have K1 := Lib.hid k1
    clear k1
    have KA := Lib.hid ka
    clear ka
    have hp0 : ¬ (p < 0) := by omega
    clear kp
    go_enter Try.func84, Try.ntmps84
    go_wp2_with fail
    rw [← HW0.out]
    have hv := validBd24_c true x _ l W0 (HR.out.below V0.out.bel) hl
    rw [K1.out] at hv
    refine hv.mono ?_
    clear hv
    rintro e w1 ⟨rfl, b1⟩
    have V1 := Lib.hid (V0.out.next b1)
    clear b1 V0 HW0
    obtain ⟨g0, g1, g2, _, _, _⟩ := threeBlk V1.out.arg
    obtain ⟨r0, r1, r2, r3, r4, r5⟩ := threeBlk V1.out.res
    have hgs1 := blk_lt V1.out.arg
    have hrs1 := blk_lt V1.out.res
    go_wp2_with fail
    have hv := refHas_c _ l p w1 (HR.out.below V1.out.bel) hl
    rw [KA.out] at hv
    refine hv.mono ?_
    clear hv
    rintro e w2 ⟨rfl, b2⟩
    have V2 := Lib.hid (V1.out.next b2)
    clear b2 V1 g0 g1 g2 r0 r1 r2 r3 r4 r5 hgs1 hrs1
    obtain ⟨g0, g1, g2, _, _, _⟩ := threeBlk V2.out.arg
    obtain ⟨r0, r1, r2, r3, r4, r5⟩ := threeBlk V2.out.res
    have hgs2 := blk_lt V2.out.arg
    have hrs2 := blk_lt V2.out.res
    go_wp2_with fail
    go_region
    go_wp2_with fail
    refine bodyPost_ret (v := .tuple #[.agg #[.bool true, .int .u8 x, .slice ao l.length ca], .int .u8 x, .bool true, .int .i64 0]) (by simp [results, Try.results84, go_sem, r0, r1, r2]) rfl ?_
    exact ⟨_, rfl, HR.out.below (V2.out.finD _ _ _), V2.out.finD _ _ _⟩
  · rw [k2]
    clear k2
    have K1 := Lib.hid k1
    clear k1
    have KA := Lib.hid ka
    clear ka
    have hp0 : ¬ (p < 0) := by omega
    clear kp
    go_enter Try.func84, Try.ntmps84
    go_wp2_with fail
    rw [← HW0.out]
    have hv := validBd24_c false 0 _ l W0 (HR.out.below V0.out.bel) hl
    rw [K1.out] at hv
    refine hv.mono ?_
    clear hv
    rintro e w1 ⟨rfl, b1⟩
    have V1 := Lib.hid (V0.out.next b1)
    clear b1 V0 HW0
    obtain ⟨g0, g1, g2, _, _, _⟩ := threeBlk V1.out.arg
    obtain ⟨r0, r1, r2, r3, r4, r5⟩ := threeBlk V1.out.res
    have hgs1 := blk_lt V1.out.arg
    have hrs1 := blk_lt V1.out.res
    go_wp2_with fail
    have hv := refHas_c _ l p w1 (HR.out.below V1.out.bel) hl
    rw [KA.out] at hv
    refine hv.mono ?_
    clear hv
    rintro e w2 ⟨rfl, b2⟩
    have V2 := Lib.hid (V1.out.next b2)
    clear b2 V1 g0 g1 g2 r0 r1 r2 r3 r4 r5 hgs1 hrs1
    obtain ⟨g0, g1, g2, _, _, _⟩ := threeBlk V2.out.arg
    obtain ⟨r0, r1, r2, r3, r4, r5⟩ := threeBlk V2.out.res
    have hgs2 := blk_lt V2.out.arg
    have hrs2 := blk_lt V2.out.res
    go_wp2_with fail
    refine (refEnter_c _ l ⟨p, r, 0⟩ w2 (HR.out.below V2.out.bel) hl).mono ?_
    rintro e w3 ⟨v3, rfl, ho3, b3⟩
    obtain ⟨a3, c3, rfl⟩ := own_slice ho3
    have V3 := Lib.hid (V2.out.next b3)
    have FO := Lib.hid (fun x y z => V24.ownFin (w := w) (FrW.of_own ho3) hrs2 x y z)
    clear b3 ho3 V2 g0 g1 g2 r0 r1 r2 r3 r4 r5 hgs2
    obtain ⟨g0, g1, g2, _, _, _⟩ := threeBlk V3.out.arg
    obtain ⟨r0, r1, r2, r3, r4, r5⟩ := threeBlk V3.out.res
    have hgs3 := blk_lt V3.out.arg
    have hrs3 := blk_lt V3.out.res
    generalize (enterW l ⟨p, r, 0⟩).length = m3 at FO ⊢
    go_wp2_with fail
    refine bodyPost_ret (v := .tuple #[.agg #[.bool false, .int .u8 0, .slice a3 m3 c3], .int .u8 0, .bool false, .int .i64 0]) (by simp [results, Try.results84, go_sem, r0, r1, r2]) rfl ?_
    exact ⟨_, rfl, FO.out _ _ _, V3.out.fin _ _ _⟩

set_option maxHeartbeats 2000000 in
set_option maxRecDepth 100000 in
theorem show24_c (h : Bool) (x : Int) (y : Int) (v : Value) (l : List Wt) (w : World) (hr : RdW w 0 v l) (hl : l.length ≤ 90000) :
    Calls Try.prog 83 #[.agg #[.bool h, .int .u8 x, v], .int .u8 y] w (RbI w (showBd h x l y).1 (showBd h x l y).2.1 (showBd h x l y).2.2.1 (showBd h x l y).2.2.2.1 (.int .i64 (showBd h x l y).2.2.2.2)) := by
  obtain ⟨ao, ca, rfl, hca, hna, pa⟩ := hr.open_
  have HR := Lib.hid hr
  obtain ⟨W0, hW0⟩ : ∃ W0, W0 = (w.alloc (.cells #[.bool h, .int .u8 x, .slice ao l.length ca] 155)).alloc (.cells #[.bool false, .int .u8 0, .slice none 0 0] 155) := ⟨_, rfl⟩
  have V0 := Lib.hid (V24.start hW0)
  have HW0 := Lib.hid hW0
  clear hr pa hca hna hW0
  have hway : (vldBd h x l = false ∧ showBd h x l y = (h, x, l, [], 2)) ∨ (vldBd h x l = true ∧ showBd h x l y = (true, y, [], l.map (·.proc), 0)) := by
    unfold showBd
    cases vldBd h x l <;> simp
  rcases hway with ⟨k1, k2⟩ | ⟨k1, k2⟩
  · rw [k2]
    clear k2
    have K1 := Lib.hid k1
    clear k1
    go_enter Try.func83, Try.ntmps83
    go_wp2_with fail
    rw [← HW0.out]
    have hv := validBd24_c h x _ l W0 (HR.out.below V0.out.bel) hl
    rw [K1.out] at hv
    refine hv.mono ?_
    clear hv
    rintro e w1 ⟨rfl, b1⟩
    have V1 := Lib.hid (V0.out.next b1)
    clear b1 V0 HW0
    obtain ⟨g0, g1, g2, _, _, _⟩ := threeBlk V1.out.arg
    obtain ⟨r0, r1, r2, r3, r4, r5⟩ := threeBlk V1.out.res
    have hgs1 := blk_lt V1.out.arg
    have hrs1 := blk_lt V1.out.res
    go_wp2_with fail
    refine bodyPost_ret (v := .tuple #[.agg #[.bool h, .int .u8 x, .slice ao l.length ca], .slice none 0 0, .int .i64 2]) (by simp [results, Try.results83, go_sem, r0, r1, r2]) rfl ?_
    exact ⟨_, _, rfl, HR.out.below (V1.out.fin _ _ _), RdI.nil _ _ _, V1.out.fin _ _ _⟩
  · rw [k2]
    clear k2
    have K1 := Lib.hid k1
    clear k1
    go_enter Try.func83, Try.ntmps83
    go_wp2_with fail
    rw [← HW0.out]
    have hv := validBd24_c h x _ l W0 (HR.out.below V0.out.bel) hl
    rw [K1.out] at hv
    refine hv.mono ?_
    clear hv
    rintro e w1 ⟨rfl, b1⟩
    have V1 := Lib.hid (V0.out.next b1)
    clear b1 V0 HW0
    obtain ⟨g0, g1, g2, _, _, _⟩ := threeBlk V1.out.arg
    obtain ⟨r0, r1, r2, r3, r4, r5⟩ := threeBlk V1.out.res
    have hgs1 := blk_lt V1.out.arg
    have hrs1 := blk_lt V1.out.res
    obtain ⟨i0, hi, hz0, hz1, hz2⟩ := info_parts info_I
    obtain ⟨ao', ca', hvv, _, _, hpa⟩ := HR.out.open_
    simp only [Value.slice.injEq] at hvv
    obtain ⟨h1, _, h3⟩ := hvv
    subst h1 h3
    have HPA := Lib.hid hpa
    clear hpa
    go_wp2_with fail
    go_loopg [7, 8] l.length (fun gg s5 s6 wr => ∃ k : Nat, k ≤ l.length ∧ l.length - k ≤ gg ∧ s6 = .int .i64 k ∧ Aside (V24 w wr (.bool h) (.int .u8 x) (.slice ao l.length ca) ∧ w1.heap.size ≤ wr.heap.size ∧ OwnI wr w1.heap.size s5 ((l.take k).map (·.proc))))
    case atStart => exact ⟨0, Nat.zero_le _, by omega, rfl, V1.out, Nat.le_refl _, World.ownsRow_nil _ _ _ _⟩
    case round =>
      obtain ⟨k, hk, hg, rfl, A⟩ := hrel
      have V2 := Lib.hid A.out.1
      have hw1 : w1.heap.size ≤ wr.heap.size := A.out.2.1
      have HI := Lib.hid A.out.2.2
      clear A V1 g0 g1 g2 r0 r1 r2 r3 r4 r5 hgs1
      obtain ⟨g0, g1, g2, _, _, _⟩ := threeBlk V2.out.arg
      obtain ⟨r0, r1, r2, r3, r4, r5⟩ := threeBlk V2.out.res
      have hgs2 := blk_lt V2.out.arg
      have hrs2 := blk_lt V2.out.res
      obtain ⟨a5, c5, rfl⟩ := own_slice HI.out
      have hlen : ((l.take k).map (·.proc)).length = k := by simp; omega
      have hown := HI.out
      unfold OwnI at hown
      rw [hlen] at hown
      have HO := Lib.hid hown
      have HLN := Lib.hid hlen
      rw [hlen]
      clear hown hlen
      by_cases hlt : k < l.length
      · have hltz : (k : Int) < (l.length : Int) := by omega
        obtain ⟨b, off, hao, _, hbs, ca'⟩ := HPA.out (by omega)
        obtain ⟨y0, _, _⟩ := ca' k hlt
        rw [← V2.out.bel.cell (p := ⟨b, _, none⟩) hbs] at y0
        have hbr : b < wr.heap.size := Nat.lt_of_lt_of_le hbs V2.out.bel.size
        clear ca'
        subst hao
        go_wp2_with (at_builtin; refine wpList_append_own _ rfl _ _ 78 rfl w1.heap.size 3 i0 (.int .i64 0) 1 8 Try.underlying78 hi hz0 hz1 hz2 rfl (by decide) _ _ _ rfl (HO.out.alloc _) ⟨wr.heap.size, 0, none⟩ 1 1 [.int .i64 l[k].proc] rfl rfl ?c1 ?c2 ?c3 ?c4 ?c5 ?_)
        case c1 =>
          intro j u hj
          match j, hj with
          | 0, hj => simp at hj; subst hj; rw [addr_add]; go_simp
        case c2 => intro u hu; simp at hu; subst hu; rfl
        case c3 => unfold maxLen; omega
        case c4 => omega
        case c5 => first | omega | (simp; omega)
        intro v' w3 hown' hgrow _
        have HO' := Lib.hid hown'
        have V3 := Lib.hid ((V2.out.next ((Below.refl _ _).alloc (Nat.le_refl _) (.cells #[.int .i64 l[k].proc] 3))).grown hgrow hrs1 (fun g hg => (HO.out.lt g hg).1))
        have hw3 : w1.heap.size ≤ w3.heap.size := by have := hgrow.size; simp at this; omega
        clear hown' hgrow
        go_wp2
        go_roundg (l.length - (k + 1))
        case measure => omega
        case rel =>
          refine ⟨k + 1, by omega, by omega, by go_num, V3.out, hw3, ?_⟩
          unfold OwnI
          rw [List.take_succ_eq_append_getElem hlt, List.map_append, List.length_append, HLN.out, List.map_append]
          simpa [List.map_take] using HO'.out
      · have hltz : ¬ (k : Int) < (l.length : Int) := by omega
        have HF : Hid (∀ x y z, RdI .i64 (fin24 w wr x y z) 0 (.slice a5 k c5) (l.map (·.proc))) := fun x y z => by
          have h1 : OwnI wr w1.heap.size (.slice a5 k c5) (l.map (·.proc)) := by
            have h2 := HI.out
            rw [HLN.out] at h2
            rwa [List.take_of_length_le (by omega)] at h2
          exact (((h1.rd.low hrs1).low hrs1).low hrs1).mono (Nat.zero_le _)
        clear hlt
        go_wp2_with fail
        refine bodyPost_ret (v := .tuple #[.agg #[.bool true, .int .u8 y, .slice none 0 0], .slice a5 k c5, .int .i64 0]) (by simp [results, Try.results83, go_sem, r0, r1, r2]) rfl ?_
        exact ⟨_, _, rfl, (FrW.nil _ 0).1, HF.out _ _ _, V2.out.fin _ _ _⟩
end Go.Proofs.Ytglbfmcbojjglaa

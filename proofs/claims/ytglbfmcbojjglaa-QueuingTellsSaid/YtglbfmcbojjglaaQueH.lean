/-
  The contract of queuing.Receive. Conditions: the state can be read, its processes are of type int, at most ninety thousand elements, each message of at most a million bytes.
-/
import Derived.Test.YtglbfmcbojjglaaQueG
namespace Go.Proofs.Ytglbfmcbojjglaa
open Go.RowKit

/-- The three variables at the start, later on. -/
structure V3 (w W : World) (nm : ByteArray) (k : Int) (o : Bool) (s d r : Int) (vq0 vw0 : Value) (n0 : Int) : Prop where
  prt : W.heap[w.heap.size]? = some (.cells #[.string nm, .int .u8 k, .bool o, .int .i64 s, .int .i64 d, .int .i64 r] 23 (0, 0))
  arg : W.heap[w.heap.size + 1]? = some (.cells #[vq0, vw0, .int .i64 n0] 27 (0, 0))
  res : W.heap[w.heap.size + 1 + 1]? = some (.cells #[.slice none 0 0, .slice none 0 0, .int .i64 0] 27 (0, 0))
  bel : Below w.heap.size w W
section
variable {w W W' : World} {nm : ByteArray} {k : Int} {o : Bool} {s d r : Int} {vq0 vw0 : Value} {n0 : Int} {B : Nat} {vq vw : Value} {q : List (List Int)} {l : List Wt}
theorem V3.next (h : V3 w W nm k o s d r vq0 vw0 n0) (hb : Below W.heap.size W W') : V3 w W' nm k o s d r vq0 vw0 n0 :=
  ⟨(hb.block _ (blk_lt h.prt)).trans h.prt, (hb.block _ (blk_lt h.arg)).trans h.arg, (hb.block _ (blk_lt h.res)).trans h.res, h.bel.trans (hb.mono h.bel.size)⟩
theorem V3.first (hb : Below (W3 w nm k o s d r vq0 vw0 n0).heap.size (W3 w nm k o s d r vq0 vw0 n0) W) : V3 w W nm k o s d r vq0 vw0 n0 :=
  (V3.mk w3_prt w3_arg w3_res w3_below).next hb
theorem fin_three (hq : RdQ W B vq q) (hf : FrW W B vw l) (hB : w.heap.size + 1 + 1 < B) (hb : Below w.heap.size w W) (x y z : Value) : RdQ (fin3 w W x y z) w.heap.size vq q ∧ FrW (fin3 w W x y z) w.heap.size vw l ∧ Below w.heap.size w (fin3 w W x y z) :=
  ⟨(((hq.low hB).low hB).low hB).mono (by omega), (((hf.low hB).low hB).low hB).mono (by omega), below_fin3 hb x y z⟩
theorem fin_I {v : Value} {m : List Int} (h : RdI .u8 W B v m) (hB : w.heap.size + 1 + 1 < B) (x y z : Value) : RdI .u8 (fin3 w W x y z) w.heap.size v m := (((h.low hB).low hB).low hB).mono (by omega)
theorem RdQ.empty {B' : Nat} (h : RdQ W B vq q) (hq : q = []) : RdQ W' B' vq q := by
  subst hq
  obtain ⟨vs, ⟨ao, cap, hv, h1, h2, h3, _⟩, _⟩ := h
  exact ⟨vs, ⟨ao, cap, hv, h1, h2, h3, fun h0 => absurd h0 (by simp)⟩, fun i u x hu hx => by simp at hx⟩
end

set_option maxHeartbeats 4000000 in
set_option maxRecDepth 100000 in
theorem recvQ_c (nm : ByteArray) (k : Int) (o : Bool) (s d r n : Int) (p u : Int) (vq vw : Value) (q : List (List Int)) (l : List Wt) (w : World) (hq : RdQ w 0 vq q) (hw : RdW w 0 vw l) (hwf : WfW l) (hl : l.length ≤ 90000) (hql : q.length ≤ 90000) (hm : ∀ x ∈ q, x.length ≤ 1000000) :
    Calls Try.prog 29 #[.agg #[.string nm, .int .u8 k, .bool o, .int .i64 s, .int .i64 d, .int .i64 r], .agg #[vq, vw, .int .i64 n], .int .i64 p, .int .i64 u] w (RetC w (recvQ k s d r q l n p u).1 (recvQ k s d r q l n p u).2.1 n (recvQ k s d r q l n p u).2.2.1 (.bool (recvQ k s d r q l n p u).2.2.2.1) (.int .i64 (recvQ k s d r q l n p u).2.2.2.2)) := by
  obtain ⟨aq, cq, rfl⟩ := hq.shape'
  obtain ⟨aw, cw, rfl, hnc, hno, hpw⟩ := hw.open_
  clear hnc hno hpw
  have HRQ := Lib.hid hq
  have HRW := Lib.hid hw
  have HWF := Lib.hid hwf
  have HM := Lib.hid hm
  have hW3 : W3 w nm k o s d r (.slice aq q.length cq) (.slice aw l.length cw) n = ((w.alloc (.cells #[.string nm, .int .u8 k, .bool o, .int .i64 s, .int .i64 d, .int .i64 r] 23)).alloc (.cells #[.slice aq q.length cq, .slice aw l.length cw, .int .i64 n] 27)).alloc (.cells #[.slice none 0 0, .slice none 0 0, .int .i64 0] 27) := rfl
  have HW3 := Lib.hid hW3
  clear hq hw hwf hm hW3
  have hway : (vldQ k s d r q l n = false ∧ recvQ k s d r q l n p u = (q, l, [], false, 2)) ∨ (vldQ k s d r q l n = true ∧ p < 0 ∧ recvQ k s d r q l n p u = (q, l, [], false, 2)) ∨ (vldQ k s d r q l n = true ∧ 0 ≤ p ∧ l.any (fun x => decide (x.proc = p)) = true ∧ recvQ k s d r q l n p u = (q, l, [], false, 2)) ∨
      (vldQ k s d r q l n = true ∧ 0 ≤ p ∧ l.any (fun x => decide (x.proc = p)) = false ∧ q = [] ∧ recvQ k s d r q l n p u = (q, enterW l ⟨p, u, 0⟩, [], false, 0)) ∨ (vldQ k s d r q l n = true ∧ 0 ≤ p ∧ l.any (fun x => decide (x.proc = p)) = false ∧ ∃ x t, q = x :: t ∧ recvQ k s d r q l n p u = (t, l, x, true, 0)) := by
    unfold recvQ mayL
    cases vldQ k s d r q l n
    · simp
    · by_cases hp : 0 ≤ p
      · cases ha : l.any (fun x => decide (x.proc = p))
        · cases q with
          | nil => exact .inr (.inr (.inr (.inl ⟨rfl, hp, rfl, rfl, by simp [hp]⟩)))
          | cons x t => exact .inr (.inr (.inr (.inr ⟨rfl, hp, rfl, x, t, rfl, by simp [hp]⟩)))
        · exact .inr (.inr (.inl ⟨rfl, hp, rfl, by simp⟩))
      · exact .inr (.inl ⟨rfl, by omega, by simp [hp]⟩)
  rcases hway with ⟨k1, k2⟩ | ⟨k1, kp, k2⟩ | ⟨k1, kp, ka, k2⟩ | ⟨k1, kp, ka, kq, k2⟩ | ⟨k1, kp, ka, x, t, kq, k2⟩
  · rw [k2]
    clear k2
    have K1 := Lib.hid k1
    clear k1
    go_enter Try.func29, Try.ntmps29
    go_wp2_with fail
    rw [← HW3.out]
    have hv := validQ_c nm k o s d r n _ _ q l (W3 w nm k o s d r (.slice aq q.length cq) (.slice aw l.length cw) n) (HRQ.out.below w3_below) (HRW.out.below w3_below) HWF.out (by omega) (by omega)
    rw [K1.out] at hv
    refine hv.mono ?_
    clear hv HW3
    rintro e w1 ⟨rfl, b1⟩
    have X1 := Lib.hid (V3.first b1)
    clear b1
    obtain ⟨p0, p1, p2, p3, p4, p5⟩ := sixBlk X1.out.prt
    obtain ⟨g0, g1, g2, g3, g4, g5⟩ := threeBlk X1.out.arg
    obtain ⟨r0, r1, r2, r3, r4, r5⟩ := threeBlk X1.out.res
    have hps := blk_lt X1.out.prt
    have has := blk_lt X1.out.arg
    have hrs := blk_lt X1.out.res
    go_wp2_with fail
    refine (ownQ_c _ _ q l n w1 (HRQ.out.below X1.out.bel) (HRW.out.below X1.out.bel) (by omega) (by omega) HM.out).mono ?_
    rintro e w7 ⟨vq7, vw7, rfl, oq7, fr7, b7⟩
    obtain ⟨a1, c1, rfl⟩ := oq7.rd.shape'
    obtain ⟨a2, c2, rfl⟩ := fr_slice fr7
    have X7 := Lib.hid (X1.out.next b7)
    have F7 := Lib.hid (fun x y z => fin_three (w := w) oq7.rd fr7 hrs X7.out.bel x y z)
    clear oq7 fr7 b7 p0 p1 p2 p3 p4 p5 g0 g1 g2 g3 g4 g5 r0 r1 r2 r3 r4 r5
    obtain ⟨r0, r1, r2, r3, r4, r5⟩ := threeBlk X7.out.res
    have hrs7 := blk_lt X7.out.res
    go_wp2_with fail
    refine bodyPost_ret (v := .tuple #[.agg #[.slice a1 q.length c1, .slice a2 l.length c2, .int .i64 n], .slice none 0 0, .bool false, .int .i64 2]) (by simp [results, Try.results29, go_sem, r0, r1, r2]) rfl ?_
    exact ⟨_, _, _, rfl, (F7.out _ _ _).1, (F7.out _ _ _).2.1, RdI.nil _ _ _, (F7.out _ _ _).2.2⟩
  · rw [k2]
    clear k2
    have K1 := Lib.hid k1
    clear k1
    go_enter Try.func29, Try.ntmps29
    go_wp2_with fail
    rw [← HW3.out]
    have hv := validQ_c nm k o s d r n _ _ q l (W3 w nm k o s d r (.slice aq q.length cq) (.slice aw l.length cw) n) (HRQ.out.below w3_below) (HRW.out.below w3_below) HWF.out (by omega) (by omega)
    rw [K1.out] at hv
    refine hv.mono ?_
    clear hv HW3
    rintro e w1 ⟨rfl, b1⟩
    have X1 := Lib.hid (V3.first b1)
    clear b1
    obtain ⟨p0, p1, p2, p3, p4, p5⟩ := sixBlk X1.out.prt
    obtain ⟨g0, g1, g2, g3, g4, g5⟩ := threeBlk X1.out.arg
    obtain ⟨r0, r1, r2, r3, r4, r5⟩ := threeBlk X1.out.res
    have hps := blk_lt X1.out.prt
    have has := blk_lt X1.out.arg
    have hrs := blk_lt X1.out.res
    go_wp2_with fail
    refine (ownQ_c _ _ q l n w1 (HRQ.out.below X1.out.bel) (HRW.out.below X1.out.bel) (by omega) (by omega) HM.out).mono ?_
    rintro e w7 ⟨vq7, vw7, rfl, oq7, fr7, b7⟩
    obtain ⟨a1, c1, rfl⟩ := oq7.rd.shape'
    obtain ⟨a2, c2, rfl⟩ := fr_slice fr7
    have X7 := Lib.hid (X1.out.next b7)
    have F7 := Lib.hid (fun x y z => fin_three (w := w) oq7.rd fr7 hrs X7.out.bel x y z)
    clear oq7 fr7 b7 p0 p1 p2 p3 p4 p5 g0 g1 g2 g3 g4 g5 r0 r1 r2 r3 r4 r5
    obtain ⟨r0, r1, r2, r3, r4, r5⟩ := threeBlk X7.out.res
    have hrs7 := blk_lt X7.out.res
    go_wp2_with fail
    refine bodyPost_ret (v := .tuple #[.agg #[.slice a1 q.length c1, .slice a2 l.length c2, .int .i64 n], .slice none 0 0, .bool false, .int .i64 2]) (by simp [results, Try.results29, go_sem, r0, r1, r2]) rfl ?_
    exact ⟨_, _, _, rfl, (F7.out _ _ _).1, (F7.out _ _ _).2.1, RdI.nil _ _ _, (F7.out _ _ _).2.2⟩
  · rw [k2]
    clear k2
    have K1 := Lib.hid k1
    clear k1
    have KA := Lib.hid ka
    clear ka
    have hp0 : ¬ (p < 0) := by omega
    clear kp
    go_enter Try.func29, Try.ntmps29
    go_wp2_with fail
    rw [← HW3.out]
    have hv := validQ_c nm k o s d r n _ _ q l (W3 w nm k o s d r (.slice aq q.length cq) (.slice aw l.length cw) n) (HRQ.out.below w3_below) (HRW.out.below w3_below) HWF.out (by omega) (by omega)
    rw [K1.out] at hv
    refine hv.mono ?_
    clear hv HW3
    rintro e w1 ⟨rfl, b1⟩
    have X1 := Lib.hid (V3.first b1)
    clear b1
    obtain ⟨p0, p1, p2, p3, p4, p5⟩ := sixBlk X1.out.prt
    obtain ⟨g0, g1, g2, g3, g4, g5⟩ := threeBlk X1.out.arg
    obtain ⟨r0, r1, r2, r3, r4, r5⟩ := threeBlk X1.out.res
    have hps := blk_lt X1.out.prt
    have has := blk_lt X1.out.arg
    have hrs := blk_lt X1.out.res
    go_wp2_with fail
    have hv := waits_c aq q.length cq _ l n p w1 (HRW.out.below X1.out.bel) (by omega)
    rw [KA.out] at hv
    refine hv.mono ?_
    clear hv
    rintro e w2 ⟨rfl, b2⟩
    have X2 := Lib.hid (X1.out.next b2)
    clear b2 X1 p0 p1 p2 p3 p4 p5 g0 g1 g2 g3 g4 g5 r0 r1 r2 r3 r4 r5 hps has hrs
    obtain ⟨p0, p1, p2, p3, p4, p5⟩ := sixBlk X2.out.prt
    obtain ⟨g0, g1, g2, g3, g4, g5⟩ := threeBlk X2.out.arg
    obtain ⟨r0, r1, r2, r3, r4, r5⟩ := threeBlk X2.out.res
    have hps := blk_lt X2.out.prt
    have has := blk_lt X2.out.arg
    have hrs := blk_lt X2.out.res
    go_wp2_with fail
    refine (ownQ_c _ _ q l n w2 (HRQ.out.below X2.out.bel) (HRW.out.below X2.out.bel) (by omega) (by omega) HM.out).mono ?_
    rintro e w7 ⟨vq7, vw7, rfl, oq7, fr7, b7⟩
    obtain ⟨a1, c1, rfl⟩ := oq7.rd.shape'
    obtain ⟨a2, c2, rfl⟩ := fr_slice fr7
    have X7 := Lib.hid (X2.out.next b7)
    have F7 := Lib.hid (fun x y z => fin_three (w := w) oq7.rd fr7 hrs X7.out.bel x y z)
    clear oq7 fr7 b7 p0 p1 p2 p3 p4 p5 g0 g1 g2 g3 g4 g5 r0 r1 r2 r3 r4 r5
    obtain ⟨r0, r1, r2, r3, r4, r5⟩ := threeBlk X7.out.res
    have hrs7 := blk_lt X7.out.res
    go_wp2_with fail
    refine bodyPost_ret (v := .tuple #[.agg #[.slice a1 q.length c1, .slice a2 l.length c2, .int .i64 n], .slice none 0 0, .bool false, .int .i64 2]) (by simp [results, Try.results29, go_sem, r0, r1, r2]) rfl ?_
    exact ⟨_, _, _, rfl, (F7.out _ _ _).1, (F7.out _ _ _).2.1, RdI.nil _ _ _, (F7.out _ _ _).2.2⟩
  · rw [k2]
    clear k2
    have K1 := Lib.hid k1
    clear k1
    have KA := Lib.hid ka
    clear ka
    have hp0 : ¬ (p < 0) := by omega
    clear kp
    have KT : Hid (takeQ k s d r q l n = (q, [], 6)) := by show _ = _; rw [kq] at K1; simp [takeQ, K1.out, kq]
    have KQ := Lib.hid kq
    clear kq
    go_enter Try.func29, Try.ntmps29
    go_wp2_with fail
    rw [← HW3.out]
    have hv := validQ_c nm k o s d r n _ _ q l (W3 w nm k o s d r (.slice aq q.length cq) (.slice aw l.length cw) n) (HRQ.out.below w3_below) (HRW.out.below w3_below) HWF.out (by omega) (by omega)
    rw [K1.out] at hv
    refine hv.mono ?_
    clear hv HW3
    rintro e w1 ⟨rfl, b1⟩
    have X1 := Lib.hid (V3.first b1)
    clear b1
    obtain ⟨p0, p1, p2, p3, p4, p5⟩ := sixBlk X1.out.prt
    obtain ⟨g0, g1, g2, g3, g4, g5⟩ := threeBlk X1.out.arg
    obtain ⟨r0, r1, r2, r3, r4, r5⟩ := threeBlk X1.out.res
    have hps := blk_lt X1.out.prt
    have has := blk_lt X1.out.arg
    have hrs := blk_lt X1.out.res
    go_wp2_with fail
    have hv := waits_c aq q.length cq _ l n p w1 (HRW.out.below X1.out.bel) (by omega)
    rw [KA.out] at hv
    refine hv.mono ?_
    clear hv
    rintro e w2 ⟨rfl, b2⟩
    have X2 := Lib.hid (X1.out.next b2)
    clear b2 X1 p0 p1 p2 p3 p4 p5 g0 g1 g2 g3 g4 g5 r0 r1 r2 r3 r4 r5 hps has hrs
    obtain ⟨p0, p1, p2, p3, p4, p5⟩ := sixBlk X2.out.prt
    obtain ⟨g0, g1, g2, g3, g4, g5⟩ := threeBlk X2.out.arg
    obtain ⟨r0, r1, r2, r3, r4, r5⟩ := threeBlk X2.out.res
    have hps := blk_lt X2.out.prt
    have has := blk_lt X2.out.arg
    have hrs := blk_lt X2.out.res
    go_wp2_with fail
    have hv := takeQ_c nm k o s d r n _ _ q l w2 (HRQ.out.below X2.out.bel) (HRW.out.below X2.out.bel) HWF.out (by omega) (by omega) HM.out
    rw [show takeQ k s d r q l n = (q, [], 6) from KT.out] at hv
    refine hv.mono ?_
    clear hv
    rintro e w3 ⟨vq3, vw3, vx3, rfl, rq3, fr3, rx3, b3⟩
    obtain ⟨a1, m1, c1, rfl, hm1⟩ := rq3.shape
    obtain ⟨a2, c2, rfl⟩ := fr_slice fr3
    obtain ⟨a3, m3, c3, rfl⟩ : ∃ a m c, vx3 = .slice a m c := by obtain ⟨a, c, hv, _⟩ := rx3.open_; exact ⟨a, _, c, hv⟩
    clear hm1
    have X3 := Lib.hid (X2.out.next b3)
    have hs3 : w2.heap.size ≤ w3.heap.size := b3.size
    have RQ := Lib.hid rq3
    have FR := Lib.hid fr3
    have RX := Lib.hid rx3
    clear b3 X2 rq3 fr3 rx3 p0 p1 p2 p3 p4 p5 g0 g1 g2 g3 g4 g5 r0 r1 r2 r3 r4 r5
    obtain ⟨r0, r1, r2, r3, r4, r5⟩ := threeBlk X3.out.res
    have hrs3 := blk_lt X3.out.res
    go_wp2_with fail
    refine (enterW_c _ l ⟨p, u, 0⟩ _ (FR.out.alloc _).rd (by omega)).mono ?_
    rintro e w5 ⟨v5, rfl, ho5, hb5⟩
    obtain ⟨a5, c5, rfl⟩ := own_slice ho5
    have X5 := Lib.hid ((X3.out.next ((Below.refl _ _).alloc (Nat.le_refl _) (.cells #[.slice a1 m1 c1, .slice a2 l.length c2, .int .i64 n] 27))).next hb5)
    have hO5 : w5.heap[w3.heap.size]? = some (.cells #[.slice a1 m1 c1, .slice a2 l.length c2, .int .i64 n] 27 (0, 0)) := (hb5.block _ (by simp)).trans (heap_alloc_new w3 _)
    have hz5 : w3.heap.size + 1 ≤ w5.heap.size := by have := hb5.size; simpa using this
    have F5 : Hid (FrW w5 (w3.heap.size + 1) (.slice a5 (enterW l ⟨p, u, 0⟩).length c5) (enterW l ⟨p, u, 0⟩)) := by show FrW _ _ _ _; have := FrW.of_own ho5; simpa using this
    obtain ⟨o0, o1, o2, o3, o4, o5⟩ := threeBlk hO5
    have hos := blk_lt hO5
    clear ho5 hb5 r0 r1 r2 r3 r4 r5 hO5
    obtain ⟨r0, r1, r2, r3, r4, r5⟩ := threeBlk X5.out.res
    have hrs5 := blk_lt X5.out.res
    generalize (enterW l ⟨p, u, 0⟩).length = m5 at F5 ⊢
    go_wp2_with fail
    refine bodyPost_ret (v := .tuple #[.agg #[.slice a1 m1 c1, .slice a5 m5 c5, .int .i64 n], .slice none 0 0, .bool false, .int .i64 0]) (by simp [results, Try.results29, go_sem, r0, r1, r2]) rfl ?_
    have hB := X5.out.bel.setCell (p := ⟨w3.heap.size, 1, none⟩) (by show w.heap.size ≤ w3.heap.size; omega) (.slice a5 m5 c5)
    have hF := fin_three (w := w) (B := w3.heap.size + 1) (RdQ.empty RQ.out KQ.out) (F5.out.low (g := w3.heap.size) (o := 1) (u := .slice a5 m5 c5) (by omega)) (by omega) hB (.slice a1 m1 c1) (.slice a5 m5 c5) (.int .i64 n)
    exact ⟨_, _, _, rfl, hF.1, hF.2.1, RdI.nil _ _ _, hF.2.2⟩
  · rw [k2]
    clear k2
    have K1 := Lib.hid k1
    clear k1
    have KA := Lib.hid ka
    clear ka
    have hp0 : ¬ (p < 0) := by omega
    clear kp
    have KT : Hid (takeQ k s d r q l n = (t, x, 0)) := by show _ = _; rw [kq] at K1; simp [takeQ, K1.out, kq]
    clear kq
    go_enter Try.func29, Try.ntmps29
    go_wp2_with fail
    rw [← HW3.out]
    have hv := validQ_c nm k o s d r n _ _ q l (W3 w nm k o s d r (.slice aq q.length cq) (.slice aw l.length cw) n) (HRQ.out.below w3_below) (HRW.out.below w3_below) HWF.out (by omega) (by omega)
    rw [K1.out] at hv
    refine hv.mono ?_
    clear hv HW3
    rintro e w1 ⟨rfl, b1⟩
    have X1 := Lib.hid (V3.first b1)
    clear b1
    obtain ⟨p0, p1, p2, p3, p4, p5⟩ := sixBlk X1.out.prt
    obtain ⟨g0, g1, g2, g3, g4, g5⟩ := threeBlk X1.out.arg
    obtain ⟨r0, r1, r2, r3, r4, r5⟩ := threeBlk X1.out.res
    have hps := blk_lt X1.out.prt
    have has := blk_lt X1.out.arg
    have hrs := blk_lt X1.out.res
    go_wp2_with fail
    have hv := waits_c aq q.length cq _ l n p w1 (HRW.out.below X1.out.bel) (by omega)
    rw [KA.out] at hv
    refine hv.mono ?_
    clear hv
    rintro e w2 ⟨rfl, b2⟩
    have X2 := Lib.hid (X1.out.next b2)
    clear b2 X1 p0 p1 p2 p3 p4 p5 g0 g1 g2 g3 g4 g5 r0 r1 r2 r3 r4 r5 hps has hrs
    obtain ⟨p0, p1, p2, p3, p4, p5⟩ := sixBlk X2.out.prt
    obtain ⟨g0, g1, g2, g3, g4, g5⟩ := threeBlk X2.out.arg
    obtain ⟨r0, r1, r2, r3, r4, r5⟩ := threeBlk X2.out.res
    have hps := blk_lt X2.out.prt
    have has := blk_lt X2.out.arg
    have hrs := blk_lt X2.out.res
    go_wp2_with fail
    have hv := takeQ_c nm k o s d r n _ _ q l w2 (HRQ.out.below X2.out.bel) (HRW.out.below X2.out.bel) HWF.out (by omega) (by omega) HM.out
    rw [show takeQ k s d r q l n = (t, x, 0) from KT.out] at hv
    refine hv.mono ?_
    clear hv
    rintro e w3 ⟨vq3, vw3, vx3, rfl, rq3, fr3, rx3, b3⟩
    obtain ⟨a1, m1, c1, rfl, hm1⟩ := rq3.shape
    obtain ⟨a2, c2, rfl⟩ := fr_slice fr3
    obtain ⟨a3, m3, c3, rfl⟩ : ∃ a m c, vx3 = .slice a m c := by obtain ⟨a, c, hv, _⟩ := rx3.open_; exact ⟨a, _, c, hv⟩
    clear hm1
    have X3 := Lib.hid (X2.out.next b3)
    have hs3 : w2.heap.size ≤ w3.heap.size := b3.size
    have RQ := Lib.hid rq3
    have FR := Lib.hid fr3
    have RX := Lib.hid rx3
    clear b3 X2 rq3 fr3 rx3 p0 p1 p2 p3 p4 p5 g0 g1 g2 g3 g4 g5 r0 r1 r2 r3 r4 r5
    obtain ⟨r0, r1, r2, r3, r4, r5⟩ := threeBlk X3.out.res
    have hrs3 := blk_lt X3.out.res
    go_wp2_with fail
    refine bodyPost_ret (v := .tuple #[.agg #[.slice a1 m1 c1, .slice a2 l.length c2, .int .i64 n], .slice a3 m3 c3, .bool true, .int .i64 0]) (by simp [results, Try.results29, go_sem, r0, r1, r2, hrs3]) rfl ?_
    have hF := fin_three (w := w) RQ.out FR.out hrs X3.out.bel (.slice a1 m1 c1) (.slice a2 l.length c2) (.int .i64 n)
    have hI := fin_I (w := w) RX.out hrs (.slice a1 m1 c1) (.slice a2 l.length c2) (.int .i64 n)
    exact ⟨_, _, _, rfl, hF.1.alloc _, hF.2.1.alloc _, hI.alloc _, hF.2.2.alloc hF.2.2.size _⟩
end Go.Proofs.Ytglbfmcbojjglaa

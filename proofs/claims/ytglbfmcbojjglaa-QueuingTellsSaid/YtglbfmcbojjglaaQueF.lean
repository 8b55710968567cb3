/-
  The contracts of queuing.Cancel and queuing.Take. Conditions: the state can be read, its processes are of type int, at most ninety thousand elements, each message of at most a million bytes.
-/
import Derived.Test.YtglbfmcbojjglaaQueE
namespace Go.Proofs.Ytglbfmcbojjglaa
open Go.RowKit

section
variable {w W W' : World} {nm : ByteArray} {k : Int} {o : Bool} {s d r : Int} {vq0 vw0 : Value} {n0 : Int} {g : Nat} {vq vw : Value} {n : Int} {q : List (List Int)} {l : List Wt}
theorem QM.leave {v : Value} {m : List Wt} (h : QM w W nm k o s d r vq0 vw0 n0 g vq vw n q l) (ho : W'.ownsRow W.heap.size 56 3 v m.length (cellsW m)) (hb : Below W.heap.size W W') : QM w (W'.setCell ⟨g, 1, none⟩ v) nm k o s d r vq0 vw0 n0 g vq v n q m := by
  have hl := blk_lt h.obj
  have hge := h.ge
  refine (h.next hb).putW ((FrW.of_own ho).mono (by omega)) (fun a m c hv hm => ?_)
  subst hv
  have := (ho.lt a.block rfl).1
  omega
theorem QM.ne_row {b off m c : Nat} (h : QM w W nm k o s d r vq0 vw0 n0 g (.slice (some ⟨b, off, none⟩) m c) vw n q l) : ¬ (b = g) := by
  intro e
  obtain ⟨vs, ho, _⟩ := h.oq
  rcases ho.2 with ⟨h1, _⟩ | ⟨g', cap', cur', h1, _, hg', _⟩
  · cases h1
  · simp only [Value.slice.injEq, Option.some.injEq, Addr.mk.injEq] at h1
    obtain ⟨⟨rfl, _⟩, _⟩ := h1
    subst e
    have := h.obj
    rw [hg'] at this
    simp only [Option.some.injEq, Obj.cells.injEq] at this
    exact absurd this.2.1 (by decide)
/-- The first message is taken. -/
theorem QM.take {b off m c : Nat} {x : List Int} {t : List (List Int)} (h : QM w W nm k o s d r vq0 vw0 n0 g (.slice (some ⟨b, off, none⟩) m c) vw n q l) (hk : q = x :: t) (tv y1 y2 y3 : Value) :
    RdQ (fin3 w (W.setCell ⟨g, 0, none⟩ tv) y1 y2 y3) w.heap.size (.slice (if c = 1 then some ⟨b, off, none⟩ else some ⟨b, off + 1, none⟩) (m - 1) (c - 1)) t ∧ FrW (fin3 w (W.setCell ⟨g, 0, none⟩ tv) y1 y2 y3) w.heap.size vw l ∧
    Below w.heap.size w (fin3 w (W.setCell ⟨g, 0, none⟩ tv) y1 y2 y3) ∧ ∀ u, W.cell? ⟨b, off, none⟩ = some u → RdI .u8 (fin3 w (W.setCell ⟨g, 0, none⟩ tv) y1 y2 y3) w.heap.size u x := by
  have hge := h.ge
  have hq : OwnQ (fin3 w (W.setCell ⟨g, 0, none⟩ tv) y1 y2 y3) (w.heap.size + 3) (.slice (some ⟨b, off, none⟩) m c) q := (((h.oq.oth h.obj (by decide) (by decide)).low (by omega)).low (by omega)).low (by omega)
  refine ⟨(hq.rd.tail hk).mono (by omega), ((((frW_set h.fr h.ap).low (by omega)).low (by omega)).low (by omega)).mono (by omega), below_fin3 (h.bel.setCell (p := ⟨g, 0, none⟩) (by show _ ≤ g; omega) tv) _ _ _, fun u hu => ?_⟩
  obtain ⟨vs, ho, hin⟩ := h.oq
  have hs := Sl.of_own ho
  subst hk
  match vs, ho with
  | [], ho => have := ho.1; simp at this
  | u0 :: us, ho =>
    obtain ⟨ao, cp, hv, _, _, _, hp⟩ := hs
    obtain ⟨b', off', ha, _, _, hc⟩ := hp (by simp)
    simp only [Value.slice.injEq] at hv
    obtain ⟨rfl, _, _⟩ := hv
    simp only [Option.some.injEq, Addr.mk.injEq, and_true] at ha
    obtain ⟨rfl, rfl⟩ := ha
    have h0 := hc 0 u0 rfl
    rw [Nat.add_zero, hu] at h0
    simp only [Option.some.injEq] at h0
    subst h0
    have hb : OwnB W (w.heap.size + 3) u x := hin 0 u x rfl rfl
    have hb' : OwnB (fin3 w (W.setCell ⟨g, 0, none⟩ tv) y1 y2 y3) (w.heap.size + 3) u x := own_low (own_low (own_low (own_oth hb h.obj (by decide)) (by omega)) (by omega)) (by omega)
    exact hb'.rd.mono (by omega)
end

set_option maxHeartbeats 4000000 in
set_option maxRecDepth 100000 in
theorem cancQ_c (nm : ByteArray) (k : Int) (o : Bool) (s d r n : Int) (p : Int) (vq vw : Value) (q : List (List Int)) (l : List Wt) (w : World) (hq : RdQ w 0 vq q) (hw : RdW w 0 vw l) (hwf : WfW l) (hl : l.length ≤ 90000) (hql : q.length ≤ 90000) (hm : ∀ x ∈ q, x.length ≤ 1000000) :
    Calls Try.prog 33 #[.agg #[.string nm, .int .u8 k, .bool o, .int .i64 s, .int .i64 d, .int .i64 r], .agg #[vq, vw, .int .i64 n], .int .i64 p] w (RetQ1 w q (cancQ k s d r q l n p).1 n (.int .i64 (cancQ k s d r q l n p).2)) := by
  obtain ⟨aq, cq, rfl⟩ := hq.shape'
  obtain ⟨aw, cw, rfl, hnc, hno, hpw⟩ := hw.open_
  clear hnc hno hpw
  have HRQ := Lib.hid hq
  have HRW := Lib.hid hw
  have HWF := Lib.hid hwf
  have HM := Lib.hid hm
  have hW3 : W3 w nm k o s d r (.slice aq q.length cq) (.slice aw l.length cw) n = ((w.alloc (.cells #[.string nm, .int .u8 k, .bool o, .int .i64 s, .int .i64 d, .int .i64 r] 23)).alloc (.cells #[.slice aq q.length cq, .slice aw l.length cw, .int .i64 n] 27)).alloc (.cells #[.slice none 0 0, .slice none 0 0, .int .i64 0] 27) := rfl
  have HW3 := Lib.hid hW3
  clear hq hw hwf hm hW3
  cases k1 : vldQ k s d r q l n with
  | false =>
    rw [show cancQ k s d r q l n p = (l, 2) by simp [cancQ, k1]]
    have K1 := Lib.hid k1
    clear k1
    go_enter Try.func33, Try.ntmps33
    go_wp2_with fail
    rw [← HW3.out]
    refine (ownQ_c _ _ q l n _ (HRQ.out.below w3_below) (HRW.out.below w3_below) (by omega) (by omega) HM.out).mono ?_
    rintro e w1 ⟨vq1, vw1, rfl, oq1, fr1, b1⟩
    obtain ⟨a1, c1, rfl⟩ := oq1.rd.shape'
    obtain ⟨a2, c2, rfl⟩ := fr_slice fr1
    obtain ⟨p0, p1, p2, p3, p4, p5⟩ := sixBlk ((b1.block _ (by rw [w3_size]; omega)).trans w3_prt)
    obtain ⟨g0, g1, g2, g3, g4, g5⟩ := threeBlk ((b1.block _ (by rw [w3_size]; omega)).trans w3_arg)
    have hs1 : w.heap.size + 3 ≤ w1.heap.size := by have := b1.size; rw [w3_size] at this; exact this
    have hp1 : w.heap.size < w1.heap.size := by omega
    have ha1 : w.heap.size + 1 < w1.heap.size := by omega
    have hr1 : w.heap.size + 1 + 1 < w1.heap.size := by omega
    have M1 := Lib.hid (QM.new (n := n) oq1 fr1 b1)
    clear oq1 fr1 b1 HW3
    go_wp2_with fail
    obtain ⟨W1, hW1⟩ : ∃ W1, W1 = w1.alloc (.cells #[.slice a1 q.length c1, .slice a2 l.length c2, .int .i64 n] 27) := ⟨_, rfl⟩
    rw [← hW1] at M1 ⊢
    clear hW1 p0 p1 p2 p3 p4 p5 g0 g1 g2 g3 g4 g5
    have hv := validQ_c nm k o s d r n _ _ q l W1 (HRQ.out.below M1.out.bel) (HRW.out.below M1.out.bel) HWF.out (by omega) (by omega)
    rw [K1.out] at hv
    refine hv.mono ?_
    clear hv
    rintro e w2 ⟨rfl, b2⟩
    have M2 := Lib.hid (M1.out.next b2)
    clear b2 M1
    obtain ⟨p0, p1, p2, p3, p4, p5⟩ := sixBlk M2.out.prt
    obtain ⟨g0, g1, g2, g3, g4, g5⟩ := threeBlk M2.out.arg
    obtain ⟨r0, r1, r2, r3, r4, r5⟩ := threeBlk M2.out.res
    obtain ⟨o0, o1, o2, o3, o4, o5⟩ := threeBlk M2.out.obj
    have hos := blk_lt M2.out.obj
    have hps := blk_lt M2.out.prt
    have has := blk_lt M2.out.arg
    have hrs := blk_lt M2.out.res
    go_wp2_with fail
    refine bodyPost_ret (v := .tuple #[.agg #[.slice a1 q.length c1, .slice a2 l.length c2, .int .i64 n], .int .i64 2]) (by simp [results, Try.results33, go_sem, r0, r1, r2]) rfl ?_
    exact ⟨_, _, rfl, M2.out.last _ _ _⟩
  | true =>
    rw [show cancQ k s d r q l n p = (leaveW l p, 0) by simp [cancQ, k1]]
    have K1 := Lib.hid k1
    clear k1
    go_enter Try.func33, Try.ntmps33
    go_wp2_with fail
    rw [← HW3.out]
    refine (ownQ_c _ _ q l n _ (HRQ.out.below w3_below) (HRW.out.below w3_below) (by omega) (by omega) HM.out).mono ?_
    rintro e w1 ⟨vq1, vw1, rfl, oq1, fr1, b1⟩
    obtain ⟨a1, c1, rfl⟩ := oq1.rd.shape'
    obtain ⟨a2, c2, rfl⟩ := fr_slice fr1
    obtain ⟨p0, p1, p2, p3, p4, p5⟩ := sixBlk ((b1.block _ (by rw [w3_size]; omega)).trans w3_prt)
    obtain ⟨g0, g1, g2, g3, g4, g5⟩ := threeBlk ((b1.block _ (by rw [w3_size]; omega)).trans w3_arg)
    have hs1 : w.heap.size + 3 ≤ w1.heap.size := by have := b1.size; rw [w3_size] at this; exact this
    have hp1 : w.heap.size < w1.heap.size := by omega
    have ha1 : w.heap.size + 1 < w1.heap.size := by omega
    have hr1 : w.heap.size + 1 + 1 < w1.heap.size := by omega
    have M1 := Lib.hid (QM.new (n := n) oq1 fr1 b1)
    clear oq1 fr1 b1 HW3
    go_wp2_with fail
    obtain ⟨W1, hW1⟩ : ∃ W1, W1 = w1.alloc (.cells #[.slice a1 q.length c1, .slice a2 l.length c2, .int .i64 n] 27) := ⟨_, rfl⟩
    rw [← hW1] at M1 ⊢
    clear hW1 p0 p1 p2 p3 p4 p5 g0 g1 g2 g3 g4 g5
    have hv := validQ_c nm k o s d r n _ _ q l W1 (HRQ.out.below M1.out.bel) (HRW.out.below M1.out.bel) HWF.out (by omega) (by omega)
    rw [K1.out] at hv
    refine hv.mono ?_
    clear hv
    rintro e w2 ⟨rfl, b2⟩
    have M2 := Lib.hid (M1.out.next b2)
    clear b2 M1
    obtain ⟨p0, p1, p2, p3, p4, p5⟩ := sixBlk M2.out.prt
    obtain ⟨g0, g1, g2, g3, g4, g5⟩ := threeBlk M2.out.arg
    obtain ⟨r0, r1, r2, r3, r4, r5⟩ := threeBlk M2.out.res
    obtain ⟨o0, o1, o2, o3, o4, o5⟩ := threeBlk M2.out.obj
    have hos := blk_lt M2.out.obj
    have hps := blk_lt M2.out.prt
    have has := blk_lt M2.out.arg
    have hrs := blk_lt M2.out.res
    go_wp2_with fail
    refine (leaveW_c _ l p w2 M2.out.fr.rd (by omega)).mono ?_
    rintro e w3 ⟨v3, rfl, ho3, hb3⟩
    obtain ⟨a3, c3, rfl⟩ := own_slice ho3
    have M3 := Lib.hid (M2.out.leave ho3 hb3)
    clear p0 p1 p2 p3 p4 p5 g0 g1 g2 g3 g4 g5 r0 r1 r2 r3 r4 r5 o0 o1 o2 o3 o4 o5 hos hps has hrs
    obtain ⟨r0, r1, r2, r3, r4, r5⟩ := threeBlk (M2.out.next hb3).res
    obtain ⟨o0, o1, o2, o3, o4, o5⟩ := threeBlk (M2.out.next hb3).obj
    have hos := blk_lt (M2.out.next hb3).obj
    have hrs := blk_lt (M2.out.next hb3).res
    clear ho3 hb3 M2
    generalize (leaveW l p).length = m3 at M3 ⊢
    go_wp2_with fail
    refine bodyPost_ret (v := .tuple #[.agg #[.slice a1 q.length c1, .slice a3 m3 c3, .int .i64 n], .int .i64 0]) (by simp [results, Try.results33, go_sem, r0, r1, r2]) rfl ?_
    exact ⟨_, _, rfl, M3.out.last _ _ _⟩

set_option maxHeartbeats 4000000 in
set_option maxRecDepth 100000 in
theorem takeQ_c (nm : ByteArray) (k : Int) (o : Bool) (s d r n : Int) (vq vw : Value) (q : List (List Int)) (l : List Wt) (w : World) (hq : RdQ w 0 vq q) (hw : RdW w 0 vw l) (hwf : WfW l) (hl : l.length ≤ 90000) (hql : q.length ≤ 90000) (hm : ∀ x ∈ q, x.length ≤ 1000000) :
    Calls Try.prog 31 #[.agg #[.string nm, .int .u8 k, .bool o, .int .i64 s, .int .i64 d, .int .i64 r], .agg #[vq, vw, .int .i64 n]] w (RetT w (takeQ k s d r q l n).1 l n (takeQ k s d r q l n).2.1 (.int .i64 (takeQ k s d r q l n).2.2)) := by
  obtain ⟨aq, cq, rfl⟩ := hq.shape'
  obtain ⟨aw, cw, rfl, hnc, hno, hpw⟩ := hw.open_
  clear hnc hno hpw
  have HRQ := Lib.hid hq
  have HRW := Lib.hid hw
  have HWF := Lib.hid hwf
  have HM := Lib.hid hm
  have hW3 : W3 w nm k o s d r (.slice aq q.length cq) (.slice aw l.length cw) n = ((w.alloc (.cells #[.string nm, .int .u8 k, .bool o, .int .i64 s, .int .i64 d, .int .i64 r] 23)).alloc (.cells #[.slice aq q.length cq, .slice aw l.length cw, .int .i64 n] 27)).alloc (.cells #[.slice none 0 0, .slice none 0 0, .int .i64 0] 27) := rfl
  have HW3 := Lib.hid hW3
  clear hq hw hwf hm hW3
  have hway : (vldQ k s d r q l n = false ∧ takeQ k s d r q l n = (q, [], 2)) ∨ (vldQ k s d r q l n = true ∧ q = [] ∧ takeQ k s d r q l n = (q, [], 6)) ∨ (vldQ k s d r q l n = true ∧ ∃ x t, q = x :: t ∧ takeQ k s d r q l n = (t, x, 0)) := by
    unfold takeQ
    cases vldQ k s d r q l n
    · simp
    · cases q with
      | nil => simp
      | cons x t => exact .inr (.inr ⟨rfl, x, t, rfl, rfl⟩)
  rcases hway with ⟨k1, k2⟩ | ⟨k1, kq, k2⟩ | ⟨k1, x, t, kq, k2⟩
  · rw [k2]
    clear k2
    have K1 := Lib.hid k1
    clear k1
    go_enter Try.func31, Try.ntmps31
    go_wp2_with fail
    rw [← HW3.out]
    refine (ownQ_c _ _ q l n _ (HRQ.out.below w3_below) (HRW.out.below w3_below) (by omega) (by omega) HM.out).mono ?_
    rintro e w1 ⟨vq1, vw1, rfl, oq1, fr1, b1⟩
    obtain ⟨a1, c1, rfl⟩ := oq1.rd.shape'
    obtain ⟨a2, c2, rfl⟩ := fr_slice fr1
    obtain ⟨p0, p1, p2, p3, p4, p5⟩ := sixBlk ((b1.block _ (by rw [w3_size]; omega)).trans w3_prt)
    obtain ⟨g0, g1, g2, g3, g4, g5⟩ := threeBlk ((b1.block _ (by rw [w3_size]; omega)).trans w3_arg)
    have hs1 : w.heap.size + 3 ≤ w1.heap.size := by have := b1.size; rw [w3_size] at this; exact this
    have hp1 : w.heap.size < w1.heap.size := by omega
    have ha1 : w.heap.size + 1 < w1.heap.size := by omega
    have hr1 : w.heap.size + 1 + 1 < w1.heap.size := by omega
    have M1 := Lib.hid (QM.new (n := n) oq1 fr1 b1)
    clear oq1 fr1 b1 HW3
    go_wp2_with fail
    obtain ⟨W1, hW1⟩ : ∃ W1, W1 = w1.alloc (.cells #[.slice a1 q.length c1, .slice a2 l.length c2, .int .i64 n] 27) := ⟨_, rfl⟩
    rw [← hW1] at M1 ⊢
    clear hW1 p0 p1 p2 p3 p4 p5 g0 g1 g2 g3 g4 g5
    have hv := validQ_c nm k o s d r n _ _ q l W1 (HRQ.out.below M1.out.bel) (HRW.out.below M1.out.bel) HWF.out (by omega) (by omega)
    rw [K1.out] at hv
    refine hv.mono ?_
    clear hv
    rintro e w2 ⟨rfl, b2⟩
    have M2 := Lib.hid (M1.out.next b2)
    clear b2 M1
    obtain ⟨p0, p1, p2, p3, p4, p5⟩ := sixBlk M2.out.prt
    obtain ⟨g0, g1, g2, g3, g4, g5⟩ := threeBlk M2.out.arg
    obtain ⟨r0, r1, r2, r3, r4, r5⟩ := threeBlk M2.out.res
    obtain ⟨o0, o1, o2, o3, o4, o5⟩ := threeBlk M2.out.obj
    have hos := blk_lt M2.out.obj
    have hps := blk_lt M2.out.prt
    have has := blk_lt M2.out.arg
    have hrs := blk_lt M2.out.res
    go_wp2_with fail
    refine bodyPost_ret (v := .tuple #[.agg #[.slice a1 q.length c1, .slice a2 l.length c2, .int .i64 n], .slice none 0 0, .int .i64 2]) (by simp [results, Try.results31, go_sem, r0, r1, r2]) rfl ?_
    exact ⟨_, _, _, rfl, (M2.out.last _ _ _).1, (M2.out.last _ _ _).2.1, RdI.nil _ _ _, (M2.out.last _ _ _).2.2⟩
  · rw [k2]
    clear k2
    have K1 := Lib.hid k1
    clear k1
    have hq0 : (q.length == 0) = true := by rw [kq]; rfl
    have hq1 : ((q.length : Int) == 0) = true := by rw [kq]; rfl
    clear kq
    go_enter Try.func31, Try.ntmps31
    go_wp2_with fail
    rw [← HW3.out]
    refine (ownQ_c _ _ q l n _ (HRQ.out.below w3_below) (HRW.out.below w3_below) (by omega) (by omega) HM.out).mono ?_
    rintro e w1 ⟨vq1, vw1, rfl, oq1, fr1, b1⟩
    obtain ⟨a1, c1, rfl⟩ := oq1.rd.shape'
    obtain ⟨a2, c2, rfl⟩ := fr_slice fr1
    obtain ⟨p0, p1, p2, p3, p4, p5⟩ := sixBlk ((b1.block _ (by rw [w3_size]; omega)).trans w3_prt)
    obtain ⟨g0, g1, g2, g3, g4, g5⟩ := threeBlk ((b1.block _ (by rw [w3_size]; omega)).trans w3_arg)
    have hs1 : w.heap.size + 3 ≤ w1.heap.size := by have := b1.size; rw [w3_size] at this; exact this
    have hp1 : w.heap.size < w1.heap.size := by omega
    have ha1 : w.heap.size + 1 < w1.heap.size := by omega
    have hr1 : w.heap.size + 1 + 1 < w1.heap.size := by omega
    have M1 := Lib.hid (QM.new (n := n) oq1 fr1 b1)
    clear oq1 fr1 b1 HW3
    go_wp2_with fail
    obtain ⟨W1, hW1⟩ : ∃ W1, W1 = w1.alloc (.cells #[.slice a1 q.length c1, .slice a2 l.length c2, .int .i64 n] 27) := ⟨_, rfl⟩
    rw [← hW1] at M1 ⊢
    clear hW1 p0 p1 p2 p3 p4 p5 g0 g1 g2 g3 g4 g5
    have hv := validQ_c nm k o s d r n _ _ q l W1 (HRQ.out.below M1.out.bel) (HRW.out.below M1.out.bel) HWF.out (by omega) (by omega)
    rw [K1.out] at hv
    refine hv.mono ?_
    clear hv
    rintro e w2 ⟨rfl, b2⟩
    have M2 := Lib.hid (M1.out.next b2)
    clear b2 M1
    obtain ⟨p0, p1, p2, p3, p4, p5⟩ := sixBlk M2.out.prt
    obtain ⟨g0, g1, g2, g3, g4, g5⟩ := threeBlk M2.out.arg
    obtain ⟨r0, r1, r2, r3, r4, r5⟩ := threeBlk M2.out.res
    obtain ⟨o0, o1, o2, o3, o4, o5⟩ := threeBlk M2.out.obj
    have hos := blk_lt M2.out.obj
    have hps := blk_lt M2.out.prt
    have has := blk_lt M2.out.arg
    have hrs := blk_lt M2.out.res
    go_wp2_with fail
    refine bodyPost_ret (v := .tuple #[.agg #[.slice a1 q.length c1, .slice a2 l.length c2, .int .i64 n], .slice none 0 0, .int .i64 6]) (by simp [results, Try.results31, go_sem, r0, r1, r2]) rfl ?_
    exact ⟨_, _, _, rfl, (M2.out.last _ _ _).1, (M2.out.last _ _ _).2.1, RdI.nil _ _ _, (M2.out.last _ _ _).2.2⟩
  · rw [k2]
    clear k2
    have K1 := Lib.hid k1
    clear k1
    have hq0 : (q.length == 0) = false := by rw [kq]; rfl
    have hq1 : ((q.length : Int) == 0) = false := by rw [kq]; simp; omega
    have hq2 : 0 < q.length := by rw [kq]; simp
    have KQ := Lib.hid kq
    clear kq
    go_enter Try.func31, Try.ntmps31
    go_wp2_with fail
    rw [← HW3.out]
    refine (ownQ_c _ _ q l n _ (HRQ.out.below w3_below) (HRW.out.below w3_below) (by omega) (by omega) HM.out).mono ?_
    rintro e w1 ⟨vq1, vw1, rfl, oq1, fr1, b1⟩
    obtain ⟨a1, c1, rfl⟩ := oq1.rd.shape'
    obtain ⟨a2, c2, rfl⟩ := fr_slice fr1
    obtain ⟨p0, p1, p2, p3, p4, p5⟩ := sixBlk ((b1.block _ (by rw [w3_size]; omega)).trans w3_prt)
    obtain ⟨g0, g1, g2, g3, g4, g5⟩ := threeBlk ((b1.block _ (by rw [w3_size]; omega)).trans w3_arg)
    have hs1 : w.heap.size + 3 ≤ w1.heap.size := by have := b1.size; rw [w3_size] at this; exact this
    have hp1 : w.heap.size < w1.heap.size := by omega
    have ha1 : w.heap.size + 1 < w1.heap.size := by omega
    have hr1 : w.heap.size + 1 + 1 < w1.heap.size := by omega
    have M1 := Lib.hid (QM.new (n := n) oq1 fr1 b1)
    clear oq1 fr1 b1 HW3
    go_wp2_with fail
    obtain ⟨W1, hW1⟩ : ∃ W1, W1 = w1.alloc (.cells #[.slice a1 q.length c1, .slice a2 l.length c2, .int .i64 n] 27) := ⟨_, rfl⟩
    rw [← hW1] at M1 ⊢
    clear hW1 p0 p1 p2 p3 p4 p5 g0 g1 g2 g3 g4 g5
    have hv := validQ_c nm k o s d r n _ _ q l W1 (HRQ.out.below M1.out.bel) (HRW.out.below M1.out.bel) HWF.out (by omega) (by omega)
    rw [K1.out] at hv
    refine hv.mono ?_
    clear hv
    rintro e w2 ⟨rfl, b2⟩
    have M2 := Lib.hid (M1.out.next b2)
    clear b2 M1
    obtain ⟨p0, p1, p2, p3, p4, p5⟩ := sixBlk M2.out.prt
    obtain ⟨g0, g1, g2, g3, g4, g5⟩ := threeBlk M2.out.arg
    obtain ⟨r0, r1, r2, r3, r4, r5⟩ := threeBlk M2.out.res
    obtain ⟨o0, o1, o2, o3, o4, o5⟩ := threeBlk M2.out.obj
    have hos := blk_lt M2.out.obj
    have hps := blk_lt M2.out.prt
    have has := blk_lt M2.out.arg
    have hrs := blk_lt M2.out.res
    obtain ⟨hlen, hc0, b, off, u, rfl, hBb, hbs, cu0, hru⟩ := M2.out.oq.rd.head KQ.out
    obtain ⟨au, mu, cu, rfl⟩ : ∃ a m c, u = .slice a m c := by obtain ⟨a, c, hv, _⟩ := hru.open_; exact ⟨a, _, c, hv⟩
    have hbg : ¬ (b = w1.heap.size) := M2.out.ne_row
    have CU := Lib.hid cu0
    clear hlen hru
    by_cases hc1 : c1 = 1
    · subst hc1
      have TT := Lib.hid (fun tv x y z => M2.out.take KQ.out tv x y z)
      clear M2
      go_wp2_with fail
      refine bodyPost_ret (v := .tuple #[.agg #[.slice (some ⟨b, off, none⟩) (q.length - 1) 0, .slice a2 l.length c2, .int .i64 n], .slice au mu cu, .int .i64 0]) (by simp [results, Try.results31, go_sem, r0, r1, r2]) rfl ?_
      have h4 := TT.out (.slice (some ⟨b, off, none⟩) (q.length - 1) 0) (.slice (some ⟨b, off, none⟩) (q.length - 1) 0) (.slice a2 l.length c2) (.int .i64 n)
      first | rw [if_pos rfl] at h4 | rw [if_pos trivial] at h4
      exact ⟨_, _, _, rfl, h4.1, h4.2.1, h4.2.2.2 _ CU.out, h4.2.2.1⟩
    · have TT := Lib.hid (fun tv x y z => M2.out.take KQ.out tv x y z)
      clear M2
      go_wp2_with fail
      refine bodyPost_ret (v := .tuple #[.agg #[.slice (some ⟨b, off + 1, none⟩) (q.length - 1) (c1 - 1), .slice a2 l.length c2, .int .i64 n], .slice au mu cu, .int .i64 0]) (by simp [results, Try.results31, go_sem, r0, r1, r2]) rfl ?_
      have h4 := TT.out (.slice (some ⟨b, off + 1, none⟩) (q.length - 1) (c1 - 1)) (.slice (some ⟨b, off + 1, none⟩) (q.length - 1) (c1 - 1)) (.slice a2 l.length c2) (.int .i64 n)
      first | rw [if_neg hc1] at h4 | rw [if_pos trivial] at h4
      exact ⟨_, _, _, rfl, h4.1, h4.2.1, h4.2.2.2 _ CU.out, h4.2.2.1⟩
end Go.Proofs.Ytglbfmcbojjglaa

/-
  Messages in memory of the call's own, none of their cells frozen; the contracts of queuing.Cancel and queuing.Take with results of that kind. Conditions: as in QueF.
-/
import Derived.Test.YtglbfmcbojjglaaQueH
namespace Go.Proofs.Ytglbfmcbojjglaa
open Go.RowKit

/-- Bytes in blocks from B on, none of their cells frozen. -/
def FrI (w : World) (B : Nat) (v : Value) (x : List Int) : Prop := RdI .u8 w B v x ∧ ∀ a n c, v = .slice (some a) n c → 0 < n → ∀ j, w.frozen? ⟨a.block, j, none⟩ = false
def FrQ (w : World) (B : Nat) (v : Value) (q : List (List Int)) : Prop := ∃ vs : List Value, Sl w B 1 v q.length vs ∧ ∀ (i : Nat) u x, vs[i]? = some u → q[i]? = some x → FrI w B u x
section
variable {w w' W W' : World} {B B' g o : Nat} {v u : Value} {x : List Int} {q : List (List Int)}
theorem FrI.rd (h : FrI w B v x) : RdI .u8 w B v x := h.1
theorem FrI.mono (h : FrI w B v x) (hB : B' ≤ B) : FrI w B' v x := ⟨h.1.mono hB, h.2⟩
theorem FrI.nil (w : World) (B : Nat) : FrI w B (.slice none 0 0) [] := ⟨RdI.nil _ _ _, fun a n c hv _ => by cases hv⟩
theorem FrI.blk (h : FrI w B v x) {a : Addr} {n c : Nat} (hv : v = .slice (some a) n c) (hn : 0 < n) : B ≤ a.block ∧ a.block < w.heap.size := by
  obtain ⟨⟨ao, cap, hv', _, _, _, hp⟩, _⟩ := h
  subst hv
  simp only [Value.slice.injEq] at hv'
  obtain ⟨hao, hn', _⟩ := hv'
  obtain ⟨b, off, ha, hB, hb, _⟩ := hp (by omega)
  rw [ha] at hao
  simp only [Option.some.injEq] at hao
  subst hao
  exact ⟨hB, hb⟩
theorem FrI.below (h : FrI w B v x) (hb : Below w.heap.size w w') : FrI w' B v x :=
  ⟨h.1.below hb, fun a n c hv hn j => (hb.frozen (p := ⟨a.block, j, none⟩) (h.blk hv hn).2).trans (h.2 a n c hv hn j)⟩
theorem FrI.low (h : FrI w B v x) (hg : g < B) : FrI (w.setCell ⟨g, o, none⟩ u) B v x := by
  refine ⟨Sl.low h.1 hg, fun a n c hv hn j => ?_⟩
  have hne : a.block ≠ g := by have := (h.blk hv hn).1; omega
  have := h.2 a n c hv hn j
  unfold World.frozen? at this ⊢
  rw [show (w.setCell ⟨g, o, none⟩ u).heap[(⟨a.block, j, none⟩ : Addr).block]? = w.heap[(⟨a.block, j, none⟩ : Addr).block]? from Below.heap_setCell _ _ _ _ hne]
  exact this
theorem FrI.alloc (h : FrI w B v x) (ob : Obj) : FrI (w.alloc ob) B v x := h.below ((Below.refl _ _).alloc (Nat.le_refl _) _)
theorem OwnB.fi (h : OwnB w B v x) : FrI w B v x := by
  refine ⟨h.rd, fun a n c hv hn j => ?_⟩
  rcases h.2 with ⟨rfl, _⟩ | ⟨g, cap, cur, rfl, _, hg, _⟩
  · cases hv
  · simp only [Value.slice.injEq, Option.some.injEq] at hv
    obtain ⟨rfl, _⟩ := hv
    simp [World.frozen?, hg]
theorem FrQ.rd (h : FrQ w B v q) : RdQ w B v q := by
  obtain ⟨vs, h1, h2⟩ := h
  exact ⟨vs, h1, fun i u x hu hx => (h2 i u x hu hx).1⟩
theorem FrQ.shape' (h : FrQ w B v q) : ∃ a c, v = .slice a q.length c := h.rd.shape'
theorem FrQ.shape (h : FrQ w B v q) : ∃ a m c, v = .slice a m c ∧ m = q.length := h.rd.shape
theorem FrQ.mono (h : FrQ w B v q) (hB : B' ≤ B) : FrQ w B' v q := by
  obtain ⟨vs, h1, h2⟩ := h
  exact ⟨vs, h1.mono hB, fun i u x hu hx => (h2 i u x hu hx).mono hB⟩
theorem FrQ.below (h : FrQ w B v q) (hb : Below w.heap.size w w') : FrQ w' B v q := by
  obtain ⟨vs, h1, h2⟩ := h
  exact ⟨vs, h1.below hb, fun i u x hu hx => (h2 i u x hu hx).below hb⟩
theorem FrQ.alloc (h : FrQ w B v q) (ob : Obj) : FrQ (w.alloc ob) B v q := h.below ((Below.refl _ _).alloc (Nat.le_refl _) _)
theorem FrQ.low (h : FrQ w B v q) (hg : g < B) : FrQ (w.setCell ⟨g, o, none⟩ u) B v q := by
  obtain ⟨vs, h1, h2⟩ := h
  exact ⟨vs, h1.low hg, fun i u x hu hx => (h2 i u x hu hx).low hg⟩
theorem OwnQ.fq (h : OwnQ w B v q) : FrQ w B v q := by
  obtain ⟨vs, h1, h2⟩ := h
  exact ⟨vs, Sl.of_own h1, fun i u x hu hx => (h2 i u x hu hx).fi⟩
theorem FrQ.empty (h : FrQ W B v q) (hq : q = []) : FrQ W' B' v q := by
  subst hq
  obtain ⟨vs, ⟨ao, cap, hv, h1, h2, h3, _⟩, _⟩ := h
  exact ⟨vs, ⟨ao, cap, hv, h1, h2, h3, fun h0 => absurd h0 (by simp)⟩, fun i u x hu hx => by simp at hx⟩
theorem FrQ.tail {b off m d : Nat} {x : List Int} {t k : List (List Int)} (h : FrQ w B (.slice (some ⟨b, off, none⟩) m d) k) (hk : k = x :: t) : FrQ w B (.slice (if d = 1 then some ⟨b, off, none⟩ else some ⟨b, off + 1, none⟩) (m - 1) (d - 1)) t := by
  subst hk
  obtain ⟨vs, ⟨ao, cap, hv, h1, h2, h3, hp⟩, hi⟩ := h
  simp only [Value.slice.injEq, List.length_cons] at hv
  obtain ⟨rfl, rfl, rfl⟩ := hv
  simp only [List.length_cons] at h1 h3 hp
  obtain ⟨b', off', ha, hB, hbs, hc⟩ := hp (by omega)
  simp only [Option.some.injEq, Addr.mk.injEq, and_true] at ha
  obtain ⟨rfl, rfl⟩ := ha
  rw [Nat.add_sub_cancel]
  match vs, h3 with
  | u :: us, h3 =>
    refine ⟨us, ⟨_, _, rfl, by omega, ?_, by simp at h3; omega, fun h0 => ?_⟩, fun i u' x' hu' hx' => hi (i + 1) u' x' hu' hx'⟩
    · intro h; split at h <;> cases h
    · rw [if_neg (by omega)]
      refine ⟨b, off + 1, rfl, hB, hbs, fun j v hj => ?_⟩
      have := hc (j + 1) v hj
      rw [show off + 1 + j = off + (j + 1) by omega]
      exact this
end
section
variable {w W W' : World} {nm : ByteArray} {k : Int} {o : Bool} {s d r : Int} {vq0 vw0 : Value} {n0 : Int} {g : Nat} {vq vw : Value} {n : Int} {q : List (List Int)} {l : List Wt}
theorem QM.lastZ (h : QM w W nm k o s d r vq0 vw0 n0 g vq vw n q l) (x y z : Value) : FrQ (fin3 w W x y z) w.heap.size vq q ∧ FrW (fin3 w W x y z) w.heap.size vw l ∧ Below w.heap.size w (fin3 w W x y z) :=
  ⟨(((h.oq.fq.low (by omega)).low (by omega)).low (by omega)).mono (by omega), (((h.fr.low (by omega)).low (by omega)).low (by omega)).mono (by omega), below_fin3 h.bel x y z⟩
theorem QM.lastDZ (h : QM w W nm k o s d r vq0 vw0 n0 g vq vw n q l) (x y z : Value) : FrQ (fin3 w W.drew x y z) w.heap.size vq q ∧ FrW (fin3 w W.drew x y z) w.heap.size vw l ∧ Below w.heap.size w (fin3 w W.drew x y z) := by
  obtain ⟨h1, h2, h3⟩ := h.lastZ x y z
  exact ⟨h1, h2, ⟨h3.os, h3.tape, h3.output, h3.size, h3.block⟩⟩
end
def RetQZ (w : World) (q : List (List Int)) (l : List Wt) (n : Int) (x y : Value) (e : Ending) (w' : World) : Prop :=
  ∃ vq vw, e = .returned (.tuple #[.agg #[vq, vw, .int .i64 n], x, y]) ∧ FrQ w' w.heap.size vq q ∧ FrW w' w.heap.size vw l ∧ Below w.heap.size w w'
def RetQ1Z (w : World) (q : List (List Int)) (l : List Wt) (n : Int) (y : Value) (e : Ending) (w' : World) : Prop :=
  ∃ vq vw, e = .returned (.tuple #[.agg #[vq, vw, .int .i64 n], y]) ∧ FrQ w' w.heap.size vq q ∧ FrW w' w.heap.size vw l ∧ Below w.heap.size w w'
def RetTZ (w : World) (q : List (List Int)) (l : List Wt) (n : Int) (x : List Int) (y : Value) (e : Ending) (w' : World) : Prop :=
  ∃ vq vw vx, e = .returned (.tuple #[.agg #[vq, vw, .int .i64 n], vx, y]) ∧ FrQ w' w.heap.size vq q ∧ FrW w' w.heap.size vw l ∧ FrI w' w.heap.size vx x ∧ Below w.heap.size w w'
def RetCZ (w : World) (q : List (List Int)) (l : List Wt) (n : Int) (x : List Int) (z y : Value) (e : Ending) (w' : World) : Prop :=
  ∃ vq vw vx, e = .returned (.tuple #[.agg #[vq, vw, .int .i64 n], vx, z, y]) ∧ FrQ w' w.heap.size vq q ∧ FrW w' w.heap.size vw l ∧ FrI w' w.heap.size vx x ∧ Below w.heap.size w w'
section
variable {w W W' : World} {nm : ByteArray} {k : Int} {o : Bool} {s d r : Int} {vq0 vw0 : Value} {n0 : Int} {g : Nat} {vq vw : Value} {n : Int} {q : List (List Int)} {l : List Wt}
/-- The first message is taken. -/
theorem QM.takeZ {b off m c : Nat} {x : List Int} {t : List (List Int)} (h : QM w W nm k o s d r vq0 vw0 n0 g (.slice (some ⟨b, off, none⟩) m c) vw n q l) (hk : q = x :: t) (tv y1 y2 y3 : Value) :
    FrQ (fin3 w (W.setCell ⟨g, 0, none⟩ tv) y1 y2 y3) w.heap.size (.slice (if c = 1 then some ⟨b, off, none⟩ else some ⟨b, off + 1, none⟩) (m - 1) (c - 1)) t ∧ FrW (fin3 w (W.setCell ⟨g, 0, none⟩ tv) y1 y2 y3) w.heap.size vw l ∧
    Below w.heap.size w (fin3 w (W.setCell ⟨g, 0, none⟩ tv) y1 y2 y3) ∧ ∀ u, W.cell? ⟨b, off, none⟩ = some u → FrI (fin3 w (W.setCell ⟨g, 0, none⟩ tv) y1 y2 y3) w.heap.size u x := by
  have hge := h.ge
  have hq : OwnQ (fin3 w (W.setCell ⟨g, 0, none⟩ tv) y1 y2 y3) (w.heap.size + 3) (.slice (some ⟨b, off, none⟩) m c) q := (((h.oq.oth h.obj (by decide) (by decide)).low (by omega)).low (by omega)).low (by omega)
  refine ⟨(hq.fq.tail hk).mono (by omega), ((((frW_set h.fr h.ap).low (by omega)).low (by omega)).low (by omega)).mono (by omega), below_fin3 (h.bel.setCell (p := ⟨g, 0, none⟩) (by show _ ≤ g; omega) tv) _ _ _, fun u hu => ?_⟩
  obtain ⟨vs, ho, hin⟩ := h.oq
  have hs := Sl.of_own ho
  subst hk
  match vs, ho with
  | [], ho => have := ho.1; simp at this
  | u0 :: us, ho =>
    obtain ⟨ao, cp, hv, _, _, _, hp⟩ := hs
    obtain ⟨b', off', ha, _, _, hc⟩ := hp (by simp)
    simp only [Value.slice.injEq] at hv
    obtain ⟨rfl, _, _⟩ := hv
    simp only [Option.some.injEq, Addr.mk.injEq, and_true] at ha
    obtain ⟨rfl, rfl⟩ := ha
    have h0 := hc 0 u0 rfl
    rw [Nat.add_zero, hu] at h0
    simp only [Option.some.injEq] at h0
    subst h0
    have hb : OwnB W (w.heap.size + 3) u x := hin 0 u x rfl rfl
    have hb' : OwnB (fin3 w (W.setCell ⟨g, 0, none⟩ tv) y1 y2 y3) (w.heap.size + 3) u x := own_low (own_low (own_low (own_oth hb h.obj (by decide)) (by omega)) (by omega)) (by omega)
    exact hb'.fi.mono (by omega)
end

set_option maxHeartbeats 4000000 in
set_option maxRecDepth 100000 in
theorem cancQ_z (nm : ByteArray) (k : Int) (o : Bool) (s d r n : Int) (p : Int) (vq vw : Value) (q : List (List Int)) (l : List Wt) (w : World) (hq : RdQ w 0 vq q) (hw : RdW w 0 vw l) (hwf : WfW l) (hl : l.length ≤ 90000) (hql : q.length ≤ 90000) (hm : ∀ x ∈ q, x.length ≤ 1000000) :
    Calls Try.prog 33 #[.agg #[.string nm, .int .u8 k, .bool o, .int .i64 s, .int .i64 d, .int .i64 r], .agg #[vq, vw, .int .i64 n], .int .i64 p] w (RetQ1Z w q (cancQ k s d r q l n p).1 n (.int .i64 (cancQ k s d r q l n p).2)) := by
  obtain ⟨aq, cq, rfl⟩ := hq.shape'
  obtain ⟨aw, cw, rfl, hnc, hno, hpw⟩ := hw.open_
  clear hnc hno hpw
  have HRQ := Lib.hid hq
  have HRW := Lib.hid hw
  have HWF := Lib.hid hwf
  have HM := Lib.hid hm
  have hW3 : W3 w nm k o s d r (.slice aq q.length cq) (.slice aw l.length cw) n = ((w.alloc (.cells #[.string nm, .int .u8 k, .bool o, .int .i64 s, .int .i64 d, .int .i64 r] 23)).alloc (.cells #[.slice aq q.length cq, .slice aw l.length cw, .int .i64 n] 27)).alloc (.cells #[.slice none 0 0, .slice none 0 0, .int .i64 0] 27) := rfl
  have HW3 := Lib.hid hW3
  clear hq hw hwf hm hW3
  cases k1 : vldQ k s d r q l n with
  | false =>
    rw [show cancQ k s d r q l n p = (l, 2) by simp [cancQ, k1]]
    have K1 := Lib.hid k1
    clear k1
    go_enter Try.func33, Try.ntmps33
    go_wp2_with fail
    rw [← HW3.out]
    refine (ownQ_c _ _ q l n _ (HRQ.out.below w3_below) (HRW.out.below w3_below) (by omega) (by omega) HM.out).mono ?_
    rintro e w1 ⟨vq1, vw1, rfl, oq1, fr1, b1⟩
    obtain ⟨a1, c1, rfl⟩ := oq1.rd.shape'
    obtain ⟨a2, c2, rfl⟩ := fr_slice fr1
    obtain ⟨p0, p1, p2, p3, p4, p5⟩ := sixBlk ((b1.block _ (by rw [w3_size]; omega)).trans w3_prt)
    obtain ⟨g0, g1, g2, g3, g4, g5⟩ := threeBlk ((b1.block _ (by rw [w3_size]; omega)).trans w3_arg)
    have hs1 : w.heap.size + 3 ≤ w1.heap.size := by have := b1.size; rw [w3_size] at this; exact this
    have hp1 : w.heap.size < w1.heap.size := by omega
    have ha1 : w.heap.size + 1 < w1.heap.size := by omega
    have hr1 : w.heap.size + 1 + 1 < w1.heap.size := by omega
    have M1 := Lib.hid (QM.new (n := n) oq1 fr1 b1)
    clear oq1 fr1 b1 HW3
    go_wp2_with fail
    obtain ⟨W1, hW1⟩ : ∃ W1, W1 = w1.alloc (.cells #[.slice a1 q.length c1, .slice a2 l.length c2, .int .i64 n] 27) := ⟨_, rfl⟩
    rw [← hW1] at M1 ⊢
    clear hW1 p0 p1 p2 p3 p4 p5 g0 g1 g2 g3 g4 g5
    have hv := validQ_c nm k o s d r n _ _ q l W1 (HRQ.out.below M1.out.bel) (HRW.out.below M1.out.bel) HWF.out (by omega) (by omega)
    rw [K1.out] at hv
    refine hv.mono ?_
    clear hv
    rintro e w2 ⟨rfl, b2⟩
    have M2 := Lib.hid (M1.out.next b2)
    clear b2 M1
    obtain ⟨p0, p1, p2, p3, p4, p5⟩ := sixBlk M2.out.prt
    obtain ⟨g0, g1, g2, g3, g4, g5⟩ := threeBlk M2.out.arg
    obtain ⟨r0, r1, r2, r3, r4, r5⟩ := threeBlk M2.out.res
    obtain ⟨o0, o1, o2, o3, o4, o5⟩ := threeBlk M2.out.obj
    have hos := blk_lt M2.out.obj
    have hps := blk_lt M2.out.prt
    have has := blk_lt M2.out.arg
    have hrs := blk_lt M2.out.res
    go_wp2_with fail
    refine bodyPost_ret (v := .tuple #[.agg #[.slice a1 q.length c1, .slice a2 l.length c2, .int .i64 n], .int .i64 2]) (by simp [results, Try.results33, go_sem, r0, r1, r2]) rfl ?_
    exact ⟨_, _, rfl, M2.out.lastZ _ _ _⟩
  | true =>
    rw [show cancQ k s d r q l n p = (leaveW l p, 0) by simp [cancQ, k1]]
    have K1 := Lib.hid k1
    clear k1
    go_enter Try.func33, Try.ntmps33
    go_wp2_with fail
    rw [← HW3.out]
    refine (ownQ_c _ _ q l n _ (HRQ.out.below w3_below) (HRW.out.below w3_below) (by omega) (by omega) HM.out).mono ?_
    rintro e w1 ⟨vq1, vw1, rfl, oq1, fr1, b1⟩
    obtain ⟨a1, c1, rfl⟩ := oq1.rd.shape'
    obtain ⟨a2, c2, rfl⟩ := fr_slice fr1
    obtain ⟨p0, p1, p2, p3, p4, p5⟩ := sixBlk ((b1.block _ (by rw [w3_size]; omega)).trans w3_prt)
    obtain ⟨g0, g1, g2, g3, g4, g5⟩ := threeBlk ((b1.block _ (by rw [w3_size]; omega)).trans w3_arg)
    have hs1 : w.heap.size + 3 ≤ w1.heap.size := by have := b1.size; rw [w3_size] at this; exact this
    have hp1 : w.heap.size < w1.heap.size := by omega
    have ha1 : w.heap.size + 1 < w1.heap.size := by omega
    have hr1 : w.heap.size + 1 + 1 < w1.heap.size := by omega
    have M1 := Lib.hid (QM.new (n := n) oq1 fr1 b1)
    clear oq1 fr1 b1 HW3
    go_wp2_with fail
    obtain ⟨W1, hW1⟩ : ∃ W1, W1 = w1.alloc (.cells #[.slice a1 q.length c1, .slice a2 l.length c2, .int .i64 n] 27) := ⟨_, rfl⟩
    rw [← hW1] at M1 ⊢
    clear hW1 p0 p1 p2 p3 p4 p5 g0 g1 g2 g3 g4 g5
    have hv := validQ_c nm k o s d r n _ _ q l W1 (HRQ.out.below M1.out.bel) (HRW.out.below M1.out.bel) HWF.out (by omega) (by omega)
    rw [K1.out] at hv
    refine hv.mono ?_
    clear hv
    rintro e w2 ⟨rfl, b2⟩
    have M2 := Lib.hid (M1.out.next b2)
    clear b2 M1
    obtain ⟨p0, p1, p2, p3, p4, p5⟩ := sixBlk M2.out.prt
    obtain ⟨g0, g1, g2, g3, g4, g5⟩ := threeBlk M2.out.arg
    obtain ⟨r0, r1, r2, r3, r4, r5⟩ := threeBlk M2.out.res
    obtain ⟨o0, o1, o2, o3, o4, o5⟩ := threeBlk M2.out.obj
    have hos := blk_lt M2.out.obj
    have hps := blk_lt M2.out.prt
    have has := blk_lt M2.out.arg
    have hrs := blk_lt M2.out.res
    go_wp2_with fail
    refine (leaveW_c _ l p w2 M2.out.fr.rd (by omega)).mono ?_
    rintro e w3 ⟨v3, rfl, ho3, hb3⟩
    obtain ⟨a3, c3, rfl⟩ := own_slice ho3
    have M3 := Lib.hid (M2.out.leave ho3 hb3)
    clear p0 p1 p2 p3 p4 p5 g0 g1 g2 g3 g4 g5 r0 r1 r2 r3 r4 r5 o0 o1 o2 o3 o4 o5 hos hps has hrs
    obtain ⟨r0, r1, r2, r3, r4, r5⟩ := threeBlk (M2.out.next hb3).res
    obtain ⟨o0, o1, o2, o3, o4, o5⟩ := threeBlk (M2.out.next hb3).obj
    have hos := blk_lt (M2.out.next hb3).obj
    have hrs := blk_lt (M2.out.next hb3).res
    clear ho3 hb3 M2
    generalize (leaveW l p).length = m3 at M3 ⊢
    go_wp2_with fail
    refine bodyPost_ret (v := .tuple #[.agg #[.slice a1 q.length c1, .slice a3 m3 c3, .int .i64 n], .int .i64 0]) (by simp [results, Try.results33, go_sem, r0, r1, r2]) rfl ?_
    exact ⟨_, _, rfl, M3.out.lastZ _ _ _⟩

set_option maxHeartbeats 4000000 in
set_option maxRecDepth 100000 in
theorem takeQ_z (nm : ByteArray) (k : Int) (o : Bool) (s d r n : Int) (vq vw : Value) (q : List (List Int)) (l : List Wt) (w : World) (hq : RdQ w 0 vq q) (hw : RdW w 0 vw l) (hwf : WfW l) (hl : l.length ≤ 90000) (hql : q.length ≤ 90000) (hm : ∀ x ∈ q, x.length ≤ 1000000) :
    Calls Try.prog 31 #[.agg #[.string nm, .int .u8 k, .bool o, .int .i64 s, .int .i64 d, .int .i64 r], .agg #[vq, vw, .int .i64 n]] w (RetTZ w (takeQ k s d r q l n).1 l n (takeQ k s d r q l n).2.1 (.int .i64 (takeQ k s d r q l n).2.2)) := by
  obtain ⟨aq, cq, rfl⟩ := hq.shape'
  obtain ⟨aw, cw, rfl, hnc, hno, hpw⟩ := hw.open_
  clear hnc hno hpw
  have HRQ := Lib.hid hq
  have HRW := Lib.hid hw
  have HWF := Lib.hid hwf
  have HM := Lib.hid hm
  have hW3 : W3 w nm k o s d r (.slice aq q.length cq) (.slice aw l.length cw) n = ((w.alloc (.cells #[.string nm, .int .u8 k, .bool o, .int .i64 s, .int .i64 d, .int .i64 r] 23)).alloc (.cells #[.slice aq q.length cq, .slice aw l.length cw, .int .i64 n] 27)).alloc (.cells #[.slice none 0 0, .slice none 0 0, .int .i64 0] 27) := rfl
  have HW3 := Lib.hid hW3
  clear hq hw hwf hm hW3
  have hway : (vldQ k s d r q l n = false ∧ takeQ k s d r q l n = (q, [], 2)) ∨ (vldQ k s d r q l n = true ∧ q = [] ∧ takeQ k s d r q l n = (q, [], 6)) ∨ (vldQ k s d r q l n = true ∧ ∃ x t, q = x :: t ∧ takeQ k s d r q l n = (t, x, 0)) := by
    unfold takeQ
    cases vldQ k s d r q l n
    · simp
    · cases q with
      | nil => simp
      | cons x t => exact .inr (.inr ⟨rfl, x, t, rfl, rfl⟩)
  rcases hway with ⟨k1, k2⟩ | ⟨k1, kq, k2⟩ | ⟨k1, x, t, kq, k2⟩
  · rw [k2]
    clear k2
    have K1 := Lib.hid k1
    clear k1
    go_enter Try.func31, Try.ntmps31
    go_wp2_with fail
    rw [← HW3.out]
    refine (ownQ_c _ _ q l n _ (HRQ.out.below w3_below) (HRW.out.below w3_below) (by omega) (by omega) HM.out).mono ?_
    rintro e w1 ⟨vq1, vw1, rfl, oq1, fr1, b1⟩
    obtain ⟨a1, c1, rfl⟩ := oq1.rd.shape'
    obtain ⟨a2, c2, rfl⟩ := fr_slice fr1
    obtain ⟨p0, p1, p2, p3, p4, p5⟩ := sixBlk ((b1.block _ (by rw [w3_size]; omega)).trans w3_prt)
    obtain ⟨g0, g1, g2, g3, g4, g5⟩ := threeBlk ((b1.block _ (by rw [w3_size]; omega)).trans w3_arg)
    have hs1 : w.heap.size + 3 ≤ w1.heap.size := by have := b1.size; rw [w3_size] at this; exact this
    have hp1 : w.heap.size < w1.heap.size := by omega
    have ha1 : w.heap.size + 1 < w1.heap.size := by omega
    have hr1 : w.heap.size + 1 + 1 < w1.heap.size := by omega
    have M1 := Lib.hid (QM.new (n := n) oq1 fr1 b1)
    clear oq1 fr1 b1 HW3
    go_wp2_with fail
    obtain ⟨W1, hW1⟩ : ∃ W1, W1 = w1.alloc (.cells #[.slice a1 q.length c1, .slice a2 l.length c2, .int .i64 n] 27) := ⟨_, rfl⟩
    rw [← hW1] at M1 ⊢
    clear hW1 p0 p1 p2 p3 p4 p5 g0 g1 g2 g3 g4 g5
    have hv := validQ_c nm k o s d r n _ _ q l W1 (HRQ.out.below M1.out.bel) (HRW.out.below M1.out.bel) HWF.out (by omega) (by omega)
    rw [K1.out] at hv
    refine hv.mono ?_
    clear hv
    rintro e w2 ⟨rfl, b2⟩
    have M2 := Lib.hid (M1.out.next b2)
    clear b2 M1
    obtain ⟨p0, p1, p2, p3, p4, p5⟩ := sixBlk M2.out.prt
    obtain ⟨g0, g1, g2, g3, g4, g5⟩ := threeBlk M2.out.arg
    obtain ⟨r0, r1, r2, r3, r4, r5⟩ := threeBlk M2.out.res
    obtain ⟨o0, o1, o2, o3, o4, o5⟩ := threeBlk M2.out.obj
    have hos := blk_lt M2.out.obj
    have hps := blk_lt M2.out.prt
    have has := blk_lt M2.out.arg
    have hrs := blk_lt M2.out.res
    go_wp2_with fail
    refine bodyPost_ret (v := .tuple #[.agg #[.slice a1 q.length c1, .slice a2 l.length c2, .int .i64 n], .slice none 0 0, .int .i64 2]) (by simp [results, Try.results31, go_sem, r0, r1, r2]) rfl ?_
    exact ⟨_, _, _, rfl, (M2.out.lastZ _ _ _).1, (M2.out.lastZ _ _ _).2.1, FrI.nil _ _, (M2.out.lastZ _ _ _).2.2⟩
  · rw [k2]
    clear k2
    have K1 := Lib.hid k1
    clear k1
    have hq0 : (q.length == 0) = true := by rw [kq]; rfl
    have hq1 : ((q.length : Int) == 0) = true := by rw [kq]; rfl
    clear kq
    go_enter Try.func31, Try.ntmps31
    go_wp2_with fail
    rw [← HW3.out]
    refine (ownQ_c _ _ q l n _ (HRQ.out.below w3_below) (HRW.out.below w3_below) (by omega) (by omega) HM.out).mono ?_
    rintro e w1 ⟨vq1, vw1, rfl, oq1, fr1, b1⟩
    obtain ⟨a1, c1, rfl⟩ := oq1.rd.shape'
    obtain ⟨a2, c2, rfl⟩ := fr_slice fr1
    obtain ⟨p0, p1, p2, p3, p4, p5⟩ := sixBlk ((b1.block _ (by rw [w3_size]; omega)).trans w3_prt)
    obtain ⟨g0, g1, g2, g3, g4, g5⟩ := threeBlk ((b1.block _ (by rw [w3_size]; omega)).trans w3_arg)
    have hs1 : w.heap.size + 3 ≤ w1.heap.size := by have := b1.size; rw [w3_size] at this; exact this
    have hp1 : w.heap.size < w1.heap.size := by omega
    have ha1 : w.heap.size + 1 < w1.heap.size := by omega
    have hr1 : w.heap.size + 1 + 1 < w1.heap.size := by omega
    have M1 := Lib.hid (QM.new (n := n) oq1 fr1 b1)
    clear oq1 fr1 b1 HW3
    go_wp2_with fail
    obtain ⟨W1, hW1⟩ : ∃ W1, W1 = w1.alloc (.cells #[.slice a1 q.length c1, .slice a2 l.length c2, .int .i64 n] 27) := ⟨_, rfl⟩
    rw [← hW1] at M1 ⊢
    clear hW1 p0 p1 p2 p3 p4 p5 g0 g1 g2 g3 g4 g5
    have hv := validQ_c nm k o s d r n _ _ q l W1 (HRQ.out.below M1.out.bel) (HRW.out.below M1.out.bel) HWF.out (by omega) (by omega)
    rw [K1.out] at hv
    refine hv.mono ?_
    clear hv
    rintro e w2 ⟨rfl, b2⟩
    have M2 := Lib.hid (M1.out.next b2)
    clear b2 M1
    obtain ⟨p0, p1, p2, p3, p4, p5⟩ := sixBlk M2.out.prt
    obtain ⟨g0, g1, g2, g3, g4, g5⟩ := threeBlk M2.out.arg
    obtain ⟨r0, r1, r2, r3, r4, r5⟩ := threeBlk M2.out.res
    obtain ⟨o0, o1, o2, o3, o4, o5⟩ := threeBlk M2.out.obj
    have hos := blk_lt M2.out.obj
    have hps := blk_lt M2.out.prt
    have has := blk_lt M2.out.arg
    have hrs := blk_lt M2.out.res
    go_wp2_with fail
    refine bodyPost_ret (v := .tuple #[.agg #[.slice a1 q.length c1, .slice a2 l.length c2, .int .i64 n], .slice none 0 0, .int .i64 6]) (by simp [results, Try.results31, go_sem, r0, r1, r2]) rfl ?_
    exact ⟨_, _, _, rfl, (M2.out.lastZ _ _ _).1, (M2.out.lastZ _ _ _).2.1, FrI.nil _ _, (M2.out.lastZ _ _ _).2.2⟩
  · rw [k2]
    clear k2
    have K1 := Lib.hid k1
    clear k1
    have hq0 : (q.length == 0) = false := by rw [kq]; rfl
    have hq1 : ((q.length : Int) == 0) = false := by rw [kq]; simp; omega
    have hq2 : 0 < q.length := by rw [kq]; simp
    have KQ := Lib.hid kq
    clear kq
    go_enter Try.func31, Try.ntmps31
    go_wp2_with fail
    rw [← HW3.out]
    refine (ownQ_c _ _ q l n _ (HRQ.out.below w3_below) (HRW.out.below w3_below) (by omega) (by omega) HM.out).mono ?_
    rintro e w1 ⟨vq1, vw1, rfl, oq1, fr1, b1⟩
    obtain ⟨a1, c1, rfl⟩ := oq1.rd.shape'
    obtain ⟨a2, c2, rfl⟩ := fr_slice fr1
    obtain ⟨p0, p1, p2, p3, p4, p5⟩ := sixBlk ((b1.block _ (by rw [w3_size]; omega)).trans w3_prt)
    obtain ⟨g0, g1, g2, g3, g4, g5⟩ := threeBlk ((b1.block _ (by rw [w3_size]; omega)).trans w3_arg)
    have hs1 : w.heap.size + 3 ≤ w1.heap.size := by have := b1.size; rw [w3_size] at this; exact this
    have hp1 : w.heap.size < w1.heap.size := by omega
    have ha1 : w.heap.size + 1 < w1.heap.size := by omega
    have hr1 : w.heap.size + 1 + 1 < w1.heap.size := by omega
    have M1 := Lib.hid (QM.new (n := n) oq1 fr1 b1)
    clear oq1 fr1 b1 HW3
    go_wp2_with fail
    obtain ⟨W1, hW1⟩ : ∃ W1, W1 = w1.alloc (.cells #[.slice a1 q.length c1, .slice a2 l.length c2, .int .i64 n] 27) := ⟨_, rfl⟩
    rw [← hW1] at M1 ⊢
    clear hW1 p0 p1 p2 p3 p4 p5 g0 g1 g2 g3 g4 g5
    have hv := validQ_c nm k o s d r n _ _ q l W1 (HRQ.out.below M1.out.bel) (HRW.out.below M1.out.bel) HWF.out (by omega) (by omega)
    rw [K1.out] at hv
    refine hv.mono ?_
    clear hv
    rintro e w2 ⟨rfl, b2⟩
    have M2 := Lib.hid (M1.out.next b2)
    clear b2 M1
    obtain ⟨p0, p1, p2, p3, p4, p5⟩ := sixBlk M2.out.prt
    obtain ⟨g0, g1, g2, g3, g4, g5⟩ := threeBlk M2.out.arg
    obtain ⟨r0, r1, r2, r3, r4, r5⟩ := threeBlk M2.out.res
    obtain ⟨o0, o1, o2, o3, o4, o5⟩ := threeBlk M2.out.obj
    have hos := blk_lt M2.out.obj
    have hps := blk_lt M2.out.prt
    have has := blk_lt M2.out.arg
    have hrs := blk_lt M2.out.res
    obtain ⟨hlen, hc0, b, off, u, rfl, hBb, hbs, cu0, hru⟩ := M2.out.oq.rd.head KQ.out
    obtain ⟨au, mu, cu, rfl⟩ : ∃ a m c, u = .slice a m c := by obtain ⟨a, c, hv, _⟩ := hru.open_; exact ⟨a, _, c, hv⟩
    have hbg : ¬ (b = w1.heap.size) := M2.out.ne_row
    have CU := Lib.hid cu0
    clear hlen hru
    by_cases hc1 : c1 = 1
    · subst hc1
      have TT := Lib.hid (fun tv x y z => M2.out.takeZ KQ.out tv x y z)
      clear M2
      go_wp2_with fail
      refine bodyPost_ret (v := .tuple #[.agg #[.slice (some ⟨b, off, none⟩) (q.length - 1) 0, .slice a2 l.length c2, .int .i64 n], .slice au mu cu, .int .i64 0]) (by simp [results, Try.results31, go_sem, r0, r1, r2]) rfl ?_
      have h4 := TT.out (.slice (some ⟨b, off, none⟩) (q.length - 1) 0) (.slice (some ⟨b, off, none⟩) (q.length - 1) 0) (.slice a2 l.length c2) (.int .i64 n)
      first | rw [if_pos rfl] at h4 | rw [if_pos trivial] at h4
      exact ⟨_, _, _, rfl, h4.1, h4.2.1, h4.2.2.2 _ CU.out, h4.2.2.1⟩
    · have TT := Lib.hid (fun tv x y z => M2.out.takeZ KQ.out tv x y z)
      clear M2
      go_wp2_with fail
      refine bodyPost_ret (v := .tuple #[.agg #[.slice (some ⟨b, off + 1, none⟩) (q.length - 1) (c1 - 1), .slice a2 l.length c2, .int .i64 n], .slice au mu cu, .int .i64 0]) (by simp [results, Try.results31, go_sem, r0, r1, r2]) rfl ?_
      have h4 := TT.out (.slice (some ⟨b, off + 1, none⟩) (q.length - 1) (c1 - 1)) (.slice (some ⟨b, off + 1, none⟩) (q.length - 1) (c1 - 1)) (.slice a2 l.length c2) (.int .i64 n)
      first | rw [if_neg hc1] at h4 | rw [if_pos trivial] at h4
      exact ⟨_, _, _, rfl, h4.1, h4.2.1, h4.2.2.2 _ CU.out, h4.2.2.1⟩
end Go.Proofs.Ytglbfmcbojjglaa

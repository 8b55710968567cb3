/-
  nacellelaw23.awake returns true, whatever the memory. No conditions.
-/
import Derived.Test.YtglbfmcbojjglaaQueH
import Derived.Test.YtglbfmcbojjglaaWl
import Derived.Laws.BytesArg
namespace Go.Proofs.Ytglbfmcbojjglaa
open Go.RowKit

/-- A variable of a state, in straight code. -/
structure LQ (W : World) (g : Nat) (vq vw : Value) (n : Int) (q : List (List Int)) (l : List Wt) : Prop where
  blk : W.heap[g]? = some (.cells #[vq, vw, .int .i64 n] 27 (0, 0))
  rq : RdQ W 0 vq q
  fr : FrW W 0 vw l
section
variable {W W' : World} {g B : Nat} {vq vw vq' vw' : Value} {n n' : Int} {q q' : List (List Int)} {l l' : List Wt}
theorem LQ.next (h : LQ W g vq vw n q l) (hb : Below W.heap.size W W') : LQ W' g vq vw n q l := ⟨(hb.block _ (blk_lt h.blk)).trans h.blk, h.rq.below hb, h.fr.below hb⟩
theorem LQ.alloc (h : LQ W g vq vw n q l) (o : Obj) : LQ (W.alloc o) g vq vw n q l := h.next ((Below.refl _ _).alloc (Nat.le_refl _) _)
theorem LQ.new (hq : RdQ W B vq q) (hf : FrW W B vw l) : LQ (W.alloc (.cells #[vq, vw, .int .i64 n] 27)) W.heap.size vq vw n q l :=
  ⟨heap_alloc_new W _, (hq.mono (Nat.zero_le _)).alloc _, (hf.mono (Nat.zero_le _)).alloc _⟩
/-- The three cells of a state's variable are written. -/
def put3 (W : World) (g : Nat) (x y z : Value) : World := ((W.setCell ⟨g, 0, none⟩ x).setCell ⟨g, 1, none⟩ y).setCell ⟨g, 2, none⟩ z
theorem put3_size (W : World) (g : Nat) (x y z : Value) : (put3 W g x y z).heap.size = W.heap.size := by simp [put3, World.setCell]
theorem put3_below {B : Nat} {a : World} (h : Below B a W) (hg : B ≤ g) (x y z : Value) : Below B a (put3 W g x y z) :=
  ((h.setCell (p := ⟨g, 0, none⟩) hg x).setCell (p := ⟨g, 1, none⟩) hg y).setCell (p := ⟨g, 2, none⟩) hg z
theorem put3_blk {a b c x y z : Value} {t : TypeId} (h : W.heap[g]? = some (.cells #[a, b, c] t (0, 0))) : (put3 W g x y z).heap[g]? = some (.cells #[x, y, z] t (0, 0)) :=
  (set3 (set3 (set3 h x).1 y).2.1 z).2.2
theorem LQ.put (h : LQ W g vq vw n q l) (hq : RdQ W B vq' q') (hf : FrW W B vw' l') (hB : g < B) (n' : Int) : LQ (put3 W g vq' vw' (.int .i64 n')) g vq' vw' n' q' l' :=
  ⟨put3_blk h.blk, (((hq.low hB).low hB).low hB).mono (Nat.zero_le _), (((hf.low hB).low hB).low hB).mono (Nat.zero_le _)⟩
theorem LQ.cells (h : LQ W g vq vw n q l) : W.cell? ⟨g, 0, none⟩ = some vq ∧ W.cell? ⟨g, 1, none⟩ = some vw ∧ W.cell? ⟨g, 2, none⟩ = some (.int .i64 n) ∧ W.frozen? ⟨g, 0, none⟩ = false ∧ W.frozen? ⟨g, 1, none⟩ = false ∧ W.frozen? ⟨g, 2, none⟩ = false := threeBlk h.blk
end
theorem RdI.one' {k : IntKind} {w : World} {t : TypeId} {g : Nat} (n : Int) (hg : w.heap.size = g) : RdI k (w.alloc (.cells #[.int k n] t)) 0 (.slice (some ⟨g, 0, none⟩) 1 1) [n] := by
  subst hg
  exact RdI.one w t n
theorem rdW_lit {W : World} {g : Nat} {t : TypeId} (l : List Wt) (hg : W.heap.size = g) : RdW (W.alloc (.cells (cellsW l).toArray t)) 0 (.slice (some ⟨g, 0, none⟩) l.length l.length) l := by
  subst hg
  refine ⟨_, _, rfl, Nat.le_refl _, by simp, by rw [cellsW_length], fun _ => ⟨W.heap.size, 0, rfl, Nat.zero_le _, by simp, fun j u hj => ?_⟩⟩
  have h := heap_alloc_new W (.cells (cellsW l).toArray t)
  simp only [World.cell?, h]
  simpa using hj
/-- What a message is as a string. -/
theorem RdI.str {w : World} {B m c : Nat} {a : Option Addr} {x : List Int} (h : RdI .u8 w B (.slice a m c) x) : (convert 28 9 (.slice a m c)).run Try.prog w = .ok (.string (strOfNums x)) w := by
  obtain ⟨ao, cap, hv, hnc, hno, hp⟩ := h.open_
  simp only [Value.slice.injEq] at hv
  obtain ⟨rfl, rfl, rfl⟩ := hv
  by_cases h0 : 0 < x.length
  · obtain ⟨b, off, rfl, _, _, hc⟩ := hp h0
    refine run_convert_bytes_arg (P := Try.prog) w 28 5 Try.underlying28 Try.underlying5 b off _ _ x rfl (fun i hi => ?_) 9 Try.underlying9
    rw [hc i hi]
    simp [List.getD, List.getElem?_eq_getElem hi]
  · have hx : x = [] := List.eq_nil_of_length_eq_zero (by omega)
    subst hx
    rw [run_convert_bytes_string w 28 9 5 _ _ _ Try.underlying28 Try.underlying5 Try.underlying9]
    cases a <;> simp [Conv.bytesToString, loadCells]
    all_goals rfl

theorem aq1 : sendQ 2 2 1 0 [] [] 0 [7] = ([[7]], [], 0, -1, 0) := by decide
theorem aq2 : sendQ 2 2 1 0 [[7]] [] 0 [8] = ([[7]], [], 1, -1, 4) := by decide
theorem aq3 : recvQ 2 2 1 0 [[7]] [] 1 0 1 = ([], [], [7], true, 0) := by decide
theorem aq4 : recvQ 2 2 1 0 [] [] 1 0 1 = ([], [⟨0, 1, 0⟩], [], false, 0) := by decide
theorem aq5 : recvQ 2 2 1 0 [] [⟨0, 1, 0⟩] 1 1 3 = ([], [⟨1, 3, 0⟩, ⟨0, 1, 0⟩], [], false, 0) := by decide
theorem aq6 : recvQ 2 2 1 0 [] [⟨1, 3, 0⟩, ⟨0, 1, 0⟩] 1 2 3 = ([], [⟨1, 3, 0⟩, ⟨2, 3, 0⟩, ⟨0, 1, 0⟩], [], false, 0) := by decide
theorem aq8 : sendQ 2 2 1 0 [] [⟨1, 3, 0⟩, ⟨2, 3, 0⟩, ⟨0, 1, 0⟩] 1 [9] = ([], [⟨2, 3, 0⟩, ⟨0, 1, 0⟩], 1, 1, 0) := by decide
theorem aq9 : cancQ 2 2 1 0 [] [⟨2, 3, 0⟩, ⟨0, 1, 0⟩] 1 2 = ([⟨0, 1, 0⟩], 0) := by decide
theorem aq10 : sendQ 2 2 1 0 [] [⟨0, 1, 0⟩] 1 [5] = ([], [], 1, 0, 0) := by decide
theorem aq11 : sendQ 2 2 1 0 [] [] 1 [6] = ([[6]], [], 1, -1, 0) := by decide

set_option maxHeartbeats 4000000 in
set_option maxRecDepth 100000 in
theorem awake23_c (w : World) : Calls Try.prog 25 #[] w fun e w' => e = .returned (.bool true) ∧ Below w.heap.size w w' := by
  go_enter Try.func25, Try.ntmps25
  go_upto_region 2 with (fail)
  obtain ⟨W0, hW0⟩ : ∃ W0, W0 = w.alloc (.cells #[.string ⟨#[]⟩, .int .u8 2, .bool false, .int .i64 2, .int .i64 1, .int .i64 0] 23) := ⟨_, rfl⟩
  have PB : Hid (W0.heap[w.heap.size]? = some (.cells #[.string ⟨#[]⟩, .int .u8 2, .bool false, .int .i64 2, .int .i64 1, .int .i64 0] 23 (0, 0))) := by subst hW0; exact heap_alloc_new w _
  have HB0 : Hid (Below w.heap.size w W0) := by subst hW0; exact (Below.refl _ w).alloc (Nat.le_refl _) _
  have hps : w.heap.size < W0.heap.size := by subst hW0; simp
  rw [← hW0]
  clear hW0
  obtain ⟨p0, p1, p2, p3, p4, p5⟩ := sixBlk PB.out
  go_wp2_with fail
  have h1 := sendQ_c ⟨#[]⟩ 2 false 2 1 0 0 (.slice (some ⟨W0.heap.size, 0, none⟩) 1 1) [7] (.slice none 0 0) (.slice none 0 0) [] [] (W0.alloc (.cells #[.int .u8 7] 5)) (RdQ.nil _ _) (FrW.nil _ 0).1 (by unfold WfW; decide) (by decide) (by decide) (by simp) (RdI.one' 7 rfl) (by decide)
  rw [aq1] at h1
  refine h1.mono ?_
  clear h1
  rintro e w1 ⟨vq1, vw1, rfl, rq1, fr1, b1⟩
  obtain ⟨a1, m1, c1, rfl, hm1⟩ := rq1.shape
  obtain ⟨d1, k1, e1, rfl, hk1⟩ := fr_shape fr1
  have L1 := Lib.hid (LQ.new (n := 0) rq1 fr1)
  have q1 : Below W0.heap.size W0 w1 := ((Below.refl _ W0).alloc (Nat.le_refl _) _).trans (b1.mono (by simp))
  have HB1 := Lib.hid ((HB0.out.trans (q1.mono HB0.out.size)).alloc (Nat.le_trans HB0.out.size q1.size) (.cells #[.slice a1 m1 c1, .slice d1 k1 e1, .int .i64 0] 27))
  have PB1 := Lib.hid ((q1.block _ hps).trans PB.out)
  have hs1 : w.heap.size + 1 ≤ w1.heap.size := by have := q1.size; omega
  clear rq1 fr1 b1 hm1 hk1 q1 HB0 PB p0 p1 p2 p3 p4 p5
  obtain ⟨p0, p1, p2, p3, p4, p5⟩ := sixBlk PB1.out
  have hp1 : w.heap.size < w1.heap.size := by omega
  obtain ⟨x0, x1, x2, x3, x4, x5⟩ := L1.out.cells
  go_wp2_with fail
  have h2 := sendQ_c ⟨#[]⟩ 2 false 2 1 0 0 (.slice (some ⟨w1.heap.size + 1, 0, none⟩) 1 1) [8] _ _ [[7]] [] ((w1.alloc (.cells #[.slice a1 m1 c1, .slice d1 k1 e1, .int .i64 0] 27)).alloc (.cells #[.int .u8 8] 5)) (L1.out.alloc _).rq (L1.out.alloc _).fr.rd (by unfold WfW; decide) (by decide) (by decide) (by simp) (RdI.one' 8 (by simp)) (by decide)
  rw [aq2] at h2
  refine h2.mono ?_
  clear h2
  rintro e w2 ⟨vq2, vw2, rfl, rq2, fr2, b2⟩
  obtain ⟨a2, m2, c2, rfl, hm2⟩ := rq2.shape
  obtain ⟨d2, k2, e2, rfl, hk2⟩ := fr_shape fr2
  have L2 := Lib.hid (LQ.new (n := 1) rq2 fr2)
  have q2 : Below (w1.alloc (.cells #[.slice a1 m1 c1, .slice d1 k1 e1, .int .i64 0] 27)).heap.size (w1.alloc (.cells #[.slice a1 m1 c1, .slice d1 k1 e1, .int .i64 0] 27)) w2 := ((Below.refl _ _).alloc (Nat.le_refl _) _).trans (b2.mono (by simp))
  have hb2 := HB1.out.trans (q2.mono HB1.out.size)
  have HB2 := Lib.hid (hb2.alloc hb2.size (.cells #[.slice a2 m2 c2, .slice d2 k2 e2, .int .i64 1] 27))
  have PB2 := Lib.hid ((q2.block _ (by simp; omega)).trans ((Below.heap_alloc _ _ _ hp1).trans PB1.out))
  have hs2 : w.heap.size + 1 ≤ w2.heap.size := by have := q2.size; simp at this; omega
  clear rq2 fr2 b2 hm2 hk2 q2 hb2 HB1 PB1 L1 p0 p1 p2 p3 p4 p5 x0 x1 x2 x3 x4 x5
  obtain ⟨p0, p1, p2, p3, p4, p5⟩ := sixBlk PB2.out
  have hp2 : w.heap.size < w2.heap.size := by omega
  obtain ⟨x0, x1, x2, x3, x4, x5⟩ := L2.out.cells
  go_wp2_with fail
  have h3 := recvQ_c ⟨#[]⟩ 2 false 2 1 0 1 0 1 _ _ [[7]] [] (w2.alloc (.cells #[.slice a2 m2 c2, .slice d2 k2 e2, .int .i64 1] 27)) L2.out.rq L2.out.fr.rd (by unfold WfW; decide) (by decide) (by decide) (by simp)
  rw [aq3] at h3
  refine h3.mono ?_
  clear h3
  rintro e w3 ⟨vq3, vw3, vx3, rfl, rq3, fr3, rx3, b3⟩
  obtain ⟨a3, m3, c3, rfl, hm3⟩ := rq3.shape
  obtain ⟨d3, k3, e3, rfl, hk3⟩ := fr_shape fr3
  obtain ⟨f3, n3, g3, rfl⟩ : ∃ a m c, vx3 = .slice a m c := by obtain ⟨a, c, hv, _⟩ := rx3.open_; exact ⟨a, _, c, hv⟩
  have L3 := Lib.hid (LQ.new (n := 1) rq3 fr3)
  have hb3 := HB2.out.trans (b3.mono HB2.out.size)
  have HB3 := Lib.hid (hb3.alloc hb3.size (.cells #[.slice a3 m3 c3, .slice d3 k3 e3, .int .i64 1] 27))
  have D3 := Lib.hid (Below.alloc (Below.refl w3.heap.size w3) (Nat.le_refl _) (.cells #[.slice a3 m3 c3, .slice d3 k3 e3, .int .i64 1] 27))
  have PB3 := Lib.hid ((b3.block _ (by simp; omega)).trans ((Below.heap_alloc _ _ _ hp2).trans PB2.out))
  have LB3 := Lib.hid ((b3.block _ (by simp)).trans (heap_alloc_new w2 (.cells #[.slice a2 m2 c2, .slice d2 k2 e2, .int .i64 1] 27)))
  have RX3 := Lib.hid rx3
  have hs3 : w2.heap.size + 1 ≤ w3.heap.size := by have := b3.size; simpa using this
  clear rq3 fr3 rx3 b3 hm3 hk3 hb3 HB2 PB2 L2 p0 p1 p2 p3 p4 p5 x0 x1 x2 x3 x4 x5
  obtain ⟨p0, p1, p2, p3, p4, p5⟩ := sixBlk PB3.out
  have hp3 : w.heap.size < w3.heap.size := by omega
  obtain ⟨x0, x1, x2, x3, x4, x5⟩ := L3.out.cells
  have hne : ¬ (w.heap.size = w3.heap.size) := by omega
  have hne' : ¬ (w3.heap.size = w.heap.size) := by omega
  go_wp2_with fail
  have h4 := recvQ_c ⟨#[]⟩ 2 false 2 1 0 1 0 1 _ _ [] [] (w3.alloc (.cells #[.slice a3 m3 c3, .slice d3 k3 e3, .int .i64 1] 27)) L3.out.rq L3.out.fr.rd (by unfold WfW; decide) (by decide) (by decide) (by simp)
  rw [aq4] at h4
  refine h4.mono ?_
  clear h4
  rintro e w4 ⟨vq4, vw4, vx4, rfl, rq4, fr4, rx4, b4⟩
  obtain ⟨a4, m4, c4, rfl, hm4⟩ := rq4.shape
  obtain ⟨d4, k4, e4, rfl, hk4⟩ := fr_shape fr4
  obtain ⟨f4, n4, g4, rfl⟩ : ∃ a m c, vx4 = .slice a m c := by obtain ⟨a, c, hv, _⟩ := rx4.open_; exact ⟨a, _, c, hv⟩
  have N4 := L3.out.next b4
  have hg4 : w3.heap.size < w4.heap.size := blk_lt N4.blk
  have L4 := Lib.hid (N4.put rq4 fr4 (by exact blk_lt L3.out.blk) 1)
  have HB4 := Lib.hid (put3_below (g := w3.heap.size) (HB3.out.trans (b4.mono HB3.out.size)) (by omega) (.slice a4 m4 c4) (.slice d4 k4 e4) (.int .i64 1))
  have dd4 := D3.out.trans (b4.mono D3.out.size)
  have D4 := Lib.hid (put3_below (g := w3.heap.size) dd4 (by omega) (.slice a4 m4 c4) (.slice d4 k4 e4) (.int .i64 1))
  clear x0 x1 x2 x3 x4 x5 p0 p1 p2 p3 p4 p5
  obtain ⟨x0, x1, x2, x3, x4, x5⟩ := N4.cells
  obtain ⟨p0, p1, p2, p3, p4, p5⟩ := sixBlk ((dd4.block _ hp3).trans PB3.out)
  have hp4 : w.heap.size < w4.heap.size := by omega
  clear rq4 fr4 rx4 b4 hm4 hk4 dd4 N4 L3 HB3 D3
  go_wp2_with fail
  have h5 := recvQ_c ⟨#[]⟩ 2 false 2 1 0 1 1 3 _ _ [] [⟨0, 1, 0⟩] (put3 w4 w3.heap.size (.slice a4 m4 c4) (.slice d4 k4 e4) (.int .i64 1)) L4.out.rq L4.out.fr.rd (by unfold WfW; decide) (by decide) (by decide) (by simp)
  rw [aq5] at h5
  refine h5.mono ?_
  clear h5
  rintro e w5 ⟨vq5, vw5, vx5, rfl, rq5, fr5, rx5, b5⟩
  obtain ⟨a5, m5, c5, rfl, hm5⟩ := rq5.shape
  obtain ⟨d5, k5, e5, rfl, hk5⟩ := fr_shape fr5
  obtain ⟨f5, n5, g5, rfl⟩ : ∃ a m c, vx5 = .slice a m c := by obtain ⟨a, c, hv, _⟩ := rx5.open_; exact ⟨a, _, c, hv⟩
  have N5 := L4.out.next b5
  have hg5 : w3.heap.size < w5.heap.size := blk_lt N5.blk
  have L5 := Lib.hid (N5.put rq5 fr5 (by exact blk_lt L4.out.blk) 1)
  have HB5 := Lib.hid (put3_below (g := w3.heap.size) (HB4.out.trans (b5.mono HB4.out.size)) (by omega) (.slice a5 m5 c5) (.slice d5 k5 e5) (.int .i64 1))
  have dd5 := D4.out.trans (b5.mono D4.out.size)
  have D5 := Lib.hid (put3_below (g := w3.heap.size) dd5 (by omega) (.slice a5 m5 c5) (.slice d5 k5 e5) (.int .i64 1))
  clear x0 x1 x2 x3 x4 x5 p0 p1 p2 p3 p4 p5
  obtain ⟨x0, x1, x2, x3, x4, x5⟩ := N5.cells
  obtain ⟨p0, p1, p2, p3, p4, p5⟩ := sixBlk ((dd5.block _ hp3).trans PB3.out)
  have hp5 : w.heap.size < w5.heap.size := by omega
  clear rq5 fr5 rx5 b5 hm5 hk5 dd5 N5 L4 HB4 D4
  go_wp2_with fail
  have h6 := recvQ_c ⟨#[]⟩ 2 false 2 1 0 1 2 3 _ _ [] [⟨1, 3, 0⟩, ⟨0, 1, 0⟩] (put3 w5 w3.heap.size (.slice a5 m5 c5) (.slice d5 k5 e5) (.int .i64 1)) L5.out.rq L5.out.fr.rd (by unfold WfW; decide) (by decide) (by decide) (by simp)
  rw [aq6] at h6
  refine h6.mono ?_
  clear h6
  rintro e w6 ⟨vq6, vw6, vx6, rfl, rq6, fr6, rx6, b6⟩
  obtain ⟨a6, m6, c6, rfl, hm6⟩ := rq6.shape
  obtain ⟨d6, k6, e6, rfl, hk6⟩ := fr_shape fr6
  obtain ⟨f6, n6, g6, rfl⟩ : ∃ a m c, vx6 = .slice a m c := by obtain ⟨a, c, hv, _⟩ := rx6.open_; exact ⟨a, _, c, hv⟩
  have N6 := L5.out.next b6
  have hg6 : w3.heap.size < w6.heap.size := blk_lt N6.blk
  have L6 := Lib.hid (N6.put rq6 fr6 (by exact blk_lt L5.out.blk) 1)
  have HB6 := Lib.hid (put3_below (g := w3.heap.size) (HB5.out.trans (b6.mono HB5.out.size)) (by omega) (.slice a6 m6 c6) (.slice d6 k6 e6) (.int .i64 1))
  have dd6 := D5.out.trans (b6.mono D5.out.size)
  have D6 := Lib.hid (put3_below (g := w3.heap.size) dd6 (by omega) (.slice a6 m6 c6) (.slice d6 k6 e6) (.int .i64 1))
  clear x0 x1 x2 x3 x4 x5 p0 p1 p2 p3 p4 p5
  obtain ⟨x0, x1, x2, x3, x4, x5⟩ := N6.cells
  obtain ⟨p0, p1, p2, p3, p4, p5⟩ := sixBlk ((dd6.block _ hp3).trans PB3.out)
  have hp6 : w.heap.size < w6.heap.size := by omega
  clear rq6 fr6 rx6 b6 hm6 hk6 dd6 N6 L5 HB5 D5
  go_wp2_with fail
  have h7 := waiters_c _ (.slice (some ⟨w6.heap.size, 0, none⟩) 3 3) [⟨1, 3, 0⟩, ⟨2, 3, 0⟩, ⟨0, 1, 0⟩] [⟨1, 3, 0⟩, ⟨2, 3, 0⟩, ⟨0, 1, 0⟩] ((put3 w6 w3.heap.size (.slice a6 m6 c6) (.slice d6 k6 e6) (.int .i64 1)).alloc (.cells #[.int .i64 1, .int .i64 3, .int .u8 0, .int .i64 2, .int .i64 3, .int .u8 0, .int .i64 0, .int .i64 1, .int .u8 0] 56)) (L6.out.alloc _).fr.rd (rdW_lit [⟨1, 3, 0⟩, ⟨2, 3, 0⟩, ⟨0, 1, 0⟩] (put3_size _ _ _ _ _)) (by decide) (by decide)
  refine h7.mono ?_
  clear h7
  rintro e w7 ⟨rfl, j7, rfl⟩
  rw [show decide (([⟨1, 3, 0⟩, ⟨2, 3, 0⟩, ⟨0, 1, 0⟩] : List Wt) = [⟨1, 3, 0⟩, ⟨2, 3, 0⟩, ⟨0, 1, 0⟩]) = true from by decide]
  obtain ⟨W7, hW7⟩ : ∃ W7, W7 = (((put3 w6 w3.heap.size (.slice a6 m6 c6) (.slice d6 k6 e6) (.int .i64 1)).alloc (.cells #[.int .i64 1, .int .i64 3, .int .u8 0, .int .i64 2, .int .i64 3, .int .u8 0, .int .i64 0, .int .i64 1, .int .u8 0] 56)).drewN j7) := ⟨_, rfl⟩
  have L7 : Hid (LQ W7 w3.heap.size (.slice a6 m6 c6) (.slice d6 k6 e6) 1 [] [⟨1, 3, 0⟩, ⟨2, 3, 0⟩, ⟨0, 1, 0⟩]) := by
    subst hW7
    have := L6.out.alloc (.cells #[.int .i64 1, .int .i64 3, .int .u8 0, .int .i64 2, .int .i64 3, .int .u8 0, .int .i64 0, .int .i64 1, .int .u8 0] 56)
    exact ⟨this.blk, this.rq, this.fr⟩
  have HB7 : Hid (Below w.heap.size w W7) := by subst hW7; exact below_drewN' (HB6.out.alloc HB6.out.size _) _
  have D7 : Hid (Below w3.heap.size w3 W7) := by subst hW7; exact below_drewN' (D6.out.alloc D6.out.size _) _
  have hW7' : (((((w6.setCell ⟨w3.heap.size, 0, none⟩ (.slice a6 m6 c6)).setCell ⟨w3.heap.size, 1, none⟩ (.slice d6 k6 e6)).setCell ⟨w3.heap.size, 2, none⟩ (.int .i64 1)).alloc (.cells #[.int .i64 1, .int .i64 3, .int .u8 0, .int .i64 2, .int .i64 3, .int .u8 0, .int .i64 0, .int .i64 1, .int .u8 0] 56)).drewN j7) = W7 := hW7.symm
  first | rw [← hW7] | rw [hW7']
  clear hW7 hW7' L6 HB6 D6 x0 x1 x2 x3 x4 x5 p0 p1 p2 p3 p4 p5 hg6 hg5 hg4
  obtain ⟨x0, x1, x2, x3, x4, x5⟩ := L7.out.cells
  obtain ⟨p0, p1, p2, p3, p4, p5⟩ := sixBlk ((D7.out.block _ hp3).trans PB3.out)
  have hg7 : w3.heap.size < W7.heap.size := blk_lt L7.out.blk
  have hp7 : w.heap.size < W7.heap.size := by omega
  go_wp2_with fail
  have h8 := sendQ_c ⟨#[]⟩ 2 false 2 1 0 1 (.slice (some ⟨W7.heap.size, 0, none⟩) 1 1) [9] _ _ [] [⟨1, 3, 0⟩, ⟨2, 3, 0⟩, ⟨0, 1, 0⟩] (W7.alloc (.cells #[.int .u8 9] 5)) (L7.out.alloc _).rq (L7.out.alloc _).fr.rd (by unfold WfW; decide) (by decide) (by decide) (by simp) (RdI.one' 9 rfl) (by decide)
  rw [aq8] at h8
  refine h8.mono ?_
  clear h8
  rintro e w8 ⟨vq8, vw8, rfl, rq8, fr8, b8⟩
  obtain ⟨a8, m8, c8, rfl, hm8⟩ := rq8.shape
  obtain ⟨d8, k8, e8, rfl, hk8⟩ := fr_shape fr8
  have L8 := Lib.hid (LQ.new (n := 1) rq8 fr8)
  have q8 : Below W7.heap.size W7 w8 := ((Below.refl _ _).alloc (Nat.le_refl _) _).trans (b8.mono (by simp))
  have hb8 := HB7.out.trans (q8.mono HB7.out.size)
  have HB8 := Lib.hid (hb8.alloc hb8.size (.cells #[.slice a8 m8 c8, .slice d8 k8 e8, .int .i64 1] 27))
  have dd8 := D7.out.trans (q8.mono D7.out.size)
  have D8 := Lib.hid (dd8.alloc dd8.size (.cells #[.slice a8 m8 c8, .slice d8 k8 e8, .int .i64 1] 27))
  have hs8 : w3.heap.size ≤ w8.heap.size := dd8.size
  clear x0 x1 x2 x3 x4 x5 p0 p1 p2 p3 p4 p5
  obtain ⟨p0, p1, p2, p3, p4, p5⟩ := sixBlk ((dd8.block _ hp3).trans PB3.out)
  have hp8 : w.heap.size < w8.heap.size := by omega
  clear rq8 fr8 b8 hm8 hk8 q8 hb8 dd8 HB7 L7 D7 hg7 hp7
  obtain ⟨x0, x1, x2, x3, x4, x5⟩ := L8.out.cells
  have hna : ¬ (w.heap.size = w8.heap.size) := by omega
  have hna' : ¬ (w8.heap.size = w.heap.size) := by omega
  go_wp2_with fail
  have h9 := cancQ_c ⟨#[]⟩ 2 false 2 1 0 1 2 _ _ [] [⟨2, 3, 0⟩, ⟨0, 1, 0⟩] (w8.alloc (.cells #[.slice a8 m8 c8, .slice d8 k8 e8, .int .i64 1] 27)) L8.out.rq L8.out.fr.rd (by unfold WfW; decide) (by decide) (by decide) (by simp)
  rw [aq9] at h9
  refine h9.mono ?_
  clear h9
  rintro e w9 ⟨vq9, vw9, rfl, rq9, fr9, b9⟩
  obtain ⟨a9, m9, c9, rfl, hm9⟩ := rq9.shape
  obtain ⟨d9, k9, e9, rfl, hk9⟩ := fr_shape fr9
  have N9 := L8.out.next b9
  have hg9 : w8.heap.size < w9.heap.size := blk_lt N9.blk
  have L9 := Lib.hid (N9.put rq9 fr9 (by exact blk_lt L8.out.blk) 1)
  have HB9 := Lib.hid (put3_below (g := w8.heap.size) (HB8.out.trans (b9.mono HB8.out.size)) (by omega) (.slice a9 m9 c9) (.slice d9 k9 e9) (.int .i64 1))
  have dd9 := D8.out.trans (b9.mono D8.out.size)
  have D9 := Lib.hid (put3_below (g := w8.heap.size) dd9 (by omega) (.slice a9 m9 c9) (.slice d9 k9 e9) (.int .i64 1))
  clear x0 x1 x2 x3 x4 x5 p0 p1 p2 p3 p4 p5
  obtain ⟨x0, x1, x2, x3, x4, x5⟩ := N9.cells
  obtain ⟨p0, p1, p2, p3, p4, p5⟩ := sixBlk ((dd9.block _ hp3).trans PB3.out)
  have hp9 : w.heap.size < w9.heap.size := by omega
  clear rq9 fr9 b9 hm9 hk9 dd9 N9 L8 HB8 D8
  go_wp2_with fail
  have h10 := sendQ_c ⟨#[]⟩ 2 false 2 1 0 1 (.slice (some ⟨w9.heap.size, 0, none⟩) 1 1) [5] _ _ [] [⟨0, 1, 0⟩] ((put3 w9 w8.heap.size (.slice a9 m9 c9) (.slice d9 k9 e9) (.int .i64 1)).alloc (.cells #[.int .u8 5] 5)) (L9.out.alloc _).rq (L9.out.alloc _).fr.rd (by unfold WfW; decide) (by decide) (by decide) (by simp) (RdI.one' 5 (put3_size _ _ _ _ _)) (by decide)
  rw [aq10] at h10
  refine h10.mono ?_
  clear h10
  rintro e w10 ⟨vq10, vw10, rfl, rq10, fr10, b10⟩
  obtain ⟨a10, m10, c10, rfl, hm10⟩ := rq10.shape
  obtain ⟨d10, k10, e10, rfl, hk10⟩ := fr_shape fr10
  have N10 := (L9.out.alloc (.cells #[.int .u8 5] 5)).next b10
  have hg10 : w8.heap.size < w10.heap.size := blk_lt N10.blk
  have L10 := Lib.hid (N10.put rq10 fr10 (by exact blk_lt (L9.out.alloc (.cells #[.int .u8 5] 5)).blk) 1)
  have HB10 := Lib.hid (put3_below (g := w8.heap.size) ((HB9.out.alloc HB9.out.size (.cells #[.int .u8 5] 5)).trans (b10.mono (HB9.out.alloc HB9.out.size (.cells #[.int .u8 5] 5)).size)) (by omega) (.slice a10 m10 c10) (.slice d10 k10 e10) (.int .i64 1))
  have dd10 := (D9.out.alloc D9.out.size (.cells #[.int .u8 5] 5)).trans (b10.mono (D9.out.alloc D9.out.size (.cells #[.int .u8 5] 5)).size)
  have D10 := Lib.hid (put3_below (g := w8.heap.size) dd10 (by omega) (.slice a10 m10 c10) (.slice d10 k10 e10) (.int .i64 1))
  clear x0 x1 x2 x3 x4 x5 p0 p1 p2 p3 p4 p5
  obtain ⟨x0, x1, x2, x3, x4, x5⟩ := N10.cells
  obtain ⟨p0, p1, p2, p3, p4, p5⟩ := sixBlk ((dd10.block _ hp3).trans PB3.out)
  have hp10 : w.heap.size < w10.heap.size := by omega
  clear rq10 fr10 b10 hm10 hk10 dd10 N10 L9 HB9 D9
  go_wp2_with fail
  have h11 := sendQ_c ⟨#[]⟩ 2 false 2 1 0 1 (.slice (some ⟨w10.heap.size, 0, none⟩) 1 1) [6] _ _ [] [] ((put3 w10 w8.heap.size (.slice a10 m10 c10) (.slice d10 k10 e10) (.int .i64 1)).alloc (.cells #[.int .u8 6] 5)) (L10.out.alloc _).rq (L10.out.alloc _).fr.rd (by unfold WfW; decide) (by decide) (by decide) (by simp) (RdI.one' 6 (put3_size _ _ _ _ _)) (by decide)
  rw [aq11] at h11
  refine h11.mono ?_
  clear h11
  rintro e w11 ⟨vq11, vw11, rfl, rq11, fr11, b11⟩
  obtain ⟨a11, m11, c11, rfl, hm11⟩ := rq11.shape
  obtain ⟨d11, k11, e11, rfl, hk11⟩ := fr_shape fr11
  have N11 := (L10.out.alloc (.cells #[.int .u8 6] 5)).next b11
  have hg11 : w8.heap.size < w11.heap.size := blk_lt N11.blk
  have L11 := Lib.hid (N11.put rq11 fr11 (by exact blk_lt (L10.out.alloc (.cells #[.int .u8 6] 5)).blk) 1)
  have HB11 := Lib.hid (put3_below (g := w8.heap.size) ((HB10.out.alloc HB10.out.size (.cells #[.int .u8 6] 5)).trans (b11.mono (HB10.out.alloc HB10.out.size (.cells #[.int .u8 6] 5)).size)) (by omega) (.slice a11 m11 c11) (.slice d11 k11 e11) (.int .i64 1))
  have dd11 := (D10.out.alloc D10.out.size (.cells #[.int .u8 6] 5)).trans (b11.mono (D10.out.alloc D10.out.size (.cells #[.int .u8 6] 5)).size)
  have D11 := Lib.hid (put3_below (g := w8.heap.size) dd11 (by omega) (.slice a11 m11 c11) (.slice d11 k11 e11) (.int .i64 1))
  clear x0 x1 x2 x3 x4 x5 p0 p1 p2 p3 p4 p5
  obtain ⟨x0, x1, x2, x3, x4, x5⟩ := N11.cells
  obtain ⟨p0, p1, p2, p3, p4, p5⟩ := sixBlk ((dd11.block _ hp3).trans PB3.out)
  have hp11 : w.heap.size < w11.heap.size := by omega
  obtain ⟨y0, y1, y2, y3, y4, y5⟩ := threeBlk ((dd11.block _ (show w2.heap.size < w3.heap.size by omega)).trans LB3.out)
  have hnb : ¬ (w2.heap.size = w8.heap.size) := by omega
  have hnb' : ¬ (w8.heap.size = w2.heap.size) := by omega
  have hb2 : w2.heap.size < w11.heap.size := by omega
  have hstr : (convert 28 9 (.slice f3 n3 g3)).run Try.prog (((w11.setCell ⟨w8.heap.size, 0, none⟩ (.slice a11 m11 c11)).setCell ⟨w8.heap.size, 1, none⟩ (.slice d11 k11 e11)).setCell ⟨w8.heap.size, 2, none⟩ (.int .i64 1)) = .ok (.string (strOfNums [7])) (((w11.setCell ⟨w8.heap.size, 0, none⟩ (.slice a11 m11 c11)).setCell ⟨w8.heap.size, 1, none⟩ (.slice d11 k11 e11)).setCell ⟨w8.heap.size, 2, none⟩ (.int .i64 1)) := (RX3.out.below D11.out).str
  rw [show strOfNums [7] = ⟨#[7]⟩ from rfl] at hstr
  clear rq11 fr11 b11 dd11 N11 L10 HB10 D10
  obtain rfl : m11 = 1 := hm11
  obtain rfl : k11 = 0 := hk11
  go_wp2_with fail
  go_ret
  exact ⟨rfl, HB11.out⟩
end Go.Proofs.Ytglbfmcbojjglaa

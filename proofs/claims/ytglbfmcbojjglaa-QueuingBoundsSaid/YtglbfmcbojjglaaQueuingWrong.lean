/-
  QueuingWrong: for every port and every number the call returns true, and nothing that was there before has turned. No conditions.
-/
import Derived.Test.YtglbfmcbojjglaaAwake23
import Derived.Test.YtglbfmcbojjglaaPlainG
import Derived.Test.YtglbfmcbojjglaaSame
import Derived.Deep.DeepCutAuto
import Derived.Deep.CutBlock
import Derived.RegionTactic
namespace Go.Proofs.Ytglbfmcbojjglaa
open Go.RowKit

/-- A variable of a port; a variable of a state, with the lists that it leads to. -/
structure PB (W : World) (g : Nat) (nm : ByteArray) (c : Int) (o : Bool) (s d r : Int) : Prop where
  blk : W.heap[g]? = some (.cells #[.string nm, .int .u8 c, .bool o, .int .i64 s, .int .i64 d, .int .i64 r] 23 (0, 0))
structure QR (W : World) (g : Nat) (vq vw : Value) (n : Int) (q : List (List Int)) (l : List Wt) : Prop where
  blk : W.heap[g]? = some (.cells #[vq, vw, .int .i64 n] 27 (0, 0))
  rq : RdQ W 0 vq q
  rw_ : RdW W 0 vw l
section
variable {W W' : World} {g : Nat} {vq vw : Value} {n : Int} {q : List (List Int)} {l : List Wt} {nm : ByteArray} {c : Int} {o : Bool} {s d r : Int}
theorem PB.next (h : PB W g nm c o s d r) (hb : Below W.heap.size W W') : PB W' g nm c o s d r := ⟨(hb.block _ (blk_lt h.blk)).trans h.blk⟩
theorem PB.alloc (h : PB W g nm c o s d r) (ob : Obj) : PB (W.alloc ob) g nm c o s d r := h.next ((Below.refl _ _).alloc (Nat.le_refl _) _)
theorem PB.drew (h : PB W g nm c o s d r) : PB W.drew g nm c o s d r := ⟨h.blk⟩
theorem QR.next (h : QR W g vq vw n q l) (hb : Below W.heap.size W W') : QR W' g vq vw n q l := ⟨(hb.block _ (blk_lt h.blk)).trans h.blk, h.rq.below hb, h.rw_.below hb⟩
theorem QR.alloc (h : QR W g vq vw n q l) (ob : Obj) : QR (W.alloc ob) g vq vw n q l := h.next ((Below.refl _ _).alloc (Nat.le_refl _) _)
theorem QR.drew (h : QR W g vq vw n q l) : QR W.drew g vq vw n q l := ⟨h.blk, h.rq, h.rw_⟩
theorem QR.new (hq : RdQ W 0 vq q) (hw : RdW W 0 vw l) : QR (W.alloc (.cells #[vq, vw, .int .i64 n] 27)) W.heap.size vq vw n q l := ⟨heap_alloc_new W _, hq.alloc _, hw.alloc _⟩
end
theorem rw_shape {W : World} {v : Value} {B : Nat} {l : List Wt} (h : RdW W B v l) : ∃ a m c, v = .slice a m c := by
  obtain ⟨a, c, hv, _⟩ := h.open_
  exact ⟨a, _, c, hv⟩
theorem rq_shape {W : World} {v : Value} {B : Nat} {q : List (List Int)} (h : RdQ W B v q) : ∃ a m c, v = .slice a m c := by
  obtain ⟨a, m, c, hv, _⟩ := h.shape
  exact ⟨a, m, c, hv⟩

theorem allocQ2 (w : World) (o o' : Obj) : ((w.alloc o).alloc o').heap[w.heap.size + 1]? = some o' := by
  have := heap_alloc_new (w.alloc o) o'
  simpa using this
theorem set6 {W : World} {g : Nat} {a b c d e f : Value} {t : TypeId} (h : W.heap[g]? = some (.cells #[a, b, c, d, e, f] t (0, 0))) (x : Value) :
    (W.setCell ⟨g, 1, none⟩ x).heap[g]? = some (.cells #[a, x, c, d, e, f] t (0, 0)) ∧ (W.setCell ⟨g, 3, none⟩ x).heap[g]? = some (.cells #[a, b, c, x, e, f] t (0, 0)) ∧ (W.setCell ⟨g, 4, none⟩ x).heap[g]? = some (.cells #[a, b, c, d, x, f] t (0, 0)) ∧ (W.setCell ⟨g, 5, none⟩ x).heap[g]? = some (.cells #[a, b, c, d, e, x] t (0, 0)) := by
  refine ⟨?_, ?_, ?_, ?_⟩
  · have := heap_setCell_same W g 1 _ _ x h; simpa using this
  · have := heap_setCell_same W g 3 _ _ x h; simpa using this
  · have := heap_setCell_same W g 4 _ _ x h; simpa using this
  · have := heap_setCell_same W g 5 _ _ x h; simpa using this
theorem far_set {W : World} {g b o : Nat} {ob : Obj} {u : Value} (h : W.heap[g]? = some ob) (hne : g ≠ b) : (W.setCell ⟨b, o, none⟩ u).heap[g]? = some ob := (Below.heap_setCell _ _ _ _ hne).trans h
theorem far_alloc {W : World} {g : Nat} {ob o' : Obj} (h : W.heap[g]? = some ob) : (W.alloc o').heap[g]? = some ob := (Below.heap_alloc _ _ _ (blk_lt h)).trans h
theorem rdQ_one {W : World} {g : Nat} (hg : W.heap.size = g) : RdQ ((W.alloc (.cells #[] 5)).alloc (.cells #[.slice (some ⟨g, 0, none⟩) 0 0] 28)) 0 (.slice (some ⟨g + 1, 0, none⟩) 1 1) [[]] := by
  subst hg
  refine ⟨[.slice (some ⟨W.heap.size, 0, none⟩) 0 0], ⟨_, _, rfl, Nat.le_refl _, by simp, rfl, fun _ => ⟨W.heap.size + 1, 0, rfl, Nat.zero_le _, by simp, fun j u hj => ?_⟩⟩, fun i u x hu hx => ?_⟩
  · have h := allocQ2 W (.cells #[] 5) (.cells #[.slice (some ⟨W.heap.size, 0, none⟩) 0 0] 28)
    simp only [World.cell?, h]
    simpa using hj
  · cases i with
    | zero =>
      simp at hu hx
      subst hu
      subst hx
      exact ⟨_, _, rfl, Nat.le_refl _, by simp, rfl, fun h => absurd h (by simp)⟩
    | succ i => simp at hu
theorem sixFz {W : World} {g : Nat} {a b c d e f : Value} {t : TypeId} (h : W.heap[g]? = some (.cells #[a, b, c, d, e, f] t (0, 0))) :
    W.frozen? ⟨g, 0, none⟩ = false ∧ W.frozen? ⟨g, 1, none⟩ = false ∧ W.frozen? ⟨g, 2, none⟩ = false ∧ W.frozen? ⟨g, 3, none⟩ = false ∧ W.frozen? ⟨g, 4, none⟩ = false ∧ W.frozen? ⟨g, 5, none⟩ = false := by
  refine ⟨?_, ?_, ?_, ?_, ?_, ?_⟩ <;> simp [World.frozen?, h]

set_option maxHeartbeats 8000000 in
set_option maxRecDepth 100000 in
theorem queuingWrong_c (nm : ByteArray) (c : Int) (o : Bool) (s d r : Int) (way : Int) (w : World) (hw0 : 0 ≤ way) (hw1 : way ≤ 255) :
    Calls Try.prog 9 #[.agg #[.string nm, .int .u8 c, .bool o, .int .i64 s, .int .i64 d, .int .i64 r], .int .u8 way] w fun e w' => e = .returned (.bool true) ∧ Below w.heap.size w w' := by
  obtain ⟨W0, hW0⟩ : ∃ W0, W0 = (w.alloc (.cells #[.string nm, .int .u8 c, .bool o, .int .i64 s, .int .i64 d, .int .i64 r] 23)).alloc (.cells #[.int .u8 5] 5) := ⟨_, rfl⟩
  have P0 : Hid (PB W0 w.heap.size nm c o s d r) := by
    subst hW0
    exact (PB.mk (heap_alloc_new w _)).alloc _
  have B0 : Hid (Below w.heap.size w W0) := by subst hW0; exact ((Below.refl _ w).alloc (Nat.le_refl _) _).alloc (by simp) _
  have R0 : Hid (RdI .u8 W0 0 (.slice (some ⟨w.heap.size + 1, 0, none⟩) 1 1) [5]) := by subst hW0; exact RdI.one' 5 (by simp)
  have HW0 := Lib.hid hW0
  clear hW0
  go_enter Try.func9, Try.ntmps9
  go_wp2_with fail
  rw [← HW0.out]
  have h1 := sendQ_c nm c o s d r 0 _ [5] _ _ [] [] W0 (RdQ.nil _ _) (FrW.nil W0 0).1 (by unfold WfW; decide) (by decide) (by decide) (by simp) R0.out (by decide)
  cases hv : vldQ c s d r [] [] 0 with
  | false =>
    rw [send_bad hv] at h1
    refine h1.mono ?_
    clear h1 hv
    rintro e w1 ⟨vq1, vw1, rfl, rq1, fr1, b1⟩
    obtain ⟨a1, m1, c1, rfl⟩ := rq_shape rq1
    obtain ⟨d1, k1, e1, rfl⟩ := rw_shape fr1.1
    have HB1 := Lib.hid ((B0.out.trans (b1.mono B0.out.size)).alloc (B0.out.trans (b1.mono B0.out.size)).size (.cells #[.slice a1 m1 c1, .slice d1 k1 e1, .int .i64 0] 27))
    clear rq1 fr1 b1
    go_wp2_with fail
    refine (awake23_c _).mono ?_
    rintro e w9 ⟨rfl, b9⟩
    have HB9 := Lib.hid (HB1.out.trans (b9.mono HB1.out.size))
    clear b9
    go_wp2_with fail
    go_ret
    exact ⟨rfl, HB9.out⟩
  | true =>
    have HV := Lib.hid hv
    rw [send_five hv] at h1
    refine h1.mono ?_
    clear h1 hv
    rintro e w1 ⟨vq1, vw1, rfl, rq1, fr1, b1⟩
    obtain ⟨a1, m1, c1, rfl⟩ := rq_shape rq1
    obtain ⟨d1, k1, e1, rfl⟩ := rw_shape fr1.1
    obtain ⟨W1, hW1⟩ : ∃ W1, W1 = w1.alloc (.cells #[.slice a1 m1 c1, .slice d1 k1 e1, .int .i64 0] 27) := ⟨_, rfl⟩
    have B1 : Hid (Below w.heap.size w W1) := by subst hW1; exact (B0.out.trans (b1.mono B0.out.size)).alloc (B0.out.trans (b1.mono B0.out.size)).size _
    have P1 : Hid (PB W1 w.heap.size nm c o s d r) := by subst hW1; exact (P0.out.next b1).alloc _
    have S1 : Hid (QR W1 w1.heap.size (.slice a1 m1 c1) (.slice d1 k1 e1) 0 [[5]] []) := by subst hW1; exact QR.new (rq1.mono (Nat.zero_le _)) fr1.rd
    have HW1 := Lib.hid hW1
    clear rq1 fr1 b1 P0 B0 R0 HW0 hW1
    go_upto_region 4 with (fail)
    rw [← HW1.out]
    obtain ⟨p0, p1, p2, p3, p4, p5⟩ := sixBlk P1.out.blk
    have hps := blk_lt P1.out.blk
    obtain ⟨x0, x1, x2, _, _, _⟩ := threeBlk S1.out.blk
    have hxs := blk_lt S1.out.blk
    generalize hgs : w1.heap.size = gs at S1 x0 x1 x2 hxs ⊢
    clear hgs HW1
    go_cut [8, 9] (fun s8 s9 wx => ∃ g8 g9, s8 = .pointer (some ⟨g8, 0, none⟩) ∧ s9 = .pointer (some ⟨g9, 0, none⟩) ∧ g8 ≠ g9 ∧ W1.heap.size ≤ g8 ∧ W1.heap.size ≤ g9 ∧ Aside (Below W1.heap.size W1 wx ∧ PB wx g8 nm c o s d r ∧ QR wx g9 (.slice a1 m1 c1) (.slice d1 k1 e1) 0 [[5]] []))
    case first =>
      go_region
      all_goals
        go_wp2_with fail
        go_meet
        first
          | exact ⟨_, _, rfl, rfl, by omega, Nat.le_refl _, Nat.le_succ _, (((Below.refl _ W1).alloc (Nat.le_refl _) _).alloc (by simp) _).drew, ⟨(Below.heap_alloc _ _ _ (by simp)).trans (heap_alloc_new W1 _)⟩, ⟨allocQ2 W1 _ _, (S1.out.rq.alloc _).alloc _, (S1.out.rw_.alloc _).alloc _⟩⟩
          | exact ⟨_, _, rfl, rfl, by omega, Nat.le_succ _, Nat.le_refl _, (((Below.refl _ W1).alloc (Nat.le_refl _) _).alloc (by simp) _).drew, ⟨allocQ2 W1 _ _⟩, ⟨(Below.heap_alloc _ _ _ (by simp)).trans (heap_alloc_new W1 _), (S1.out.rq.alloc _).alloc _, (S1.out.rw_.alloc _).alloc _⟩⟩
    case rest =>
      obtain ⟨g8, g9, rfl, rfl, hne, hg8, hg9, A⟩ := hcut
      obtain ⟨hA1, hA2, hA3⟩ := A.out
      have BC := Lib.hid hA1
      have PC := Lib.hid hA2
      have SC := Lib.hid hA3
      clear A hA1 hA2 hA3 p0 p1 p2 p3 p4 p5 x0 x1 x2
      obtain ⟨p0, p1, p2, p3, p4, p5⟩ := sixBlk PC.out.blk
      have hpc := blk_lt PC.out.blk
      obtain ⟨f0, f1, f2, f3, f4, f5⟩ := sixFz PC.out.blk
      obtain ⟨x0, x1, x2, x3, x4, x5⟩ := threeBlk SC.out.blk
      have hxc := blk_lt SC.out.blk
      have hne' : ¬ (g9 = g8) := fun e => hne e.symm
      go_upto_block 0 with (fail)
      go_cut [45] (fun _ wx => ∃ (c' s' d' r' n' : Int) (aq : Option Addr) (mq cq : Nat) (aw : Option Addr) (mw cw : Nat) (q' : List (List Int)) (l' : List Wt), Aside (Below W1.heap.size W1 wx ∧ PB wx g8 nm c' o s' d' r' ∧ QR wx g9 (.slice aq mq cq) (.slice aw mw cw) n' q' l' ∧ vldQ c' s' d' r' q' l' n' = false ∧ WfW l' ∧ l'.length ≤ 2 ∧ q'.length ≤ 1 ∧ ∀ x ∈ q', x.length ≤ 1))
      case first =>
        have h9 : way % 9 = 0 ∨ way % 9 = 1 ∨ way % 9 = 2 ∨ way % 9 = 3 ∨ way % 9 = 4 ∨ way % 9 = 5 ∨ way % 9 = 6 ∨ way % 9 = 7 ∨ way % 9 = 8 := by omega
        rcases h9 with hm | hm | hm | hm | hm | hm | hm | hm | hm
        · go_wp2_with fail
          go_meet
          have hb := BC.out.setCell (p := ⟨g8, 1, none⟩) hg8 (.int .u8 1)
          exact ⟨1, s, d, r, 0, _, _, _, _, _, _, [[5]], [], hb, ⟨(set6 PC.out.blk _).1⟩, ⟨far_set SC.out.blk hne', S1.out.rq.below hb, S1.out.rw_.below hb⟩, wr0 s d r, (by unfold WfW; decide), (by decide), (by decide), (by decide)⟩
        · go_wp2_with fail
          go_meet
          have hb := BC.out.setCell (p := ⟨g8, 3, none⟩) hg8 (.int .i64 65)
          exact ⟨c, 65, d, r, 0, _, _, _, _, _, _, [[5]], [], hb, ⟨(set6 PC.out.blk _).2.1⟩, ⟨far_set SC.out.blk hne', S1.out.rq.below hb, S1.out.rw_.below hb⟩, wr1 c d r, (by unfold WfW; decide), (by decide), (by decide), (by decide)⟩
        · go_wp2_with fail
          go_meet
          have hb := BC.out.setCell (p := ⟨g8, 4, none⟩) hg8 (.int .i64 0)
          exact ⟨c, s, 0, r, 0, _, _, _, _, _, _, [[5]], [], hb, ⟨(set6 PC.out.blk _).2.2.1⟩, ⟨far_set SC.out.blk hne', S1.out.rq.below hb, S1.out.rw_.below hb⟩, wr2 c s r, (by unfold WfW; decide), (by decide), (by decide), (by decide)⟩
        · go_wp2_with fail
          go_meet
          have hb := BC.out.setCell (p := ⟨g8, 5, none⟩) hg8 (.int .i64 1)
          exact ⟨c, s, d, 1, 0, _, _, _, _, _, _, [[5]], [], hb, ⟨(set6 PC.out.blk _).2.2.2⟩, ⟨far_set SC.out.blk hne', S1.out.rq.below hb, S1.out.rw_.below hb⟩, wr3 c s d, (by unfold WfW; decide), (by decide), (by decide), (by decide)⟩
        · go_wp2_with fail
          go_meet
          have hb := (BC.out.setCell (p := ⟨g9, 1, none⟩) hg9 (.slice (some ⟨wc.heap.size, 0, none⟩) 1 1))
          have hb2 := hb.alloc hb.size (.cells #[.int .i64 0, .int .i64 0, .int .u8 0] 56)
          exact ⟨c, s, d, r, 0, _, _, _, _, _, _, [[5]], [⟨0, 0, 0⟩], hb2, ⟨far_alloc (far_set PC.out.blk hne)⟩, ⟨far_alloc (set3 SC.out.blk _).2.1, S1.out.rq.below hb2, rdW_lit [⟨0, 0, 0⟩] (by simp [World.setCell])⟩, wr4 c s d r, (by unfold WfW; decide), (by decide), (by decide), (by decide)⟩
        · go_wp2_with fail
          go_meet
          have hb := (BC.out.setCell (p := ⟨g9, 0, none⟩) hg9 (.slice (some ⟨wc.heap.size + 1, 0, none⟩) 1 1))
          have hb1 := hb.alloc hb.size (.cells #[] 5)
          have hb2 := hb1.alloc hb1.size (.cells #[.slice (some ⟨wc.heap.size, 0, none⟩) 0 0] 28)
          exact ⟨c, s, d, r, 0, _, _, _, _, _, _, [[]], [], hb2, ⟨far_alloc (far_alloc (far_set PC.out.blk hne))⟩, ⟨far_alloc (far_alloc (set3 SC.out.blk _).1), rdQ_one (by simp [World.setCell]), S1.out.rw_.below hb2⟩, wr5 c s d r, (by unfold WfW; decide), (by decide), (by decide), (by decide)⟩
        · go_wp2_with fail
          go_meet
          have hb := BC.out.setCell (p := ⟨g9, 2, none⟩) hg9 (.int .i64 (-1))
          exact ⟨c, s, d, r, -1, _, _, _, _, _, _, [[5]], [], hb, ⟨far_set PC.out.blk hne⟩, ⟨(set3 SC.out.blk _).2.2, S1.out.rq.below hb, S1.out.rw_.below hb⟩, wr6 c s d r, (by unfold WfW; decide), (by decide), (by decide), (by decide)⟩
        · go_wp2_with fail
          go_meet
          have hb := ((BC.out.setCell (p := ⟨g9, 0, none⟩) hg9 (.slice none 0 0)).setCell (p := ⟨g9, 1, none⟩) hg9 (.slice (some ⟨wc.heap.size, 0, none⟩) 2 2))
          have hb2 := hb.alloc hb.size (.cells #[.int .i64 1, .int .i64 0, .int .u8 0, .int .i64 1, .int .i64 0, .int .u8 0] 56)
          exact ⟨c, s, d, r, 0, _, _, _, _, _, _, [], [⟨1, 0, 0⟩, ⟨1, 0, 0⟩], hb2, ⟨far_alloc (far_set (far_set PC.out.blk hne) hne)⟩, ⟨far_alloc (set3 (set3 SC.out.blk _).1 _).2.1, RdQ.nil _ _, rdW_lit [⟨1, 0, 0⟩, ⟨1, 0, 0⟩] (by simp [World.setCell])⟩, wr7 c s d r, (by unfold WfW; decide), (by decide), (by decide), (by decide)⟩
        · go_wp2_with fail
          go_meet
          have hb := ((BC.out.setCell (p := ⟨g9, 0, none⟩) hg9 (.slice none 0 0)).setCell (p := ⟨g9, 1, none⟩) hg9 (.slice (some ⟨wc.heap.size, 0, none⟩) 1 1))
          have hb2 := hb.alloc hb.size (.cells #[.int .i64 1, .int .i64 0, .int .u8 1] 56)
          exact ⟨c, s, d, r, 0, _, _, _, _, _, _, [], [⟨1, 0, 1⟩], hb2, ⟨far_alloc (far_set (far_set PC.out.blk hne) hne)⟩, ⟨far_alloc (set3 (set3 SC.out.blk _).1 _).2.1, RdQ.nil _ _, rdW_lit [⟨1, 0, 1⟩] (by simp [World.setCell])⟩, wr8 c s d r, (by unfold WfW; decide), (by decide), (by decide), (by decide)⟩
      case rest =>
        obtain ⟨c', s', d', r', n', aq, mq, cq, aw, mw, cw, q', l', A⟩ := hcut
        obtain ⟨hA1, hA2, hA3, hA4, hA5, hA6, hA7, hA8⟩ := A.out
        have HBAD := Lib.hid hA4
        have HL : Hid (WfW l' ∧ l'.length ≤ 90000 ∧ q'.length ≤ 90000 ∧ ∀ x ∈ q', x.length ≤ 1000000) := ⟨hA5, by omega, by omega, fun x hx => Nat.le_trans (hA8 x hx) (by omega)⟩
        clear p0 p1 p2 p3 p4 p5 f0 f1 f2 f3 f4 f5 x0 x1 x2 x3 x4 x5 hpc hxc PC SC
        have X0 := Lib.hid hA2
        have Y0 := Lib.hid hA3
        have U0 := Lib.hid (P1.out.next hA1)
        have V0 := Lib.hid (S1.out.next hA1)
        have E0 := Lib.hid (B1.out.trans (hA1.mono B1.out.size))
        clear A hA1 hA2 hA3 hA4 hA5 hA6 hA7 hA8 P1 S1 B1 BC
        obtain ⟨p0, p1, p2, p3, p4, p5⟩ := sixBlk X0.out.blk
        have hp0 := blk_lt X0.out.blk
        obtain ⟨x0, x1, x2, _, _, _⟩ := threeBlk Y0.out.blk
        have hx0 := blk_lt Y0.out.blk
        go_wp2_with fail
        have YA := Lib.hid (Y0.out.alloc (.cells #[.int .u8 1] 5))
        have h1 := sendQ_c nm c' o s' d' r' n' (.slice (some ⟨wc.heap.size, 0, none⟩) 1 1) [1] _ _ q' l' (wc.alloc (.cells #[.int .u8 1] 5)) YA.out.rq YA.out.rw_ HL.out.1 HL.out.2.1 HL.out.2.2.1 HL.out.2.2.2 (RdI.one' 1 rfl) (by decide)
        rw [send_bad HBAD.out] at h1
        refine h1.mono ?_
        clear h1
        rintro e w1 ⟨vq1, vw1, rfl, rq1, fr1, b1⟩
        obtain ⟨a1, m1, c1, rfl⟩ := rq_shape rq1
        obtain ⟨d1, k1, e1, rfl⟩ := rw_shape fr1.1
        have t1 := (E0.out.alloc E0.out.size (.cells #[.int .u8 1] 5))
        have q1 : Below (wc).heap.size wc w1 := ((Below.refl _ wc).alloc (Nat.le_refl _) _).trans (b1.mono (by simp))
        clear t1
        have X1 := Lib.hid ((X0.out.next q1).alloc (.cells #[.slice a1 m1 c1, .slice d1 k1 e1, .int .i64 n'] 27))
        have Y1 := Lib.hid ((Y0.out.next q1).alloc (.cells #[.slice a1 m1 c1, .slice d1 k1 e1, .int .i64 n'] 27))
        have U1 := Lib.hid ((U0.out.next q1).alloc (.cells #[.slice a1 m1 c1, .slice d1 k1 e1, .int .i64 n'] 27))
        have V1 := Lib.hid ((V0.out.next q1).alloc (.cells #[.slice a1 m1 c1, .slice d1 k1 e1, .int .i64 n'] 27))
        have KA1 := Lib.hid (QR.new (n := n') (rq1.mono (Nat.zero_le _)) fr1.rd)
        have z1 := E0.out.trans (q1.mono E0.out.size)
        have E1 := Lib.hid (z1.alloc z1.size (.cells #[.slice a1 m1 c1, .slice d1 k1 e1, .int .i64 n'] 27))
        clear rq1 fr1 b1 z1 YA q1 E0 X0 Y0 U0 V0 p0 p1 p2 p3 p4 p5 x0 x1 x2
        obtain ⟨p0, p1, p2, p3, p4, p5⟩ := sixBlk X1.out.blk
        have hp1 := blk_lt X1.out.blk
        obtain ⟨x0, x1, x2, _, _, _⟩ := threeBlk Y1.out.blk
        have hx1 := blk_lt Y1.out.blk
        go_wp2_with fail
        have h2 := recvQ_c nm c' o s' d' r' n' 3 0 _ _ q' l' _ Y1.out.rq Y1.out.rw_ HL.out.1 HL.out.2.1 HL.out.2.2.1 HL.out.2.2.2
        rw [recv_bad HBAD.out] at h2
        refine h2.mono ?_
        clear h2
        rintro e w2 ⟨vq2, vw2, vx2, rfl, rq2, fr2, rx2, b2⟩
        obtain ⟨a2, m2, c2, rfl⟩ := rq_shape rq2
        obtain ⟨d2, k2, e2, rfl⟩ := rw_shape fr2.1
        obtain ⟨f2, g2, rfl⟩ : ∃ a c, vx2 = .slice a 0 c := by obtain ⟨a, c, hv, _⟩ := rx2.open_; exact ⟨a, c, hv⟩
        clear rx2
        have X2 := Lib.hid ((X1.out.next b2).alloc (.cells #[.slice a2 m2 c2, .slice d2 k2 e2, .int .i64 n'] 27))
        have Y2 := Lib.hid ((Y1.out.next b2).alloc (.cells #[.slice a2 m2 c2, .slice d2 k2 e2, .int .i64 n'] 27))
        have U2 := Lib.hid ((U1.out.next b2).alloc (.cells #[.slice a2 m2 c2, .slice d2 k2 e2, .int .i64 n'] 27))
        have V2 := Lib.hid ((V1.out.next b2).alloc (.cells #[.slice a2 m2 c2, .slice d2 k2 e2, .int .i64 n'] 27))
        have KA2 := Lib.hid ((KA1.out.next b2).alloc (.cells #[.slice a2 m2 c2, .slice d2 k2 e2, .int .i64 n'] 27))
        have KB2 := Lib.hid (QR.new (n := n') (rq2.mono (Nat.zero_le _)) fr2.rd)
        have z2 := E1.out.trans (b2.mono E1.out.size)
        have E2 := Lib.hid (z2.alloc z2.size (.cells #[.slice a2 m2 c2, .slice d2 k2 e2, .int .i64 n'] 27))
        clear rq2 fr2 b2 z2 E1 X1 Y1 U1 V1 KA1 p0 p1 p2 p3 p4 p5 x0 x1 x2
        obtain ⟨p0, p1, p2, p3, p4, p5⟩ := sixBlk X2.out.blk
        have hp2 := blk_lt X2.out.blk
        obtain ⟨x0, x1, x2, _, _, _⟩ := threeBlk Y2.out.blk
        have hx2 := blk_lt Y2.out.blk
        go_wp2_with fail
        have h3 := takeQ_c nm c' o s' d' r' n' _ _ q' l' _ Y2.out.rq Y2.out.rw_ HL.out.1 HL.out.2.1 HL.out.2.2.1 HL.out.2.2.2
        rw [take_bad HBAD.out] at h3
        refine h3.mono ?_
        clear h3
        rintro e w3 ⟨vq3, vw3, vx3, rfl, rq3, fr3, rx3, b3⟩
        obtain ⟨a3, m3, c3, rfl⟩ := rq_shape rq3
        obtain ⟨d3, k3, e3, rfl⟩ := rw_shape fr3.1
        obtain ⟨f3, g3, rfl⟩ : ∃ a c, vx3 = .slice a 0 c := by obtain ⟨a, c, hv, _⟩ := rx3.open_; exact ⟨a, c, hv⟩
        clear rx3
        have X3 := Lib.hid ((X2.out.next b3).alloc (.cells #[.slice a3 m3 c3, .slice d3 k3 e3, .int .i64 n'] 27))
        have Y3 := Lib.hid ((Y2.out.next b3).alloc (.cells #[.slice a3 m3 c3, .slice d3 k3 e3, .int .i64 n'] 27))
        have U3 := Lib.hid ((U2.out.next b3).alloc (.cells #[.slice a3 m3 c3, .slice d3 k3 e3, .int .i64 n'] 27))
        have V3 := Lib.hid ((V2.out.next b3).alloc (.cells #[.slice a3 m3 c3, .slice d3 k3 e3, .int .i64 n'] 27))
        have KA3 := Lib.hid ((KA2.out.next b3).alloc (.cells #[.slice a3 m3 c3, .slice d3 k3 e3, .int .i64 n'] 27))
        have KB3 := Lib.hid ((KB2.out.next b3).alloc (.cells #[.slice a3 m3 c3, .slice d3 k3 e3, .int .i64 n'] 27))
        have KC3 := Lib.hid (QR.new (n := n') (rq3.mono (Nat.zero_le _)) fr3.rd)
        have z3 := E2.out.trans (b3.mono E2.out.size)
        have E3 := Lib.hid (z3.alloc z3.size (.cells #[.slice a3 m3 c3, .slice d3 k3 e3, .int .i64 n'] 27))
        clear rq3 fr3 b3 z3 E2 X2 Y2 U2 V2 KA2 KB2 p0 p1 p2 p3 p4 p5 x0 x1 x2
        obtain ⟨p0, p1, p2, p3, p4, p5⟩ := sixBlk X3.out.blk
        have hp3 := blk_lt X3.out.blk
        obtain ⟨x0, x1, x2, _, _, _⟩ := threeBlk Y3.out.blk
        have hx3 := blk_lt Y3.out.blk
        go_wp2_with fail
        have h4 := cancQ_c nm c' o s' d' r' n' 1 _ _ q' l' _ Y3.out.rq Y3.out.rw_ HL.out.1 HL.out.2.1 HL.out.2.2.1 HL.out.2.2.2
        rw [canc_bad HBAD.out] at h4
        refine h4.mono ?_
        clear h4
        rintro e w4 ⟨vq4, vw4, rfl, rq4, fr4, b4⟩
        obtain ⟨a4, m4, c4, rfl⟩ := rq_shape rq4
        obtain ⟨d4, k4, e4, rfl⟩ := rw_shape fr4.1
        have X4 := Lib.hid ((X3.out.next b4).alloc (.cells #[.slice a4 m4 c4, .slice d4 k4 e4, .int .i64 n'] 27))
        have Y4 := Lib.hid ((Y3.out.next b4).alloc (.cells #[.slice a4 m4 c4, .slice d4 k4 e4, .int .i64 n'] 27))
        have U4 := Lib.hid ((U3.out.next b4).alloc (.cells #[.slice a4 m4 c4, .slice d4 k4 e4, .int .i64 n'] 27))
        have V4 := Lib.hid ((V3.out.next b4).alloc (.cells #[.slice a4 m4 c4, .slice d4 k4 e4, .int .i64 n'] 27))
        have KA4 := Lib.hid ((KA3.out.next b4).alloc (.cells #[.slice a4 m4 c4, .slice d4 k4 e4, .int .i64 n'] 27))
        have KB4 := Lib.hid ((KB3.out.next b4).alloc (.cells #[.slice a4 m4 c4, .slice d4 k4 e4, .int .i64 n'] 27))
        have KC4 := Lib.hid ((KC3.out.next b4).alloc (.cells #[.slice a4 m4 c4, .slice d4 k4 e4, .int .i64 n'] 27))
        have KD4 := Lib.hid (QR.new (n := n') (rq4.mono (Nat.zero_le _)) fr4.rd)
        have z4 := E3.out.trans (b4.mono E3.out.size)
        have E4 := Lib.hid (z4.alloc z4.size (.cells #[.slice a4 m4 c4, .slice d4 k4 e4, .int .i64 n'] 27))
        clear rq4 fr4 b4 z4 E3 X3 Y3 U3 V3 KA3 KB3 KC3 p0 p1 p2 p3 p4 p5 x0 x1 x2
        obtain ⟨p0, p1, p2, p3, p4, p5⟩ := sixBlk U4.out.blk
        have hp4 := blk_lt U4.out.blk
        obtain ⟨x0, x1, x2, _, _, _⟩ := threeBlk V4.out.blk
        have hx4 := blk_lt V4.out.blk
        go_wp2_with fail
        have h5 := recvQ_c nm c o s d r 0 (-1) 0 _ _ [[5]] [] _ V4.out.rq V4.out.rw_ (by unfold WfW; decide) (by decide) (by decide) (by decide)
        rw [recv_neg] at h5
        refine h5.mono ?_
        clear h5
        rintro e w5 ⟨vq5, vw5, vx5, rfl, rq5, fr5, rx5, b5⟩
        obtain ⟨a5, m5, c5, rfl⟩ := rq_shape rq5
        obtain ⟨d5, k5, e5, rfl⟩ := rw_shape fr5.1
        obtain ⟨f5, g5, rfl⟩ : ∃ a c, vx5 = .slice a 0 c := by obtain ⟨a, c, hv, _⟩ := rx5.open_; exact ⟨a, c, hv⟩
        clear rx5
        have X5 := Lib.hid ((X4.out.next b5).alloc (.cells #[.slice a5 m5 c5, .slice d5 k5 e5, .int .i64 0] 27))
        have Y5 := Lib.hid ((Y4.out.next b5).alloc (.cells #[.slice a5 m5 c5, .slice d5 k5 e5, .int .i64 0] 27))
        have U5 := Lib.hid ((U4.out.next b5).alloc (.cells #[.slice a5 m5 c5, .slice d5 k5 e5, .int .i64 0] 27))
        have V5 := Lib.hid ((V4.out.next b5).alloc (.cells #[.slice a5 m5 c5, .slice d5 k5 e5, .int .i64 0] 27))
        have KA5 := Lib.hid ((KA4.out.next b5).alloc (.cells #[.slice a5 m5 c5, .slice d5 k5 e5, .int .i64 0] 27))
        have KB5 := Lib.hid ((KB4.out.next b5).alloc (.cells #[.slice a5 m5 c5, .slice d5 k5 e5, .int .i64 0] 27))
        have KC5 := Lib.hid ((KC4.out.next b5).alloc (.cells #[.slice a5 m5 c5, .slice d5 k5 e5, .int .i64 0] 27))
        have KD5 := Lib.hid ((KD4.out.next b5).alloc (.cells #[.slice a5 m5 c5, .slice d5 k5 e5, .int .i64 0] 27))
        have KE5 := Lib.hid (QR.new (n := 0) (rq5.mono (Nat.zero_le _)) fr5.rd)
        have z5 := E4.out.trans (b5.mono E4.out.size)
        have E5 := Lib.hid (z5.alloc z5.size (.cells #[.slice a5 m5 c5, .slice d5 k5 e5, .int .i64 0] 27))
        clear rq5 fr5 b5 z5 E4 X4 Y4 U4 V4 KA4 KB4 KC4 KD4 p0 p1 p2 p3 p4 p5 x0 x1 x2
        obtain ⟨p0, p1, p2, p3, p4, p5⟩ := sixBlk X5.out.blk
        have hp5 := blk_lt X5.out.blk
        obtain ⟨x0, x1, x2, _, _, _⟩ := threeBlk Y5.out.blk
        have hx5 := blk_lt Y5.out.blk
        go_wp2_with fail
        have h6 := validQ_c nm c' o s' d' r' n' _ _ q' l' _ Y5.out.rq Y5.out.rw_ HL.out.1 (Nat.le_trans HL.out.2.1 (by decide)) (Nat.le_trans HL.out.2.2.1 (by decide))
        rw [HBAD.out] at h6
        refine h6.mono ?_
        clear h6
        rintro e w6 ⟨rfl, b6⟩
        have Y6 := Lib.hid (Y5.out.next b6)
        have KA6 := Lib.hid (KA5.out.next b6)
        have KB6 := Lib.hid (KB5.out.next b6)
        have KC6 := Lib.hid (KC5.out.next b6)
        have KD6 := Lib.hid (KD5.out.next b6)
        have E6 := Lib.hid (E5.out.trans (b6.mono E5.out.size))
        clear b6 E5 Y5 KA5 KB5 KC5 KD5
        clear p0 p1 p2 p3 p4 p5 x0 x1 x2
        obtain ⟨x0, x1, x2, _, _, _⟩ := threeBlk Y6.out.blk
        have hx6 := blk_lt Y6.out.blk
        obtain ⟨y0, y1, y2, _, _, _⟩ := threeBlk KA6.out.blk
        have hy6 := blk_lt KA6.out.blk
        go_wp2_with fail
        refine (sameT_c _ _ _ _ q' l' n' _ KA6.out.rq Y6.out.rq KA6.out.rw_ Y6.out.rw_ HL.out.2.1 HL.out.2.2.1).mono ?_
        rintro e w7 ⟨rfl, b7⟩
        have Y7 := Lib.hid (Y6.out.next b7)
        have KA7 := Lib.hid (KA6.out.next b7)
        have KB7 := Lib.hid (KB6.out.next b7)
        have KC7 := Lib.hid (KC6.out.next b7)
        have KD7 := Lib.hid (KD6.out.next b7)
        have E7 := Lib.hid (E6.out.trans (b7.mono E6.out.size))
        clear b7 E6 Y6 KA6 KB6 KC6 KD6
        clear x0 x1 x2 y0 y1 y2
        obtain ⟨x0, x1, x2, _, _, _⟩ := threeBlk Y7.out.blk
        have hx7 := blk_lt Y7.out.blk
        obtain ⟨y0, y1, y2, _, _, _⟩ := threeBlk KB7.out.blk
        have hy7 := blk_lt KB7.out.blk
        go_wp2_with fail
        refine (sameT_c _ _ _ _ q' l' n' _ KB7.out.rq Y7.out.rq KB7.out.rw_ Y7.out.rw_ HL.out.2.1 HL.out.2.2.1).mono ?_
        rintro e w8 ⟨rfl, b8⟩
        have Y8 := Lib.hid (Y7.out.next b8)
        have KA8 := Lib.hid (KA7.out.next b8)
        have KB8 := Lib.hid (KB7.out.next b8)
        have KC8 := Lib.hid (KC7.out.next b8)
        have KD8 := Lib.hid (KD7.out.next b8)
        have E8 := Lib.hid (E7.out.trans (b8.mono E7.out.size))
        clear b8 E7 Y7 KA7 KB7 KC7 KD7
        clear x0 x1 x2 y0 y1 y2
        obtain ⟨x0, x1, x2, _, _, _⟩ := threeBlk Y8.out.blk
        have hx8 := blk_lt Y8.out.blk
        obtain ⟨y0, y1, y2, _, _, _⟩ := threeBlk KC8.out.blk
        have hy8 := blk_lt KC8.out.blk
        go_wp2_with fail
        refine (sameT_c _ _ _ _ q' l' n' _ KC8.out.rq Y8.out.rq KC8.out.rw_ Y8.out.rw_ HL.out.2.1 HL.out.2.2.1).mono ?_
        rintro e w9 ⟨rfl, b9⟩
        have Y9 := Lib.hid (Y8.out.next b9)
        have KA9 := Lib.hid (KA8.out.next b9)
        have KB9 := Lib.hid (KB8.out.next b9)
        have KC9 := Lib.hid (KC8.out.next b9)
        have KD9 := Lib.hid (KD8.out.next b9)
        have E9 := Lib.hid (E8.out.trans (b9.mono E8.out.size))
        clear b9 E8 Y8 KA8 KB8 KC8 KD8
        clear x0 x1 x2 y0 y1 y2
        obtain ⟨x0, x1, x2, _, _, _⟩ := threeBlk Y9.out.blk
        have hx9 := blk_lt Y9.out.blk
        obtain ⟨y0, y1, y2, _, _, _⟩ := threeBlk KD9.out.blk
        have hy9 := blk_lt KD9.out.blk
        go_wp2_with fail
        refine (sameT_c _ _ _ _ q' l' n' _ KD9.out.rq Y9.out.rq KD9.out.rw_ Y9.out.rw_ HL.out.2.1 HL.out.2.2.1).mono ?_
        rintro e w10 ⟨rfl, b10⟩
        have Y10 := Lib.hid (Y9.out.next b10)
        have KA10 := Lib.hid (KA9.out.next b10)
        have KB10 := Lib.hid (KB9.out.next b10)
        have KC10 := Lib.hid (KC9.out.next b10)
        have KD10 := Lib.hid (KD9.out.next b10)
        have E10 := Lib.hid (E9.out.trans (b10.mono E9.out.size))
        clear b10 E9 Y9 KA9 KB9 KC9 KD9
        clear x0 x1 x2 y0 y1 y2
        go_wp2_with fail
        refine (awake23_c _).mono ?_
        rintro e w11 ⟨rfl, b11⟩
        have EE := Lib.hid (E10.out.trans (b11.mono E10.out.size))
        clear b11
        go_wp2_with fail
        go_ret
        exact ⟨rfl, EE.out⟩
end Go.Proofs.Ytglbfmcbojjglaa

/-
  The contracts of nacelleref23.Cancel, Take and Receive. Conditions: what is read can be read, at most ninety thousand elements.
-/
import Derived.Test.YtglbfmcbojjglaaRef23V
import Derived.Test.YtglbfmcbojjglaaQueG
import Derived.Deep.RegionHeld3
namespace Go.Proofs.Ytglbfmcbojjglaa
open Go.RowKit

/-- The three variables of an operation of the reference on a port. -/
structure U23 (w W : World) (pc : Array Value) (a b c : Value) : Prop where
  prt : W.heap[w.heap.size]? = some (.cells pc 23 (0, 0))
  arg : W.heap[w.heap.size + 1]? = some (.cells #[a, b, c] 32 (0, 0))
  res : W.heap[w.heap.size + 1 + 1]? = some (.cells #[.slice none 0 0, .slice none 0 0, .int .i64 0] 32 (0, 0))
  bel : Below w.heap.size w W
section
variable {w W W' : World} {pc : Array Value} {a b c : Value}
theorem U23.start (h : W = ((w.alloc (.cells pc 23)).alloc (.cells #[a, b, c] 32)).alloc (.cells #[.slice none 0 0, .slice none 0 0, .int .i64 0] 32)) : U23 w W pc a b c := by
  subst h
  refine ⟨(Below.heap_alloc _ _ _ (by simp; omega)).trans ((Below.heap_alloc _ _ _ (by simp)).trans (heap_alloc_new w _)), ?_, ?_, (((Below.refl _ w).alloc (Nat.le_refl _) _).alloc (by simp) _).alloc (by simp; omega) _⟩
  · have := heap_alloc_new (w.alloc (.cells pc 23)) (.cells #[a, b, c] 32)
    refine (Below.heap_alloc _ _ _ (by simp)).trans ?_
    simpa using this
  · have := heap_alloc_new ((w.alloc (.cells pc 23)).alloc (.cells #[a, b, c] 32)) (.cells #[.slice none 0 0, .slice none 0 0, .int .i64 0] 32)
    simpa using this
theorem U23.next (h : U23 w W pc a b c) (hb : Below W.heap.size W W') : U23 w W' pc a b c :=
  ⟨(hb.block _ (blk_lt h.prt)).trans h.prt, (hb.block _ (blk_lt h.arg)).trans h.arg, (hb.block _ (blk_lt h.res)).trans h.res, h.bel.trans (hb.mono h.bel.size)⟩
theorem U23.fin (h : U23 w W pc a b c) (x y z : Value) : Below w.heap.size w (fin3 w W x y z) := below_fin3 h.bel x y z
theorem U23.finD (h : U23 w W pc a b c) (x y z : Value) : Below w.heap.size w (fin3 w W.drew x y z) := below_fin3 h.bel.drew x y z
theorem U23.ownFin {B : Nat} {v : Value} {l : List Wt} (h : FrW W B v l) (hB : w.heap.size + 1 + 1 < B) (x y z : Value) : RdW (fin3 w W x y z) 0 v l := (((h.low hB).low hB).low hB).rd
end
def Rf1 (w : World) (q : List (List Int)) (l : List Wt) (n : Int) (y : Value) (e : Ending) (w' : World) : Prop := ∃ vq vw, e = .returned (.tuple #[.agg #[vq, vw, .int .i64 n], y]) ∧ RdQ w' 0 vq q ∧ RdW w' 0 vw l ∧ Below w.heap.size w w'
def Rf2 (w : World) (q : List (List Int)) (l : List Wt) (n : Int) (y z : Value) (e : Ending) (w' : World) : Prop := ∃ vq vw, e = .returned (.tuple #[.agg #[vq, vw, .int .i64 n], y, z]) ∧ RdQ w' 0 vq q ∧ RdW w' 0 vw l ∧ Below w.heap.size w w'
def RfT (w : World) (q : List (List Int)) (l : List Wt) (n : Int) (x : List Int) (y : Value) (e : Ending) (w' : World) : Prop := ∃ vq vw vx, e = .returned (.tuple #[.agg #[vq, vw, .int .i64 n], vx, y]) ∧ RdQ w' 0 vq q ∧ RdW w' 0 vw l ∧ RdI .u8 w' 0 vx x ∧ Below w.heap.size w w'
def RfC (w : World) (q : List (List Int)) (l : List Wt) (n : Int) (x : List Int) (z y : Value) (e : Ending) (w' : World) : Prop := ∃ vq vw vx, e = .returned (.tuple #[.agg #[vq, vw, .int .i64 n], vx, z, y]) ∧ RdQ w' 0 vq q ∧ RdW w' 0 vw l ∧ RdI .u8 w' 0 vx x ∧ Below w.heap.size w w'
theorem rdI_nil' (w : World) : RdI .u8 w 0 (.slice none 0 0) [] := RdI.nil _ _ _

set_option maxHeartbeats 4000000 in
set_option maxRecDepth 100000 in
theorem canc23_c (nm : ByteArray) (k : Int) (o : Bool) (s d r n : Int) (p : Int) (vq vw : Value) (q : List (List Int)) (l : List Wt) (w : World) (hq : RdQ w 0 vq q) (hw : RdW w 0 vw l) (hl : l.length ≤ 90000) (hql : q.length ≤ 90000) :
    Calls Try.prog 34 #[.agg #[.string nm, .int .u8 k, .bool o, .int .i64 s, .int .i64 d, .int .i64 r], .agg #[vq, vw, .int .i64 n], .int .i64 p] w (Rf1 w q (cancQ k s d r q l n p).1 n (.int .i64 (cancQ k s d r q l n p).2)) := by
  obtain ⟨aq, cq, rfl⟩ := hq.shape'
  obtain ⟨aw, cw, rfl, _, _, _⟩ := hw.open_
  obtain ⟨W0, hW0⟩ : ∃ W0, W0 = ((w.alloc (.cells #[.string nm, .int .u8 k, .bool o, .int .i64 s, .int .i64 d, .int .i64 r] 23)).alloc (.cells #[.slice aq q.length cq, .slice aw l.length cw, .int .i64 n] 32)).alloc (.cells #[.slice none 0 0, .slice none 0 0, .int .i64 0] 32) := ⟨_, rfl⟩
  have HQ := Lib.hid hq
  have HW := Lib.hid hw
  have U0 := Lib.hid (U23.start hW0)
  have HW0 := Lib.hid hW0
  clear hq hw hW0
  have hway : (vldQ k s d r q l n = false ∧ cancQ k s d r q l n p = (l, 2)) ∨ (vldQ k s d r q l n = true ∧ cancQ k s d r q l n p = (leaveW l p, 0)) := by
    unfold cancQ
    cases vldQ k s d r q l n <;> simp
  rcases hway with ⟨k1, k2⟩ | ⟨k1, k2⟩
  · rw [k2]
    clear k2
    have K1 := Lib.hid k1
    clear k1
    go_enter Try.func34, Try.ntmps34
    go_wp2_with fail
    rw [← HW0.out]
    have hv := valid23_c nm k o s d r n _ _ q l W0 (HQ.out.below U0.out.bel) (HW.out.below U0.out.bel) hl hql
    rw [K1.out] at hv
    refine hv.mono ?_
    clear hv
    rintro e w1 ⟨rfl, b1⟩
    have U1 := Lib.hid (U0.out.next b1)
    clear b1 U0 HW0
    obtain ⟨p0, p1, p2, p3, p4, p5⟩ := sixBlk U1.out.prt
    obtain ⟨g0, g1, g2, _, _, _⟩ := threeBlk U1.out.arg
    obtain ⟨r0, r1, r2, r3, r4, r5⟩ := threeBlk U1.out.res
    have hps1 := blk_lt U1.out.prt
    have hgs1 := blk_lt U1.out.arg
    have hrs1 := blk_lt U1.out.res
    go_wp2_with fail
    refine bodyPost_ret (v := .tuple #[.agg #[.slice aq q.length cq, .slice aw l.length cw, .int .i64 n], .int .i64 2]) (by simp [results, Try.results34, go_sem, r0, r1, r2]) rfl ?_
    exact ⟨_, _, rfl, HQ.out.below (U1.out.fin _ _ _), HW.out.below (U1.out.fin _ _ _), U1.out.fin _ _ _⟩
  · rw [k2]
    clear k2
    have K1 := Lib.hid k1
    clear k1
    go_enter Try.func34, Try.ntmps34
    go_wp2_with fail
    rw [← HW0.out]
    have hv := valid23_c nm k o s d r n _ _ q l W0 (HQ.out.below U0.out.bel) (HW.out.below U0.out.bel) hl hql
    rw [K1.out] at hv
    refine hv.mono ?_
    clear hv
    rintro e w1 ⟨rfl, b1⟩
    have U1 := Lib.hid (U0.out.next b1)
    clear b1 U0 HW0
    obtain ⟨p0, p1, p2, p3, p4, p5⟩ := sixBlk U1.out.prt
    obtain ⟨g0, g1, g2, _, _, _⟩ := threeBlk U1.out.arg
    obtain ⟨r0, r1, r2, r3, r4, r5⟩ := threeBlk U1.out.res
    have hps1 := blk_lt U1.out.prt
    have hgs1 := blk_lt U1.out.arg
    have hrs1 := blk_lt U1.out.res
    have RL := Lib.hid (HW.out.below U1.out.bel)
    go_wp2_with fail
    go_region_held3 (fun w' => w'.cell? ⟨w.heap.size + 1, 0, none⟩ = some (.slice aq q.length cq) ∧ w'.cell? ⟨w.heap.size + 1, 1, none⟩ = some (.slice aw l.length cw) ∧ w'.cell? ⟨w.heap.size + 1, 2, none⟩ = some (.int .i64 n)) (first | go_keep | (refine ⟨?_, ?_, ?_⟩ <;> assumption) | (refine ⟨?_, ?_, ?_⟩ <;> simp [*, World.cell?_setCell_far])) (first | (go_at_call 43; refine (refLeave_c _ l p _ (by exact RL.out) hl).mono ?_; rintro e w4 ⟨v4, rfl, ho4, b4⟩; replace b4 : Below w1.heap.size w1 w4 := (by first | exact b4 | exact below_un b4); replace ho4 : w4.ownsRow w1.heap.size 56 3 v4 (leaveW l p).length (cellsW (leaveW l p)) := ho4; obtain ⟨a4, c4, rfl⟩ := own_slice ho4; have U4 := Lib.hid (U1.out.next b4); have F4 := Lib.hid (fun x y z => U23.ownFin (w := w) (FrW.of_own ho4) hrs1 x y z); obtain ⟨s0, s1, s2, _, _, _⟩ := threeBlk U4.out.arg; obtain ⟨t0, t1, t2, t3, t4, t5⟩ := threeBlk U4.out.res; have hss := blk_lt U4.out.arg; have hts := blk_lt U4.out.res; clear b4 ho4))
    generalize (leaveW l p).length = m4 at F4 ⊢
    all_goals
      go_wp2_with fail
      refine bodyPost_ret (v := .tuple #[.agg #[.slice aq q.length cq, .slice a4 m4 c4, .int .i64 n], .int .i64 0]) (by simp [results, Try.results34, go_sem, t0, t1, t2]) rfl ?_
      exact ⟨_, _, rfl, HQ.out.below (U4.out.fin _ _ _), F4.out _ _ _, U4.out.fin _ _ _⟩

set_option maxHeartbeats 4000000 in
set_option maxRecDepth 100000 in
theorem take23_c (nm : ByteArray) (k : Int) (o : Bool) (s d r n : Int) (vq vw : Value) (q : List (List Int)) (l : List Wt) (w : World) (hq : RdQ w 0 vq q) (hw : RdW w 0 vw l) (hl : l.length ≤ 90000) (hql : q.length ≤ 90000) :
    Calls Try.prog 32 #[.agg #[.string nm, .int .u8 k, .bool o, .int .i64 s, .int .i64 d, .int .i64 r], .agg #[vq, vw, .int .i64 n]] w (RfT w (takeQ k s d r q l n).1 l n (takeQ k s d r q l n).2.1 (.int .i64 (takeQ k s d r q l n).2.2)) := by
  obtain ⟨aq, cq, rfl⟩ := hq.shape'
  obtain ⟨aw, cw, rfl, _, _, _⟩ := hw.open_
  obtain ⟨W0, hW0⟩ : ∃ W0, W0 = ((w.alloc (.cells #[.string nm, .int .u8 k, .bool o, .int .i64 s, .int .i64 d, .int .i64 r] 23)).alloc (.cells #[.slice aq q.length cq, .slice aw l.length cw, .int .i64 n] 32)).alloc (.cells #[.slice none 0 0, .slice none 0 0, .int .i64 0] 32) := ⟨_, rfl⟩
  have HQ := Lib.hid hq
  have HW := Lib.hid hw
  have U0 := Lib.hid (U23.start hW0)
  have HW0 := Lib.hid hW0
  clear hq hw hW0
  have hway : (vldQ k s d r q l n = false ∧ takeQ k s d r q l n = (q, [], 2)) ∨ (vldQ k s d r q l n = true ∧ q = [] ∧ takeQ k s d r q l n = (q, [], 6)) ∨ (vldQ k s d r q l n = true ∧ ∃ x t, q = x :: t ∧ takeQ k s d r q l n = (t, x, 0)) := by
    cases h1 : vldQ k s d r q l n
    · exact .inl ⟨rfl, by simp [takeQ, h1]⟩
    · cases q with
      | nil => exact .inr (.inl ⟨rfl, rfl, by simp [takeQ, h1]⟩)
      | cons x t => exact .inr (.inr ⟨rfl, x, t, rfl, by simp [takeQ, h1]⟩)
  rcases hway with ⟨k1, k2⟩ | ⟨k1, kq, k2⟩ | ⟨k1, x, t, kq, k2⟩
  · rw [k2]
    clear k2
    have K1 := Lib.hid k1
    clear k1
    go_enter Try.func32, Try.ntmps32
    go_wp2_with fail
    rw [← HW0.out]
    have hv := valid23_c nm k o s d r n _ _ q l W0 (HQ.out.below U0.out.bel) (HW.out.below U0.out.bel) hl hql
    rw [K1.out] at hv
    refine hv.mono ?_
    clear hv
    rintro e w1 ⟨rfl, b1⟩
    have U1 := Lib.hid (U0.out.next b1)
    clear b1 U0 HW0
    obtain ⟨p0, p1, p2, p3, p4, p5⟩ := sixBlk U1.out.prt
    obtain ⟨g0, g1, g2, _, _, _⟩ := threeBlk U1.out.arg
    obtain ⟨r0, r1, r2, r3, r4, r5⟩ := threeBlk U1.out.res
    have hps1 := blk_lt U1.out.prt
    have hgs1 := blk_lt U1.out.arg
    have hrs1 := blk_lt U1.out.res
    go_wp2_with fail
    refine bodyPost_ret (v := .tuple #[.agg #[.slice aq q.length cq, .slice aw l.length cw, .int .i64 n], .slice none 0 0, .int .i64 2]) (by simp [results, Try.results32, go_sem, r0, r1, r2]) rfl ?_
    exact ⟨_, _, _, rfl, HQ.out.below (U1.out.fin _ _ _), HW.out.below (U1.out.fin _ _ _), rdI_nil' _, U1.out.fin _ _ _⟩
  · rw [k2]
    clear k2
    have K1 := Lib.hid k1
    clear k1
    have hq0 : ((q.length : Int) == 0) = true := by rw [kq]; rfl
    have hq1 : (q.length == 0) = true := by rw [kq]; rfl
    clear kq
    go_enter Try.func32, Try.ntmps32
    go_wp2_with fail
    rw [← HW0.out]
    have hv := valid23_c nm k o s d r n _ _ q l W0 (HQ.out.below U0.out.bel) (HW.out.below U0.out.bel) hl hql
    rw [K1.out] at hv
    refine hv.mono ?_
    clear hv
    rintro e w1 ⟨rfl, b1⟩
    have U1 := Lib.hid (U0.out.next b1)
    clear b1 U0 HW0
    obtain ⟨p0, p1, p2, p3, p4, p5⟩ := sixBlk U1.out.prt
    obtain ⟨g0, g1, g2, _, _, _⟩ := threeBlk U1.out.arg
    obtain ⟨r0, r1, r2, r3, r4, r5⟩ := threeBlk U1.out.res
    have hps1 := blk_lt U1.out.prt
    have hgs1 := blk_lt U1.out.arg
    have hrs1 := blk_lt U1.out.res
    go_wp2_with fail
    refine bodyPost_ret (v := .tuple #[.agg #[.slice aq q.length cq, .slice aw l.length cw, .int .i64 n], .slice none 0 0, .int .i64 6]) (by simp [results, Try.results32, go_sem, r0, r1, r2]) rfl ?_
    exact ⟨_, _, _, rfl, HQ.out.below (U1.out.fin _ _ _), HW.out.below (U1.out.fin _ _ _), rdI_nil' _, U1.out.fin _ _ _⟩
  · rw [k2]
    clear k2
    have K1 := Lib.hid k1
    clear k1
    have KQ := Lib.hid kq
    have hq0 : ((q.length : Int) == 0) = false := by rw [kq]; simp; omega
    have hq1 : (q.length == 0) = false := by rw [kq]; rfl
    have hq2 : 1 ≤ q.length := by rw [kq]; simp
    have hq3 : (1 : Int) ≤ (q.length : Int) := by omega
    have hq4 : (0 : Int) < (q.length : Int) := by omega
    have hq5 : 0 < q.length := by omega
    clear kq
    go_enter Try.func32, Try.ntmps32
    go_wp2_with fail
    rw [← HW0.out]
    have hv := valid23_c nm k o s d r n _ _ q l W0 (HQ.out.below U0.out.bel) (HW.out.below U0.out.bel) hl hql
    rw [K1.out] at hv
    refine hv.mono ?_
    clear hv
    rintro e w1 ⟨rfl, b1⟩
    have U1 := Lib.hid (U0.out.next b1)
    clear b1 U0 HW0
    obtain ⟨p0, p1, p2, p3, p4, p5⟩ := sixBlk U1.out.prt
    obtain ⟨g0, g1, g2, _, _, _⟩ := threeBlk U1.out.arg
    obtain ⟨r0, r1, r2, r3, r4, r5⟩ := threeBlk U1.out.res
    have hps1 := blk_lt U1.out.prt
    have hgs1 := blk_lt U1.out.arg
    have hrs1 := blk_lt U1.out.res
    obtain ⟨hm0, hcq1, bq, oq, uq, rfl, _, hbq, eq0, rx⟩ := HQ.out.head KQ.out
    clear hm0
    obtain ⟨xa, xm, xc, rfl⟩ : ∃ a m c, uq = .slice a m c := by obtain ⟨a, c, hv, _⟩ := rx.open_; exact ⟨a, _, c, hv⟩
    have hcq0 : q.length ≤ cq := by obtain ⟨_, ⟨_, _, hv, h1, _⟩, _⟩ := HQ.out; simp only [Value.slice.injEq] at hv; omega
    have hcqz : (q.length : Int) ≤ (cq : Int) := by omega
    have RX := Lib.hid rx
    have eq1 : w1.cell? ⟨bq, oq, none⟩ = some (.slice xa xm xc) := (U1.out.bel.cell (p := ⟨bq, oq, none⟩) hbq).trans eq0
    have hbq2 : ¬ (bq = w.heap.size + 1 + 1) := by omega
    have hbq4 : ¬ (w.heap.size + 1 + 1 = bq) := by omega
    have hbq3 : bq < w1.heap.size := Nat.lt_of_lt_of_le hbq U1.out.bel.size
    clear eq0 rx
    by_cases hcq : cq = 1
    · subst hcq
      have TQ : Hid (RdQ w 0 (.slice (some ⟨bq, oq, none⟩) 0 0) t) := by have := HQ.out.tail KQ.out; rw [show q.length - 1 = 0 by omega] at this; first | rwa [if_pos rfl] at this | rwa [if_pos trivial] at this | rwa [if_neg hcq] at this
      go_wp2_with fail
      go_region_held3 (fun w' => w'.cell? ⟨w.heap.size + 1, 0, none⟩ = some (.slice (some ⟨bq, oq, none⟩) q.length 1) ∧ w'.cell? ⟨w.heap.size + 1, 1, none⟩ = some (.slice aw l.length cw) ∧ w'.cell? ⟨w.heap.size + 1, 2, none⟩ = some (.int .i64 n) ∧ w'.cell? ⟨bq, oq, none⟩ = some (.slice xa xm xc)) (first | go_keep | (refine ⟨?_, ?_, ?_, ?_⟩ <;> assumption) | (refine ⟨?_, ?_, ?_, ?_⟩ <;> simp [*, World.cell?_setCell_far])) (fail)
      all_goals
        go_wp2_with fail
        refine bodyPost_ret (v := .tuple #[.agg #[.slice (some ⟨bq, oq, none⟩) 0 0, .slice aw l.length cw, .int .i64 n], .slice xa xm xc, .int .i64 0]) (by simp [results, Try.results32, go_sem, r0, r1, r2]) rfl ?_
        first | exact ⟨_, _, _, rfl, TQ.out.below (U1.out.fin _ _ _), HW.out.below (U1.out.fin _ _ _), RX.out.below (U1.out.fin _ _ _), U1.out.fin _ _ _⟩ | exact ⟨_, _, _, rfl, TQ.out.below (U1.out.finD _ _ _), HW.out.below (U1.out.finD _ _ _), RX.out.below (U1.out.finD _ _ _), U1.out.finD _ _ _⟩
    · skip
      have TQ : Hid (RdQ w 0 (.slice (some ⟨bq, oq + 1, none⟩) (q.length - 1) (cq - 1)) t) := by have := HQ.out.tail KQ.out; first | rwa [if_pos rfl] at this | rwa [if_pos trivial] at this | rwa [if_neg hcq] at this
      go_wp2_with fail
      go_region_held3 (fun w' => w'.cell? ⟨w.heap.size + 1, 0, none⟩ = some (.slice (some ⟨bq, oq, none⟩) q.length cq) ∧ w'.cell? ⟨w.heap.size + 1, 1, none⟩ = some (.slice aw l.length cw) ∧ w'.cell? ⟨w.heap.size + 1, 2, none⟩ = some (.int .i64 n) ∧ w'.cell? ⟨bq, oq, none⟩ = some (.slice xa xm xc)) (first | go_keep | (refine ⟨?_, ?_, ?_, ?_⟩ <;> assumption) | (refine ⟨?_, ?_, ?_, ?_⟩ <;> simp [*, World.cell?_setCell_far])) (fail)
      all_goals
        go_wp2_with fail
        refine bodyPost_ret (v := .tuple #[.agg #[.slice (some ⟨bq, oq + 1, none⟩) (q.length - 1) (cq - 1), .slice aw l.length cw, .int .i64 n], .slice xa xm xc, .int .i64 0]) (by simp [results, Try.results32, go_sem, r0, r1, r2]) rfl ?_
        first | exact ⟨_, _, _, rfl, TQ.out.below (U1.out.fin _ _ _), HW.out.below (U1.out.fin _ _ _), RX.out.below (U1.out.fin _ _ _), U1.out.fin _ _ _⟩ | exact ⟨_, _, _, rfl, TQ.out.below (U1.out.finD _ _ _), HW.out.below (U1.out.finD _ _ _), RX.out.below (U1.out.finD _ _ _), U1.out.finD _ _ _⟩

set_option maxHeartbeats 4000000 in
set_option maxRecDepth 100000 in
theorem recv23_c (nm : ByteArray) (k : Int) (o : Bool) (s d r n : Int) (p u : Int) (vq vw : Value) (q : List (List Int)) (l : List Wt) (w : World) (hq : RdQ w 0 vq q) (hw : RdW w 0 vw l) (hl : l.length ≤ 90000) (hql : q.length ≤ 90000) :
    Calls Try.prog 30 #[.agg #[.string nm, .int .u8 k, .bool o, .int .i64 s, .int .i64 d, .int .i64 r], .agg #[vq, vw, .int .i64 n], .int .i64 p, .int .i64 u] w (RfC w (recvQ k s d r q l n p u).1 (recvQ k s d r q l n p u).2.1 n (recvQ k s d r q l n p u).2.2.1 (.bool (recvQ k s d r q l n p u).2.2.2.1) (.int .i64 (recvQ k s d r q l n p u).2.2.2.2)) := by
  obtain ⟨aq, cq, rfl⟩ := hq.shape'
  obtain ⟨aw, cw, rfl, _, _, _⟩ := hw.open_
  obtain ⟨W0, hW0⟩ : ∃ W0, W0 = ((w.alloc (.cells #[.string nm, .int .u8 k, .bool o, .int .i64 s, .int .i64 d, .int .i64 r] 23)).alloc (.cells #[.slice aq q.length cq, .slice aw l.length cw, .int .i64 n] 32)).alloc (.cells #[.slice none 0 0, .slice none 0 0, .int .i64 0] 32) := ⟨_, rfl⟩
  have HQ := Lib.hid hq
  have HW := Lib.hid hw
  have U0 := Lib.hid (U23.start hW0)
  have HW0 := Lib.hid hW0
  clear hq hw hW0
  have hway : (vldQ k s d r q l n = false ∧ recvQ k s d r q l n p u = (q, l, [], false, 2)) ∨ (vldQ k s d r q l n = true ∧ p < 0 ∧ recvQ k s d r q l n p u = (q, l, [], false, 2)) ∨ (vldQ k s d r q l n = true ∧ 0 ≤ p ∧ l.any (fun x => decide (x.proc = p)) = true ∧ recvQ k s d r q l n p u = (q, l, [], false, 2)) ∨
      (vldQ k s d r q l n = true ∧ 0 ≤ p ∧ l.any (fun x => decide (x.proc = p)) = false ∧ ((∃ x t, q = x :: t ∧ recvQ k s d r q l n p u = (t, l, x, true, 0)) ∨ (q = [] ∧ recvQ k s d r q l n p u = (q, enterW l ⟨p, u, 0⟩, [], false, 0)))) := by
    cases h1 : vldQ k s d r q l n
    · exact .inl ⟨rfl, by simp [recvQ, h1]⟩
    · by_cases hp : 0 ≤ p
      · cases ha : l.any (fun x => decide (x.proc = p))
        · have hm : mayL l p = true := by unfold mayL; simp only [ha]; simp [hp]
          cases q with
          | nil => exact .inr (.inr (.inr ⟨rfl, hp, rfl, .inr ⟨rfl, by simp [recvQ, h1, hm]⟩⟩))
          | cons x t => exact .inr (.inr (.inr ⟨rfl, hp, rfl, .inl ⟨x, t, rfl, by simp [recvQ, h1, hm]⟩⟩))
        · have hm : mayL l p = false := by unfold mayL; simp only [ha]; simp
          exact .inr (.inr (.inl ⟨rfl, hp, rfl, by simp [recvQ, hm]⟩))
      · have hm : mayL l p = false := by unfold mayL; simp [hp]
        exact .inr (.inl ⟨rfl, by omega, by simp [recvQ, hm]⟩)
  rcases hway with ⟨k1, k2⟩ | ⟨k1, kp, k2⟩ | ⟨k1, kp, ka, k2⟩ | ⟨k1, kp, ka, ⟨x, t, kq, k2⟩ | ⟨kq, k2⟩⟩
  · rw [k2]
    clear k2
    have K1 := Lib.hid k1
    clear k1
    go_enter Try.func30, Try.ntmps30
    go_wp2_with fail
    rw [← HW0.out]
    have hv := valid23_c nm k o s d r n _ _ q l W0 (HQ.out.below U0.out.bel) (HW.out.below U0.out.bel) hl hql
    rw [K1.out] at hv
    refine hv.mono ?_
    clear hv
    rintro e w1 ⟨rfl, b1⟩
    have U1 := Lib.hid (U0.out.next b1)
    clear b1 U0 HW0
    obtain ⟨p0, p1, p2, p3, p4, p5⟩ := sixBlk U1.out.prt
    obtain ⟨g0, g1, g2, _, _, _⟩ := threeBlk U1.out.arg
    obtain ⟨r0, r1, r2, r3, r4, r5⟩ := threeBlk U1.out.res
    have hps1 := blk_lt U1.out.prt
    have hgs1 := blk_lt U1.out.arg
    have hrs1 := blk_lt U1.out.res
    go_wp2_with fail
    refine bodyPost_ret (v := .tuple #[.agg #[.slice aq q.length cq, .slice aw l.length cw, .int .i64 n], .slice none 0 0, .bool false, .int .i64 2]) (by simp [results, Try.results30, go_sem, r0, r1, r2]) rfl ?_
    exact ⟨_, _, _, rfl, HQ.out.below (U1.out.fin _ _ _), HW.out.below (U1.out.fin _ _ _), rdI_nil' _, U1.out.fin _ _ _⟩
  · rw [k2]
    clear k2
    have K1 := Lib.hid k1
    clear k1
    go_enter Try.func30, Try.ntmps30
    go_wp2_with fail
    rw [← HW0.out]
    have hv := valid23_c nm k o s d r n _ _ q l W0 (HQ.out.below U0.out.bel) (HW.out.below U0.out.bel) hl hql
    rw [K1.out] at hv
    refine hv.mono ?_
    clear hv
    rintro e w1 ⟨rfl, b1⟩
    have U1 := Lib.hid (U0.out.next b1)
    clear b1 U0 HW0
    obtain ⟨p0, p1, p2, p3, p4, p5⟩ := sixBlk U1.out.prt
    obtain ⟨g0, g1, g2, _, _, _⟩ := threeBlk U1.out.arg
    obtain ⟨r0, r1, r2, r3, r4, r5⟩ := threeBlk U1.out.res
    have hps1 := blk_lt U1.out.prt
    have hgs1 := blk_lt U1.out.arg
    have hrs1 := blk_lt U1.out.res
    go_wp2_with fail
    refine bodyPost_ret (v := .tuple #[.agg #[.slice aq q.length cq, .slice aw l.length cw, .int .i64 n], .slice none 0 0, .bool false, .int .i64 2]) (by simp [results, Try.results30, go_sem, r0, r1, r2]) rfl ?_
    exact ⟨_, _, _, rfl, HQ.out.below (U1.out.fin _ _ _), HW.out.below (U1.out.fin _ _ _), rdI_nil' _, U1.out.fin _ _ _⟩
  · rw [k2]
    clear k2
    have K1 := Lib.hid k1
    clear k1
    have hp0 : ¬ (p < 0) := by omega
    clear kp
    have KA := Lib.hid ka
    clear ka
    go_enter Try.func30, Try.ntmps30
    go_wp2_with fail
    rw [← HW0.out]
    have hv := valid23_c nm k o s d r n _ _ q l W0 (HQ.out.below U0.out.bel) (HW.out.below U0.out.bel) hl hql
    rw [K1.out] at hv
    refine hv.mono ?_
    clear hv
    rintro e w1 ⟨rfl, b1⟩
    have U1 := Lib.hid (U0.out.next b1)
    clear b1 U0 HW0
    obtain ⟨p0, p1, p2, p3, p4, p5⟩ := sixBlk U1.out.prt
    obtain ⟨g0, g1, g2, _, _, _⟩ := threeBlk U1.out.arg
    obtain ⟨r0, r1, r2, r3, r4, r5⟩ := threeBlk U1.out.res
    have hps1 := blk_lt U1.out.prt
    have hgs1 := blk_lt U1.out.arg
    have hrs1 := blk_lt U1.out.res
    go_wp2_with fail
    have hv := refHas_c _ l p w1 (HW.out.below U1.out.bel) hl
    rw [KA.out] at hv
    refine hv.mono ?_
    clear hv
    rintro e w2 ⟨rfl, b2⟩
    have U2 := Lib.hid (U1.out.next b2)
    clear b2 U1 p0 p1 p2 p3 p4 p5 g0 g1 g2 r0 r1 r2 r3 r4 r5 hps1 hgs1 hrs1
    obtain ⟨p0, p1, p2, p3, p4, p5⟩ := sixBlk U2.out.prt
    obtain ⟨g0, g1, g2, _, _, _⟩ := threeBlk U2.out.arg
    obtain ⟨r0, r1, r2, r3, r4, r5⟩ := threeBlk U2.out.res
    have hps2 := blk_lt U2.out.prt
    have hgs2 := blk_lt U2.out.arg
    have hrs2 := blk_lt U2.out.res
    go_wp2_with fail
    refine bodyPost_ret (v := .tuple #[.agg #[.slice aq q.length cq, .slice aw l.length cw, .int .i64 n], .slice none 0 0, .bool false, .int .i64 2]) (by simp [results, Try.results30, go_sem, r0, r1, r2]) rfl ?_
    exact ⟨_, _, _, rfl, HQ.out.below (U2.out.fin _ _ _), HW.out.below (U2.out.fin _ _ _), rdI_nil' _, U2.out.fin _ _ _⟩
  · rw [k2]
    clear k2
    have K1 := Lib.hid k1
    clear k1
    have hp0 : ¬ (p < 0) := by omega
    clear kp
    have KA := Lib.hid ka
    clear ka
    have KQ := Lib.hid kq
    have hq0 : ((q.length : Int) == 0) = false := by rw [kq]; simp; omega
    have hq1 : (q.length == 0) = false := by rw [kq]; rfl
    have hq2 : 1 ≤ q.length := by rw [kq]; simp
    have hq3 : (1 : Int) ≤ (q.length : Int) := by omega
    have hq4 : (0 : Int) < (q.length : Int) := by omega
    have hq5 : 0 < q.length := by omega
    clear kq
    go_enter Try.func30, Try.ntmps30
    go_wp2_with fail
    rw [← HW0.out]
    have hv := valid23_c nm k o s d r n _ _ q l W0 (HQ.out.below U0.out.bel) (HW.out.below U0.out.bel) hl hql
    rw [K1.out] at hv
    refine hv.mono ?_
    clear hv
    rintro e w1 ⟨rfl, b1⟩
    have U1 := Lib.hid (U0.out.next b1)
    clear b1 U0 HW0
    obtain ⟨p0, p1, p2, p3, p4, p5⟩ := sixBlk U1.out.prt
    obtain ⟨g0, g1, g2, _, _, _⟩ := threeBlk U1.out.arg
    obtain ⟨r0, r1, r2, r3, r4, r5⟩ := threeBlk U1.out.res
    have hps1 := blk_lt U1.out.prt
    have hgs1 := blk_lt U1.out.arg
    have hrs1 := blk_lt U1.out.res
    go_wp2_with fail
    have hv := refHas_c _ l p w1 (HW.out.below U1.out.bel) hl
    rw [KA.out] at hv
    refine hv.mono ?_
    clear hv
    rintro e w2 ⟨rfl, b2⟩
    have U2 := Lib.hid (U1.out.next b2)
    clear b2 U1 p0 p1 p2 p3 p4 p5 g0 g1 g2 r0 r1 r2 r3 r4 r5 hps1 hgs1 hrs1
    obtain ⟨p0, p1, p2, p3, p4, p5⟩ := sixBlk U2.out.prt
    obtain ⟨g0, g1, g2, _, _, _⟩ := threeBlk U2.out.arg
    obtain ⟨r0, r1, r2, r3, r4, r5⟩ := threeBlk U2.out.res
    have hps2 := blk_lt U2.out.prt
    have hgs2 := blk_lt U2.out.arg
    have hrs2 := blk_lt U2.out.res
    obtain ⟨hm0, hcq1, bq, oq, uq, rfl, _, hbq, eq0, rx⟩ := HQ.out.head KQ.out
    clear hm0
    obtain ⟨xa, xm, xc, rfl⟩ : ∃ a m c, uq = .slice a m c := by obtain ⟨a, c, hv, _⟩ := rx.open_; exact ⟨a, _, c, hv⟩
    have hcq0 : q.length ≤ cq := by obtain ⟨_, ⟨_, _, hv, h1, _⟩, _⟩ := HQ.out; simp only [Value.slice.injEq] at hv; omega
    have hcqz : (q.length : Int) ≤ (cq : Int) := by omega
    have RX := Lib.hid rx
    have eq1 : w2.cell? ⟨bq, oq, none⟩ = some (.slice xa xm xc) := (U2.out.bel.cell (p := ⟨bq, oq, none⟩) hbq).trans eq0
    have hbq2 : ¬ (bq = w.heap.size + 1 + 1) := by omega
    have hbq4 : ¬ (w.heap.size + 1 + 1 = bq) := by omega
    have hbq3 : bq < w2.heap.size := Nat.lt_of_lt_of_le hbq U2.out.bel.size
    clear eq0 rx
    by_cases hcq : cq = 1
    · subst hcq
      have TQ : Hid (RdQ w 0 (.slice (some ⟨bq, oq, none⟩) 0 0) t) := by have := HQ.out.tail KQ.out; rw [show q.length - 1 = 0 by omega] at this; first | rwa [if_pos rfl] at this | rwa [if_pos trivial] at this | rwa [if_neg hcq] at this
      go_wp2_with fail
      go_region_held3 (fun w' => w'.cell? ⟨w.heap.size + 1, 0, none⟩ = some (.slice (some ⟨bq, oq, none⟩) q.length 1) ∧ w'.cell? ⟨w.heap.size + 1, 1, none⟩ = some (.slice aw l.length cw) ∧ w'.cell? ⟨w.heap.size + 1, 2, none⟩ = some (.int .i64 n) ∧ w'.cell? ⟨bq, oq, none⟩ = some (.slice xa xm xc)) (first | go_keep | (refine ⟨?_, ?_, ?_, ?_⟩ <;> assumption) | (refine ⟨?_, ?_, ?_, ?_⟩ <;> simp [*, World.cell?_setCell_far])) (fail)
      all_goals
        go_wp2_with fail
        refine bodyPost_ret (v := .tuple #[.agg #[.slice (some ⟨bq, oq, none⟩) 0 0, .slice aw l.length cw, .int .i64 n], .slice xa xm xc, .bool true, .int .i64 0]) (by simp [results, Try.results30, go_sem, r0, r1, r2]) rfl ?_
        first | exact ⟨_, _, _, rfl, TQ.out.below (U2.out.fin _ _ _), HW.out.below (U2.out.fin _ _ _), RX.out.below (U2.out.fin _ _ _), U2.out.fin _ _ _⟩ | exact ⟨_, _, _, rfl, TQ.out.below (U2.out.finD _ _ _), HW.out.below (U2.out.finD _ _ _), RX.out.below (U2.out.finD _ _ _), U2.out.finD _ _ _⟩
    · skip
      have TQ : Hid (RdQ w 0 (.slice (some ⟨bq, oq + 1, none⟩) (q.length - 1) (cq - 1)) t) := by have := HQ.out.tail KQ.out; first | rwa [if_pos rfl] at this | rwa [if_pos trivial] at this | rwa [if_neg hcq] at this
      go_wp2_with fail
      go_region_held3 (fun w' => w'.cell? ⟨w.heap.size + 1, 0, none⟩ = some (.slice (some ⟨bq, oq, none⟩) q.length cq) ∧ w'.cell? ⟨w.heap.size + 1, 1, none⟩ = some (.slice aw l.length cw) ∧ w'.cell? ⟨w.heap.size + 1, 2, none⟩ = some (.int .i64 n) ∧ w'.cell? ⟨bq, oq, none⟩ = some (.slice xa xm xc)) (first | go_keep | (refine ⟨?_, ?_, ?_, ?_⟩ <;> assumption) | (refine ⟨?_, ?_, ?_, ?_⟩ <;> simp [*, World.cell?_setCell_far])) (fail)
      all_goals
        go_wp2_with fail
        refine bodyPost_ret (v := .tuple #[.agg #[.slice (some ⟨bq, oq + 1, none⟩) (q.length - 1) (cq - 1), .slice aw l.length cw, .int .i64 n], .slice xa xm xc, .bool true, .int .i64 0]) (by simp [results, Try.results30, go_sem, r0, r1, r2]) rfl ?_
        first | exact ⟨_, _, _, rfl, TQ.out.below (U2.out.fin _ _ _), HW.out.below (U2.out.fin _ _ _), RX.out.below (U2.out.fin _ _ _), U2.out.fin _ _ _⟩ | exact ⟨_, _, _, rfl, TQ.out.below (U2.out.finD _ _ _), HW.out.below (U2.out.finD _ _ _), RX.out.below (U2.out.finD _ _ _), U2.out.finD _ _ _⟩
  · rw [k2]
    clear k2
    have K1 := Lib.hid k1
    clear k1
    have hp0 : ¬ (p < 0) := by omega
    clear kp
    have KA := Lib.hid ka
    clear ka
    have hq4 : ¬ (0 : Int) < (q.length : Int) := by rw [kq]; simp
    have hq5 : ¬ 0 < q.length := by rw [kq]; simp
    clear kq
    go_enter Try.func30, Try.ntmps30
    go_wp2_with fail
    rw [← HW0.out]
    have hv := valid23_c nm k o s d r n _ _ q l W0 (HQ.out.below U0.out.bel) (HW.out.below U0.out.bel) hl hql
    rw [K1.out] at hv
    refine hv.mono ?_
    clear hv
    rintro e w1 ⟨rfl, b1⟩
    have U1 := Lib.hid (U0.out.next b1)
    clear b1 U0 HW0
    obtain ⟨p0, p1, p2, p3, p4, p5⟩ := sixBlk U1.out.prt
    obtain ⟨g0, g1, g2, _, _, _⟩ := threeBlk U1.out.arg
    obtain ⟨r0, r1, r2, r3, r4, r5⟩ := threeBlk U1.out.res
    have hps1 := blk_lt U1.out.prt
    have hgs1 := blk_lt U1.out.arg
    have hrs1 := blk_lt U1.out.res
    go_wp2_with fail
    have hv := refHas_c _ l p w1 (HW.out.below U1.out.bel) hl
    rw [KA.out] at hv
    refine hv.mono ?_
    clear hv
    rintro e w2 ⟨rfl, b2⟩
    have U2 := Lib.hid (U1.out.next b2)
    clear b2 U1 p0 p1 p2 p3 p4 p5 g0 g1 g2 r0 r1 r2 r3 r4 r5 hps1 hgs1 hrs1
    obtain ⟨p0, p1, p2, p3, p4, p5⟩ := sixBlk U2.out.prt
    obtain ⟨g0, g1, g2, _, _, _⟩ := threeBlk U2.out.arg
    obtain ⟨r0, r1, r2, r3, r4, r5⟩ := threeBlk U2.out.res
    have hps2 := blk_lt U2.out.prt
    have hgs2 := blk_lt U2.out.arg
    have hrs2 := blk_lt U2.out.res
    have RL := Lib.hid (HW.out.below U2.out.bel)
    go_wp2_with fail
    go_region_held3 (fun w' => w'.cell? ⟨w.heap.size + 1, 0, none⟩ = some (.slice aq q.length cq) ∧ w'.cell? ⟨w.heap.size + 1, 1, none⟩ = some (.slice aw l.length cw) ∧ w'.cell? ⟨w.heap.size + 1, 2, none⟩ = some (.int .i64 n)) (first | go_keep | (refine ⟨?_, ?_, ?_⟩ <;> assumption) | (refine ⟨?_, ?_, ?_⟩ <;> simp [*, World.cell?_setCell_far])) (first | (go_at_call 42; refine (refEnter_c _ l ⟨p, u, 0⟩ _ (by exact RL.out) hl).mono ?_; rintro e w4 ⟨v4, rfl, ho4, b4⟩; replace b4 : Below w2.heap.size w2 w4 := (by first | exact b4 | exact below_un b4); replace ho4 : w4.ownsRow w2.heap.size 56 3 v4 (enterW l ⟨p, u, 0⟩).length (cellsW (enterW l ⟨p, u, 0⟩)) := ho4; obtain ⟨a4, c4, rfl⟩ := own_slice ho4; have U4 := Lib.hid (U2.out.next b4); have F4 := Lib.hid (fun x y z => U23.ownFin (w := w) (FrW.of_own ho4) hrs2 x y z); obtain ⟨s0, s1, s2, _, _, _⟩ := threeBlk U4.out.arg; obtain ⟨t0, t1, t2, t3, t4, t5⟩ := threeBlk U4.out.res; have hss := blk_lt U4.out.arg; have hts := blk_lt U4.out.res; clear b4 ho4))
    generalize (enterW l ⟨p, u, 0⟩).length = m4 at F4 ⊢
    all_goals
      go_wp2_with fail
      refine bodyPost_ret (v := .tuple #[.agg #[.slice aq q.length cq, .slice a4 m4 c4, .int .i64 n], .slice none 0 0, .bool false, .int .i64 0]) (by simp [results, Try.results30, go_sem, t0, t1, t2]) rfl ?_
      exact ⟨_, _, _, rfl, HQ.out.below (U4.out.fin _ _ _), F4.out _ _ _, rdI_nil' _, U4.out.fin _ _ _⟩
end Go.Proofs.Ytglbfmcbojjglaa

/-
  The contract of nacelleref23.Send. Conditions: what is read can be read, at most ninety thousand elements.
-/
import Derived.Test.YtglbfmcbojjglaaStore23
namespace Go.Proofs.Ytglbfmcbojjglaa
open Go.RowKit

def RfG (w : World) (q : List (List Int)) (l : List Wt) (n : Int) (y z : Value) (e : Ending) (w' : World) : Prop := ∃ vq vw, e = .returned (.tuple #[.agg #[vq, vw, .int .i64 n], y, z]) ∧ RdQ w' 0 vq q ∧ RdW w' 0 vw l ∧ Below w.heap.size w w' ∧ TgQ w' vq
theorem alloc2Q (w : World) (o o' : Obj) : ((w.alloc o).alloc o').heap[w.heap.size + 1]? = some o' := by
  have := heap_alloc_new (w.alloc o) o'
  simpa using this
theorem RdW.tailS {w : World} {B b off m d : Nat} {x : Wt} {l k : List Wt} (h : RdW w B (.slice (some ⟨b, off, none⟩) m d) k) (hk : k = x :: l) : RdW w B (.slice (if d = 1 then some ⟨b, off, none⟩ else some ⟨b, off + 3, none⟩) (m - 1) (d - 1)) l := by
  subst hk
  obtain ⟨ao, cap, hv, h1, h2, h3, hp⟩ := h
  simp only [Value.slice.injEq, List.length_cons] at hv
  obtain ⟨rfl, rfl, rfl⟩ := hv
  simp only [List.length_cons] at h1 h3 hp
  obtain ⟨b', off', ha, hB, hbs, hc⟩ := hp (by omega)
  simp only [Option.some.injEq, Addr.mk.injEq, and_true] at ha
  obtain ⟨rfl, rfl⟩ := ha
  rw [Nat.add_sub_cancel]
  refine ⟨_, _, rfl, by omega, ?_, cellsW_length l, fun h0 => ?_⟩
  · intro h; split at h <;> cases h
  · rw [if_neg (by omega)]
    refine ⟨b, off + 3, rfl, hB, hbs, fun j u hu => ?_⟩
    have := hc (3 + j) u (by rw [cellsW_cons, List.getElem?_append_right (by rw [encW_length]; omega), encW_length]; simpa using hu)
    rwa [← Nat.add_assoc] at this
theorem RdW.headS {w : World} {B m d : Nat} {a : Option Addr} {x : Wt} {l k : List Wt} (h : RdW w B (.slice a m d) k) (hk : k = x :: l) : ∃ b off, a = some ⟨b, off, none⟩ ∧ 1 ≤ d ∧ b < w.heap.size ∧ w.cell? ⟨b, off, none⟩ = some (.int .i64 x.proc) := by
  subst hk
  obtain ⟨ao, cap, hv, h1, h2, h3, hp⟩ := h
  simp only [Value.slice.injEq, List.length_cons] at hv
  obtain ⟨rfl, rfl, rfl⟩ := hv
  simp only [List.length_cons] at h1 hp
  obtain ⟨b', off', rfl, hB, hbs, hc⟩ := hp (by omega)
  exact ⟨b', off', rfl, by omega, hbs, hc 0 _ rfl⟩

set_option maxHeartbeats 4000000 in
set_option maxRecDepth 100000 in
theorem send23_c (nm : ByteArray) (k : Int) (o : Bool) (s d r n : Int) (vx : Value) (x : List Int) (vq vw : Value) (q : List (List Int)) (l : List Wt) (w : World) (hq : RdQ w 0 vq q) (hgq : TgQ w vq) (hw : RdW w 0 vw l) (hx : RdI .u8 w 0 vx x) (hl : l.length ≤ 90000) (hql : q.length ≤ 90000) :
    Calls Try.prog 28 #[.agg #[.string nm, .int .u8 k, .bool o, .int .i64 s, .int .i64 d, .int .i64 r], .agg #[vq, vw, .int .i64 n], vx] w (RfG w (sendQ k s d r q l n x).1 (sendQ k s d r q l n x).2.1 (sendQ k s d r q l n x).2.2.1 (.int .i64 (sendQ k s d r q l n x).2.2.2.1) (.int .i64 (sendQ k s d r q l n x).2.2.2.2)) := by
  obtain ⟨aq, cq, rfl⟩ := hq.shape'
  obtain ⟨aw, cw, rfl, _, _, _⟩ := hw.open_
  obtain ⟨W0, hW0⟩ : ∃ W0, W0 = ((w.alloc (.cells #[.string nm, .int .u8 k, .bool o, .int .i64 s, .int .i64 d, .int .i64 r] 23)).alloc (.cells #[.slice aq q.length cq, .slice aw l.length cw, .int .i64 n] 32)).alloc (.cells #[.slice none 0 0, .slice none 0 0, .int .i64 0] 32) := ⟨_, rfl⟩
  have HQ := Lib.hid hq
  have HG := Lib.hid hgq
  clear hgq
  have HW := Lib.hid hw
  have U0 := Lib.hid (U23.start hW0)
  have HW0 := Lib.hid hW0
  clear hq hw hW0
  obtain ⟨ax, cx, rfl, _, _, _⟩ := hx.open_
  have HX := Lib.hid hx
  clear hx
  have hway : (vldQ k s d r q l n = false ∧ sendQ k s d r q l n x = (q, l, n, -1, 2)) ∨ (vldQ k s d r q l n = true ∧ x = [] ∧ sendQ k s d r q l n x = (q, l, n, -1, 2)) ∨ (vldQ k s d r q l n = true ∧ x ≠ [] ∧ s < (x.length : Int) ∧ sendQ k s d r q l n x = (q, l, n, -1, 3)) ∨
      (vldQ k s d r q l n = true ∧ x ≠ [] ∧ ¬ s < (x.length : Int) ∧ ∃ y m, l = y :: m ∧ sendQ k s d r q l n x = (q, m, n, y.proc, 0)) ∨ (vldQ k s d r q l n = true ∧ x ≠ [] ∧ ¬ s < (x.length : Int) ∧ l = [] ∧ (q.length : Int) = d ∧ n = 1073741824 ∧ sendQ k s d r q l n x = (q, l, n, -1, 4)) ∨
      (vldQ k s d r q l n = true ∧ x ≠ [] ∧ ¬ s < (x.length : Int) ∧ l = [] ∧ (q.length : Int) = d ∧ n ≠ 1073741824 ∧ 0 ≤ n ∧ n ≤ 1073741824 ∧ sendQ k s d r q l n x = (q, l, n + 1, -1, 4)) ∨
      (vldQ k s d r q l n = true ∧ x ≠ [] ∧ ¬ s < (x.length : Int) ∧ l = [] ∧ ¬ (q.length : Int) = d ∧ sendQ k s d r q l n x = (q ++ [x], l, n, -1, 0)) := by
    cases h1 : vldQ k s d r q l n
    · exact .inl ⟨rfl, by simp [sendQ, h1]⟩
    · obtain ⟨hn0, hn1⟩ := vldQ_bd h1
      by_cases hx : x = []
      · exact .inr (.inl ⟨rfl, hx, by simp [sendQ, hx]⟩)
      · by_cases hs : s < (x.length : Int)
        · exact .inr (.inr (.inl ⟨rfl, hx, hs, by simp [sendQ, h1, hx, hs]⟩))
        · cases l with
          | cons y m => exact .inr (.inr (.inr (.inl ⟨rfl, hx, hs, y, m, rfl, by simp [sendQ, h1, hx, hs]⟩)))
          | nil =>
            by_cases hd : (q.length : Int) = d
            · by_cases hm : n = 1073741824
              · exact .inr (.inr (.inr (.inr (.inl ⟨rfl, hx, hs, rfl, hd, hm, by subst hm; simp [sendQ, h1, hx, hs, hd]⟩))))
              · exact .inr (.inr (.inr (.inr (.inr (.inl ⟨rfl, hx, hs, rfl, hd, hm, hn0, hn1, by simp [sendQ, h1, hx, hs, hd, show n < 1073741824 by omega]⟩)))))
            · exact .inr (.inr (.inr (.inr (.inr (.inr ⟨rfl, hx, hs, rfl, hd, by simp [sendQ, h1, hx, hs, hd]⟩)))))
  rcases hway with ⟨k1, k2⟩ | ⟨k1, kx, k2⟩ | ⟨k1, kx, ks, k2⟩ | ⟨k1, kx, ks, y, m, kl, k2⟩ | ⟨k1, kx, ks, kl, kd, kn, k2⟩ | ⟨k1, kx, ks, kl, kd, kn, kn0, kn1, k2⟩ | ⟨k1, kx, ks, kl, kd, k2⟩
  · rw [k2]
    clear k2
    have K1 := Lib.hid k1
    clear k1
    go_enter Try.func28, Try.ntmps28
    go_wp2_with fail
    rw [← HW0.out]
    have hv := valid23_c nm k o s d r n _ _ q l W0 (HQ.out.below U0.out.bel) (HW.out.below U0.out.bel) hl hql
    rw [K1.out] at hv
    refine hv.mono ?_
    clear hv
    rintro e w1 ⟨rfl, b1⟩
    have U1 := Lib.hid (U0.out.next b1)
    clear b1 U0 HW0
    obtain ⟨p0, p1, p2, p3, p4, p5⟩ := sixBlk U1.out.prt
    obtain ⟨g0, g1, g2, _, _, _⟩ := threeBlk U1.out.arg
    obtain ⟨r0, r1, r2, r3, r4, r5⟩ := threeBlk U1.out.res
    have hps1 := blk_lt U1.out.prt
    have hgs1 := blk_lt U1.out.arg
    have hrs1 := blk_lt U1.out.res
    go_wp2_with fail
    refine bodyPost_ret (v := .tuple #[.agg #[.slice aq q.length cq, .slice aw l.length cw, .int .i64 n], .int .i64 (-1), .int .i64 2]) (by simp [results, Try.results28, go_sem, r0, r1, r2]) rfl ?_
    exact ⟨_, _, rfl, HQ.out.below (U1.out.fin _ _ _), HW.out.below (U1.out.fin _ _ _), U1.out.fin _ _ _, HG.out.below (U1.out.fin _ _ _)⟩
  · rw [k2]
    clear k2
    have K1 := Lib.hid k1
    clear k1
    have hx0 : ((x.length : Int) == 0) = true := by rw [kx]; rfl
    have hx1 : (x.length == 0) = true := by rw [kx]; rfl
    clear kx
    go_enter Try.func28, Try.ntmps28
    go_wp2_with fail
    rw [← HW0.out]
    have hv := valid23_c nm k o s d r n _ _ q l W0 (HQ.out.below U0.out.bel) (HW.out.below U0.out.bel) hl hql
    rw [K1.out] at hv
    refine hv.mono ?_
    clear hv
    rintro e w1 ⟨rfl, b1⟩
    have U1 := Lib.hid (U0.out.next b1)
    clear b1 U0 HW0
    obtain ⟨p0, p1, p2, p3, p4, p5⟩ := sixBlk U1.out.prt
    obtain ⟨g0, g1, g2, _, _, _⟩ := threeBlk U1.out.arg
    obtain ⟨r0, r1, r2, r3, r4, r5⟩ := threeBlk U1.out.res
    have hps1 := blk_lt U1.out.prt
    have hgs1 := blk_lt U1.out.arg
    have hrs1 := blk_lt U1.out.res
    go_wp2_with fail
    refine bodyPost_ret (v := .tuple #[.agg #[.slice aq q.length cq, .slice aw l.length cw, .int .i64 n], .int .i64 (-1), .int .i64 2]) (by simp [results, Try.results28, go_sem, r0, r1, r2]) rfl ?_
    exact ⟨_, _, rfl, HQ.out.below (U1.out.fin _ _ _), HW.out.below (U1.out.fin _ _ _), U1.out.fin _ _ _, HG.out.below (U1.out.fin _ _ _)⟩
  · rw [k2]
    clear k2
    have K1 := Lib.hid k1
    clear k1
    have hx1 : (x.length == 0) = false := by rw [beq_eq_false_iff_ne]; intro e; exact kx (List.eq_nil_of_length_eq_zero e)
    have hx0 : ((x.length : Int) == 0) = false := by rw [beq_eq_false_iff_ne]; intro e; exact kx (List.eq_nil_of_length_eq_zero (by omega))
    clear kx
    go_enter Try.func28, Try.ntmps28
    go_wp2_with fail
    rw [← HW0.out]
    have hv := valid23_c nm k o s d r n _ _ q l W0 (HQ.out.below U0.out.bel) (HW.out.below U0.out.bel) hl hql
    rw [K1.out] at hv
    refine hv.mono ?_
    clear hv
    rintro e w1 ⟨rfl, b1⟩
    have U1 := Lib.hid (U0.out.next b1)
    clear b1 U0 HW0
    obtain ⟨p0, p1, p2, p3, p4, p5⟩ := sixBlk U1.out.prt
    obtain ⟨g0, g1, g2, _, _, _⟩ := threeBlk U1.out.arg
    obtain ⟨r0, r1, r2, r3, r4, r5⟩ := threeBlk U1.out.res
    have hps1 := blk_lt U1.out.prt
    have hgs1 := blk_lt U1.out.arg
    have hrs1 := blk_lt U1.out.res
    go_wp2_with fail
    refine bodyPost_ret (v := .tuple #[.agg #[.slice aq q.length cq, .slice aw l.length cw, .int .i64 n], .int .i64 (-1), .int .i64 3]) (by simp [results, Try.results28, go_sem, r0, r1, r2]) rfl ?_
    exact ⟨_, _, rfl, HQ.out.below (U1.out.fin _ _ _), HW.out.below (U1.out.fin _ _ _), U1.out.fin _ _ _, HG.out.below (U1.out.fin _ _ _)⟩
  · rw [k2]
    clear k2
    have K1 := Lib.hid k1
    clear k1
    have hx1 : (x.length == 0) = false := by rw [beq_eq_false_iff_ne]; intro e; exact kx (List.eq_nil_of_length_eq_zero e)
    have hx0 : ((x.length : Int) == 0) = false := by rw [beq_eq_false_iff_ne]; intro e; exact kx (List.eq_nil_of_length_eq_zero (by omega))
    clear kx
    have KL := Lib.hid kl
    have hl0 : 0 < l.length := by rw [kl]; simp
    have hl1 : (0 : Int) < (l.length : Int) := by omega
    have hl3 : (1 : Int) ≤ (l.length : Int) := by omega
    clear kl
    go_enter Try.func28, Try.ntmps28
    go_wp2_with fail
    rw [← HW0.out]
    have hv := valid23_c nm k o s d r n _ _ q l W0 (HQ.out.below U0.out.bel) (HW.out.below U0.out.bel) hl hql
    rw [K1.out] at hv
    refine hv.mono ?_
    clear hv
    rintro e w1 ⟨rfl, b1⟩
    have U1 := Lib.hid (U0.out.next b1)
    clear b1 U0 HW0
    obtain ⟨p0, p1, p2, p3, p4, p5⟩ := sixBlk U1.out.prt
    obtain ⟨g0, g1, g2, _, _, _⟩ := threeBlk U1.out.arg
    obtain ⟨r0, r1, r2, r3, r4, r5⟩ := threeBlk U1.out.res
    have hps1 := blk_lt U1.out.prt
    have hgs1 := blk_lt U1.out.arg
    have hrs1 := blk_lt U1.out.res
    have hcw0 : l.length ≤ cw := by obtain ⟨_, _, hv, h1, _⟩ := HW.out; simp only [Value.slice.injEq] at hv; omega
    have hcwz : (l.length : Int) ≤ (cw : Int) := by omega
    obtain ⟨b, off, rfl, hl2, hbw, e0⟩ := HW.out.headS KL.out
    have e1 : w1.cell? ⟨b, off, none⟩ = some (.int .i64 y.proc) := (U1.out.bel.cell (p := ⟨b, off, none⟩) hbw).trans e0
    have hb2 : ¬ (b = w.heap.size + 1 + 1) := by omega
    have hb4 : ¬ (w.heap.size + 1 + 1 = b) := by omega
    have hb3 : b < w1.heap.size := Nat.lt_of_lt_of_le hbw U1.out.bel.size
    clear e0
    by_cases hcw : cw = 1
    · subst hcw
      have TW : Hid (RdW w 0 (.slice (some ⟨b, off, none⟩) 0 0) m) := by have := HW.out.tailS KL.out; rw [show l.length - 1 = 0 by omega] at this; first | rwa [if_pos rfl] at this | rwa [if_pos trivial] at this | rwa [if_neg hcw] at this
      go_wp2_with fail
      go_region_held3 (fun w' => w'.cell? ⟨w.heap.size + 1, 0, none⟩ = some (.slice aq q.length cq) ∧ w'.cell? ⟨w.heap.size + 1, 1, none⟩ = some (.slice (some ⟨b, off, none⟩) l.length 1) ∧ w'.cell? ⟨w.heap.size + 1, 2, none⟩ = some (.int .i64 n) ∧ w'.cell? ⟨b, off, none⟩ = some (.int .i64 y.proc)) (first | go_keep | (refine ⟨?_, ?_, ?_, ?_⟩ <;> assumption) | (refine ⟨?_, ?_, ?_, ?_⟩ <;> simp [*, World.cell?_setCell_far])) (fail)
      all_goals
        go_wp2_with fail
        refine bodyPost_ret (v := .tuple #[.agg #[.slice aq q.length cq, .slice (some ⟨b, off, none⟩) 0 0, .int .i64 n], .int .i64 y.proc, .int .i64 0]) (by simp [results, Try.results28, go_sem, r0, r1, r2]) rfl ?_
        first | exact ⟨_, _, rfl, HQ.out.below (U1.out.fin _ _ _), TW.out.below (U1.out.fin _ _ _), U1.out.fin _ _ _, HG.out.below (U1.out.fin _ _ _)⟩ | exact ⟨_, _, rfl, HQ.out.below (U1.out.finD _ _ _), TW.out.below (U1.out.finD _ _ _), U1.out.finD _ _ _, HG.out.below (U1.out.finD _ _ _)⟩
    · skip
      have TW : Hid (RdW w 0 (.slice (some ⟨b, off + 3, none⟩) (l.length - 1) (cw - 1)) m) := by have := HW.out.tailS KL.out; first | rwa [if_pos rfl] at this | rwa [if_pos trivial] at this | rwa [if_neg hcw] at this
      go_wp2_with fail
      go_region_held3 (fun w' => w'.cell? ⟨w.heap.size + 1, 0, none⟩ = some (.slice aq q.length cq) ∧ w'.cell? ⟨w.heap.size + 1, 1, none⟩ = some (.slice (some ⟨b, off, none⟩) l.length cw) ∧ w'.cell? ⟨w.heap.size + 1, 2, none⟩ = some (.int .i64 n) ∧ w'.cell? ⟨b, off, none⟩ = some (.int .i64 y.proc)) (first | go_keep | (refine ⟨?_, ?_, ?_, ?_⟩ <;> assumption) | (refine ⟨?_, ?_, ?_, ?_⟩ <;> simp [*, World.cell?_setCell_far])) (fail)
      all_goals
        go_wp2_with fail
        refine bodyPost_ret (v := .tuple #[.agg #[.slice aq q.length cq, .slice (some ⟨b, off + 3, none⟩) (l.length - 1) (cw - 1), .int .i64 n], .int .i64 y.proc, .int .i64 0]) (by simp [results, Try.results28, go_sem, r0, r1, r2]) rfl ?_
        first | exact ⟨_, _, rfl, HQ.out.below (U1.out.fin _ _ _), TW.out.below (U1.out.fin _ _ _), U1.out.fin _ _ _, HG.out.below (U1.out.fin _ _ _)⟩ | exact ⟨_, _, rfl, HQ.out.below (U1.out.finD _ _ _), TW.out.below (U1.out.finD _ _ _), U1.out.finD _ _ _, HG.out.below (U1.out.finD _ _ _)⟩
  · rw [k2]
    clear k2
    have K1 := Lib.hid k1
    clear k1
    have hx1 : (x.length == 0) = false := by rw [beq_eq_false_iff_ne]; intro e; exact kx (List.eq_nil_of_length_eq_zero e)
    have hx0 : ((x.length : Int) == 0) = false := by rw [beq_eq_false_iff_ne]; intro e; exact kx (List.eq_nil_of_length_eq_zero (by omega))
    clear kx
    have hl0 : ¬ 0 < l.length := by rw [kl]; simp
    have hl1 : ¬ (0 : Int) < (l.length : Int) := by rw [kl]; simp
    clear kl
    have hd0 : ((q.length : Int) == d) = true := by simpa using kd
    clear kd
    have hn0 : (n == 1073741824) = true := by simpa using kn
    clear kn
    go_enter Try.func28, Try.ntmps28
    go_wp2_with fail
    rw [← HW0.out]
    have hv := valid23_c nm k o s d r n _ _ q l W0 (HQ.out.below U0.out.bel) (HW.out.below U0.out.bel) hl hql
    rw [K1.out] at hv
    refine hv.mono ?_
    clear hv
    rintro e w1 ⟨rfl, b1⟩
    have U1 := Lib.hid (U0.out.next b1)
    clear b1 U0 HW0
    obtain ⟨p0, p1, p2, p3, p4, p5⟩ := sixBlk U1.out.prt
    obtain ⟨g0, g1, g2, _, _, _⟩ := threeBlk U1.out.arg
    obtain ⟨r0, r1, r2, r3, r4, r5⟩ := threeBlk U1.out.res
    have hps1 := blk_lt U1.out.prt
    have hgs1 := blk_lt U1.out.arg
    have hrs1 := blk_lt U1.out.res
    go_wp2_with fail
    refine bodyPost_ret (v := .tuple #[.agg #[.slice aq q.length cq, .slice aw l.length cw, .int .i64 n], .int .i64 (-1), .int .i64 4]) (by simp [results, Try.results28, go_sem, r0, r1, r2]) rfl ?_
    exact ⟨_, _, rfl, HQ.out.below (U1.out.fin _ _ _), HW.out.below (U1.out.fin _ _ _), U1.out.fin _ _ _, HG.out.below (U1.out.fin _ _ _)⟩
  · rw [k2]
    clear k2
    have K1 := Lib.hid k1
    clear k1
    have hx1 : (x.length == 0) = false := by rw [beq_eq_false_iff_ne]; intro e; exact kx (List.eq_nil_of_length_eq_zero e)
    have hx0 : ((x.length : Int) == 0) = false := by rw [beq_eq_false_iff_ne]; intro e; exact kx (List.eq_nil_of_length_eq_zero (by omega))
    clear kx
    have hl0 : ¬ 0 < l.length := by rw [kl]; simp
    have hl1 : ¬ (0 : Int) < (l.length : Int) := by rw [kl]; simp
    clear kl
    have hd0 : ((q.length : Int) == d) = true := by simpa using kd
    clear kd
    have hn0 : (n == 1073741824) = false := by simpa using kn
    clear kn
    go_enter Try.func28, Try.ntmps28
    go_wp2_with fail
    rw [← HW0.out]
    have hv := valid23_c nm k o s d r n _ _ q l W0 (HQ.out.below U0.out.bel) (HW.out.below U0.out.bel) hl hql
    rw [K1.out] at hv
    refine hv.mono ?_
    clear hv
    rintro e w1 ⟨rfl, b1⟩
    have U1 := Lib.hid (U0.out.next b1)
    clear b1 U0 HW0
    obtain ⟨p0, p1, p2, p3, p4, p5⟩ := sixBlk U1.out.prt
    obtain ⟨g0, g1, g2, _, _, _⟩ := threeBlk U1.out.arg
    obtain ⟨r0, r1, r2, r3, r4, r5⟩ := threeBlk U1.out.res
    have hps1 := blk_lt U1.out.prt
    have hgs1 := blk_lt U1.out.arg
    have hrs1 := blk_lt U1.out.res
    go_wp2_with fail
    refine bodyPost_ret (v := .tuple #[.agg #[.slice aq q.length cq, .slice aw l.length cw, .int .i64 (n + 1)], .int .i64 (-1), .int .i64 4]) (by simp [results, Try.results28, go_sem, r0, r1, r2]) rfl ?_
    exact ⟨_, _, rfl, HQ.out.below (U1.out.fin _ _ _), HW.out.below (U1.out.fin _ _ _), U1.out.fin _ _ _, HG.out.below (U1.out.fin _ _ _)⟩
  · rw [k2]
    clear k2
    have K1 := Lib.hid k1
    clear k1
    have hx1 : (x.length == 0) = false := by rw [beq_eq_false_iff_ne]; intro e; exact kx (List.eq_nil_of_length_eq_zero e)
    have hx0 : ((x.length : Int) == 0) = false := by rw [beq_eq_false_iff_ne]; intro e; exact kx (List.eq_nil_of_length_eq_zero (by omega))
    clear kx
    have hl0 : ¬ 0 < l.length := by rw [kl]; simp
    have hl1 : ¬ (0 : Int) < (l.length : Int) := by rw [kl]; simp
    clear kl
    have hd0 : ((q.length : Int) == d) = false := by simpa using kd
    clear kd
    go_enter Try.func28, Try.ntmps28
    go_wp2_with fail
    rw [← HW0.out]
    have hv := valid23_c nm k o s d r n _ _ q l W0 (HQ.out.below U0.out.bel) (HW.out.below U0.out.bel) hl hql
    rw [K1.out] at hv
    refine hv.mono ?_
    clear hv
    rintro e w1 ⟨rfl, b1⟩
    have U1 := Lib.hid (U0.out.next b1)
    clear b1 U0 HW0
    obtain ⟨p0, p1, p2, p3, p4, p5⟩ := sixBlk U1.out.prt
    obtain ⟨g0, g1, g2, _, _, _⟩ := threeBlk U1.out.arg
    obtain ⟨r0, r1, r2, r3, r4, r5⟩ := threeBlk U1.out.res
    have hps1 := blk_lt U1.out.prt
    have hgs1 := blk_lt U1.out.arg
    have hrs1 := blk_lt U1.out.res
    obtain ⟨vs, hsl, hin⟩ := HQ.out
    have hvl : vs.length = q.length := by obtain ⟨_, _, _, _, _, h3, _⟩ := hsl; omega
    have hone := slOne hsl (fun i u y hu hy => (hin i u y hu hy).mono (Nat.zero_le _)) rfl
    have hsl1 := hsl.below U1.out.bel
    obtain ⟨sA, xA, wA, hrA, htA, hbA, hkA⟩ := twoQ1 (W := w1) (W' := (w1.alloc (.cells #[] 28)).drew) (g := w1.heap.size) ((Below.refl _ w1).alloc (Nat.le_refl _) _).drew (heap_alloc_new w1 _) (Nat.le_refl _) (hsl1.below ((Below.refl _ w1).alloc (Nat.le_refl _) _).drew) hone hql 24
    obtain ⟨aA2, cA2, wA2, hrA2, htA2, hbA2, hgA2⟩ := twoQ2 (W := w1) (W' := wA.alloc (.cells #[.slice ax x.length cx] 28)) (g := wA.heap.size) (hbA.alloc hbA.size _) (own_below htA ((Below.refl _ _).alloc (Nat.le_refl _) _)) rfl (heap_alloc_new wA _) hql 24
    have RA := Lib.hid hrA
    have RA2 := Lib.hid hrA2
    have UA := Lib.hid (U1.out.next hbA2)
    have ZA := Lib.hid (U1.out.next hbA)
    have TA := Lib.hid (fun a b e => twoQfin (w := w) htA2 hrs1 UA.out.bel rfl hvl hin HX.out hgA2 a b e)
    clear hrA hrA2 hkA hgA2 hbA2 hbA htA2 htA
    obtain ⟨sB, xB, wB, hrB, htB, hbB, hkB⟩ := twoQ1 (W := w1) (W' := ((w1.alloc (.cells #[] 28)).alloc (.cells #[.slice ax x.length cx] 28)).drew) (g := w1.heap.size) (((Below.refl _ w1).alloc (Nat.le_refl _) _).alloc (by simp) _).drew ((Below.heap_alloc _ _ _ (by simp)).trans (heap_alloc_new w1 _)) (Nat.le_refl _) (hsl1.below (((Below.refl _ w1).alloc (Nat.le_refl _) _).alloc (by simp) _).drew) hone hql 24
    obtain ⟨aB2, cB2, wB2, hrB2, htB2, hbB2, hgB2⟩ := twoQ2 (W := w1) (W' := wB) (g := (w1.heap.size + 1)) hbB htB rfl (hkB (w1.heap.size + 1) _ (by omega) (alloc2Q w1 _ _)) hql 24
    have RB := Lib.hid hrB
    have RB2 := Lib.hid hrB2
    have UB := Lib.hid (U1.out.next hbB2)
    have ZB := Lib.hid (U1.out.next hbB)
    have TB := Lib.hid (fun a b e => twoQfin (w := w) htB2 hrs1 UB.out.bel rfl hvl hin HX.out hgB2 a b e)
    clear hrB hrB2 hkB hgB2 hbB2 hbB htB2 htB
    obtain ⟨sC, xC, wC, hrC, htC, hbC, hkC⟩ := twoQ1 (W := w1) (W' := ((w1.alloc (.cells #[.slice ax x.length cx] 28)).alloc (.cells #[] 28)).drew) (g := (w1.heap.size + 1)) (((Below.refl _ w1).alloc (Nat.le_refl _) _).alloc (by simp) _).drew (alloc2Q w1 _ _) (Nat.le_succ _) (hsl1.below (((Below.refl _ w1).alloc (Nat.le_refl _) _).alloc (by simp) _).drew) hone hql 24
    obtain ⟨aC2, cC2, wC2, hrC2, htC2, hbC2, hgC2⟩ := twoQ2 (W := w1) (W' := wC) (g := w1.heap.size) hbC htC rfl (hkC w1.heap.size _ (by omega) ((Below.heap_alloc _ _ _ (by simp)).trans (heap_alloc_new w1 _))) hql 24
    have RC := Lib.hid hrC
    have RC2 := Lib.hid hrC2
    have UC := Lib.hid (U1.out.next hbC2)
    have ZC := Lib.hid (U1.out.next hbC)
    have TC := Lib.hid (fun a b e => twoQfin (w := w) htC2 hrs1 UC.out.bel rfl hvl hin HX.out hgC2 a b e)
    clear hrC hrC2 hkC hgC2 hbC2 hbC htC2 htC
    clear hsl hin hone hsl1
    go_wp2_with fail
    go_region_held3 (fun w' => w'.cell? ⟨w.heap.size + 1, 0, none⟩ = some (.slice aq q.length cq) ∧ w'.cell? ⟨w.heap.size + 1, 1, none⟩ = some (.slice aw l.length cw) ∧ w'.cell? ⟨w.heap.size + 1, 2, none⟩ = some (.int .i64 n)) (first | go_keep | (refine ⟨?_, ?_, ?_⟩ <;> assumption) | (refine ⟨?_, ?_, ?_⟩ <;> simp [*, World.cell?_setCell_far])) (first | (refine step_append_run (w := (w1.alloc (.cells #[] 28)).drew) rfl (.tmp 60) (.tmp 62) 24 rfl _ _ (by simp [Act.eval]) (by simp [Act.eval]) RA.out ?_; obtain ⟨yA0, yA1, yA2, _, _, _⟩ := threeBlk ZA.out.arg; obtain ⟨yA4, yA5, yA6, yA7, yA8, yA9⟩ := threeBlk ZA.out.res; have yAb := blk_lt ZA.out.arg; have yAc := blk_lt ZA.out.res) | (refine step_append_run (w := wA.alloc (.cells #[.slice ax x.length cx] 28)) rfl (.tmp 63) (.tmp 65) 24 rfl _ _ (by simp [Act.eval]) (by simp [Act.eval]) RA2.out ?_; have selA : True := trivial; obtain ⟨z0, z1, z2, _, _, _⟩ := threeBlk UA.out.arg; obtain ⟨z4, z5, z6, z7, z8, z9⟩ := threeBlk UA.out.res; have zb := blk_lt UA.out.arg; have zc := blk_lt UA.out.res) | (refine step_append_run (w := ((w1.alloc (.cells #[] 28)).alloc (.cells #[.slice ax x.length cx] 28)).drew) rfl (.tmp 60) (.tmp 62) 24 rfl _ _ (by simp [Act.eval]) (by simp [Act.eval]) RB.out ?_; obtain ⟨yB0, yB1, yB2, _, _, _⟩ := threeBlk ZB.out.arg; obtain ⟨yB4, yB5, yB6, yB7, yB8, yB9⟩ := threeBlk ZB.out.res; have yBb := blk_lt ZB.out.arg; have yBc := blk_lt ZB.out.res) | (refine step_append_run (w := wB) rfl (.tmp 63) (.tmp 65) 24 rfl _ _ (by simp [Act.eval]) (by simp [Act.eval]) RB2.out ?_; have selB : True := trivial; obtain ⟨z0, z1, z2, _, _, _⟩ := threeBlk UB.out.arg; obtain ⟨z4, z5, z6, z7, z8, z9⟩ := threeBlk UB.out.res; have zb := blk_lt UB.out.arg; have zc := blk_lt UB.out.res) | (refine step_append_run (w := ((w1.alloc (.cells #[.slice ax x.length cx] 28)).alloc (.cells #[] 28)).drew) rfl (.tmp 60) (.tmp 62) 24 rfl _ _ (by simp [Act.eval]) (by simp [Act.eval]) RC.out ?_; obtain ⟨yC0, yC1, yC2, _, _, _⟩ := threeBlk ZC.out.arg; obtain ⟨yC4, yC5, yC6, yC7, yC8, yC9⟩ := threeBlk ZC.out.res; have yCb := blk_lt ZC.out.arg; have yCc := blk_lt ZC.out.res) | (refine step_append_run (w := wC) rfl (.tmp 63) (.tmp 65) 24 rfl _ _ (by simp [Act.eval]) (by simp [Act.eval]) RC2.out ?_; have selC : True := trivial; obtain ⟨z0, z1, z2, _, _, _⟩ := threeBlk UC.out.arg; obtain ⟨z4, z5, z6, z7, z8, z9⟩ := threeBlk UC.out.res; have zb := blk_lt UC.out.arg; have zc := blk_lt UC.out.res))
    all_goals
      go_wp2_with fail
      first
        | (have _s := selA; refine bodyPost_ret (v := .tuple #[.agg #[.slice aA2 (q.length + 1) cA2, .slice aw l.length cw, .int .i64 n], .int .i64 (-1), .int .i64 0]) (by simp [results, Try.results28, go_sem, z4, z5, z6]) rfl ?_; exact ⟨_, _, rfl, (TA.out _ _ _).1, HW.out.below (UA.out.fin _ _ _), UA.out.fin _ _ _, (TA.out _ _ _).2⟩)
        | (have _s := selB; refine bodyPost_ret (v := .tuple #[.agg #[.slice aB2 (q.length + 1) cB2, .slice aw l.length cw, .int .i64 n], .int .i64 (-1), .int .i64 0]) (by simp [results, Try.results28, go_sem, z4, z5, z6]) rfl ?_; exact ⟨_, _, rfl, (TB.out _ _ _).1, HW.out.below (UB.out.fin _ _ _), UB.out.fin _ _ _, (TB.out _ _ _).2⟩)
        | (have _s := selC; refine bodyPost_ret (v := .tuple #[.agg #[.slice aC2 (q.length + 1) cC2, .slice aw l.length cw, .int .i64 n], .int .i64 (-1), .int .i64 0]) (by simp [results, Try.results28, go_sem, z4, z5, z6]) rfl ?_; exact ⟨_, _, rfl, (TC.out _ _ _).1, HW.out.below (UC.out.fin _ _ _), UC.out.fin _ _ _, (TC.out _ _ _).2⟩)
end Go.Proofs.Ytglbfmcbojjglaa

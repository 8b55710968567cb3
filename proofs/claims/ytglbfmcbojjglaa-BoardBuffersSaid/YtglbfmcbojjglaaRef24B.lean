/-
  The contracts of nacelleref24.ValidBuffer and CancelBuffer. Conditions: what is read can be read, at most ninety thousand elements.
-/
import Derived.Test.YtglbfmcbojjglaaRef24
import Derived.Test.YtglbfmcbojjglaaBuC
namespace Go.Proofs.Ytglbfmcbojjglaa
open Go.RowKit

set_option maxHeartbeats 4000000 in
set_option maxRecDepth 100000 in
theorem validBu24_c (n : Int) (vd vp vg : Value) (d : List Int) (p g : List Wt) (w : World) (hd : RdI .u8 w 0 vd d) (hp : RdW w 0 vp p) (hg : RdW w 0 vg g) (hpl : p.length ≤ 90000) (hgl : g.length ≤ 90000) :
    Calls Try.prog 81 #[.agg #[.int .i64 n, vd, vp, vg]] w fun e w' => e = .returned (.bool (vldBu n d p g)) ∧ Below w.heap.size w w' := by
  obtain ⟨ad, cd, rfl, _, _, _⟩ := hd.open_
  obtain ⟨ap, cp, rfl, _, _, _⟩ := hp.open_
  obtain ⟨ag, cg, rfl, _, _, _⟩ := hg.open_
  have B0 : Hid (Below w.heap.size w (w.alloc (.cells #[.int .i64 n, .slice ad d.length cd, .slice ap p.length cp, .slice ag g.length cg] 142))) := (Below.refl _ w).alloc (Nat.le_refl _) _
  have BK0 : Hid ((w.alloc (.cells #[.int .i64 n, .slice ad d.length cd, .slice ap p.length cp, .slice ag g.length cg] 142)).heap[w.heap.size]? = some (.cells #[.int .i64 n, .slice ad d.length cd, .slice ap p.length cp, .slice ag g.length cg] 142 (0, 0))) := heap_alloc_new w _
  obtain ⟨W0, HW0⟩ : ∃ W0, Hid (W0 = w.alloc (.cells #[.int .i64 n, .slice ad d.length cd, .slice ap p.length cp, .slice ag g.length cg] 142)) := ⟨_, rfl⟩
  have HP := Lib.hid hp
  have HG := Lib.hid hg
  clear hd hp hg
  by_cases h1 : n < 1
  · rw [show vldBu n d p g = false by simp [vldBu, Int.not_le.2 h1]]
    clear HP HG BK0 HW0
    go_enter Try.func81, Try.ntmps81
    go_wp2_with fail
    go_ret
    exact ⟨rfl, B0.out⟩
  by_cases h2 : 16 < n
  · rw [show vldBu n d p g = false by simp [vldBu, Int.not_le.2 h2]]
    clear HP HG BK0 HW0
    go_enter Try.func81, Try.ntmps81
    go_wp2_with fail
    go_ret
    exact ⟨rfl, B0.out⟩
  by_cases h3 : n < (d.length : Int)
  · rw [show vldBu n d p g = false by simp [vldBu, Int.not_le.2 h3]]
    clear HP HG BK0 HW0
    go_enter Try.func81, Try.ntmps81
    go_wp2_with fail
    go_ret
    exact ⟨rfl, B0.out⟩
  have HV0 : Hid (vldBu n d p g = ((decide (OrdW p) && decide (OrdW g)) && (p.length == 0 || (d.length : Int) == n) && (g.length == 0 || d.length == 0) && !g.any (fun y => y.val != 0))) := by
    show _ = _
    simp only [vldBu, decide_eq_true (Int.not_lt.1 h1), decide_eq_true (Int.not_lt.1 h2), decide_eq_true (Int.not_lt.1 h3), Bool.true_and]
  rw [HV0.out]
  clear HV0
  rw [← HW0.out] at B0 BK0
  have HOP : Hid (∀ W, Below w.heap.size w W → Calls Try.prog 45 #[.slice ap p.length cp] W fun e w' => e = .returned (.bool (decide (OrdW p))) ∧ Below W.heap.size W w') := fun W hb => refOrdered_c _ p W (HP.out.below hb) hpl
  have HOG : Hid (∀ W, Below w.heap.size w W → Calls Try.prog 45 #[.slice ag g.length cg] W fun e w' => e = .returned (.bool (decide (OrdW g))) ∧ Below W.heap.size W w') := fun W hb => refOrdered_c _ g W (HG.out.below hb) hgl
  have HBR : Hid (∀ W, Below w.heap.size w W → Calls Try.prog 117 #[.slice ag g.length cg] W fun e w' => e = .returned (.bool (!g.any (fun y => y.val != 0))) ∧ Below W.heap.size W w') := fun W hb => bare24_c _ g W (HG.out.below hb) hgl
  clear HP HG
  generalize decide (OrdW p) = op at HOP ⊢
  generalize decide (OrdW g) = og at HOG ⊢
  generalize (!g.any (fun y => y.val != 0)) = br at HBR ⊢
  cases op with
  | false =>
    go_enter Try.func81, Try.ntmps81
    go_wp2_with fail
    rw [← HW0.out]
    refine (HOP.out W0 B0.out).mono ?_
    rintro e w1 ⟨rfl, b1⟩
    have bk1 := (b1.block _ (blk_lt BK0.out)).trans BK0.out
    have BK1 := Lib.hid bk1
    have B1 := Lib.hid (B0.out.trans (b1.mono B0.out.size))
    obtain ⟨x0, x1, x2, x3, _, _, _, _⟩ := fourBlk bk1
    have hx1 := blk_lt bk1
    clear b1 bk1
    go_wp2_with fail
    go_ret
    exact ⟨ret_bool (by simp), B1.out⟩
  | true =>
    cases og with
    | false =>
      go_enter Try.func81, Try.ntmps81
      go_wp2_with fail
      rw [← HW0.out]
      refine (HOP.out W0 B0.out).mono ?_
      rintro e w1 ⟨rfl, b1⟩
      have bk1 := (b1.block _ (blk_lt BK0.out)).trans BK0.out
      have BK1 := Lib.hid bk1
      have B1 := Lib.hid (B0.out.trans (b1.mono B0.out.size))
      obtain ⟨x0, x1, x2, x3, _, _, _, _⟩ := fourBlk bk1
      have hx1 := blk_lt bk1
      clear b1 bk1
      go_wp2_with fail
      refine (HOG.out w1 B1.out).mono ?_
      rintro e w2 ⟨rfl, b2⟩
      have bk2 := (b2.block _ (blk_lt BK1.out)).trans BK1.out
      have BK2 := Lib.hid bk2
      have B2 := Lib.hid (B1.out.trans (b2.mono B1.out.size))
      clear x0 x1 x2 x3
      obtain ⟨x0, x1, x2, x3, _, _, _, _⟩ := fourBlk bk2
      have hx2 := blk_lt bk2
      clear b2 bk2
      go_wp2_with fail
      go_ret
      exact ⟨ret_bool (by simp), B2.out⟩
    | true =>
      cases br with
      | false =>
        go_enter Try.func81, Try.ntmps81
        go_wp2_with fail
        rw [← HW0.out]
        refine (HOP.out W0 B0.out).mono ?_
        rintro e w1 ⟨rfl, b1⟩
        have bk1 := (b1.block _ (blk_lt BK0.out)).trans BK0.out
        have BK1 := Lib.hid bk1
        have B1 := Lib.hid (B0.out.trans (b1.mono B0.out.size))
        obtain ⟨x0, x1, x2, x3, _, _, _, _⟩ := fourBlk bk1
        have hx1 := blk_lt bk1
        clear b1 bk1
        go_wp2_with fail
        refine (HOG.out w1 B1.out).mono ?_
        rintro e w2 ⟨rfl, b2⟩
        have bk2 := (b2.block _ (blk_lt BK1.out)).trans BK1.out
        have BK2 := Lib.hid bk2
        have B2 := Lib.hid (B1.out.trans (b2.mono B1.out.size))
        clear x0 x1 x2 x3
        obtain ⟨x0, x1, x2, x3, _, _, _, _⟩ := fourBlk bk2
        have hx2 := blk_lt bk2
        clear b2 bk2
        go_wp2_with fail
        refine (HBR.out w2 B2.out).mono ?_
        rintro e w3 ⟨rfl, b3⟩
        have bk3 := (b3.block _ (blk_lt BK2.out)).trans BK2.out
        have BK3 := Lib.hid bk3
        have B3 := Lib.hid (B2.out.trans (b3.mono B2.out.size))
        clear x0 x1 x2 x3
        obtain ⟨x0, x1, x2, x3, _, _, _, _⟩ := fourBlk bk3
        have hx3 := blk_lt bk3
        clear b3 bk3
        go_wp2_with fail
        go_ret
        exact ⟨ret_bool (by simp), B3.out⟩
      | true =>
        have hE' : ((p.length : Int) == 0) = (p.length == 0) := by rw [Bool.eq_iff_iff]; simp
        have hG' : ((g.length : Int) == 0) = (g.length == 0) := by rw [Bool.eq_iff_iff]; simp
        have hH' : ((d.length : Int) == 0) = (d.length == 0) := by rw [Bool.eq_iff_iff]; simp
        cases hE : (p.length == 0) <;> cases hF : ((d.length : Int) == n) <;> cases hG : (g.length == 0) <;> cases hH : (d.length == 0)
        all_goals
          rw [hE] at hE'
          rw [hG] at hG'
          rw [hH] at hH'
          go_enter Try.func81, Try.ntmps81
          go_wp2_with fail
          rw [← HW0.out]
          refine (HOP.out W0 B0.out).mono ?_
          rintro e w1 ⟨rfl, b1⟩
          have bk1 := (b1.block _ (blk_lt BK0.out)).trans BK0.out
          have BK1 := Lib.hid bk1
          have B1 := Lib.hid (B0.out.trans (b1.mono B0.out.size))
          obtain ⟨x0, x1, x2, x3, _, _, _, _⟩ := fourBlk bk1
          have hx1 := blk_lt bk1
          clear b1 bk1
          go_wp2_with fail
          refine (HOG.out w1 B1.out).mono ?_
          rintro e w2 ⟨rfl, b2⟩
          have bk2 := (b2.block _ (blk_lt BK1.out)).trans BK1.out
          have BK2 := Lib.hid bk2
          have B2 := Lib.hid (B1.out.trans (b2.mono B1.out.size))
          clear x0 x1 x2 x3
          obtain ⟨x0, x1, x2, x3, _, _, _, _⟩ := fourBlk bk2
          have hx2 := blk_lt bk2
          clear b2 bk2
          go_wp2_with fail
          refine (HBR.out w2 B2.out).mono ?_
          rintro e w3 ⟨rfl, b3⟩
          have bk3 := (b3.block _ (blk_lt BK2.out)).trans BK2.out
          have BK3 := Lib.hid bk3
          have B3 := Lib.hid (B2.out.trans (b3.mono B2.out.size))
          clear x0 x1 x2 x3
          obtain ⟨x0, x1, x2, x3, _, _, _, _⟩ := fourBlk bk3
          have hx3 := blk_lt bk3
          clear b3 bk3
          go_wp2_with fail
          go_ret
          exact ⟨ret_bool (by first | rfl | simp), B3.out⟩

/-- The two variables of an operation of the reference on a buffer. -/
structure U24 (w W : World) (a b c d : Value) : Prop where
  arg : W.heap[w.heap.size]? = some (.cells #[a, b, c, d] 142 (0, 0))
  res : W.heap[w.heap.size + 1]? = some (.cells #[.int .i64 0, .slice none 0 0, .slice none 0 0, .slice none 0 0] 142 (0, 0))
  bel : Below w.heap.size w W
section
variable {w W W' : World} {a b c d : Value}
theorem U24.start (h : W = (w.alloc (.cells #[a, b, c, d] 142)).alloc (.cells #[.int .i64 0, .slice none 0 0, .slice none 0 0, .slice none 0 0] 142)) : U24 w W a b c d := by
  subst h
  exact ⟨(Below.heap_alloc _ _ _ (by simp)).trans (heap_alloc_new w _), allocBu2 w _ _, ((Below.refl _ w).alloc (Nat.le_refl _) _).alloc (by simp) _⟩
theorem U24.next (h : U24 w W a b c d) (hb : Below W.heap.size W W') : U24 w W' a b c d :=
  ⟨(hb.block _ (blk_lt h.arg)).trans h.arg, (hb.block _ (blk_lt h.res)).trans h.res, h.bel.trans (hb.mono h.bel.size)⟩
theorem U24.fin (h : U24 w W a b c d) (x y z u : Value) : Below w.heap.size w (put4 W (w.heap.size + 1) x y z u) := put4_below h.bel (Nat.le_succ _) x y z u
theorem U24.finD (h : U24 w W a b c d) (x y z u : Value) : Below w.heap.size w (put4 W.drew (w.heap.size + 1) x y z u) := put4_below h.bel.drew (Nat.le_succ _) x y z u
theorem U24.ownFin {B : Nat} {v : Value} {l : List Wt} (h : FrW W B v l) (hB : w.heap.size + 1 < B) (x y z u : Value) : RdW (put4 W (w.heap.size + 1) x y z u) 0 v l := ((((h.low hB).low hB).low hB).low hB).rd
end
def Ru1 (w : World) (n : Int) (d : List Int) (p g : List Wt) (y : Value) (e : Ending) (w' : World) : Prop := ∃ vd vp vg, e = .returned (.tuple #[.agg #[.int .i64 n, vd, vp, vg], y]) ∧ RdI .u8 w' 0 vd d ∧ RdW w' 0 vp p ∧ RdW w' 0 vg g ∧ Below w.heap.size w w'
def Ru3 (w : World) (n : Int) (d : List Int) (p g : List Wt) (y1 y2 y3 : Value) (e : Ending) (w' : World) : Prop := ∃ vd vp vg, e = .returned (.tuple #[.agg #[.int .i64 n, vd, vp, vg], y1, y2, y3]) ∧ RdI .u8 w' 0 vd d ∧ RdW w' 0 vp p ∧ RdW w' 0 vg g ∧ Below w.heap.size w w'
def Ru4 (w : World) (n : Int) (d : List Int) (p g : List Wt) (y1 y2 y3 y4 : Value) (e : Ending) (w' : World) : Prop := ∃ vd vp vg, e = .returned (.tuple #[.agg #[.int .i64 n, vd, vp, vg], y1, y2, y3, y4]) ∧ RdI .u8 w' 0 vd d ∧ RdW w' 0 vp p ∧ RdW w' 0 vg g ∧ Below w.heap.size w w'
end Go.Proofs.Ytglbfmcbojjglaa

/-
  The contracts of nacelleref24.Put and Get. Conditions: what is read can be read, at most forty thousand elements.
-/
import Derived.Test.YtglbfmcbojjglaaRef24W1
import Derived.Test.YtglbfmcbojjglaaRef24W2
import Derived.Test.YtglbfmcbojjglaaRef24W3
import Derived.Test.YtglbfmcbojjglaaRef24W4
namespace Go.Proofs.Ytglbfmcbojjglaa
open Go.RowKit

set_option maxHeartbeats 4000000 in
set_option maxRecDepth 100000 in
theorem put24_c (n : Int) (q r v : Int) (vd vp vg : Value) (d : List Int) (p g : List Wt) (w : World) (hd : RdI .u8 w 0 vd d) (hp : RdW w 0 vp p) (hg : RdW w 0 vg g) (hdl : d.length ≤ 40000) (hpl : p.length ≤ 90000) (hgl : g.length ≤ 90000) :
    Calls Try.prog 76 #[.agg #[.int .i64 n, vd, vp, vg], .int .i64 q, .int .i64 r, .int .u8 v] w (Ru3 w n (putBu n d p g q r v).1 (putBu n d p g q r v).2.1 (putBu n d p g q r v).2.2.1 (.bool (putBu n d p g q r v).2.2.2.1) (.int .i64 (putBu n d p g q r v).2.2.2.2.1) (.int .i64 (putBu n d p g q r v).2.2.2.2.2)) := by
  obtain ⟨ad, cd, rfl, _, _, _⟩ := hd.open_
  obtain ⟨ap, cp, rfl, _, _, _⟩ := hp.open_
  obtain ⟨ag, cg, rfl, _, _, _⟩ := hg.open_
  obtain ⟨W0, hW0⟩ : ∃ W0, W0 = (w.alloc (.cells #[.int .i64 n, .slice ad d.length cd, .slice ap p.length cp, .slice ag g.length cg] 142)).alloc (.cells #[.int .i64 0, .slice none 0 0, .slice none 0 0, .slice none 0 0] 142) := ⟨_, rfl⟩
  have HD := Lib.hid hd
  have HP := Lib.hid hp
  have HG := Lib.hid hg
  have U0 := Lib.hid (U24.start hW0)
  have HW0 := Lib.hid hW0
  clear hd hp hg hW0
  have hway : (vldBu n d p g = false ∧ putBu n d p g q r v = (d, p, g, false, -1, 2)) ∨ (vldBu n d p g = true ∧ q < 0 ∧ putBu n d p g q r v = (d, p, g, false, -1, 2)) ∨ (vldBu n d p g = true ∧ 0 ≤ q ∧ p.any (fun x => decide (x.proc = q)) = true ∧ putBu n d p g q r v = (d, p, g, false, -1, 2)) ∨ (vldBu n d p g = true ∧ 0 ≤ q ∧ p.any (fun x => decide (x.proc = q)) = false ∧ g.any (fun x => decide (x.proc = q)) = true ∧ putBu n d p g q r v = (d, p, g, false, -1, 2)) ∨
      (vldBu n d p g = true ∧ 0 ≤ q ∧ p.any (fun x => decide (x.proc = q)) = false ∧ g.any (fun x => decide (x.proc = q)) = false ∧ ((∃ x m, g = x :: m ∧ putBu n d p g q r v = (d, p, m, true, x.proc, 0)) ∨ (g = [] ∧ (d.length : Int) < n ∧ putBu n d p g q r v = (d ++ [v], p, g, true, -1, 0)) ∨ (g = [] ∧ ¬ (d.length : Int) < n ∧ putBu n d p g q r v = (d, enterW p ⟨q, r, v⟩, g, false, -1, 0)))) := by
    cases h1 : vldBu n d p g
    · exact .inl ⟨rfl, put_bad (by rw [h1]; rfl)⟩
    · rcases may_ways p g q with ⟨a, b⟩ | ⟨a, a1, b⟩ | ⟨a, a1, a2, b⟩ | ⟨a, a1, a2, b⟩
      · exact .inr (.inl ⟨rfl, a, put_bad (by rw [b, Bool.and_false])⟩)
      · exact .inr (.inr (.inl ⟨rfl, a, a1, put_bad (by rw [b, Bool.and_false])⟩))
      · exact .inr (.inr (.inr (.inl ⟨rfl, a, a1, a2, put_bad (by rw [b, Bool.and_false])⟩)))
      · refine .inr (.inr (.inr (.inr ⟨rfl, a, a1, a2, ?_⟩)))
        have hb : (vldBu n d p g && mayB p g q) = true := by rw [h1, b]; rfl
        rcases nil_or g with hg | ⟨x, m, hg⟩
        · by_cases hl : (d.length : Int) < n
          · refine .inr (.inl ⟨hg, hl, ?_⟩)
            have := put_store (r := r) (v := v) hb hg hl
            rw [this, hg]
          · refine .inr (.inr ⟨hg, hl, ?_⟩)
            have := put_wait (r := r) (v := v) hb hg hl
            rw [this, hg]
        · exact .inl ⟨x, m, hg, put_wake hb hg⟩
  rcases hway with ⟨k1, k2⟩ | ⟨k1, kq, k2⟩ | ⟨k1, kq, ka, k2⟩ | ⟨k1, kq, ka, kb, k2⟩ | ⟨k1, kq, ka, kb, ⟨x, m, kg, k2⟩ | ⟨kg, kd, k2⟩ | ⟨kg, kd, k2⟩⟩
  · rw [k2]
    clear k2
    have K1 := Lib.hid k1
    clear k1
    go_enter Try.func76, Try.ntmps76
    go_wp2_with fail
    rw [← HW0.out]
    have hv := validBu24_c n _ _ _ d p g W0 (HD.out.below U0.out.bel) (HP.out.below U0.out.bel) (HG.out.below U0.out.bel) hpl hgl
    rw [K1.out] at hv
    refine hv.mono ?_
    clear hv
    rintro e w1 ⟨rfl, b1⟩
    have U1 := Lib.hid (U0.out.next b1)
    clear b1 U0 HW0
    obtain ⟨g0, g1, g2, g3, _, _, _, _⟩ := fourBlk U1.out.arg
    obtain ⟨r0, r1, r2, r3, r4, r5, r6, r7⟩ := fourBlk U1.out.res
    have hgs1 := blk_lt U1.out.arg
    have hrs1 := blk_lt U1.out.res
    go_wp2_with fail
    refine bodyPost_ret (v := .tuple #[.agg #[.int .i64 n, .slice ad d.length cd, .slice ap p.length cp, .slice ag g.length cg], .bool false, .int .i64 (-1), .int .i64 2]) (by simp [results, Try.results76, go_sem, r0, r1, r2, r3]) rfl ?_
    exact ⟨_, _, _, rfl, HD.out.below (U1.out.fin _ _ _ _), HP.out.below (U1.out.fin _ _ _ _), HG.out.below (U1.out.fin _ _ _ _), U1.out.fin _ _ _ _⟩
  · rw [k2]
    clear k2
    have K1 := Lib.hid k1
    clear k1
    go_enter Try.func76, Try.ntmps76
    go_wp2_with fail
    rw [← HW0.out]
    have hv := validBu24_c n _ _ _ d p g W0 (HD.out.below U0.out.bel) (HP.out.below U0.out.bel) (HG.out.below U0.out.bel) hpl hgl
    rw [K1.out] at hv
    refine hv.mono ?_
    clear hv
    rintro e w1 ⟨rfl, b1⟩
    have U1 := Lib.hid (U0.out.next b1)
    clear b1 U0 HW0
    obtain ⟨g0, g1, g2, g3, _, _, _, _⟩ := fourBlk U1.out.arg
    obtain ⟨r0, r1, r2, r3, r4, r5, r6, r7⟩ := fourBlk U1.out.res
    have hgs1 := blk_lt U1.out.arg
    have hrs1 := blk_lt U1.out.res
    go_wp2_with fail
    refine bodyPost_ret (v := .tuple #[.agg #[.int .i64 n, .slice ad d.length cd, .slice ap p.length cp, .slice ag g.length cg], .bool false, .int .i64 (-1), .int .i64 2]) (by simp [results, Try.results76, go_sem, r0, r1, r2, r3]) rfl ?_
    exact ⟨_, _, _, rfl, HD.out.below (U1.out.fin _ _ _ _), HP.out.below (U1.out.fin _ _ _ _), HG.out.below (U1.out.fin _ _ _ _), U1.out.fin _ _ _ _⟩
  · rw [k2]
    clear k2
    have K1 := Lib.hid k1
    clear k1
    have hq0 : ¬ (q < 0) := by omega
    clear kq
    have KA := Lib.hid ka
    clear ka
    go_enter Try.func76, Try.ntmps76
    go_wp2_with fail
    rw [← HW0.out]
    have hv := validBu24_c n _ _ _ d p g W0 (HD.out.below U0.out.bel) (HP.out.below U0.out.bel) (HG.out.below U0.out.bel) hpl hgl
    rw [K1.out] at hv
    refine hv.mono ?_
    clear hv
    rintro e w1 ⟨rfl, b1⟩
    have U1 := Lib.hid (U0.out.next b1)
    clear b1 U0 HW0
    obtain ⟨g0, g1, g2, g3, _, _, _, _⟩ := fourBlk U1.out.arg
    obtain ⟨r0, r1, r2, r3, r4, r5, r6, r7⟩ := fourBlk U1.out.res
    have hgs1 := blk_lt U1.out.arg
    have hrs1 := blk_lt U1.out.res
    go_wp2_with fail
    have hv := refHas_c _ p q w1 (HP.out.below U1.out.bel) hpl
    rw [KA.out] at hv
    refine hv.mono ?_
    clear hv
    rintro e w2 ⟨rfl, b2⟩
    have U2 := Lib.hid (U1.out.next b2)
    clear b2 U1 g0 g1 g2 g3 r0 r1 r2 r3 r4 r5 r6 r7 hgs1 hrs1
    obtain ⟨g0, g1, g2, g3, _, _, _, _⟩ := fourBlk U2.out.arg
    obtain ⟨r0, r1, r2, r3, r4, r5, r6, r7⟩ := fourBlk U2.out.res
    have hgs2 := blk_lt U2.out.arg
    have hrs2 := blk_lt U2.out.res
    go_wp2_with fail
    refine bodyPost_ret (v := .tuple #[.agg #[.int .i64 n, .slice ad d.length cd, .slice ap p.length cp, .slice ag g.length cg], .bool false, .int .i64 (-1), .int .i64 2]) (by simp [results, Try.results76, go_sem, r0, r1, r2, r3]) rfl ?_
    exact ⟨_, _, _, rfl, HD.out.below (U2.out.fin _ _ _ _), HP.out.below (U2.out.fin _ _ _ _), HG.out.below (U2.out.fin _ _ _ _), U2.out.fin _ _ _ _⟩
  · rw [k2]
    clear k2
    have K1 := Lib.hid k1
    clear k1
    have hq0 : ¬ (q < 0) := by omega
    clear kq
    have KA := Lib.hid ka
    clear ka
    have KB := Lib.hid kb
    clear kb
    go_enter Try.func76, Try.ntmps76
    go_wp2_with fail
    rw [← HW0.out]
    have hv := validBu24_c n _ _ _ d p g W0 (HD.out.below U0.out.bel) (HP.out.below U0.out.bel) (HG.out.below U0.out.bel) hpl hgl
    rw [K1.out] at hv
    refine hv.mono ?_
    clear hv
    rintro e w1 ⟨rfl, b1⟩
    have U1 := Lib.hid (U0.out.next b1)
    clear b1 U0 HW0
    obtain ⟨g0, g1, g2, g3, _, _, _, _⟩ := fourBlk U1.out.arg
    obtain ⟨r0, r1, r2, r3, r4, r5, r6, r7⟩ := fourBlk U1.out.res
    have hgs1 := blk_lt U1.out.arg
    have hrs1 := blk_lt U1.out.res
    go_wp2_with fail
    have hv := refHas_c _ p q w1 (HP.out.below U1.out.bel) hpl
    rw [KA.out] at hv
    refine hv.mono ?_
    clear hv
    rintro e w2 ⟨rfl, b2⟩
    have U2 := Lib.hid (U1.out.next b2)
    clear b2 U1 g0 g1 g2 g3 r0 r1 r2 r3 r4 r5 r6 r7 hgs1 hrs1
    obtain ⟨g0, g1, g2, g3, _, _, _, _⟩ := fourBlk U2.out.arg
    obtain ⟨r0, r1, r2, r3, r4, r5, r6, r7⟩ := fourBlk U2.out.res
    have hgs2 := blk_lt U2.out.arg
    have hrs2 := blk_lt U2.out.res
    go_wp2_with fail
    have hv := refHas_c _ g q w2 (HG.out.below U2.out.bel) hgl
    rw [KB.out] at hv
    refine hv.mono ?_
    clear hv
    rintro e w3 ⟨rfl, b3⟩
    have U3 := Lib.hid (U2.out.next b3)
    clear b3 U2 g0 g1 g2 g3 r0 r1 r2 r3 r4 r5 r6 r7 hgs2 hrs2
    obtain ⟨g0, g1, g2, g3, _, _, _, _⟩ := fourBlk U3.out.arg
    obtain ⟨r0, r1, r2, r3, r4, r5, r6, r7⟩ := fourBlk U3.out.res
    have hgs3 := blk_lt U3.out.arg
    have hrs3 := blk_lt U3.out.res
    go_wp2_with fail
    refine bodyPost_ret (v := .tuple #[.agg #[.int .i64 n, .slice ad d.length cd, .slice ap p.length cp, .slice ag g.length cg], .bool false, .int .i64 (-1), .int .i64 2]) (by simp [results, Try.results76, go_sem, r0, r1, r2, r3]) rfl ?_
    exact ⟨_, _, _, rfl, HD.out.below (U3.out.fin _ _ _ _), HP.out.below (U3.out.fin _ _ _ _), HG.out.below (U3.out.fin _ _ _ _), U3.out.fin _ _ _ _⟩
  · rw [k2]
    clear k2
    have K1 := Lib.hid k1
    clear k1
    have KG := Lib.hid kg
    have hl0 : 0 < g.length := by rw [kg]; simp
    have hl1 : (0 : Int) < (g.length : Int) := by omega
    clear kg
    have hq0 : ¬ (q < 0) := by omega
    clear kq
    have KA := Lib.hid ka
    clear ka
    have KB := Lib.hid kb
    clear kb
    go_enter Try.func76, Try.ntmps76
    go_wp2_with fail
    rw [← HW0.out]
    have hv := validBu24_c n _ _ _ d p g W0 (HD.out.below U0.out.bel) (HP.out.below U0.out.bel) (HG.out.below U0.out.bel) hpl hgl
    rw [K1.out] at hv
    refine hv.mono ?_
    clear hv
    rintro e w1 ⟨rfl, b1⟩
    have U1 := Lib.hid (U0.out.next b1)
    clear b1 U0 HW0
    obtain ⟨g0, g1, g2, g3, _, _, _, _⟩ := fourBlk U1.out.arg
    obtain ⟨r0, r1, r2, r3, r4, r5, r6, r7⟩ := fourBlk U1.out.res
    have hgs1 := blk_lt U1.out.arg
    have hrs1 := blk_lt U1.out.res
    go_wp2_with fail
    have hv := refHas_c _ p q w1 (HP.out.below U1.out.bel) hpl
    rw [KA.out] at hv
    refine hv.mono ?_
    clear hv
    rintro e w2 ⟨rfl, b2⟩
    have U2 := Lib.hid (U1.out.next b2)
    clear b2 U1 g0 g1 g2 g3 r0 r1 r2 r3 r4 r5 r6 r7 hgs1 hrs1
    obtain ⟨g0, g1, g2, g3, _, _, _, _⟩ := fourBlk U2.out.arg
    obtain ⟨r0, r1, r2, r3, r4, r5, r6, r7⟩ := fourBlk U2.out.res
    have hgs2 := blk_lt U2.out.arg
    have hrs2 := blk_lt U2.out.res
    go_wp2_with fail
    have hv := refHas_c _ g q w2 (HG.out.below U2.out.bel) hgl
    rw [KB.out] at hv
    refine hv.mono ?_
    clear hv
    rintro e w3 ⟨rfl, b3⟩
    have U3 := Lib.hid (U2.out.next b3)
    clear b3 U2 g0 g1 g2 g3 r0 r1 r2 r3 r4 r5 r6 r7 hgs2 hrs2
    obtain ⟨g0, g1, g2, g3, _, _, _, _⟩ := fourBlk U3.out.arg
    obtain ⟨r0, r1, r2, r3, r4, r5, r6, r7⟩ := fourBlk U3.out.res
    have hgs3 := blk_lt U3.out.arg
    have hrs3 := blk_lt U3.out.res
    have hcg0 : g.length ≤ cg := by obtain ⟨_, _, hv, h1, _⟩ := HG.out; simp only [Value.slice.injEq] at hv; omega
    have hcg1 : (g.length : Int) ≤ (cg : Int) := by omega
    have hl3 : (1 : Int) ≤ (g.length : Int) := by omega
    obtain ⟨b, off, rfl, hl2, hbw, e0, _⟩ := HG.out.head3 KG.out
    have e1 : w3.cell? ⟨b, off, none⟩ = some (.int .i64 x.proc) := (U3.out.bel.cell (p := ⟨b, off, none⟩) hbw).trans e0
    have hb2 : ¬ (b = w.heap.size + 1) := by omega
    have hb4 : ¬ (w.heap.size + 1 = b) := by omega
    have hb3 : b < w3.heap.size := Nat.lt_of_lt_of_le hbw U3.out.bel.size
    clear e0
    by_cases hc1 : cg = 1
    · subst hc1
      have T2 : Hid (RdW w 0 (.slice (some ⟨b, off, none⟩) 0 0) m) := by have := HG.out.tail KG.out; rw [show g.length - 1 = 0 by omega] at this; first | rwa [if_pos rfl] at this | rwa [if_pos trivial] at this | rwa [if_neg hc1] at this
      go_wp2_with fail
      go_region_held3 (fun w' => w'.cell? ⟨w.heap.size, 0, none⟩ = some (.int .i64 n) ∧ w'.cell? ⟨w.heap.size, 1, none⟩ = some (.slice ad d.length cd) ∧ w'.cell? ⟨w.heap.size, 2, none⟩ = some (.slice ap p.length cp) ∧ w'.cell? ⟨w.heap.size, 3, none⟩ = some (.slice (some ⟨b, off, none⟩) g.length 1) ∧ w'.cell? ⟨b, off, none⟩ = some (.int .i64 x.proc)) (first | go_keep | (refine ⟨?_, ?_, ?_, ?_, ?_⟩ <;> assumption) | (refine ⟨?_, ?_, ?_, ?_, ?_⟩ <;> simp [*, World.cell?_setCell_far])) (fail)
      all_goals
        go_wp2_with fail
        refine bodyPost_ret (v := .tuple #[.agg #[.int .i64 n, .slice ad d.length cd, .slice ap p.length cp, .slice (some ⟨b, off, none⟩) 0 0], .bool true, .int .i64 x.proc, .int .i64 0]) (by simp [results, Try.results76, go_sem, r0, r1, r2, r3]) rfl ?_
        first | exact ⟨_, _, _, rfl, HD.out.below (U3.out.fin _ _ _ _), HP.out.below (U3.out.fin _ _ _ _), T2.out.below (U3.out.fin _ _ _ _), U3.out.fin _ _ _ _⟩ | exact ⟨_, _, _, rfl, HD.out.below (U3.out.finD _ _ _ _), HP.out.below (U3.out.finD _ _ _ _), T2.out.below (U3.out.finD _ _ _ _), U3.out.finD _ _ _ _⟩
    · skip
      have T2 : Hid (RdW w 0 (.slice (some ⟨b, off + 3, none⟩) (g.length - 1) (cg - 1)) m) := by have := HG.out.tail KG.out; first | rwa [if_neg rfl] at this | rwa [if_pos trivial] at this | rwa [if_neg hc1] at this
      go_wp2_with fail
      go_region_held3 (fun w' => w'.cell? ⟨w.heap.size, 0, none⟩ = some (.int .i64 n) ∧ w'.cell? ⟨w.heap.size, 1, none⟩ = some (.slice ad d.length cd) ∧ w'.cell? ⟨w.heap.size, 2, none⟩ = some (.slice ap p.length cp) ∧ w'.cell? ⟨w.heap.size, 3, none⟩ = some (.slice (some ⟨b, off, none⟩) g.length cg) ∧ w'.cell? ⟨b, off, none⟩ = some (.int .i64 x.proc)) (first | go_keep | (refine ⟨?_, ?_, ?_, ?_, ?_⟩ <;> assumption) | (refine ⟨?_, ?_, ?_, ?_, ?_⟩ <;> simp [*, World.cell?_setCell_far])) (fail)
      all_goals
        go_wp2_with fail
        refine bodyPost_ret (v := .tuple #[.agg #[.int .i64 n, .slice ad d.length cd, .slice ap p.length cp, .slice (some ⟨b, off + 3, none⟩) (g.length - 1) (cg - 1)], .bool true, .int .i64 x.proc, .int .i64 0]) (by simp [results, Try.results76, go_sem, r0, r1, r2, r3]) rfl ?_
        first | exact ⟨_, _, _, rfl, HD.out.below (U3.out.fin _ _ _ _), HP.out.below (U3.out.fin _ _ _ _), T2.out.below (U3.out.fin _ _ _ _), U3.out.fin _ _ _ _⟩ | exact ⟨_, _, _, rfl, HD.out.below (U3.out.finD _ _ _ _), HP.out.below (U3.out.finD _ _ _ _), T2.out.below (U3.out.finD _ _ _ _), U3.out.finD _ _ _ _⟩
  · rw [k2]
    clear k2
    have K1 := Lib.hid k1
    clear k1
    have KG := Lib.hid kg
    have hl0 : ¬ (0 < g.length) := by rw [kg]; simp
    have hl1 : ¬ ((0 : Int) < (g.length : Int)) := by omega
    clear kg
    have hq0 : ¬ (q < 0) := by omega
    clear kq
    have KA := Lib.hid ka
    clear ka
    have KB := Lib.hid kb
    clear kb
    go_enter Try.func76, Try.ntmps76
    go_wp2_with fail
    rw [← HW0.out]
    have hv := validBu24_c n _ _ _ d p g W0 (HD.out.below U0.out.bel) (HP.out.below U0.out.bel) (HG.out.below U0.out.bel) hpl hgl
    rw [K1.out] at hv
    refine hv.mono ?_
    clear hv
    rintro e w1 ⟨rfl, b1⟩
    have U1 := Lib.hid (U0.out.next b1)
    clear b1 U0 HW0
    obtain ⟨g0, g1, g2, g3, _, _, _, _⟩ := fourBlk U1.out.arg
    obtain ⟨r0, r1, r2, r3, r4, r5, r6, r7⟩ := fourBlk U1.out.res
    have hgs1 := blk_lt U1.out.arg
    have hrs1 := blk_lt U1.out.res
    go_wp2_with fail
    have hv := refHas_c _ p q w1 (HP.out.below U1.out.bel) hpl
    rw [KA.out] at hv
    refine hv.mono ?_
    clear hv
    rintro e w2 ⟨rfl, b2⟩
    have U2 := Lib.hid (U1.out.next b2)
    clear b2 U1 g0 g1 g2 g3 r0 r1 r2 r3 r4 r5 r6 r7 hgs1 hrs1
    obtain ⟨g0, g1, g2, g3, _, _, _, _⟩ := fourBlk U2.out.arg
    obtain ⟨r0, r1, r2, r3, r4, r5, r6, r7⟩ := fourBlk U2.out.res
    have hgs2 := blk_lt U2.out.arg
    have hrs2 := blk_lt U2.out.res
    go_wp2_with fail
    have hv := refHas_c _ g q w2 (HG.out.below U2.out.bel) hgl
    rw [KB.out] at hv
    refine hv.mono ?_
    clear hv
    rintro e w3 ⟨rfl, b3⟩
    have U3 := Lib.hid (U2.out.next b3)
    clear b3 U2 g0 g1 g2 g3 r0 r1 r2 r3 r4 r5 r6 r7 hgs2 hrs2
    obtain ⟨g0, g1, g2, g3, _, _, _, _⟩ := fourBlk U3.out.arg
    obtain ⟨r0, r1, r2, r3, r4, r5, r6, r7⟩ := fourBlk U3.out.res
    have hgs3 := blk_lt U3.out.arg
    have hrs3 := blk_lt U3.out.res
    have RD := Lib.hid (HD.out.below U3.out.bel)
    obtain ⟨vA, wA, hrA, htA, hbA, hkA⟩ := two1 (W := w3) (W' := (w3.alloc (.cells #[] 5)).drew) (g := w3.heap.size) ((Below.refl _ w3).alloc (Nat.le_refl _) _).drew (heap_alloc_new w3 _) (Nat.le_refl _) (RD.out.below ((Below.refl _ w3).alloc (Nat.le_refl _) _).drew) (by omega) 28
    obtain ⟨aA2, mA2, cA2, wA2, hrA2, htA2, hbA2⟩ := two2 (W := w3) (W' := wA.alloc (.cells #[.int .u8 v] 5)) (g := wA.heap.size) (hbA.alloc hbA.size _) (Ty.alloc htA _) (by omega) (heap_alloc_new wA _) 28
    have RA := Lib.hid hrA
    have RA2 := Lib.hid hrA2
    obtain ⟨sA, xA, rfl⟩ : ∃ a c, vA = .slice a d.length c := Ty.shape htA
    have UA := Lib.hid (U3.out.next hbA2)
    have ZA := Lib.hid (U3.out.next hbA)
    have TA := Lib.hid htA2
    clear htA2 htA
    clear hrA hrA2 hkA hbA2 hbA
    obtain ⟨vB, wB, hrB, htB, hbB, hkB⟩ := two1 (W := w3) (W' := ((w3.alloc (.cells #[] 5)).alloc (.cells #[.int .u8 v] 5)).drew) (g := w3.heap.size) (((Below.refl _ w3).alloc (Nat.le_refl _) _).alloc (by simp) _).drew ((Below.heap_alloc _ _ _ (by simp)).trans (heap_alloc_new w3 _)) (Nat.le_refl _) (RD.out.below (((Below.refl _ w3).alloc (Nat.le_refl _) _).alloc (by simp) _).drew) (by omega) 28
    obtain ⟨aB2, mB2, cB2, wB2, hrB2, htB2, hbB2⟩ := two2 (W := w3) (W' := wB) (g := (w3.heap.size + 1)) hbB htB (by omega) (hkB (w3.heap.size + 1) _ (by omega) (allocBu2 w3 _ _)) 28
    have RB := Lib.hid hrB
    have RB2 := Lib.hid hrB2
    obtain ⟨sB, xB, rfl⟩ : ∃ a c, vB = .slice a d.length c := Ty.shape htB
    have UB := Lib.hid (U3.out.next hbB2)
    have ZB := Lib.hid (U3.out.next hbB)
    have TB := Lib.hid htB2
    clear htB2 htB
    clear hrB hrB2 hkB hbB2 hbB
    obtain ⟨vC, wC, hrC, htC, hbC, hkC⟩ := two1 (W := w3) (W' := ((w3.alloc (.cells #[.int .u8 v] 5)).alloc (.cells #[] 5)).drew) (g := (w3.heap.size + 1)) (((Below.refl _ w3).alloc (Nat.le_refl _) _).alloc (by simp) _).drew (allocBu2 w3 _ _) (Nat.le_succ _) (RD.out.below (((Below.refl _ w3).alloc (Nat.le_refl _) _).alloc (by simp) _).drew) (by omega) 28
    obtain ⟨aC2, mC2, cC2, wC2, hrC2, htC2, hbC2⟩ := two2 (W := w3) (W' := wC) (g := w3.heap.size) hbC htC (by omega) (hkC w3.heap.size _ (by omega) ((Below.heap_alloc _ _ _ (by simp)).trans (heap_alloc_new w3 _))) 28
    have RC := Lib.hid hrC
    have RC2 := Lib.hid hrC2
    obtain ⟨sC, xC, rfl⟩ : ∃ a c, vC = .slice a d.length c := Ty.shape htC
    have UC := Lib.hid (U3.out.next hbC2)
    have ZC := Lib.hid (U3.out.next hbC)
    have TC := Lib.hid htC2
    clear htC2 htC
    clear hrC hrC2 hkC hbC2 hbC
    go_wp2_with fail
    go_region_held3 (fun w' => w'.cell? ⟨w.heap.size, 0, none⟩ = some (.int .i64 n) ∧ w'.cell? ⟨w.heap.size, 1, none⟩ = some (.slice ad d.length cd) ∧ w'.cell? ⟨w.heap.size, 2, none⟩ = some (.slice ap p.length cp) ∧ w'.cell? ⟨w.heap.size, 3, none⟩ = some (.slice ag g.length cg)) (first | go_keep | (refine ⟨?_, ?_, ?_, ?_⟩ <;> assumption) | (refine ⟨?_, ?_, ?_, ?_⟩ <;> simp [*, World.cell?_setCell_far])) (first | (refine step_append_run (w := (w3.alloc (.cells #[] 5)).drew) rfl (.tmp 59) (.tmp 61) 28 rfl _ _ (by simp [Act.eval]) (by simp [Act.eval]) RA.out ?_; obtain ⟨yA0, yA1, yA2, yA3, _, _, _, _⟩ := fourBlk ZA.out.arg; obtain ⟨yA4, yA5, yA6, yA7, yA8, yA9, yA10, yA11⟩ := fourBlk ZA.out.res; have yAb := blk_lt ZA.out.arg; have yAc := blk_lt ZA.out.res) | (refine step_append_run (w := wA.alloc (.cells #[.int .u8 v] 5)) rfl (.tmp 62) (.tmp 64) 28 rfl _ _ (by simp [Act.eval]) (by simp [Act.eval]) RA2.out ?_; have selA : True := trivial; obtain ⟨z0, z1, z2, z3, _, _, _, _⟩ := fourBlk UA.out.arg; obtain ⟨z4, z5, z6, z7, z8, z9, z10, z11⟩ := fourBlk UA.out.res; have zb := blk_lt UA.out.arg; have zc := blk_lt UA.out.res) | (refine step_append_run (w := ((w3.alloc (.cells #[] 5)).alloc (.cells #[.int .u8 v] 5)).drew) rfl (.tmp 59) (.tmp 61) 28 rfl _ _ (by simp [Act.eval]) (by simp [Act.eval]) RB.out ?_; obtain ⟨yB0, yB1, yB2, yB3, _, _, _, _⟩ := fourBlk ZB.out.arg; obtain ⟨yB4, yB5, yB6, yB7, yB8, yB9, yB10, yB11⟩ := fourBlk ZB.out.res; have yBb := blk_lt ZB.out.arg; have yBc := blk_lt ZB.out.res) | (refine step_append_run (w := wB) rfl (.tmp 62) (.tmp 64) 28 rfl _ _ (by simp [Act.eval]) (by simp [Act.eval]) RB2.out ?_; have selB : True := trivial; obtain ⟨z0, z1, z2, z3, _, _, _, _⟩ := fourBlk UB.out.arg; obtain ⟨z4, z5, z6, z7, z8, z9, z10, z11⟩ := fourBlk UB.out.res; have zb := blk_lt UB.out.arg; have zc := blk_lt UB.out.res) | (refine step_append_run (w := ((w3.alloc (.cells #[.int .u8 v] 5)).alloc (.cells #[] 5)).drew) rfl (.tmp 59) (.tmp 61) 28 rfl _ _ (by simp [Act.eval]) (by simp [Act.eval]) RC.out ?_; obtain ⟨yC0, yC1, yC2, yC3, _, _, _, _⟩ := fourBlk ZC.out.arg; obtain ⟨yC4, yC5, yC6, yC7, yC8, yC9, yC10, yC11⟩ := fourBlk ZC.out.res; have yCb := blk_lt ZC.out.arg; have yCc := blk_lt ZC.out.res) | (refine step_append_run (w := wC) rfl (.tmp 62) (.tmp 64) 28 rfl _ _ (by simp [Act.eval]) (by simp [Act.eval]) RC2.out ?_; have selC : True := trivial; obtain ⟨z0, z1, z2, z3, _, _, _, _⟩ := fourBlk UC.out.arg; obtain ⟨z4, z5, z6, z7, z8, z9, z10, z11⟩ := fourBlk UC.out.res; have zb := blk_lt UC.out.arg; have zc := blk_lt UC.out.res))
    all_goals
      go_wp2_with fail
      first
        | (have _s := selA; refine bodyPost_ret (v := .tuple #[.agg #[.int .i64 n, .slice aA2 mA2 cA2, .slice ap p.length cp, .slice ag g.length cg], .bool true, .int .i64 (-1), .int .i64 0]) (by simp [results, Try.results76, go_sem, z4, z5, z6, z7]) rfl ?_; exact ⟨_, _, _, rfl, U24.ownB TA.out UA.out.res _ _ _ _, HP.out.below (UA.out.fin _ _ _ _), HG.out.below (UA.out.fin _ _ _ _), UA.out.fin _ _ _ _⟩)
        | (have _s := selB; refine bodyPost_ret (v := .tuple #[.agg #[.int .i64 n, .slice aB2 mB2 cB2, .slice ap p.length cp, .slice ag g.length cg], .bool true, .int .i64 (-1), .int .i64 0]) (by simp [results, Try.results76, go_sem, z4, z5, z6, z7]) rfl ?_; exact ⟨_, _, _, rfl, U24.ownB TB.out UB.out.res _ _ _ _, HP.out.below (UB.out.fin _ _ _ _), HG.out.below (UB.out.fin _ _ _ _), UB.out.fin _ _ _ _⟩)
        | (have _s := selC; refine bodyPost_ret (v := .tuple #[.agg #[.int .i64 n, .slice aC2 mC2 cC2, .slice ap p.length cp, .slice ag g.length cg], .bool true, .int .i64 (-1), .int .i64 0]) (by simp [results, Try.results76, go_sem, z4, z5, z6, z7]) rfl ?_; exact ⟨_, _, _, rfl, U24.ownB TC.out UC.out.res _ _ _ _, HP.out.below (UC.out.fin _ _ _ _), HG.out.below (UC.out.fin _ _ _ _), UC.out.fin _ _ _ _⟩)
  · rw [k2]
    clear k2
    have K1 := Lib.hid k1
    clear k1
    have KG := Lib.hid kg
    have hl0 : ¬ (0 < g.length) := by rw [kg]; simp
    have hl1 : ¬ ((0 : Int) < (g.length : Int)) := by omega
    clear kg
    have hq0 : ¬ (q < 0) := by omega
    clear kq
    have KA := Lib.hid ka
    clear ka
    have KB := Lib.hid kb
    clear kb
    go_enter Try.func76, Try.ntmps76
    go_wp2_with fail
    rw [← HW0.out]
    have hv := validBu24_c n _ _ _ d p g W0 (HD.out.below U0.out.bel) (HP.out.below U0.out.bel) (HG.out.below U0.out.bel) hpl hgl
    rw [K1.out] at hv
    refine hv.mono ?_
    clear hv
    rintro e w1 ⟨rfl, b1⟩
    have U1 := Lib.hid (U0.out.next b1)
    clear b1 U0 HW0
    obtain ⟨g0, g1, g2, g3, _, _, _, _⟩ := fourBlk U1.out.arg
    obtain ⟨r0, r1, r2, r3, r4, r5, r6, r7⟩ := fourBlk U1.out.res
    have hgs1 := blk_lt U1.out.arg
    have hrs1 := blk_lt U1.out.res
    go_wp2_with fail
    have hv := refHas_c _ p q w1 (HP.out.below U1.out.bel) hpl
    rw [KA.out] at hv
    refine hv.mono ?_
    clear hv
    rintro e w2 ⟨rfl, b2⟩
    have U2 := Lib.hid (U1.out.next b2)
    clear b2 U1 g0 g1 g2 g3 r0 r1 r2 r3 r4 r5 r6 r7 hgs1 hrs1
    obtain ⟨g0, g1, g2, g3, _, _, _, _⟩ := fourBlk U2.out.arg
    obtain ⟨r0, r1, r2, r3, r4, r5, r6, r7⟩ := fourBlk U2.out.res
    have hgs2 := blk_lt U2.out.arg
    have hrs2 := blk_lt U2.out.res
    go_wp2_with fail
    have hv := refHas_c _ g q w2 (HG.out.below U2.out.bel) hgl
    rw [KB.out] at hv
    refine hv.mono ?_
    clear hv
    rintro e w3 ⟨rfl, b3⟩
    have U3 := Lib.hid (U2.out.next b3)
    clear b3 U2 g0 g1 g2 g3 r0 r1 r2 r3 r4 r5 r6 r7 hgs2 hrs2
    obtain ⟨g0, g1, g2, g3, _, _, _, _⟩ := fourBlk U3.out.arg
    obtain ⟨r0, r1, r2, r3, r4, r5, r6, r7⟩ := fourBlk U3.out.res
    have hgs3 := blk_lt U3.out.arg
    have hrs3 := blk_lt U3.out.res
    have RL := Lib.hid (HP.out.below U3.out.bel)
    go_wp2_with fail
    go_region_held3 (fun w' => w'.cell? ⟨w.heap.size, 0, none⟩ = some (.int .i64 n) ∧ w'.cell? ⟨w.heap.size, 1, none⟩ = some (.slice ad d.length cd) ∧ w'.cell? ⟨w.heap.size, 2, none⟩ = some (.slice ap p.length cp) ∧ w'.cell? ⟨w.heap.size, 3, none⟩ = some (.slice ag g.length cg)) (first | go_keep | (refine ⟨?_, ?_, ?_, ?_⟩ <;> assumption) | (refine ⟨?_, ?_, ?_, ?_⟩ <;> simp [*, World.cell?_setCell_far])) (first | (go_at_call 42; refine (refEnter_c _ p ⟨q, r, v⟩ _ (by exact RL.out) hpl).mono ?_; rintro e w4 ⟨v4, rfl, ho4, b4⟩; replace b4 : Below w3.heap.size w3 w4 := (by first | exact b4 | exact below_un b4); replace ho4 : w4.ownsRow w3.heap.size 56 3 v4 (enterW p ⟨q, r, v⟩).length (cellsW (enterW p ⟨q, r, v⟩)) := ho4; obtain ⟨a4, c4, rfl⟩ := own_slice ho4; have U4 := Lib.hid (U3.out.next b4); have F4 := Lib.hid (fun x y z u => U24.ownFin (w := w) (FrW.of_own ho4) hrs3 x y z u); obtain ⟨s0, s1, s2, s3, _, _, _, _⟩ := fourBlk U4.out.arg; obtain ⟨t0, t1, t2, t3, t4, t5, t6, t7⟩ := fourBlk U4.out.res; have hss := blk_lt U4.out.arg; have hts := blk_lt U4.out.res; clear b4 ho4))
    generalize (enterW p ⟨q, r, v⟩).length = m4 at F4 ⊢
    all_goals
      go_wp2_with fail
      refine bodyPost_ret (v := .tuple #[.agg #[.int .i64 n, .slice ad d.length cd, .slice a4 m4 c4, .slice ag g.length cg], .bool false, .int .i64 (-1), .int .i64 0]) (by simp [results, Try.results76, go_sem, t0, t1, t2, t3]) rfl ?_
      exact ⟨_, _, _, rfl, HD.out.below (U4.out.fin _ _ _ _), F4.out _ _ _ _, HG.out.below (U4.out.fin _ _ _ _), U4.out.fin _ _ _ _⟩

set_option maxHeartbeats 4000000 in
set_option maxRecDepth 100000 in
theorem get24_c (n : Int) (q r : Int) (vd vp vg : Value) (d : List Int) (p g : List Wt) (w : World) (hd : RdI .u8 w 0 vd d) (hp : RdW w 0 vp p) (hg : RdW w 0 vg g) (hdl : d.length ≤ 40000) (hpl : p.length ≤ 90000) (hgl : g.length ≤ 90000) :
    Calls Try.prog 77 #[.agg #[.int .i64 n, vd, vp, vg], .int .i64 q, .int .i64 r] w (Ru4 w n (getBu n d p g q r).1 (getBu n d p g q r).2.1 (getBu n d p g q r).2.2.1 (.int .u8 (getBu n d p g q r).2.2.2.1) (.bool (getBu n d p g q r).2.2.2.2.1) (.int .i64 (getBu n d p g q r).2.2.2.2.2.1) (.int .i64 (getBu n d p g q r).2.2.2.2.2.2)) := by
  obtain ⟨ad, cd, rfl, _, _, _⟩ := hd.open_
  obtain ⟨ap, cp, rfl, _, _, _⟩ := hp.open_
  obtain ⟨ag, cg, rfl, _, _, _⟩ := hg.open_
  obtain ⟨W0, hW0⟩ : ∃ W0, W0 = (w.alloc (.cells #[.int .i64 n, .slice ad d.length cd, .slice ap p.length cp, .slice ag g.length cg] 142)).alloc (.cells #[.int .i64 0, .slice none 0 0, .slice none 0 0, .slice none 0 0] 142) := ⟨_, rfl⟩
  have HD := Lib.hid hd
  have HP := Lib.hid hp
  have HG := Lib.hid hg
  have U0 := Lib.hid (U24.start hW0)
  have HW0 := Lib.hid hW0
  clear hd hp hg hW0
  have hway : (vldBu n d p g = false ∧ getBu n d p g q r = (d, p, g, 0, false, -1, 2)) ∨ (vldBu n d p g = true ∧ q < 0 ∧ getBu n d p g q r = (d, p, g, 0, false, -1, 2)) ∨ (vldBu n d p g = true ∧ 0 ≤ q ∧ p.any (fun x => decide (x.proc = q)) = true ∧ getBu n d p g q r = (d, p, g, 0, false, -1, 2)) ∨ (vldBu n d p g = true ∧ 0 ≤ q ∧ p.any (fun x => decide (x.proc = q)) = false ∧ g.any (fun x => decide (x.proc = q)) = true ∧ getBu n d p g q r = (d, p, g, 0, false, -1, 2)) ∨
      (vldBu n d p g = true ∧ 0 ≤ q ∧ p.any (fun x => decide (x.proc = q)) = false ∧ g.any (fun x => decide (x.proc = q)) = false ∧ ((d = [] ∧ getBu n d p g q r = (d, p, enterW g ⟨q, r, 0⟩, 0, false, -1, 0)) ∨ (∃ y t x m, d = y :: t ∧ p = x :: m ∧ getBu n d p g q r = (t ++ [x.val], m, g, y, true, x.proc, 0)) ∨ (∃ y t, d = y :: t ∧ p = [] ∧ getBu n d p g q r = (t, p, g, y, true, -1, 0)))) := by
    cases h1 : vldBu n d p g
    · exact .inl ⟨rfl, get_bad (by rw [h1]; rfl)⟩
    · rcases may_ways p g q with ⟨a, b⟩ | ⟨a, a1, b⟩ | ⟨a, a1, a2, b⟩ | ⟨a, a1, a2, b⟩
      · exact .inr (.inl ⟨rfl, a, get_bad (by rw [b, Bool.and_false])⟩)
      · exact .inr (.inr (.inl ⟨rfl, a, a1, get_bad (by rw [b, Bool.and_false])⟩))
      · exact .inr (.inr (.inr (.inl ⟨rfl, a, a1, a2, get_bad (by rw [b, Bool.and_false])⟩)))
      · refine .inr (.inr (.inr (.inr ⟨rfl, a, a1, a2, ?_⟩)))
        have hb : (vldBu n d p g && mayB p g q) = true := by rw [h1, b]; rfl
        rcases nil_or d with hd | ⟨y, t, hd⟩
        · refine .inl ⟨hd, ?_⟩
          have := get_wait (r := r) hb hd
          rw [this, hd]
        · rcases nil_or p with hp | ⟨x, m, hp⟩
          · refine .inr (.inr ⟨y, t, hd, hp, ?_⟩)
            have := get_take (r := r) hb hd hp
            rw [this, hp]
          · exact .inr (.inl ⟨y, t, x, m, hd, hp, get_wake hb hd hp⟩)
  rcases hway with ⟨k1, k2⟩ | ⟨k1, kq, k2⟩ | ⟨k1, kq, ka, k2⟩ | ⟨k1, kq, ka, kb, k2⟩ | ⟨k1, kq, ka, kb, ⟨kd, k2⟩ | ⟨y, t, x, m, kd, kp, k2⟩ | ⟨y, t, kd, kp, k2⟩⟩
  · rw [k2]
    clear k2
    have K1 := Lib.hid k1
    clear k1
    go_enter Try.func77, Try.ntmps77
    go_wp2_with fail
    rw [← HW0.out]
    have hv := validBu24_c n _ _ _ d p g W0 (HD.out.below U0.out.bel) (HP.out.below U0.out.bel) (HG.out.below U0.out.bel) hpl hgl
    rw [K1.out] at hv
    refine hv.mono ?_
    clear hv
    rintro e w1 ⟨rfl, b1⟩
    have U1 := Lib.hid (U0.out.next b1)
    clear b1 U0 HW0
    obtain ⟨g0, g1, g2, g3, _, _, _, _⟩ := fourBlk U1.out.arg
    obtain ⟨r0, r1, r2, r3, r4, r5, r6, r7⟩ := fourBlk U1.out.res
    have hgs1 := blk_lt U1.out.arg
    have hrs1 := blk_lt U1.out.res
    go_wp2_with fail
    refine bodyPost_ret (v := .tuple #[.agg #[.int .i64 n, .slice ad d.length cd, .slice ap p.length cp, .slice ag g.length cg], .int .u8 0, .bool false, .int .i64 (-1), .int .i64 2]) (by simp [results, Try.results77, go_sem, r0, r1, r2, r3]) rfl ?_
    exact ⟨_, _, _, rfl, HD.out.below (U1.out.fin _ _ _ _), HP.out.below (U1.out.fin _ _ _ _), HG.out.below (U1.out.fin _ _ _ _), U1.out.fin _ _ _ _⟩
  · rw [k2]
    clear k2
    have K1 := Lib.hid k1
    clear k1
    go_enter Try.func77, Try.ntmps77
    go_wp2_with fail
    rw [← HW0.out]
    have hv := validBu24_c n _ _ _ d p g W0 (HD.out.below U0.out.bel) (HP.out.below U0.out.bel) (HG.out.below U0.out.bel) hpl hgl
    rw [K1.out] at hv
    refine hv.mono ?_
    clear hv
    rintro e w1 ⟨rfl, b1⟩
    have U1 := Lib.hid (U0.out.next b1)
    clear b1 U0 HW0
    obtain ⟨g0, g1, g2, g3, _, _, _, _⟩ := fourBlk U1.out.arg
    obtain ⟨r0, r1, r2, r3, r4, r5, r6, r7⟩ := fourBlk U1.out.res
    have hgs1 := blk_lt U1.out.arg
    have hrs1 := blk_lt U1.out.res
    go_wp2_with fail
    refine bodyPost_ret (v := .tuple #[.agg #[.int .i64 n, .slice ad d.length cd, .slice ap p.length cp, .slice ag g.length cg], .int .u8 0, .bool false, .int .i64 (-1), .int .i64 2]) (by simp [results, Try.results77, go_sem, r0, r1, r2, r3]) rfl ?_
    exact ⟨_, _, _, rfl, HD.out.below (U1.out.fin _ _ _ _), HP.out.below (U1.out.fin _ _ _ _), HG.out.below (U1.out.fin _ _ _ _), U1.out.fin _ _ _ _⟩
  · rw [k2]
    clear k2
    have K1 := Lib.hid k1
    clear k1
    have hq0 : ¬ (q < 0) := by omega
    clear kq
    have KA := Lib.hid ka
    clear ka
    go_enter Try.func77, Try.ntmps77
    go_wp2_with fail
    rw [← HW0.out]
    have hv := validBu24_c n _ _ _ d p g W0 (HD.out.below U0.out.bel) (HP.out.below U0.out.bel) (HG.out.below U0.out.bel) hpl hgl
    rw [K1.out] at hv
    refine hv.mono ?_
    clear hv
    rintro e w1 ⟨rfl, b1⟩
    have U1 := Lib.hid (U0.out.next b1)
    clear b1 U0 HW0
    obtain ⟨g0, g1, g2, g3, _, _, _, _⟩ := fourBlk U1.out.arg
    obtain ⟨r0, r1, r2, r3, r4, r5, r6, r7⟩ := fourBlk U1.out.res
    have hgs1 := blk_lt U1.out.arg
    have hrs1 := blk_lt U1.out.res
    go_wp2_with fail
    have hv := refHas_c _ p q w1 (HP.out.below U1.out.bel) hpl
    rw [KA.out] at hv
    refine hv.mono ?_
    clear hv
    rintro e w2 ⟨rfl, b2⟩
    have U2 := Lib.hid (U1.out.next b2)
    clear b2 U1 g0 g1 g2 g3 r0 r1 r2 r3 r4 r5 r6 r7 hgs1 hrs1
    obtain ⟨g0, g1, g2, g3, _, _, _, _⟩ := fourBlk U2.out.arg
    obtain ⟨r0, r1, r2, r3, r4, r5, r6, r7⟩ := fourBlk U2.out.res
    have hgs2 := blk_lt U2.out.arg
    have hrs2 := blk_lt U2.out.res
    go_wp2_with fail
    refine bodyPost_ret (v := .tuple #[.agg #[.int .i64 n, .slice ad d.length cd, .slice ap p.length cp, .slice ag g.length cg], .int .u8 0, .bool false, .int .i64 (-1), .int .i64 2]) (by simp [results, Try.results77, go_sem, r0, r1, r2, r3]) rfl ?_
    exact ⟨_, _, _, rfl, HD.out.below (U2.out.fin _ _ _ _), HP.out.below (U2.out.fin _ _ _ _), HG.out.below (U2.out.fin _ _ _ _), U2.out.fin _ _ _ _⟩
  · rw [k2]
    clear k2
    have K1 := Lib.hid k1
    clear k1
    have hq0 : ¬ (q < 0) := by omega
    clear kq
    have KA := Lib.hid ka
    clear ka
    have KB := Lib.hid kb
    clear kb
    go_enter Try.func77, Try.ntmps77
    go_wp2_with fail
    rw [← HW0.out]
    have hv := validBu24_c n _ _ _ d p g W0 (HD.out.below U0.out.bel) (HP.out.below U0.out.bel) (HG.out.below U0.out.bel) hpl hgl
    rw [K1.out] at hv
    refine hv.mono ?_
    clear hv
    rintro e w1 ⟨rfl, b1⟩
    have U1 := Lib.hid (U0.out.next b1)
    clear b1 U0 HW0
    obtain ⟨g0, g1, g2, g3, _, _, _, _⟩ := fourBlk U1.out.arg
    obtain ⟨r0, r1, r2, r3, r4, r5, r6, r7⟩ := fourBlk U1.out.res
    have hgs1 := blk_lt U1.out.arg
    have hrs1 := blk_lt U1.out.res
    go_wp2_with fail
    have hv := refHas_c _ p q w1 (HP.out.below U1.out.bel) hpl
    rw [KA.out] at hv
    refine hv.mono ?_
    clear hv
    rintro e w2 ⟨rfl, b2⟩
    have U2 := Lib.hid (U1.out.next b2)
    clear b2 U1 g0 g1 g2 g3 r0 r1 r2 r3 r4 r5 r6 r7 hgs1 hrs1
    obtain ⟨g0, g1, g2, g3, _, _, _, _⟩ := fourBlk U2.out.arg
    obtain ⟨r0, r1, r2, r3, r4, r5, r6, r7⟩ := fourBlk U2.out.res
    have hgs2 := blk_lt U2.out.arg
    have hrs2 := blk_lt U2.out.res
    go_wp2_with fail
    have hv := refHas_c _ g q w2 (HG.out.below U2.out.bel) hgl
    rw [KB.out] at hv
    refine hv.mono ?_
    clear hv
    rintro e w3 ⟨rfl, b3⟩
    have U3 := Lib.hid (U2.out.next b3)
    clear b3 U2 g0 g1 g2 g3 r0 r1 r2 r3 r4 r5 r6 r7 hgs2 hrs2
    obtain ⟨g0, g1, g2, g3, _, _, _, _⟩ := fourBlk U3.out.arg
    obtain ⟨r0, r1, r2, r3, r4, r5, r6, r7⟩ := fourBlk U3.out.res
    have hgs3 := blk_lt U3.out.arg
    have hrs3 := blk_lt U3.out.res
    go_wp2_with fail
    refine bodyPost_ret (v := .tuple #[.agg #[.int .i64 n, .slice ad d.length cd, .slice ap p.length cp, .slice ag g.length cg], .int .u8 0, .bool false, .int .i64 (-1), .int .i64 2]) (by simp [results, Try.results77, go_sem, r0, r1, r2, r3]) rfl ?_
    exact ⟨_, _, _, rfl, HD.out.below (U3.out.fin _ _ _ _), HP.out.below (U3.out.fin _ _ _ _), HG.out.below (U3.out.fin _ _ _ _), U3.out.fin _ _ _ _⟩
  · rw [k2]
    clear k2
    have K1 := Lib.hid k1
    clear k1
    have hd0 : ((d.length : Int) == 0) = true := by rw [kd]; rfl
    have hd1 : (d.length == 0) = true := by rw [kd]; rfl
    clear kd
    have hq0 : ¬ (q < 0) := by omega
    clear kq
    have KA := Lib.hid ka
    clear ka
    have KB := Lib.hid kb
    clear kb
    go_enter Try.func77, Try.ntmps77
    go_wp2_with fail
    rw [← HW0.out]
    have hv := validBu24_c n _ _ _ d p g W0 (HD.out.below U0.out.bel) (HP.out.below U0.out.bel) (HG.out.below U0.out.bel) hpl hgl
    rw [K1.out] at hv
    refine hv.mono ?_
    clear hv
    rintro e w1 ⟨rfl, b1⟩
    have U1 := Lib.hid (U0.out.next b1)
    clear b1 U0 HW0
    obtain ⟨g0, g1, g2, g3, _, _, _, _⟩ := fourBlk U1.out.arg
    obtain ⟨r0, r1, r2, r3, r4, r5, r6, r7⟩ := fourBlk U1.out.res
    have hgs1 := blk_lt U1.out.arg
    have hrs1 := blk_lt U1.out.res
    go_wp2_with fail
    have hv := refHas_c _ p q w1 (HP.out.below U1.out.bel) hpl
    rw [KA.out] at hv
    refine hv.mono ?_
    clear hv
    rintro e w2 ⟨rfl, b2⟩
    have U2 := Lib.hid (U1.out.next b2)
    clear b2 U1 g0 g1 g2 g3 r0 r1 r2 r3 r4 r5 r6 r7 hgs1 hrs1
    obtain ⟨g0, g1, g2, g3, _, _, _, _⟩ := fourBlk U2.out.arg
    obtain ⟨r0, r1, r2, r3, r4, r5, r6, r7⟩ := fourBlk U2.out.res
    have hgs2 := blk_lt U2.out.arg
    have hrs2 := blk_lt U2.out.res
    go_wp2_with fail
    have hv := refHas_c _ g q w2 (HG.out.below U2.out.bel) hgl
    rw [KB.out] at hv
    refine hv.mono ?_
    clear hv
    rintro e w3 ⟨rfl, b3⟩
    have U3 := Lib.hid (U2.out.next b3)
    clear b3 U2 g0 g1 g2 g3 r0 r1 r2 r3 r4 r5 r6 r7 hgs2 hrs2
    obtain ⟨g0, g1, g2, g3, _, _, _, _⟩ := fourBlk U3.out.arg
    obtain ⟨r0, r1, r2, r3, r4, r5, r6, r7⟩ := fourBlk U3.out.res
    have hgs3 := blk_lt U3.out.arg
    have hrs3 := blk_lt U3.out.res
    have RL := Lib.hid (HG.out.below U3.out.bel)
    go_wp2_with fail
    go_region_held3 (fun w' => w'.cell? ⟨w.heap.size, 0, none⟩ = some (.int .i64 n) ∧ w'.cell? ⟨w.heap.size, 1, none⟩ = some (.slice ad d.length cd) ∧ w'.cell? ⟨w.heap.size, 2, none⟩ = some (.slice ap p.length cp) ∧ w'.cell? ⟨w.heap.size, 3, none⟩ = some (.slice ag g.length cg)) (first | go_keep | (refine ⟨?_, ?_, ?_, ?_⟩ <;> assumption) | (refine ⟨?_, ?_, ?_, ?_⟩ <;> simp [*, World.cell?_setCell_far])) (first | (go_at_call 42; refine (refEnter_c _ g ⟨q, r, 0⟩ _ (by exact RL.out) hgl).mono ?_; rintro e w4 ⟨v4, rfl, ho4, b4⟩; replace b4 : Below w3.heap.size w3 w4 := (by first | exact b4 | exact below_un b4); replace ho4 : w4.ownsRow w3.heap.size 56 3 v4 (enterW g ⟨q, r, 0⟩).length (cellsW (enterW g ⟨q, r, 0⟩)) := ho4; obtain ⟨a4, c4, rfl⟩ := own_slice ho4; have U4 := Lib.hid (U3.out.next b4); have F4 := Lib.hid (fun x y z u => U24.ownFin (w := w) (FrW.of_own ho4) hrs3 x y z u); obtain ⟨s0, s1, s2, s3, _, _, _, _⟩ := fourBlk U4.out.arg; obtain ⟨t0, t1, t2, t3, t4, t5, t6, t7⟩ := fourBlk U4.out.res; have hss := blk_lt U4.out.arg; have hts := blk_lt U4.out.res; clear b4 ho4))
    generalize (enterW g ⟨q, r, 0⟩).length = m4 at F4 ⊢
    all_goals
      go_wp2_with fail
      refine bodyPost_ret (v := .tuple #[.agg #[.int .i64 n, .slice ad d.length cd, .slice ap p.length cp, .slice a4 m4 c4], .int .u8 0, .bool false, .int .i64 (-1), .int .i64 0]) (by simp [results, Try.results77, go_sem, t0, t1, t2, t3]) rfl ?_
      exact ⟨_, _, _, rfl, HD.out.below (U4.out.fin _ _ _ _), HP.out.below (U4.out.fin _ _ _ _), F4.out _ _ _ _, U4.out.fin _ _ _ _⟩
  · rw [k2]
    clear k2 U0 HW0
    by_cases hcd1 : cd = 1 <;> by_cases hc1 : cp = 1
    · exact get24_wake1 n q r _ _ _ d p g w HD.out HP.out HG.out hdl k1 kq ka kb kd kp (fun a k c e => by simp only [Value.slice.injEq] at e; rw [← e.2.2]; exact hcd1) (fun a k c e => by simp only [Value.slice.injEq] at e; rw [← e.2.2]; exact hc1) hpl hgl
    · exact get24_wake2 n q r _ _ _ d p g w HD.out HP.out HG.out hdl k1 kq ka kb kd kp (fun a k c e => by simp only [Value.slice.injEq] at e; rw [← e.2.2]; exact hcd1) (fun a k c e => by simp only [Value.slice.injEq] at e; rw [← e.2.2]; exact hc1) hpl hgl
    · exact get24_wake3 n q r _ _ _ d p g w HD.out HP.out HG.out hdl k1 kq ka kb kd kp (fun a k c e => by simp only [Value.slice.injEq] at e; rw [← e.2.2]; exact hcd1) (fun a k c e => by simp only [Value.slice.injEq] at e; rw [← e.2.2]; exact hc1) hpl hgl
    · exact get24_wake4 n q r _ _ _ d p g w HD.out HP.out HG.out hdl k1 kq ka kb kd kp (fun a k c e => by simp only [Value.slice.injEq] at e; rw [← e.2.2]; exact hcd1) (fun a k c e => by simp only [Value.slice.injEq] at e; rw [← e.2.2]; exact hc1) hpl hgl
  · rw [k2]
    clear k2
    have K1 := Lib.hid k1
    clear k1
    have KD := Lib.hid kd
    have hd0 : ((d.length : Int) == 0) = false := by rw [kd]; simp; omega
    have hd1 : (d.length == 0) = false := by rw [kd]; rfl
    have hd2 : 1 ≤ d.length := by rw [kd]; simp
    have hd3 : (1 : Int) ≤ (d.length : Int) := by omega
    have hd4 : (0 : Int) < (d.length : Int) := by omega
    have hd5 : 0 < d.length := by omega
    clear kd
    have KP := Lib.hid kp
    have hp0 : ¬ (0 < p.length) := by rw [kp]; simp
    have hp1 : ¬ ((0 : Int) < (p.length : Int)) := by omega
    clear kp
    have hq0 : ¬ (q < 0) := by omega
    clear kq
    have KA := Lib.hid ka
    clear ka
    have KB := Lib.hid kb
    clear kb
    go_enter Try.func77, Try.ntmps77
    go_wp2_with fail
    rw [← HW0.out]
    have hv := validBu24_c n _ _ _ d p g W0 (HD.out.below U0.out.bel) (HP.out.below U0.out.bel) (HG.out.below U0.out.bel) hpl hgl
    rw [K1.out] at hv
    refine hv.mono ?_
    clear hv
    rintro e w1 ⟨rfl, b1⟩
    have U1 := Lib.hid (U0.out.next b1)
    clear b1 U0 HW0
    obtain ⟨g0, g1, g2, g3, _, _, _, _⟩ := fourBlk U1.out.arg
    obtain ⟨r0, r1, r2, r3, r4, r5, r6, r7⟩ := fourBlk U1.out.res
    have hgs1 := blk_lt U1.out.arg
    have hrs1 := blk_lt U1.out.res
    go_wp2_with fail
    have hv := refHas_c _ p q w1 (HP.out.below U1.out.bel) hpl
    rw [KA.out] at hv
    refine hv.mono ?_
    clear hv
    rintro e w2 ⟨rfl, b2⟩
    have U2 := Lib.hid (U1.out.next b2)
    clear b2 U1 g0 g1 g2 g3 r0 r1 r2 r3 r4 r5 r6 r7 hgs1 hrs1
    obtain ⟨g0, g1, g2, g3, _, _, _, _⟩ := fourBlk U2.out.arg
    obtain ⟨r0, r1, r2, r3, r4, r5, r6, r7⟩ := fourBlk U2.out.res
    have hgs2 := blk_lt U2.out.arg
    have hrs2 := blk_lt U2.out.res
    go_wp2_with fail
    have hv := refHas_c _ g q w2 (HG.out.below U2.out.bel) hgl
    rw [KB.out] at hv
    refine hv.mono ?_
    clear hv
    rintro e w3 ⟨rfl, b3⟩
    have U3 := Lib.hid (U2.out.next b3)
    clear b3 U2 g0 g1 g2 g3 r0 r1 r2 r3 r4 r5 r6 r7 hgs2 hrs2
    obtain ⟨g0, g1, g2, g3, _, _, _, _⟩ := fourBlk U3.out.arg
    obtain ⟨r0, r1, r2, r3, r4, r5, r6, r7⟩ := fourBlk U3.out.res
    have hgs3 := blk_lt U3.out.arg
    have hrs3 := blk_lt U3.out.res
    have hcd0 : d.length ≤ cd := by obtain ⟨_, _, hv, h1, _⟩ := HD.out; simp only [Value.slice.injEq] at hv; omega
    have hcdz : (d.length : Int) ≤ (cd : Int) := by omega
    obtain ⟨bd, od, rfl, hcd, hbd, ed⟩ := HD.out.head KD.out
    have ed1 : w3.cell? ⟨bd, od, none⟩ = some (.int .u8 y) := (U3.out.bel.cell (p := ⟨bd, od, none⟩) hbd).trans ed
    have hbd2 : ¬ (bd = w.heap.size + 1) := by omega
    have hbd4 : ¬ (w.heap.size + 1 = bd) := by omega
    have hbd3 : bd < w3.heap.size := Nat.lt_of_lt_of_le hbd U3.out.bel.size
    have ED := Lib.hid ed
    clear ed
    by_cases hcd1 : cd = 1
    · subst hcd1
      have TD : Hid (RdI .u8 w 0 (.slice (some ⟨bd, od, none⟩) 0 0) t) := by have := HD.out.tail KD.out; rw [show d.length - 1 = 0 by omega] at this; first | rwa [if_pos rfl] at this | rwa [if_pos trivial] at this | rwa [if_neg hcd1] at this
      go_wp2_with fail
      go_region_held3 (fun w' => w'.cell? ⟨w.heap.size, 0, none⟩ = some (.int .i64 n) ∧ w'.cell? ⟨w.heap.size, 1, none⟩ = some (.slice (some ⟨bd, od, none⟩) d.length 1) ∧ w'.cell? ⟨w.heap.size, 2, none⟩ = some (.slice ap p.length cp) ∧ w'.cell? ⟨w.heap.size, 3, none⟩ = some (.slice ag g.length cg) ∧ w'.cell? ⟨bd, od, none⟩ = some (.int .u8 y)) (first | go_keep | (refine ⟨?_, ?_, ?_, ?_, ?_⟩ <;> assumption) | (refine ⟨?_, ?_, ?_, ?_, ?_⟩ <;> simp [*, World.cell?_setCell_far])) (fail)
      all_goals
        go_wp2_with fail
        refine bodyPost_ret (v := .tuple #[.agg #[.int .i64 n, .slice (some ⟨bd, od, none⟩) 0 0, .slice ap p.length cp, .slice ag g.length cg], .int .u8 y, .bool true, .int .i64 (-1), .int .i64 0]) (by simp [results, Try.results77, go_sem, r0, r1, r2, r3]) rfl ?_
        first | exact ⟨_, _, _, rfl, TD.out.below (U3.out.fin _ _ _ _), HP.out.below (U3.out.fin _ _ _ _), HG.out.below (U3.out.fin _ _ _ _), U3.out.fin _ _ _ _⟩ | exact ⟨_, _, _, rfl, TD.out.below (U3.out.finD _ _ _ _), HP.out.below (U3.out.finD _ _ _ _), HG.out.below (U3.out.finD _ _ _ _), U3.out.finD _ _ _ _⟩
    · skip
      have TD : Hid (RdI .u8 w 0 (.slice (some ⟨bd, od + 1, none⟩) (d.length - 1) (cd - 1)) t) := by have := HD.out.tail KD.out; first | rwa [if_neg rfl] at this | rwa [if_pos trivial] at this | rwa [if_neg hcd1] at this
      go_wp2_with fail
      go_region_held3 (fun w' => w'.cell? ⟨w.heap.size, 0, none⟩ = some (.int .i64 n) ∧ w'.cell? ⟨w.heap.size, 1, none⟩ = some (.slice (some ⟨bd, od, none⟩) d.length cd) ∧ w'.cell? ⟨w.heap.size, 2, none⟩ = some (.slice ap p.length cp) ∧ w'.cell? ⟨w.heap.size, 3, none⟩ = some (.slice ag g.length cg) ∧ w'.cell? ⟨bd, od, none⟩ = some (.int .u8 y)) (first | go_keep | (refine ⟨?_, ?_, ?_, ?_, ?_⟩ <;> assumption) | (refine ⟨?_, ?_, ?_, ?_, ?_⟩ <;> simp [*, World.cell?_setCell_far])) (fail)
      all_goals
        go_wp2_with fail
        refine bodyPost_ret (v := .tuple #[.agg #[.int .i64 n, .slice (some ⟨bd, od + 1, none⟩) (d.length - 1) (cd - 1), .slice ap p.length cp, .slice ag g.length cg], .int .u8 y, .bool true, .int .i64 (-1), .int .i64 0]) (by simp [results, Try.results77, go_sem, r0, r1, r2, r3]) rfl ?_
        first | exact ⟨_, _, _, rfl, TD.out.below (U3.out.fin _ _ _ _), HP.out.below (U3.out.fin _ _ _ _), HG.out.below (U3.out.fin _ _ _ _), U3.out.fin _ _ _ _⟩ | exact ⟨_, _, _, rfl, TD.out.below (U3.out.finD _ _ _ _), HP.out.below (U3.out.finD _ _ _ _), HG.out.below (U3.out.finD _ _ _ _), U3.out.finD _ _ _ _⟩
end Go.Proofs.Ytglbfmcbojjglaa

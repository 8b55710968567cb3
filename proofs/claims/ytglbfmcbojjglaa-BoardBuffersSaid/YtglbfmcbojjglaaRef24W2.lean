/-
  A lemma for the contract of nacelleref24.Get: a process that waits is woken. Conditions: what is read can be read, at most forty thousand elements.
-/
import Derived.Test.YtglbfmcbojjglaaRef24M
namespace Go.Proofs.Ytglbfmcbojjglaa
open Go.RowKit

set_option maxHeartbeats 4000000 in
set_option maxRecDepth 100000 in
theorem get24_wake2 (n : Int) (q r : Int) (vd vp vg : Value) (d : List Int) (p g : List Wt) (w : World) (hd : RdI .u8 w 0 vd d) (hp : RdW w 0 vp p) (hg : RdW w 0 vg g) (hdl : d.length ≤ 40000) (k1 : vldBu n d p g = true) (kq : 0 ≤ q) (ka : p.any (fun x => decide (x.proc = q)) = false) (kb : g.any (fun x => decide (x.proc = q)) = false) {y : Int} {t : List Int} {x : Wt} {m : List Wt} (kd : d = y :: t) (kp : p = x :: m) (hcd1 : ∀ a k c, vd = .slice a k c → c = 1) (hc1 : ∀ a k c, vp = .slice a k c → ¬ c = 1) (hpl : p.length ≤ 90000) (hgl : g.length ≤ 90000) :
    Calls Try.prog 77 #[.agg #[.int .i64 n, vd, vp, vg], .int .i64 q, .int .i64 r] w (Ru4 w n (t ++ [x.val]) m g (.int .u8 y) (.bool true) (.int .i64 x.proc) (.int .i64 0)) := by
  obtain ⟨ad, cd, rfl, _, _, _⟩ := hd.open_
  obtain ⟨ap, cp, rfl, _, _, _⟩ := hp.open_
  obtain ⟨ag, cg, rfl, _, _, _⟩ := hg.open_
  obtain ⟨W0, hW0⟩ : ∃ W0, W0 = (w.alloc (.cells #[.int .i64 n, .slice ad d.length cd, .slice ap p.length cp, .slice ag g.length cg] 142)).alloc (.cells #[.int .i64 0, .slice none 0 0, .slice none 0 0, .slice none 0 0] 142) := ⟨_, rfl⟩
  have HD := Lib.hid hd
  have HP := Lib.hid hp
  have HG := Lib.hid hg
  have U0 := Lib.hid (U24.start hW0)
  have HW0 := Lib.hid hW0
  clear hd hp hg hW0
  replace hcd1 := hcd1 _ _ _ rfl
  replace hc1 := hc1 _ _ _ rfl
  have HCD1 := Lib.hid hcd1
  have HC1 := Lib.hid hc1
  clear hcd1 hc1
  obtain ⟨xv, hxv⟩ : ∃ xv, xv = x.val := ⟨_, rfl⟩
  rw [← hxv]
  have HXV := Lib.hid hxv
  clear hxv
  have K1 := Lib.hid k1
  clear k1
  have KD := Lib.hid kd
  have hd0 : ((d.length : Int) == 0) = false := by rw [kd]; simp; omega
  have hd1 : (d.length == 0) = false := by rw [kd]; rfl
  have hd2 : 1 ≤ d.length := by rw [kd]; simp
  have hd3 : (1 : Int) ≤ (d.length : Int) := by omega
  have hd4 : (0 : Int) < (d.length : Int) := by omega
  have hd5 : 0 < d.length := by omega
  clear kd
  have KP := Lib.hid kp
  have hp0 : 0 < p.length := by rw [kp]; simp
  have hp1 : (0 : Int) < (p.length : Int) := by omega
  clear kp
  have hq0 : ¬ (q < 0) := by omega
  clear kq
  have KA := Lib.hid ka
  clear ka
  have KB := Lib.hid kb
  clear kb
  go_enter Try.func77, Try.ntmps77
  go_wp2_with fail
  rw [← HW0.out]
  have hv := validBu24_c n _ _ _ d p g W0 (HD.out.below U0.out.bel) (HP.out.below U0.out.bel) (HG.out.below U0.out.bel) hpl hgl
  rw [K1.out] at hv
  refine hv.mono ?_
  clear hv
  rintro e w1 ⟨rfl, b1⟩
  have U1 := Lib.hid (U0.out.next b1)
  clear b1 U0 HW0
  obtain ⟨g0, g1, g2, g3, _, _, _, _⟩ := fourBlk U1.out.arg
  obtain ⟨r0, r1, r2, r3, r4, r5, r6, r7⟩ := fourBlk U1.out.res
  have hgs1 := blk_lt U1.out.arg
  have hrs1 := blk_lt U1.out.res
  go_wp2_with fail
  have hv := refHas_c _ p q w1 (HP.out.below U1.out.bel) hpl
  rw [KA.out] at hv
  refine hv.mono ?_
  clear hv
  rintro e w2 ⟨rfl, b2⟩
  have U2 := Lib.hid (U1.out.next b2)
  clear b2 U1 g0 g1 g2 g3 r0 r1 r2 r3 r4 r5 r6 r7 hgs1 hrs1
  obtain ⟨g0, g1, g2, g3, _, _, _, _⟩ := fourBlk U2.out.arg
  obtain ⟨r0, r1, r2, r3, r4, r5, r6, r7⟩ := fourBlk U2.out.res
  have hgs2 := blk_lt U2.out.arg
  have hrs2 := blk_lt U2.out.res
  go_wp2_with fail
  have hv := refHas_c _ g q w2 (HG.out.below U2.out.bel) hgl
  rw [KB.out] at hv
  refine hv.mono ?_
  clear hv
  rintro e w3 ⟨rfl, b3⟩
  have U3 := Lib.hid (U2.out.next b3)
  clear b3 U2 g0 g1 g2 g3 r0 r1 r2 r3 r4 r5 r6 r7 hgs2 hrs2
  obtain ⟨g0, g1, g2, g3, _, _, _, _⟩ := fourBlk U3.out.arg
  obtain ⟨r0, r1, r2, r3, r4, r5, r6, r7⟩ := fourBlk U3.out.res
  have hgs3 := blk_lt U3.out.arg
  have hrs3 := blk_lt U3.out.res
  have hcd0 : d.length ≤ cd := by obtain ⟨_, _, hv, h1, _⟩ := HD.out; simp only [Value.slice.injEq] at hv; omega
  have hcdz : (d.length : Int) ≤ (cd : Int) := by omega
  obtain ⟨bd, od, rfl, hcd, hbd, ed⟩ := HD.out.head KD.out
  have ed1 : w3.cell? ⟨bd, od, none⟩ = some (.int .u8 y) := (U3.out.bel.cell (p := ⟨bd, od, none⟩) hbd).trans ed
  have hbd2 : ¬ (bd = w.heap.size + 1) := by omega
  have hbd4 : ¬ (w.heap.size + 1 = bd) := by omega
  have hbd3 : bd < w3.heap.size := Nat.lt_of_lt_of_le hbd U3.out.bel.size
  have ED := Lib.hid ed
  clear ed
  have hcp0 : p.length ≤ cp := by obtain ⟨_, _, hv, h1, _⟩ := HP.out; simp only [Value.slice.injEq] at hv; omega
  have hcp1 : (p.length : Int) ≤ (cp : Int) := by omega
  have hl3 : (1 : Int) ≤ (p.length : Int) := by omega
  obtain ⟨b, off, rfl, hl2, hbw, e0, e5⟩ := HP.out.head3 KP.out
  have e1 : w3.cell? ⟨b, off, none⟩ = some (.int .i64 x.proc) := (U3.out.bel.cell (p := ⟨b, off, none⟩) hbw).trans e0
  have e6 : w3.cell? ⟨b, off + 2, none⟩ = some (.int .u8 x.val) := (U3.out.bel.cell (p := ⟨b, off + 2, none⟩) hbw).trans e5
  have hb2 : ¬ (b = w.heap.size + 1) := by omega
  have hb4 : ¬ (w.heap.size + 1 = b) := by omega
  have hb3 : b < w3.heap.size := Nat.lt_of_lt_of_le hbw U3.out.bel.size
  rw [← HXV.out] at e5 e6
  have E0 := Lib.hid e0
  have E5 := Lib.hid e5
  clear HXV e0 e5
  have htl : t.length ≤ 40000 := by have := congrArg List.length KD.out; simp at this; omega
  have hcd1 := HCD1.out
  have hc1 := HC1.out
  clear HCD1 HC1
  subst hcd1
  skip
  have TD : Hid (RdI .u8 w 0 (.slice (some ⟨bd, od, none⟩) 0 0) t) := by have := HD.out.tail KD.out; rw [show d.length - 1 = 0 by omega] at this; first | rwa [if_pos rfl] at this | rwa [if_pos trivial] at this | rwa [if_neg hcd1] at this
  have T2 : Hid (RdW w 0 (.slice (some ⟨b, off + 3, none⟩) (p.length - 1) (cp - 1)) m) := by have := HP.out.tail KP.out; first | rwa [if_neg rfl] at this | rwa [if_pos trivial] at this | rwa [if_neg hc1] at this
  have RD := Lib.hid (TD.out.below U3.out.bel)
  have hdt : d.length - 1 = t.length := by have := congrArg List.length KD.out; simp at this; omega
  have HDT := Lib.hid hdt
  clear hdt
  obtain ⟨vA, wA, hrA, htA, hbA, hkA⟩ := two1 (W := w3) (W' := (w3.alloc (.cells #[] 5)).drew) (g := w3.heap.size) ((Below.refl _ w3).alloc (Nat.le_refl _) _).drew (heap_alloc_new w3 _) (Nat.le_refl _) (RD.out.below ((Below.refl _ w3).alloc (Nat.le_refl _) _).drew) (by omega) 28
  obtain ⟨aA2, mA2, cA2, wA2, hrA2, htA2, hbA2⟩ := two2 (W := w3) (W' := wA.alloc (.cells #[.int .u8 xv] 5)) (g := wA.heap.size) (hbA.alloc hbA.size _) (Ty.alloc htA _) (by omega) (heap_alloc_new wA _) 28
  have RA := Lib.hid hrA
  have RA2 := Lib.hid hrA2
  obtain ⟨sA, xA, rfl⟩ : ∃ a c, vA = .slice a t.length c := Ty.shape htA
  have UA := Lib.hid (U3.out.next hbA2)
  have ZA := Lib.hid (U3.out.next hbA)
  have TA := Lib.hid htA2
  clear htA2 htA
  clear hrA hrA2 hkA hbA2 hbA
  obtain ⟨vB, wB, hrB, htB, hbB, hkB⟩ := two1 (W := w3) (W' := ((w3.alloc (.cells #[] 5)).alloc (.cells #[.int .u8 xv] 5)).drew) (g := w3.heap.size) (((Below.refl _ w3).alloc (Nat.le_refl _) _).alloc (by simp) _).drew ((Below.heap_alloc _ _ _ (by simp)).trans (heap_alloc_new w3 _)) (Nat.le_refl _) (RD.out.below (((Below.refl _ w3).alloc (Nat.le_refl _) _).alloc (by simp) _).drew) (by omega) 28
  obtain ⟨aB2, mB2, cB2, wB2, hrB2, htB2, hbB2⟩ := two2 (W := w3) (W' := wB) (g := (w3.heap.size + 1)) hbB htB (by omega) (hkB (w3.heap.size + 1) _ (by omega) (allocBu2 w3 _ _)) 28
  have RB := Lib.hid hrB
  have RB2 := Lib.hid hrB2
  obtain ⟨sB, xB, rfl⟩ : ∃ a c, vB = .slice a t.length c := Ty.shape htB
  have UB := Lib.hid (U3.out.next hbB2)
  have ZB := Lib.hid (U3.out.next hbB)
  have TB := Lib.hid htB2
  clear htB2 htB
  clear hrB hrB2 hkB hbB2 hbB
  obtain ⟨vC, wC, hrC, htC, hbC, hkC⟩ := two1 (W := w3) (W' := ((w3.alloc (.cells #[.int .u8 xv] 5)).alloc (.cells #[] 5)).drew) (g := (w3.heap.size + 1)) (((Below.refl _ w3).alloc (Nat.le_refl _) _).alloc (by simp) _).drew (allocBu2 w3 _ _) (Nat.le_succ _) (RD.out.below (((Below.refl _ w3).alloc (Nat.le_refl _) _).alloc (by simp) _).drew) (by omega) 28
  obtain ⟨aC2, mC2, cC2, wC2, hrC2, htC2, hbC2⟩ := two2 (W := w3) (W' := wC) (g := w3.heap.size) hbC htC (by omega) (hkC w3.heap.size _ (by omega) ((Below.heap_alloc _ _ _ (by simp)).trans (heap_alloc_new w3 _))) 28
  have RC := Lib.hid hrC
  have RC2 := Lib.hid hrC2
  obtain ⟨sC, xC, rfl⟩ : ∃ a c, vC = .slice a t.length c := Ty.shape htC
  have UC := Lib.hid (U3.out.next hbC2)
  have ZC := Lib.hid (U3.out.next hbC)
  have TC := Lib.hid htC2
  clear htC2 htC
  clear hrC hrC2 hkC hbC2 hbC
  go_wp2_with fail
  go_region_held3 (fun w' => w'.cell? ⟨w.heap.size, 0, none⟩ = some (.int .i64 n) ∧ w'.cell? ⟨w.heap.size, 1, none⟩ = some (.slice (some ⟨bd, od, none⟩) d.length 1) ∧ w'.cell? ⟨w.heap.size, 2, none⟩ = some (.slice (some ⟨b, off, none⟩) p.length cp) ∧ w'.cell? ⟨w.heap.size, 3, none⟩ = some (.slice ag g.length cg) ∧ w'.cell? ⟨bd, od, none⟩ = some (.int .u8 y) ∧ w'.cell? ⟨b, off, none⟩ = some (.int .i64 x.proc) ∧ w'.cell? ⟨b, off + 2, none⟩ = some (.int .u8 xv)) (first | go_keep | (refine ⟨?_, ?_, ?_, ?_, ?_, ?_, ?_⟩ <;> assumption) | (refine ⟨?_, ?_, ?_, ?_, ?_, ?_, ?_⟩ <;> simp [*, World.cell?_setCell_far])) (first | (refine step_append_run (w := (w3.alloc (.cells #[] 5)).drew) rfl (.tmp 54) (.tmp 57) 28 rfl _ _ (by simp [Act.eval]) (by simp [Act.eval]) RA.out ?_; obtain ⟨yA0, yA1, yA2, yA3, _, _, _, _⟩ := fourBlk ZA.out.arg; obtain ⟨yA4, yA5, yA6, yA7, yA8, yA9, yA10, yA11⟩ := fourBlk ZA.out.res; have yAb := blk_lt ZA.out.arg; have yAc := blk_lt ZA.out.res; have qZA1 := (ZA.out.bel.cell (p := ⟨bd, od, none⟩) hbd).trans ED.out; have qZA2 := (ZA.out.bel.cell (p := ⟨b, off, none⟩) hbw).trans E0.out; have qZA3 := (ZA.out.bel.cell (p := ⟨b, off + 2, none⟩) hbw).trans E5.out; have qZA4 := Nat.lt_of_lt_of_le hbd ZA.out.bel.size; have qZA5 := Nat.lt_of_lt_of_le hbw ZA.out.bel.size) | (refine step_append_run (w := wA.alloc (.cells #[.int .u8 xv] 5)) rfl (.tmp 58) (.tmp 64) 28 rfl _ _ (by simp [Act.eval]) (by simp [Act.eval]) RA2.out ?_; have selA : True := trivial; obtain ⟨z0, z1, z2, z3, _, _, _, _⟩ := fourBlk UA.out.arg; obtain ⟨z4, z5, z6, z7, z8, z9, z10, z11⟩ := fourBlk UA.out.res; have zb := blk_lt UA.out.arg; have zc := blk_lt UA.out.res; have qUA1 := (UA.out.bel.cell (p := ⟨bd, od, none⟩) hbd).trans ED.out; have qUA2 := (UA.out.bel.cell (p := ⟨b, off, none⟩) hbw).trans E0.out; have qUA3 := (UA.out.bel.cell (p := ⟨b, off + 2, none⟩) hbw).trans E5.out; have qUA4 := Nat.lt_of_lt_of_le hbd UA.out.bel.size; have qUA5 := Nat.lt_of_lt_of_le hbw UA.out.bel.size) | (refine step_append_run (w := ((w3.alloc (.cells #[] 5)).alloc (.cells #[.int .u8 xv] 5)).drew) rfl (.tmp 54) (.tmp 57) 28 rfl _ _ (by simp [Act.eval]) (by simp [Act.eval]) RB.out ?_; obtain ⟨yB0, yB1, yB2, yB3, _, _, _, _⟩ := fourBlk ZB.out.arg; obtain ⟨yB4, yB5, yB6, yB7, yB8, yB9, yB10, yB11⟩ := fourBlk ZB.out.res; have yBb := blk_lt ZB.out.arg; have yBc := blk_lt ZB.out.res; have qZB1 := (ZB.out.bel.cell (p := ⟨bd, od, none⟩) hbd).trans ED.out; have qZB2 := (ZB.out.bel.cell (p := ⟨b, off, none⟩) hbw).trans E0.out; have qZB3 := (ZB.out.bel.cell (p := ⟨b, off + 2, none⟩) hbw).trans E5.out; have qZB4 := Nat.lt_of_lt_of_le hbd ZB.out.bel.size; have qZB5 := Nat.lt_of_lt_of_le hbw ZB.out.bel.size) | (refine step_append_run (w := wB) rfl (.tmp 58) (.tmp 64) 28 rfl _ _ (by simp [Act.eval]) (by simp [Act.eval]) RB2.out ?_; have selB : True := trivial; obtain ⟨z0, z1, z2, z3, _, _, _, _⟩ := fourBlk UB.out.arg; obtain ⟨z4, z5, z6, z7, z8, z9, z10, z11⟩ := fourBlk UB.out.res; have zb := blk_lt UB.out.arg; have zc := blk_lt UB.out.res; have qUB1 := (UB.out.bel.cell (p := ⟨bd, od, none⟩) hbd).trans ED.out; have qUB2 := (UB.out.bel.cell (p := ⟨b, off, none⟩) hbw).trans E0.out; have qUB3 := (UB.out.bel.cell (p := ⟨b, off + 2, none⟩) hbw).trans E5.out; have qUB4 := Nat.lt_of_lt_of_le hbd UB.out.bel.size; have qUB5 := Nat.lt_of_lt_of_le hbw UB.out.bel.size) | (refine step_append_run (w := ((w3.alloc (.cells #[.int .u8 xv] 5)).alloc (.cells #[] 5)).drew) rfl (.tmp 54) (.tmp 57) 28 rfl _ _ (by simp [Act.eval]) (by simp [Act.eval]) RC.out ?_; obtain ⟨yC0, yC1, yC2, yC3, _, _, _, _⟩ := fourBlk ZC.out.arg; obtain ⟨yC4, yC5, yC6, yC7, yC8, yC9, yC10, yC11⟩ := fourBlk ZC.out.res; have yCb := blk_lt ZC.out.arg; have yCc := blk_lt ZC.out.res; have qZC1 := (ZC.out.bel.cell (p := ⟨bd, od, none⟩) hbd).trans ED.out; have qZC2 := (ZC.out.bel.cell (p := ⟨b, off, none⟩) hbw).trans E0.out; have qZC3 := (ZC.out.bel.cell (p := ⟨b, off + 2, none⟩) hbw).trans E5.out; have qZC4 := Nat.lt_of_lt_of_le hbd ZC.out.bel.size; have qZC5 := Nat.lt_of_lt_of_le hbw ZC.out.bel.size) | (refine step_append_run (w := wC) rfl (.tmp 58) (.tmp 64) 28 rfl _ _ (by simp [Act.eval]) (by simp [Act.eval]) RC2.out ?_; have selC : True := trivial; obtain ⟨z0, z1, z2, z3, _, _, _, _⟩ := fourBlk UC.out.arg; obtain ⟨z4, z5, z6, z7, z8, z9, z10, z11⟩ := fourBlk UC.out.res; have zb := blk_lt UC.out.arg; have zc := blk_lt UC.out.res; have qUC1 := (UC.out.bel.cell (p := ⟨bd, od, none⟩) hbd).trans ED.out; have qUC2 := (UC.out.bel.cell (p := ⟨b, off, none⟩) hbw).trans E0.out; have qUC3 := (UC.out.bel.cell (p := ⟨b, off + 2, none⟩) hbw).trans E5.out; have qUC4 := Nat.lt_of_lt_of_le hbd UC.out.bel.size; have qUC5 := Nat.lt_of_lt_of_le hbw UC.out.bel.size))
  all_goals
    go_wp2_with fail
    first
      | (have _s := selA; refine bodyPost_ret (v := .tuple #[.agg #[.int .i64 n, .slice aA2 mA2 cA2, .slice (some ⟨b, off + 3, none⟩) (p.length - 1) (cp - 1), .slice ag g.length cg], .int .u8 y, .bool true, .int .i64 x.proc, .int .i64 0]) (by simp [results, Try.results77, go_sem, z4, z5, z6, z7]) rfl ?_; exact ⟨_, _, _, rfl, U24.ownB TA.out UA.out.res _ _ _ _, T2.out.below (UA.out.fin _ _ _ _), HG.out.below (UA.out.fin _ _ _ _), UA.out.fin _ _ _ _⟩)
      | (have _s := selB; refine bodyPost_ret (v := .tuple #[.agg #[.int .i64 n, .slice aB2 mB2 cB2, .slice (some ⟨b, off + 3, none⟩) (p.length - 1) (cp - 1), .slice ag g.length cg], .int .u8 y, .bool true, .int .i64 x.proc, .int .i64 0]) (by simp [results, Try.results77, go_sem, z4, z5, z6, z7]) rfl ?_; exact ⟨_, _, _, rfl, U24.ownB TB.out UB.out.res _ _ _ _, T2.out.below (UB.out.fin _ _ _ _), HG.out.below (UB.out.fin _ _ _ _), UB.out.fin _ _ _ _⟩)
      | (have _s := selC; refine bodyPost_ret (v := .tuple #[.agg #[.int .i64 n, .slice aC2 mC2 cC2, .slice (some ⟨b, off + 3, none⟩) (p.length - 1) (cp - 1), .slice ag g.length cg], .int .u8 y, .bool true, .int .i64 x.proc, .int .i64 0]) (by simp [results, Try.results77, go_sem, z4, z5, z6, z7]) rfl ?_; exact ⟨_, _, _, rfl, U24.ownB TC.out UC.out.res _ _ _ _, T2.out.below (UC.out.fin _ _ _ _), HG.out.below (UC.out.fin _ _ _ _), UC.out.fin _ _ _ _⟩)
end Go.Proofs.Ytglbfmcbojjglaa

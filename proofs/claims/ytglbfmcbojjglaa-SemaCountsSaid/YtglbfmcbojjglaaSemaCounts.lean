/-
  SemaCounts: for every semaphore and process the call returns true, and nothing that was there before has turned. No conditions but that the list can be read and holds numbers of its types.
-/
import Derived.Test.YtglbfmcbojjglaaTell
namespace Go.Proofs.Ytglbfmcbojjglaa
open Go.RowKit

set_option maxHeartbeats 8000000 in
set_option maxRecDepth 100000 in
theorem semaCounts_c (n : Int) (v : Value) (l : List Wt) (p r : Int) (w : World) (h : RdW w 0 v l) (hwf : WfW l) (hl : l.length ≤ 9223372036854775807) :
    Calls Try.prog 12 #[.agg #[.int .i64 n, v], .int .i64 p, .int .i64 r] w fun e w' => e = .returned (.bool true) ∧ Below w.heap.size w w' := by
  obtain ⟨ao, ca, rfl, hca, hna, hpa⟩ := h.open_
  obtain ⟨i0, hi, hz0, hz1, hz2⟩ := info_parts info_W
  have HPA := Lib.hid hpa
  have HWF := Lib.hid hwf
  obtain ⟨W0, hW0⟩ : ∃ W0, W0 = w.alloc (.cells #[.int .i64 n, .slice ao l.length ca] 71) := ⟨_, rfl⟩
  have BX : Hid (W0.heap[w.heap.size]? = some (.cells #[.int .i64 n, .slice ao l.length ca] 71 (0, 0))) := by subst hW0; exact heap_alloc_new w _
  have HB0 : Hid (Below w.heap.size w W0) := by subst hW0; exact (Below.refl _ w).alloc (Nat.le_refl _) _
  have HR := Lib.hid (h.below HB0.out)
  have hsz : w.heap.size < W0.heap.size := by subst hW0; simp
  have hpre : ∀ W : World, Below W0.heap.size W0 W → Below w.heap.size w W := fun W hb => HB0.out.trans (hb.mono HB0.out.size)
  have HPRE := Lib.hid hpre
  have HW0 := Lib.hid hW0
  clear hpa hwf h hW0 hpre hca hna
  go_enter Try.func12, Try.ntmps12
  by_cases h40 : (40 : Int) < (l.length : Int)
  · go_wp2_with fail
    rw [← HW0.out]
    refine (awake25_c _).mono ?_
    rintro e w9 ⟨rfl, b9⟩
    have HB9 := Lib.hid (HPRE.out _ b9)
    clear b9
    go_wp2_with fail
    go_ret
    exact ⟨rfl, HB9.out⟩
  · have hl40 : l.length ≤ 40 := by omega
    go_upto_region 3 with (fail)
    rw [← HW0.out]
    obtain ⟨x0, x1, x2, x3⟩ := twoBlk BX.out
    go_cut [7] (fun s7 wx => ∃ g7, s7 = .pointer (some ⟨g7, 0, none⟩) ∧ ∃ a7 m7 c7, Aside (wx.heap[g7]? = some (.cells #[.int .i64 n, .slice a7 m7 c7] 71 (0, 0)) ∧ RdW wx 0 (.slice a7 m7 c7) l ∧ Below W0.heap.size W0 wx))
    case first =>
      cases ao with
      | none =>
        have h0 : l = [] := by
          apply Classical.byContradiction
          intro hne
          obtain ⟨b, off, ha, _⟩ := HPA.out (by cases l with | nil => exact absurd rfl hne | cons _ _ => simp)
          cases ha
        subst h0
        go_region
        all_goals
          go_wp2_with fail
          go_meet
          first
            | exact ⟨_, rfl, _, _, _, alloc2 W0 _ _, ⟨_, _, rfl, Nat.zero_le _, by simp, rfl, fun h => absurd h (by simp)⟩, (((Below.refl _ W0).alloc (Nat.le_refl _) _).alloc (by simp) _).drew⟩
            | exact ⟨_, rfl, _, _, _, (Below.heap_alloc _ _ _ (by simp)).trans (heap_alloc_new W0 _), ⟨_, _, rfl, Nat.zero_le _, by simp, rfl, fun h => absurd h (by simp)⟩, (((Below.refl _ W0).alloc (Nat.le_refl _) _).alloc (by simp) _).drew⟩
      | some ad =>
        have A : Aside (∀ j u, (cellsW l)[j]? = some u → W0.cell? (ad.add j) = some u) := by
          intro j u hu
          have hlt := (List.getElem?_eq_some_iff.1 hu).1
          obtain ⟨ao, cap, hv, _, _, _, hp⟩ := HR.out
          obtain ⟨b, off, ha, _, _, hc⟩ := hp (by rw [cellsW_length] at hlt; omega)
          simp only [Value.slice.injEq] at hv
          obtain ⟨rfl, _, _⟩ := hv
          cases ha
          rw [addr_add]
          exact hc j u hu
        have HXS := Lib.hid (cellsW_length l)
        have hn1 : W0.heap.size ≠ w.heap.size := by omega
        have hn2 : W0.heap.size + 1 ≠ w.heap.size := by omega
        have hB1 : Below W0.heap.size W0 ((W0.alloc (.cells #[] 56)).drew) := ((Below.refl _ W0).alloc (Nat.le_refl _) _).drew
        have ho1 : (((W0.alloc (.cells #[] 56)).drew)).ownsRow W0.heap.size 56 3 (.slice (some ⟨W0.heap.size, 0, none⟩) 0 0) 0 [] := World.ownsRow.drew (World.ownsRow_made W0 #[] 0 (Nat.le_refl _) (Nat.zero_le _) (by simp))
        have O1 := Lib.hid ho1
        have N1 : Hid (∀ j u, (cellsW l)[j]? = some u → ((W0.alloc (.cells #[] 56)).drew).cell? (ad.add j) = some u) := fun j u hj => by
          have h0 := A.out j u hj
          exact (hB1.cell (World.block_lt_of_cell? _ _ h0)).trans h0
        have B1 := Lib.hid hB1
        clear hB1 ho1
        have hB2 : Below W0.heap.size W0 (((W0.alloc (.cells #[] 56)).alloc (.cells #[.int .i64 0, .slice none 0 0] 71)).drew) := (((Below.refl _ W0).alloc (Nat.le_refl _) _).alloc (by simp) _).drew
        have ho2 : ((((W0.alloc (.cells #[] 56)).alloc (.cells #[.int .i64 0, .slice none 0 0] 71)).drew)).ownsRow W0.heap.size 56 3 (.slice (some ⟨W0.heap.size, 0, none⟩) 0 0) 0 [] := World.ownsRow.drew ((World.ownsRow_made W0 #[] 0 (Nat.le_refl _) (Nat.zero_le _) (by simp)).alloc _)
        have O2 := Lib.hid ho2
        have N2 : Hid (∀ j u, (cellsW l)[j]? = some u → (((W0.alloc (.cells #[] 56)).alloc (.cells #[.int .i64 0, .slice none 0 0] 71)).drew).cell? (ad.add j) = some u) := fun j u hj => by
          have h0 := A.out j u hj
          exact (hB2.cell (World.block_lt_of_cell? _ _ h0)).trans h0
        have B2 := Lib.hid hB2
        clear hB2 ho2
        have hB3 : Below W0.heap.size W0 (((W0.alloc (.cells #[.int .i64 0, .slice none 0 0] 71)).alloc (.cells #[] 56)).drew) := (((Below.refl _ W0).alloc (Nat.le_refl _) _).alloc (by simp) _).drew
        have ho3 : ((((W0.alloc (.cells #[.int .i64 0, .slice none 0 0] 71)).alloc (.cells #[] 56)).drew)).ownsRow W0.heap.size 56 3 (.slice (some ⟨W0.heap.size + 1, 0, none⟩) 0 0) 0 [] := World.ownsRow.drew (by have := World.ownsRow_made (base := W0.heap.size) (e := 56) (size := 3) (W0.alloc (.cells #[.int .i64 0, .slice none 0 0] 71)) #[] 0 (by simp) (Nat.zero_le _) (by simp); simpa using this)
        have O3 := Lib.hid ho3
        have N3 : Hid (∀ j u, (cellsW l)[j]? = some u → (((W0.alloc (.cells #[.int .i64 0, .slice none 0 0] 71)).alloc (.cells #[] 56)).drew).cell? (ad.add j) = some u) := fun j u hj => by
          have h0 := A.out j u hj
          exact (hB3.cell (World.block_lt_of_cell? _ _ h0)).trans h0
        have B3 := Lib.hid hB3
        clear hB3 ho3
        go_region_held3 (fun w' => w'.cell? ⟨w.heap.size, 0, none⟩ = some (.int .i64 n) ∧ w'.cell? ⟨w.heap.size, 1, none⟩ = some (.slice (some ad) l.length ca)) (first | go_keep | (refine ⟨?_, ?_⟩ <;> assumption) | (refine ⟨?_, ?_⟩ <;> simp [*, World.cell?_setCell_far]))
          ((first
            | (refine step_append_own (w := (W0.alloc (.cells #[] 56)).drew) rfl (.tmp 35) (.tmp 37) 25 rfl W0.heap.size 56 i0 (.agg #[.int .i64 0, .int .i64 0, .int .u8 0]) 3 24 Try.underlying25 hi hz0 hz1 hz2 rfl (by decide) (.slice (some ⟨W0.heap.size, 0, none⟩) 0 0) 0 [] (by simp [Act.eval]) O1.out ad l.length ca (cellsW l) (by simp [Act.eval]) HXS.out N1.out (oneW l) (by have : maxLen = 9223372036854775807 := rfl; omega) (by omega) B1.out.size ?_; intro v5 w5 hown hgrow; rw [Nat.zero_add, List.nil_append] at hown; obtain ⟨a5, c5, rfl⟩ := own_slice hown; have HBW := Lib.hid (Below.grown B1.out hgrow B1.out.size (fun g hg => Nat.le_of_eq (Option.some.inj (show some W0.heap.size = some g from hg)))); obtain ⟨z0, z1, _, _⟩ := twoBlk ((HBW.out.block _ hsz).trans BX.out); have hz5 : w.heap.size < w5.heap.size := Nat.lt_of_lt_of_le hsz HBW.out.size; have hn5 : w5.heap.size ≠ w.heap.size := (by omega); have HOW := Lib.hid hown; clear hown hgrow)
            | (refine step_append_own (w := ((W0.alloc (.cells #[] 56)).alloc (.cells #[.int .i64 0, .slice none 0 0] 71)).drew) rfl (.tmp 35) (.tmp 37) 25 rfl W0.heap.size 56 i0 (.agg #[.int .i64 0, .int .i64 0, .int .u8 0]) 3 24 Try.underlying25 hi hz0 hz1 hz2 rfl (by decide) (.slice (some ⟨W0.heap.size, 0, none⟩) 0 0) 0 [] (by simp [Act.eval]) O2.out ad l.length ca (cellsW l) (by simp [Act.eval]) HXS.out N2.out (oneW l) (by have : maxLen = 9223372036854775807 := rfl; omega) (by omega) B2.out.size ?_; intro v5 w5 hown hgrow; rw [Nat.zero_add, List.nil_append] at hown; obtain ⟨a5, c5, rfl⟩ := own_slice hown; have HBW := Lib.hid (Below.grown B2.out hgrow B2.out.size (fun g hg => Nat.le_of_eq (Option.some.inj (show some W0.heap.size = some g from hg)))); obtain ⟨z0, z1, _, _⟩ := twoBlk ((HBW.out.block _ hsz).trans BX.out); have hz5 : w.heap.size < w5.heap.size := Nat.lt_of_lt_of_le hsz HBW.out.size; have hn5 : w5.heap.size ≠ w.heap.size := (by omega); have HOW := Lib.hid hown; have hv := (hgrow.block (W0.heap.size + 1) (by simp) (by simp [Value.ownBlock])).trans (alloc2 W0 _ _); obtain ⟨q0, q1, q2, q3⟩ := twoBlk hv; have hq7 := blk_lt hv; have HV7 := Lib.hid hv; clear hv; clear hown hgrow)
            | (refine step_append_own (w := ((W0.alloc (.cells #[.int .i64 0, .slice none 0 0] 71)).alloc (.cells #[] 56)).drew) rfl (.tmp 35) (.tmp 37) 25 rfl W0.heap.size 56 i0 (.agg #[.int .i64 0, .int .i64 0, .int .u8 0]) 3 24 Try.underlying25 hi hz0 hz1 hz2 rfl (by decide) (.slice (some ⟨W0.heap.size + 1, 0, none⟩) 0 0) 0 [] (by simp [Act.eval]) O3.out ad l.length ca (cellsW l) (by simp [Act.eval]) HXS.out N3.out (oneW l) (by have : maxLen = 9223372036854775807 := rfl; omega) (by omega) B3.out.size ?_; intro v5 w5 hown hgrow; rw [Nat.zero_add, List.nil_append] at hown; obtain ⟨a5, c5, rfl⟩ := own_slice hown; have HBW := Lib.hid (Below.grown B3.out hgrow B3.out.size (fun g hg => Nat.le_trans (Nat.le_succ _) (Nat.le_of_eq (Option.some.inj (show some (W0.heap.size + 1) = some g from hg))))); obtain ⟨z0, z1, _, _⟩ := twoBlk ((HBW.out.block _ hsz).trans BX.out); have hz5 : w.heap.size < w5.heap.size := Nat.lt_of_lt_of_le hsz HBW.out.size; have hn5 : w5.heap.size ≠ w.heap.size := (by omega); have HOW := Lib.hid hown; have hv := (hgrow.block W0.heap.size (by first | (simp; done) | (simp; omega)) (by simp [Value.ownBlock])).trans ((Below.heap_alloc _ _ _ (by simp)).trans (heap_alloc_new W0 _)); obtain ⟨q0, q1, q2, q3⟩ := twoBlk hv; have hq7 := blk_lt hv; have HV7 := Lib.hid hv; clear hv; clear hown hgrow)))
        all_goals
          go_wp2_with fail
          go_meet
          first
            | exact ⟨_, rfl, _, _, _, heap_alloc_new w5 _, (own_rd HOW.out).alloc _, HBW.out.alloc HBW.out.size _⟩
            | exact ⟨_, rfl, _, _, _, (own_put2 HOW.out HV7.out (by decide) (.int .i64 n) (.slice a5 l.length c5)).2, own_rd (own_put2 HOW.out HV7.out (by decide) (.int .i64 n) (.slice a5 l.length c5)).1, (HBW.out.setCell (p := ⟨W0.heap.size, 0, none⟩) (Nat.le_refl _) _).setCell (p := ⟨W0.heap.size, 1, none⟩) (Nat.le_refl _) _⟩
            | exact ⟨_, rfl, _, _, _, (own_put2 HOW.out HV7.out (by decide) (.int .i64 n) (.slice a5 l.length c5)).2, own_rd (own_put2 HOW.out HV7.out (by decide) (.int .i64 n) (.slice a5 l.length c5)).1, (HBW.out.setCell (p := ⟨W0.heap.size + 1, 0, none⟩) (Nat.le_succ _) _).setCell (p := ⟨W0.heap.size + 1, 1, none⟩) (Nat.le_succ _) _⟩
    case rest =>
      obtain ⟨g7, rfl, aw, mw, cw, A⟩ := hcut
      have XW0 : Hid (VR wc g7 71 (.int .i64 n) (.slice aw mw cw) l) := ⟨A.out.1, A.out.2.1⟩
      have XS0 : Hid (VR wc w.heap.size 71 (.int .i64 n) (.slice ao l.length ca) l) := ⟨(A.out.2.2.block _ hsz).trans BX.out, HR.out.below A.out.2.2⟩
      have HB0' := Lib.hid (HPRE.out _ A.out.2.2)
      clear A x0 x1 x2 x3
      obtain ⟨n1, l1, y1, f1, hQ1⟩ : ∃ n1 l1 y1 f1, waitS n l p r = (n1, l1, y1, f1) := ⟨_, _, _, _, rfl⟩
      obtain ⟨n2, l2, y2, f2, hQ2⟩ : ∃ n2 l2 y2 f2, signalS n l = (n2, l2, y2, f2) := ⟨_, _, _, _, rfl⟩
      obtain ⟨l3, f3, hQ3⟩ : ∃ l3 f3, cancelS n l p = (l3, f3) := ⟨_, _, rfl⟩
      have hL1 : l1.length ≤ 41 := by have := waitS_len n l p r; rw [hQ1] at this; simp at this; omega
      have hL2 : l2.length ≤ 40 := by have := signalS_len n l; rw [hQ2] at this; simp at this; omega
      have hL3 : l3.length ≤ 40 := by have := cancelS_len n l p; rw [hQ3] at this; simp at this; omega
      have Q1 := Lib.hid hQ1
      have Q2 := Lib.hid hQ2
      have Q3 := Lib.hid hQ3
      clear hQ1 hQ2 hQ3
      obtain ⟨xW0, xW1, _, _⟩ := XW0.out.cells
      have bW0 := blk_lt XW0.out.blk
      obtain ⟨xS0, xS1, _, _⟩ := XS0.out.cells
      have bS0 := blk_lt XS0.out.blk
      have XR1 := Lib.hid (VR.new (x := .int .i64 n) (t := 88) XW0.out.rd)
      have XS1 := Lib.hid (XS0.out.alloc (.cells #[.int .i64 n, .slice aw mw cw] 88))
      have XW1 := Lib.hid (XW0.out.alloc (.cells #[.int .i64 n, .slice aw mw cw] 88))
      have HB1' := Lib.hid (HB0'.out.alloc HB0'.out.size (.cells #[.int .i64 n, .slice aw mw cw] 88))
      have HC1 := Lib.hid (Below.refl (wc.alloc (.cells #[.int .i64 n, .slice aw mw cw] 88)).heap.size (wc.alloc (.cells #[.int .i64 n, .slice aw mw cw] 88)))
      have BXS := Lib.hid XS1.out
      have BXW := Lib.hid XW1.out
      have BHB := Lib.hid HB1'.out
      clear XS0 XW0 HB0'
      go_wp2_with fail
      have h2 := waitS_c n p r _ l _ XS1.out.rd HWF.out (by omega)
      rw [Q1.out] at h2
      refine h2.mono ?_
      clear h2
      rintro e w2 ⟨v2, rfl, r2, b2⟩
      obtain ⟨a2, m2, c2, rfl, hm2⟩ := fr_shape r2
      have hM2 : m2 ≤ 41 := by simp only [hm2]; omega
      clear hm2
      have XA2 := Lib.hid (VR.new (x := .int .i64 n1) (t := 71) r2.rd)
      have FXA2 := Lib.hid ((r2.mono HC1.out.size).alloc (.cells #[.int .i64 n1, .slice a2 m2 c2] 71))
      have XS2 := Lib.hid ((XS1.out.next b2).alloc (.cells #[.int .i64 n1, .slice a2 m2 c2] 71))
      have XW2 := Lib.hid ((XW1.out.next b2).alloc (.cells #[.int .i64 n1, .slice a2 m2 c2] 71))
      have XR2 := Lib.hid ((XR1.out.next b2).alloc (.cells #[.int .i64 n1, .slice a2 m2 c2] 71))
      have hb2 := HB1'.out.trans (b2.mono HB1'.out.size)
      have HB2' := Lib.hid (hb2.alloc hb2.size (.cells #[.int .i64 n1, .slice a2 m2 c2] 71))
      have hc2 := HC1.out.trans (b2.mono HC1.out.size)
      have HC2 := Lib.hid (hc2.alloc hc2.size (.cells #[.int .i64 n1, .slice a2 m2 c2] 71))
      obtain ⟨xXR20, xXR21, _, _⟩ := (XR1.out.next b2).cells
      have bsXR2 := blk_lt (XR1.out.next b2).blk
      clear r2 b2 hb2 hc2 HB1' HC1 XS1 XW1 XR1
      go_wp2_with fail
      have h3 := wait25_c n p r _ l _ XR2.out.rd (by omega)
      rw [Q1.out] at h3
      refine h3.mono ?_
      clear h3
      rintro e w3 ⟨v3, rfl, r3, b3⟩
      obtain ⟨a3, m3, c3, rfl, hm3⟩ := rdv_shape r3
      clear hm3
      have XB3 := Lib.hid (VR.new (x := .int .i64 n1) (t := 88) r3)
      have XS3 := Lib.hid ((XS2.out.next b3).alloc (.cells #[.int .i64 n1, .slice a3 m3 c3] 88))
      have XW3 := Lib.hid ((XW2.out.next b3).alloc (.cells #[.int .i64 n1, .slice a3 m3 c3] 88))
      have XR3 := Lib.hid ((XR2.out.next b3).alloc (.cells #[.int .i64 n1, .slice a3 m3 c3] 88))
      have XA3 := Lib.hid ((XA2.out.next b3).alloc (.cells #[.int .i64 n1, .slice a3 m3 c3] 88))
      have FXA3 := Lib.hid ((FXA2.out.below b3).alloc (.cells #[.int .i64 n1, .slice a3 m3 c3] 88))
      have hb3 := HB2'.out.trans (b3.mono HB2'.out.size)
      have HB3' := Lib.hid (hb3.alloc hb3.size (.cells #[.int .i64 n1, .slice a3 m3 c3] 88))
      have hc3 := HC2.out.trans (b3.mono HC2.out.size)
      have HC3 := Lib.hid (hc3.alloc hc3.size (.cells #[.int .i64 n1, .slice a3 m3 c3] 88))
      obtain ⟨xXS30, xXS31, _, _⟩ := (XS2.out.next b3).cells
      have bsXS3 := blk_lt (XS2.out.next b3).blk
      clear r3 b3 hb3 hc3 HB2' HC2 XS2 XW2 XR2 XA2 FXA2
      go_wp2_with fail
      have h4 := signalS_c n _ l _ XS3.out.rd HWF.out (by omega)
      rw [Q2.out] at h4
      refine h4.mono ?_
      clear h4
      rintro e w4 ⟨v4, rfl, r4, b4⟩
      obtain ⟨a4, m4, c4, rfl, hm4⟩ := fr_shape r4
      have hM4 : m4 ≤ 41 := by simp only [hm4]; omega
      clear hm4
      have XC4 := Lib.hid (VR.new (x := .int .i64 n2) (t := 71) r4.rd)
      have FXC4 := Lib.hid ((r4.mono HC3.out.size).alloc (.cells #[.int .i64 n2, .slice a4 m4 c4] 71))
      have XS4 := Lib.hid ((XS3.out.next b4).alloc (.cells #[.int .i64 n2, .slice a4 m4 c4] 71))
      have XW4 := Lib.hid ((XW3.out.next b4).alloc (.cells #[.int .i64 n2, .slice a4 m4 c4] 71))
      have XR4 := Lib.hid ((XR3.out.next b4).alloc (.cells #[.int .i64 n2, .slice a4 m4 c4] 71))
      have XA4 := Lib.hid ((XA3.out.next b4).alloc (.cells #[.int .i64 n2, .slice a4 m4 c4] 71))
      have XB4 := Lib.hid ((XB3.out.next b4).alloc (.cells #[.int .i64 n2, .slice a4 m4 c4] 71))
      have FXA4 := Lib.hid ((FXA3.out.below b4).alloc (.cells #[.int .i64 n2, .slice a4 m4 c4] 71))
      have hb4 := HB3'.out.trans (b4.mono HB3'.out.size)
      have HB4' := Lib.hid (hb4.alloc hb4.size (.cells #[.int .i64 n2, .slice a4 m4 c4] 71))
      have hc4 := HC3.out.trans (b4.mono HC3.out.size)
      have HC4 := Lib.hid (hc4.alloc hc4.size (.cells #[.int .i64 n2, .slice a4 m4 c4] 71))
      obtain ⟨xXR40, xXR41, _, _⟩ := (XR3.out.next b4).cells
      have bsXR4 := blk_lt (XR3.out.next b4).blk
      clear r4 b4 hb4 hc4 HB3' HC3 XS3 XW3 XR3 XA3 XB3 FXA3
      go_wp2_with fail
      have h5 := signal25_c n _ l _ XR4.out.rd (by omega)
      rw [Q2.out] at h5
      refine h5.mono ?_
      clear h5
      rintro e w5 ⟨v5, rfl, r5, b5⟩
      obtain ⟨a5, m5, c5, rfl, hm5⟩ := rdv_shape r5
      clear hm5
      have XD5 := Lib.hid (VR.new (x := .int .i64 n2) (t := 88) r5)
      have XS5 := Lib.hid ((XS4.out.next b5).alloc (.cells #[.int .i64 n2, .slice a5 m5 c5] 88))
      have XW5 := Lib.hid ((XW4.out.next b5).alloc (.cells #[.int .i64 n2, .slice a5 m5 c5] 88))
      have XR5 := Lib.hid ((XR4.out.next b5).alloc (.cells #[.int .i64 n2, .slice a5 m5 c5] 88))
      have XA5 := Lib.hid ((XA4.out.next b5).alloc (.cells #[.int .i64 n2, .slice a5 m5 c5] 88))
      have XB5 := Lib.hid ((XB4.out.next b5).alloc (.cells #[.int .i64 n2, .slice a5 m5 c5] 88))
      have XC5 := Lib.hid ((XC4.out.next b5).alloc (.cells #[.int .i64 n2, .slice a5 m5 c5] 88))
      have FXA5 := Lib.hid ((FXA4.out.below b5).alloc (.cells #[.int .i64 n2, .slice a5 m5 c5] 88))
      have FXC5 := Lib.hid ((FXC4.out.below b5).alloc (.cells #[.int .i64 n2, .slice a5 m5 c5] 88))
      have hb5 := HB4'.out.trans (b5.mono HB4'.out.size)
      have HB5' := Lib.hid (hb5.alloc hb5.size (.cells #[.int .i64 n2, .slice a5 m5 c5] 88))
      have hc5 := HC4.out.trans (b5.mono HC4.out.size)
      have HC5 := Lib.hid (hc5.alloc hc5.size (.cells #[.int .i64 n2, .slice a5 m5 c5] 88))
      obtain ⟨xXS50, xXS51, _, _⟩ := (XS4.out.next b5).cells
      have bsXS5 := blk_lt (XS4.out.next b5).blk
      clear r5 b5 hb5 hc5 HB4' HC4 XS4 XW4 XR4 XA4 XB4 XC4 FXA4 FXC4
      go_wp2_with fail
      have h6 := cancelS_c n p _ l _ XS5.out.rd HWF.out (by omega)
      rw [Q3.out] at h6
      refine h6.mono ?_
      clear h6
      rintro e w6 ⟨v6, rfl, r6, b6⟩
      obtain ⟨a6, m6, c6, rfl, hm6⟩ := fr_shape r6
      have hM6 : m6 ≤ 41 := by simp only [hm6]; omega
      clear hm6
      have XK6 := Lib.hid (VR.new (x := .int .i64 n) (t := 71) r6.rd)
      have FXK6 := Lib.hid ((r6.mono HC5.out.size).alloc (.cells #[.int .i64 n, .slice a6 m6 c6] 71))
      have XS6 := Lib.hid ((XS5.out.next b6).alloc (.cells #[.int .i64 n, .slice a6 m6 c6] 71))
      have XW6 := Lib.hid ((XW5.out.next b6).alloc (.cells #[.int .i64 n, .slice a6 m6 c6] 71))
      have XR6 := Lib.hid ((XR5.out.next b6).alloc (.cells #[.int .i64 n, .slice a6 m6 c6] 71))
      have XA6 := Lib.hid ((XA5.out.next b6).alloc (.cells #[.int .i64 n, .slice a6 m6 c6] 71))
      have XB6 := Lib.hid ((XB5.out.next b6).alloc (.cells #[.int .i64 n, .slice a6 m6 c6] 71))
      have XC6 := Lib.hid ((XC5.out.next b6).alloc (.cells #[.int .i64 n, .slice a6 m6 c6] 71))
      have XD6 := Lib.hid ((XD5.out.next b6).alloc (.cells #[.int .i64 n, .slice a6 m6 c6] 71))
      have FXA6 := Lib.hid ((FXA5.out.below b6).alloc (.cells #[.int .i64 n, .slice a6 m6 c6] 71))
      have FXC6 := Lib.hid ((FXC5.out.below b6).alloc (.cells #[.int .i64 n, .slice a6 m6 c6] 71))
      have hb6 := HB5'.out.trans (b6.mono HB5'.out.size)
      have HB6' := Lib.hid (hb6.alloc hb6.size (.cells #[.int .i64 n, .slice a6 m6 c6] 71))
      have hc6 := HC5.out.trans (b6.mono HC5.out.size)
      have HC6 := Lib.hid (hc6.alloc hc6.size (.cells #[.int .i64 n, .slice a6 m6 c6] 71))
      obtain ⟨xXR60, xXR61, _, _⟩ := (XR5.out.next b6).cells
      have bsXR6 := blk_lt (XR5.out.next b6).blk
      clear r6 b6 hb6 hc6 HB5' HC5 XS5 XW5 XR5 XA5 XB5 XC5 XD5 FXA5 FXC5
      go_wp2_with fail
      have h7 := cancel25_c n p _ l _ XR6.out.rd (by omega)
      rw [Q3.out] at h7
      refine h7.mono ?_
      clear h7
      rintro e w7 ⟨v7, rfl, r7, b7⟩
      obtain ⟨a7, m7, c7, rfl, hm7⟩ := rdv_shape r7
      clear hm7
      have XM7 := Lib.hid (VR.new (x := .int .i64 n) (t := 88) r7)
      have XS7 := Lib.hid ((XS6.out.next b7).alloc (.cells #[.int .i64 n, .slice a7 m7 c7] 88))
      have XW7 := Lib.hid ((XW6.out.next b7).alloc (.cells #[.int .i64 n, .slice a7 m7 c7] 88))
      have XR7 := Lib.hid ((XR6.out.next b7).alloc (.cells #[.int .i64 n, .slice a7 m7 c7] 88))
      have XA7 := Lib.hid ((XA6.out.next b7).alloc (.cells #[.int .i64 n, .slice a7 m7 c7] 88))
      have XB7 := Lib.hid ((XB6.out.next b7).alloc (.cells #[.int .i64 n, .slice a7 m7 c7] 88))
      have XC7 := Lib.hid ((XC6.out.next b7).alloc (.cells #[.int .i64 n, .slice a7 m7 c7] 88))
      have XD7 := Lib.hid ((XD6.out.next b7).alloc (.cells #[.int .i64 n, .slice a7 m7 c7] 88))
      have XK7 := Lib.hid ((XK6.out.next b7).alloc (.cells #[.int .i64 n, .slice a7 m7 c7] 88))
      have FXA7 := Lib.hid ((FXA6.out.below b7).alloc (.cells #[.int .i64 n, .slice a7 m7 c7] 88))
      have FXC7 := Lib.hid ((FXC6.out.below b7).alloc (.cells #[.int .i64 n, .slice a7 m7 c7] 88))
      have FXK7 := Lib.hid ((FXK6.out.below b7).alloc (.cells #[.int .i64 n, .slice a7 m7 c7] 88))
      have hb7 := HB6'.out.trans (b7.mono HB6'.out.size)
      have HB7' := Lib.hid (hb7.alloc hb7.size (.cells #[.int .i64 n, .slice a7 m7 c7] 88))
      have hc7 := HC6.out.trans (b7.mono HC6.out.size)
      have HC7 := Lib.hid (hc7.alloc hc7.size (.cells #[.int .i64 n, .slice a7 m7 c7] 88))
      obtain ⟨xXS70, xXS71, _, _⟩ := (XS6.out.next b7).cells
      have bsXS7 := blk_lt (XS6.out.next b7).blk
      clear r7 b7 hb7 hc7 HB6' HC6 XS6 XW6 XR6 XA6 XB6 XC6 XD6 XK6 FXA6 FXC6 FXK6
      go_upto_region 11 with (fail)
      obtain ⟨WZ, hWZ⟩ : ∃ WZ, WZ = w7.alloc (.cells #[.int .i64 n, .slice a7 m7 c7] 88) := ⟨_, rfl⟩
      rw [← hWZ] at XS7 XW7 XR7 XA7 XB7 XC7 XD7 XK7 XM7 FXA7 FXC7 FXK7 HB7' HC7 ⊢
      clear hWZ
      have uXS0 := fun p : BelW WZ => (XS7.out.next p.h).cells.1
      have uXS1 := fun p : BelW WZ => (XS7.out.next p.h).cells.2.1
      have uXS2 := fun p : BelW WZ => blk_lt (XS7.out.next p.h).blk
      have uXR0 := fun p : BelW WZ => (XR7.out.next p.h).cells.1
      have uXR1 := fun p : BelW WZ => (XR7.out.next p.h).cells.2.1
      have uXR2 := fun p : BelW WZ => blk_lt (XR7.out.next p.h).blk
      have uXA0 := fun p : BelW WZ => (XA7.out.next p.h).cells.1
      have uXA1 := fun p : BelW WZ => (XA7.out.next p.h).cells.2.1
      have uXA2 := fun p : BelW WZ => blk_lt (XA7.out.next p.h).blk
      have uXB0 := fun p : BelW WZ => (XB7.out.next p.h).cells.1
      have uXB1 := fun p : BelW WZ => (XB7.out.next p.h).cells.2.1
      have uXB2 := fun p : BelW WZ => blk_lt (XB7.out.next p.h).blk
      have uXC0 := fun p : BelW WZ => (XC7.out.next p.h).cells.1
      have uXC1 := fun p : BelW WZ => (XC7.out.next p.h).cells.2.1
      have uXC2 := fun p : BelW WZ => blk_lt (XC7.out.next p.h).blk
      have uXD0 := fun p : BelW WZ => (XD7.out.next p.h).cells.1
      have uXD1 := fun p : BelW WZ => (XD7.out.next p.h).cells.2.1
      have uXD2 := fun p : BelW WZ => blk_lt (XD7.out.next p.h).blk
      have uXK0 := fun p : BelW WZ => (XK7.out.next p.h).cells.1
      have uXK1 := fun p : BelW WZ => (XK7.out.next p.h).cells.2.1
      have uXK2 := fun p : BelW WZ => blk_lt (XK7.out.next p.h).blk
      have uXM0 := fun p : BelW WZ => (XM7.out.next p.h).cells.1
      have uXM1 := fun p : BelW WZ => (XM7.out.next p.h).cells.2.1
      have uXM2 := fun p : BelW WZ => blk_lt (XM7.out.next p.h).blk
      have HV1 : Hid (∀ p : BelW WZ, Calls Try.prog 57 #[.agg #[.int .i64 n, .slice ao l.length ca]] p.W fun e w'' => e = .returned (.bool (vldS n l)) ∧ ∃ q : BelW WZ, w'' = q.W) := fun p => Calls.bel_of (validS_c n _ l p.W (XS7.out.next p.h).rd HWF.out (by omega))
      have HV2 : Hid (∀ p : BelW WZ, Calls Try.prog 58 #[.agg #[.int .i64 n, .slice aw mw cw]] p.W fun e w'' => e = .returned (.bool (vldS n l)) ∧ ∃ q : BelW WZ, w'' = q.W) := fun p => Calls.bel_of (validS25_c n _ l p.W (XR7.out.next p.h).rd (by omega))
      have HS1 : Hid (∀ p : BelW WZ, Calls Try.prog 59 #[.agg #[.int .i64 n1, .slice a2 m2 c2], .agg #[.int .i64 n1, .slice a3 m3 c3]] p.W fun e w'' => e = .returned (.bool true) ∧ ∃ q : BelW WZ, w'' = q.W) := fun p => by
        have hc := sameS_c n1 n1 _ _ l1 l1 p.W (XA7.out.next p.h).rd (XB7.out.next p.h).rd (by omega) (by omega)
        rw [show decide (n1 = n1 ∧ l1 = l1) = true from by simp] at hc
        exact Calls.bel_of hc
      have HS2 : Hid (∀ p : BelW WZ, Calls Try.prog 59 #[.agg #[.int .i64 n2, .slice a4 m4 c4], .agg #[.int .i64 n2, .slice a5 m5 c5]] p.W fun e w'' => e = .returned (.bool true) ∧ ∃ q : BelW WZ, w'' = q.W) := fun p => by
        have hc := sameS_c n2 n2 _ _ l2 l2 p.W (XC7.out.next p.h).rd (XD7.out.next p.h).rd (by omega) (by omega)
        rw [show decide (n2 = n2 ∧ l2 = l2) = true from by simp] at hc
        exact Calls.bel_of hc
      have HS3 : Hid (∀ p : BelW WZ, Calls Try.prog 59 #[.agg #[.int .i64 n, .slice a6 m6 c6], .agg #[.int .i64 n, .slice a7 m7 c7]] p.W fun e w'' => e = .returned (.bool true) ∧ ∃ q : BelW WZ, w'' = q.W) := fun p => by
        have hc := sameS_c n n _ _ l3 l3 p.W (XK7.out.next p.h).rd (XM7.out.next p.h).rd (by omega) (by omega)
        rw [show decide (n = n ∧ l3 = l3) = true from by simp] at hc
        exact Calls.bel_of hc
      generalize vldS n l = vb at HV1 HV2
      refine wp_region_quiet_bel (by kernel_rfl) (by kernel_rfl) ?_
      iterate 48 (first | go_big_quiet_step (first | (go_at_call 57; exact HV1.out _) | (go_at_call 58; exact HV2.out _) | (go_at_call_of 59 (Value.slice a2 m2 c2); exact HS1.out _) | (go_at_call_of 59 (Value.slice a4 m4 c4); exact HS2.out _) | (go_at_call_of 59 (Value.slice a6 m6 c6); exact HS3.out _)) | quiet_step (first | (go_at_call 57; exact HV1.out _) | (go_at_call 58; exact HV2.out _) | (go_at_call_of 59 (Value.slice a2 m2 c2); exact HS1.out _) | (go_at_call_of 59 (Value.slice a4 m4 c4); exact HS2.out _) | (go_at_call_of 59 (Value.slice a6 m6 c6); exact HS3.out _)))
      refine wpQuiet_nil ?_
      intro _ hw'
      obtain ⟨pz, hw''⟩ := hw'
      subst hw''
      clear uXS0 uXS1 uXS2 uXR0 uXR1 uXR2 uXA0 uXA1 uXA2 uXB0 uXB1 uXB2 uXC0 uXC1 uXC2 uXD0 uXD1 uXD2 uXK0 uXK1 uXK2 uXM0 uXM1 uXM2 HV1 HV2 HS1 HS2 HS3
      obtain ⟨WY, hWY⟩ : ∃ WY, WY = pz.W := ⟨_, rfl⟩
      have b8 : Below WZ.heap.size WZ WY := by rw [hWY]; exact pz.h
      rw [← hWY]
      clear hWY pz
      obtain ⟨yXA0, yXA1, _, _⟩ := (XA7.out.next b8).cells
      have ybXA := blk_lt (XA7.out.next b8).blk
      obtain ⟨yXC0, yXC1, _, _⟩ := (XC7.out.next b8).cells
      have ybXC := blk_lt (XC7.out.next b8).blk
      obtain ⟨yXK0, yXK1, _, _⟩ := (XK7.out.next b8).cells
      have ybXK := blk_lt (XK7.out.next b8).blk
      have HCY := Lib.hid (HC7.out.trans (b8.mono HC7.out.size))
      have TLY : Hid (TL (wc.alloc (.cells #[.int .i64 n, .slice aw mw cw] 88)) (WY.alloc (.cells #[.int .i64 n1, .slice a2 m2 c2, .int .i64 n2, .slice a4 m4 c4, .int .i64 n, .slice a6 m6 c6] 71)) WY.heap.size 71 #[.int .i64 n1, .slice a2 m2 c2, .int .i64 n2, .slice a4 m4 c4, .int .i64 n, .slice a6 m6 c6] [(.slice a2 m2 c2, m2), (.slice a4 m4 c4, m4), (.slice a6 m6 c6, m6)]) := TL.new HCY.out (fun p hp => by
        simp only [List.mem_cons, List.not_mem_nil, or_false] at hp
        rcases hp with rfl | rfl | rfl
        · exact TurnW.of' (FXA7.out.below b8)
        · exact TurnW.of' (FXC7.out.below b8)
        · exact TurnW.of' (FXK7.out.below b8))
      clear b8 HCY XS7 XW7 XR7 XA7 XB7 XC7 XD7 XK7 XM7 FXA7 FXC7 FXK7 HB7' HC7
      go_wp2_with fail
      go_loopg [26, 27, 138, 145] 3 (fun gg _ _ sk _ wr => ∃ k : Nat, k ≤ 3 ∧ 3 - k ≤ gg ∧ sk = .int .i64 k ∧ Aside (TL (wc.alloc (.cells #[.int .i64 n, .slice aw mw cw] 88)) wr WY.heap.size 71 #[.int .i64 n1, .slice a2 m2 c2, .int .i64 n2, .slice a4 m4 c4, .int .i64 n, .slice a6 m6 c6] [(.slice a2 m2 c2, m2), (.slice a4 m4 c4, m4), (.slice a6 m6 c6, m6)]))
      case atStart => exact ⟨0, Nat.zero_le _, by omega, rfl, TLY.out⟩
      case round =>
        obtain ⟨k, hk, hg, rfl, A⟩ := hrel
        obtain ⟨wo, rfl⟩ : ∃ wo : World, wo = wr := ⟨_, rfl⟩
        have T0 := Lib.hid A.out
        clear TLY A
        by_cases hlt : k < 3
        · have hltz : (k : Int) < 3 := by omega
          obtain ⟨z, a, m, c, e0, e1, hmem, hmm⟩ : ∃ (z : Int) (a : Option Addr) (m c : Nat), (#[.int .i64 n1, .slice a2 m2 c2, .int .i64 n2, .slice a4 m4 c4, .int .i64 n, .slice a6 m6 c6] : Array Value)[k * 2]? = some (.int .i64 z) ∧ (#[.int .i64 n1, .slice a2 m2 c2, .int .i64 n2, .slice a4 m4 c4, .int .i64 n, .slice a6 m6 c6] : Array Value)[k * 2 + 1]? = some (.slice a m c) ∧ ((Value.slice a m c, m) ∈ ([(.slice a2 m2 c2, m2), (.slice a4 m4 c4, m4), (.slice a6 m6 c6, m6)] : List (Value × Nat))) ∧ m ≤ 41 := by
            match k, hlt with
            | 0, _ => exact ⟨_, _, _, _, rfl, rfl, by simp, hM2⟩
            | 1, _ => exact ⟨_, _, _, _, rfl, rfl, by simp, hM4⟩
            | 2, _ => exact ⟨_, _, _, _, rfl, rfl, by simp, hM6⟩
          have y0 := T0.out.cell _ _ e0
          have y1 := T0.out.cell _ _ e1
          have yb := blk_lt T0.out.blk
          have TA := Lib.hid (T0.out.alloc (.cells #[.int .i64 z, .slice a m c] 71))
          have VA := Lib.hid (heap_alloc_new wo (.cells #[.int .i64 z, .slice a m c] 71))
          have HM := Lib.hid hmem
          clear e0 e1 hmem T0
          go_wp2_with fail
          go_loopg [27, 145] m (fun gg _ sj wi => ∃ j : Nat, j ≤ m ∧ m - j ≤ gg ∧ sj = .int .i64 j ∧ Aside (TL (wc.alloc (.cells #[.int .i64 n, .slice aw mw cw] 88)) wi WY.heap.size 71 #[.int .i64 n1, .slice a2 m2 c2, .int .i64 n2, .slice a4 m4 c4, .int .i64 n, .slice a6 m6 c6] [(.slice a2 m2 c2, m2), (.slice a4 m4 c4, m4), (.slice a6 m6 c6, m6)] ∧ wi.heap[wo.heap.size]? = some (.cells #[.int .i64 z, .slice a m c] 71 (0, 0))))
          case atStart => exact ⟨0, Nat.zero_le _, by omega, rfl, TA.out, VA.out⟩
          case round =>
            obtain ⟨j, hj, hgj, rfl, A⟩ := hrel
            obtain ⟨hT, hV⟩ := A.out
            clear TA VA A y0 y1
            by_cases hjt : j < m
            · have hjz : (j : Int) < (m : Int) := by omega
              obtain ⟨x0, x1, _, _⟩ := twoBlk hV
              have xb := blk_lt hV
              obtain ⟨b, off, z', rfl, hBb, hCb, hbs, y, hfz⟩ := (hT.tn _ HM.out).at j hjt
              have hne : wo.heap.size ≠ b := by omega
              have HN : Hid (∀ z'' : Int, TL (wc.alloc (.cells #[.int .i64 n, .slice aw mw cw] 88)) (wr.setCell ⟨b, off + j * 3, none⟩ (.int .i64 z'')) WY.heap.size 71 #[.int .i64 n1, .slice a2 m2 c2, .int .i64 n2, .slice a4 m4 c4, .int .i64 n, .slice a6 m6 c6] [(.slice a2 m2 c2, m2), (.slice a4 m4 c4, m4), (.slice a6 m6 c6, m6)] ∧ (wr.setCell ⟨b, off + j * 3, none⟩ (.int .i64 z'')).heap[wo.heap.size]? = some (.cells #[.int .i64 z, .slice (some ⟨b, off, none⟩) m c] 71 (0, 0))) := fun z'' => ⟨hT.set hBb hCb y z'', blk_set hV hne⟩
              clear hT hV
              go_wp2_with fail
              go_roundg (m - (j + 1))
              case measure => omega
              case rel => exact ⟨j + 1, by omega, by omega, by go_num, HN.out _⟩
            · have hjz : ¬ (j : Int) < (m : Int) := by omega
              have T1 := Lib.hid hT
              clear hT hV
              go_wp2_with fail
              go_roundg (3 - (k + 1))
              case measure => omega
              case rel => exact ⟨k + 1, by omega, by omega, by go_num, T1.out⟩
        · have hltz : ¬ (k : Int) < 3 := by omega
          have hbe := T0.out.bel
          have XSe := Lib.hid (BXS.out.next hbe)
          have XWe := Lib.hid (BXW.out.next hbe)
          have HBe := Lib.hid (BHB.out.trans (hbe.mono BHB.out.size))
          obtain ⟨x0, x1, _, _⟩ := XSe.out.cells
          have xb0 := blk_lt XSe.out.blk
          obtain ⟨x2, x3, _, _⟩ := XWe.out.cells
          have xb1 := blk_lt XWe.out.blk
          clear T0 hbe
          go_wp2_with fail
          have hs := sameS_c n n _ _ l l wo XSe.out.rd XWe.out.rd (by omega) (by omega)
          rw [show decide (n = n ∧ l = l) = true from by simp] at hs
          refine hs.mono ?_
          clear hs
          rintro e we ⟨rfl, be⟩
          have HBf := Lib.hid (HBe.out.trans (be.mono HBe.out.size))
          clear be XSe XWe HBe x0 x1 x2 x3
          go_wp2_with fail
          refine (awake25_c _).mono ?_
          rintro e wf ⟨rfl, bf⟩
          have HBg := Lib.hid (HBf.out.trans (bf.mono HBf.out.size))
          clear bf
          go_wp2_with fail
          go_ret
          exact ⟨rfl, HBg.out⟩
end Go.Proofs.Ytglbfmcbojjglaa

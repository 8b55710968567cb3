/-
  nacellelaw25.awake returns true, whatever the memory. No conditions.
-/
import Derived.Test.YtglbfmcbojjglaaLawA
namespace Go.Proofs.Ytglbfmcbojjglaa
open Go.RowKit

theorem aw1 : waitS 1 [] 0 0 = (0, [], true, 0) := by decide
theorem aw2 : waitS 0 [] 1 1 = (0, [⟨1, 1, 0⟩], false, 0) := by decide
theorem aw3 : waitS 0 [⟨1, 1, 0⟩] 2 2 = (0, [⟨2, 2, 0⟩, ⟨1, 1, 0⟩], false, 0) := by decide
theorem aw4 : signalS 0 [⟨2, 2, 0⟩, ⟨1, 1, 0⟩] = (0, [⟨1, 1, 0⟩], 2, 0) := by decide
theorem aw5 : signalS 0 [⟨1, 1, 0⟩] = (0, [], 1, 0) := by decide
theorem aw6 : signalS 0 [] = (1, [], -1, 0) := by decide
theorem aw7 : untilE false [] 5 0 = ([⟨5, 0, 0⟩], false, 0) := by decide
theorem aw8 : raiseE false [⟨5, 0, 0⟩] = (true, [], [5], 0) := by decide
theorem aw9 : untilE true [] 6 0 = ([], true, 0) := by decide
theorem aw10 : lowerE true [] = (false, 0) := by decide
theorem aw11 : untilE false [] 6 0 = ([⟨6, 0, 0⟩], false, 0) := by decide

set_option maxHeartbeats 4000000 in
set_option maxRecDepth 100000 in
theorem awake25_c (w : World) : Calls Try.prog 50 #[] w fun e w' => e = .returned (.bool true) ∧ Below w.heap.size w w' := by
  go_enter Try.func50, Try.ntmps50
  go_wp2_with fail
  have h1 := waitS_c 1 0 0 (.slice none 0 0) [] w (FrW.nil w 0).1 (by unfold WfW; decide) (by simp)
  rw [aw1] at h1
  refine h1.mono ?_
  clear h1
  rintro e w1 ⟨v1, rfl, f1, b1⟩
  obtain ⟨a1, m1, c1, rfl, hm1⟩ := fr_shape f1
  have L1 := Lib.hid (LV.new (x := .int .i64 0) (t := 71) f1)
  have hb := b1.alloc b1.size (.cells #[.int .i64 0, .slice a1 m1 c1] 71)
  have HB1 := Lib.hid hb
  obtain ⟨x0, x1, x2, x3⟩ := L1.out.cells
  have xs := blk_lt L1.out.blk
  have gs : w.heap.size ≤ w1.heap.size := b1.size
  clear f1 b1 hm1 hb
  go_wp2_with fail
  have h2 := waitS_c 0 1 1 _ [] _ L1.out.fr.rd (by unfold WfW; decide) (by simp)
  rw [aw2] at h2
  refine h2.mono ?_
  clear h2
  rintro e w2 ⟨v2, rfl, f2, b2⟩
  obtain ⟨a2, m2, c2, rfl, hm2⟩ := fr_shape f2
  have L2 := Lib.hid ((L1.out.next b2).put f2 (blk_lt L1.out.blk) (.int .i64 0))
  have HB2 := Lib.hid (((HB1.out.trans (b2.mono HB1.out.size)).setCell (p := ⟨w1.heap.size, 0, none⟩) gs (.int .i64 0)).setCell (p := ⟨w1.heap.size, 1, none⟩) gs (.slice a2 m2 c2))
  clear x0 x1 x2 x3 xs
  obtain ⟨x0, x1, x2, x3⟩ := (L1.out.next b2).cells
  have xs := blk_lt (L1.out.next b2).blk
  clear f2 b2 hm2 L1 HB1
  go_wp2_with fail
  have h3 := waitS_c 0 2 2 _ [⟨1, 1, 0⟩] _ L2.out.fr.rd (by unfold WfW; decide) (by simp)
  rw [aw3] at h3
  refine h3.mono ?_
  clear h3
  rintro e w3 ⟨v3, rfl, f3, b3⟩
  obtain ⟨a3, m3, c3, rfl, hm3⟩ := fr_shape f3
  have L3 := Lib.hid ((L2.out.next b3).put f3 (blk_lt L2.out.blk) (.int .i64 0))
  have HB3 := Lib.hid (((HB2.out.trans (b3.mono HB2.out.size)).setCell (p := ⟨w1.heap.size, 0, none⟩) gs (.int .i64 0)).setCell (p := ⟨w1.heap.size, 1, none⟩) gs (.slice a3 m3 c3))
  clear x0 x1 x2 x3 xs
  obtain ⟨x0, x1, x2, x3⟩ := (L2.out.next b3).cells
  have xs := blk_lt (L2.out.next b3).blk
  clear f3 b3 hm3 L2 HB2
  go_wp2_with fail
  have h4 := signalS_c 0 _ [⟨2, 2, 0⟩, ⟨1, 1, 0⟩] _ L3.out.fr.rd (by unfold WfW; decide) (by simp)
  rw [aw4] at h4
  refine h4.mono ?_
  clear h4
  rintro e w4 ⟨v4, rfl, f4, b4⟩
  obtain ⟨a4, m4, c4, rfl, hm4⟩ := fr_shape f4
  have L4 := Lib.hid ((L3.out.next b4).put f4 (blk_lt L3.out.blk) (.int .i64 0))
  have HB4 := Lib.hid (((HB3.out.trans (b4.mono HB3.out.size)).setCell (p := ⟨w1.heap.size, 0, none⟩) gs (.int .i64 0)).setCell (p := ⟨w1.heap.size, 1, none⟩) gs (.slice a4 m4 c4))
  clear x0 x1 x2 x3 xs
  obtain ⟨x0, x1, x2, x3⟩ := (L3.out.next b4).cells
  have xs := blk_lt (L3.out.next b4).blk
  clear f4 b4 hm4 L3 HB3
  go_wp2_with fail
  have h5 := signalS_c 0 _ [⟨1, 1, 0⟩] _ L4.out.fr.rd (by unfold WfW; decide) (by simp)
  rw [aw5] at h5
  refine h5.mono ?_
  clear h5
  rintro e w5 ⟨v5, rfl, f5, b5⟩
  obtain ⟨a5, m5, c5, rfl, hm5⟩ := fr_shape f5
  have L5 := Lib.hid ((L4.out.next b5).put f5 (blk_lt L4.out.blk) (.int .i64 0))
  have HB5 := Lib.hid (((HB4.out.trans (b5.mono HB4.out.size)).setCell (p := ⟨w1.heap.size, 0, none⟩) gs (.int .i64 0)).setCell (p := ⟨w1.heap.size, 1, none⟩) gs (.slice a5 m5 c5))
  clear x0 x1 x2 x3 xs
  obtain ⟨x0, x1, x2, x3⟩ := (L4.out.next b5).cells
  have xs := blk_lt (L4.out.next b5).blk
  clear f5 b5 hm5 L4 HB4
  go_wp2_with fail
  have h6 := signalS_c 0 _ [] _ L5.out.fr.rd (by unfold WfW; decide) (by simp)
  rw [aw6] at h6
  refine h6.mono ?_
  clear h6
  rintro e w6 ⟨v6, rfl, f6, b6⟩
  obtain ⟨a6, m6, c6, rfl, hm6⟩ := fr_shape f6
  have L6 := Lib.hid ((L5.out.next b6).put f6 (blk_lt L5.out.blk) (.int .i64 1))
  have HB6 := Lib.hid (((HB5.out.trans (b6.mono HB5.out.size)).setCell (p := ⟨w1.heap.size, 0, none⟩) gs (.int .i64 1)).setCell (p := ⟨w1.heap.size, 1, none⟩) gs (.slice a6 m6 c6))
  clear x0 x1 x2 x3 xs
  obtain ⟨x0, x1, x2, x3⟩ := (L5.out.next b6).cells
  have xs := blk_lt (L5.out.next b6).blk
  clear f6 b6 hm6 L5 HB5
  go_wp2_with fail
  have h7 := untilE_c false 5 0 (.slice none 0 0) [] ((w6.setCell ⟨w1.heap.size, 0, none⟩ (.int .i64 1)).setCell ⟨w1.heap.size, 1, none⟩ (.slice a6 m6 c6)) (FrW.nil _ 0).1 (by unfold WfW; decide) (by simp)
  rw [aw7] at h7
  refine h7.mono ?_
  clear h7
  rintro e w7 ⟨v7, rfl, f7, b7⟩
  obtain ⟨a7, m7, c7, rfl, hm7⟩ := fr_shape f7
  have L7 := Lib.hid (LV.new (x := .bool false) (t := 73) f7)
  have hb7 := HB6.out.trans (b7.mono HB6.out.size)
  have gs7 : w.heap.size ≤ w7.heap.size := hb7.size
  have HB7 := Lib.hid (hb7.alloc gs7 (.cells #[.bool false, .slice a7 m7 c7] 73))
  clear x0 x1 x2 x3 xs
  obtain ⟨x0, x1, x2, x3⟩ := L7.out.cells
  have xs := blk_lt L7.out.blk
  clear f7 b7 hm7 hb7 HB6 L6
  go_wp2_with fail
  have h8 := raiseE_c false _ [⟨5, 0, 0⟩] _ L7.out.fr.rd (by unfold WfW; decide) (by simp)
  rw [aw8] at h8
  refine h8.mono ?_
  clear h8
  rintro e w8 ⟨v8, u8, rfl, f8, i8, b8⟩
  obtain ⟨a8, m8, c8, rfl, hm8⟩ := fr_shape f8
  obtain ⟨k8, n8, d8, rfl, hn8⟩ := own_shape i8
  have L8 := Lib.hid ((L7.out.next b8).put f8 (blk_lt L7.out.blk) (.bool true))
  have HB8 := Lib.hid (((HB7.out.trans (b8.mono HB7.out.size)).setCell (p := ⟨w7.heap.size, 0, none⟩) gs7 (.bool true)).setCell (p := ⟨w7.heap.size, 1, none⟩) gs7 (.slice a8 m8 c8))
  have I8 := Lib.hid ((i8.rd.low (o := 0) (u := .bool true) xs).low (o := 1) (u := .slice a8 m8 c8) xs)
  have gl8 := xs
  clear x0 x1 x2 x3 xs
  obtain ⟨x0, x1, x2, x3⟩ := (L7.out.next b8).cells
  have xs := blk_lt (L7.out.next b8).blk
  clear f8 b8 hm8 i8 hn8 L7 HB7
  go_wp2_with fail
  have h9 := untilE_c true 6 0 _ [] _ L8.out.fr.rd (by unfold WfW; decide) (by simp)
  rw [aw9] at h9
  refine h9.mono ?_
  clear h9
  rintro e w9 ⟨v9, rfl, f9, b9⟩
  obtain ⟨a9, m9, c9, rfl, hm9⟩ := fr_shape f9
  have L9 := Lib.hid ((L8.out.next b9).put f9 (blk_lt L8.out.blk) (.bool true))
  have HB9 := Lib.hid (((HB8.out.trans (b9.mono HB8.out.size)).setCell (p := ⟨w7.heap.size, 0, none⟩) gs7 (.bool true)).setCell (p := ⟨w7.heap.size, 1, none⟩) gs7 (.slice a9 m9 c9))
  have I9 := Lib.hid (((I8.out.below b9).low (o := 0) (u := .bool true) gl8).low (o := 1) (u := .slice a9 m9 c9) gl8)
  clear x0 x1 x2 x3 xs
  obtain ⟨x0, x1, x2, x3⟩ := (L8.out.next b9).cells
  have xs := blk_lt (L8.out.next b9).blk
  clear f9 b9 hm9 L8 HB8 I8
  go_wp2_with fail
  have h10 := lowerE_c true _ [] _ L9.out.fr.rd (by unfold WfW; decide) (by simp)
  rw [aw10] at h10
  refine h10.mono ?_
  clear h10
  rintro e w10 ⟨v10, rfl, f10, b10⟩
  obtain ⟨a10, m10, c10, rfl, hm10⟩ := fr_shape f10
  have L10 := Lib.hid ((L9.out.next b10).put f10 (blk_lt L9.out.blk) (.bool false))
  have HB10 := Lib.hid (((HB9.out.trans (b10.mono HB9.out.size)).setCell (p := ⟨w7.heap.size, 0, none⟩) gs7 (.bool false)).setCell (p := ⟨w7.heap.size, 1, none⟩) gs7 (.slice a10 m10 c10))
  have I10 := Lib.hid (((I9.out.below b10).low (o := 0) (u := .bool false) gl8).low (o := 1) (u := .slice a10 m10 c10) gl8)
  clear x0 x1 x2 x3 xs
  obtain ⟨x0, x1, x2, x3⟩ := (L9.out.next b10).cells
  have xs := blk_lt (L9.out.next b10).blk
  clear f10 b10 hm10 L9 HB9 I9
  go_wp2_with fail
  have h11 := untilE_c false 6 0 _ [] _ L10.out.fr.rd (by unfold WfW; decide) (by simp)
  rw [aw11] at h11
  refine h11.mono ?_
  clear h11
  rintro e w11 ⟨v11, rfl, f11, b11⟩
  obtain ⟨a11, m11, c11, rfl, hm11⟩ := fr_shape f11
  have HB11 := Lib.hid (HB10.out.trans (b11.mono HB10.out.size))
  have I11 := Lib.hid (I10.out.below b11)
  clear x0 x1 x2 x3 xs f11 b11 hm11 L10 HB10 I10
  go_wp2_with fail
  have h12 := ints_c _ _ [5] [5] _ ((I11.out.alloc (.cells #[.int .i64 5] 3)).mono (Nat.zero_le _)) (RdI.one w11 3 5) (by simp) (by simp)
  refine h12.mono ?_
  clear h12
  rintro e w12 ⟨rfl, k, rfl⟩
  have HB12 := Lib.hid (below_drewN' (HB11.out.alloc HB11.out.size (.cells #[.int .i64 5] 3)) k)
  clear I11 HB11
  go_wp2_with fail
  go_ret
  exact ⟨rfl, HB12.out⟩
end Go.Proofs.Ytglbfmcbojjglaa

/-
  SemaPasses: for every list of processes the call returns true, and nothing that was there before has turned. No conditions but that the list can be read.
-/
import Derived.Test.YtglbfmcbojjglaaAwake25
import Derived.Test.YtglbfmcbojjglaaPlainB
import Derived.Deep.DeepCutAuto
namespace Go.Proofs.Ytglbfmcbojjglaa
open Go.RowKit Go.Maps

theorem ps1 : raiseE false [] = (true, [], [], 0) := by decide
theorem ps2 : raiseE true [] = (true, [], [], 0) := by decide
theorem ps3 : lowerE true [] = (false, 0) := by decide
theorem ps4 : lowerE false [] = (false, 0) := by decide
theorem ps5 (p : Int) (hp : 0 ≤ p) : untilE true [] p 1 = ([], true, 0) := by
  have h1 : vldE true [] = true := by decide
  have h2 : mayL [] p = true := by simp [mayL, hp]
  simp [untilE, h1, h2]

set_option maxHeartbeats 4000000 in
set_option maxRecDepth 100000 in
theorem semaPasses_c (v : Value) (zs : List Int) (w : World) (h : RdI .u8 w 0 v zs) (hz : ∀ z ∈ zs, 0 ≤ z ∧ z ≤ 255) (hl : zs.length ≤ 9223372036854775807) :
    Calls Try.prog 11 #[v] w fun e w' => e = .returned (.bool true) ∧ Below w.heap.size w w' := by
  obtain ⟨ao, ca, rfl, hca, hna, pa⟩ := h.open_
  clear h
  have HZ := Lib.hid hz
  have HPA := Lib.hid pa
  clear hz pa
  have hmm := @run_makeMap Try.prog
  go_enter Try.func11, Try.ntmps11
  go_wp2_with fail
  have h1 := raiseE_c false (.slice none 0 0) [] w (FrW.nil _ 0).1 (by unfold WfW; decide) (by simp)
  rw [ps1] at h1
  refine h1.mono ?_
  clear h1
  rintro e w1 ⟨v1, u1, rfl, f1, i1, b1⟩
  obtain ⟨a1, m1, c1, rfl, hm1⟩ := fr_shape f1
  obtain ⟨a1', m1', c1', rfl, hm1'⟩ := own_shape i1
  have UP1 := Lib.hid (LV.new (x := .bool true) (t := 73) f1)
  have HB1 := Lib.hid (b1.alloc b1.size (.cells #[.bool true, .slice a1 m1 c1] 73))
  obtain ⟨x0, x1, x2, x3⟩ := UP1.out.cells
  have gs1 : w.heap.size ≤ w1.heap.size := b1.size
  have us := blk_lt UP1.out.blk
  clear f1 i1 b1 hm1 hm1'
  go_wp2_with fail
  have h2 := raiseE_c true _ [] _ UP1.out.fr.rd (by unfold WfW; decide) (by simp)
  rw [ps2] at h2
  refine h2.mono ?_
  clear h2
  rintro e w2 ⟨v2, u2, rfl, f2, i2, b2⟩
  obtain ⟨a2, m2, c2, rfl, hm2⟩ := fr_shape f2
  obtain ⟨a2', m2', c2', rfl, hm2'⟩ := own_shape i2
  obtain rfl : m2' = 0 := hm2'
  have UP2 := Lib.hid ((UP1.out.next b2).alloc (.cells #[.bool true, .slice a2 m2 c2] 73))
  have AG2 := Lib.hid (LV.new (x := .bool true) (t := 73) f2)
  have hb2 := HB1.out.trans (b2.mono HB1.out.size)
  have gs2 : w.heap.size ≤ w2.heap.size := hb2.size
  have HB2 := Lib.hid (hb2.alloc gs2 (.cells #[.bool true, .slice a2 m2 c2] 73))
  clear x0 x1 x2 x3
  obtain ⟨x0, x1, x2, x3⟩ := (UP1.out.next b2).cells
  have us2 := blk_lt (UP1.out.next b2).blk
  clear f2 i2 b2 hm2 UP1 HB1 hb2
  go_wp2_with fail
  have h3 := lowerE_c true _ [] _ UP2.out.fr.rd (by unfold WfW; decide) (by simp)
  rw [ps3] at h3
  refine h3.mono ?_
  clear h3
  rintro e w3 ⟨v3, rfl, f3, b3⟩
  obtain ⟨a3, m3, c3, rfl, hm3⟩ := fr_shape f3
  have UP3 := Lib.hid ((UP2.out.next b3).alloc (.cells #[.bool false, .slice a3 m3 c3] 73))
  have AG3 := Lib.hid ((AG2.out.next b3).alloc (.cells #[.bool false, .slice a3 m3 c3] 73))
  have DN3 := Lib.hid (LV.new (x := .bool false) (t := 73) f3)
  have hb3 := HB2.out.trans (b3.mono HB2.out.size)
  have gs3 : w.heap.size ≤ w3.heap.size := hb3.size
  have HB3 := Lib.hid (hb3.alloc gs3 (.cells #[.bool false, .slice a3 m3 c3] 73))
  clear x0 x1 x2 x3
  obtain ⟨d0, d1, d2, d3⟩ := DN3.out.cells
  have ds := blk_lt DN3.out.blk
  clear f3 b3 hm3 UP2 HB2 hb3 AG2
  go_wp2_with fail
  have h4 := lowerE_c false _ [] _ DN3.out.fr.rd (by unfold WfW; decide) (by simp)
  rw [ps4] at h4
  refine h4.mono ?_
  clear h4
  rintro e w4 ⟨v4, rfl, f4, b4⟩
  obtain ⟨a4, m4, c4, rfl, hm4⟩ := fr_shape f4
  have UP4 := Lib.hid ((UP3.out.next b4).alloc (.cells #[.bool false, .slice a4 m4 c4] 73))
  have AG4 := Lib.hid ((AG3.out.next b4).alloc (.cells #[.bool false, .slice a4 m4 c4] 73))
  have DN4 := Lib.hid ((DN3.out.next b4).alloc (.cells #[.bool false, .slice a4 m4 c4] 73))
  have LO4 := Lib.hid (LV.new (x := .bool false) (t := 73) f4)
  have hb4 := HB3.out.trans (b4.mono HB3.out.size)
  have gs4 : w.heap.size ≤ w4.heap.size := hb4.size
  have HB4 := Lib.hid (hb4.alloc gs4 (.cells #[.bool false, .slice a4 m4 c4] 73))
  clear d0 d1 d2 d3
  obtain ⟨d0, d1, d2, d3⟩ := (DN3.out.next b4).cells
  obtain ⟨x0, x1, x2, x3⟩ := (UP3.out.next b4).cells
  obtain ⟨y0, y1, y2, y3⟩ := (AG3.out.next b4).cells
  have ds4 := blk_lt (DN3.out.next b4).blk
  have us4 := blk_lt (UP3.out.next b4).blk
  have as4 := blk_lt (AG3.out.next b4).blk
  clear f4 b4 hm4 UP3 HB3 hb4 AG3 DN3
  go_wp2_with fail
  refine (sameE_c true true _ _ [] [] _ UP4.out.fr.rd AG4.out.fr.rd (by simp) (by simp)).mono ?_
  rintro e w5 ⟨rfl, b5⟩
  rw [show decide (true = true ∧ ([] : List Wt) = []) = true from by decide]
  have UP5 := Lib.hid (UP4.out.next b5)
  have DN5 := Lib.hid (DN4.out.next b5)
  have LO5 := Lib.hid (LO4.out.next b5)
  have HB5 := Lib.hid (HB4.out.trans (b5.mono HB4.out.size))
  clear d0 d1 d2 d3 x0 x1 x2 x3 y0 y1 y2 y3
  obtain ⟨d0, d1, d2, d3⟩ := DN5.out.cells
  obtain ⟨x0, x1, x2, x3⟩ := LO5.out.cells
  have ds5 := blk_lt DN5.out.blk
  have ls5 := blk_lt LO5.out.blk
  clear b5 UP4 AG4 DN4 LO4 HB4
  go_wp2_with fail
  refine (sameE_c false false _ _ [] [] _ DN5.out.fr.rd LO5.out.fr.rd (by simp) (by simp)).mono ?_
  rintro e w6 ⟨rfl, b6⟩
  rw [show decide (false = false ∧ ([] : List Wt) = []) = true from by decide]
  have UP6 := Lib.hid (UP5.out.next b6)
  have DN6 := Lib.hid (DN5.out.next b6)
  have HB6 := Lib.hid (HB5.out.trans (b6.mono HB5.out.size))
  clear d0 d1 d2 d3 x0 x1 x2 x3
  obtain ⟨d0, d1, d2, d3⟩ := DN6.out.cells
  have ds6 := blk_lt DN6.out.blk
  clear b6 UP5 DN5 LO5 HB5
  go_wp2_with fail
  refine (sameE_c false false _ _ [] [] _ DN6.out.fr.rd (FrW.nil _ 0).1 (by simp) (by simp)).mono ?_
  rintro e w7 ⟨rfl, b7⟩
  rw [show decide (false = false ∧ ([] : List Wt) = []) = true from by decide]
  have UP7 := Lib.hid ((UP6.out.next b7).alloc (.map #[] 0))
  have DN7 := Lib.hid (DN6.out.next b7)
  have HB7 := Lib.hid (HB6.out.trans (b7.mono HB6.out.size))
  clear d0 d1 d2 d3
  obtain ⟨d0, d1, d2, d3⟩ := DN7.out.cells
  have ds7 := blk_lt DN7.out.blk
  have us7 := blk_lt (UP6.out.next b7).blk
  clear b7 UP6 DN6 HB6
  go_upto_region 9 with (fail)
  obtain ⟨WX, hWX⟩ : ∃ WX, WX = (w7.alloc (.map #[] 0)).alloc (.cells #[.bool false, .slice a3 m3 c3] 73) := ⟨_, rfl⟩
  rw [← hWX]
  have UPX : Hid (LV WX w1.heap.size 73 (.bool true) (.slice a1 m1 c1) []) := by subst hWX; exact UP7.out.alloc _
  have VX : Hid (LV WX (w7.heap.size + 1) 73 (.bool false) (.slice a3 m3 c3) []) := by
    subst hWX
    have := LV.new (W := w7.alloc (.map #[] 0)) (x := .bool false) (t := 73) (DN7.out.fr.alloc (.map #[] 0))
    show LV _ _ _ _ _ _
    simpa using this
  have MX : Hid (CntZ 5 .u8 WX w7.heap.size 0 (fun _ => 0) 0) := by subst hWX; exact (CntZ.made _ _ w7).next ((Below.refl _ _).alloc (Nat.le_refl _) _)
  have HBX : Hid (Below w.heap.size w WX) := by
    subst hWX
    exact (HB7.out.alloc HB7.out.size _).alloc (by simp; exact Nat.le_succ_of_le HB7.out.size) _
  have hg7 : w.heap.size ≤ w7.heap.size := HB7.out.size
  clear hWX UP7 DN7 HB7 d0 d1 d2 d3 ds7 hmm
  go_cut [80, 81, 82] (fun s80 s81 s82 wx => ∃ n : Nat, s80 = .slice ao n ca ∧ s81 = .int .i64 n ∧ s82 = .int .i64 0 ∧ n ≤ 10 ∧ n ≤ zs.length ∧ WX = wx)
  case first =>
    by_cases h10 : zs.length ≤ 10
    · have hi : (zs.length : Int) ≤ 10 := by omega
      go_wp2
      go_meet
      exact ⟨zs.length, rfl, rfl, rfl, h10, Nat.le_refl _, rfl⟩
    · have hi : ¬ (zs.length : Int) ≤ 10 := by omega
      go_wp2
      go_meet
      exact ⟨10, rfl, rfl, rfl, Nat.le_refl _, by omega, rfl⟩
  case rest =>
    obtain ⟨n, rfl, rfl, rfl, hn1, hn2, rfl⟩ := hcut
    have hcell : Hid (∀ k (hk : k < n), ∃ b off, ao = some ⟨b, off, none⟩ ∧ b < w.heap.size ∧ w.cell? ⟨b, off + k, none⟩ = some (.int .u8 (zs.getD k 0)) ∧ 0 ≤ zs.getD k 0 ∧ zs.getD k 0 ≤ 255) := fun k hk => by
      obtain ⟨b, off, h1, _, h3, h4⟩ := HPA.out (by omega)
      have h5 : zs.getD k 0 = zs[k]'(by omega) := by simp [List.getD, List.getElem?_eq_getElem (show k < zs.length by omega)]
      rw [h5]
      exact ⟨b, off, h1, h3, h4 k (by omega), HZ.out _ (List.getElem_mem _)⟩
    clear HPA
    go_wp2_with fail
    go_loopg [82] n (fun gg s82 wr => ∃ k : Nat, k ≤ n ∧ n - k ≤ gg ∧ s82 = .int .i64 k ∧ Aside (Below w.heap.size w wr ∧ LV wr w1.heap.size 73 (.bool true) (.slice a1 m1 c1) [] ∧ CntZ 5 .u8 wr w7.heap.size k (cntI zs k) (once zs k).length ∧ ∃ y, LV wr (w7.heap.size + 1) 73 (.bool false) y (once zs k) ∧ ∀ a n c, y = .slice (some a) n c → 0 < n → a.block ≠ w7.heap.size))
    case atStart =>
      refine ⟨0, Nat.zero_le _, by omega, rfl, HBX.out, UPX.out, MX.out, _, VX.out, VX.out.ap_nil⟩
    case round =>
      obtain ⟨k, hk, hg, rfl, A⟩ := hrel
      obtain ⟨hB, hU, hM, y, hV, hVm⟩ := A.out
      have G := once_good zs HZ.out k (by omega)
      by_cases hlt : k < n
      · have hltz : (k : Int) < (n : Int) := by omega
        obtain ⟨b, off, rfl, hbs, c0, hp0, hp1⟩ := hcell.out k hlt
        rw [← hB.cell (p := ⟨b, _, none⟩) hbs] at c0
        have hcs := cntI_succ zs k (by omega)
        have hnx : once zs (k + 1) = if mayL (once zs k) (zs.getD k 0) then enterW (once zs k) ⟨zs.getD k 0, 1, 0⟩ else once zs k := rfl
        have hcb := cntI_bd zs k (zs.getD k 0)
        have hmay := G.mem (zs.getD k 0)
        have hvl : vldE false (once zs k) = true := vldE_of G.ord (fun x hx => (G.el x hx).1)
        have hwfl : WfW (once zs k) := fun x hx => by have := G.el x hx; exact WalkArith.wf_i64 (by omega)
        have hll : (once zs k).length ≤ 10 := by have := G.len; omega
        clear G
        generalize zs.getD k 0 = pk at c0 hp0 hp1 hcs hnx hcb hmay
        have hmay' : mayL (once zs k) pk = true ↔ cntI zs k pk = 0 := by
          rw [mayL_iff hp0, hmay]
          omega
        have hwk : (Lit.int .u8 pk).wf = true := by go_wf
        obtain ⟨a5, m5, c5, rfl, hm5⟩ := fr_shape hV.fr
        have HU := Lib.hid hU
        have HM := Lib.hid hM
        have HV := Lib.hid hV
        have HVM := Lib.hid hVm
        have HB := Lib.hid hB
        have HCS := Lib.hid hcs
        have HNX := Lib.hid hnx
        have HMAY := Lib.hid hmay'
        have HVL := Lib.hid (And.intro hvl (And.intro hwfl hll))
        have HCB := Lib.hid hcb
        obtain ⟨x0, x1, x2, x3⟩ := hU.cells
        have us := blk_lt hU.blk
        clear hB hU hM hV hVm A hm5 hcs hnx hmay hmay' hvl hwfl hll hcb
        go_wp2_with fail
        have h1 := untilE_c true pk 1 _ [] wr HU.out.fr.rd (by unfold WfW; decide) (by simp)
        rw [ps5 pk hp0] at h1
        refine h1.mono ?_
        clear h1
        rintro e w8 ⟨v8, rfl, f8, b8⟩
        obtain ⟨a8, m8, c8, rfl, hm8⟩ := fr_shape f8
        have SA := Lib.hid (LV.new (x := .bool true) (t := 73) f8)
        have HU8 := Lib.hid ((HU.out.next b8).alloc (.cells #[.bool true, .slice a8 m8 c8] 73))
        have hb8 := b8.alloc b8.size (.cells #[.bool true, .slice a8 m8 c8] 73)
        have HW8 := Lib.hid hb8
        clear x0 x1 x2 x3
        obtain ⟨x0, x1, x2, x3⟩ := (HU.out.next b8).cells
        have us8 := blk_lt (HU.out.next b8).blk
        clear f8 b8 hm8 hb8
        go_wp2_with fail
        refine (sameE_c true true _ _ [] [] _ SA.out.fr.rd HU8.out.fr.rd (by simp) (by simp)).mono ?_
        rintro e w9 ⟨rfl, b9⟩
        rw [show decide (true = true ∧ ([] : List Wt) = []) = true from by decide]
        have HW9 := Lib.hid (HW8.out.trans (b9.mono HW8.out.size))
        have HU9 := Lib.hid (HU8.out.next b9)
        have HV9 := Lib.hid (HV.out.next HW9.out)
        have HM9 := Lib.hid (HM.out.next HW9.out)
        have HB9 := Lib.hid (HB.out.trans (HW9.out.mono HB.out.size))
        clear x0 x1 x2 x3 b9 SA HU8 HW8
        obtain ⟨z0, z1, z2, z3⟩ := HV9.out.cells
        have vs9 := blk_lt HV9.out.blk
        have hs9 : wr.heap.size ≤ w9.heap.size := HW9.out.size
        have hvr : w7.heap.size + 1 < wr.heap.size := blk_lt HV.out.blk
        by_cases hm : mayL (once zs k) pk = true
        · have hu : untilE false (once zs k) pk 1 = (once zs (k + 1), false, 0) := by
            rw [HNX.out, if_pos hm]
            unfold untilE
            rw [HVL.out.1, hm]
            simp
          have hc0 : cntI zs k pk = 0 := HMAY.out.1 hm
          have HU2 := Lib.hid hu
          have HC0 := Lib.hid hc0
          have HLN : Hid ((once zs k).length + 1 = (once zs (k + 1)).length) := by show _ = _; rw [HNX.out, if_pos hm, enterW_length]
          clear hu hc0 hm
          go_wp2_with fail
          have h2 := untilE_c false pk 1 _ (once zs k) _ HV9.out.fr.rd HVL.out.2.1 (by have := HVL.out.2.2; omega)
          rw [HU2.out] at h2
          refine h2.mono ?_
          clear h2
          rintro e w10 ⟨v10, rfl, f10, b10⟩
          obtain ⟨a10, m10, c10, rfl, hm10⟩ := fr_shape f10
          have F10 := Lib.hid f10
          have W10 := Lib.hid (LV.new (x := .bool false) (t := 73) f10)
          have hb10 := b10.alloc b10.size (.cells #[.bool false, .slice a10 m10 c10] 73)
          have HU10 := Lib.hid (HU9.out.next hb10)
          have HV10 := Lib.hid (HV9.out.next hb10)
          have HM10 := Lib.hid (HM9.out.next hb10)
          have HB10 := Lib.hid (HB9.out.trans (hb10.mono HB9.out.size))
          have hs10 : w9.heap.size ≤ w10.heap.size := b10.size
          clear z0 z1 z2 z3 f10 b10 hm10 hb10 HU9 HV9 HM9 HB9 HU HV HM HB
          have hlk := HM10.out.cnt.look Try.underlying87 Try.underlying5 pk hwk
          generalize hcq : cntI zs k pk = c at hlk HCB
          have HCQ := Lib.hid hcq
          clear hcq
          have hcb0 : 0 ≤ c := HCB.out.1
          have hcb1 : c ≤ 10 := by have := HCB.out.2; omega
          have hwc : (Lit.int .i64 (c + 1)).wf = true := WalkArith.wf_i64 (by omega)
          have hbeh : Hid (∀ w11, CntZ 5 .u8 w11 w7.heap.size (k + 1) (fun y => if y = pk then c + 1 else cntI zs k y) (if cntI zs k pk = 0 then (once zs k).length + 1 else (once zs k).length) → (w10.alloc (.cells #[.bool false, .slice a10 m10 c10] 73)).grownBy w11 (some w7.heap.size) →
              (Instr.lookup 87 (.map (some w7.heap.size)) (.int .u8 pk) false).run Try.prog w11 = .ok (.int .i64 (c + 1)) w11 ∧ w11.heap[w10.heap.size]? = some (.cells #[.bool false, .slice a10 m10 c10] 73 (0, 0)) ∧
              LV w11 (w7.heap.size + 1) 73 (.bool false) (.slice a5 m5 c5) (once zs k) ∧ LV w11 w1.heap.size 73 (.bool true) (.slice a1 m1 c1) [] ∧ LV w11 w10.heap.size 73 (.bool false) (.slice a10 m10 c10) (once zs (k + 1)) ∧ FrW w11 w9.heap.size (.slice a10 m10 c10) (once zs (k + 1)) ∧ Below w.heap.size w w11 ∧ w10.heap.size < w11.heap.size) := by
            intro w11 hc11 hg11
            have hl := hc11.cnt.look Try.underlying87 Try.underlying5 pk hwk
            rw [if_pos rfl] at hl
            have hgb : (w10.alloc (.cells #[.bool false, .slice a10 m10 c10] 73)).heap.size = w10.heap.size + 1 := by simp
            have hge : ∀ a n cc, Value.slice a10 m10 c10 = .slice (some a) n cc → 0 < n → a.block ≠ w7.heap.size := fun a n cc hy hn => by
              have := (fr_ge F10.out hy hn).1
              omega
            refine ⟨hl, ?_, HV10.out.far hg11 (by omega) HVM.out, HU10.out.far hg11 (by omega) HU10.out.ap_nil, W10.out.far hg11 (by omega) hge, (F10.out.alloc _).far hg11 hge, HB10.out.grown hg11 HB10.out.size (by intro j hj; simp at hj; omega), ?_⟩
            · rw [hg11.block w10.heap.size (by simp) (by simp; omega)]; exact heap_alloc_new w10 _
            · have := hg11.size; omega
          have hcz : c = 0 := by rw [← HCQ.out]; exact HC0.out
          have ht1 : (c + 1 == 1) = true := by rw [hcz]; rfl
          have ht2 : (c == 0) = true := by rw [hcz]; rfl
          clear hcz
          have hne : c + 1 ≠ 0 := by omega
          go_wp2_with (at_mapUpdate; refine wpList_cntZ_update rfl _ _ _ 87 rfl Try.underlying87 Try.underlying5 HM10.out (by unfold maxLen; omega) pk (c + 1) hwk hwc hne rfl rfl rfl ?_; intro w11 hc11 hg11; obtain ⟨q1, q2, q3, q4, q5, q6, q7, q8⟩ := hbeh.out w11 hc11 hg11; obtain ⟨z0, z1, z2, z3⟩ := q3.cells; obtain ⟨t0, t1, _, _⟩ := twoBlk q2; have vs11 := blk_lt q3.blk; have HC11 := Lib.hid hc11; have Q3 := Lib.hid q3; have Q4 := Lib.hid q4; have Q5 := Lib.hid q5; have Q6 := Lib.hid q6; have Q7 := Lib.hid q7; clear hc11 hg11 q2 q3 q4 q5 q6 q7)
          go_roundg (n - (k + 1))
          case measure => omega
          case rel =>
            have hvne : w7.heap.size + 1 < w9.heap.size := by omega
            refine ⟨k + 1, by omega, by omega, by go_num, ?_, ?_, ?_, .slice a10 m10 c10, ?_, ?_⟩
            · exact (Q7.out.setCell (p := ⟨w7.heap.size + 1, 0, none⟩) (by show _ ≤ w7.heap.size + 1; omega) _).setCell (p := ⟨w7.heap.size + 1, 1, none⟩) (by show _ ≤ w7.heap.size + 1; omega) _
            · exact (Q4.out.oth (by omega) Q4.out.ap_nil).oth (by omega) Q4.out.ap_nil
            · have := HC11.out
              rw [← HCQ.out, HCS.out] at this
              rw [if_pos HC0.out, HLN.out] at this
              exact (this.blk (Below.heap_setCell _ _ _ _ (by show _ ≠ w7.heap.size + 1; omega))).blk (Below.heap_setCell _ _ _ _ (by show _ ≠ w7.heap.size + 1; omega))
            · exact Q3.out.put Q6.out hvne _
            · intro a n' cc hy hn
              have := (fr_ge Q6.out hy hn).1
              omega
        · have hmf : mayL (once zs k) pk = false := by simpa using hm
          have hon : once zs (k + 1) = once zs k := by rw [HNX.out, if_neg hm]
          have hu : untilE false (once zs k) pk 1 = (once zs (k + 1), false, 2) := by
            rw [hon]
            unfold untilE
            rw [HVL.out.1, hmf]
            simp
          have hc0 : ¬ cntI zs k pk = 0 := fun e => hm (HMAY.out.2 e)
          have HU2 := Lib.hid hu
          have HC0 := Lib.hid hc0
          have HON := Lib.hid hon
          have HLN : Hid ((once zs k).length = (once zs (k + 1)).length) := by show _ = _; rw [hon]
          clear hu hc0 hm hmf hon
          go_wp2_with fail
          have h2 := untilE_c false pk 1 _ (once zs k) _ HV9.out.fr.rd HVL.out.2.1 (by have := HVL.out.2.2; omega)
          rw [HU2.out] at h2
          refine h2.mono ?_
          clear h2
          rintro e w10 ⟨v10, rfl, f10, b10⟩
          obtain ⟨a10, m10, c10, rfl, hm10⟩ := fr_shape f10
          have F10 := Lib.hid f10
          have W10 := Lib.hid (LV.new (x := .bool false) (t := 73) f10)
          have hb10 := b10.alloc b10.size (.cells #[.bool false, .slice a10 m10 c10] 73)
          have HU10 := Lib.hid (HU9.out.next hb10)
          have HV10 := Lib.hid (HV9.out.next hb10)
          have HM10 := Lib.hid (HM9.out.next hb10)
          have HB10 := Lib.hid (HB9.out.trans (hb10.mono HB9.out.size))
          have hs10 : w9.heap.size ≤ w10.heap.size := b10.size
          clear z0 z1 z2 z3 f10 b10 hm10 hb10 HU9 HV9 HM9 HB9 HU HV HM HB
          have hlk := HM10.out.cnt.look Try.underlying87 Try.underlying5 pk hwk
          generalize hcq : cntI zs k pk = c at hlk HCB
          have HCQ := Lib.hid hcq
          clear hcq
          have hcb0 : 0 ≤ c := HCB.out.1
          have hcb1 : c ≤ 10 := by have := HCB.out.2; omega
          have hwc : (Lit.int .i64 (c + 1)).wf = true := WalkArith.wf_i64 (by omega)
          have hbeh : Hid (∀ w11, CntZ 5 .u8 w11 w7.heap.size (k + 1) (fun y => if y = pk then c + 1 else cntI zs k y) (if cntI zs k pk = 0 then (once zs k).length + 1 else (once zs k).length) → (w10.alloc (.cells #[.bool false, .slice a10 m10 c10] 73)).grownBy w11 (some w7.heap.size) →
              (Instr.lookup 87 (.map (some w7.heap.size)) (.int .u8 pk) false).run Try.prog w11 = .ok (.int .i64 (c + 1)) w11 ∧ w11.heap[w10.heap.size]? = some (.cells #[.bool false, .slice a10 m10 c10] 73 (0, 0)) ∧
              LV w11 (w7.heap.size + 1) 73 (.bool false) (.slice a5 m5 c5) (once zs k) ∧ LV w11 w1.heap.size 73 (.bool true) (.slice a1 m1 c1) [] ∧ LV w11 w10.heap.size 73 (.bool false) (.slice a10 m10 c10) (once zs (k + 1)) ∧ FrW w11 w9.heap.size (.slice a10 m10 c10) (once zs (k + 1)) ∧ Below w.heap.size w w11 ∧ w10.heap.size < w11.heap.size) := by
            intro w11 hc11 hg11
            have hl := hc11.cnt.look Try.underlying87 Try.underlying5 pk hwk
            rw [if_pos rfl] at hl
            have hgb : (w10.alloc (.cells #[.bool false, .slice a10 m10 c10] 73)).heap.size = w10.heap.size + 1 := by simp
            have hge : ∀ a n cc, Value.slice a10 m10 c10 = .slice (some a) n cc → 0 < n → a.block ≠ w7.heap.size := fun a n cc hy hn => by
              have := (fr_ge F10.out hy hn).1
              omega
            refine ⟨hl, ?_, HV10.out.far hg11 (by omega) HVM.out, HU10.out.far hg11 (by omega) HU10.out.ap_nil, W10.out.far hg11 (by omega) hge, (F10.out.alloc _).far hg11 hge, HB10.out.grown hg11 HB10.out.size (by intro j hj; simp at hj; omega), ?_⟩
            · rw [hg11.block w10.heap.size (by simp) (by simp; omega)]; exact heap_alloc_new w10 _
            · have := hg11.size; omega
          have hcz : ¬ c = 0 := by rw [← HCQ.out]; exact HC0.out
          have ht1 : (c + 1 == 1) = false := by simp; omega
          have ht2 : (c == 0) = false := by simp; exact hcz
          clear hcz
          have hne : c + 1 ≠ 0 := by omega
          go_wp2_with (at_mapUpdate; refine wpList_cntZ_update rfl _ _ _ 87 rfl Try.underlying87 Try.underlying5 HM10.out (by unfold maxLen; omega) pk (c + 1) hwk hwc hne rfl rfl rfl ?_; intro w11 hc11 hg11; obtain ⟨q1, q2, q3, q4, q5, q6, q7, q8⟩ := hbeh.out w11 hc11 hg11; obtain ⟨z0, z1, z2, z3⟩ := q3.cells; obtain ⟨t0, t1, _, _⟩ := twoBlk q2; have vs11 := blk_lt q3.blk; have HC11 := Lib.hid hc11; have Q3 := Lib.hid q3; have Q4 := Lib.hid q4; have Q5 := Lib.hid q5; have Q6 := Lib.hid q6; have Q7 := Lib.hid q7; clear hc11 hg11 q2 q3 q4 q5 q6 q7)
          refine (sameE_c false false _ _ (once zs k) (once zs (k + 1)) _ Q3.out.fr.rd Q5.out.fr.rd (by have := HVL.out.2.2; omega) (by rw [← HLN.out]; have := HVL.out.2.2; omega)).mono ?_
          rintro e w12 ⟨rfl, b12⟩
          rw [show decide (false = false ∧ once zs k = once zs (k + 1)) = true from by rw [HON.out]; simp]
          clear z0 z1 z2 z3 t0 t1 q1
          obtain ⟨z0, z1, z2, z3⟩ := (Q3.out.next b12).cells
          obtain ⟨t0, t1, _, _⟩ := (Q5.out.next b12).cells
          have vs12 := blk_lt (Q3.out.next b12).blk
          have ws12 := blk_lt (Q5.out.next b12).blk
          have R3 := Lib.hid (Q3.out.next b12)
          have R4 := Lib.hid (Q4.out.next b12)
          have R6 := Lib.hid (Q6.out.below b12)
          have R7 := Lib.hid (Q7.out.trans (b12.mono Q7.out.size))
          have R11 := Lib.hid (HC11.out.next b12)
          clear b12
          go_wp2_with fail
          go_roundg (n - (k + 1))
          case measure => omega
          case rel =>
            have hvne : w7.heap.size + 1 < w9.heap.size := by omega
            refine ⟨k + 1, by omega, by omega, by go_num, ?_, ?_, ?_, .slice a10 m10 c10, ?_, ?_⟩
            · exact (R7.out.setCell (p := ⟨w7.heap.size + 1, 0, none⟩) (by show _ ≤ w7.heap.size + 1; omega) _).setCell (p := ⟨w7.heap.size + 1, 1, none⟩) (by show _ ≤ w7.heap.size + 1; omega) _
            · exact (R4.out.oth (by omega) R4.out.ap_nil).oth (by omega) R4.out.ap_nil
            · have := R11.out
              rw [← HCQ.out, HCS.out] at this
              rw [if_neg HC0.out, HLN.out] at this
              exact (this.blk (Below.heap_setCell _ _ _ _ (by show _ ≠ w7.heap.size + 1; omega))).blk (Below.heap_setCell _ _ _ _ (by show _ ≠ w7.heap.size + 1; omega))
            · exact R3.out.put R6.out hvne _
            · intro a n' cc hy hn
              have := (fr_ge R6.out hy hn).1
              omega
      · have hltz : ¬ (k : Int) < (n : Int) := by omega
        obtain ⟨a5, m5, c5, rfl, hm5⟩ := fr_shape hV.fr
        obtain ⟨z0, z1, z2, z3⟩ := hV.cells
        have hlen := hM.len Try.underlying87
        rw [← hm5] at hlen
        have hmm2 : ((m5 : Int) == (m5 : Int)) = true := by simp
        have HB := Lib.hid hB
        clear hB hU hM hV hVm A hm5 G
        go_wp2_with fail
        refine (awake25_c _).mono ?_
        rintro e w9 ⟨rfl, b9⟩
        have HB9 := Lib.hid (HB.out.trans (b9.mono HB.out.size))
        clear b9
        go_wp2_with fail
        go_ret
        exact ⟨rfl, HB9.out⟩
end Go.Proofs.Ytglbfmcbojjglaa

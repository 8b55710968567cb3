/-
  BoardCancels: for every list of priorities and every number the call returns true, and nothing that was there before has turned. No conditions but that the list can be read.
-/
import Derived.Test.YtglbfmcbojjglaaBdD
import Derived.Test.YtglbfmcbojjglaaPlainH
import Derived.Deep.DeepCutAuto
namespace Go.Proofs.Ytglbfmcbojjglaa
open Go.RowKit

set_option maxHeartbeats 8000000 in
set_option maxRecDepth 100000 in
theorem boardCancels_c (v : Value) (zs : List Int) (out : Int) (w : World) (h : RdI .u8 w 0 v zs) (hz : ∀ z ∈ zs, 0 ≤ z ∧ z ≤ 255) (hl : zs.length ≤ 9223372036854775807) (ho : 0 ≤ out ∧ out ≤ 255) :
    Calls Try.prog 22 #[v, .int .u8 out] w fun e w' => e = .returned (.bool true) ∧ Below w.heap.size w w' := by
  obtain ⟨ao, ca, rfl, hca, hna, pa⟩ := h.open_
  have HZ := Lib.hid hz
  have HPA := Lib.hid pa
  have ho0 : 0 ≤ out := ho.1
  have ho1 : out ≤ 255 := ho.2
  clear h hz pa ho
  go_enter Try.func22, Try.ntmps22
  go_upto_region 1 with (fail)
  go_cut [0] (fun s0 wx => ∃ n : Nat, s0 = .slice ao n ca ∧ n ≤ 10 ∧ n ≤ zs.length ∧ w = wx)
  case first =>
    by_cases h10 : zs.length ≤ 10
    · have hi : (zs.length : Int) ≤ 10 := by omega
      go_wp2
      go_meet
      exact ⟨zs.length, rfl, h10, Nat.le_refl _, rfl⟩
    · have hi : ¬ (zs.length : Int) ≤ 10 := by omega
      go_wp2
      go_meet
      exact ⟨10, rfl, Nat.le_refl _, by omega, rfl⟩
  case rest =>
    obtain ⟨n, rfl, hn1, hn2, rfl⟩ := hcut
    have hcell : Hid (∀ k (hk : k < n), ∃ b off, ao = some ⟨b, off, none⟩ ∧ b < w.heap.size ∧ w.cell? ⟨b, off + k, none⟩ = some (.int .u8 (zs.getD k 0)) ∧ 0 ≤ zs.getD k 0 ∧ zs.getD k 0 ≤ 255) := fun k hk => by
      obtain ⟨b, off, h1, _, h3, h4⟩ := HPA.out (by omega)
      have h5 : zs.getD k 0 = zs[k]'(by omega) := by simp [List.getD, List.getElem?_eq_getElem (show k < zs.length by omega)]
      rw [h5]
      exact ⟨b, off, h1, h3, h4 k (by omega), HZ.out _ (List.getElem_mem _)⟩
    clear HPA HZ
    by_cases hn0 : n = 0
    · have hq : ((n : Int) == 0) = true := by simp [hn0]
      have hq2 : (n == 0) = true := by simp [hn0]
      clear hn0
      go_wp2_with fail
      refine (awake24_c _).mono ?_
      rintro e w9 ⟨rfl, b9⟩
      have HB9 := Lib.hid b9
      clear b9
      go_wp2_with fail
      go_ret
      exact ⟨rfl, HB9.out⟩
    · have hq : ((n : Int) == 0) = false := by rw [beq_eq_false_iff_ne]; omega
      have hq2 : (n == 0) = false := by rw [beq_eq_false_iff_ne]; omega
      have hn3 : 1 ≤ n := by omega
      obtain ⟨gn, hgn⟩ : ∃ gn : Nat, out % (n : Int) = (gn : Int) := ⟨_, (Int.toNat_of_nonneg (Int.emod_nonneg _ (by omega))).symm⟩
      have hgl : gn < n := by have := Int.emod_lt_of_pos out (show (0 : Int) < n by omega); omega
      clear hn0
      obtain ⟨WX, hWX⟩ : ∃ WX, WX = (((w.alloc (.cells #[.int .i64 1, .slice none 0 0, .slice none 0 0, .slice none 0 0] 125)).alloc (.cells #[.int .i64 1, .slice none 0 0, .slice none 0 0, .slice none 0 0] 125)).alloc (.cells #[.bool false, .int .u8 0, .slice none 0 0] 131)).alloc (.cells #[.bool false, .int .u8 0, .slice none 0 0] 131) := ⟨_, rfl⟩
      have EX : Hid (Below w.heap.size w WX) := by subst hWX; exact ((((Below.refl _ w).alloc (Nat.le_refl _) _).alloc (by simp) _).alloc (by simp; omega) _).alloc (by simp; omega) _
      have A1 : Hid (UB WX w.heap.size 1 (.slice none 0 0) (.slice none 0 0) (.slice none 0 0) [] [] []) := by subst hWX; exact (((UB.new (B := 0) (TyB.nil _ _) (TyW.nil _ _) (TyW.nil _ _)).alloc _).alloc _).alloc _
      have A2 : Hid (UB WX (w.heap.size + 1) 1 (.slice none 0 0) (.slice none 0 0) (.slice none 0 0) [] [] []) := by
        subst hWX
        have := UB.new (n := 1) (B := 0) (W := w.alloc (.cells #[.int .i64 1, .slice none 0 0, .slice none 0 0, .slice none 0 0] 125)) (d := []) (p := []) (q := []) (TyB.nil _ _) (TyW.nil _ _) (TyW.nil _ _)
        rw [heap_alloc_size] at this
        exact (this.alloc _).alloc _
      have A3 : Hid (UD WX (w.heap.size + 1 + 1) false 0 (.slice none 0 0) []) := by
        subst hWX
        have := UD.new (h := false) (x := 0) (B := 0) (W := (w.alloc (.cells #[.int .i64 1, .slice none 0 0, .slice none 0 0, .slice none 0 0] 125)).alloc (.cells #[.int .i64 1, .slice none 0 0, .slice none 0 0, .slice none 0 0] 125)) (l := []) (TyW.nil _ _)
        rw [heap_alloc_size, heap_alloc_size] at this
        exact this.alloc _
      have A4 : Hid (UD WX (w.heap.size + 1 + 1 + 1) false 0 (.slice none 0 0) []) := by
        subst hWX
        have := UD.new (h := false) (x := 0) (B := 0) (W := ((w.alloc (.cells #[.int .i64 1, .slice none 0 0, .slice none 0 0, .slice none 0 0] 125)).alloc (.cells #[.int .i64 1, .slice none 0 0, .slice none 0 0, .slice none 0 0] 125)).alloc (.cells #[.bool false, .int .u8 0, .slice none 0 0] 131)) (l := []) (TyW.nil _ _)
        rw [heap_alloc_size, heap_alloc_size, heap_alloc_size] at this
        exact this
      have HWX := Lib.hid hWX
      clear hWX
      go_wp2_with fail
      rw [← HWX.out, hgn]
      have HGN := Lib.hid hgn
      clear HWX hgn
      go_loopg [10, 11, 12, 13, 42] n (fun gg _ _ _ _ s42 wr => ∃ k : Nat, k ≤ n ∧ n - k ≤ gg ∧ s42 = .int .i64 k ∧ Aside (Below w.heap.size w wr ∧ (∃ vd vp vg, UB wr w.heap.size 1 vd vp vg [] [] (lst zs k)) ∧ (∃ vd vp vg, UB wr (w.heap.size + 1) 1 vd vp vg [] [] (leaveW (lst zs k) gn)) ∧ (∃ v, UD wr (w.heap.size + 1 + 1) false 0 v (lst zs k)) ∧ ∃ v, UD wr (w.heap.size + 1 + 1 + 1) false 0 v (leaveW (lst zs k) gn)))
      case atStart => exact ⟨0, Nat.zero_le _, by omega, rfl, EX.out, ⟨_, _, _, A1.out⟩, ⟨_, _, _, A2.out⟩, ⟨_, A3.out⟩, ⟨_, A4.out⟩⟩
      case round =>
        obtain ⟨k, hk, hg, rfl, A⟩ := hrel
        clear EX A1 A2 A3 A4
        obtain ⟨hE, ⟨vd1, vp1, vg1, h1⟩, ⟨vd2, vp2, vg2, h2⟩, ⟨v3, h3⟩, v4, h4⟩ := A.out
        obtain ⟨_, _, _, rfl⟩ := Ty.shape3 h1.td
        obtain ⟨_, _, _, rfl⟩ := Ty.shape3 h1.tp
        obtain ⟨_, _, _, rfl⟩ := Ty.shape3 h1.tg
        obtain ⟨_, _, _, rfl⟩ := Ty.shape3 h2.td
        obtain ⟨_, _, _, rfl⟩ := Ty.shape3 h2.tp
        obtain ⟨_, _, _, rfl⟩ := Ty.shape3 h2.tg
        obtain ⟨_, _, _, rfl⟩ := Ty.shape3 h3.tw
        obtain ⟨_, _, _, rfl⟩ := Ty.shape3 h4.tw
        have E0 := Lib.hid hE
        have aa0 := Lib.hid h1
        have ss0 := Lib.hid h2
        have ll0 := Lib.hid h3
        have ff0 := Lib.hid h4
        clear A h1 h2 h3 h4
        have GW : Hid (WfW (lst zs k) ∧ (lst zs k).length ≤ 40000) := ⟨(good_lst zs k).wf (by omega), by rw [(good_lst zs k).len]; omega⟩
        have GV : Hid (WfW (leaveW (lst zs k) gn) ∧ (leaveW (lst zs k) gn).length ≤ 40000) := ⟨leave_wf zs gn (by omega), by have := leave_len zs gn k; omega⟩
        have GX : Hid ((leaveW (lst zs k) gn).length ≤ 90000 ∧ (lst zs k).length ≤ 90000) := ⟨by have := leave_len zs gn k; omega, by rw [(good_lst zs k).len]; omega⟩
        by_cases hlt : k < n
        · have hltz : (k : Int) < (n : Int) := by omega
          obtain ⟨b, off, rfl, hbs, y0, hp0, hp1⟩ := hcell.out k hlt
          rw [← hE.cell (p := ⟨b, _, none⟩) hbs] at y0
          have hbw : b < wr.heap.size := Nat.lt_of_lt_of_le hbs hE.size
          have HGB := Lib.hid (getBu_lst zs k)
          have HLB := Lib.hid (lookBd_lst zs k)
          clear hE
          by_cases hkg : k = gn
          · have e1 : ((k : Int) != (gn : Int)) = false := by simp [hkg]
            have e2 : (k != gn) = false := by simp [hkg]
            have HEQ : Hid (leaveW (lst zs k) gn = leaveW (lst zs (k + 1)) gn) := by show _ = _; rw [leave_lst, if_pos hkg]
            clear hkg
            generalize zs.getD k 0 = pk at y0 hp0 hp1 HGB HLB
            obtain ⟨aax0, aax1, aax2, aax3, aax4, aax5, aax6, aax7⟩ := fourBlk (aa0.out).blk
            have aaxb := blk_lt (aa0.out).blk
            obtain ⟨ssx0, ssx1, ssx2, ssx3, ssx4, ssx5, ssx6, ssx7⟩ := fourBlk (ss0.out).blk
            have ssxb := blk_lt (ss0.out).blk
            obtain ⟨llx0, llx1, llx2, llx3, llx4, llx5⟩ := threeBlk (ll0.out).blk
            have llxb := blk_lt (ll0.out).blk
            obtain ⟨ffx0, ffx1, ffx2, ffx3, ffx4, ffx5⟩ := threeBlk (ff0.out).blk
            have ffxb := blk_lt (ff0.out).blk
            go_wp2_with fail
            have h1 := getBu_c 1 k pk _ _ _ [] [] (lst zs k) _ aa0.out.td.rd aa0.out.tp.rd aa0.out.tg.rd (by unfold WfW; decide) GW.out.1 (by decide) (by decide) GW.out.2
            rw [HGB.out] at h1
            refine h1.mono ?_
            clear h1
            rintro e w1 ⟨vd1, vp1, vg1, rfl, td1, tp1, tg1, b1⟩
            obtain ⟨da1, dm1, dc1, rfl⟩ := Ty.shape3 td1
            obtain ⟨pa1, pm1, pc1, rfl⟩ := Ty.shape3 tp1
            obtain ⟨ga1, gm1, gc1, rfl⟩ := Ty.shape3 tg1
            clear aax0 aax1 aax2 aax3 aax4 aax5 aax6 aax7 aaxb ssx0 ssx1 ssx2 ssx3 ssx4 ssx5 ssx6 ssx7 ssxb llx0 llx1 llx2 llx3 llx4 llx5 llxb ffx0 ffx1 ffx2 ffx3 ffx4 ffx5 ffxb
            obtain ⟨aax0, aax1, aax2, aax3, aax4, aax5, aax6, aax7⟩ := fourBlk (aa0.out.next b1).blk
            have aaxb := blk_lt (aa0.out.next b1).blk
            obtain ⟨ssx0, ssx1, ssx2, ssx3, ssx4, ssx5, ssx6, ssx7⟩ := fourBlk (ss0.out.next b1).blk
            have ssxb := blk_lt (ss0.out.next b1).blk
            obtain ⟨llx0, llx1, llx2, llx3, llx4, llx5⟩ := threeBlk (ll0.out.next b1).blk
            have llxb := blk_lt (ll0.out.next b1).blk
            obtain ⟨ffx0, ffx1, ffx2, ffx3, ffx4, ffx5⟩ := threeBlk (ff0.out.next b1).blk
            have ffxb := blk_lt (ff0.out.next b1).blk
            have aa1 := Lib.hid ((aa0.out.next b1).put td1 tp1 tg1 1)
            have ss1 := Lib.hid ((ss0.out.next b1).far4 (aa0.out.next b1).blk (by omega) (.int .i64 1) (.slice da1 dm1 dc1) (.slice pa1 pm1 pc1) (.slice ga1 gm1 gc1))
            have ll1 := Lib.hid ((ll0.out.next b1).far4 (aa0.out.next b1).blk (by omega) (.int .i64 1) (.slice da1 dm1 dc1) (.slice pa1 pm1 pc1) (.slice ga1 gm1 gc1))
            have ff1 := Lib.hid ((ff0.out.next b1).far4 (aa0.out.next b1).blk (by omega) (.int .i64 1) (.slice da1 dm1 dc1) (.slice pa1 pm1 pc1) (.slice ga1 gm1 gc1))
            have z1 := E0.out.trans (b1.mono E0.out.size)
            have E1 := Lib.hid (put4_below (g := w.heap.size) z1 (by omega) (.int .i64 1) (.slice da1 dm1 dc1) (.slice pa1 pm1 pc1) (.slice ga1 gm1 gc1))
            clear td1 tp1 tg1 b1 z1 E0 aa0 ss0 ll0 ff0
            go_wp2_with fail
            have h2 := lookBd_c false 0 k pk _ (lst zs k) _ ll1.out.tw.rd GW.out.1 GX.out.2
            rw [HLB.out] at h2
            refine h2.mono ?_
            clear h2
            rintro e w2 ⟨vw2, rfl, tw2, b2⟩
            obtain ⟨wa2, wm2, wc2, rfl⟩ := Ty.shape3 tw2
            clear aax0 aax1 aax2 aax3 aax4 aax5 aax6 aax7 aaxb ssx0 ssx1 ssx2 ssx3 ssx4 ssx5 ssx6 ssx7 ssxb llx0 llx1 llx2 llx3 llx4 llx5 llxb ffx0 ffx1 ffx2 ffx3 ffx4 ffx5 ffxb
            obtain ⟨aax0, aax1, aax2, aax3, aax4, aax5, aax6, aax7⟩ := fourBlk (aa1.out.next b2).blk
            have aaxb := blk_lt (aa1.out.next b2).blk
            obtain ⟨ssx0, ssx1, ssx2, ssx3, ssx4, ssx5, ssx6, ssx7⟩ := fourBlk (ss1.out.next b2).blk
            have ssxb := blk_lt (ss1.out.next b2).blk
            obtain ⟨llx0, llx1, llx2, llx3, llx4, llx5⟩ := threeBlk (ll1.out.next b2).blk
            have llxb := blk_lt (ll1.out.next b2).blk
            obtain ⟨ffx0, ffx1, ffx2, ffx3, ffx4, ffx5⟩ := threeBlk (ff1.out.next b2).blk
            have ffxb := blk_lt (ff1.out.next b2).blk
            have aa2 := Lib.hid ((aa1.out.next b2).far3 (ll1.out.next b2).blk (by omega) (.bool false) (.int .u8 0) (.slice wa2 wm2 wc2))
            have ss2 := Lib.hid ((ss1.out.next b2).far3 (ll1.out.next b2).blk (by omega) (.bool false) (.int .u8 0) (.slice wa2 wm2 wc2))
            have ll2 := Lib.hid ((ll1.out.next b2).put tw2 false 0)
            have ff2 := Lib.hid ((ff1.out.next b2).far3 (ll1.out.next b2).blk (by omega) (.bool false) (.int .u8 0) (.slice wa2 wm2 wc2))
            have z2 := E1.out.trans (b2.mono E1.out.size)
            have E2 := Lib.hid (putD_below (g := (w.heap.size + 1 + 1)) z2 (by omega) (.bool false) (.int .u8 0) (.slice wa2 wm2 wc2))
            clear tw2 b2 z2 E1 aa1 ss1 ll1 ff1
            go_wp2_with fail
            go_roundg (n - (k + 1))
            case measure => omega
            case rel =>
              exact ⟨k + 1, by omega, by omega, by go_num, E2.out, ⟨_, _, _, aa2.out⟩, ⟨_, _, _, HEQ.out ▸ ss2.out⟩, ⟨_, ll2.out⟩, ⟨_, HEQ.out ▸ ff2.out⟩⟩
          · have e1 : ((k : Int) != (gn : Int)) = true := by rw [bne_iff_ne]; omega
            have e2 : (k != gn) = true := by rw [bne_iff_ne]; omega
            have HGV := Lib.hid (getBu_leave zs gn k (by omega) hkg)
            have HLV := Lib.hid (lookBd_leave zs gn k (by omega) hkg)
            clear hkg
            generalize zs.getD k 0 = pk at y0 hp0 hp1 HGB HLB HGV HLV
            obtain ⟨aax0, aax1, aax2, aax3, aax4, aax5, aax6, aax7⟩ := fourBlk (aa0.out).blk
            have aaxb := blk_lt (aa0.out).blk
            obtain ⟨ssx0, ssx1, ssx2, ssx3, ssx4, ssx5, ssx6, ssx7⟩ := fourBlk (ss0.out).blk
            have ssxb := blk_lt (ss0.out).blk
            obtain ⟨llx0, llx1, llx2, llx3, llx4, llx5⟩ := threeBlk (ll0.out).blk
            have llxb := blk_lt (ll0.out).blk
            obtain ⟨ffx0, ffx1, ffx2, ffx3, ffx4, ffx5⟩ := threeBlk (ff0.out).blk
            have ffxb := blk_lt (ff0.out).blk
            go_wp2_with fail
            have h1 := getBu_c 1 k pk _ _ _ [] [] (lst zs k) _ aa0.out.td.rd aa0.out.tp.rd aa0.out.tg.rd (by unfold WfW; decide) GW.out.1 (by decide) (by decide) GW.out.2
            rw [HGB.out] at h1
            refine h1.mono ?_
            clear h1
            rintro e w1 ⟨vd1, vp1, vg1, rfl, td1, tp1, tg1, b1⟩
            obtain ⟨da1, dm1, dc1, rfl⟩ := Ty.shape3 td1
            obtain ⟨pa1, pm1, pc1, rfl⟩ := Ty.shape3 tp1
            obtain ⟨ga1, gm1, gc1, rfl⟩ := Ty.shape3 tg1
            clear aax0 aax1 aax2 aax3 aax4 aax5 aax6 aax7 aaxb ssx0 ssx1 ssx2 ssx3 ssx4 ssx5 ssx6 ssx7 ssxb llx0 llx1 llx2 llx3 llx4 llx5 llxb ffx0 ffx1 ffx2 ffx3 ffx4 ffx5 ffxb
            obtain ⟨aax0, aax1, aax2, aax3, aax4, aax5, aax6, aax7⟩ := fourBlk (aa0.out.next b1).blk
            have aaxb := blk_lt (aa0.out.next b1).blk
            obtain ⟨ssx0, ssx1, ssx2, ssx3, ssx4, ssx5, ssx6, ssx7⟩ := fourBlk (ss0.out.next b1).blk
            have ssxb := blk_lt (ss0.out.next b1).blk
            obtain ⟨llx0, llx1, llx2, llx3, llx4, llx5⟩ := threeBlk (ll0.out.next b1).blk
            have llxb := blk_lt (ll0.out.next b1).blk
            obtain ⟨ffx0, ffx1, ffx2, ffx3, ffx4, ffx5⟩ := threeBlk (ff0.out.next b1).blk
            have ffxb := blk_lt (ff0.out.next b1).blk
            have aa1 := Lib.hid ((aa0.out.next b1).put td1 tp1 tg1 1)
            have ss1 := Lib.hid ((ss0.out.next b1).far4 (aa0.out.next b1).blk (by omega) (.int .i64 1) (.slice da1 dm1 dc1) (.slice pa1 pm1 pc1) (.slice ga1 gm1 gc1))
            have ll1 := Lib.hid ((ll0.out.next b1).far4 (aa0.out.next b1).blk (by omega) (.int .i64 1) (.slice da1 dm1 dc1) (.slice pa1 pm1 pc1) (.slice ga1 gm1 gc1))
            have ff1 := Lib.hid ((ff0.out.next b1).far4 (aa0.out.next b1).blk (by omega) (.int .i64 1) (.slice da1 dm1 dc1) (.slice pa1 pm1 pc1) (.slice ga1 gm1 gc1))
            have z1 := E0.out.trans (b1.mono E0.out.size)
            have E1 := Lib.hid (put4_below (g := w.heap.size) z1 (by omega) (.int .i64 1) (.slice da1 dm1 dc1) (.slice pa1 pm1 pc1) (.slice ga1 gm1 gc1))
            clear td1 tp1 tg1 b1 z1 E0 aa0 ss0 ll0 ff0
            go_wp2_with fail
            have h2 := lookBd_c false 0 k pk _ (lst zs k) _ ll1.out.tw.rd GW.out.1 GX.out.2
            rw [HLB.out] at h2
            refine h2.mono ?_
            clear h2
            rintro e w2 ⟨vw2, rfl, tw2, b2⟩
            obtain ⟨wa2, wm2, wc2, rfl⟩ := Ty.shape3 tw2
            clear aax0 aax1 aax2 aax3 aax4 aax5 aax6 aax7 aaxb ssx0 ssx1 ssx2 ssx3 ssx4 ssx5 ssx6 ssx7 ssxb llx0 llx1 llx2 llx3 llx4 llx5 llxb ffx0 ffx1 ffx2 ffx3 ffx4 ffx5 ffxb
            obtain ⟨aax0, aax1, aax2, aax3, aax4, aax5, aax6, aax7⟩ := fourBlk (aa1.out.next b2).blk
            have aaxb := blk_lt (aa1.out.next b2).blk
            obtain ⟨ssx0, ssx1, ssx2, ssx3, ssx4, ssx5, ssx6, ssx7⟩ := fourBlk (ss1.out.next b2).blk
            have ssxb := blk_lt (ss1.out.next b2).blk
            obtain ⟨llx0, llx1, llx2, llx3, llx4, llx5⟩ := threeBlk (ll1.out.next b2).blk
            have llxb := blk_lt (ll1.out.next b2).blk
            obtain ⟨ffx0, ffx1, ffx2, ffx3, ffx4, ffx5⟩ := threeBlk (ff1.out.next b2).blk
            have ffxb := blk_lt (ff1.out.next b2).blk
            have aa2 := Lib.hid ((aa1.out.next b2).far3 (ll1.out.next b2).blk (by omega) (.bool false) (.int .u8 0) (.slice wa2 wm2 wc2))
            have ss2 := Lib.hid ((ss1.out.next b2).far3 (ll1.out.next b2).blk (by omega) (.bool false) (.int .u8 0) (.slice wa2 wm2 wc2))
            have ll2 := Lib.hid ((ll1.out.next b2).put tw2 false 0)
            have ff2 := Lib.hid ((ff1.out.next b2).far3 (ll1.out.next b2).blk (by omega) (.bool false) (.int .u8 0) (.slice wa2 wm2 wc2))
            have z2 := E1.out.trans (b2.mono E1.out.size)
            have E2 := Lib.hid (putD_below (g := (w.heap.size + 1 + 1)) z2 (by omega) (.bool false) (.int .u8 0) (.slice wa2 wm2 wc2))
            clear tw2 b2 z2 E1 aa1 ss1 ll1 ff1
            go_wp2_with fail
            have h3 := getBu_c 1 k pk _ _ _ [] [] (leaveW (lst zs k) gn) _ ss2.out.td.rd ss2.out.tp.rd ss2.out.tg.rd (by unfold WfW; decide) GV.out.1 (by decide) (by decide) GV.out.2
            rw [HGV.out] at h3
            refine h3.mono ?_
            clear h3
            rintro e w3 ⟨vd3, vp3, vg3, rfl, td3, tp3, tg3, b3⟩
            obtain ⟨da3, dm3, dc3, rfl⟩ := Ty.shape3 td3
            obtain ⟨pa3, pm3, pc3, rfl⟩ := Ty.shape3 tp3
            obtain ⟨ga3, gm3, gc3, rfl⟩ := Ty.shape3 tg3
            clear aax0 aax1 aax2 aax3 aax4 aax5 aax6 aax7 aaxb ssx0 ssx1 ssx2 ssx3 ssx4 ssx5 ssx6 ssx7 ssxb llx0 llx1 llx2 llx3 llx4 llx5 llxb ffx0 ffx1 ffx2 ffx3 ffx4 ffx5 ffxb
            obtain ⟨aax0, aax1, aax2, aax3, aax4, aax5, aax6, aax7⟩ := fourBlk (aa2.out.next b3).blk
            have aaxb := blk_lt (aa2.out.next b3).blk
            obtain ⟨ssx0, ssx1, ssx2, ssx3, ssx4, ssx5, ssx6, ssx7⟩ := fourBlk (ss2.out.next b3).blk
            have ssxb := blk_lt (ss2.out.next b3).blk
            obtain ⟨llx0, llx1, llx2, llx3, llx4, llx5⟩ := threeBlk (ll2.out.next b3).blk
            have llxb := blk_lt (ll2.out.next b3).blk
            obtain ⟨ffx0, ffx1, ffx2, ffx3, ffx4, ffx5⟩ := threeBlk (ff2.out.next b3).blk
            have ffxb := blk_lt (ff2.out.next b3).blk
            have aa3 := Lib.hid ((aa2.out.next b3).far4 (ss2.out.next b3).blk (by omega) (.int .i64 1) (.slice da3 dm3 dc3) (.slice pa3 pm3 pc3) (.slice ga3 gm3 gc3))
            have ss3 := Lib.hid ((ss2.out.next b3).put td3 tp3 tg3 1)
            have ll3 := Lib.hid ((ll2.out.next b3).far4 (ss2.out.next b3).blk (by omega) (.int .i64 1) (.slice da3 dm3 dc3) (.slice pa3 pm3 pc3) (.slice ga3 gm3 gc3))
            have ff3 := Lib.hid ((ff2.out.next b3).far4 (ss2.out.next b3).blk (by omega) (.int .i64 1) (.slice da3 dm3 dc3) (.slice pa3 pm3 pc3) (.slice ga3 gm3 gc3))
            have z3 := E2.out.trans (b3.mono E2.out.size)
            have E3 := Lib.hid (put4_below (g := (w.heap.size + 1)) z3 (by omega) (.int .i64 1) (.slice da3 dm3 dc3) (.slice pa3 pm3 pc3) (.slice ga3 gm3 gc3))
            clear td3 tp3 tg3 b3 z3 E2 aa2 ss2 ll2 ff2
            go_wp2_with fail
            have h4 := lookBd_c false 0 k pk _ (leaveW (lst zs k) gn) _ ff3.out.tw.rd GV.out.1 GX.out.1
            rw [HLV.out] at h4
            refine h4.mono ?_
            clear h4
            rintro e w4 ⟨vw4, rfl, tw4, b4⟩
            obtain ⟨wa4, wm4, wc4, rfl⟩ := Ty.shape3 tw4
            clear aax0 aax1 aax2 aax3 aax4 aax5 aax6 aax7 aaxb ssx0 ssx1 ssx2 ssx3 ssx4 ssx5 ssx6 ssx7 ssxb llx0 llx1 llx2 llx3 llx4 llx5 llxb ffx0 ffx1 ffx2 ffx3 ffx4 ffx5 ffxb
            obtain ⟨aax0, aax1, aax2, aax3, aax4, aax5, aax6, aax7⟩ := fourBlk (aa3.out.next b4).blk
            have aaxb := blk_lt (aa3.out.next b4).blk
            obtain ⟨ssx0, ssx1, ssx2, ssx3, ssx4, ssx5, ssx6, ssx7⟩ := fourBlk (ss3.out.next b4).blk
            have ssxb := blk_lt (ss3.out.next b4).blk
            obtain ⟨llx0, llx1, llx2, llx3, llx4, llx5⟩ := threeBlk (ll3.out.next b4).blk
            have llxb := blk_lt (ll3.out.next b4).blk
            obtain ⟨ffx0, ffx1, ffx2, ffx3, ffx4, ffx5⟩ := threeBlk (ff3.out.next b4).blk
            have ffxb := blk_lt (ff3.out.next b4).blk
            have aa4 := Lib.hid ((aa3.out.next b4).far3 (ff3.out.next b4).blk (by omega) (.bool false) (.int .u8 0) (.slice wa4 wm4 wc4))
            have ss4 := Lib.hid ((ss3.out.next b4).far3 (ff3.out.next b4).blk (by omega) (.bool false) (.int .u8 0) (.slice wa4 wm4 wc4))
            have ll4 := Lib.hid ((ll3.out.next b4).far3 (ff3.out.next b4).blk (by omega) (.bool false) (.int .u8 0) (.slice wa4 wm4 wc4))
            have ff4 := Lib.hid ((ff3.out.next b4).put tw4 false 0)
            have z4 := E3.out.trans (b4.mono E3.out.size)
            have E4 := Lib.hid (putD_below (g := (w.heap.size + 1 + 1 + 1)) z4 (by omega) (.bool false) (.int .u8 0) (.slice wa4 wm4 wc4))
            clear tw4 b4 z4 E3 aa3 ss3 ll3 ff3
            go_wp2_with fail
            go_roundg (n - (k + 1))
            case measure => omega
            case rel =>
              exact ⟨k + 1, by omega, by omega, by go_num, E4.out, ⟨_, _, _, aa4.out⟩, ⟨_, _, _, ss4.out⟩, ⟨_, ll4.out⟩, ⟨_, ff4.out⟩⟩
        · have hltz : ¬ (k : Int) < (n : Int) := by omega
          obtain rfl : k = n := by omega
          clear hlt hg hE
          obtain ⟨aax0, aax1, aax2, aax3, aax4, aax5, aax6, aax7⟩ := fourBlk (aa0.out).blk
          have aaxb := blk_lt (aa0.out).blk
          obtain ⟨ssx0, ssx1, ssx2, ssx3, ssx4, ssx5, ssx6, ssx7⟩ := fourBlk (ss0.out).blk
          have ssxb := blk_lt (ss0.out).blk
          obtain ⟨llx0, llx1, llx2, llx3, llx4, llx5⟩ := threeBlk (ll0.out).blk
          have llxb := blk_lt (ll0.out).blk
          obtain ⟨ffx0, ffx1, ffx2, ffx3, ffx4, ffx5⟩ := threeBlk (ff0.out).blk
          have ffxb := blk_lt (ff0.out).blk
          go_wp2_with fail
          have h1 := cancBu_c 1 gn _ _ _ [] [] (lst zs k) _ aa0.out.td.rd aa0.out.tp.rd aa0.out.tg.rd (by unfold WfW; decide) GW.out.1 (by decide) (by decide) GW.out.2
          rw [cancBu_lst zs gn k] at h1
          refine h1.mono ?_
          clear h1
          rintro e w1 ⟨vd1, vp1, vg1, rfl, td1, tp1, tg1, b1⟩
          obtain ⟨da1, dm1, dc1, rfl⟩ := Ty.shape3 td1
          obtain ⟨pa1, pm1, pc1, rfl⟩ := Ty.shape3 tp1
          obtain ⟨ga1, gm1, gc1, rfl⟩ := Ty.shape3 tg1
          clear aax0 aax1 aax2 aax3 aax4 aax5 aax6 aax7 aaxb ssx0 ssx1 ssx2 ssx3 ssx4 ssx5 ssx6 ssx7 ssxb llx0 llx1 llx2 llx3 llx4 llx5 llxb ffx0 ffx1 ffx2 ffx3 ffx4 ffx5 ffxb
          obtain ⟨aax0, aax1, aax2, aax3, aax4, aax5, aax6, aax7⟩ := fourBlk (aa0.out.next b1).blk
          have aaxb := blk_lt (aa0.out.next b1).blk
          obtain ⟨ssx0, ssx1, ssx2, ssx3, ssx4, ssx5, ssx6, ssx7⟩ := fourBlk (ss0.out.next b1).blk
          have ssxb := blk_lt (ss0.out.next b1).blk
          obtain ⟨llx0, llx1, llx2, llx3, llx4, llx5⟩ := threeBlk (ll0.out.next b1).blk
          have llxb := blk_lt (ll0.out.next b1).blk
          obtain ⟨ffx0, ffx1, ffx2, ffx3, ffx4, ffx5⟩ := threeBlk (ff0.out.next b1).blk
          have ffxb := blk_lt (ff0.out.next b1).blk
          have aa1 := Lib.hid ((aa0.out.next b1).alloc (.cells #[.int .i64 1, .slice da1 dm1 dc1, .slice pa1 pm1 pc1, .slice ga1 gm1 gc1] 125))
          have ss1 := Lib.hid ((ss0.out.next b1).alloc (.cells #[.int .i64 1, .slice da1 dm1 dc1, .slice pa1 pm1 pc1, .slice ga1 gm1 gc1] 125))
          have ll1 := Lib.hid ((ll0.out.next b1).alloc (.cells #[.int .i64 1, .slice da1 dm1 dc1, .slice pa1 pm1 pc1, .slice ga1 gm1 gc1] 125))
          have ff1 := Lib.hid ((ff0.out.next b1).alloc (.cells #[.int .i64 1, .slice da1 dm1 dc1, .slice pa1 pm1 pc1, .slice ga1 gm1 gc1] 125))
          have ca1 := Lib.hid (UB.new (n := 1) td1 tp1 tg1)
          have z1 := E0.out.trans (b1.mono E0.out.size)
          have E1 := Lib.hid (z1.alloc z1.size (.cells #[.int .i64 1, .slice da1 dm1 dc1, .slice pa1 pm1 pc1, .slice ga1 gm1 gc1] 125))
          have geca : w.heap.size ≤ w1.heap.size := z1.size
          have naaca : w.heap.size ≠ w1.heap.size := Nat.ne_of_lt aaxb
          have ncaaa : w1.heap.size ≠ w.heap.size := Nat.ne_of_gt aaxb
          have nssca : (w.heap.size + 1) ≠ w1.heap.size := Nat.ne_of_lt ssxb
          have ncass : w1.heap.size ≠ (w.heap.size + 1) := Nat.ne_of_gt ssxb
          have nllca : (w.heap.size + 1 + 1) ≠ w1.heap.size := Nat.ne_of_lt llxb
          have ncall : w1.heap.size ≠ (w.heap.size + 1 + 1) := Nat.ne_of_gt llxb
          have nffca : (w.heap.size + 1 + 1 + 1) ≠ w1.heap.size := Nat.ne_of_lt ffxb
          have ncaff : w1.heap.size ≠ (w.heap.size + 1 + 1 + 1) := Nat.ne_of_gt ffxb
          clear td1 tp1 tg1 b1 z1 E0 aa0 ss0 ll0 ff0
          go_wp2_with fail
          have h2 := cancBu_c 1 gn _ _ _ [] [] (leaveW (lst zs k) gn) _ ca1.out.td.rd ca1.out.tp.rd ca1.out.tg.rd (by unfold WfW; decide) GV.out.1 (by decide) (by decide) GV.out.2
          rw [cancBu_leave zs gn k] at h2
          refine h2.mono ?_
          clear h2
          rintro e w2 ⟨vd2, vp2, vg2, rfl, td2, tp2, tg2, b2⟩
          obtain ⟨da2, dm2, dc2, rfl⟩ := Ty.shape3 td2
          obtain ⟨pa2, pm2, pc2, rfl⟩ := Ty.shape3 tp2
          obtain ⟨ga2, gm2, gc2, rfl⟩ := Ty.shape3 tg2
          clear aax0 aax1 aax2 aax3 aax4 aax5 aax6 aax7 aaxb ssx0 ssx1 ssx2 ssx3 ssx4 ssx5 ssx6 ssx7 ssxb llx0 llx1 llx2 llx3 llx4 llx5 llxb ffx0 ffx1 ffx2 ffx3 ffx4 ffx5 ffxb
          obtain ⟨aax0, aax1, aax2, aax3, aax4, aax5, aax6, aax7⟩ := fourBlk (aa1.out.next b2).blk
          have aaxb := blk_lt (aa1.out.next b2).blk
          obtain ⟨ssx0, ssx1, ssx2, ssx3, ssx4, ssx5, ssx6, ssx7⟩ := fourBlk (ss1.out.next b2).blk
          have ssxb := blk_lt (ss1.out.next b2).blk
          obtain ⟨llx0, llx1, llx2, llx3, llx4, llx5⟩ := threeBlk (ll1.out.next b2).blk
          have llxb := blk_lt (ll1.out.next b2).blk
          obtain ⟨ffx0, ffx1, ffx2, ffx3, ffx4, ffx5⟩ := threeBlk (ff1.out.next b2).blk
          have ffxb := blk_lt (ff1.out.next b2).blk
          obtain ⟨cax0, cax1, cax2, cax3, cax4, cax5, cax6, cax7⟩ := fourBlk (ca1.out.next b2).blk
          have caxb := blk_lt (ca1.out.next b2).blk
          have aa2 := Lib.hid ((aa1.out.next b2).alloc (.cells #[.int .i64 1, .slice da2 dm2 dc2, .slice pa2 pm2 pc2, .slice ga2 gm2 gc2] 125))
          have ss2 := Lib.hid ((ss1.out.next b2).alloc (.cells #[.int .i64 1, .slice da2 dm2 dc2, .slice pa2 pm2 pc2, .slice ga2 gm2 gc2] 125))
          have ll2 := Lib.hid ((ll1.out.next b2).alloc (.cells #[.int .i64 1, .slice da2 dm2 dc2, .slice pa2 pm2 pc2, .slice ga2 gm2 gc2] 125))
          have ff2 := Lib.hid ((ff1.out.next b2).alloc (.cells #[.int .i64 1, .slice da2 dm2 dc2, .slice pa2 pm2 pc2, .slice ga2 gm2 gc2] 125))
          have ca2 := Lib.hid ((ca1.out.next b2).alloc (.cells #[.int .i64 1, .slice da2 dm2 dc2, .slice pa2 pm2 pc2, .slice ga2 gm2 gc2] 125))
          have cb2 := Lib.hid (UB.new (n := 1) td2 tp2 tg2)
          have z2 := E1.out.trans (b2.mono E1.out.size)
          have E2 := Lib.hid (z2.alloc z2.size (.cells #[.int .i64 1, .slice da2 dm2 dc2, .slice pa2 pm2 pc2, .slice ga2 gm2 gc2] 125))
          have gecb : w.heap.size ≤ w2.heap.size := z2.size
          have naacb : w.heap.size ≠ w2.heap.size := Nat.ne_of_lt aaxb
          have ncbaa : w2.heap.size ≠ w.heap.size := Nat.ne_of_gt aaxb
          have nsscb : (w.heap.size + 1) ≠ w2.heap.size := Nat.ne_of_lt ssxb
          have ncbss : w2.heap.size ≠ (w.heap.size + 1) := Nat.ne_of_gt ssxb
          have nllcb : (w.heap.size + 1 + 1) ≠ w2.heap.size := Nat.ne_of_lt llxb
          have ncbll : w2.heap.size ≠ (w.heap.size + 1 + 1) := Nat.ne_of_gt llxb
          have nffcb : (w.heap.size + 1 + 1 + 1) ≠ w2.heap.size := Nat.ne_of_lt ffxb
          have ncbff : w2.heap.size ≠ (w.heap.size + 1 + 1 + 1) := Nat.ne_of_gt ffxb
          have ncacb : w1.heap.size ≠ w2.heap.size := Nat.ne_of_lt caxb
          have ncbca : w2.heap.size ≠ w1.heap.size := Nat.ne_of_gt caxb
          clear td2 tp2 tg2 b2 z2 E1 aa1 ss1 ll1 ff1 ca1
          go_wp2_with fail
          have h3 := cancBd_c false 0 gn _ (lst zs k) _ ll2.out.tw.rd GW.out.1 GX.out.2
          rw [cancBd_lst zs gn k] at h3
          refine h3.mono ?_
          clear h3
          rintro e w3 ⟨vw3, rfl, tw3, b3⟩
          obtain ⟨wa3, wm3, wc3, rfl⟩ := Ty.shape3 tw3
          clear aax0 aax1 aax2 aax3 aax4 aax5 aax6 aax7 aaxb ssx0 ssx1 ssx2 ssx3 ssx4 ssx5 ssx6 ssx7 ssxb llx0 llx1 llx2 llx3 llx4 llx5 llxb ffx0 ffx1 ffx2 ffx3 ffx4 ffx5 ffxb cax0 cax1 cax2 cax3 cax4 cax5 cax6 cax7 caxb
          obtain ⟨aax0, aax1, aax2, aax3, aax4, aax5, aax6, aax7⟩ := fourBlk (aa2.out.next b3).blk
          have aaxb := blk_lt (aa2.out.next b3).blk
          obtain ⟨ssx0, ssx1, ssx2, ssx3, ssx4, ssx5, ssx6, ssx7⟩ := fourBlk (ss2.out.next b3).blk
          have ssxb := blk_lt (ss2.out.next b3).blk
          obtain ⟨llx0, llx1, llx2, llx3, llx4, llx5⟩ := threeBlk (ll2.out.next b3).blk
          have llxb := blk_lt (ll2.out.next b3).blk
          obtain ⟨ffx0, ffx1, ffx2, ffx3, ffx4, ffx5⟩ := threeBlk (ff2.out.next b3).blk
          have ffxb := blk_lt (ff2.out.next b3).blk
          obtain ⟨cax0, cax1, cax2, cax3, cax4, cax5, cax6, cax7⟩ := fourBlk (ca2.out.next b3).blk
          have caxb := blk_lt (ca2.out.next b3).blk
          obtain ⟨cbx0, cbx1, cbx2, cbx3, cbx4, cbx5, cbx6, cbx7⟩ := fourBlk (cb2.out.next b3).blk
          have cbxb := blk_lt (cb2.out.next b3).blk
          have aa3 := Lib.hid ((aa2.out.next b3).alloc (.cells #[.bool false, .int .u8 0, .slice wa3 wm3 wc3] 131))
          have ss3 := Lib.hid ((ss2.out.next b3).alloc (.cells #[.bool false, .int .u8 0, .slice wa3 wm3 wc3] 131))
          have ll3 := Lib.hid ((ll2.out.next b3).alloc (.cells #[.bool false, .int .u8 0, .slice wa3 wm3 wc3] 131))
          have ff3 := Lib.hid ((ff2.out.next b3).alloc (.cells #[.bool false, .int .u8 0, .slice wa3 wm3 wc3] 131))
          have ca3 := Lib.hid ((ca2.out.next b3).alloc (.cells #[.bool false, .int .u8 0, .slice wa3 wm3 wc3] 131))
          have cb3 := Lib.hid ((cb2.out.next b3).alloc (.cells #[.bool false, .int .u8 0, .slice wa3 wm3 wc3] 131))
          have cc3 := Lib.hid (UD.new (h := false) (x := 0) tw3)
          have z3 := E2.out.trans (b3.mono E2.out.size)
          have E3 := Lib.hid (z3.alloc z3.size (.cells #[.bool false, .int .u8 0, .slice wa3 wm3 wc3] 131))
          have gecc : w.heap.size ≤ w3.heap.size := z3.size
          have naacc : w.heap.size ≠ w3.heap.size := Nat.ne_of_lt aaxb
          have nccaa : w3.heap.size ≠ w.heap.size := Nat.ne_of_gt aaxb
          have nsscc : (w.heap.size + 1) ≠ w3.heap.size := Nat.ne_of_lt ssxb
          have nccss : w3.heap.size ≠ (w.heap.size + 1) := Nat.ne_of_gt ssxb
          have nllcc : (w.heap.size + 1 + 1) ≠ w3.heap.size := Nat.ne_of_lt llxb
          have nccll : w3.heap.size ≠ (w.heap.size + 1 + 1) := Nat.ne_of_gt llxb
          have nffcc : (w.heap.size + 1 + 1 + 1) ≠ w3.heap.size := Nat.ne_of_lt ffxb
          have nccff : w3.heap.size ≠ (w.heap.size + 1 + 1 + 1) := Nat.ne_of_gt ffxb
          have ncacc : w1.heap.size ≠ w3.heap.size := Nat.ne_of_lt caxb
          have nccca : w3.heap.size ≠ w1.heap.size := Nat.ne_of_gt caxb
          have ncbcc : w2.heap.size ≠ w3.heap.size := Nat.ne_of_lt cbxb
          have ncccb : w3.heap.size ≠ w2.heap.size := Nat.ne_of_gt cbxb
          clear tw3 b3 z3 E2 aa2 ss2 ll2 ff2 ca2 cb2
          go_wp2_with fail
          have h4 := cancBd_c false 0 gn _ (leaveW (lst zs k) gn) _ cc3.out.tw.rd GV.out.1 GX.out.1
          rw [cancBd_leave zs gn k] at h4
          refine h4.mono ?_
          clear h4
          rintro e w4 ⟨vw4, rfl, tw4, b4⟩
          obtain ⟨wa4, wm4, wc4, rfl⟩ := Ty.shape3 tw4
          clear aax0 aax1 aax2 aax3 aax4 aax5 aax6 aax7 aaxb ssx0 ssx1 ssx2 ssx3 ssx4 ssx5 ssx6 ssx7 ssxb llx0 llx1 llx2 llx3 llx4 llx5 llxb ffx0 ffx1 ffx2 ffx3 ffx4 ffx5 ffxb cax0 cax1 cax2 cax3 cax4 cax5 cax6 cax7 caxb cbx0 cbx1 cbx2 cbx3 cbx4 cbx5 cbx6 cbx7 cbxb
          obtain ⟨aax0, aax1, aax2, aax3, aax4, aax5, aax6, aax7⟩ := fourBlk (aa3.out.next b4).blk
          have aaxb := blk_lt (aa3.out.next b4).blk
          obtain ⟨ssx0, ssx1, ssx2, ssx3, ssx4, ssx5, ssx6, ssx7⟩ := fourBlk (ss3.out.next b4).blk
          have ssxb := blk_lt (ss3.out.next b4).blk
          obtain ⟨llx0, llx1, llx2, llx3, llx4, llx5⟩ := threeBlk (ll3.out.next b4).blk
          have llxb := blk_lt (ll3.out.next b4).blk
          obtain ⟨ffx0, ffx1, ffx2, ffx3, ffx4, ffx5⟩ := threeBlk (ff3.out.next b4).blk
          have ffxb := blk_lt (ff3.out.next b4).blk
          obtain ⟨cax0, cax1, cax2, cax3, cax4, cax5, cax6, cax7⟩ := fourBlk (ca3.out.next b4).blk
          have caxb := blk_lt (ca3.out.next b4).blk
          obtain ⟨cbx0, cbx1, cbx2, cbx3, cbx4, cbx5, cbx6, cbx7⟩ := fourBlk (cb3.out.next b4).blk
          have cbxb := blk_lt (cb3.out.next b4).blk
          obtain ⟨ccx0, ccx1, ccx2, ccx3, ccx4, ccx5⟩ := threeBlk (cc3.out.next b4).blk
          have ccxb := blk_lt (cc3.out.next b4).blk
          have aa4 := Lib.hid ((aa3.out.next b4).alloc (.cells #[.bool false, .int .u8 0, .slice wa4 wm4 wc4] 131))
          have ss4 := Lib.hid ((ss3.out.next b4).alloc (.cells #[.bool false, .int .u8 0, .slice wa4 wm4 wc4] 131))
          have ll4 := Lib.hid ((ll3.out.next b4).alloc (.cells #[.bool false, .int .u8 0, .slice wa4 wm4 wc4] 131))
          have ff4 := Lib.hid ((ff3.out.next b4).alloc (.cells #[.bool false, .int .u8 0, .slice wa4 wm4 wc4] 131))
          have ca4 := Lib.hid ((ca3.out.next b4).alloc (.cells #[.bool false, .int .u8 0, .slice wa4 wm4 wc4] 131))
          have cb4 := Lib.hid ((cb3.out.next b4).alloc (.cells #[.bool false, .int .u8 0, .slice wa4 wm4 wc4] 131))
          have cc4 := Lib.hid ((cc3.out.next b4).alloc (.cells #[.bool false, .int .u8 0, .slice wa4 wm4 wc4] 131))
          have cd4 := Lib.hid (UD.new (h := false) (x := 0) tw4)
          have z4 := E3.out.trans (b4.mono E3.out.size)
          have E4 := Lib.hid (z4.alloc z4.size (.cells #[.bool false, .int .u8 0, .slice wa4 wm4 wc4] 131))
          have gecd : w.heap.size ≤ w4.heap.size := z4.size
          have naacd : w.heap.size ≠ w4.heap.size := Nat.ne_of_lt aaxb
          have ncdaa : w4.heap.size ≠ w.heap.size := Nat.ne_of_gt aaxb
          have nsscd : (w.heap.size + 1) ≠ w4.heap.size := Nat.ne_of_lt ssxb
          have ncdss : w4.heap.size ≠ (w.heap.size + 1) := Nat.ne_of_gt ssxb
          have nllcd : (w.heap.size + 1 + 1) ≠ w4.heap.size := Nat.ne_of_lt llxb
          have ncdll : w4.heap.size ≠ (w.heap.size + 1 + 1) := Nat.ne_of_gt llxb
          have nffcd : (w.heap.size + 1 + 1 + 1) ≠ w4.heap.size := Nat.ne_of_lt ffxb
          have ncdff : w4.heap.size ≠ (w.heap.size + 1 + 1 + 1) := Nat.ne_of_gt ffxb
          have ncacd : w1.heap.size ≠ w4.heap.size := Nat.ne_of_lt caxb
          have ncdca : w4.heap.size ≠ w1.heap.size := Nat.ne_of_gt caxb
          have ncbcd : w2.heap.size ≠ w4.heap.size := Nat.ne_of_lt cbxb
          have ncdcb : w4.heap.size ≠ w2.heap.size := Nat.ne_of_gt cbxb
          have ncccd : w3.heap.size ≠ w4.heap.size := Nat.ne_of_lt ccxb
          have ncdcc : w4.heap.size ≠ w3.heap.size := Nat.ne_of_gt ccxb
          clear tw4 b4 z4 E3 aa3 ss3 ll3 ff3 ca3 cb3 cc3
          go_wp2_with fail
          refine (sameBu_c 1 _ _ _ _ _ _ [] [] (leaveW (lst zs k) gn) _ ca4.out.td.rd ss4.out.td.rd ca4.out.tp.rd ss4.out.tp.rd ca4.out.tg.rd ss4.out.tg.rd (by decide) (Nat.le_trans GV.out.2 (by decide))).mono ?_
          rintro e w5 ⟨rfl, b5⟩
          clear aax0 aax1 aax2 aax3 aax4 aax5 aax6 aax7 aaxb ssx0 ssx1 ssx2 ssx3 ssx4 ssx5 ssx6 ssx7 ssxb llx0 llx1 llx2 llx3 llx4 llx5 llxb ffx0 ffx1 ffx2 ffx3 ffx4 ffx5 ffxb cax0 cax1 cax2 cax3 cax4 cax5 cax6 cax7 caxb cbx0 cbx1 cbx2 cbx3 cbx4 cbx5 cbx6 cbx7 cbxb ccx0 ccx1 ccx2 ccx3 ccx4 ccx5 ccxb
          have aa5 := Lib.hid (aa4.out.next b5)
          have ss5 := Lib.hid (ss4.out.next b5)
          have ll5 := Lib.hid (ll4.out.next b5)
          have ff5 := Lib.hid (ff4.out.next b5)
          have ca5 := Lib.hid (ca4.out.next b5)
          have cb5 := Lib.hid (cb4.out.next b5)
          have cc5 := Lib.hid (cc4.out.next b5)
          have cd5 := Lib.hid (cd4.out.next b5)
          have E5 := Lib.hid (E4.out.trans (b5.mono E4.out.size))
          clear b5 E4 aa4 ss4 ll4 ff4 ca4 cb4 cc4 cd4
          obtain ⟨aax0, aax1, aax2, aax3, aax4, aax5, aax6, aax7⟩ := fourBlk (aa5.out).blk
          have aaxb := blk_lt (aa5.out).blk
          obtain ⟨ssx0, ssx1, ssx2, ssx3, ssx4, ssx5, ssx6, ssx7⟩ := fourBlk (ss5.out).blk
          have ssxb := blk_lt (ss5.out).blk
          obtain ⟨llx0, llx1, llx2, llx3, llx4, llx5⟩ := threeBlk (ll5.out).blk
          have llxb := blk_lt (ll5.out).blk
          obtain ⟨ffx0, ffx1, ffx2, ffx3, ffx4, ffx5⟩ := threeBlk (ff5.out).blk
          have ffxb := blk_lt (ff5.out).blk
          obtain ⟨cax0, cax1, cax2, cax3, cax4, cax5, cax6, cax7⟩ := fourBlk (ca5.out).blk
          have caxb := blk_lt (ca5.out).blk
          obtain ⟨cbx0, cbx1, cbx2, cbx3, cbx4, cbx5, cbx6, cbx7⟩ := fourBlk (cb5.out).blk
          have cbxb := blk_lt (cb5.out).blk
          obtain ⟨ccx0, ccx1, ccx2, ccx3, ccx4, ccx5⟩ := threeBlk (cc5.out).blk
          have ccxb := blk_lt (cc5.out).blk
          obtain ⟨cdx0, cdx1, cdx2, cdx3, cdx4, cdx5⟩ := threeBlk (cd5.out).blk
          have cdxb := blk_lt (cd5.out).blk
          go_wp2_with fail
          refine (sameBu_c 1 _ _ _ _ _ _ [] [] (leaveW (lst zs k) gn) _ cb5.out.td.rd ca5.out.td.rd cb5.out.tp.rd ca5.out.tp.rd cb5.out.tg.rd ca5.out.tg.rd (by decide) (Nat.le_trans GV.out.2 (by decide))).mono ?_
          rintro e w6 ⟨rfl, b6⟩
          clear aax0 aax1 aax2 aax3 aax4 aax5 aax6 aax7 aaxb ssx0 ssx1 ssx2 ssx3 ssx4 ssx5 ssx6 ssx7 ssxb llx0 llx1 llx2 llx3 llx4 llx5 llxb ffx0 ffx1 ffx2 ffx3 ffx4 ffx5 ffxb cax0 cax1 cax2 cax3 cax4 cax5 cax6 cax7 caxb cbx0 cbx1 cbx2 cbx3 cbx4 cbx5 cbx6 cbx7 cbxb ccx0 ccx1 ccx2 ccx3 ccx4 ccx5 ccxb cdx0 cdx1 cdx2 cdx3 cdx4 cdx5 cdxb
          have aa6 := Lib.hid (aa5.out.next b6)
          have ss6 := Lib.hid (ss5.out.next b6)
          have ll6 := Lib.hid (ll5.out.next b6)
          have ff6 := Lib.hid (ff5.out.next b6)
          have ca6 := Lib.hid (ca5.out.next b6)
          have cb6 := Lib.hid (cb5.out.next b6)
          have cc6 := Lib.hid (cc5.out.next b6)
          have cd6 := Lib.hid (cd5.out.next b6)
          have E6 := Lib.hid (E5.out.trans (b6.mono E5.out.size))
          clear b6 E5 aa5 ss5 ll5 ff5 ca5 cb5 cc5 cd5
          obtain ⟨aax0, aax1, aax2, aax3, aax4, aax5, aax6, aax7⟩ := fourBlk (aa6.out).blk
          have aaxb := blk_lt (aa6.out).blk
          obtain ⟨ssx0, ssx1, ssx2, ssx3, ssx4, ssx5, ssx6, ssx7⟩ := fourBlk (ss6.out).blk
          have ssxb := blk_lt (ss6.out).blk
          obtain ⟨llx0, llx1, llx2, llx3, llx4, llx5⟩ := threeBlk (ll6.out).blk
          have llxb := blk_lt (ll6.out).blk
          obtain ⟨ffx0, ffx1, ffx2, ffx3, ffx4, ffx5⟩ := threeBlk (ff6.out).blk
          have ffxb := blk_lt (ff6.out).blk
          obtain ⟨cax0, cax1, cax2, cax3, cax4, cax5, cax6, cax7⟩ := fourBlk (ca6.out).blk
          have caxb := blk_lt (ca6.out).blk
          obtain ⟨cbx0, cbx1, cbx2, cbx3, cbx4, cbx5, cbx6, cbx7⟩ := fourBlk (cb6.out).blk
          have cbxb := blk_lt (cb6.out).blk
          obtain ⟨ccx0, ccx1, ccx2, ccx3, ccx4, ccx5⟩ := threeBlk (cc6.out).blk
          have ccxb := blk_lt (cc6.out).blk
          obtain ⟨cdx0, cdx1, cdx2, cdx3, cdx4, cdx5⟩ := threeBlk (cd6.out).blk
          have cdxb := blk_lt (cd6.out).blk
          go_wp2_with fail
          refine (sameBd_c false 0 _ _ (leaveW (lst zs k) gn) _ cc6.out.tw.rd ff6.out.tw.rd (Nat.le_trans GV.out.2 (by decide))).mono ?_
          rintro e w7 ⟨rfl, b7⟩
          clear aax0 aax1 aax2 aax3 aax4 aax5 aax6 aax7 aaxb ssx0 ssx1 ssx2 ssx3 ssx4 ssx5 ssx6 ssx7 ssxb llx0 llx1 llx2 llx3 llx4 llx5 llxb ffx0 ffx1 ffx2 ffx3 ffx4 ffx5 ffxb cax0 cax1 cax2 cax3 cax4 cax5 cax6 cax7 caxb cbx0 cbx1 cbx2 cbx3 cbx4 cbx5 cbx6 cbx7 cbxb ccx0 ccx1 ccx2 ccx3 ccx4 ccx5 ccxb cdx0 cdx1 cdx2 cdx3 cdx4 cdx5 cdxb
          have aa7 := Lib.hid (aa6.out.next b7)
          have ss7 := Lib.hid (ss6.out.next b7)
          have ll7 := Lib.hid (ll6.out.next b7)
          have ff7 := Lib.hid (ff6.out.next b7)
          have ca7 := Lib.hid (ca6.out.next b7)
          have cb7 := Lib.hid (cb6.out.next b7)
          have cc7 := Lib.hid (cc6.out.next b7)
          have cd7 := Lib.hid (cd6.out.next b7)
          have E7 := Lib.hid (E6.out.trans (b7.mono E6.out.size))
          clear b7 E6 aa6 ss6 ll6 ff6 ca6 cb6 cc6 cd6
          obtain ⟨aax0, aax1, aax2, aax3, aax4, aax5, aax6, aax7⟩ := fourBlk (aa7.out).blk
          have aaxb := blk_lt (aa7.out).blk
          obtain ⟨ssx0, ssx1, ssx2, ssx3, ssx4, ssx5, ssx6, ssx7⟩ := fourBlk (ss7.out).blk
          have ssxb := blk_lt (ss7.out).blk
          obtain ⟨llx0, llx1, llx2, llx3, llx4, llx5⟩ := threeBlk (ll7.out).blk
          have llxb := blk_lt (ll7.out).blk
          obtain ⟨ffx0, ffx1, ffx2, ffx3, ffx4, ffx5⟩ := threeBlk (ff7.out).blk
          have ffxb := blk_lt (ff7.out).blk
          obtain ⟨cax0, cax1, cax2, cax3, cax4, cax5, cax6, cax7⟩ := fourBlk (ca7.out).blk
          have caxb := blk_lt (ca7.out).blk
          obtain ⟨cbx0, cbx1, cbx2, cbx3, cbx4, cbx5, cbx6, cbx7⟩ := fourBlk (cb7.out).blk
          have cbxb := blk_lt (cb7.out).blk
          obtain ⟨ccx0, ccx1, ccx2, ccx3, ccx4, ccx5⟩ := threeBlk (cc7.out).blk
          have ccxb := blk_lt (cc7.out).blk
          obtain ⟨cdx0, cdx1, cdx2, cdx3, cdx4, cdx5⟩ := threeBlk (cd7.out).blk
          have cdxb := blk_lt (cd7.out).blk
          go_wp2_with fail
          refine (sameBd_c false 0 _ _ (leaveW (lst zs k) gn) _ cd7.out.tw.rd cc7.out.tw.rd (Nat.le_trans GV.out.2 (by decide))).mono ?_
          rintro e w8 ⟨rfl, b8⟩
          clear aax0 aax1 aax2 aax3 aax4 aax5 aax6 aax7 aaxb ssx0 ssx1 ssx2 ssx3 ssx4 ssx5 ssx6 ssx7 ssxb llx0 llx1 llx2 llx3 llx4 llx5 llxb ffx0 ffx1 ffx2 ffx3 ffx4 ffx5 ffxb cax0 cax1 cax2 cax3 cax4 cax5 cax6 cax7 caxb cbx0 cbx1 cbx2 cbx3 cbx4 cbx5 cbx6 cbx7 cbxb ccx0 ccx1 ccx2 ccx3 ccx4 ccx5 ccxb cdx0 cdx1 cdx2 cdx3 cdx4 cdx5 cdxb
          have aa8 := Lib.hid (aa7.out.next b8)
          have ss8 := Lib.hid (ss7.out.next b8)
          have ll8 := Lib.hid (ll7.out.next b8)
          have ff8 := Lib.hid (ff7.out.next b8)
          have ca8 := Lib.hid (ca7.out.next b8)
          have cb8 := Lib.hid (cb7.out.next b8)
          have cc8 := Lib.hid (cc7.out.next b8)
          have cd8 := Lib.hid (cd7.out.next b8)
          have E8 := Lib.hid (E7.out.trans (b8.mono E7.out.size))
          clear b8 E7 aa7 ss7 ll7 ff7 ca7 cb7 cc7 cd7
          obtain ⟨aax0, aax1, aax2, aax3, aax4, aax5, aax6, aax7⟩ := fourBlk (aa8.out).blk
          have aaxb := blk_lt (aa8.out).blk
          obtain ⟨ssx0, ssx1, ssx2, ssx3, ssx4, ssx5, ssx6, ssx7⟩ := fourBlk (ss8.out).blk
          have ssxb := blk_lt (ss8.out).blk
          obtain ⟨llx0, llx1, llx2, llx3, llx4, llx5⟩ := threeBlk (ll8.out).blk
          have llxb := blk_lt (ll8.out).blk
          obtain ⟨ffx0, ffx1, ffx2, ffx3, ffx4, ffx5⟩ := threeBlk (ff8.out).blk
          have ffxb := blk_lt (ff8.out).blk
          obtain ⟨cax0, cax1, cax2, cax3, cax4, cax5, cax6, cax7⟩ := fourBlk (ca8.out).blk
          have caxb := blk_lt (ca8.out).blk
          obtain ⟨cbx0, cbx1, cbx2, cbx3, cbx4, cbx5, cbx6, cbx7⟩ := fourBlk (cb8.out).blk
          have cbxb := blk_lt (cb8.out).blk
          obtain ⟨ccx0, ccx1, ccx2, ccx3, ccx4, ccx5⟩ := threeBlk (cc8.out).blk
          have ccxb := blk_lt (cc8.out).blk
          obtain ⟨cdx0, cdx1, cdx2, cdx3, cdx4, cdx5⟩ := threeBlk (cd8.out).blk
          have cdxb := blk_lt (cd8.out).blk
          go_wp2_with fail
          refine (awake24_c _).mono ?_
          rintro e wz ⟨rfl, bz⟩
          have EZ := Lib.hid (E8.out.trans (bz.mono E8.out.size))
          clear bz
          go_wp2_with fail
          go_ret
          exact ⟨rfl, EZ.out⟩
end Go.Proofs.Ytglbfmcbojjglaa

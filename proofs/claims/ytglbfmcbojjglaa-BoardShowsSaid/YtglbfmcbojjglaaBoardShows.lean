/-
  BoardShows: for every list of priorities and every two bytes the call returns true, and nothing that was there before has turned. No conditions but that the list can be read.
-/
import Derived.Test.YtglbfmcbojjglaaBdD
import Derived.Test.YtglbfmcbojjglaaPlainH
import Derived.Deep.DeepCutAuto
namespace Go.Proofs.Ytglbfmcbojjglaa
open Go.RowKit

theorem vldBd_up (v : Int) : vldBd true v [] = true := by
  have : OrdW [] := OrdW.nil
  simp [vldBd, this]
theorem look_up (v i : Int) (hi : 0 ≤ i) : lookBd true v [] i 0 = ([], v, true, 0) := by simp [lookBd, vldBd_up, mayL, hi]
theorem show_up (v y : Int) : showBd true v [] y = (true, y, [], [], 0) := by simp [showBd, vldBd_up]
theorem clear_up (v : Int) : clearBd true v [] = (false, 0, 0) := by simp [clearBd, vldBd_up]
theorem look_new : lookBd false 0 [] 0 0 = ([⟨0, 0, 0⟩], 0, false, 0) := by decide
theorem cnt_lst (ps : List Int) (k j : Nat) (hj : j < (lst ps k).length) : cntP ((lst ps k).take j) (lst ps k)[j].proc = 0 := by
  rw [cntP_zero_iff]
  intro y hy e
  obtain ⟨i, hi, rfl⟩ := List.getElem_of_mem hy
  have hil : i < j := by simp at hi; omega
  have := List.pairwise_iff_getElem.1 (good_lst ps k).ordW.2.1 i j (by omega) hj hil
  rw [List.getElem_take] at e
  exact this e
theorem cntP_take (l : List Wt) (j : Nat) (hj : j < l.length) (h0 : cntP (l.take j) l[j].proc = 0) : (fun y => if y = l[j].proc then 1 else cntP (l.take j) y) = cntP (l.take (j + 1)) := by
  have := cntP_snoc (l.take j) l[j]
  rw [← List.take_succ_eq_append_getElem hj, h0] at this
  exact this

set_option maxHeartbeats 8000000 in
set_option maxRecDepth 100000 in
theorem boardShows_c (vz : Value) (zs : List Int) (v y : Int) (w : World) (h : RdI .u8 w 0 vz zs) (hz : ∀ z ∈ zs, 0 ≤ z ∧ z ≤ 255) (hl : zs.length ≤ 9223372036854775807) :
    Calls Try.prog 18 #[vz, .int .u8 v, .int .u8 y] w fun e w' => e = .returned (.bool true) ∧ Below w.heap.size w w' := by
  obtain ⟨ao, ca, rfl, hca, hna, pa⟩ := h.open_
  have HZ := Lib.hid hz
  have HPA := Lib.hid pa
  clear h hz pa
  go_enter Try.func18, Try.ntmps18
  go_upto_region 1 with (fail)
  go_cut [0] (fun s0 wx => ∃ n : Nat, s0 = .slice ao n ca ∧ n ≤ 10 ∧ n ≤ zs.length ∧ w = wx)
  case first =>
    by_cases h10 : zs.length ≤ 10
    · have hi : (zs.length : Int) ≤ 10 := by omega
      go_wp2
      go_meet
      exact ⟨zs.length, rfl, h10, Nat.le_refl _, rfl⟩
    · have hi : ¬ (zs.length : Int) ≤ 10 := by omega
      go_wp2
      go_meet
      exact ⟨10, rfl, Nat.le_refl _, by omega, rfl⟩
  case rest =>
    obtain ⟨n, rfl, hn1, hn2, rfl⟩ := hcut
    have hcell : Hid (∀ k (hk : k < n), ∃ b off, ao = some ⟨b, off, none⟩ ∧ b < w.heap.size ∧ w.cell? ⟨b, off + k, none⟩ = some (.int .u8 (zs.getD k 0)) ∧ 0 ≤ zs.getD k 0 ∧ zs.getD k 0 ≤ 255) := fun k hk => by
      obtain ⟨b, off, h1, _, h3, h4⟩ := HPA.out (by omega)
      have h5 : zs.getD k 0 = zs[k]'(by omega) := by simp [List.getD, List.getElem?_eq_getElem (show k < zs.length by omega)]
      rw [h5]
      exact ⟨b, off, h1, h3, h4 k (by omega), HZ.out _ (List.getElem_mem _)⟩
    clear HPA HZ
    obtain ⟨WX, hWX⟩ : ∃ WX, WX = w.alloc (.cells #[.bool false, .int .u8 0, .slice none 0 0] 131) := ⟨_, rfl⟩
    have EX : Hid (Below w.heap.size w WX) := by subst hWX; exact (Below.refl _ w).alloc (Nat.le_refl _) _
    have A1 : Hid (UD WX w.heap.size false 0 (.slice none 0 0) []) := by subst hWX; exact UD.new (B := 0) (TyW.nil _ _)
    have HWX := Lib.hid hWX
    clear hWX
    go_wp2_with fail
    rw [← HWX.out]
    clear HWX
    go_loopg [49] n (fun gg s49 wr => ∃ k : Nat, k ≤ n ∧ n - k ≤ gg ∧ s49 = .int .i64 k ∧ Aside (Below w.heap.size w wr ∧ ∃ v, UD wr w.heap.size false 0 v (lst zs k)))
    case atStart => exact ⟨0, Nat.zero_le _, by omega, rfl, EX.out, _, A1.out⟩
    case round =>
      obtain ⟨k, hk, hg, rfl, A⟩ := hrel
      clear EX A1
      obtain ⟨hE, v1, h1⟩ := A.out
      obtain ⟨a0, m0, c0, rfl⟩ := Ty.shape3 h1.tw
      have E0 := Lib.hid hE
      have bb0 := Lib.hid h1
      clear A h1
      have GW : Hid (WfW (lst zs k) ∧ (lst zs k).length ≤ 90000) := ⟨(good_lst zs k).wf (by omega), by rw [(good_lst zs k).len]; omega⟩
      by_cases hlt : k < n
      · have hltz : (k : Int) < (n : Int) := by omega
        obtain ⟨b, off, rfl, hbs, y0, hp0, hp1⟩ := hcell.out k hlt
        rw [← hE.cell (p := ⟨b, _, none⟩) hbs] at y0
        have hbw : b < wr.heap.size := Nat.lt_of_lt_of_le hbs hE.size
        have HLB := Lib.hid (lookBd_lst zs k)
        have GV : Hid (WfW (lst zs (k + 1)) ∧ (lst zs (k + 1)).length ≤ 90000) := ⟨(good_lst zs (k + 1)).wf (by omega), by rw [(good_lst zs (k + 1)).len]; omega⟩
        clear hE
        generalize zs.getD k 0 = pk at y0 hp0 hp1 HLB
        obtain ⟨bbx0, bbx1, bbx2, bbx3, bbx4, bbx5⟩ := threeBlk (bb0.out).blk
        have bbxb := blk_lt (bb0.out).blk
        go_wp2_with fail
        have h1 := lookBd_c false 0 k pk _ (lst zs k) _ bb0.out.tw.rd GW.out.1 GW.out.2
        rw [HLB.out] at h1
        refine h1.mono ?_
        clear h1
        rintro e w1 ⟨vw1, rfl, tw1, b1⟩
        obtain ⟨wa1, wm1, wc1, rfl⟩ := Ty.shape3 tw1
        clear bbx0 bbx1 bbx2 bbx3 bbx4 bbx5 bbxb
        obtain ⟨bbx0, bbx1, bbx2, bbx3, bbx4, bbx5⟩ := threeBlk (bb0.out.next b1).blk
        have bbxb := blk_lt (bb0.out.next b1).blk
        have bb1 := Lib.hid ((bb0.out.next b1).alloc (.cells #[.bool false, .int .u8 0, .slice wa1 wm1 wc1] 131))
        have cc1 := Lib.hid (UD.new (h := false) (x := 0) tw1)
        have z1 := E0.out.trans (b1.mono E0.out.size)
        have E1 := Lib.hid (z1.alloc z1.size (.cells #[.bool false, .int .u8 0, .slice wa1 wm1 wc1] 131))
        have gecc : w.heap.size ≤ w1.heap.size := z1.size
        have nbbcc : w.heap.size ≠ w1.heap.size := Nat.ne_of_lt bbxb
        have nccbb : w1.heap.size ≠ w.heap.size := Nat.ne_of_gt bbxb
        clear tw1 b1 z1 E0 bb0
        go_wp2_with fail
        have h2 := lookBd_c false 0 k 0 _ (lst zs (k + 1)) _ cc1.out.tw.rd GV.out.1 GV.out.2
        rw [lookBd_again zs k] at h2
        refine h2.mono ?_
        clear h2
        rintro e w2 ⟨vw2, rfl, tw2, b2⟩
        obtain ⟨wa2, wm2, wc2, rfl⟩ := Ty.shape3 tw2
        clear bbx0 bbx1 bbx2 bbx3 bbx4 bbx5 bbxb
        obtain ⟨bbx0, bbx1, bbx2, bbx3, bbx4, bbx5⟩ := threeBlk (bb1.out.next b2).blk
        have bbxb := blk_lt (bb1.out.next b2).blk
        obtain ⟨ccx0, ccx1, ccx2, ccx3, ccx4, ccx5⟩ := threeBlk (cc1.out.next b2).blk
        have ccxb := blk_lt (cc1.out.next b2).blk
        have bb2 := Lib.hid ((bb1.out.next b2).alloc (.cells #[.bool false, .int .u8 0, .slice wa2 wm2 wc2] 131))
        have cc2 := Lib.hid ((cc1.out.next b2).alloc (.cells #[.bool false, .int .u8 0, .slice wa2 wm2 wc2] 131))
        have zz2 := Lib.hid (UD.new (h := false) (x := 0) tw2)
        have z2 := E1.out.trans (b2.mono E1.out.size)
        have E2 := Lib.hid (z2.alloc z2.size (.cells #[.bool false, .int .u8 0, .slice wa2 wm2 wc2] 131))
        have gezz : w.heap.size ≤ w2.heap.size := z2.size
        have nbbzz : w.heap.size ≠ w2.heap.size := Nat.ne_of_lt bbxb
        have nzzbb : w2.heap.size ≠ w.heap.size := Nat.ne_of_gt bbxb
        have ncczz : w1.heap.size ≠ w2.heap.size := Nat.ne_of_lt ccxb
        have nzzcc : w2.heap.size ≠ w1.heap.size := Nat.ne_of_gt ccxb
        clear tw2 b2 z2 E1 bb1 cc1
        clear zz2
        go_wp2_with fail
        have h3 := clearBd_c false 0  _ (lst zs (k + 1)) _ cc2.out.tw.rd GV.out.1 GV.out.2
        rw [clearBd_lst zs (k + 1)] at h3
        refine h3.mono ?_
        clear h3
        rintro e w3 ⟨vw3, rfl, tw3, b3⟩
        obtain ⟨wa3, wm3, wc3, rfl⟩ := Ty.shape3 tw3
        clear bbx0 bbx1 bbx2 bbx3 bbx4 bbx5 bbxb ccx0 ccx1 ccx2 ccx3 ccx4 ccx5 ccxb
        obtain ⟨bbx0, bbx1, bbx2, bbx3, bbx4, bbx5⟩ := threeBlk (bb2.out.next b3).blk
        have bbxb := blk_lt (bb2.out.next b3).blk
        obtain ⟨ccx0, ccx1, ccx2, ccx3, ccx4, ccx5⟩ := threeBlk (cc2.out.next b3).blk
        have ccxb := blk_lt (cc2.out.next b3).blk
        have bb3 := Lib.hid ((bb2.out.next b3).alloc (.cells #[.bool false, .int .u8 0, .slice wa3 wm3 wc3] 131))
        have cc3 := Lib.hid ((cc2.out.next b3).alloc (.cells #[.bool false, .int .u8 0, .slice wa3 wm3 wc3] 131))
        have dd3 := Lib.hid (UD.new (h := false) (x := 0) tw3)
        have z3 := E2.out.trans (b3.mono E2.out.size)
        have E3 := Lib.hid (z3.alloc z3.size (.cells #[.bool false, .int .u8 0, .slice wa3 wm3 wc3] 131))
        have gedd : w.heap.size ≤ w3.heap.size := z3.size
        have nbbdd : w.heap.size ≠ w3.heap.size := Nat.ne_of_lt bbxb
        have nddbb : w3.heap.size ≠ w.heap.size := Nat.ne_of_gt bbxb
        have nccdd : w1.heap.size ≠ w3.heap.size := Nat.ne_of_lt ccxb
        have nddcc : w3.heap.size ≠ w1.heap.size := Nat.ne_of_gt ccxb
        clear tw3 b3 z3 E2 bb2 cc2
        go_wp2_with fail
        refine (sameBd_c false 0 _ _ (lst zs (k + 1)) _ cc3.out.tw.rd dd3.out.tw.rd (Nat.le_trans GV.out.2 (by decide))).mono ?_
        rintro e w4 ⟨rfl, b4⟩
        clear bbx0 bbx1 bbx2 bbx3 bbx4 bbx5 bbxb ccx0 ccx1 ccx2 ccx3 ccx4 ccx5 ccxb
        have bb4 := Lib.hid (bb3.out.next b4)
        have cc4 := Lib.hid (cc3.out.next b4)
        have dd4 := Lib.hid (dd3.out.next b4)
        have E4 := Lib.hid (E3.out.trans (b4.mono E3.out.size))
        clear b4 E3 bb3 cc3 dd3
        obtain ⟨bbx0, bbx1, bbx2, bbx3, bbx4, bbx5⟩ := threeBlk (bb4.out).blk
        have bbxb := blk_lt (bb4.out).blk
        obtain ⟨ccx0, ccx1, ccx2, ccx3, ccx4, ccx5⟩ := threeBlk (cc4.out).blk
        have ccxb := blk_lt (cc4.out).blk
        obtain ⟨ddx0, ddx1, ddx2, ddx3, ddx4, ddx5⟩ := threeBlk (dd4.out).blk
        have ddxb := blk_lt (dd4.out).blk
        go_wp2_with fail
        go_roundg (n - (k + 1))
        case measure => omega
        case rel => exact ⟨k + 1, by omega, by omega, by go_num, putD_below (g := w.heap.size) E4.out (Nat.le_refl _) _ _ _, _, bb4.out.put cc4.out.tw false 0⟩
      · have hltz : ¬ (k : Int) < (n : Int) := by omega
        obtain rfl : k = n := by omega
        clear hlt hg hE
        obtain ⟨bbx0, bbx1, bbx2, bbx3, bbx4, bbx5⟩ := threeBlk (bb0.out).blk
        have bbxb := blk_lt (bb0.out).blk
        go_wp2_with fail
        have h1 := showBd_c false 0 v _ (lst zs k) _ bb0.out.tw.rd GW.out.1 GW.out.2
        rw [showBd_lst zs k v] at h1
        refine h1.mono ?_
        clear h1
        rintro e w1 ⟨vw1, vu1, rfl, tw1, ou1, b1⟩
        obtain ⟨wa1, wm1, wc1, rfl⟩ := Ty.shape3 tw1
        obtain ⟨ua1, um1, uc1, rfl, hum1⟩ := own_shape ou1
        clear bbx0 bbx1 bbx2 bbx3 bbx4 bbx5 bbxb
        obtain ⟨bbx0, bbx1, bbx2, bbx3, bbx4, bbx5⟩ := threeBlk (bb0.out.next b1).blk
        have bbxb := blk_lt (bb0.out.next b1).blk
        have bb1 := Lib.hid ((bb0.out.next b1).put tw1 true v)
        have z1 := E0.out.trans (b1.mono E0.out.size)
        have E1 := Lib.hid (putD_below (g := w.heap.size) z1 (by omega) (.bool true) (.int .u8 v) (.slice wa1 wm1 wc1))
        have WK1 := Lib.hid ((UI.of ou1).far3 (bb0.out.next b1).blk (.bool true) (.int .u8 v) (.slice wa1 wm1 wc1))
        have hu1 : k = um1 := by rw [hum1, List.length_map, (good_lst zs k).len]
        subst hu1
        clear hum1
        clear tw1 ou1 b1 z1 E0 bb0
        go_upto_region 14 with (fail)
        obtain ⟨WM, hWM⟩ : ∃ WM, WM = ((w1.setCell ⟨w.heap.size, 0, none⟩ (.bool true)).setCell ⟨w.heap.size, 1, none⟩ (.int .u8 v)).setCell ⟨w.heap.size, 2, none⟩ (.slice wa1 wm1 wc1) := ⟨_, rfl⟩
        have bbM : Hid (UD WM w.heap.size true v (.slice wa1 wm1 wc1) []) := by rw [hWM]; exact bb1.out
        have WKM : Hid (UI WM (.slice ua1 k uc1) ((lst zs k).map (·.proc))) := by rw [hWM]; exact WK1.out
        have EM : Hid (Below w.heap.size w WM) := by rw [hWM]; exact E1.out
        rw [← hWM]
        clear hWM bb1 WK1 E1 bbx0 bbx1 bbx2 bbx3 bbx4 bbx5 bbxb
        have HLEN := Lib.hid (good_lst zs k).len
        have hwk : Hid (∀ j (hj : j < (lst zs k).length), ∃ b off, ua1 = some ⟨b, off, none⟩ ∧ b < WM.heap.size ∧ WM.cell? ⟨b, off + j, none⟩ = some (.int .i64 (lst zs k)[j].proc)) := fun j hj => by
          obtain ⟨a, c, hv, _, _, hp⟩ := WKM.out.rd.open_
          obtain ⟨b, off, ha, _, hb, hc⟩ := hp (by simp; omega)
          simp only [Value.slice.injEq] at hv
          refine ⟨b, off, by rw [hv.1, ha], hb, ?_⟩
          have := hc j (by simpa using hj)
          simpa using this
        have hmm := @run_makeMap Try.prog
        go_wp2_with fail
        clear hmm
        go_loopg [117] k (fun gg s117 wr => ∃ j : Nat, j ≤ k ∧ k - j ≤ gg ∧ s117 = .int .i64 j ∧ Aside (Below WM.heap.size WM wr ∧ CntM 3 .i64 wr WM.heap.size j (cntP ((lst zs k).take j))))
        case atStart => exact ⟨0, Nat.zero_le _, by omega, rfl, (Below.refl _ WM).alloc (Nat.le_refl _) _, CntM.made 3 .i64 WM⟩
        case round =>
          obtain ⟨j, hj, hgj, rfl, A⟩ := hrel
          obtain ⟨hBM, hC⟩ := A.out
          clear A
          by_cases hjt : j < k
          · have hjz : (j : Int) < (k : Int) := by omega
            have hjl : j < (lst zs k).length := by rw [HLEN.out]; exact hjt
            obtain ⟨bu, ou, rfl, hbu, cu⟩ := hwk.out j hjl
            have hel := (good_lst zs k).el _ (List.getElem_mem hjl)
            have HC0 := Lib.hid (cnt_lst zs k j hjl)
            have HCT := Lib.hid (cntP_take (lst zs k) j hjl HC0.out)
            obtain ⟨pj, hpj⟩ : ∃ pj : Nat, (lst zs k)[j].proc = (pj : Int) := ⟨_, (Int.toNat_of_nonneg hel.2.1).symm⟩
            have hpjk : pj < k := by have := hel.2.2.1; omega
            rw [hpj] at cu HC0 HCT
            have HPJ := Lib.hid hpj
            clear hpj hel
            obtain ⟨b, off, rfl, hbs, cj, hpj0, hpj1⟩ := hcell.out pj hpjk
            have hwx : (Lit.int .i64 (pj : Int)).wf = true := WalkArith.wf_i64 (by omega)
            have hw1 : (Lit.int .i64 1).wf = true := by decide
            have hlk := hC.look Try.underlying139 Try.underlying3 (pj : Int) hwx
            rw [HC0.out] at hlk
            have cu' : wr.cell? ⟨bu, ou + j, none⟩ = some (.int .i64 pj) := (hBM.cell (p := ⟨bu, _, none⟩) hbu).trans cu
            have hbur : bu < wr.heap.size := Nat.lt_of_lt_of_le hbu hBM.size
            have HC := Lib.hid hC
            have HBM := Lib.hid hBM
            have hbehind : Hid (∀ w2, CntM 3 .i64 w2 WM.heap.size (j + 1) (fun y => if y = (pj : Int) then 1 else cntP ((lst zs k).take j) y) → wr.grownBy w2 (some WM.heap.size) → ((Instr.lookup 139 (.map (some WM.heap.size)) (.int .i64 (pj : Int)) false).run Try.prog w2 = .ok (.int .i64 1) w2) ∧ Below WM.heap.size WM w2) := by
              intro w2 hc2 hg2
              refine ⟨?_, HBM.out.grown hg2 HBM.out.size (fun g e => by cases e; exact Nat.le_refl _)⟩
              have := hc2.look Try.underlying139 Try.underlying3 (pj : Int) hwx
              rwa [if_pos rfl] at this
            have hd1 : decide ((pj : Int) < 0) = false := decide_eq_false (by omega)
            have hd2 : decide ((k : Int) ≤ (pj : Int)) = false := decide_eq_false (by omega)
            have hd3 : decide (k ≤ pj) = false := decide_eq_false (by omega)
            clear hC hBM
            go_upto_region 20 with (fail)
            go_wp2_with (at_mapUpdate; refine wpList_cnt_update rfl _ _ _ 139 rfl Try.underlying139 Try.underlying3 HC.out (by unfold maxLen; omega) (pj : Int) 1 hwx hw1 rfl rfl rfl ?_; intro w2 hc2 hg2; obtain ⟨p2, p4⟩ := hbehind.out w2 hc2 hg2; have P4 := Lib.hid p4; have HC2 := Lib.hid hc2; clear hc2 hg2 p4)
            have hE2 := EM.out.trans (P4.out.mono EM.out.size)
            have cj2 : w2.cell? ⟨b, off + pj, none⟩ = some (.int .u8 (zs.getD pj 0)) := (hE2.cell (p := ⟨b, _, none⟩) hbs).trans cj
            have hbw2 : b < w2.heap.size := Nat.lt_of_lt_of_le hbs hE2.size
            have hbu2 : bu < w2.heap.size := Nat.lt_of_lt_of_le hbu P4.out.size
            clear hbehind hlk hwx hw1 hE2 cu cu' p2
            by_cases h0 : j = 0
            · have g1 : decide ((0 : Int) < (j : Int)) = false := decide_eq_false (by omega)
              have g2 : decide (0 < j) = false := decide_eq_false (by omega)
              clear h0
              refine wp_region_quiet_lit (by kernel_rfl) (by kernel_rfl) ?_
              iterate 41 (first | go_big_quiet_step (fail) | quiet_step (fail))
              refine wpQuiet_nil ?_
              intro _ hw'
              obtain ⟨nq, hw''⟩ := hw'
              subst hw''
              go_wp2_with fail
              go_roundg (k - (j + 1))
              case measure => omega
              case rel => exact ⟨j + 1, by omega, by omega, by go_num, below_drewN' P4.out nq, by have := HC2.out.drewN nq; rw [HCT.out] at this; exact this⟩
            · have hj0 : 0 < j := by omega
              have hj1 : j - 1 < (lst zs k).length := by omega
              obtain ⟨bu', ou', hbo, _, cq⟩ := hwk.out (j - 1) hj1
              simp only [Option.some.injEq, Addr.mk.injEq, and_true] at hbo
              obtain ⟨rfl, rfl⟩ := hbo
              have helq := (good_lst zs k).el _ (List.getElem_mem hj1)
              obtain ⟨pq, hpq⟩ : ∃ pq : Nat, (lst zs k)[j - 1].proc = (pq : Int) := ⟨_, (Int.toNat_of_nonneg helq.2.1).symm⟩
              have hpqk : pq < k := by have := helq.2.2.1; omega
              rw [hpq] at cq
              have cq1 : w2.cell? ⟨bu, ou + (j - 1), none⟩ = some (.int .i64 pq) := (P4.out.cell (p := ⟨bu, _, none⟩) hbu).trans cq
              obtain ⟨_, _, hbo, _, cq0, hq0, hq1⟩ := hcell.out pq hpqk
              simp only [Option.some.injEq, Addr.mk.injEq, and_true] at hbo
              obtain ⟨rfl, rfl⟩ := hbo
              have cq2 : w2.cell? ⟨b, off + pq, none⟩ = some (.int .u8 (zs.getD pq 0)) := ((EM.out.trans (P4.out.mono EM.out.size)).cell (p := ⟨b, _, none⟩) hbs).trans cq0
              have hnx := (good_lst zs k).next (j - 1) (by omega)
              simp only [show j - 1 + 1 = j from by omega, hpq, HPJ.out, Int.toNat_natCast] at hnx
              have g1 : decide ((0 : Int) < (j : Int)) = true := decide_eq_true (by omega)
              have g2 : decide (0 < j) = true := decide_eq_true hj0
              have g3 : decide (zs.getD pq 0 < zs.getD pj 0) = false := decide_eq_false hnx.1
              have htn : ((j : Int) - 1).toNat = j - 1 := by omega
              have hwr : IntKind.i64.wrap ((j : Int) - 1) = (j : Int) - 1 := by rw [IntKind.wrap_i64]; omega
              have hb0 : (0 : Int) ≤ (j : Int) - 1 := by omega
              have hb0' : (1 : Int) ≤ (j : Int) := by omega
              have hb1z : (j : Int) - 1 < (k : Int) := by omega
              have hqz0 : (0 : Int) ≤ (pq : Int) := by omega
              have hqzk : (pq : Int) < (k : Int) := by omega
              have hjzk : (pj : Int) < (k : Int) := by omega
              have hjz0 : (0 : Int) ≤ (pj : Int) := by omega
              have HNX := Lib.hid hnx.2
              clear hnx helq h0 hpq hj1 cq cq0
              generalize zs.getD pq 0 = zq at cq2 g3 HNX hq0 hq1
              generalize zs.getD pj 0 = zj at cj2 cj g3 HNX hpj0 hpj1
              by_cases heq : zq = zj
              · have he1 : (zq == zj) = true := by simp [heq]
                have he2 : decide ((pj : Int) ≤ (pq : Int)) = false := decide_eq_false (by have := HNX.out heq; omega)
                have he3 : decide (pj ≤ pq) = false := decide_eq_false (by have := HNX.out heq; omega)
                clear heq HNX
                refine wp_region_quiet_lit (by kernel_rfl) (by kernel_rfl) ?_
                iterate 41 (first | go_big_quiet_step (fail) | quiet_step (fail))
                refine wpQuiet_nil ?_
                intro _ hw'
                obtain ⟨nq, hw''⟩ := hw'
                subst hw''
                go_wp2_with fail
                go_roundg (k - (j + 1))
                case measure => omega
                case rel => exact ⟨j + 1, by omega, by omega, by go_num, below_drewN' P4.out nq, by have := HC2.out.drewN nq; rw [HCT.out] at this; exact this⟩
              · have he1 : (zq == zj) = false := by simp [heq]
                clear heq HNX
                refine wp_region_quiet_lit (by kernel_rfl) (by kernel_rfl) ?_
                iterate 41 (first | go_big_quiet_step (fail) | quiet_step (fail))
                refine wpQuiet_nil ?_
                intro _ hw'
                obtain ⟨nq, hw''⟩ := hw'
                subst hw''
                go_wp2_with fail
                go_roundg (k - (j + 1))
                case measure => omega
                case rel => exact ⟨j + 1, by omega, by omega, by go_num, below_drewN' P4.out nq, by have := HC2.out.drewN nq; rw [HCT.out] at this; exact this⟩
          · have hjz : ¬ (j : Int) < (k : Int) := by omega
            have E3 := Lib.hid (EM.out.trans (hBM.mono EM.out.size))
            have bb3 := Lib.hid (bbM.out.next hBM)
            clear hBM hC hjt
            go_wp2_with fail
            go_loopg [182] 3 (fun gg s182 wr => ∃ i : Nat, i ≤ 3 ∧ 3 - i ≤ gg ∧ s182 = .int .i64 i ∧ Aside (Below w.heap.size w wr ∧ ∃ vv, UD wr w.heap.size true v vv []))
            case atStart => exact ⟨0, Nat.zero_le _, by omega, rfl, E3.out, _, bb3.out⟩
            case round =>
              obtain ⟨i, hi, hgi, rfl, A⟩ := hrel
              clear E3 bb3
              obtain ⟨hE, vv, h1⟩ := A.out
              obtain ⟨a0, m0, c0, rfl⟩ := Ty.shape3 h1.tw
              have E0 := Lib.hid hE
              have bb0 := Lib.hid h1
              clear A h1 hE
              by_cases hit : i < 3
              · have hiz : (i : Int) < 3 := by omega
                obtain ⟨bbx0, bbx1, bbx2, bbx3, bbx4, bbx5⟩ := threeBlk (bb0.out).blk
                have bbxb := blk_lt (bb0.out).blk
                go_wp2_with fail
                have h1 := lookBd_c true v i 0 _ [] _ bb0.out.tw.rd (by unfold WfW; decide) (by decide)
                rw [look_up v i (by omega)] at h1
                refine h1.mono ?_
                clear h1
                rintro e w1 ⟨vw1, rfl, tw1, b1⟩
                obtain ⟨wa1, wm1, wc1, rfl⟩ := Ty.shape3 tw1
                clear bbx0 bbx1 bbx2 bbx3 bbx4 bbx5 bbxb
                obtain ⟨bbx0, bbx1, bbx2, bbx3, bbx4, bbx5⟩ := threeBlk (bb0.out.next b1).blk
                have bbxb := blk_lt (bb0.out.next b1).blk
                have bb1 := Lib.hid ((bb0.out.next b1).alloc (.cells #[.bool true, .int .u8 v, .slice wa1 wm1 wc1] 131))
                have cc1 := Lib.hid (UD.new (h := true) (x := v) tw1)
                have z1 := E0.out.trans (b1.mono E0.out.size)
                have E1 := Lib.hid (z1.alloc z1.size (.cells #[.bool true, .int .u8 v, .slice wa1 wm1 wc1] 131))
                have gecc : w.heap.size ≤ w1.heap.size := z1.size
                have nbbcc : w.heap.size ≠ w1.heap.size := Nat.ne_of_lt bbxb
                have nccbb : w1.heap.size ≠ w.heap.size := Nat.ne_of_gt bbxb
                clear tw1 b1 z1 E0 bb0
                go_wp2_with fail
                refine (sameBd_c true v _ _ [] _ bb1.out.tw.rd cc1.out.tw.rd (by decide)).mono ?_
                rintro e w2 ⟨rfl, b2⟩
                clear bbx0 bbx1 bbx2 bbx3 bbx4 bbx5 bbxb
                have bb2 := Lib.hid (bb1.out.next b2)
                have cc2 := Lib.hid (cc1.out.next b2)
                have E2 := Lib.hid (E1.out.trans (b2.mono E1.out.size))
                clear b2 E1 bb1 cc1
                obtain ⟨bbx0, bbx1, bbx2, bbx3, bbx4, bbx5⟩ := threeBlk (bb2.out).blk
                have bbxb := blk_lt (bb2.out).blk
                obtain ⟨ccx0, ccx1, ccx2, ccx3, ccx4, ccx5⟩ := threeBlk (cc2.out).blk
                have ccxb := blk_lt (cc2.out).blk
                go_wp2_with fail
                go_roundg (3 - (i + 1))
                case measure => omega
                case rel => exact ⟨i + 1, by omega, by omega, by go_num, E2.out, _, bb2.out⟩
              · have hiz : ¬ (i : Int) < 3 := by omega
                clear hit
                obtain ⟨bbx0, bbx1, bbx2, bbx3, bbx4, bbx5⟩ := threeBlk (bb0.out).blk
                have bbxb := blk_lt (bb0.out).blk
                go_wp2_with fail
                have h1 := showBd_c true v y _ [] _ bb0.out.tw.rd (by unfold WfW; decide) (by decide)
                rw [show_up v y] at h1
                refine h1.mono ?_
                clear h1
                rintro e w1 ⟨vw1, vu1, rfl, tw1, ou1, b1⟩
                obtain ⟨wa1, wm1, wc1, rfl⟩ := Ty.shape3 tw1
                obtain ⟨ua1, um1, uc1, rfl, hum1⟩ := own_shape ou1
                clear bbx0 bbx1 bbx2 bbx3 bbx4 bbx5 bbxb
                obtain ⟨bbx0, bbx1, bbx2, bbx3, bbx4, bbx5⟩ := threeBlk (bb0.out.next b1).blk
                have bbxb := blk_lt (bb0.out.next b1).blk
                have bb1 := Lib.hid ((bb0.out.next b1).put tw1 true y)
                have z1 := E0.out.trans (b1.mono E0.out.size)
                have E1 := Lib.hid (putD_below (g := w.heap.size) z1 (by omega) (.bool true) (.int .u8 y) (.slice wa1 wm1 wc1))
                obtain rfl : um1 = 0 := hum1
                clear tw1 ou1 b1 z1 E0 bb0
                go_wp2_with fail
                have h2 := lookBd_c true y 0 0 _ [] _ bb1.out.tw.rd (by unfold WfW; decide) (by decide)
                rw [look_up y 0 (by decide)] at h2
                refine h2.mono ?_
                clear h2
                rintro e w2 ⟨vw2, rfl, tw2, b2⟩
                obtain ⟨wa2, wm2, wc2, rfl⟩ := Ty.shape3 tw2
                clear bbx0 bbx1 bbx2 bbx3 bbx4 bbx5 bbxb
                obtain ⟨bbx0, bbx1, bbx2, bbx3, bbx4, bbx5⟩ := threeBlk (bb1.out.next b2).blk
                have bbxb := blk_lt (bb1.out.next b2).blk
                have bb2 := Lib.hid ((bb1.out.next b2).alloc (.cells #[.bool true, .int .u8 y, .slice wa2 wm2 wc2] 131))
                have z12 := Lib.hid (UD.new (h := true) (x := y) tw2)
                have z2 := E1.out.trans (b2.mono E1.out.size)
                have E2 := Lib.hid (z2.alloc z2.size (.cells #[.bool true, .int .u8 y, .slice wa2 wm2 wc2] 131))
                have gez1 : w.heap.size ≤ w2.heap.size := z2.size
                have nbbz1 : w.heap.size ≠ w2.heap.size := Nat.ne_of_lt bbxb
                have nz1bb : w2.heap.size ≠ w.heap.size := Nat.ne_of_gt bbxb
                clear tw2 b2 z2 E1 bb1
                clear z12
                go_wp2_with fail
                have h3 := clearBd_c true y  _ [] _ bb2.out.tw.rd (by unfold WfW; decide) (by decide)
                rw [clear_up y] at h3
                refine h3.mono ?_
                clear h3
                rintro e w3 ⟨vw3, rfl, tw3, b3⟩
                obtain ⟨wa3, wm3, wc3, rfl⟩ := Ty.shape3 tw3
                clear bbx0 bbx1 bbx2 bbx3 bbx4 bbx5 bbxb
                obtain ⟨bbx0, bbx1, bbx2, bbx3, bbx4, bbx5⟩ := threeBlk (bb2.out.next b3).blk
                have bbxb := blk_lt (bb2.out.next b3).blk
                have bb3 := Lib.hid ((bb2.out.next b3).alloc (.cells #[.bool false, .int .u8 0, .slice wa3 wm3 wc3] 131))
                have cc3 := Lib.hid (UD.new (h := false) (x := 0) tw3)
                have z3 := E2.out.trans (b3.mono E2.out.size)
                have E3 := Lib.hid (z3.alloc z3.size (.cells #[.bool false, .int .u8 0, .slice wa3 wm3 wc3] 131))
                have gecc : w.heap.size ≤ w3.heap.size := z3.size
                have nbbcc : w.heap.size ≠ w3.heap.size := Nat.ne_of_lt bbxb
                have nccbb : w3.heap.size ≠ w.heap.size := Nat.ne_of_gt bbxb
                clear tw3 b3 z3 E2 bb2
                go_wp2_with fail
                have h4 := lookBd_c false 0 0 0 _ [] _ cc3.out.tw.rd (by unfold WfW; decide) (by decide)
                rw [look_new] at h4
                refine h4.mono ?_
                clear h4
                rintro e w4 ⟨vw4, rfl, tw4, b4⟩
                obtain ⟨wa4, wm4, wc4, rfl⟩ := Ty.shape3 tw4
                clear bbx0 bbx1 bbx2 bbx3 bbx4 bbx5 bbxb
                obtain ⟨bbx0, bbx1, bbx2, bbx3, bbx4, bbx5⟩ := threeBlk (bb3.out.next b4).blk
                have bbxb := blk_lt (bb3.out.next b4).blk
                obtain ⟨ccx0, ccx1, ccx2, ccx3, ccx4, ccx5⟩ := threeBlk (cc3.out.next b4).blk
                have ccxb := blk_lt (cc3.out.next b4).blk
                have bb4 := Lib.hid ((bb3.out.next b4).alloc (.cells #[.bool false, .int .u8 0, .slice wa4 wm4 wc4] 131))
                have cc4 := Lib.hid ((cc3.out.next b4).alloc (.cells #[.bool false, .int .u8 0, .slice wa4 wm4 wc4] 131))
                have z24 := Lib.hid (UD.new (h := false) (x := 0) tw4)
                have z4 := E3.out.trans (b4.mono E3.out.size)
                have E4 := Lib.hid (z4.alloc z4.size (.cells #[.bool false, .int .u8 0, .slice wa4 wm4 wc4] 131))
                have gez2 : w.heap.size ≤ w4.heap.size := z4.size
                have nbbz2 : w.heap.size ≠ w4.heap.size := Nat.ne_of_lt bbxb
                have nz2bb : w4.heap.size ≠ w.heap.size := Nat.ne_of_gt bbxb
                have nccz2 : w3.heap.size ≠ w4.heap.size := Nat.ne_of_lt ccxb
                have nz2cc : w4.heap.size ≠ w3.heap.size := Nat.ne_of_gt ccxb
                clear tw4 b4 z4 E3 bb3 cc3
                clear z24
                go_wp2_with fail
                refine (awake24_c _).mono ?_
                rintro e wz ⟨rfl, bz⟩
                have EZ := Lib.hid (E4.out.trans (bz.mono E4.out.size))
                clear bz
                go_wp2_with fail
                go_ret
                exact ⟨rfl, EZ.out⟩
end Go.Proofs.Ytglbfmcbojjglaa

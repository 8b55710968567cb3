/-
  SemaCancels: for every list of priorities and every number the call returns true, and nothing that was there before has turned. No conditions but that the list can be read.
-/
import Derived.Test.YtglbfmcbojjglaaAwake25
import Derived.Test.YtglbfmcbojjglaaPlainC
import Derived.Deep.DeepCutAuto
namespace Go.Proofs.Ytglbfmcbojjglaa
open Go.RowKit

set_option maxHeartbeats 4000000 in
set_option maxRecDepth 100000 in
theorem semaCancels_c (v : Value) (zs : List Int) (out : Int) (w : World) (h : RdI .u8 w 0 v zs) (hz : ∀ z ∈ zs, 0 ≤ z ∧ z ≤ 255) (hl : zs.length ≤ 9223372036854775807) (ho : 0 ≤ out ∧ out ≤ 255) :
    Calls Try.prog 15 #[v, .int .u8 out] w fun e w' => e = .returned (.bool true) ∧ Below w.heap.size w w' := by
  obtain ⟨ao, ca, rfl, hca, hna, pa⟩ := h.open_
  clear h
  have HZ := Lib.hid hz
  have HPA := Lib.hid pa
  have ho0 : 0 ≤ out := ho.1
  have ho1 : out ≤ 255 := ho.2
  clear hz pa ho
  go_enter Try.func15, Try.ntmps15
  go_upto_region 1 with (fail)
  go_cut [0] (fun s0 wx => ∃ n : Nat, s0 = .slice ao n ca ∧ n ≤ 10 ∧ n ≤ zs.length ∧ w = wx)
  case first =>
    by_cases h10 : zs.length ≤ 10
    · have hi : (zs.length : Int) ≤ 10 := by omega
      go_wp2
      go_meet
      exact ⟨zs.length, rfl, h10, Nat.le_refl _, rfl⟩
    · have hi : ¬ (zs.length : Int) ≤ 10 := by omega
      go_wp2
      go_meet
      exact ⟨10, rfl, Nat.le_refl _, by omega, rfl⟩
  case rest =>
    obtain ⟨n, rfl, hn1, hn2, rfl⟩ := hcut
    by_cases hn0 : n = 0
    · have hq : ((n : Int) == 0) = true := by simp [hn0]
      have hq2 : (n == 0) = true := by simp [hn0]
      clear hn0
      go_wp2_with fail
      refine (awake25_c _).mono ?_
      rintro e w9 ⟨rfl, b9⟩
      have HB9 := Lib.hid b9
      clear b9
      go_wp2_with fail
      go_ret
      exact ⟨rfl, HB9.out⟩
    · have hq : ((n : Int) == 0) = false := by simp [hn0]
      have hq2 : (n == 0) = false := by simp [hn0]
      have hn3 : 1 ≤ (n : Int) := by omega
      have hcell : Hid (∀ k (hk : k < n), ∃ b off, ao = some ⟨b, off, none⟩ ∧ b < w.heap.size ∧ w.cell? ⟨b, off + k, none⟩ = some (.int .u8 (zs.getD k 0)) ∧ 0 ≤ zs.getD k 0 ∧ zs.getD k 0 ≤ 255) := fun k hk => by
        obtain ⟨b, off, h1, _, h3, h4⟩ := HPA.out (by omega)
        have h5 : zs.getD k 0 = zs[k]'(by omega) := by simp [List.getD, List.getElem?_eq_getElem (show k < zs.length by omega)]
        rw [h5]
        exact ⟨b, off, h1, h3, h4 k (by omega), HZ.out _ (List.getElem_mem _)⟩
      obtain ⟨gn, hgn⟩ : ∃ gn : Nat, out % (n : Int) = (gn : Int) := ⟨_, (Int.toNat_of_nonneg (Int.emod_nonneg _ (by omega))).symm⟩
      have hgl : gn < n := by have := Int.emod_lt_of_pos out (show (0 : Int) < n by omega); omega
      clear HPA hn0
      go_wp2_with fail
      rw [hgn]
      go_loopg [42] n (fun gg s42 wr => ∃ k : Nat, k ≤ n ∧ n - k ≤ gg ∧ s42 = .int .i64 k ∧ Aside (Below w.heap.size w wr ∧ w.heap.size + 4 ≤ wr.heap.size ∧ ∃ y1 y2 y3 y4, LS wr (w.heap.size + 4) w.heap.size 71 (.int .i64 0) y1 (lst zs k) ∧ LS wr (w.heap.size + 4) (w.heap.size + 1) 71 (.int .i64 0) y2 (leaveW (lst zs k) (gn : Int)) ∧ LS wr (w.heap.size + 4) (w.heap.size + 1 + 1) 73 (.bool false) y3 (lst zs k) ∧ LS wr (w.heap.size + 4) (w.heap.size + 1 + 1 + 1) 73 (.bool false) y4 (leaveW (lst zs k) (gn : Int))))
      case atStart =>
        refine ⟨0, Nat.zero_le _, by omega, rfl, ((((Below.refl _ w).alloc (Nat.le_refl _) _).alloc (by simp) _).alloc (by simp; omega) _).alloc (by simp; omega) _, by simp, .slice none 0 0, .slice none 0 0, .slice none 0 0, .slice none 0 0, ?_, ?_, ?_, ?_⟩
        · exact (((LS.mk (heap_alloc_new w _) (by omega) (FrW.nil _ _)).alloc _).alloc _).alloc _
        · exact ((LS.mk (by have := heap_alloc_new (w.alloc (.cells #[.int .i64 0, .slice none 0 0] 71)) (.cells #[.int .i64 0, .slice none 0 0] 71); simpa using this) (by omega) (FrW.nil _ _)).alloc _).alloc _
        · exact (LS.mk (by have := heap_alloc_new ((w.alloc (.cells #[.int .i64 0, .slice none 0 0] 71)).alloc (.cells #[.int .i64 0, .slice none 0 0] 71)) (.cells #[.bool false, .slice none 0 0] 73); simpa using this) (by omega) (FrW.nil _ _)).alloc _
        · exact LS.mk (by have := heap_alloc_new (((w.alloc (.cells #[.int .i64 0, .slice none 0 0] 71)).alloc (.cells #[.int .i64 0, .slice none 0 0] 71)).alloc (.cells #[.bool false, .slice none 0 0] 73)) (.cells #[.bool false, .slice none 0 0] 73); simpa using this) (by omega) (FrW.nil _ _)
      case round =>
        obtain ⟨k, hk, hg, rfl, A⟩ := hrel
        obtain ⟨hB, hS, y1, y2, y3, y4, L1, L2, L3, L4⟩ := A.out
        have G := good_lst zs k
        have hgw : Hid ((WfW (lst zs k) ∧ (lst zs k).length ≤ 90000) ∧ WfW (leaveW (lst zs k) (gn : Int)) ∧ (leaveW (lst zs k) (gn : Int)).length ≤ 90000) := ⟨⟨G.wf (by omega), by rw [G.len]; omega⟩, ((leave_valid zs gn k).resolve_right (by omega)).2.2.2, by have := leave_length (lst zs k) (gn : Int); have := G.len; omega⟩
        clear G A
        have AL0 := Lib.hid L1
        have SO0 := Lib.hid L2
        have UP0 := Lib.hid L3
        have FE0 := Lib.hid L4
        have HB0 := Lib.hid hB
        have HS0 := Lib.hid hS
        obtain ⟨aA, mA, cA, rfl, hmmA⟩ := fr_shape L1.fr
        clear hmmA
        obtain ⟨aS, mS, cS, rfl, hmmS⟩ := fr_shape L2.fr
        clear hmmS
        obtain ⟨aU, mU, cU, rfl, hmmU⟩ := fr_shape L3.fr
        clear hmmU
        obtain ⟨aF, mF, cF, rfl, hmmF⟩ := fr_shape L4.fr
        clear hmmF
        obtain ⟨x0, x1, x2, x3⟩ := L1.cells
        have xs := blk_lt L1.blk
        by_cases hlt : k < n
        · have hltz : (k : Int) < (n : Int) := by omega
          obtain ⟨b, off, rfl, hbs, c0, hp0, hp1⟩ := hcell.out k hlt
          rw [← hB.cell (p := ⟨b, _, none⟩) hbs] at c0
          have hbw : b < wr.heap.size := Nat.lt_of_lt_of_le hbs hB.size
          clear L1 L2 L3 L4 hB
          generalize hpk : zs.getD k 0 = pk at c0 hp0 hp1
          have HPK := Lib.hid hpk
          clear hpk
          go_wp2_with fail
          have h1 := waitS_c 0 k (zs.getD k 0) _ (lst zs k) _ AL0.out.fr.rd hgw.out.1.1 hgw.out.1.2
          rw [wait_lst, HPK.out] at h1
          refine h1.mono ?_
          clear h1
          rintro e w1 ⟨v1, rfl, f1, b1⟩
          obtain ⟨a1, m1, c1, rfl, hm1⟩ := fr_shape f1
          have hs1 : w.heap.size + 4 ≤ w1.heap.size := Nat.le_trans HS0.out b1.size
          have AL1 := Lib.hid ((AL0.out.next b1).put (x' := .int .i64 0) (f1.mono HS0.out))
          have SO1 := Lib.hid (((SO0.out.next b1).oth (g' := w.heap.size) (o := 0) (u := .int .i64 0) (by omega) (by omega)).oth (g' := w.heap.size) (o := 1) (u := .slice a1 m1 c1) (by omega) (by omega))
          have UP1 := Lib.hid (((UP0.out.next b1).oth (g' := w.heap.size) (o := 0) (u := .int .i64 0) (by omega) (by omega)).oth (g' := w.heap.size) (o := 1) (u := .slice a1 m1 c1) (by omega) (by omega))
          have FE1 := Lib.hid (((FE0.out.next b1).oth (g' := w.heap.size) (o := 0) (u := .int .i64 0) (by omega) (by omega)).oth (g' := w.heap.size) (o := 1) (u := .slice a1 m1 c1) (by omega) (by omega))
          have HB1 := Lib.hid (((HB0.out.trans (b1.mono HB0.out.size)).setCell (p := ⟨w.heap.size, 0, none⟩) (by show _ ≤ w.heap.size; omega) (.int .i64 0)).setCell (p := ⟨w.heap.size, 1, none⟩) (by show _ ≤ w.heap.size; omega) (.slice a1 m1 c1))
          have HS1 : Hid (w.heap.size + 4 ≤ (((w1.setCell ⟨w.heap.size, 0, none⟩ (.int .i64 0)).setCell ⟨w.heap.size, 1, none⟩ (.slice a1 m1 c1)).heap.size)) := by show _ ≤ _; simp only [World.setCell, Array.size_modify]; exact hs1
          obtain ⟨xAL10, xAL11, xAL12, xAL13⟩ := (AL0.out.next b1).cells
          have bsAL1 := blk_lt (AL0.out.next b1).blk
          obtain ⟨xUP10, xUP11, xUP12, xUP13⟩ := (UP0.out.next b1).cells
          have bsUP1 := blk_lt (UP0.out.next b1).blk
          clear f1 b1 hm1 HB0 HS0 AL0 SO0 UP0 FE0
          go_wp2_with fail
          have h2 := untilE_c false k (zs.getD k 0) _ (lst zs k) _ UP1.out.fr.rd hgw.out.1.1 hgw.out.1.2
          rw [until_lst, HPK.out] at h2
          refine h2.mono ?_
          clear h2
          rintro e w2 ⟨v2, rfl, f2, b2⟩
          obtain ⟨a2, m2, c2, rfl, hm2⟩ := fr_shape f2
          have hs2 : w.heap.size + 4 ≤ w2.heap.size := Nat.le_trans HS1.out b2.size
          have UP2 := Lib.hid ((UP1.out.next b2).put (x' := .bool false) (f2.mono HS1.out))
          have AL2 := Lib.hid (((AL1.out.next b2).oth (g' := (w.heap.size + 1 + 1)) (o := 0) (u := .bool false) (by omega) (by omega)).oth (g' := (w.heap.size + 1 + 1)) (o := 1) (u := .slice a2 m2 c2) (by omega) (by omega))
          have SO2 := Lib.hid (((SO1.out.next b2).oth (g' := (w.heap.size + 1 + 1)) (o := 0) (u := .bool false) (by omega) (by omega)).oth (g' := (w.heap.size + 1 + 1)) (o := 1) (u := .slice a2 m2 c2) (by omega) (by omega))
          have FE2 := Lib.hid (((FE1.out.next b2).oth (g' := (w.heap.size + 1 + 1)) (o := 0) (u := .bool false) (by omega) (by omega)).oth (g' := (w.heap.size + 1 + 1)) (o := 1) (u := .slice a2 m2 c2) (by omega) (by omega))
          have HB2 := Lib.hid (((HB1.out.trans (b2.mono HB1.out.size)).setCell (p := ⟨(w.heap.size + 1 + 1), 0, none⟩) (by show _ ≤ (w.heap.size + 1 + 1); omega) (.bool false)).setCell (p := ⟨(w.heap.size + 1 + 1), 1, none⟩) (by show _ ≤ (w.heap.size + 1 + 1); omega) (.slice a2 m2 c2))
          have HS2 : Hid (w.heap.size + 4 ≤ (((w2.setCell ⟨(w.heap.size + 1 + 1), 0, none⟩ (.bool false)).setCell ⟨(w.heap.size + 1 + 1), 1, none⟩ (.slice a2 m2 c2)).heap.size)) := by show _ ≤ _; simp only [World.setCell, Array.size_modify]; exact hs2
          obtain ⟨xUP20, xUP21, xUP22, xUP23⟩ := (UP1.out.next b2).cells
          have bsUP2 := blk_lt (UP1.out.next b2).blk
          obtain ⟨xSO20, xSO21, xSO22, xSO23⟩ := (SO1.out.next b2).cells
          have bsSO2 := blk_lt (SO1.out.next b2).blk
          obtain ⟨xAL20, xAL21, xAL22, xAL23⟩ := (AL1.out.next b2).cells
          have bsAL2 := blk_lt (AL1.out.next b2).blk
          clear f2 b2 hm2 HB1 HS1 AL1 SO1 UP1 FE1
          by_cases hkg : k = gn
          · have hq3 : ((k : Int) != (gn : Int)) = false := by simp [hkg]
            have hq4 : (k != gn) = false := by simp [hkg]
            have HKG := Lib.hid hkg
            clear hkg
            go_wp2_with fail
            go_roundg (n - (k + 1))
            case measure => omega
            case rel =>
              refine ⟨k + 1, by omega, by omega, by go_num, HB2.out, HS2.out, .slice a1 m1 c1, .slice aS mS cS, .slice a2 m2 c2, .slice aF mF cF, AL2.out, ?_, UP2.out, ?_⟩
              · have := SO2.out
                rwa [leave_lst, if_pos HKG.out]
              · have := FE2.out
                rwa [leave_lst, if_pos HKG.out]
          · have hq3 : ((k : Int) != (gn : Int)) = true := by simp; omega
            have hq4 : (k != gn) = true := by simp [hkg]
            have HKG := Lib.hid hkg
            clear hkg
            go_wp2_with fail
            have h3 := waitS_c 0 k (zs.getD k 0) _ (leaveW (lst zs k) gn) _ SO2.out.fr.rd hgw.out.2.1 hgw.out.2.2
            rw [wait_leave zs gn k (by omega) HKG.out, HPK.out] at h3
            refine h3.mono ?_
            clear h3
            rintro e w3 ⟨v3, rfl, f3, b3⟩
            obtain ⟨a3, m3, c3, rfl, hm3⟩ := fr_shape f3
            have hs3 : w.heap.size + 4 ≤ w3.heap.size := Nat.le_trans HS2.out b3.size
            have SO3 := Lib.hid ((SO2.out.next b3).put (x' := .int .i64 0) (f3.mono HS2.out))
            have AL3 := Lib.hid (((AL2.out.next b3).oth (g' := (w.heap.size + 1)) (o := 0) (u := .int .i64 0) (by omega) (by omega)).oth (g' := (w.heap.size + 1)) (o := 1) (u := .slice a3 m3 c3) (by omega) (by omega))
            have UP3 := Lib.hid (((UP2.out.next b3).oth (g' := (w.heap.size + 1)) (o := 0) (u := .int .i64 0) (by omega) (by omega)).oth (g' := (w.heap.size + 1)) (o := 1) (u := .slice a3 m3 c3) (by omega) (by omega))
            have FE3 := Lib.hid (((FE2.out.next b3).oth (g' := (w.heap.size + 1)) (o := 0) (u := .int .i64 0) (by omega) (by omega)).oth (g' := (w.heap.size + 1)) (o := 1) (u := .slice a3 m3 c3) (by omega) (by omega))
            have HB3 := Lib.hid (((HB2.out.trans (b3.mono HB2.out.size)).setCell (p := ⟨(w.heap.size + 1), 0, none⟩) (by show _ ≤ (w.heap.size + 1); omega) (.int .i64 0)).setCell (p := ⟨(w.heap.size + 1), 1, none⟩) (by show _ ≤ (w.heap.size + 1); omega) (.slice a3 m3 c3))
            have HS3 : Hid (w.heap.size + 4 ≤ (((w3.setCell ⟨(w.heap.size + 1), 0, none⟩ (.int .i64 0)).setCell ⟨(w.heap.size + 1), 1, none⟩ (.slice a3 m3 c3)).heap.size)) := by show _ ≤ _; simp only [World.setCell, Array.size_modify]; exact hs3
            obtain ⟨xSO30, xSO31, xSO32, xSO33⟩ := (SO2.out.next b3).cells
            have bsSO3 := blk_lt (SO2.out.next b3).blk
            obtain ⟨xFE30, xFE31, xFE32, xFE33⟩ := (FE2.out.next b3).cells
            have bsFE3 := blk_lt (FE2.out.next b3).blk
            clear f3 b3 hm3 HB2 HS2 AL2 SO2 UP2 FE2
            go_wp2_with fail
            have h4 := untilE_c false k (zs.getD k 0) _ (leaveW (lst zs k) gn) _ FE3.out.fr.rd hgw.out.2.1 hgw.out.2.2
            rw [until_leave zs gn k (by omega) HKG.out, HPK.out] at h4
            refine h4.mono ?_
            clear h4
            rintro e w4 ⟨v4, rfl, f4, b4⟩
            obtain ⟨a4, m4, c4, rfl, hm4⟩ := fr_shape f4
            have hs4 : w.heap.size + 4 ≤ w4.heap.size := Nat.le_trans HS3.out b4.size
            have FE4 := Lib.hid ((FE3.out.next b4).put (x' := .bool false) (f4.mono HS3.out))
            have AL4 := Lib.hid (((AL3.out.next b4).oth (g' := (w.heap.size + 1 + 1 + 1)) (o := 0) (u := .bool false) (by omega) (by omega)).oth (g' := (w.heap.size + 1 + 1 + 1)) (o := 1) (u := .slice a4 m4 c4) (by omega) (by omega))
            have SO4 := Lib.hid (((SO3.out.next b4).oth (g' := (w.heap.size + 1 + 1 + 1)) (o := 0) (u := .bool false) (by omega) (by omega)).oth (g' := (w.heap.size + 1 + 1 + 1)) (o := 1) (u := .slice a4 m4 c4) (by omega) (by omega))
            have UP4 := Lib.hid (((UP3.out.next b4).oth (g' := (w.heap.size + 1 + 1 + 1)) (o := 0) (u := .bool false) (by omega) (by omega)).oth (g' := (w.heap.size + 1 + 1 + 1)) (o := 1) (u := .slice a4 m4 c4) (by omega) (by omega))
            have HB4 := Lib.hid (((HB3.out.trans (b4.mono HB3.out.size)).setCell (p := ⟨(w.heap.size + 1 + 1 + 1), 0, none⟩) (by show _ ≤ (w.heap.size + 1 + 1 + 1); omega) (.bool false)).setCell (p := ⟨(w.heap.size + 1 + 1 + 1), 1, none⟩) (by show _ ≤ (w.heap.size + 1 + 1 + 1); omega) (.slice a4 m4 c4))
            have HS4 : Hid (w.heap.size + 4 ≤ (((w4.setCell ⟨(w.heap.size + 1 + 1 + 1), 0, none⟩ (.bool false)).setCell ⟨(w.heap.size + 1 + 1 + 1), 1, none⟩ (.slice a4 m4 c4)).heap.size)) := by show _ ≤ _; simp only [World.setCell, Array.size_modify]; exact hs4
            obtain ⟨xFE40, xFE41, xFE42, xFE43⟩ := (FE3.out.next b4).cells
            have bsFE4 := blk_lt (FE3.out.next b4).blk
            clear f4 b4 hm4 HB3 HS3 AL3 SO3 UP3 FE3
            go_wp2_with fail
            go_roundg (n - (k + 1))
            case measure => omega
            case rel =>
              refine ⟨k + 1, by omega, by omega, by go_num, HB4.out, HS4.out, .slice a1 m1 c1, .slice a3 m3 c3, .slice a2 m2 c2, .slice a4 m4 c4, AL4.out, ?_, UP4.out, ?_⟩
              · exact SO4.out
              · exact FE4.out
        · have hltz : ¬ (k : Int) < (n : Int) := by omega
          obtain rfl : k = n := by omega
          clear hlt hg
          clear L1 L2 L3 L4 hB
          go_wp2_with fail
          have h5 := cancelS_c 0 gn _ (lst zs k) _ AL0.out.fr.rd hgw.out.1.1 hgw.out.1.2
          rw [(cancel_lst zs gn k).1] at h5
          refine h5.mono ?_
          clear h5
          rintro e w5 ⟨v5, rfl, f5, b5⟩
          obtain ⟨a5, m5, c5, rfl, hm5⟩ := fr_shape f5
          have TA5 := Lib.hid (LV.new (x := .int .i64 0) (t := 71) f5)
          have SO5 := Lib.hid ((SO0.out.next b5).alloc (.cells #[.int .i64 0, .slice a5 m5 c5] 71))
          have UP5 := Lib.hid ((UP0.out.next b5).alloc (.cells #[.int .i64 0, .slice a5 m5 c5] 71))
          have FE5 := Lib.hid ((FE0.out.next b5).alloc (.cells #[.int .i64 0, .slice a5 m5 c5] 71))
          have hb5 := HB0.out.trans (b5.mono HB0.out.size)
          have HB5 := Lib.hid (hb5.alloc hb5.size (.cells #[.int .i64 0, .slice a5 m5 c5] 71))
          obtain ⟨xTA50, xTA51, xTA52, xTA53⟩ := TA5.out.cells
          have bsTA5 := blk_lt TA5.out.blk
          clear f5 b5 hm5 hb5 HB0 SO0 UP0 FE0
          go_wp2_with fail
          have h6 := cancelS_c 0 gn _ (leaveW (lst zs k) gn) _ TA5.out.fr.rd hgw.out.2.1 hgw.out.2.2
          rw [(cancel_leave zs gn k (by omega)).1] at h6
          refine h6.mono ?_
          clear h6
          rintro e w6 ⟨v6, rfl, f6, b6⟩
          obtain ⟨a6, m6, c6, rfl, hm6⟩ := fr_shape f6
          have TB6 := Lib.hid (LV.new (x := .int .i64 0) (t := 71) f6)
          have TA6 := Lib.hid ((TA5.out.next b6).alloc (.cells #[.int .i64 0, .slice a6 m6 c6] 71))
          have SO6 := Lib.hid ((SO5.out.next b6).alloc (.cells #[.int .i64 0, .slice a6 m6 c6] 71))
          have UP6 := Lib.hid ((UP5.out.next b6).alloc (.cells #[.int .i64 0, .slice a6 m6 c6] 71))
          have FE6 := Lib.hid ((FE5.out.next b6).alloc (.cells #[.int .i64 0, .slice a6 m6 c6] 71))
          have hb6 := HB5.out.trans (b6.mono HB5.out.size)
          have HB6 := Lib.hid (hb6.alloc hb6.size (.cells #[.int .i64 0, .slice a6 m6 c6] 71))
          obtain ⟨xUP60, xUP61, xUP62, xUP63⟩ := (UP5.out.next b6).cells
          have bsUP6 := blk_lt (UP5.out.next b6).blk
          clear f6 b6 hm6 hb6 HB5 TA5 SO5 UP5 FE5
          go_wp2_with fail
          have h7 := cancelE_c false gn _ (lst zs k) _ UP6.out.fr.rd hgw.out.1.1 hgw.out.1.2
          rw [(cancel_lst zs gn k).2] at h7
          refine h7.mono ?_
          clear h7
          rintro e w7 ⟨v7, rfl, f7, b7⟩
          obtain ⟨a7, m7, c7, rfl, hm7⟩ := fr_shape f7
          have TC7 := Lib.hid (LV.new (x := .bool false) (t := 73) f7)
          have TA7 := Lib.hid ((TA6.out.next b7).alloc (.cells #[.bool false, .slice a7 m7 c7] 73))
          have TB7 := Lib.hid ((TB6.out.next b7).alloc (.cells #[.bool false, .slice a7 m7 c7] 73))
          have SO7 := Lib.hid ((SO6.out.next b7).alloc (.cells #[.bool false, .slice a7 m7 c7] 73))
          have FE7 := Lib.hid ((FE6.out.next b7).alloc (.cells #[.bool false, .slice a7 m7 c7] 73))
          have hb7 := HB6.out.trans (b7.mono HB6.out.size)
          have HB7 := Lib.hid (hb7.alloc hb7.size (.cells #[.bool false, .slice a7 m7 c7] 73))
          obtain ⟨xTC70, xTC71, xTC72, xTC73⟩ := TC7.out.cells
          have bsTC7 := blk_lt TC7.out.blk
          clear f7 b7 hm7 hb7 HB6 TA6 TB6 SO6 FE6
          go_wp2_with fail
          have h8 := cancelE_c false gn _ (leaveW (lst zs k) gn) _ TC7.out.fr.rd hgw.out.2.1 hgw.out.2.2
          rw [(cancel_leave zs gn k (by omega)).2] at h8
          refine h8.mono ?_
          clear h8
          rintro e w8 ⟨v8, rfl, f8, b8⟩
          obtain ⟨a8, m8, c8, rfl, hm8⟩ := fr_shape f8
          have TD8 := Lib.hid (LV.new (x := .bool false) (t := 73) f8)
          have TA8 := Lib.hid ((TA7.out.next b8).alloc (.cells #[.bool false, .slice a8 m8 c8] 73))
          have TB8 := Lib.hid ((TB7.out.next b8).alloc (.cells #[.bool false, .slice a8 m8 c8] 73))
          have TC8 := Lib.hid ((TC7.out.next b8).alloc (.cells #[.bool false, .slice a8 m8 c8] 73))
          have SO8 := Lib.hid ((SO7.out.next b8).alloc (.cells #[.bool false, .slice a8 m8 c8] 73))
          have FE8 := Lib.hid ((FE7.out.next b8).alloc (.cells #[.bool false, .slice a8 m8 c8] 73))
          have hb8 := HB7.out.trans (b8.mono HB7.out.size)
          have HB8 := Lib.hid (hb8.alloc hb8.size (.cells #[.bool false, .slice a8 m8 c8] 73))
          obtain ⟨xTA80, xTA81, xTA82, xTA83⟩ := (TA7.out.next b8).cells
          have bsTA8 := blk_lt (TA7.out.next b8).blk
          obtain ⟨xSO80, xSO81, xSO82, xSO83⟩ := (SO7.out.next b8).cells
          have bsSO8 := blk_lt (SO7.out.next b8).blk
          clear f8 b8 hm8 hb8 HB7 TA7 TB7 TC7 SO7 FE7
          go_wp2_with fail
          refine (sameS_c 0 0 _ _ _ _ _ TA8.out.fr.rd (SO8.out.fr.mono (Nat.zero_le _)).rd (by have := hgw.out.2.2; omega) (by have := hgw.out.2.2; omega)).mono ?_
          rintro e w9 ⟨rfl, b9⟩
          rw [show decide ((0 : Int) = 0 ∧ leaveW (lst zs k) (gn : Int) = leaveW (lst zs k) (gn : Int)) = true from by simp]
          have HB9 := Lib.hid (HB8.out.trans (b9.mono HB8.out.size))
          have TA9 := Lib.hid (TA8.out.next b9)
          have TB9 := Lib.hid (TB8.out.next b9)
          have TC9 := Lib.hid (TC8.out.next b9)
          have TD9 := Lib.hid (TD8.out.next b9)
          have FE9 := Lib.hid (FE8.out.next b9)
          obtain ⟨xTB90, xTB91, xTB92, xTB93⟩ := TB9.out.cells
          have bsTB9 := blk_lt TB9.out.blk
          obtain ⟨xTA90, xTA91, xTA92, xTA93⟩ := TA9.out.cells
          have bsTA9 := blk_lt TA9.out.blk
          clear b9 HB8 TA8 TB8 TC8 TD8 FE8
          go_wp2_with fail
          refine (sameS_c 0 0 _ _ _ _ _ TB9.out.fr.rd TA9.out.fr.rd (by have := hgw.out.2.2; omega) (by have := hgw.out.2.2; omega)).mono ?_
          rintro e w10 ⟨rfl, b10⟩
          rw [show decide ((0 : Int) = 0 ∧ leaveW (lst zs k) (gn : Int) = leaveW (lst zs k) (gn : Int)) = true from by simp]
          have HB10 := Lib.hid (HB9.out.trans (b10.mono HB9.out.size))
          have TC10 := Lib.hid (TC9.out.next b10)
          have TD10 := Lib.hid (TD9.out.next b10)
          have FE10 := Lib.hid (FE9.out.next b10)
          obtain ⟨xTC100, xTC101, xTC102, xTC103⟩ := TC10.out.cells
          have bsTC10 := blk_lt TC10.out.blk
          obtain ⟨xFE100, xFE101, xFE102, xFE103⟩ := FE10.out.cells
          have bsFE10 := blk_lt FE10.out.blk
          clear b10 HB9 TC9 TD9 FE9
          go_wp2_with fail
          refine (sameE_c false false _ _ _ _ _ TC10.out.fr.rd (FE10.out.fr.mono (Nat.zero_le _)).rd (by have := hgw.out.2.2; omega) (by have := hgw.out.2.2; omega)).mono ?_
          rintro e w11 ⟨rfl, b11⟩
          rw [show decide (false = false ∧ leaveW (lst zs k) (gn : Int) = leaveW (lst zs k) (gn : Int)) = true from by simp]
          have HB11 := Lib.hid (HB10.out.trans (b11.mono HB10.out.size))
          have TC11 := Lib.hid (TC10.out.next b11)
          have TD11 := Lib.hid (TD10.out.next b11)
          obtain ⟨xTC110, xTC111, xTC112, xTC113⟩ := TC11.out.cells
          have bsTC11 := blk_lt TC11.out.blk
          obtain ⟨xTD110, xTD111, xTD112, xTD113⟩ := TD11.out.cells
          have bsTD11 := blk_lt TD11.out.blk
          clear b11 HB10 TC10 TD10
          go_wp2_with fail
          refine (sameE_c false false _ _ _ _ _ TD11.out.fr.rd TC11.out.fr.rd (by have := hgw.out.2.2; omega) (by have := hgw.out.2.2; omega)).mono ?_
          rintro e w12 ⟨rfl, b12⟩
          rw [show decide (false = false ∧ leaveW (lst zs k) (gn : Int) = leaveW (lst zs k) (gn : Int)) = true from by simp]
          have HB12 := Lib.hid (HB11.out.trans (b12.mono HB11.out.size))
          clear b12 HB11 
          go_wp2_with fail
          refine (awake25_c _).mono ?_
          rintro e w13 ⟨rfl, b13⟩
          have HB13 := Lib.hid (HB12.out.trans (b13.mono HB12.out.size))
          clear b13
          go_wp2_with fail
          go_ret
          exact ⟨rfl, HB13.out⟩
end Go.Proofs.Ytglbfmcbojjglaa

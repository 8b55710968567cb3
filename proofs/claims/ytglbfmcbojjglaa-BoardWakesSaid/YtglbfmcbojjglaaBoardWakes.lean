/-
  BoardWakes: for every list of priorities and every byte the call returns true, and nothing that was there before has turned. No conditions but that the list can be read.
-/
import Derived.Test.YtglbfmcbojjglaaBdD
import Derived.Test.YtglbfmcbojjglaaPlainI
import Derived.Deep.DeepCutAuto
namespace Go.Proofs.Ytglbfmcbojjglaa
open Go.RowKit

/-- Two variables are written, in either order. -/
theorem two_put {W : World} {g1 g2 B : Nat} {n1 n2 : Int} {vd1 vp1 vg1 vd2 vp2 vg2 xd xp xg yd yp yg : Value} {d1 d2 d d' : List Int} {p1 q1 p2 q2 p q p' q' : List Wt} (f : UB W g1 n1 vd1 vp1 vg1 d1 p1 q1) (e : UB W g2 n2 vd2 vp2 vg2 d2 p2 q2) (hne : g1 ≠ g2)
    (a1 : TyB W 0 xd d) (a2 : TyW W 0 xp p) (a3 : TyW W 0 xg q) (b1 : TyB W B yd d') (b2 : TyW W B yp p') (b3 : TyW W B yg q') (X : Obj) :
    (UB ((put4 (put4 W g1 (.int .i64 1) xd xp xg) g2 (.int .i64 1) yd yp yg).alloc X).drew g1 1 xd xp xg d p q ∧ UB ((put4 (put4 W g1 (.int .i64 1) xd xp xg) g2 (.int .i64 1) yd yp yg).alloc X).drew g2 1 yd yp yg d' p' q') ∧
    (UB ((put4 (put4 W g2 (.int .i64 1) yd yp yg) g1 (.int .i64 1) xd xp xg).alloc X).drew g1 1 xd xp xg d p q ∧ UB ((put4 (put4 W g2 (.int .i64 1) yd yp yg) g1 (.int .i64 1) xd xp xg).alloc X).drew g2 1 yd yp yg d' p' q') := by
  have f1 := f.put a1 a2 a3 1
  have e1 := e.far4 f.blk (Ne.symm hne) (.int .i64 1) xd xp xg
  have e2 := e1.put (Ty.put4 b1 f.blk (by decide) (.int .i64 1) xd xp xg) (Ty.put4 b2 f.blk (by decide) (.int .i64 1) xd xp xg) (Ty.put4 b3 f.blk (by decide) (.int .i64 1) xd xp xg) 1
  have f2 := f1.far4 e1.blk hne (.int .i64 1) yd yp yg
  have e3 := e.put b1 b2 b3 1
  have f3 := f.far4 e.blk hne (.int .i64 1) yd yp yg
  have f4 := f3.put (Ty.put4 a1 e.blk (by decide) (.int .i64 1) yd yp yg) (Ty.put4 a2 e.blk (by decide) (.int .i64 1) yd yp yg) (Ty.put4 a3 e.blk (by decide) (.int .i64 1) yd yp yg) 1
  have e4 := e3.far4 f3.blk (Ne.symm hne) (.int .i64 1) xd xp xg
  exact ⟨⟨(f2.alloc X).drew, (e2.alloc X).drew⟩, ⟨(f4.alloc X).drew, (e4.alloc X).drew⟩⟩
theorem two_put0 {W : World} {g1 g2 B : Nat} {n1 n2 : Int} {vd1 vp1 vg1 vd2 vp2 vg2 xd xp xg yd yp yg : Value} {d1 d2 d d' : List Int} {p1 q1 p2 q2 p q p' q' : List Wt} (f : UB W g1 n1 vd1 vp1 vg1 d1 p1 q1) (e : UB W g2 n2 vd2 vp2 vg2 d2 p2 q2) (hne : g1 ≠ g2)
    (a1 : TyB W 0 xd d) (a2 : TyW W 0 xp p) (a3 : TyW W 0 xg q) (b1 : TyB W B yd d') (b2 : TyW W B yp p') (b3 : TyW W B yg q') :
    UB (put4 (put4 W g1 (.int .i64 1) xd xp xg) g2 (.int .i64 1) yd yp yg) g1 1 xd xp xg d p q ∧ UB (put4 (put4 W g1 (.int .i64 1) xd xp xg) g2 (.int .i64 1) yd yp yg) g2 1 yd yp yg d' p' q' := by
  have f1 := f.put a1 a2 a3 1
  have e1 := e.far4 f.blk (Ne.symm hne) (.int .i64 1) xd xp xg
  have e2 := e1.put (Ty.put4 b1 f.blk (by decide) (.int .i64 1) xd xp xg) (Ty.put4 b2 f.blk (by decide) (.int .i64 1) xd xp xg) (Ty.put4 b3 f.blk (by decide) (.int .i64 1) xd xp xg) 1
  exact ⟨f1.far4 e1.blk hne (.int .i64 1) yd yp yg, e2⟩
theorem two_below {w W : World} {g1 g2 : Nat} (h : Below w.heap.size w W) (h1 : w.heap.size ≤ g1) (h2 : w.heap.size ≤ g2) (a b c d a' b' c' d' : Value) (X : Obj) : Below w.heap.size w ((put4 (put4 W g1 a b c d) g2 a' b' c' d').alloc X).drew := by
  have := put4_below (put4_below h h1 a b c d) h2 a' b' c' d'
  exact (this.alloc this.size X).drew

set_option maxHeartbeats 8000000 in
set_option maxRecDepth 100000 in
theorem boardWakes_c (vz : Value) (zs : List Int) (f : Int) (w : World) (h : RdI .u8 w 0 vz zs) (hz : ∀ z ∈ zs, 0 ≤ z ∧ z ≤ 255) (hl : zs.length ≤ 9223372036854775807) :
    Calls Try.prog 17 #[vz, .int .u8 f] w fun e w' => e = .returned (.bool true) ∧ Below w.heap.size w w' := by
  obtain ⟨ao, ca, rfl, hca, hna, pa⟩ := h.open_
  have HZ := Lib.hid hz
  have HPA := Lib.hid pa
  clear h hz pa
  go_enter Try.func17, Try.ntmps17
  go_upto_region 1 with (fail)
  go_cut [0] (fun s0 wx => ∃ n : Nat, s0 = .slice ao n ca ∧ n ≤ 10 ∧ n ≤ zs.length ∧ w = wx)
  case first =>
    by_cases h10 : zs.length ≤ 10
    · have hi : (zs.length : Int) ≤ 10 := by omega
      go_wp2
      go_meet
      exact ⟨zs.length, rfl, h10, Nat.le_refl _, rfl⟩
    · have hi : ¬ (zs.length : Int) ≤ 10 := by omega
      go_wp2
      go_meet
      exact ⟨10, rfl, Nat.le_refl _, by omega, rfl⟩
  case rest =>
    obtain ⟨n, rfl, hn1, hn2, rfl⟩ := hcut
    have hcell : Hid (∀ k (hk : k < n), ∃ b off, ao = some ⟨b, off, none⟩ ∧ b < w.heap.size ∧ w.cell? ⟨b, off + k, none⟩ = some (.int .u8 (zs.getD k 0)) ∧ 0 ≤ zs.getD k 0 ∧ zs.getD k 0 ≤ 255) := fun k hk => by
      obtain ⟨b, off, h1, _, h3, h4⟩ := HPA.out (by omega)
      have h5 : zs.getD k 0 = zs[k]'(by omega) := by simp [List.getD, List.getElem?_eq_getElem (show k < zs.length by omega)]
      rw [h5]
      exact ⟨b, off, h1, h3, h4 k (by omega), HZ.out _ (List.getElem_mem _)⟩
    clear HPA HZ
    have E0 := Lib.hid (Below.refl w.heap.size w)
    go_wp2_with fail
    have h1 := putBu_c 1 90 0 f _ _ _ [] [] [] _ (RdI.nil .u8 w 0) (FrW.nil w 0).1 (FrW.nil w 0).1 (by unfold WfW; decide) (by unfold WfW; decide) (by decide) (by decide) (by decide)
    rw [put_first f] at h1
    refine h1.mono ?_
    clear h1
    rintro e w1 ⟨vd1, vp1, vg1, rfl, td1, tp1, tg1, b1⟩
    obtain ⟨da1, dm1, dc1, rfl⟩ := Ty.shape3 td1
    obtain ⟨pa1, pm1, pc1, rfl⟩ := Ty.shape3 tp1
    obtain ⟨ga1, gm1, gc1, rfl⟩ := Ty.shape3 tg1
    have ff1 := Lib.hid (UB.new (n := 1) td1 tp1 tg1)
    have z1 := E0.out.trans (b1.mono E0.out.size)
    have E1 := Lib.hid (z1.alloc z1.size (.cells #[.int .i64 1, .slice da1 dm1 dc1, .slice pa1 pm1 pc1, .slice ga1 gm1 gc1] 125))
    have geff : w.heap.size ≤ w1.heap.size := z1.size
    clear td1 tp1 tg1 b1 z1 E0 
    go_wp2_with fail
    obtain ⟨WX, hWX⟩ : ∃ WX, WX = (w1.alloc (.cells #[.int .i64 1, .slice da1 dm1 dc1, .slice pa1 pm1 pc1, .slice ga1 gm1 gc1] 125)).alloc (.cells #[.int .i64 1, .slice none 0 0, .slice none 0 0, .slice none 0 0] 125) := ⟨_, rfl⟩
    have EX : Hid (Below w.heap.size w WX) := by rw [hWX]; exact E1.out.alloc E1.out.size _
    have A1 : Hid (UB WX w1.heap.size 1 (.slice da1 dm1 dc1) (.slice pa1 pm1 pc1) (.slice ga1 gm1 gc1) [f] [] []) := by rw [hWX]; exact ff1.out.alloc _
    have A2 : Hid (UB WX (w1.heap.size + 1) 1 (.slice none 0 0) (.slice none 0 0) (.slice none 0 0) [] [] []) := by
      rw [hWX]
      have := UB.new (n := 1) (B := 0) (W := (w1.alloc (.cells #[.int .i64 1, .slice da1 dm1 dc1, .slice pa1 pm1 pc1, .slice ga1 gm1 gc1] 125))) (d := []) (p := []) (q := []) (TyB.nil _ _) (TyW.nil _ _) (TyW.nil _ _)
      rw [heap_alloc_size] at this
      exact this
    rw [← hWX]
    generalize hgf : w1.heap.size = gf at A1 A2 geff ⊢
    clear hgf hWX ff1 E1
    go_loopg [59] n (fun gg s59 wr => ∃ k : Nat, k ≤ n ∧ n - k ≤ gg ∧ s59 = .int .i64 k ∧ Aside (Below w.heap.size w wr ∧ (∃ vd vp vg, UB wr gf 1 vd vp vg [f] (lv zs k) []) ∧ ∃ vd vp vg, UB wr (gf + 1) 1 vd vp vg [] [] (lst zs k)))
    case atStart => exact ⟨0, Nat.zero_le _, by omega, rfl, EX.out, ⟨_, _, _, A1.out⟩, ⟨_, _, _, A2.out⟩⟩
    case round =>
      obtain ⟨k, hk, hg, rfl, A⟩ := hrel
      clear EX A1 A2
      obtain ⟨hE, ⟨vd1, vp1, vg1, h1⟩, vd2, vp2, vg2, h2⟩ := A.out
      obtain ⟨_, _, _, rfl⟩ := Ty.shape3 h1.td
      obtain ⟨_, _, _, rfl⟩ := Ty.shape3 h1.tp
      obtain ⟨_, _, _, rfl⟩ := Ty.shape3 h1.tg
      obtain ⟨_, _, _, rfl⟩ := Ty.shape3 h2.td
      obtain ⟨_, _, _, rfl⟩ := Ty.shape3 h2.tp
      obtain ⟨_, _, _, rfl⟩ := Ty.shape3 h2.tg
      have E0 := Lib.hid hE
      have ff0 := Lib.hid h1
      have ee0 := Lib.hid h2
      clear A h1 h2
      have GW : Hid (WfW (lst zs k) ∧ (lst zs k).length ≤ 40000) := ⟨(good_lst zs k).wf (by omega), by rw [(good_lst zs k).len]; omega⟩
      have GV : Hid (WfW (lv zs k) ∧ (lv zs k).length ≤ 40000) := ⟨lv_wf zs (by omega), by rw [lv_len]; omega⟩
      by_cases hlt : k < n
      · have hltz : (k : Int) < (n : Int) := by omega
        obtain ⟨b, off, rfl, hbs, y0, hp0, hp1⟩ := hcell.out k hlt
        rw [← hE.cell (p := ⟨b, _, none⟩) hbs] at y0
        have hbw : b < wr.heap.size := Nat.lt_of_lt_of_le hbs hE.size
        have HGB := Lib.hid (getBu_lst zs k)
        have HPF := Lib.hid (put_full zs f k)
        have hcv : IntKind.u8.wrap (100 + (k : Int)) = 100 + (k : Int) := by rw [IntKind.wrap_u8]; omega
        clear hE
        generalize zs.getD k 0 = pk at y0 hp0 hp1 HGB HPF
        obtain ⟨ffx0, ffx1, ffx2, ffx3, ffx4, ffx5, ffx6, ffx7⟩ := fourBlk (ff0.out).blk
        have ffxb := blk_lt (ff0.out).blk
        obtain ⟨eex0, eex1, eex2, eex3, eex4, eex5, eex6, eex7⟩ := fourBlk (ee0.out).blk
        have eexb := blk_lt (ee0.out).blk
        go_wp2_with fail
        have h1 := putBu_c 1 k pk (100 + (k : Int)) _ _ _ [f] (lv zs k) [] _ ff0.out.td.rd ff0.out.tp.rd ff0.out.tg.rd GV.out.1 (by unfold WfW; decide) (by simp) GV.out.2 (by decide)
        rw [HPF.out] at h1
        refine h1.mono ?_
        clear h1
        rintro e w1 ⟨vd1, vp1, vg1, rfl, td1, tp1, tg1, b1⟩
        obtain ⟨da1, dm1, dc1, rfl⟩ := Ty.shape3 td1
        obtain ⟨pa1, pm1, pc1, rfl⟩ := Ty.shape3 tp1
        obtain ⟨ga1, gm1, gc1, rfl⟩ := Ty.shape3 tg1
        clear ffx0 ffx1 ffx2 ffx3 ffx4 ffx5 ffx6 ffx7 ffxb eex0 eex1 eex2 eex3 eex4 eex5 eex6 eex7 eexb
        obtain ⟨ffx0, ffx1, ffx2, ffx3, ffx4, ffx5, ffx6, ffx7⟩ := fourBlk (ff0.out.next b1).blk
        have ffxb := blk_lt (ff0.out.next b1).blk
        obtain ⟨eex0, eex1, eex2, eex3, eex4, eex5, eex6, eex7⟩ := fourBlk (ee0.out.next b1).blk
        have eexb := blk_lt (ee0.out.next b1).blk
        have ff1 := Lib.hid ((ff0.out.next b1).alloc (.cells #[.int .i64 1, .slice da1 dm1 dc1, .slice pa1 pm1 pc1, .slice ga1 gm1 gc1] 125))
        have ee1 := Lib.hid ((ee0.out.next b1).alloc (.cells #[.int .i64 1, .slice da1 dm1 dc1, .slice pa1 pm1 pc1, .slice ga1 gm1 gc1] 125))
        have aa1 := Lib.hid (UB.new (n := 1) td1 tp1 tg1)
        have z1 := E0.out.trans (b1.mono E0.out.size)
        have E1 := Lib.hid (z1.alloc z1.size (.cells #[.int .i64 1, .slice da1 dm1 dc1, .slice pa1 pm1 pc1, .slice ga1 gm1 gc1] 125))
        have geaa : w.heap.size ≤ w1.heap.size := z1.size
        have nffaa : gf ≠ w1.heap.size := Nat.ne_of_lt ffxb
        have naaff : w1.heap.size ≠ gf := Nat.ne_of_gt ffxb
        have neeaa : (gf + 1) ≠ w1.heap.size := Nat.ne_of_lt eexb
        have naaee : w1.heap.size ≠ (gf + 1) := Nat.ne_of_gt eexb
        clear td1 tp1 tg1 b1 z1 E0 ff0 ee0
        go_wp2_with fail
        have h2 := getBu_c 1 k pk _ _ _ [] [] (lst zs k) _ ee1.out.td.rd ee1.out.tp.rd ee1.out.tg.rd (by unfold WfW; decide) GW.out.1 (by decide) (by decide) GW.out.2
        rw [HGB.out] at h2
        refine h2.mono ?_
        clear h2
        rintro e w2 ⟨vd2, vp2, vg2, rfl, td2, tp2, tg2, b2⟩
        obtain ⟨da2, dm2, dc2, rfl⟩ := Ty.shape3 td2
        obtain ⟨pa2, pm2, pc2, rfl⟩ := Ty.shape3 tp2
        obtain ⟨ga2, gm2, gc2, rfl⟩ := Ty.shape3 tg2
        clear ffx0 ffx1 ffx2 ffx3 ffx4 ffx5 ffx6 ffx7 ffxb eex0 eex1 eex2 eex3 eex4 eex5 eex6 eex7 eexb
        obtain ⟨ffx0, ffx1, ffx2, ffx3, ffx4, ffx5, ffx6, ffx7⟩ := fourBlk (ff1.out.next b2).blk
        have ffxb := blk_lt (ff1.out.next b2).blk
        obtain ⟨eex0, eex1, eex2, eex3, eex4, eex5, eex6, eex7⟩ := fourBlk (ee1.out.next b2).blk
        have eexb := blk_lt (ee1.out.next b2).blk
        obtain ⟨aax0, aax1, aax2, aax3, aax4, aax5, aax6, aax7⟩ := fourBlk (aa1.out.next b2).blk
        have aaxb := blk_lt (aa1.out.next b2).blk
        have ffL2 := Lib.hid (ff1.out.next b2)
        have eeL2 := Lib.hid (ee1.out.next b2)
        have aaL2 := Lib.hid (aa1.out.next b2)
        have EL2 := Lib.hid (E1.out.trans (b2.mono E1.out.size))
        have DL2 := Lib.hid td2
        have PL2 := Lib.hid tp2
        have GL2 := Lib.hid tg2
        have ff2 := Lib.hid ((ff1.out.next b2).alloc (.cells #[.int .i64 1, .slice da2 dm2 dc2, .slice pa2 pm2 pc2, .slice ga2 gm2 gc2] 125))
        have ee2 := Lib.hid ((ee1.out.next b2).alloc (.cells #[.int .i64 1, .slice da2 dm2 dc2, .slice pa2 pm2 pc2, .slice ga2 gm2 gc2] 125))
        have aa2 := Lib.hid ((aa1.out.next b2).alloc (.cells #[.int .i64 1, .slice da2 dm2 dc2, .slice pa2 pm2 pc2, .slice ga2 gm2 gc2] 125))
        have cc2 := Lib.hid (UB.new (n := 1) td2 tp2 tg2)
        have z2 := E1.out.trans (b2.mono E1.out.size)
        have E2 := Lib.hid (z2.alloc z2.size (.cells #[.int .i64 1, .slice da2 dm2 dc2, .slice pa2 pm2 pc2, .slice ga2 gm2 gc2] 125))
        have gecc : w.heap.size ≤ w2.heap.size := z2.size
        have nffcc : gf ≠ w2.heap.size := Nat.ne_of_lt ffxb
        have nccff : w2.heap.size ≠ gf := Nat.ne_of_gt ffxb
        have neecc : (gf + 1) ≠ w2.heap.size := Nat.ne_of_lt eexb
        have nccee : w2.heap.size ≠ (gf + 1) := Nat.ne_of_gt eexb
        have naacc : w1.heap.size ≠ w2.heap.size := Nat.ne_of_lt aaxb
        have nccaa : w2.heap.size ≠ w1.heap.size := Nat.ne_of_gt aaxb
        clear td2 tp2 tg2 b2 z2 E1 ff1 ee1 aa1
        go_wp2_with fail
        go_region
        go_wp2_with fail
        go_roundg (n - (k + 1))
        case measure => omega
        case rel =>
          have h2 := two_put ffL2.out eeL2.out (by omega) aaL2.out.td aaL2.out.tp aaL2.out.tg DL2.out PL2.out GL2.out (.cells #[.int .i64 1, .slice da2 dm2 dc2, .slice pa2 pm2 pc2, .slice ga2 gm2 gc2] 125)
          exact ⟨k + 1, by omega, by omega, by go_num, two_below EL2.out (by omega) (by omega) _ _ _ _ _ _ _ _ _, ⟨_, _, _, h2.1.1⟩, ⟨_, _, _, h2.1.2⟩⟩
      · have hltz : ¬ (k : Int) < (n : Int) := by omega
        obtain rfl : k = n := by omega
        clear hlt hg hE
        go_wp2_with fail
        go_loopg [21, 22, 114] k (fun gg s21 s22 s114 wr => ∃ j : Nat, j ≤ k ∧ k - j ≤ gg ∧ s114 = .int .i64 j ∧ ∃ q c : Int, s21 = .int .i64 q ∧ s22 = .int .u8 c ∧ Aside (((j = 0 → q = -1) ∧ ∀ (h0 : 0 < j) (h1 : j - 1 < (lst zs k).length), q = (lst zs k)[j - 1].proc) ∧ Below w.heap.size w wr ∧ (∃ vd vp vg, UB wr gf 1 vd vp vg [c] ((lv zs k).drop j) []) ∧ ∃ vd vp vg, UB wr (gf + 1) 1 vd vp vg [] [] ((lst zs k).drop j)))
        case atStart => exact ⟨0, Nat.zero_le _, by omega, rfl, -1, f, rfl, rfl, ⟨fun _ => rfl, fun h0 => absurd h0 (by omega)⟩, E0.out, ⟨_, _, _, ff0.out⟩, ⟨_, _, _, ee0.out⟩⟩
        case round =>
          obtain ⟨j, hj, hgj, rfl, q, c, rfl, rfl, A⟩ := hrel
          clear ff0 ee0 E0 GW GV
          obtain ⟨hAq, hE, ⟨vd1, vp1, vg1, h1⟩, vd2, vp2, vg2, h2⟩ := A.out
          obtain ⟨_, _, _, rfl⟩ := Ty.shape3 h1.td
          obtain ⟨_, _, _, rfl⟩ := Ty.shape3 h1.tp
          obtain ⟨_, _, _, rfl⟩ := Ty.shape3 h1.tg
          obtain ⟨_, _, _, rfl⟩ := Ty.shape3 h2.td
          obtain ⟨_, _, _, rfl⟩ := Ty.shape3 h2.tp
          obtain ⟨_, _, _, rfl⟩ := Ty.shape3 h2.tg
          have HAQ := Lib.hid hAq
          have E0 := Lib.hid hE
          have HLEN := Lib.hid (good_lst zs k).len
          have GW : Hid (WfW ((lst zs k).drop j) ∧ ((lst zs k).drop j).length ≤ 40000) := ⟨((good_lst zs k).wf (by omega)).drop j, by rw [List.length_drop, (good_lst zs k).len]; omega⟩
          have GV : Hid (WfW ((lv zs k).drop j) ∧ ((lv zs k).drop j).length ≤ 40000) := ⟨(lv_wf zs (by omega)).drop j, by rw [List.length_drop, lv_len]; omega⟩
          by_cases hjt : j < k
          · have hjz : (j : Int) < (k : Int) := by omega
            have ff0 := Lib.hid h1
            have ee0 := Lib.hid h2
            clear A h1 h2 hAq hE
            have hjl : j < (lst zs k).length := by rw [HLEN.out]; exact hjt
            have hel := (good_lst zs k).el _ (List.getElem_mem hjl)
            have HGD := get_drop zs c k j (by omega) hjl
            have HPD := put_drop zs k j (by omega) hjl
            obtain ⟨pj, hpj⟩ : ∃ pj : Nat, (lst zs k)[j].proc = (pj : Int) := ⟨_, (Int.toNat_of_nonneg hel.2.1).symm⟩
            rw [hpj] at HGD HPD
            have HG := Lib.hid HGD
            have HP := Lib.hid HPD
            have hpjk : pj < k := by have := hel.2.2.1; omega
            have HPJ := Lib.hid hpj
            clear hpj hel HGD HPD
            obtain ⟨b, off, rfl, hbs, cj, hpj0, hpj1⟩ := hcell.out pj hpjk
            have hd1 : decide ((pj : Int) < 0) = false := decide_eq_false (by omega)
            have hd2 : decide ((k : Int) ≤ (pj : Int)) = false := decide_eq_false (by omega)
            have hd3 : decide (k ≤ pj) = false := decide_eq_false (by omega)
            have hcv : IntKind.u8.wrap (100 + (pj : Int)) = 100 + (pj : Int) := by rw [IntKind.wrap_u8]; omega
            have hcw : IntKind.i64.wrap (100 + (pj : Int)) = 100 + (pj : Int) := by rw [IntKind.wrap_i64]; omega
            obtain ⟨ffx0, ffx1, ffx2, ffx3, ffx4, ffx5, ffx6, ffx7⟩ := fourBlk (ff0.out).blk
            have ffxb := blk_lt (ff0.out).blk
            obtain ⟨eex0, eex1, eex2, eex3, eex4, eex5, eex6, eex7⟩ := fourBlk (ee0.out).blk
            have eexb := blk_lt (ee0.out).blk
            go_wp2_with fail
            have h1 := getBu_c 1 91 0 _ _ _ [c] ((lv zs k).drop j) [] _ ff0.out.td.rd ff0.out.tp.rd ff0.out.tg.rd GV.out.1 (by unfold WfW; decide) (by simp) GV.out.2 (by decide)
            rw [HG.out] at h1
            refine h1.mono ?_
            clear h1
            rintro e w1 ⟨vd1, vp1, vg1, rfl, td1, tp1, tg1, b1⟩
            obtain ⟨da1, dm1, dc1, rfl⟩ := Ty.shape3 td1
            obtain ⟨pa1, pm1, pc1, rfl⟩ := Ty.shape3 tp1
            obtain ⟨ga1, gm1, gc1, rfl⟩ := Ty.shape3 tg1
            clear ffx0 ffx1 ffx2 ffx3 ffx4 ffx5 ffx6 ffx7 ffxb eex0 eex1 eex2 eex3 eex4 eex5 eex6 eex7 eexb
            obtain ⟨ffx0, ffx1, ffx2, ffx3, ffx4, ffx5, ffx6, ffx7⟩ := fourBlk (ff0.out.next b1).blk
            have ffxb := blk_lt (ff0.out.next b1).blk
            obtain ⟨eex0, eex1, eex2, eex3, eex4, eex5, eex6, eex7⟩ := fourBlk (ee0.out.next b1).blk
            have eexb := blk_lt (ee0.out.next b1).blk
            have ff1 := Lib.hid ((ff0.out.next b1).alloc (.cells #[.int .i64 1, .slice da1 dm1 dc1, .slice pa1 pm1 pc1, .slice ga1 gm1 gc1] 125))
            have ee1 := Lib.hid ((ee0.out.next b1).alloc (.cells #[.int .i64 1, .slice da1 dm1 dc1, .slice pa1 pm1 pc1, .slice ga1 gm1 gc1] 125))
            have aa1 := Lib.hid (UB.new (n := 1) td1 tp1 tg1)
            have z1 := E0.out.trans (b1.mono E0.out.size)
            have E1 := Lib.hid (z1.alloc z1.size (.cells #[.int .i64 1, .slice da1 dm1 dc1, .slice pa1 pm1 pc1, .slice ga1 gm1 gc1] 125))
            have geaa : w.heap.size ≤ w1.heap.size := z1.size
            have nffaa : gf ≠ w1.heap.size := Nat.ne_of_lt ffxb
            have naaff : w1.heap.size ≠ gf := Nat.ne_of_gt ffxb
            have neeaa : (gf + 1) ≠ w1.heap.size := Nat.ne_of_lt eexb
            have naaee : w1.heap.size ≠ (gf + 1) := Nat.ne_of_gt eexb
            clear td1 tp1 tg1 b1 z1 E0 ff0 ee0
            go_wp2_with fail
            have h2 := putBu_c 1 91 0 7 _ _ _ [] [] ((lst zs k).drop j) _ ee1.out.td.rd ee1.out.tp.rd ee1.out.tg.rd (by unfold WfW; decide) GW.out.1 (by decide) (by decide) GW.out.2
            rw [HP.out] at h2
            refine h2.mono ?_
            clear h2
            rintro e w2 ⟨vd2, vp2, vg2, rfl, td2, tp2, tg2, b2⟩
            obtain ⟨da2, dm2, dc2, rfl⟩ := Ty.shape3 td2
            obtain ⟨pa2, pm2, pc2, rfl⟩ := Ty.shape3 tp2
            obtain ⟨ga2, gm2, gc2, rfl⟩ := Ty.shape3 tg2
            clear ffx0 ffx1 ffx2 ffx3 ffx4 ffx5 ffx6 ffx7 ffxb eex0 eex1 eex2 eex3 eex4 eex5 eex6 eex7 eexb
            obtain ⟨ffx0, ffx1, ffx2, ffx3, ffx4, ffx5, ffx6, ffx7⟩ := fourBlk (ff1.out.next b2).blk
            have ffxb := blk_lt (ff1.out.next b2).blk
            obtain ⟨eex0, eex1, eex2, eex3, eex4, eex5, eex6, eex7⟩ := fourBlk (ee1.out.next b2).blk
            have eexb := blk_lt (ee1.out.next b2).blk
            obtain ⟨aax0, aax1, aax2, aax3, aax4, aax5, aax6, aax7⟩ := fourBlk (aa1.out.next b2).blk
            have aaxb := blk_lt (aa1.out.next b2).blk
            have ffL2 := Lib.hid (ff1.out.next b2)
            have eeL2 := Lib.hid (ee1.out.next b2)
            have aaL2 := Lib.hid (aa1.out.next b2)
            have EL2 := Lib.hid (E1.out.trans (b2.mono E1.out.size))
            have DL2 := Lib.hid td2
            have PL2 := Lib.hid tp2
            have GL2 := Lib.hid tg2
            have ff2 := Lib.hid ((ff1.out.next b2).alloc (.cells #[.int .i64 1, .slice da2 dm2 dc2, .slice pa2 pm2 pc2, .slice ga2 gm2 gc2] 125))
            have ee2 := Lib.hid ((ee1.out.next b2).alloc (.cells #[.int .i64 1, .slice da2 dm2 dc2, .slice pa2 pm2 pc2, .slice ga2 gm2 gc2] 125))
            have aa2 := Lib.hid ((aa1.out.next b2).alloc (.cells #[.int .i64 1, .slice da2 dm2 dc2, .slice pa2 pm2 pc2, .slice ga2 gm2 gc2] 125))
            have cc2 := Lib.hid (UB.new (n := 1) td2 tp2 tg2)
            have z2 := E1.out.trans (b2.mono E1.out.size)
            have E2 := Lib.hid (z2.alloc z2.size (.cells #[.int .i64 1, .slice da2 dm2 dc2, .slice pa2 pm2 pc2, .slice ga2 gm2 gc2] 125))
            have gecc : w.heap.size ≤ w2.heap.size := z2.size
            have nffcc : gf ≠ w2.heap.size := Nat.ne_of_lt ffxb
            have nccff : w2.heap.size ≠ gf := Nat.ne_of_gt ffxb
            have neecc : (gf + 1) ≠ w2.heap.size := Nat.ne_of_lt eexb
            have nccee : w2.heap.size ≠ (gf + 1) := Nat.ne_of_gt eexb
            have naacc : w1.heap.size ≠ w2.heap.size := Nat.ne_of_lt aaxb
            have nccaa : w2.heap.size ≠ w1.heap.size := Nat.ne_of_gt aaxb
            clear td2 tp2 tg2 b2 z2 E1 ff1 ee1 aa1
            have cj2 : w2.cell? ⟨b, off + pj, none⟩ = some (.int .u8 (zs.getD pj 0)) := (EL2.out.cell (p := ⟨b, _, none⟩) hbs).trans cj
            have hbw2 : b < w2.heap.size := Nat.lt_of_lt_of_le hbs EL2.out.size
            by_cases h0 : j = 0
            · obtain rfl : q = -1 := HAQ.out.1 h0
              clear HAQ h0
              generalize zs.getD pj 0 = zj at cj2 cj hpj0 hpj1
              go_wp2_with fail
              refine wp_region_quiet_lit (by kernel_rfl) (by kernel_rfl) ?_
              iterate 29 (first | go_big_quiet_step (fail) | quiet_step (fail))
              refine wpQuiet_nil ?_
              intro _ hw'
              obtain ⟨nq, hw''⟩ := hw'
              subst hw''
              go_wp2_with fail
              go_region
              go_wp2_with fail
              go_roundg (k - (j + 1))
              case measure => omega
              case rel =>
                have h2 := two_put0 ((ffL2.out.alloc (.cells #[.int .i64 1, .slice da2 dm2 dc2, .slice pa2 pm2 pc2, .slice ga2 gm2 gc2] 125)).drewN (nq + 1)) ((eeL2.out.alloc (.cells #[.int .i64 1, .slice da2 dm2 dc2, .slice pa2 pm2 pc2, .slice ga2 gm2 gc2] 125)).drewN (nq + 1)) (by omega) ((aaL2.out.alloc _).drewN (nq + 1)).td ((aaL2.out.alloc _).drewN (nq + 1)).tp ((aaL2.out.alloc _).drewN (nq + 1)).tg (Ty.alloc DL2.out _) (Ty.alloc PL2.out _) (Ty.alloc GL2.out _)
                exact ⟨j + 1, by omega, by omega, by go_num, (pj : Int), 100 + (pj : Int), rfl, rfl, ⟨fun h0 => absurd h0 (by omega), fun _ _ => HPJ.out.symm⟩, put4_below (put4_below (below_drewN' (EL2.out.alloc EL2.out.size _) _) (by omega) _ _ _ _) (by omega) _ _ _ _, ⟨_, _, _, h2.1⟩, ⟨_, _, _, h2.2⟩⟩
            · have hj0 : 0 < j := by omega
              have hj1 : j - 1 < (lst zs k).length := by omega
              have hq := HAQ.out.2 hj0 hj1
              have helq := (good_lst zs k).el _ (List.getElem_mem hj1)
              obtain ⟨pq, hpq⟩ : ∃ pq : Nat, (lst zs k)[j - 1].proc = (pq : Int) := ⟨_, (Int.toNat_of_nonneg helq.2.1).symm⟩
              rw [hpq] at hq
              subst hq
              have hpqk : pq < k := by have := helq.2.2.1; omega
              obtain ⟨_, _, hbo, _, cq, hq0, hq1⟩ := hcell.out pq hpqk
              simp only [Option.some.injEq, Addr.mk.injEq, and_true] at hbo
              obtain ⟨rfl, rfl⟩ := hbo
              have cq2 : w2.cell? ⟨b, off + pq, none⟩ = some (.int .u8 (zs.getD pq 0)) := (EL2.out.cell (p := ⟨b, _, none⟩) hbs).trans cq
              have hnx := (good_lst zs k).next (j - 1) (by omega)
              simp only [show j - 1 + 1 = j from by omega, hpq, HPJ.out, Int.toNat_natCast] at hnx
              have hd0 : decide ((0 : Int) ≤ (pq : Int)) = true := decide_eq_true (by omega)
              have g3 : decide (zs.getD pq 0 < zs.getD pj 0) = false := decide_eq_false hnx.1
              have hqz0 : (0 : Int) ≤ (pq : Int) := by omega
              have hqk : (pq : Int) < (k : Int) := by omega
              have hjk : (pj : Int) < (k : Int) := by omega
              have HNX := Lib.hid hnx.2
              clear hnx helq h0 hpq hj1 cq HAQ
              generalize zs.getD pq 0 = zq at cq2 g3 HNX hq0 hq1
              generalize zs.getD pj 0 = zj at cj2 cj g3 HNX hpj0 hpj1
              by_cases heq : zq = zj
              · have he1 : (zq == zj) = true := by simp [heq]
                have he2 : decide ((pj : Int) ≤ (pq : Int)) = false := decide_eq_false (by have := HNX.out heq; omega)
                have he3 : decide (pj ≤ pq) = false := decide_eq_false (by have := HNX.out heq; omega)
                clear heq HNX
                go_wp2_with fail
                refine wp_region_quiet_lit (by kernel_rfl) (by kernel_rfl) ?_
                iterate 29 (first | go_big_quiet_step (fail) | quiet_step (fail))
                refine wpQuiet_nil ?_
                intro _ hw'
                obtain ⟨nq, hw''⟩ := hw'
                subst hw''
                go_wp2_with fail
                go_region
                go_wp2_with fail
                go_roundg (k - (j + 1))
                case measure => omega
                case rel =>
                  have h2 := two_put0 ((ffL2.out.alloc (.cells #[.int .i64 1, .slice da2 dm2 dc2, .slice pa2 pm2 pc2, .slice ga2 gm2 gc2] 125)).drewN (nq + 1)) ((eeL2.out.alloc (.cells #[.int .i64 1, .slice da2 dm2 dc2, .slice pa2 pm2 pc2, .slice ga2 gm2 gc2] 125)).drewN (nq + 1)) (by omega) ((aaL2.out.alloc _).drewN (nq + 1)).td ((aaL2.out.alloc _).drewN (nq + 1)).tp ((aaL2.out.alloc _).drewN (nq + 1)).tg (Ty.alloc DL2.out _) (Ty.alloc PL2.out _) (Ty.alloc GL2.out _)
                  exact ⟨j + 1, by omega, by omega, by go_num, (pj : Int), 100 + (pj : Int), rfl, rfl, ⟨fun h0 => absurd h0 (by omega), fun _ _ => HPJ.out.symm⟩, put4_below (put4_below (below_drewN' (EL2.out.alloc EL2.out.size _) _) (by omega) _ _ _ _) (by omega) _ _ _ _, ⟨_, _, _, h2.1⟩, ⟨_, _, _, h2.2⟩⟩
              · have he1 : (zq == zj) = false := by simp [heq]
                clear heq HNX
                go_wp2_with fail
                refine wp_region_quiet_lit (by kernel_rfl) (by kernel_rfl) ?_
                iterate 29 (first | go_big_quiet_step (fail) | quiet_step (fail))
                refine wpQuiet_nil ?_
                intro _ hw'
                obtain ⟨nq, hw''⟩ := hw'
                subst hw''
                go_wp2_with fail
                go_region
                go_wp2_with fail
                go_roundg (k - (j + 1))
                case measure => omega
                case rel =>
                  have h2 := two_put0 ((ffL2.out.alloc (.cells #[.int .i64 1, .slice da2 dm2 dc2, .slice pa2 pm2 pc2, .slice ga2 gm2 gc2] 125)).drewN (nq + 1)) ((eeL2.out.alloc (.cells #[.int .i64 1, .slice da2 dm2 dc2, .slice pa2 pm2 pc2, .slice ga2 gm2 gc2] 125)).drewN (nq + 1)) (by omega) ((aaL2.out.alloc _).drewN (nq + 1)).td ((aaL2.out.alloc _).drewN (nq + 1)).tp ((aaL2.out.alloc _).drewN (nq + 1)).tg (Ty.alloc DL2.out _) (Ty.alloc PL2.out _) (Ty.alloc GL2.out _)
                  exact ⟨j + 1, by omega, by omega, by go_num, (pj : Int), 100 + (pj : Int), rfl, rfl, ⟨fun h0 => absurd h0 (by omega), fun _ _ => HPJ.out.symm⟩, put4_below (put4_below (below_drewN' (EL2.out.alloc EL2.out.size _) _) (by omega) _ _ _ _) (by omega) _ _ _ _, ⟨_, _, _, h2.1⟩, ⟨_, _, _, h2.2⟩⟩
          · have hjz : ¬ (j : Int) < (k : Int) := by omega
            have hn1' : (lv zs k).drop j = [] := List.drop_eq_nil_of_le (by rw [lv_len]; omega)
            have hn2' : (lst zs k).drop j = [] := List.drop_eq_nil_of_le (by rw [HLEN.out]; omega)
            rw [hn1'] at h1
            rw [hn2'] at h2
            have ff0 := Lib.hid h1
            have ee0 := Lib.hid h2
            clear A h1 h2 hAq hE HAQ hn1' hn2' hjt GW GV
            obtain ⟨ffx0, ffx1, ffx2, ffx3, ffx4, ffx5, ffx6, ffx7⟩ := fourBlk (ff0.out).blk
            have ffxb := blk_lt (ff0.out).blk
            obtain ⟨eex0, eex1, eex2, eex3, eex4, eex5, eex6, eex7⟩ := fourBlk (ee0.out).blk
            have eexb := blk_lt (ee0.out).blk
            go_wp2_with fail
            have h1 := getBu_c 1 91 0 _ _ _ [c] [] [] _ ff0.out.td.rd ff0.out.tp.rd ff0.out.tg.rd (by unfold WfW; decide) (by unfold WfW; decide) (by simp) (by decide) (by decide)
            rw [get_last c] at h1
            refine h1.mono ?_
            clear h1
            rintro e w1 ⟨vd1, vp1, vg1, rfl, td1, tp1, tg1, b1⟩
            obtain ⟨da1, dm1, dc1, rfl⟩ := Ty.shape3 td1
            obtain ⟨pa1, pm1, pc1, rfl⟩ := Ty.shape3 tp1
            obtain ⟨ga1, gm1, gc1, rfl⟩ := Ty.shape3 tg1
            clear ffx0 ffx1 ffx2 ffx3 ffx4 ffx5 ffx6 ffx7 ffxb eex0 eex1 eex2 eex3 eex4 eex5 eex6 eex7 eexb
            obtain ⟨ffx0, ffx1, ffx2, ffx3, ffx4, ffx5, ffx6, ffx7⟩ := fourBlk (ff0.out.next b1).blk
            have ffxb := blk_lt (ff0.out.next b1).blk
            obtain ⟨eex0, eex1, eex2, eex3, eex4, eex5, eex6, eex7⟩ := fourBlk (ee0.out.next b1).blk
            have eexb := blk_lt (ee0.out.next b1).blk
            have ff1 := Lib.hid ((ff0.out.next b1).alloc (.cells #[.int .i64 1, .slice da1 dm1 dc1, .slice pa1 pm1 pc1, .slice ga1 gm1 gc1] 125))
            have ee1 := Lib.hid ((ee0.out.next b1).alloc (.cells #[.int .i64 1, .slice da1 dm1 dc1, .slice pa1 pm1 pc1, .slice ga1 gm1 gc1] 125))
            have z11 := Lib.hid (UB.new (n := 1) td1 tp1 tg1)
            have z1 := E0.out.trans (b1.mono E0.out.size)
            have E1 := Lib.hid (z1.alloc z1.size (.cells #[.int .i64 1, .slice da1 dm1 dc1, .slice pa1 pm1 pc1, .slice ga1 gm1 gc1] 125))
            have gez1 : w.heap.size ≤ w1.heap.size := z1.size
            have nffz1 : gf ≠ w1.heap.size := Nat.ne_of_lt ffxb
            have nz1ff : w1.heap.size ≠ gf := Nat.ne_of_gt ffxb
            have neez1 : (gf + 1) ≠ w1.heap.size := Nat.ne_of_lt eexb
            have nz1ee : w1.heap.size ≠ (gf + 1) := Nat.ne_of_gt eexb
            clear td1 tp1 tg1 b1 z1 E0 ff0 ee0
            clear z11
            go_wp2_with fail
            have h2 := putBu_c 1 91 0 7 _ _ _ [] [] [] _ ee1.out.td.rd ee1.out.tp.rd ee1.out.tg.rd (by unfold WfW; decide) (by unfold WfW; decide) (by decide) (by decide) (by decide)
            rw [put_last] at h2
            refine h2.mono ?_
            clear h2
            rintro e w2 ⟨vd2, vp2, vg2, rfl, td2, tp2, tg2, b2⟩
            obtain ⟨da2, dm2, dc2, rfl⟩ := Ty.shape3 td2
            obtain ⟨pa2, pm2, pc2, rfl⟩ := Ty.shape3 tp2
            obtain ⟨ga2, gm2, gc2, rfl⟩ := Ty.shape3 tg2
            clear ffx0 ffx1 ffx2 ffx3 ffx4 ffx5 ffx6 ffx7 ffxb eex0 eex1 eex2 eex3 eex4 eex5 eex6 eex7 eexb
            obtain ⟨ffx0, ffx1, ffx2, ffx3, ffx4, ffx5, ffx6, ffx7⟩ := fourBlk (ff1.out.next b2).blk
            have ffxb := blk_lt (ff1.out.next b2).blk
            obtain ⟨eex0, eex1, eex2, eex3, eex4, eex5, eex6, eex7⟩ := fourBlk (ee1.out.next b2).blk
            have eexb := blk_lt (ee1.out.next b2).blk
            have ff2 := Lib.hid ((ff1.out.next b2).alloc (.cells #[.int .i64 1, .slice da2 dm2 dc2, .slice pa2 pm2 pc2, .slice ga2 gm2 gc2] 125))
            have ee2 := Lib.hid ((ee1.out.next b2).alloc (.cells #[.int .i64 1, .slice da2 dm2 dc2, .slice pa2 pm2 pc2, .slice ga2 gm2 gc2] 125))
            have z22 := Lib.hid (UB.new (n := 1) td2 tp2 tg2)
            have z2 := E1.out.trans (b2.mono E1.out.size)
            have E2 := Lib.hid (z2.alloc z2.size (.cells #[.int .i64 1, .slice da2 dm2 dc2, .slice pa2 pm2 pc2, .slice ga2 gm2 gc2] 125))
            have gez2 : w.heap.size ≤ w2.heap.size := z2.size
            have nffz2 : gf ≠ w2.heap.size := Nat.ne_of_lt ffxb
            have nz2ff : w2.heap.size ≠ gf := Nat.ne_of_gt ffxb
            have neez2 : (gf + 1) ≠ w2.heap.size := Nat.ne_of_lt eexb
            have nz2ee : w2.heap.size ≠ (gf + 1) := Nat.ne_of_gt eexb
            clear td2 tp2 tg2 b2 z2 E1 ff1 ee1
            clear z22
            go_wp2_with fail
            refine (awake24_c _).mono ?_
            rintro e wz ⟨rfl, bz⟩
            have EZ := Lib.hid (E2.out.trans (bz.mono E2.out.size))
            clear bz
            go_wp2_with fail
            go_ret
            exact ⟨rfl, EZ.out⟩
end Go.Proofs.Ytglbfmcbojjglaa

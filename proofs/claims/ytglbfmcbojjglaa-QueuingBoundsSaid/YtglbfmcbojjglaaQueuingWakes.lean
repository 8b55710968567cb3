/-
  QueuingWakes: for every port, every list of priorities and every number the call returns true, and nothing that was there before has turned. No conditions but that the list can be read.
-/
import Derived.Test.YtglbfmcbojjglaaAwake23
import Derived.Test.YtglbfmcbojjglaaPlainF
import Derived.Deep.DeepCutAuto
namespace Go.Proofs.Ytglbfmcbojjglaa
open Go.RowKit

/-- A variable of a state in block g; all variables lie below block B, all lists from B on. -/
structure LT (W : World) (B g : Nat) (vq vw : Value) (n : Int) (q : List (List Int)) (l : List Wt) : Prop where
  blk : W.heap[g]? = some (.cells #[vq, vw, .int .i64 n] 27 (0, 0))
  lt : g < B
  rq : RdQ W B vq q
  fr : FrW W B vw l
/-- The port's variable, and what was there before. -/
structure PV (w W : World) (nm : ByteArray) (c : Int) (o : Bool) (s d r : Int) : Prop where
  prt : W.heap[w.heap.size]? = some (.cells #[.string nm, .int .u8 c, .bool o, .int .i64 s, .int .i64 d, .int .i64 r] 23 (0, 0))
  bel : Below w.heap.size w W
section
variable {w W W' : World} {B g : Nat} {vq vw vq' vw' : Value} {n : Int} {q q' : List (List Int)} {l l' : List Wt} {nm : ByteArray} {c : Int} {o : Bool} {s d r : Int}
theorem LT.next (h : LT W B g vq vw n q l) (hb : Below W.heap.size W W') : LT W' B g vq vw n q l := ⟨(hb.block _ (blk_lt h.blk)).trans h.blk, h.lt, h.rq.below hb, h.fr.below hb⟩
theorem LT.alloc (h : LT W B g vq vw n q l) (ob : Obj) : LT (W.alloc ob) B g vq vw n q l := h.next ((Below.refl _ _).alloc (Nat.le_refl _) _)
theorem LT.drewN (h : LT W B g vq vw n q l) (k : Nat) : LT (W.drewN k) B g vq vw n q l := ⟨h.blk, h.lt, h.rq, h.fr⟩
theorem LT.put (h : LT W B g vq vw n q l) (hq : RdQ W B vq' q') (hf : FrW W B vw' l') (n' : Int) : LT (put3 W g vq' vw' (.int .i64 n')) B g vq' vw' n' q' l' :=
  ⟨put3_blk h.blk, h.lt, ((hq.low h.lt).low h.lt).low h.lt, ((hf.low h.lt).low h.lt).low h.lt⟩
theorem LT.cells (h : LT W B g vq vw n q l) : W.cell? ⟨g, 0, none⟩ = some vq ∧ W.cell? ⟨g, 1, none⟩ = some vw ∧ W.cell? ⟨g, 2, none⟩ = some (.int .i64 n) ∧ W.frozen? ⟨g, 0, none⟩ = false ∧ W.frozen? ⟨g, 1, none⟩ = false ∧ W.frozen? ⟨g, 2, none⟩ = false := threeBlk h.blk
theorem PV.next (h : PV w W nm c o s d r) (hb : Below W.heap.size W W') : PV w W' nm c o s d r := ⟨(hb.block _ (blk_lt h.prt)).trans h.prt, h.bel.trans (hb.mono h.bel.size)⟩
theorem PV.alloc (h : PV w W nm c o s d r) (ob : Obj) : PV w (W.alloc ob) nm c o s d r := h.next ((Below.refl _ _).alloc (Nat.le_refl _) _)
theorem PV.drewN (h : PV w W nm c o s d r) (k : Nat) : PV w (W.drewN k) nm c o s d r := ⟨h.prt, below_drewN' h.bel k⟩
theorem PV.put (h : PV w W nm c o s d r) (hg : w.heap.size < g) (x y z : Value) : PV w (put3 W g x y z) nm c o s d r :=
  ⟨((Below.heap_setCell _ _ _ _ (by show w.heap.size ≠ g; omega)).trans ((Below.heap_setCell _ _ _ _ (by show w.heap.size ≠ g; omega)).trans (Below.heap_setCell _ _ _ _ (by show w.heap.size ≠ g; omega)))).trans h.prt, put3_below h.bel (by omega) x y z⟩
end

set_option maxHeartbeats 4000000 in
set_option maxRecDepth 100000 in
theorem queuingWakes_c (nm : ByteArray) (c : Int) (o : Bool) (s d r : Int) (v : Value) (zs : List Int) (out : Int) (w : World) (h : RdI .u8 w 0 v zs) (hz : ∀ z ∈ zs, 0 ≤ z ∧ z ≤ 255) (hl : zs.length ≤ 9223372036854775807) (ho : 0 ≤ out ∧ out ≤ 255) :
    Calls Try.prog 6 #[.agg #[.string nm, .int .u8 c, .bool o, .int .i64 s, .int .i64 d, .int .i64 r], v, .int .u8 out] w fun e w' => e = .returned (.bool true) ∧ Below w.heap.size w w' := by
  obtain ⟨ao, ca, rfl, hca, hna, pa⟩ := h.open_
  have HZ := Lib.hid hz
  have HPA := Lib.hid pa
  have ho0 : 0 ≤ out := ho.1
  have ho1 : out ≤ 255 := ho.2
  clear h hz pa ho
  obtain ⟨WX, hWX⟩ : ∃ WX, WX = (w.alloc (.cells #[.string nm, .int .u8 c, .bool o, .int .i64 s, .int .i64 d, .int .i64 r] 23)).alloc (.cells #[.slice none 0 0, .slice none 0 0, .int .i64 0] 27) := ⟨_, rfl⟩
  have PX : Hid (PV w WX nm c o s d r) := by
    subst hWX
    exact ⟨(Below.heap_alloc _ _ _ (by simp)).trans (heap_alloc_new w _), ((Below.refl _ w).alloc (Nat.le_refl _) _).alloc (by simp) _⟩
  have LX : Hid (LT WX (w.heap.size + 2) (w.heap.size + 1) (.slice none 0 0) (.slice none 0 0) 0 [] []) := by
    subst hWX
    refine ⟨?_, by omega, RdQ.nil _ _, FrW.nil _ _⟩
    have := heap_alloc_new (w.alloc (.cells #[.string nm, .int .u8 c, .bool o, .int .i64 s, .int .i64 d, .int .i64 r] 23)) (.cells #[.slice none 0 0, .slice none 0 0, .int .i64 0] 27)
    simpa using this
  have hsx : (w.heap.size + 2) ≤ WX.heap.size := by subst hWX; simp
  have HWX := Lib.hid hWX
  clear hWX
  go_enter Try.func6, Try.ntmps6
  go_wp2_with fail
  rw [← HWX.out]
  refine (validQ_c nm c o s d r 0 _ _ [] [] WX (RdQ.nil _ _) (FrW.nil WX 0).1 (by unfold WfW; decide) (by decide) (by decide)).mono ?_
  rintro e w1 ⟨rfl, b1⟩
  have P1 := Lib.hid (PX.out.next b1)
  have L1 := Lib.hid (LX.out.next b1)
  have hs1 : (w.heap.size + 2) ≤ w1.heap.size := Nat.le_trans hsx b1.size
  clear b1 PX LX HWX
  cases hv : vldQ c s d r [] [] 0 with
  | false =>
    clear hv
    go_wp2_with fail
    refine (awake23_c _).mono ?_
    rintro e w9 ⟨rfl, b9⟩
    have HB9 := Lib.hid ((P1.out).next b9).bel
    clear b9
    go_wp2_with fail
    go_ret
    exact ⟨rfl, HB9.out⟩
  | true =>
    have HV := Lib.hid hv
    clear hv
    by_cases hz0 : zs.length = 0
    · have hq : ((zs.length : Int) == 0) = true := by rw [beq_iff_eq]; omega
      have hq2 : (zs.length == 0) = true := by simp [hz0]
      clear hz0
      go_wp2_with fail
      refine (awake23_c _).mono ?_
      rintro e w9 ⟨rfl, b9⟩
      have HB9 := Lib.hid ((P1.out).next b9).bel
      clear b9
      go_wp2_with fail
      go_ret
      exact ⟨rfl, HB9.out⟩
    · have hq : ((zs.length : Int) == 0) = false := by rw [beq_eq_false_iff_ne]; omega
      have hq2 : (zs.length == 0) = false := by rw [beq_eq_false_iff_ne]; omega
      go_upto_region 4 with (fail)
      go_cut [1] (fun s1 wx => ∃ n : Nat, s1 = .slice ao n ca ∧ n ≤ 10 ∧ n ≤ zs.length ∧ 1 ≤ n ∧ w1 = wx)
      case first =>
        by_cases h10 : zs.length ≤ 10
        · have hi : (zs.length : Int) ≤ 10 := by omega
          go_wp2
          go_meet
          exact ⟨zs.length, rfl, h10, Nat.le_refl _, by omega, rfl⟩
        · have hi : ¬ (zs.length : Int) ≤ 10 := by omega
          go_wp2
          go_meet
          exact ⟨10, rfl, Nat.le_refl _, by omega, by omega, rfl⟩
      case rest =>
        obtain ⟨n, rfl, hn1, hn2, hn3, rfl⟩ := hcut
        have hcell : Hid (∀ k (hk : k < n), ∃ b off, ao = some ⟨b, off, none⟩ ∧ b < w.heap.size ∧ w.cell? ⟨b, off + k, none⟩ = some (.int .u8 (zs.getD k 0)) ∧ 0 ≤ zs.getD k 0 ∧ zs.getD k 0 ≤ 255) := fun k hk => by
          obtain ⟨b, off, h1, _, h3, h4⟩ := HPA.out (by omega)
          have h5 : zs.getD k 0 = zs[k]'(by omega) := by simp [List.getD, List.getElem?_eq_getElem (show k < zs.length by omega)]
          rw [h5]
          exact ⟨b, off, h1, h3, h4 k (by omega), HZ.out _ (List.getElem_mem _)⟩
        obtain ⟨gn, hgn⟩ : ∃ gn : Nat, out % (n : Int) = (gn : Int) := ⟨_, (Int.toNat_of_nonneg (Int.emod_nonneg _ (by omega))).symm⟩
        have hgl : gn < n := by have := Int.emod_lt_of_pos out (show (0 : Int) < n by omega); omega
        have HGN := Lib.hid hgn
        clear HPA hz0 hgn hq hq2
        go_wp2_with fail
        go_loopg [45] n (fun gg s45 wr => ∃ k : Nat, k ≤ n ∧ n - k ≤ gg ∧ s45 = .int .i64 k ∧ Aside (PV w wr nm c o s d r ∧ (w.heap.size + 2) ≤ wr.heap.size ∧ ∃ vq vw, LT wr (w.heap.size + 2) (w.heap.size + 1) vq vw 0 [] (lst zs k)))
        case atStart => exact ⟨0, Nat.zero_le _, by omega, rfl, P1.out, hs1, _, _, L1.out⟩
        case round =>
          obtain ⟨k, hk, hg, rfl, A⟩ := hrel
          clear P1 L1 hs1
          obtain ⟨hP, hS, vq0, vw0, hL⟩ := A.out
          have rq0 := hL.rq
          have fr0 := hL.fr
          obtain ⟨a0, m0, c0, rfl, hm0⟩ := rq0.shape
          obtain ⟨d0, k0, e0, rfl, hk0⟩ := fr_shape fr0
          clear hm0 hk0
          have P0 := Lib.hid hP
          have L0 := Lib.hid hL
          have G := good_lst zs k
          have GW : Hid (WfW (lst zs k) ∧ (lst zs k).length ≤ 90000) := ⟨G.wf (by omega), by rw [G.len]; omega⟩
          clear G rq0 fr0 A
          by_cases hlt : k < n
          · have hltz : (k : Int) < (n : Int) := by omega
            obtain ⟨b, off, rfl, hbs, y0, hp0, hp1⟩ := hcell.out k hlt
            rw [← hP.bel.cell (p := ⟨b, _, none⟩) hbs] at y0
            have hbw : b < wr.heap.size := Nat.lt_of_lt_of_le hbs hP.bel.size
            have G1 := good_lst zs (k + 1)
            have GW1 : Hid (WfW (lst zs (k + 1)) ∧ (lst zs (k + 1)).length ≤ 90000) := ⟨G1.wf (by omega), by rw [G1.len]; omega⟩
            have HRC := Lib.hid (recv_lst HV.out zs k)
            clear G1 hP hL
            generalize hpk : zs.getD k 0 = pk at y0 hp0 hp1 HRC
            clear hpk
            obtain ⟨p0, p1, p2, p3, p4, p5⟩ := sixBlk P0.out.prt
            have hps0 := blk_lt P0.out.prt
            obtain ⟨x0, x1, x2, x3, x4, x5⟩ := L0.out.cells
            have hxs0 := blk_lt L0.out.blk
            go_wp2_with fail
            have h1 := recvQ_c nm c o s d r 0 k pk _ _ [] (lst zs k) wr (L0.out.rq.mono (Nat.zero_le _)) (L0.out.fr.mono (Nat.zero_le _)).rd GW.out.1 GW.out.2 (by decide) (by simp)
            rw [HRC.out] at h1
            refine h1.mono ?_
            clear h1
            rintro e w1 ⟨vq1, vw1, vx1, rfl, rq1, fr1, rx1, b1⟩
            obtain ⟨a1, m1, c1, rfl, hm1⟩ := rq1.shape
            obtain ⟨d1, k1, e1, rfl, hk1⟩ := fr_shape fr1
            clear hm1 hk1
            obtain ⟨f1, g1, rfl⟩ : ∃ a c, vx1 = .slice a 0 c := by obtain ⟨a, c, hv, _⟩ := rx1.open_; exact ⟨a, c, hv⟩
            have T1 := Lib.hid (LQ.new (n := 0) rq1 fr1)
            have P1 := Lib.hid ((P0.out.next b1).alloc (.cells #[.slice a1 m1 c1, .slice d1 k1 e1, .int .i64 0] 27))
            have L1 := Lib.hid ((L0.out.next b1).alloc (.cells #[.slice a1 m1 c1, .slice d1 k1 e1, .int .i64 0] 27))
            have RQ1 := Lib.hid ((rq1.mono hS).alloc (.cells #[.slice a1 m1 c1, .slice d1 k1 e1, .int .i64 0] 27))
            have FR1 := Lib.hid ((fr1.mono hS).alloc (.cells #[.slice a1 m1 c1, .slice d1 k1 e1, .int .i64 0] 27))
            have hS1 : (w.heap.size + 2) ≤ w1.heap.size := Nat.le_trans hS b1.size
            clear p0 p1 p2 p3 p4 p5 x0 x1 x2 x3 x4 x5
            obtain ⟨p0, p1, p2, p3, p4, p5⟩ := sixBlk (P0.out.next b1).prt
            have hps1 := blk_lt (P0.out.next b1).prt
            obtain ⟨x0, x1, x2, x3, x4, x5⟩ := (L0.out.next b1).cells
            have hxs1 := blk_lt (L0.out.next b1).blk
            clear rq1 fr1 rx1 b1 P0 L0
            go_wp2_with fail
            have h2 := recvQ_c nm c o s d r 0 k 0 _ _ [] (lst zs (k + 1)) (w1.alloc (.cells #[.slice a1 m1 c1, .slice d1 k1 e1, .int .i64 0] 27)) T1.out.rq T1.out.fr.rd GW1.out.1 GW1.out.2 (by decide) (by simp)
            rw [recv_again zs k] at h2
            refine h2.mono ?_
            clear h2
            rintro e w2 ⟨vq2, vw2, vx2, rfl, rq2, fr2, rx2, b2⟩
            obtain ⟨a2, m2, c2, rfl, hm2⟩ := rq2.shape
            obtain ⟨d2, k2, e2, rfl, hk2⟩ := fr_shape fr2
            clear hm2 hk2
            obtain ⟨f2, g2, rfl⟩ : ∃ a c, vx2 = .slice a 0 c := by obtain ⟨a, c, hv, _⟩ := rx2.open_; exact ⟨a, c, hv⟩
            obtain ⟨t0, t1, t2, t3, t4, t5⟩ := (T1.out.next b2).cells
            have hts := blk_lt (T1.out.next b2).blk
            have P2 := Lib.hid (P1.out.next b2)
            have L2 := Lib.hid ((L1.out.next b2).put (RQ1.out.below b2) (FR1.out.below b2) 0)
            have hS2 : (w.heap.size + 2) ≤ w2.heap.size := by have := b2.size; simp at this; omega
            clear p0 p1 p2 p3 p4 p5 x0 x1 x2 x3 x4 x5
            obtain ⟨p0, p1, p2, p3, p4, p5⟩ := sixBlk (P1.out.next b2).prt
            have hps2 := blk_lt (P1.out.next b2).prt
            obtain ⟨x0, x1, x2, x3, x4, x5⟩ := (L1.out.next b2).cells
            have hxs2 := blk_lt (L1.out.next b2).blk
            clear rq2 fr2 rx2 b2 P1 L1 RQ1 FR1 T1
            have hn1' : ¬ (w.heap.size + 1 = w1.heap.size) := by omega
            have hn2' : ¬ (w1.heap.size = w.heap.size + 1) := by omega
            go_wp2_with fail
            go_roundg (n - (k + 1))
            case measure => omega
            case rel =>
              refine ⟨k + 1, by omega, by omega, by go_num, (P2.out.put (by omega) _ _ _).alloc _, ?_, _, _, L2.out.alloc _⟩
              simp [World.setCell]; omega
          · have hltz : ¬ (k : Int) < (n : Int) := by omega
            obtain rfl : k = n := by omega
            clear hlt hg hP hL hk
            have hLL := Lg_length zs hgl
            have HLW : Hid (WfW (Lg zs k gn) ∧ OrdW (Lg zs k gn) ∧ ∀ x ∈ Lg zs k gn, x.val = 0) := ⟨Lg_wf zs (by omega), Lg_ord zs k gn, fun x hx => (Lg_el zs hx).1⟩
            have HLL := Lib.hid hLL
            clear hLL
            obtain ⟨p0, p1, p2, p3, p4, p5⟩ := sixBlk P0.out.prt
            have hps0 := blk_lt P0.out.prt
            obtain ⟨x0, x1, x2, x3, x4, x5⟩ := L0.out.cells
            have hxs0 := blk_lt L0.out.blk
            go_wp2_with fail
            rw [HGN.out]
            have h3 := cancQ_c nm c o s d r 0 gn _ _ [] (lst zs k) wr (L0.out.rq.mono (Nat.zero_le _)) (L0.out.fr.mono (Nat.zero_le _)).rd GW.out.1 GW.out.2 (by decide) (by simp)
            rw [canc_lst HV.out] at h3
            refine h3.mono ?_
            clear h3
            rintro e w3 ⟨vq3, vw3, rfl, rq3, fr3, b3⟩
            obtain ⟨a3, m3, c3, rfl, hm3⟩ := rq3.shape
            obtain ⟨d3, k3, e3, rfl, hk3⟩ := fr_shape fr3
            clear hm3 hk3
            have P3 := Lib.hid ((P0.out.next b3).put (g := (w.heap.size + 1)) (by omega) (.slice a3 m3 c3) (.slice d3 k3 e3) (.int .i64 0))
            have L3 : Hid (LT (put3 w3 (w.heap.size + 1) (.slice a3 m3 c3) (.slice d3 k3 e3) (.int .i64 0)) (w.heap.size + 2) (w.heap.size + 1) (.slice a3 m3 c3) (.slice d3 k3 e3) 0 [] (Lg zs k gn)) := (L0.out.next b3).put (rq3.mono hS) (fr3.mono hS) 0
            have hS3 : (w.heap.size + 2) ≤ (put3 w3 (w.heap.size + 1) (.slice a3 m3 c3) (.slice d3 k3 e3) (.int .i64 0)).heap.size := by rw [put3_size]; exact Nat.le_trans hS b3.size
            clear p0 p1 p2 p3 p4 p5 x0 x1 x2 x3 x4 x5
            obtain ⟨p0, p1, p2, p3, p4, p5⟩ := sixBlk (P0.out.next b3).prt
            have hps3 := blk_lt (P0.out.next b3).prt
            obtain ⟨x0, x1, x2, x3, x4, x5⟩ := (L0.out.next b3).cells
            have hxs3 := blk_lt (L0.out.next b3).blk
            clear rq3 fr3 b3 P0 L0
            go_wp2_with fail
            go_loopg [20, 101] (k - 1) (fun gg s20 s101 wr => ∃ j : Nat, j ≤ k - 1 ∧ k - 1 - j ≤ gg ∧ s101 = .int .i64 j ∧ (∃ q : Int, s20 = .int .i64 q ∧ Aside ((j = 0 → q = -1) ∧ ∀ (h0 : 0 < j) (h1 : j - 1 < (Lg zs k gn).length), q = (Lg zs k gn)[j - 1].proc)) ∧
              Aside (PV w wr nm c o s d r ∧ (w.heap.size + 2) ≤ wr.heap.size ∧ ∃ vq vw, LT wr (w.heap.size + 2) (w.heap.size + 1) vq vw 0 [] ((Lg zs k gn).drop j)))
            case atStart => exact ⟨0, Nat.zero_le _, by omega, rfl, ⟨-1, rfl, fun _ => rfl, fun h0 => absurd h0 (by omega)⟩, P3.out, hS3, _, _, L3.out⟩
            case round =>
              obtain ⟨j, hj, hg, rfl, ⟨q, rfl, Aq⟩, A⟩ := hrel
              clear P3 L3 hS3 p0 p1 p2 p3 p4 p5 x0 x1 x2 x3 x4 x5 hps3 hxs3
              obtain ⟨hP, hS, vq4, vw4, hL⟩ := A.out
              have rq4 := hL.rq
              have fr4 := hL.fr
              obtain ⟨a4, m4, c4, rfl, hm4⟩ := rq4.shape
              obtain ⟨d4, k4, e4, rfl, hk4⟩ := fr_shape fr4
              clear hm4 hk4
              have P4 := Lib.hid hP
              have L4 := Lib.hid hL
              clear rq4 fr4 A hP hL
              by_cases hlt : j < k - 1
              · have hltz : (j : Int) < (k : Int) - 1 := by omega
                have hjl : j < (Lg zs k gn).length := by rw [HLL.out]; exact hlt
                have hel := Lg_el zs (List.getElem_mem hjl)
                obtain ⟨b, off, rfl, hbs, _⟩ := hcell.out j (by omega)
                have hsg := send_drop HV.out HLW.out.2.1 HLW.out.2.2 j hjl 1
                have hlw : Hid (WfW ((Lg zs k gn).drop j) ∧ ((Lg zs k gn).drop j).length ≤ 90000) := ⟨HLW.out.1.drop j, by rw [List.length_drop, HLL.out]; omega⟩
                obtain ⟨pj, hpj⟩ : ∃ pj : Nat, (Lg zs k gn)[j].proc = (pj : Int) := ⟨_, (Int.toNat_of_nonneg hel.2.1).symm⟩
                rw [hpj] at hsg
                have hpjk : pj < k := by have := hel.2.2.1; omega
                have hpjg : pj ≠ gn := by have := hel.2.2.2.2; omega
                obtain ⟨_, _, hbo, _, cj, hpj0, hpj1⟩ := hcell.out pj hpjk
                simp only [Option.some.injEq, Addr.mk.injEq, and_true] at hbo
                obtain ⟨rfl, rfl⟩ := hbo
                have HPJ := Lib.hid hpj
                have HSG := Lib.hid hsg
                have hb1 : decide ((pj : Int) < 0) = false := decide_eq_false (by omega)
                have hb2 : decide ((k : Int) ≤ (pj : Int)) = false := decide_eq_false (by omega)
                have hb3 : decide (k ≤ pj) = false := decide_eq_false (by omega)
                have hb4 : ((pj : Int) == (gn : Int)) = false := by simp; omega
                have hb5 : (pj == gn) = false := by simp; omega
                clear hpj hsg hel hpjg
                by_cases h0 : j = 0
                · obtain rfl : q = -1 := Aq.out.1 h0
                  clear Aq
                  have H0 := Lib.hid h0
                  clear h0
                  generalize zs.getD pj 0 = zj at cj hpj0 hpj1
                  obtain ⟨p0, p1, p2, p3, p4, p5⟩ := sixBlk P4.out.prt
                  have hps4 := blk_lt P4.out.prt
                  obtain ⟨x0, x1, x2, x3, x4, x5⟩ := L4.out.cells
                  have hxs4 := blk_lt L4.out.blk
                  go_wp2_with fail
                  have h5 := sendQ_c nm c o s d r 0 (.slice (some ⟨wr.heap.size, 0, none⟩) 1 1) [1] _ _ [] ((Lg zs k gn).drop j) (wr.alloc (.cells #[.int .u8 1] 5)) ((L4.out.alloc _).rq.mono (Nat.zero_le _)) ((L4.out.alloc _).fr.mono (Nat.zero_le _)).rd hlw.out.1 hlw.out.2 (by decide) (by simp) (RdI.one' 1 rfl) (by decide)
                  rw [HSG.out] at h5
                  refine h5.mono ?_
                  clear h5
                  rintro e w5 ⟨vq5, vw5, rfl, rq5, fr5, b5⟩
                  obtain ⟨a5, m5, c5, rfl, hm5⟩ := rq5.shape
                  obtain ⟨d5, k5, e5, rfl, hk5⟩ := fr_shape fr5
                  clear hm5 hk5
                  have q5 : Below wr.heap.size wr w5 := ((Below.refl _ wr).alloc (Nat.le_refl _) _).trans (b5.mono (by simp))
                  have P5 := Lib.hid (P4.out.next q5)
                  have L5 := Lib.hid (L4.out.next q5)
                  have hz5 : wr.heap.size + 1 ≤ w5.heap.size := by have := b5.size; simpa using this
                  have RQ5 : Hid (RdQ w5 (w.heap.size + 2) (.slice a5 m5 c5) []) := rq5.mono (by simp; omega)
                  have FR5 : Hid (FrW w5 (w.heap.size + 2) (.slice d5 k5 e5) ((Lg zs k gn).drop (j + 1))) := fr5.mono (by simp; omega)
                  clear p0 p1 p2 p3 p4 p5 x0 x1 x2 x3 x4 x5
                  obtain ⟨p0, p1, p2, p3, p4, p5⟩ := sixBlk P5.out.prt
                  have hps5 := blk_lt P5.out.prt
                  obtain ⟨x0, x1, x2, x3, x4, x5⟩ := L5.out.cells
                  have hxs5 := blk_lt L5.out.blk
                  have cj2 : w5.cell? ⟨b, off + pj, none⟩ = some (.int .u8 zj) := (P5.out.bel.cell (p := ⟨b, _, none⟩) hbs).trans cj
                  have hbw : b < w5.heap.size := Nat.lt_of_lt_of_le hbs P5.out.bel.size
                  have hgs5 : ¬ (w.heap.size + 1 = w5.heap.size) := by omega
                  have hgs6 : ¬ (w5.heap.size = w.heap.size + 1) := by omega
                  clear rq5 fr5 b5 q5 P4 L4 HSG
                  go_wp2_with fail
                  refine wp_region_quiet_lit (by kernel_rfl) (by kernel_rfl) ?_
                  iterate 29 (first | go_big_quiet_step (fail) | quiet_step (fail))
                  refine wpQuiet_nil ?_
                  intro _ hw'
                  obtain ⟨nq, hw''⟩ := hw'
                  subst hw''
                  go_wp2_with fail
                  go_region
                  go_wp2
                  go_roundg (k - 1 - (j + 1))
                  case measure => omega
                  case rel =>
                    refine ⟨j + 1, by omega, by omega, by go_num, ⟨pj, rfl, fun h0 => absurd h0 (by omega), fun _ h1 => HPJ.out.symm⟩, ?_⟩
                    exact ⟨((P5.out.alloc _).drewN _).put (by omega) _ _ _, by simp [World.setCell]; omega, _, _, ((L5.out.alloc _).drewN _).put ((RQ5.out.alloc _).drewN _) ((FR5.out.alloc _).drewN _) 0⟩
                · have hj0 : 0 < j := by omega
                  have hj1 : j - 1 < (Lg zs k gn).length := by omega
                  have hq := Aq.out.2 hj0 hj1
                  have helq := Lg_el zs (List.getElem_mem hj1)
                  obtain ⟨pq, hpq⟩ : ∃ pq : Nat, (Lg zs k gn)[j - 1].proc = (pq : Int) := ⟨_, (Int.toNat_of_nonneg helq.2.1).symm⟩
                  rw [hpq] at hq
                  subst hq
                  have hpqk : pq < k := by have := helq.2.2.1; omega
                  obtain ⟨_, _, hbo, _, cq, _, _⟩ := hcell.out pq hpqk
                  simp only [Option.some.injEq, Addr.mk.injEq, and_true] at hbo
                  obtain ⟨rfl, rfl⟩ := hbo
                  have hnx := Lg_next zs k gn (j - 1) (by omega)
                  simp only [show j - 1 + 1 = j from by omega, hpq, HPJ.out, Int.toNat_natCast] at hnx
                  have hd0 : decide ((0 : Int) ≤ (pq : Int)) = true := decide_eq_true (by omega)
                  have hd1 : decide (zs.getD pq 0 < zs.getD pj 0) = false := decide_eq_false hnx.1
                  have hq0 : (0 : Int) ≤ (pq : Int) := by omega
                  have hqk : (pq : Int) < (k : Int) := by omega
                  have hjk : (pj : Int) < (k : Int) := by omega
                  have HNX := Lib.hid hnx.2
                  clear hnx Aq helq h0 hpq hj1
                  generalize zs.getD pq 0 = zq at cq hd1 HNX
                  generalize zs.getD pj 0 = zj at cj hd1 HNX hpj0 hpj1
                  by_cases heq : zq = zj
                  · have he1 : (zq == zj) = true := by simp [heq]
                    have he2 : decide ((pj : Int) ≤ (pq : Int)) = false := decide_eq_false (by have := HNX.out heq; omega)
                    have he3 : decide (pj ≤ pq) = false := decide_eq_false (by have := HNX.out heq; omega)
                    clear heq HNX
                    obtain ⟨p0, p1, p2, p3, p4, p5⟩ := sixBlk P4.out.prt
                    have hps4 := blk_lt P4.out.prt
                    obtain ⟨x0, x1, x2, x3, x4, x5⟩ := L4.out.cells
                    have hxs4 := blk_lt L4.out.blk
                    go_wp2_with fail
                    have h5 := sendQ_c nm c o s d r 0 (.slice (some ⟨wr.heap.size, 0, none⟩) 1 1) [1] _ _ [] ((Lg zs k gn).drop j) (wr.alloc (.cells #[.int .u8 1] 5)) ((L4.out.alloc _).rq.mono (Nat.zero_le _)) ((L4.out.alloc _).fr.mono (Nat.zero_le _)).rd hlw.out.1 hlw.out.2 (by decide) (by simp) (RdI.one' 1 rfl) (by decide)
                    rw [HSG.out] at h5
                    refine h5.mono ?_
                    clear h5
                    rintro e w5 ⟨vq5, vw5, rfl, rq5, fr5, b5⟩
                    obtain ⟨a5, m5, c5, rfl, hm5⟩ := rq5.shape
                    obtain ⟨d5, k5, e5, rfl, hk5⟩ := fr_shape fr5
                    clear hm5 hk5
                    have q5 : Below wr.heap.size wr w5 := ((Below.refl _ wr).alloc (Nat.le_refl _) _).trans (b5.mono (by simp))
                    have P5 := Lib.hid (P4.out.next q5)
                    have L5 := Lib.hid (L4.out.next q5)
                    have hz5 : wr.heap.size + 1 ≤ w5.heap.size := by have := b5.size; simpa using this
                    have RQ5 : Hid (RdQ w5 (w.heap.size + 2) (.slice a5 m5 c5) []) := rq5.mono (by simp; omega)
                    have FR5 : Hid (FrW w5 (w.heap.size + 2) (.slice d5 k5 e5) ((Lg zs k gn).drop (j + 1))) := fr5.mono (by simp; omega)
                    clear p0 p1 p2 p3 p4 p5 x0 x1 x2 x3 x4 x5
                    obtain ⟨p0, p1, p2, p3, p4, p5⟩ := sixBlk P5.out.prt
                    have hps5 := blk_lt P5.out.prt
                    obtain ⟨x0, x1, x2, x3, x4, x5⟩ := L5.out.cells
                    have hxs5 := blk_lt L5.out.blk
                    have cj2 : w5.cell? ⟨b, off + pj, none⟩ = some (.int .u8 zj) := (P5.out.bel.cell (p := ⟨b, _, none⟩) hbs).trans cj
                    have cq2 : w5.cell? ⟨b, off + pq, none⟩ = some (.int .u8 zq) := (P5.out.bel.cell (p := ⟨b, _, none⟩) hbs).trans cq
                    have hbw : b < w5.heap.size := Nat.lt_of_lt_of_le hbs P5.out.bel.size
                    have hgs5 : ¬ (w.heap.size + 1 = w5.heap.size) := by omega
                    have hgs6 : ¬ (w5.heap.size = w.heap.size + 1) := by omega
                    clear rq5 fr5 b5 q5 P4 L4 HSG
                    go_wp2_with fail
                    refine wp_region_quiet_lit (by kernel_rfl) (by kernel_rfl) ?_
                    iterate 29 (first | go_big_quiet_step (fail) | quiet_step (fail))
                    refine wpQuiet_nil ?_
                    intro _ hw'
                    obtain ⟨nq, hw''⟩ := hw'
                    subst hw''
                    go_wp2_with fail
                    go_region
                    go_wp2
                    go_roundg (k - 1 - (j + 1))
                    case measure => omega
                    case rel =>
                      refine ⟨j + 1, by omega, by omega, by go_num, ⟨pj, rfl, fun h0 => absurd h0 (by omega), fun _ h1 => HPJ.out.symm⟩, ?_⟩
                      exact ⟨((P5.out.alloc _).drewN _).put (by omega) _ _ _, by simp [World.setCell]; omega, _, _, ((L5.out.alloc _).drewN _).put ((RQ5.out.alloc _).drewN _) ((FR5.out.alloc _).drewN _) 0⟩
                  · have he1 : (zq == zj) = false := by simp [heq]
                    clear heq HNX
                    obtain ⟨p0, p1, p2, p3, p4, p5⟩ := sixBlk P4.out.prt
                    have hps4 := blk_lt P4.out.prt
                    obtain ⟨x0, x1, x2, x3, x4, x5⟩ := L4.out.cells
                    have hxs4 := blk_lt L4.out.blk
                    go_wp2_with fail
                    have h5 := sendQ_c nm c o s d r 0 (.slice (some ⟨wr.heap.size, 0, none⟩) 1 1) [1] _ _ [] ((Lg zs k gn).drop j) (wr.alloc (.cells #[.int .u8 1] 5)) ((L4.out.alloc _).rq.mono (Nat.zero_le _)) ((L4.out.alloc _).fr.mono (Nat.zero_le _)).rd hlw.out.1 hlw.out.2 (by decide) (by simp) (RdI.one' 1 rfl) (by decide)
                    rw [HSG.out] at h5
                    refine h5.mono ?_
                    clear h5
                    rintro e w5 ⟨vq5, vw5, rfl, rq5, fr5, b5⟩
                    obtain ⟨a5, m5, c5, rfl, hm5⟩ := rq5.shape
                    obtain ⟨d5, k5, e5, rfl, hk5⟩ := fr_shape fr5
                    clear hm5 hk5
                    have q5 : Below wr.heap.size wr w5 := ((Below.refl _ wr).alloc (Nat.le_refl _) _).trans (b5.mono (by simp))
                    have P5 := Lib.hid (P4.out.next q5)
                    have L5 := Lib.hid (L4.out.next q5)
                    have hz5 : wr.heap.size + 1 ≤ w5.heap.size := by have := b5.size; simpa using this
                    have RQ5 : Hid (RdQ w5 (w.heap.size + 2) (.slice a5 m5 c5) []) := rq5.mono (by simp; omega)
                    have FR5 : Hid (FrW w5 (w.heap.size + 2) (.slice d5 k5 e5) ((Lg zs k gn).drop (j + 1))) := fr5.mono (by simp; omega)
                    clear p0 p1 p2 p3 p4 p5 x0 x1 x2 x3 x4 x5
                    obtain ⟨p0, p1, p2, p3, p4, p5⟩ := sixBlk P5.out.prt
                    have hps5 := blk_lt P5.out.prt
                    obtain ⟨x0, x1, x2, x3, x4, x5⟩ := L5.out.cells
                    have hxs5 := blk_lt L5.out.blk
                    have cj2 : w5.cell? ⟨b, off + pj, none⟩ = some (.int .u8 zj) := (P5.out.bel.cell (p := ⟨b, _, none⟩) hbs).trans cj
                    have cq2 : w5.cell? ⟨b, off + pq, none⟩ = some (.int .u8 zq) := (P5.out.bel.cell (p := ⟨b, _, none⟩) hbs).trans cq
                    have hbw : b < w5.heap.size := Nat.lt_of_lt_of_le hbs P5.out.bel.size
                    have hgs5 : ¬ (w.heap.size + 1 = w5.heap.size) := by omega
                    have hgs6 : ¬ (w5.heap.size = w.heap.size + 1) := by omega
                    clear rq5 fr5 b5 q5 P4 L4 HSG
                    go_wp2_with fail
                    refine wp_region_quiet_lit (by kernel_rfl) (by kernel_rfl) ?_
                    iterate 29 (first | go_big_quiet_step (fail) | quiet_step (fail))
                    refine wpQuiet_nil ?_
                    intro _ hw'
                    obtain ⟨nq, hw''⟩ := hw'
                    subst hw''
                    go_wp2_with fail
                    go_region
                    go_wp2
                    go_roundg (k - 1 - (j + 1))
                    case measure => omega
                    case rel =>
                      refine ⟨j + 1, by omega, by omega, by go_num, ⟨pj, rfl, fun h0 => absurd h0 (by omega), fun _ h1 => HPJ.out.symm⟩, ?_⟩
                      exact ⟨((P5.out.alloc _).drewN _).put (by omega) _ _ _, by simp [World.setCell]; omega, _, _, ((L5.out.alloc _).drewN _).put ((RQ5.out.alloc _).drewN _) ((FR5.out.alloc _).drewN _) 0⟩
              · have hltz : ¬ (j : Int) < (k : Int) - 1 := by omega
                have hnil : (Lg zs k gn).drop j = [] := List.drop_eq_nil_of_le (by rw [HLL.out]; omega)
                have L4' : Hid (LT wr (w.heap.size + 2) (w.heap.size + 1) (.slice a4 m4 c4) (.slice d4 k4 e4) 0 [] []) := by have := L4.out; rwa [hnil] at this
                clear L4 hnil Aq hlt
                obtain ⟨p0, p1, p2, p3, p4, p5⟩ := sixBlk P4.out.prt
                have hps4 := blk_lt P4.out.prt
                obtain ⟨x0, x1, x2, x3, x4, x5⟩ := L4'.out.cells
                have hxs4 := blk_lt L4'.out.blk
                go_wp2_with fail
                have h6 := sendQ_c nm c o s d r 0 (.slice (some ⟨wr.heap.size, 0, none⟩) 1 1) [2] _ _ [] [] (wr.alloc (.cells #[.int .u8 2] 5)) ((L4'.out.alloc _).rq.mono (Nat.zero_le _)) ((L4'.out.alloc _).fr.mono (Nat.zero_le _)).rd (by unfold WfW; decide) (by decide) (by decide) (by simp) (RdI.one' 2 rfl) (by decide)
                rw [send_last HV.out 2] at h6
                refine h6.mono ?_
                clear h6
                rintro e w6 ⟨vq6, vw6, rfl, rq6, fr6, b6⟩
                obtain ⟨a6, m6, c6, rfl, hm6⟩ := rq6.shape
                obtain ⟨d6, k6, e6, rfl, hk6⟩ := fr_shape fr6
                clear hm6 hk6
                have P6 := Lib.hid (((P4.out.alloc (.cells #[.int .u8 2] 5)).next b6).alloc (.cells #[.slice a6 m6 c6, .slice d6 k6 e6, .int .i64 0] 27))
                clear rq6 fr6 b6 P4 L4'
                clear p0 p1 p2 p3 p4 p5 x0 x1 x2 x3 x4 x5
                go_wp2_with fail
                refine (awake23_c _).mono ?_
                rintro e w9 ⟨rfl, b9⟩
                have HB9 := Lib.hid ((P6.out).next b9).bel
                clear b9
                go_wp2_with fail
                go_ret
                exact ⟨rfl, HB9.out⟩
end Go.Proofs.Ytglbfmcbojjglaa

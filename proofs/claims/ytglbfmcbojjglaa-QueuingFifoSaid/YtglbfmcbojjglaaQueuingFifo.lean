/-
  QueuingFifo: for every port and every list of acts the call returns true, and nothing that was there before has turned. No conditions but that the list can be read.
-/
import Derived.Test.YtglbfmcbojjglaaFifoB
import Derived.Deep.DeepCutAuto
import Derived.Deep.CutBlock
namespace Go.Proofs.Ytglbfmcbojjglaa
open Go.RowKit

/-- A slice of n acts: three bytes each, and a message. -/
def RdF (w : World) (v : Value) (n : Nat) : Prop :=
  ∃ (ao : Option Addr) (cap : Nat), v = .slice ao n cap ∧ n ≤ cap ∧ (ao = none → cap = 0) ∧ ∀ k, k < n → ∃ b off x y z a m c u, ao = some ⟨b, off, none⟩ ∧ b < w.heap.size ∧
    w.cell? ⟨b, off + k * 4, none⟩ = some (.int .u8 x) ∧ w.cell? ⟨b, off + k * 4 + 1, none⟩ = some (.int .u8 y) ∧ w.cell? ⟨b, off + k * 4 + 2, none⟩ = some (.int .u8 z) ∧ w.cell? ⟨b, off + k * 4 + 3, none⟩ = some (.slice a m c) ∧
    (0 ≤ x ∧ x ≤ 255) ∧ (0 ≤ y ∧ y ≤ 255) ∧ (0 ≤ z ∧ z ≤ 255) ∧ RdI .u8 w 0 (.slice a m c) u ∧ m = u.length ∧ m ≤ 9223372036854775807

theorem OwnS.cell {w : World} {B m c : Nat} {a : Option Addr} {l : List (List Int)} (h : OwnS w B (.slice a m c) l) (k : Nat) (hk : k < l.length) : ∃ g, a = some ⟨g, 0, none⟩ ∧ m = l.length ∧ m ≤ c ∧ g < w.heap.size ∧ w.cell? ⟨g, k, none⟩ = some (.string (strOfNums l[k])) := by
  rcases h.2 with ⟨hv, hn⟩ | ⟨g, cap, cur, hv, _, hb, h1, _, _, ht⟩
  · omega
  · simp only [Value.slice.injEq] at hv
    obtain ⟨rfl, rfl, rfl⟩ := hv
    refine ⟨g, rfl, rfl, h1, blk_lt hb, ?_⟩
    rw [cell_of_row w _ _ _ _ _ hb]
    have h2 : (cur.toList.take (l.length * 1))[k]? = some (.string (strOfNums l[k])) := by rw [ht]; simp [hk]
    rw [List.getElem?_take_of_lt (by omega)] at h2
    simpa using h2
theorem OwnS.len {w : World} {B m c : Nat} {a : Option Addr} {l : List (List Int)} (h : OwnS w B (.slice a m c) l) : m = l.length := by
  rcases h.2 with ⟨hv, hn⟩ | ⟨g, cap, cur, hv, _⟩
  · simp only [Value.slice.injEq] at hv
    rw [hv.2.1, hn]
  · simp only [Value.slice.injEq] at hv
    exact hv.2.1
theorem RdQ.cell {w : World} {B m c : Nat} {a : Option Addr} {q : List (List Int)} (h : RdQ w B (.slice a m c) q) (k : Nat) (hk : k < q.length) : ∃ b off a' m' c', a = some ⟨b, off, none⟩ ∧ m = q.length ∧ m ≤ c ∧ b < w.heap.size ∧ w.cell? ⟨b, off + k, none⟩ = some (.slice a' m' c') ∧ RdI .u8 w B (.slice a' m' c') q[k] := by
  obtain ⟨vs, ⟨ao, cap, hv, h1, h2, h3, hp⟩, hr⟩ := h
  simp only [Value.slice.injEq] at hv
  obtain ⟨rfl, rfl, rfl⟩ := hv
  obtain ⟨b, off, ha, _, hb, hc⟩ := hp (by omega)
  have hkv : k < vs.length := by omega
  have hr' := hr k vs[k] q[k] (List.getElem?_eq_getElem hkv) (List.getElem?_eq_getElem hk)
  obtain ⟨a', c', hv', _⟩ := hr'.open_
  refine ⟨b, off, a', _, c', ha, rfl, h1, hb, ?_, by rw [hv'] at hr'; exact hr'⟩
  rw [hc k vs[k] (List.getElem?_eq_getElem hkv), hv']
theorem WfWtail {x : Wt} {m l : List Wt} (h : WfW l) (hl : l = x :: m) : WfW m := by
  subst hl
  exact fun y hy => h y (by simp [hy])
theorem lenTail {α : Type} {x : α} {m l : List α} {k : Nat} (h : l.length ≤ k) (hl : l = x :: m) : m.length + 1 ≤ k := by
  subst hl
  simpa using h
theorem wfm8 (x : Int) : (Lit.int .i64 (x % 8)).wf = true := by
  have h1 := Int.emod_nonneg x (show (8 : Int) ≠ 0 by decide)
  have h2 := Int.emod_lt_of_pos x (show (0 : Int) < 8 by decide)
  generalize x % 8 = y at *
  go_wf

theorem rdi_shapeF {w : World} {B : Nat} {v : Value} {l : List Int} (h : RdI .u8 w B v l) : ∃ a m c, v = .slice a m c ∧ m = l.length := by
  obtain ⟨a, c, hv, _⟩ := h.open_
  exact ⟨a, _, c, hv, rfl⟩
/-- What the state was, behind 's = ..'. -/
theorem oldS {w W W' : World} {pc : Array Value} {vs : Value} {st : List (List Int)} {vg : Value} {gt : List (List Int)} {vq vw : Value} {n : Int} {q : List (List Int)} {l : List Wt} (h : FC w W pc vs st vg gt vq vw n q l) (hb : Below W.heap.size W W') (x y z : Value) :
    RdQ (put3 W' (w.heap.size + 1) x y z) (w.heap.size + 2) vq q ∧ FrW (put3 W' (w.heap.size + 1) x y z) (w.heap.size + 2) vw l :=
  ⟨((((h.next hb).rq.low (Nat.lt_succ_self _)).low (Nat.lt_succ_self _)).low (Nat.lt_succ_self _)), ((((h.next hb).fr.low (Nat.lt_succ_self _)).low (Nat.lt_succ_self _)).low (Nat.lt_succ_self _))⟩

set_option maxHeartbeats 8000000 in
set_option maxRecDepth 100000 in
theorem queuingFifo_c (nm : ByteArray) (kk : Int) (o : Bool) (s d r : Int) (v : Value) (n0 : Nat) (w : World) (h : RdF w v n0) (hl : n0 ≤ 9223372036854775807) :
    Calls Try.prog 5 #[.agg #[.string nm, .int .u8 kk, .bool o, .int .i64 s, .int .i64 d, .int .i64 r], v] w fun e w' => e = .returned (.bool true) ∧ Below w.heap.size w w' := by
  obtain ⟨ao, ca, rfl, hca, hna, pa⟩ := h
  have HPA := Lib.hid pa
  clear pa
  obtain ⟨WX, hWX⟩ : ∃ WX, WX = (w.alloc (.cells #[.string nm, .int .u8 kk, .bool o, .int .i64 s, .int .i64 d, .int .i64 r] 23)).alloc (.cells #[.slice none 0 0, .slice none 0 0, .int .i64 0] 27) := ⟨_, rfl⟩
  have C0 : Hid (FC w WX #[.string nm, .int .u8 kk, .bool o, .int .i64 s, .int .i64 d, .int .i64 r] (.slice none 0 0) [] (.slice none 0 0) [] (.slice none 0 0) (.slice none 0 0) 0 [] []) := by
    subst hWX
    refine ⟨((Below.refl _ w).alloc (Nat.le_refl _) _).alloc (by simp) _, (Below.heap_alloc _ _ _ (by simp)).trans (heap_alloc_new w _), allocBu2 w _ _, RdQ.nil _ _, FrW.nil _ _, World.ownsRow_nil _ _ _ _, World.ownsRow_nil _ _ _ _, by intro b hb; cases hb⟩
  have HWX := Lib.hid hWX
  clear hWX
  have hval := validQ_c nm kk o s d r 0 (.slice none 0 0) (.slice none 0 0) [] [] WX (RdQ.nil _ _) (C0.out.fr.rd) (by unfold WfW; simp) (by simp) (by simp)
  have HVAL := Lib.hid hval
  clear hval
  cases hv0 : vldQ kk s d r [] [] 0 with
  | false =>
    have HV0 := Lib.hid hv0
    clear hv0
    go_enter Try.func5, Try.ntmps5
    go_wp2_with fail
    rw [← HWX.out]
    have hval := HVAL.out
    rw [HV0.out] at hval
    refine hval.mono ?_
    clear hval
    rintro e w1 ⟨rfl, b1⟩
    have B1 := Lib.hid (C0.out.next b1).bel
    clear b1
    go_wp2_with fail
    refine (awake23_c _).mono ?_
    rintro e w9 ⟨rfl, b9⟩
    have HB9 := Lib.hid (B1.out.trans (b9.mono B1.out.size))
    clear b9
    go_wp2_with fail
    go_ret
    exact ⟨rfl, HB9.out⟩
  | true =>
    have HV0 := Lib.hid hv0
    clear hv0
    go_enter Try.func5, Try.ntmps5
    go_wp2_with fail
    rw [← HWX.out]
    have hval := HVAL.out
    rw [HV0.out] at hval
    refine hval.mono ?_
    clear hval
    rintro e w1 ⟨rfl, b1⟩
    have C1 := Lib.hid (C0.out.next b1)
    clear b1 C0 HWX HVAL
    go_upto_region 6 with (fail)
    go_cut [30, 31, 32] (fun s30 s31 s32 wx => ∃ n : Nat, s30 = .slice ao n ca ∧ s31 = .int .i64 n ∧ s32 = .int .i64 0 ∧ n ≤ 40 ∧ n ≤ n0 ∧ w1 = wx)
    case first =>
      by_cases h10 : n0 ≤ 40
      · have hi : (n0 : Int) ≤ 40 := by omega
        go_wp2
        go_meet
        exact ⟨n0, rfl, rfl, rfl, h10, Nat.le_refl _, rfl⟩
      · have hi : ¬ (n0 : Int) ≤ 40 := by omega
        go_wp2
        go_meet
        exact ⟨40, rfl, rfl, rfl, Nat.le_refl _, by omega, rfl⟩
    case rest =>
      obtain ⟨n, rfl, rfl, rfl, hn1, hn2, rfl⟩ := hcut
      have hcell := fun k (hk : k < n) => HPA.out k (by omega)
      have HCELL := Lib.hid hcell
      clear HPA hcell
      go_wp2_with fail
      go_loopg [6, 7, 8, 32] n (fun gg s6 s7 s8 s32 wr => ∃ k : Nat, k ≤ n ∧ n - k ≤ gg ∧ s32 = .int .i64 k ∧ ∃ sa sm sc ga gm gc, s6 = .slice sa sm sc ∧ s7 = .slice ga gm gc ∧ ∃ lo : Int, s8 = .int .i64 lo ∧ 0 ≤ lo ∧ lo ≤ k ∧ Aside (∃ vq vw q l st gt, FC w wr #[.string nm, .int .u8 kk, .bool o, .int .i64 s, .int .i64 d, .int .i64 r] (.slice sa sm sc) st (.slice ga gm gc) gt vq vw lo q l ∧ vldQ kk s d r q l lo = true ∧ WfW l ∧ l.length ≤ k ∧ st = gt ++ q ∧ st.length ≤ k ∧ gt.length ≤ k))
      case atStart =>
        exact ⟨0, Nat.zero_le _, by omega, rfl, _, _, _, _, _, _, rfl, rfl, 0, rfl, by omega, by omega, _, _, [], [], [], [], C1.out, HV0.out, by unfold WfW; simp, Nat.zero_le _, rfl, Nat.zero_le _, Nat.zero_le _⟩
      case round =>
        obtain ⟨k, hk, hg, rfl, sa, sm, sc, ga, gm, gc, rfl, rfl, lo, rfl, hlo0, hlo1, A⟩ := hrel
        clear C1
        by_cases hlt : k < n
        · have hltz : (k : Int) < (n : Int) := by omega
          obtain ⟨vq, vw, q, l, st, gt, B0, hvl, hwl, hll, hst, hstl, hgtl⟩ := A.out
          clear A
          obtain ⟨b, off, x0, x1, x2, xa, xm, xc, xs, rfl, hbs, c0, c1, c2, c3, hx0, hx1, hx2, hrx, hxm, hxl⟩ := HCELL.out k hlt
          rw [← B0.bel.cell (p := ⟨b, _, none⟩) hbs] at c0 c1 c2 c3
          have hbw : b < wr.heap.size := Nat.lt_of_lt_of_le hbs B0.bel.size
          have hx00 := hx0.1
          have hx01 := hx0.2
          have hx10 := hx1.1
          have hx11 := hx1.2
          have hx20 := hx2.1
          have hx21 := hx2.2
          have HRX := Lib.hid hrx
          have HXM := Lib.hid hxm
          clear hx0 hx1 hx2 hbs hrx hxm
          obtain ⟨qa, qc, rfl⟩ := B0.rq.shape'
          obtain ⟨wa, wc', rfl⟩ := fr_slice B0.fr
          obtain ⟨u0, u1, u2, _, _, _⟩ := threeBlk B0.blk
          have ub := blk_lt B0.blk
          obtain ⟨p0, p1, p2, p3, p4, p5⟩ := sixBlk B0.prt
          have pb := blk_lt B0.prt
          by_cases hbig : 200 < xm
          · have hbigz : (200 : Int) < (xm : Int) := by omega
            have BE := Lib.hid ((B0.alloc (.cells #[.int .u8 x0, .int .u8 x1, .int .u8 x2, .slice xa xm xc] 66)).bel)
            clear B0 hvl hwl hll hst hstl hgtl
            go_wp2_with fail
            refine (awake23_c _).mono ?_
            rintro e w9 ⟨rfl, b9⟩
            have HB9 := Lib.hid (BE.out.trans (b9.mono BE.out.size))
            clear b9
            go_wp2_with fail
            go_ret
            exact ⟨rfl, HB9.out⟩
          have hbigz : ¬ (200 : Int) < (xm : Int) := by omega
          have hxl2 : xs.length ≤ 200 := by have := HXM.out; omega
          obtain ⟨W1, hW1⟩ : ∃ W1, W1 = (wr.alloc (.cells #[.int .u8 x0, .int .u8 x1, .int .u8 x2, .slice xa xm xc] 66)).alloc (.cells #[.slice qa q.length qc, .slice wa l.length wc', .int .i64 lo] 27) := ⟨_, rfl⟩
          have B1 : Hid (FC w W1 #[.string nm, .int .u8 kk, .bool o, .int .i64 s, .int .i64 d, .int .i64 r] (.slice sa sm sc) st (.slice ga gm gc) gt (.slice qa q.length qc) (.slice wa l.length wc') lo q l) := by subst hW1; exact (B0.alloc _).alloc _
          have X1 : Hid (W1.heap[wr.heap.size]? = some (.cells #[.int .u8 x0, .int .u8 x1, .int .u8 x2, .slice xa xm xc] 66 (0, 0))) := by subst hW1; exact (Below.heap_alloc _ _ _ (by simp)).trans (heap_alloc_new wr _)
          have Y1 : Hid (W1.heap[wr.heap.size + 1]? = some (.cells #[.slice qa q.length qc, .slice wa l.length wc', .int .i64 lo] 27 (0, 0))) := by subst hW1; exact allocBu2 wr _ _
          have HW1 := Lib.hid hW1
          obtain ⟨hq16, hm64⟩ := vldQ_d hvl
          have HM : Hid (∀ x ∈ q, x.length ≤ 1000000) := fun x hx => Nat.le_trans (hm64 x hx) (by decide)
          have HV := Lib.hid hvl
          have HWL := Lib.hid hwl
          have HST := Lib.hid hst
          have HL : Hid (l.length ≤ k ∧ st.length ≤ k ∧ gt.length ≤ k) := ⟨hll, hstl, hgtl⟩
          have HLO := Lib.hid B1.out.low
          have hll40 : l.length ≤ 40 := by omega
          have hstl40 : st.length ≤ 40 := by omega
          have hgtl40 : gt.length ≤ 40 := by omega
          have hq8 : 0 ≤ (x1 % 8) := by omega
          have hga : w.heap.size + 1 < wr.heap.size := ub
          clear hW1 B0 hvl hwl hst hll hstl hgtl hm64
          go_upto_block 2 with (fail)
          rw [← HW1.out]
          clear HW1 u0 u1 u2 ub p0 p1 p2 p3 p4 p5 pb
          go_cut [6, 7, 8, 13] (fun s6 s7 s8 s13 wx => ∃ sa' sm' sc' ga' gm' gc' lo' ev, s6 = .slice sa' sm' sc' ∧ s7 = .slice ga' gm' gc' ∧ s8 = .int .i64 lo' ∧ s13 = .int .i64 ev ∧ 0 ≤ lo' ∧ lo' ≤ k + 1 ∧ Aside (∃ vq' vw' q' l' st' gt', FR w wx #[.string nm, .int .u8 kk, .bool o, .int .i64 s, .int .i64 d, .int .i64 r] W1.heap.size wr.heap.size x0 x1 x2 (.slice xa xm xc) (.slice qa q.length qc) (.slice wa l.length wc') (.int .i64 lo) (.slice sa' sm' sc') st' (.slice ga' gm' gc') gt' vq' vw' lo' q' l' ∧ vldQ kk s d r q' l' lo' = true ∧ WfW l' ∧ l'.length ≤ k + 1 ∧ st' = gt' ++ q' ∧ st'.length ≤ k + 1 ∧ gt'.length ≤ k + 1 ∧ ((ev = 0 ∨ ev = 4) ∨ ((ev ≠ 0 ∧ ev ≠ 4) ∧ q' = q ∧ l' = l ∧ lo' = lo ∧ RdQ wx 0 (.slice qa q.length qc) q ∧ RdW wx 0 (.slice wa l.length wc') l))))
          case first =>
            obtain ⟨u0, u1, u2, _, _, _⟩ := threeBlk B1.out.blk
            have ub := blk_lt B1.out.blk
            obtain ⟨p0, p1, p2, p3, p4, p5⟩ := sixBlk B1.out.prt
            have pb := blk_lt B1.out.prt
            obtain ⟨j0, j1, j2, j3, _, _, _, _⟩ := fourBlk X1.out
            have jb := blk_lt X1.out
            obtain ⟨i0, i1, i2, _, _, _⟩ := threeBlk Y1.out
            have ib := blk_lt Y1.out
            rcases (show x0 % 4 = 0 ∨ x0 % 4 = 1 ∨ x0 % 4 = 2 ∨ (x0 % 4 ≠ 0 ∧ x0 % 4 ≠ 1 ∧ x0 % 4 ≠ 2) by omega) with hK | hK | hK | hK
            · have hx4 : (x0 % 4 == 0) = true := by simpa using hK
              clear hK
              have hsw : (∃ ev : Int, (ev = 2 ∨ ev = 3) ∧ sendQ kk s d r q l lo xs = (q, l, lo, -1, ev)) ∨ _ := (send_ways HV.out (by omega) xs).elim (fun h => .inl ⟨2, .inl rfl, h⟩) (fun h => h.elim (fun h => .inl ⟨3, .inr rfl, h⟩) .inr)
              rcases hsw with ⟨ev, hev, he⟩ | ⟨y, m, hl', hq', h0, he, hv'⟩ | ⟨hl', he, hv'⟩ | ⟨hl', he, hv'⟩
              · as_aux_lemma =>
                  have hev2 : ev ≠ 0 ∧ ev ≠ 4 := by omega
                  have HEV := Lib.hid hev2
                  have ev1 : (ev == 0) = false := by rw [beq_eq_false_iff_ne]; omega
                  have ev2 : (ev != 0) = true := by rw [bne_iff_ne]; omega
                  have ev3 : (ev == 4) = false := by rw [beq_eq_false_iff_ne]; omega
                  have ev4 : (ev != 4) = true := by rw [bne_iff_ne]; omega
                  clear hev hev2
                  have HE := Lib.hid he
                  have HV' := Lib.hid HV.out
                  have HW' := Lib.hid HWL.out
                  have HQ' : Hid (q.length ≤ 16) := hq16
                  clear he
                  have HL' : Hid (l.length ≤ k + 1 ∧ st.length ≤ k + 1 ∧ gt.length ≤ k + 1) := by have := HL.out; exact ⟨by first | omega | (rw [enterW_length]; omega), by first | omega | (simp; omega), by first | omega | (simp; omega)⟩
                  go_wp2_with fail
                  have h1 := sendQ_c nm kk o s d r lo _ xs _ _ q l _ (B1.out.rq.mono (Nat.zero_le _)) B1.out.fr.rd HWL.out (by omega) (by omega) HM.out (HRX.out.below B1.out.bel) (by omega)
                  rw [HE.out] at h1
                  refine h1.mono ?_
                  clear h1
                  rintro e w2 ⟨vq2, vw2, rfl, rq2, fr2, b2⟩
                  obtain ⟨q2, qm2, qc2, rfl, hqm2⟩ := rq2.shape
                  obtain ⟨l2, lm2, lc2, rfl, hlm2⟩ := fr_shape fr2
                  clear hlm2
                  have HQM2 := Lib.hid hqm2
                  clear hqm2
                  have R0 := Lib.hid (B1.out.call (n' := lo) X1.out Y1.out hga b2 rq2 fr2)
                  have S0 := Lib.hid (oldS B1.out b2 (.slice q2 qm2 qc2) (.slice l2 lm2 lc2) (.int .i64 lo))
                  obtain ⟨za0, za1, za2, za3, _, _, _, _⟩ := fourBlk ((b2.block _ (blk_lt X1.out)).trans X1.out)
                  have zab := Nat.lt_of_lt_of_le (blk_lt X1.out) b2.size
                  obtain ⟨zw0, zw1, zw2, _, _, _⟩ := threeBlk ((b2.block _ (blk_lt Y1.out)).trans Y1.out)
                  have zwb := Nat.lt_of_lt_of_le (blk_lt Y1.out) b2.size
                  obtain ⟨zu0, zu1, zu2, zu3, zu4, zu5⟩ := threeBlk (B1.out.next b2).blk
                  have zub := blk_lt (B1.out.next b2).blk
                  obtain ⟨zp0, zp1, zp2, zp3, zp4, zp5⟩ := sixBlk (B1.out.next b2).prt
                  have zpb := blk_lt (B1.out.next b2).prt
                  have hne1 : ¬ (w.heap.size = w.heap.size + 1) := by omega
                  have hne2 : ¬ (wr.heap.size = w.heap.size + 1) := by omega
                  have hne3 : ¬ (wr.heap.size + 1 = w.heap.size + 1) := by omega
                  clear rq2 fr2 b2 B1 X1 Y1 u0 u1 u2 ub p0 p1 p2 p3 p4 p5 pb j0 j1 j2 j3 jb i0 i1 i2 ib
                  go_wp2_with fail
                  go_meet
                  refine ⟨_, _, _, _, _, _, lo, ev, rfl, rfl, (by first | rfl | go_num), rfl, by omega, by omega, _, _, q, l, st, gt, R0.out, HV'.out, HW'.out, HL'.out.1, ?_, HL'.out.2.1, HL'.out.2.2, ?_⟩
                  · exact HST.out
                  · exact .inr ⟨HEV.out, rfl, rfl, rfl, S0.out.1.mono (Nat.zero_le _), S0.out.2.rd⟩
              · as_aux_lemma =>
                  have HE := Lib.hid he
                  have HV' := Lib.hid hv'
                  have HQ' : Hid (q.length ≤ 16) := (vldQ_d hv').1
                  have HW' : Hid (WfW m) := WfWtail HWL.out hl'
                  have hml : m.length + 1 ≤ l.length := lenTail (Nat.le_refl _) hl'
                  have hlz : (0 : Int) < (l.length : Int) := by omega
                  have HQN := Lib.hid hq'
                  have HZX := Lib.hid (fun W (hb : Below w.heap.size w W) => (HRX.out.below hb).str)
                  clear he hv' hl' hq'
                  generalize y.proc = wk at HE h0
                  have hlz2 : 0 < l.length := by omega
                  have hlz3 : decide (0 < l.length) = true := by simp; omega
                  have hlz4 : decide ((0 : Int) < (l.length : Int)) = true := by simp; omega
                  have hwk1 : decide (0 ≤ wk) = true := by simpa using h0
                  have HL' : Hid (m.length ≤ k + 1 ∧ (st ++ [xs]).length ≤ k + 1 ∧ (gt ++ [xs]).length ≤ k + 1) := by have := HL.out; exact ⟨by first | omega | (rw [enterW_length]; omega), by first | omega | (simp; omega), by first | omega | (simp; omega)⟩
                  go_wp2_with fail
                  have h1 := sendQ_c nm kk o s d r lo _ xs _ _ q l _ (B1.out.rq.mono (Nat.zero_le _)) B1.out.fr.rd HWL.out (by omega) (by omega) HM.out (HRX.out.below B1.out.bel) (by omega)
                  rw [HE.out] at h1
                  refine h1.mono ?_
                  clear h1
                  rintro e w2 ⟨vq2, vw2, rfl, rq2, fr2, b2⟩
                  obtain ⟨q2, qm2, qc2, rfl, hqm2⟩ := rq2.shape
                  obtain ⟨l2, lm2, lc2, rfl, hlm2⟩ := fr_shape fr2
                  clear hlm2
                  have HQM2 := Lib.hid hqm2
                  clear hqm2
                  have R0 := Lib.hid (B1.out.call (n' := lo) X1.out Y1.out hga b2 rq2 fr2)
                  have S0 := Lib.hid (oldS B1.out b2 (.slice q2 qm2 qc2) (.slice l2 lm2 lc2) (.int .i64 lo))
                  obtain ⟨za0, za1, za2, za3, _, _, _, _⟩ := fourBlk ((b2.block _ (blk_lt X1.out)).trans X1.out)
                  have zab := Nat.lt_of_lt_of_le (blk_lt X1.out) b2.size
                  obtain ⟨zw0, zw1, zw2, _, _, _⟩ := threeBlk ((b2.block _ (blk_lt Y1.out)).trans Y1.out)
                  have zwb := Nat.lt_of_lt_of_le (blk_lt Y1.out) b2.size
                  obtain ⟨zu0, zu1, zu2, zu3, zu4, zu5⟩ := threeBlk (B1.out.next b2).blk
                  have zub := blk_lt (B1.out.next b2).blk
                  obtain ⟨zp0, zp1, zp2, zp3, zp4, zp5⟩ := sixBlk (B1.out.next b2).prt
                  have zpb := blk_lt (B1.out.next b2).prt
                  have hne1 : ¬ (w.heap.size = w.heap.size + 1) := by omega
                  have hne2 : ¬ (wr.heap.size = w.heap.size + 1) := by omega
                  have hne3 : ¬ (wr.heap.size + 1 = w.heap.size + 1) := by omega
                  clear rq2 fr2 b2 B1 X1 Y1 u0 u1 u2 ub p0 p1 p2 p3 p4 p5 pb j0 j1 j2 j3 jb i0 i1 i2 ib
                  have zxR0 := HZX.out _ R0.out.fc.bel
                  unfold put3 at zxR0
                  obtain ⟨Px, Py, Pw, Pr, Pq⟩ := R0.out.appS (y := xs) (by omega) HLO.out.1 64
                  rw [put3_size] at Pr
                  unfold put3 at Pr
                  have PR := Lib.hid Pr
                  have P := Lib.hid Pq
                  clear Pr Pq
                  obtain ⟨Pp0, Pp1, Pp2, Pp3, Pp4, Pp5⟩ := sixBlk P.out.fc.prt
                  have Ppb := blk_lt P.out.fc.prt
                  obtain ⟨Pu0, Pu1, Pu2, Pu3, Pu4, Pu5⟩ := threeBlk P.out.fc.blk
                  have Pub := blk_lt P.out.fc.blk
                  obtain ⟨Pa0, Pa1, Pa2, Pa3, _, _, _, _⟩ := fourBlk P.out.act
                  have Pab := blk_lt P.out.act
                  obtain ⟨Pw0, Pw1, Pw2, _, _, _⟩ := threeBlk P.out.was
                  have Pwb := blk_lt P.out.was
                  have zxP := HZX.out _ P.out.fc.bel
                  obtain ⟨Gx, Gy, Gw, Gr, Gq⟩ := P.out.appG (y := xs) (by omega) HLO.out.2 64
                  have GR := Lib.hid Gr
                  have G := Lib.hid Gq
                  clear Gr Gq
                  obtain ⟨Gp0, Gp1, Gp2, Gp3, Gp4, Gp5⟩ := sixBlk G.out.fc.prt
                  have Gpb := blk_lt G.out.fc.prt
                  obtain ⟨Gu0, Gu1, Gu2, Gu3, Gu4, Gu5⟩ := threeBlk G.out.fc.blk
                  have Gub := blk_lt G.out.fc.blk
                  obtain ⟨Ga0, Ga1, Ga2, Ga3, _, _, _, _⟩ := fourBlk G.out.act
                  have Gab := blk_lt G.out.act
                  obtain ⟨Gw0, Gw1, Gw2, _, _, _⟩ := threeBlk G.out.was
                  have Gwb := blk_lt G.out.was
                  go_wp2_with (first | (at_builtin; refine Lib.wpList_append_run (o := ⟨some 85, _, _, _, _, _⟩) _ rfl _ _ _ _ rfl _ _ rfl rfl _ _ PR.out ?_) | (at_builtin; refine Lib.wpList_append_run (o := ⟨some 93, _, _, _, _, _⟩) _ rfl _ _ _ _ rfl _ _ rfl rfl _ _ GR.out ?_))
                  go_meet
                  refine ⟨_, _, _, _, _, _, lo, 0, rfl, rfl, (by first | rfl | go_num), rfl, by omega, by omega, _, _, q, m, (st ++ [xs]), (gt ++ [xs]), G.out, HV'.out, HW'.out, HL'.out.1, ?_, HL'.out.2.1, HL'.out.2.2, ?_⟩
                  · rw [HST.out, HQN.out]; simp
                  · exact .inl (by first | exact .inl rfl | exact .inr rfl)
              · as_aux_lemma =>
                  have HE := Lib.hid he
                  have HV' := Lib.hid hv'
                  have HQ' : Hid (q.length ≤ 16) := (vldQ_d hv').1
                  have HW' : Hid (WfW l) := HWL.out
                  have hlz : ¬ (0 : Int) < (l.length : Int) := by rw [hl']; simp
                  clear he hv' hl'
                  have HL' : Hid (l.length ≤ k + 1 ∧ st.length ≤ k + 1 ∧ gt.length ≤ k + 1) := by have := HL.out; exact ⟨by first | omega | (rw [enterW_length]; omega), by first | omega | (simp; omega), by first | omega | (simp; omega)⟩
                  go_wp2_with fail
                  have h1 := sendQ_c nm kk o s d r lo _ xs _ _ q l _ (B1.out.rq.mono (Nat.zero_le _)) B1.out.fr.rd HWL.out (by omega) (by omega) HM.out (HRX.out.below B1.out.bel) (by omega)
                  rw [HE.out] at h1
                  refine h1.mono ?_
                  clear h1
                  rintro e w2 ⟨vq2, vw2, rfl, rq2, fr2, b2⟩
                  obtain ⟨q2, qm2, qc2, rfl, hqm2⟩ := rq2.shape
                  obtain ⟨l2, lm2, lc2, rfl, hlm2⟩ := fr_shape fr2
                  clear hlm2
                  have HQM2 := Lib.hid hqm2
                  clear hqm2
                  have R0 := Lib.hid (B1.out.call (n' := (lo + 1)) X1.out Y1.out hga b2 rq2 fr2)
                  have S0 := Lib.hid (oldS B1.out b2 (.slice q2 qm2 qc2) (.slice l2 lm2 lc2) (.int .i64 (lo + 1)))
                  obtain ⟨za0, za1, za2, za3, _, _, _, _⟩ := fourBlk ((b2.block _ (blk_lt X1.out)).trans X1.out)
                  have zab := Nat.lt_of_lt_of_le (blk_lt X1.out) b2.size
                  obtain ⟨zw0, zw1, zw2, _, _, _⟩ := threeBlk ((b2.block _ (blk_lt Y1.out)).trans Y1.out)
                  have zwb := Nat.lt_of_lt_of_le (blk_lt Y1.out) b2.size
                  obtain ⟨zu0, zu1, zu2, zu3, zu4, zu5⟩ := threeBlk (B1.out.next b2).blk
                  have zub := blk_lt (B1.out.next b2).blk
                  obtain ⟨zp0, zp1, zp2, zp3, zp4, zp5⟩ := sixBlk (B1.out.next b2).prt
                  have zpb := blk_lt (B1.out.next b2).prt
                  have hne1 : ¬ (w.heap.size = w.heap.size + 1) := by omega
                  have hne2 : ¬ (wr.heap.size = w.heap.size + 1) := by omega
                  have hne3 : ¬ (wr.heap.size + 1 = w.heap.size + 1) := by omega
                  clear rq2 fr2 b2 B1 X1 Y1 u0 u1 u2 ub p0 p1 p2 p3 p4 p5 pb j0 j1 j2 j3 jb i0 i1 i2 ib
                  go_wp2_with fail
                  go_meet
                  refine ⟨_, _, _, _, _, _, lo + 1, 4, rfl, rfl, (by first | rfl | go_num), rfl, by omega, by omega, _, _, q, l, st, gt, R0.out, HV'.out, HW'.out, HL'.out.1, ?_, HL'.out.2.1, HL'.out.2.2, ?_⟩
                  · exact HST.out
                  · exact .inl (by first | exact .inl rfl | exact .inr rfl)
              · as_aux_lemma =>
                  have HE := Lib.hid he
                  have HV' := Lib.hid hv'
                  have HQ' : Hid ((q ++ [xs]).length ≤ 16) := (vldQ_d hv').1
                  have HW' : Hid (WfW l) := HWL.out
                  have hlz : ¬ (0 : Int) < (l.length : Int) := by rw [hl']; simp
                  have HZX := Lib.hid (fun W (hb : Below w.heap.size w W) => (HRX.out.below hb).str)
                  clear he hv' hl'
                  have HL' : Hid (l.length ≤ k + 1 ∧ (st ++ [xs]).length ≤ k + 1 ∧ gt.length ≤ k + 1) := by have := HL.out; exact ⟨by first | omega | (rw [enterW_length]; omega), by first | omega | (simp; omega), by first | omega | (simp; omega)⟩
                  go_wp2_with fail
                  have h1 := sendQ_c nm kk o s d r lo _ xs _ _ q l _ (B1.out.rq.mono (Nat.zero_le _)) B1.out.fr.rd HWL.out (by omega) (by omega) HM.out (HRX.out.below B1.out.bel) (by omega)
                  rw [HE.out] at h1
                  refine h1.mono ?_
                  clear h1
                  rintro e w2 ⟨vq2, vw2, rfl, rq2, fr2, b2⟩
                  obtain ⟨q2, qm2, qc2, rfl, hqm2⟩ := rq2.shape
                  obtain ⟨l2, lm2, lc2, rfl, hlm2⟩ := fr_shape fr2
                  clear hlm2
                  have HQM2 := Lib.hid hqm2
                  clear hqm2
                  have R0 := Lib.hid (B1.out.call (n' := lo) X1.out Y1.out hga b2 rq2 fr2)
                  have S0 := Lib.hid (oldS B1.out b2 (.slice q2 qm2 qc2) (.slice l2 lm2 lc2) (.int .i64 lo))
                  obtain ⟨za0, za1, za2, za3, _, _, _, _⟩ := fourBlk ((b2.block _ (blk_lt X1.out)).trans X1.out)
                  have zab := Nat.lt_of_lt_of_le (blk_lt X1.out) b2.size
                  obtain ⟨zw0, zw1, zw2, _, _, _⟩ := threeBlk ((b2.block _ (blk_lt Y1.out)).trans Y1.out)
                  have zwb := Nat.lt_of_lt_of_le (blk_lt Y1.out) b2.size
                  obtain ⟨zu0, zu1, zu2, zu3, zu4, zu5⟩ := threeBlk (B1.out.next b2).blk
                  have zub := blk_lt (B1.out.next b2).blk
                  obtain ⟨zp0, zp1, zp2, zp3, zp4, zp5⟩ := sixBlk (B1.out.next b2).prt
                  have zpb := blk_lt (B1.out.next b2).prt
                  have hne1 : ¬ (w.heap.size = w.heap.size + 1) := by omega
                  have hne2 : ¬ (wr.heap.size = w.heap.size + 1) := by omega
                  have hne3 : ¬ (wr.heap.size + 1 = w.heap.size + 1) := by omega
                  clear rq2 fr2 b2 B1 X1 Y1 u0 u1 u2 ub p0 p1 p2 p3 p4 p5 pb j0 j1 j2 j3 jb i0 i1 i2 ib
                  have zxR0 := HZX.out _ R0.out.fc.bel
                  unfold put3 at zxR0
                  obtain ⟨Px, Py, Pw, Pr, Pq⟩ := R0.out.appS (y := xs) (by omega) HLO.out.1 64
                  rw [put3_size] at Pr
                  unfold put3 at Pr
                  have PR := Lib.hid Pr
                  have P := Lib.hid Pq
                  clear Pr Pq
                  obtain ⟨Pp0, Pp1, Pp2, Pp3, Pp4, Pp5⟩ := sixBlk P.out.fc.prt
                  have Ppb := blk_lt P.out.fc.prt
                  obtain ⟨Pu0, Pu1, Pu2, Pu3, Pu4, Pu5⟩ := threeBlk P.out.fc.blk
                  have Pub := blk_lt P.out.fc.blk
                  obtain ⟨Pa0, Pa1, Pa2, Pa3, _, _, _, _⟩ := fourBlk P.out.act
                  have Pab := blk_lt P.out.act
                  obtain ⟨Pw0, Pw1, Pw2, _, _, _⟩ := threeBlk P.out.was
                  have Pwb := blk_lt P.out.was
                  go_wp2_with (first | (at_builtin; refine Lib.wpList_append_run (o := ⟨some 85, _, _, _, _, _⟩) _ rfl _ _ _ _ rfl _ _ rfl rfl _ _ PR.out ?_))
                  go_meet
                  refine ⟨_, _, _, _, _, _, lo, 0, rfl, rfl, (by first | rfl | go_num), rfl, by omega, by omega, _, _, (q ++ [xs]), l, (st ++ [xs]), gt, P.out, HV'.out, HW'.out, HL'.out.1, ?_, HL'.out.2.1, HL'.out.2.2, ?_⟩
                  · rw [HST.out]; simp
                  · exact .inl (by first | exact .inl rfl | exact .inr rfl)
            · have hx4 : (x0 % 4 == 0) = false := by rw [beq_eq_false_iff_ne]; omega
              have hx5 : (x0 % 4 == 1) = true := by simpa using hK
              clear hK
              rcases recv_ways HV.out hq8 x2 with he | ⟨x, t, hq', he, hv'⟩ | ⟨hq', he, hv'⟩
              · as_aux_lemma =>
                  have HE := Lib.hid he
                  have HV' := Lib.hid HV.out
                  have HW' := Lib.hid HWL.out
                  have HQ' : Hid (q.length ≤ 16) := hq16
                  clear he
                  have HL' : Hid (l.length ≤ k + 1 ∧ st.length ≤ k + 1 ∧ gt.length ≤ k + 1) := by have := HL.out; exact ⟨by first | omega | (rw [enterW_length]; omega), by first | omega | (simp; omega), by first | omega | (simp; omega)⟩
                  go_wp2_with fail
                  have h1 := recvQ_c nm kk o s d r lo (x1 % 8) x2 _ _ q l _ (B1.out.rq.mono (Nat.zero_le _)) B1.out.fr.rd HWL.out (by omega) (by omega) HM.out
                  rw [HE.out] at h1
                  refine h1.mono ?_
                  clear h1
                  rintro e w2 ⟨vq2, vw2, vx2, rfl, rq2, fr2, rx2, b2⟩
                  obtain ⟨q2, qm2, qc2, rfl, hqm2⟩ := rq2.shape
                  obtain ⟨l2, lm2, lc2, rfl, hlm2⟩ := fr_shape fr2
                  clear hlm2
                  have HQM2 := Lib.hid hqm2
                  clear hqm2
                  obtain ⟨y2, ym2, yc2, rfl, hym2⟩ := rdi_shapeF rx2
                  clear hym2
                  have hB2 : w.heap.size + 1 < W1.heap.size := blk_lt B1.out.blk
                  have ZX := Lib.hid ((((rx2.low (g := w.heap.size + 1) (o := 0) (u := .slice q2 qm2 qc2) hB2).low (g := w.heap.size + 1) (o := 1) (u := .slice l2 lm2 lc2) hB2).low (g := w.heap.size + 1) (o := 2) (u := .int .i64 lo) hB2).str)
                  have R0 := Lib.hid (B1.out.call (n' := lo) X1.out Y1.out hga b2 rq2 fr2)
                  have S0 := Lib.hid (oldS B1.out b2 (.slice q2 qm2 qc2) (.slice l2 lm2 lc2) (.int .i64 lo))
                  obtain ⟨za0, za1, za2, za3, _, _, _, _⟩ := fourBlk ((b2.block _ (blk_lt X1.out)).trans X1.out)
                  have zab := Nat.lt_of_lt_of_le (blk_lt X1.out) b2.size
                  obtain ⟨zw0, zw1, zw2, _, _, _⟩ := threeBlk ((b2.block _ (blk_lt Y1.out)).trans Y1.out)
                  have zwb := Nat.lt_of_lt_of_le (blk_lt Y1.out) b2.size
                  obtain ⟨zu0, zu1, zu2, zu3, zu4, zu5⟩ := threeBlk (B1.out.next b2).blk
                  have zub := blk_lt (B1.out.next b2).blk
                  obtain ⟨zp0, zp1, zp2, zp3, zp4, zp5⟩ := sixBlk (B1.out.next b2).prt
                  have zpb := blk_lt (B1.out.next b2).prt
                  have hne1 : ¬ (w.heap.size = w.heap.size + 1) := by omega
                  have hne2 : ¬ (wr.heap.size = w.heap.size + 1) := by omega
                  have hne3 : ¬ (wr.heap.size + 1 = w.heap.size + 1) := by omega
                  clear rq2 fr2 b2 B1 X1 Y1 u0 u1 u2 ub p0 p1 p2 p3 p4 p5 pb j0 j1 j2 j3 jb i0 i1 i2 ib rx2
                  go_wp2_with fail
                  go_meet
                  refine ⟨_, _, _, _, _, _, lo, 2, rfl, rfl, (by first | rfl | go_num), rfl, by omega, by omega, _, _, q, l, st, gt, R0.out, HV'.out, HW'.out, HL'.out.1, ?_, HL'.out.2.1, HL'.out.2.2, ?_⟩
                  · exact HST.out
                  · exact .inr ⟨(by first | omega | exact ⟨by decide, by decide⟩), rfl, rfl, rfl, S0.out.1.mono (Nat.zero_le _), S0.out.2.rd⟩
              · as_aux_lemma =>
                  have HE := Lib.hid he
                  have HV' := Lib.hid hv'
                  have HQ' : Hid (t.length ≤ 16) := (vldQ_d hv').1
                  have HW' : Hid (WfW l) := HWL.out
                  have HQC := Lib.hid hq'
                  clear he hv' hq'
                  have HL' : Hid (l.length ≤ k + 1 ∧ st.length ≤ k + 1 ∧ (gt ++ [x]).length ≤ k + 1) := by have := HL.out; exact ⟨by first | omega | (rw [enterW_length]; omega), by first | omega | (simp; omega), by first | omega | (simp; omega)⟩
                  go_wp2_with fail
                  have h1 := recvQ_c nm kk o s d r lo (x1 % 8) x2 _ _ q l _ (B1.out.rq.mono (Nat.zero_le _)) B1.out.fr.rd HWL.out (by omega) (by omega) HM.out
                  rw [HE.out] at h1
                  refine h1.mono ?_
                  clear h1
                  rintro e w2 ⟨vq2, vw2, vx2, rfl, rq2, fr2, rx2, b2⟩
                  obtain ⟨q2, qm2, qc2, rfl, hqm2⟩ := rq2.shape
                  obtain ⟨l2, lm2, lc2, rfl, hlm2⟩ := fr_shape fr2
                  clear hlm2
                  have HQM2 := Lib.hid hqm2
                  clear hqm2
                  obtain ⟨y2, ym2, yc2, rfl, hym2⟩ := rdi_shapeF rx2
                  clear hym2
                  have hB2 : w.heap.size + 1 < W1.heap.size := blk_lt B1.out.blk
                  have ZX := Lib.hid ((((rx2.low (g := w.heap.size + 1) (o := 0) (u := .slice q2 qm2 qc2) hB2).low (g := w.heap.size + 1) (o := 1) (u := .slice l2 lm2 lc2) hB2).low (g := w.heap.size + 1) (o := 2) (u := .int .i64 lo) hB2).str)
                  have R0 := Lib.hid (B1.out.call (n' := lo) X1.out Y1.out hga b2 rq2 fr2)
                  have S0 := Lib.hid (oldS B1.out b2 (.slice q2 qm2 qc2) (.slice l2 lm2 lc2) (.int .i64 lo))
                  obtain ⟨za0, za1, za2, za3, _, _, _, _⟩ := fourBlk ((b2.block _ (blk_lt X1.out)).trans X1.out)
                  have zab := Nat.lt_of_lt_of_le (blk_lt X1.out) b2.size
                  obtain ⟨zw0, zw1, zw2, _, _, _⟩ := threeBlk ((b2.block _ (blk_lt Y1.out)).trans Y1.out)
                  have zwb := Nat.lt_of_lt_of_le (blk_lt Y1.out) b2.size
                  obtain ⟨zu0, zu1, zu2, zu3, zu4, zu5⟩ := threeBlk (B1.out.next b2).blk
                  have zub := blk_lt (B1.out.next b2).blk
                  obtain ⟨zp0, zp1, zp2, zp3, zp4, zp5⟩ := sixBlk (B1.out.next b2).prt
                  have zpb := blk_lt (B1.out.next b2).prt
                  have hne1 : ¬ (w.heap.size = w.heap.size + 1) := by omega
                  have hne2 : ¬ (wr.heap.size = w.heap.size + 1) := by omega
                  have hne3 : ¬ (wr.heap.size + 1 = w.heap.size + 1) := by omega
                  clear rq2 fr2 b2 B1 X1 Y1 u0 u1 u2 ub p0 p1 p2 p3 p4 p5 pb j0 j1 j2 j3 jb i0 i1 i2 ib rx2
                  have zx2 := ZX.out
                  obtain ⟨Gx, Gy, Gw, Gr, Gq⟩ := R0.out.appG (y := x) (by omega) HLO.out.2 64
                  rw [put3_size] at Gr
                  unfold put3 at Gr
                  have GR := Lib.hid Gr
                  have G := Lib.hid Gq
                  clear Gr Gq
                  obtain ⟨Gp0, Gp1, Gp2, Gp3, Gp4, Gp5⟩ := sixBlk G.out.fc.prt
                  have Gpb := blk_lt G.out.fc.prt
                  obtain ⟨Gu0, Gu1, Gu2, Gu3, Gu4, Gu5⟩ := threeBlk G.out.fc.blk
                  have Gub := blk_lt G.out.fc.blk
                  obtain ⟨Ga0, Ga1, Ga2, Ga3, _, _, _, _⟩ := fourBlk G.out.act
                  have Gab := blk_lt G.out.act
                  obtain ⟨Gw0, Gw1, Gw2, _, _, _⟩ := threeBlk G.out.was
                  have Gwb := blk_lt G.out.was
                  go_wp2_with (first | (at_builtin; refine Lib.wpList_append_run (o := ⟨some 117, _, _, _, _, _⟩) _ rfl _ _ _ _ rfl _ _ rfl rfl _ _ GR.out ?_))
                  go_meet
                  refine ⟨_, _, _, _, _, _, lo, 0, rfl, rfl, (by first | rfl | go_num), rfl, by omega, by omega, _, _, t, l, st, (gt ++ [x]), G.out, HV'.out, HW'.out, HL'.out.1, ?_, HL'.out.2.1, HL'.out.2.2, ?_⟩
                  · rw [HST.out, HQC.out]; simp
                  · exact .inl (by first | exact .inl rfl | exact .inr rfl)
              · as_aux_lemma =>
                  have HE := Lib.hid he
                  have HV' := Lib.hid hv'
                  have HQ' : Hid (q.length ≤ 16) := (vldQ_d hv').1
                  have HW' : Hid (WfW (enterW l ⟨(x1 % 8), x2, 0⟩)) := HWL.out.enter (wfm8 x1)
                  clear he hv' hq'
                  have HL' : Hid ((enterW l ⟨(x1 % 8), x2, 0⟩).length ≤ k + 1 ∧ st.length ≤ k + 1 ∧ gt.length ≤ k + 1) := by have := HL.out; exact ⟨by first | omega | (rw [enterW_length]; omega), by first | omega | (simp; omega), by first | omega | (simp; omega)⟩
                  go_wp2_with fail
                  have h1 := recvQ_c nm kk o s d r lo (x1 % 8) x2 _ _ q l _ (B1.out.rq.mono (Nat.zero_le _)) B1.out.fr.rd HWL.out (by omega) (by omega) HM.out
                  rw [HE.out] at h1
                  refine h1.mono ?_
                  clear h1
                  rintro e w2 ⟨vq2, vw2, vx2, rfl, rq2, fr2, rx2, b2⟩
                  obtain ⟨q2, qm2, qc2, rfl, hqm2⟩ := rq2.shape
                  obtain ⟨l2, lm2, lc2, rfl, hlm2⟩ := fr_shape fr2
                  clear hlm2
                  have HQM2 := Lib.hid hqm2
                  clear hqm2
                  obtain ⟨y2, ym2, yc2, rfl, hym2⟩ := rdi_shapeF rx2
                  clear hym2
                  have hB2 : w.heap.size + 1 < W1.heap.size := blk_lt B1.out.blk
                  have ZX := Lib.hid ((((rx2.low (g := w.heap.size + 1) (o := 0) (u := .slice q2 qm2 qc2) hB2).low (g := w.heap.size + 1) (o := 1) (u := .slice l2 lm2 lc2) hB2).low (g := w.heap.size + 1) (o := 2) (u := .int .i64 lo) hB2).str)
                  have R0 := Lib.hid (B1.out.call (n' := lo) X1.out Y1.out hga b2 rq2 fr2)
                  have S0 := Lib.hid (oldS B1.out b2 (.slice q2 qm2 qc2) (.slice l2 lm2 lc2) (.int .i64 lo))
                  obtain ⟨za0, za1, za2, za3, _, _, _, _⟩ := fourBlk ((b2.block _ (blk_lt X1.out)).trans X1.out)
                  have zab := Nat.lt_of_lt_of_le (blk_lt X1.out) b2.size
                  obtain ⟨zw0, zw1, zw2, _, _, _⟩ := threeBlk ((b2.block _ (blk_lt Y1.out)).trans Y1.out)
                  have zwb := Nat.lt_of_lt_of_le (blk_lt Y1.out) b2.size
                  obtain ⟨zu0, zu1, zu2, zu3, zu4, zu5⟩ := threeBlk (B1.out.next b2).blk
                  have zub := blk_lt (B1.out.next b2).blk
                  obtain ⟨zp0, zp1, zp2, zp3, zp4, zp5⟩ := sixBlk (B1.out.next b2).prt
                  have zpb := blk_lt (B1.out.next b2).prt
                  have hne1 : ¬ (w.heap.size = w.heap.size + 1) := by omega
                  have hne2 : ¬ (wr.heap.size = w.heap.size + 1) := by omega
                  have hne3 : ¬ (wr.heap.size + 1 = w.heap.size + 1) := by omega
                  clear rq2 fr2 b2 B1 X1 Y1 u0 u1 u2 ub p0 p1 p2 p3 p4 p5 pb j0 j1 j2 j3 jb i0 i1 i2 ib rx2
                  go_wp2_with fail
                  go_meet
                  refine ⟨_, _, _, _, _, _, lo, 0, rfl, rfl, (by first | rfl | go_num), rfl, by omega, by omega, _, _, q, (enterW l ⟨(x1 % 8), x2, 0⟩), st, gt, R0.out, HV'.out, HW'.out, HL'.out.1, ?_, HL'.out.2.1, HL'.out.2.2, ?_⟩
                  · exact HST.out
                  · exact .inl (by first | exact .inl rfl | exact .inr rfl)
            · have hx4 : (x0 % 4 == 0) = false := by rw [beq_eq_false_iff_ne]; omega
              have hx5 : (x0 % 4 == 1) = false := by rw [beq_eq_false_iff_ne]; omega
              have hx6 : (x0 % 4 == 2) = true := by simpa using hK
              clear hK
              rcases take_ways HV.out with ⟨x, t, hq', he, hv'⟩ | ⟨hq', he⟩
              · as_aux_lemma =>
                  have HE := Lib.hid he
                  have HV' := Lib.hid hv'
                  have HQ' : Hid (t.length ≤ 16) := (vldQ_d hv').1
                  have HW' : Hid (WfW l) := HWL.out
                  have HQC := Lib.hid hq'
                  clear he hv' hq'
                  have HL' : Hid (l.length ≤ k + 1 ∧ st.length ≤ k + 1 ∧ (gt ++ [x]).length ≤ k + 1) := by have := HL.out; exact ⟨by first | omega | (rw [enterW_length]; omega), by first | omega | (simp; omega), by first | omega | (simp; omega)⟩
                  go_wp2_with fail
                  have h1 := takeQ_c nm kk o s d r lo _ _ q l _ (B1.out.rq.mono (Nat.zero_le _)) B1.out.fr.rd HWL.out (by omega) (by omega) HM.out
                  rw [HE.out] at h1
                  refine h1.mono ?_
                  clear h1
                  rintro e w2 ⟨vq2, vw2, vx2, rfl, rq2, fr2, rx2, b2⟩
                  obtain ⟨q2, qm2, qc2, rfl, hqm2⟩ := rq2.shape
                  obtain ⟨l2, lm2, lc2, rfl, hlm2⟩ := fr_shape fr2
                  clear hlm2
                  have HQM2 := Lib.hid hqm2
                  clear hqm2
                  obtain ⟨y2, ym2, yc2, rfl, hym2⟩ := rdi_shapeF rx2
                  clear hym2
                  have hB2 : w.heap.size + 1 < W1.heap.size := blk_lt B1.out.blk
                  have ZX := Lib.hid ((((rx2.low (g := w.heap.size + 1) (o := 0) (u := .slice q2 qm2 qc2) hB2).low (g := w.heap.size + 1) (o := 1) (u := .slice l2 lm2 lc2) hB2).low (g := w.heap.size + 1) (o := 2) (u := .int .i64 lo) hB2).str)
                  have R0 := Lib.hid (B1.out.call (n' := lo) X1.out Y1.out hga b2 rq2 fr2)
                  have S0 := Lib.hid (oldS B1.out b2 (.slice q2 qm2 qc2) (.slice l2 lm2 lc2) (.int .i64 lo))
                  obtain ⟨za0, za1, za2, za3, _, _, _, _⟩ := fourBlk ((b2.block _ (blk_lt X1.out)).trans X1.out)
                  have zab := Nat.lt_of_lt_of_le (blk_lt X1.out) b2.size
                  obtain ⟨zw0, zw1, zw2, _, _, _⟩ := threeBlk ((b2.block _ (blk_lt Y1.out)).trans Y1.out)
                  have zwb := Nat.lt_of_lt_of_le (blk_lt Y1.out) b2.size
                  obtain ⟨zu0, zu1, zu2, zu3, zu4, zu5⟩ := threeBlk (B1.out.next b2).blk
                  have zub := blk_lt (B1.out.next b2).blk
                  obtain ⟨zp0, zp1, zp2, zp3, zp4, zp5⟩ := sixBlk (B1.out.next b2).prt
                  have zpb := blk_lt (B1.out.next b2).prt
                  have hne1 : ¬ (w.heap.size = w.heap.size + 1) := by omega
                  have hne2 : ¬ (wr.heap.size = w.heap.size + 1) := by omega
                  have hne3 : ¬ (wr.heap.size + 1 = w.heap.size + 1) := by omega
                  clear rq2 fr2 b2 B1 X1 Y1 u0 u1 u2 ub p0 p1 p2 p3 p4 p5 pb j0 j1 j2 j3 jb i0 i1 i2 ib rx2
                  have zx2 := ZX.out
                  obtain ⟨Gx, Gy, Gw, Gr, Gq⟩ := R0.out.appG (y := x) (by omega) HLO.out.2 64
                  rw [put3_size] at Gr
                  unfold put3 at Gr
                  have GR := Lib.hid Gr
                  have G := Lib.hid Gq
                  clear Gr Gq
                  obtain ⟨Gp0, Gp1, Gp2, Gp3, Gp4, Gp5⟩ := sixBlk G.out.fc.prt
                  have Gpb := blk_lt G.out.fc.prt
                  obtain ⟨Gu0, Gu1, Gu2, Gu3, Gu4, Gu5⟩ := threeBlk G.out.fc.blk
                  have Gub := blk_lt G.out.fc.blk
                  obtain ⟨Ga0, Ga1, Ga2, Ga3, _, _, _, _⟩ := fourBlk G.out.act
                  have Gab := blk_lt G.out.act
                  obtain ⟨Gw0, Gw1, Gw2, _, _, _⟩ := threeBlk G.out.was
                  have Gwb := blk_lt G.out.was
                  go_wp2_with (first | (at_builtin; refine Lib.wpList_append_run (o := ⟨some 133, _, _, _, _, _⟩) _ rfl _ _ _ _ rfl _ _ rfl rfl _ _ GR.out ?_))
                  go_meet
                  refine ⟨_, _, _, _, _, _, lo, 0, rfl, rfl, (by first | rfl | go_num), rfl, by omega, by omega, _, _, t, l, st, (gt ++ [x]), G.out, HV'.out, HW'.out, HL'.out.1, ?_, HL'.out.2.1, HL'.out.2.2, ?_⟩
                  · rw [HST.out, HQC.out]; simp
                  · exact .inl (by first | exact .inl rfl | exact .inr rfl)
              · as_aux_lemma =>
                  clear hq'
                  have HE := Lib.hid he
                  have HV' := Lib.hid HV.out
                  have HW' := Lib.hid HWL.out
                  have HQ' : Hid (q.length ≤ 16) := hq16
                  clear he
                  have HL' : Hid (l.length ≤ k + 1 ∧ st.length ≤ k + 1 ∧ gt.length ≤ k + 1) := by have := HL.out; exact ⟨by first | omega | (rw [enterW_length]; omega), by first | omega | (simp; omega), by first | omega | (simp; omega)⟩
                  go_wp2_with fail
                  have h1 := takeQ_c nm kk o s d r lo _ _ q l _ (B1.out.rq.mono (Nat.zero_le _)) B1.out.fr.rd HWL.out (by omega) (by omega) HM.out
                  rw [HE.out] at h1
                  refine h1.mono ?_
                  clear h1
                  rintro e w2 ⟨vq2, vw2, vx2, rfl, rq2, fr2, rx2, b2⟩
                  obtain ⟨q2, qm2, qc2, rfl, hqm2⟩ := rq2.shape
                  obtain ⟨l2, lm2, lc2, rfl, hlm2⟩ := fr_shape fr2
                  clear hlm2
                  have HQM2 := Lib.hid hqm2
                  clear hqm2
                  obtain ⟨y2, ym2, yc2, rfl, hym2⟩ := rdi_shapeF rx2
                  clear hym2
                  have hB2 : w.heap.size + 1 < W1.heap.size := blk_lt B1.out.blk
                  have ZX := Lib.hid ((((rx2.low (g := w.heap.size + 1) (o := 0) (u := .slice q2 qm2 qc2) hB2).low (g := w.heap.size + 1) (o := 1) (u := .slice l2 lm2 lc2) hB2).low (g := w.heap.size + 1) (o := 2) (u := .int .i64 lo) hB2).str)
                  have R0 := Lib.hid (B1.out.call (n' := lo) X1.out Y1.out hga b2 rq2 fr2)
                  have S0 := Lib.hid (oldS B1.out b2 (.slice q2 qm2 qc2) (.slice l2 lm2 lc2) (.int .i64 lo))
                  obtain ⟨za0, za1, za2, za3, _, _, _, _⟩ := fourBlk ((b2.block _ (blk_lt X1.out)).trans X1.out)
                  have zab := Nat.lt_of_lt_of_le (blk_lt X1.out) b2.size
                  obtain ⟨zw0, zw1, zw2, _, _, _⟩ := threeBlk ((b2.block _ (blk_lt Y1.out)).trans Y1.out)
                  have zwb := Nat.lt_of_lt_of_le (blk_lt Y1.out) b2.size
                  obtain ⟨zu0, zu1, zu2, zu3, zu4, zu5⟩ := threeBlk (B1.out.next b2).blk
                  have zub := blk_lt (B1.out.next b2).blk
                  obtain ⟨zp0, zp1, zp2, zp3, zp4, zp5⟩ := sixBlk (B1.out.next b2).prt
                  have zpb := blk_lt (B1.out.next b2).prt
                  have hne1 : ¬ (w.heap.size = w.heap.size + 1) := by omega
                  have hne2 : ¬ (wr.heap.size = w.heap.size + 1) := by omega
                  have hne3 : ¬ (wr.heap.size + 1 = w.heap.size + 1) := by omega
                  clear rq2 fr2 b2 B1 X1 Y1 u0 u1 u2 ub p0 p1 p2 p3 p4 p5 pb j0 j1 j2 j3 jb i0 i1 i2 ib rx2
                  go_wp2_with fail
                  go_meet
                  refine ⟨_, _, _, _, _, _, lo, 6, rfl, rfl, (by first | rfl | go_num), rfl, by omega, by omega, _, _, q, l, st, gt, R0.out, HV'.out, HW'.out, HL'.out.1, ?_, HL'.out.2.1, HL'.out.2.2, ?_⟩
                  · exact HST.out
                  · exact .inr ⟨(by first | omega | exact ⟨by decide, by decide⟩), rfl, rfl, rfl, S0.out.1.mono (Nat.zero_le _), S0.out.2.rd⟩
            · as_aux_lemma =>
                have hx4 : (x0 % 4 == 0) = false := by simp; omega
                have hx5 : (x0 % 4 == 1) = false := by simp; omega
                have hx6 : (x0 % 4 == 2) = false := by simp; omega
                clear hK
                obtain ⟨he, hv'⟩ := cancQ_ways HV.out (x1 % 8)
                have hll2 := leave_length l (x1 % 8)
                have HE := Lib.hid he
                have HV' := Lib.hid hv'
                have HQ' : Hid (q.length ≤ 16) := (vldQ_d hv').1
                have HW' : Hid (WfW (leaveW l (x1 % 8))) := HWL.out.leave _
                clear he hv'
                have HL' : Hid ((leaveW l (x1 % 8)).length ≤ k + 1 ∧ st.length ≤ k + 1 ∧ gt.length ≤ k + 1) := by have := HL.out; exact ⟨by first | omega | (rw [enterW_length]; omega), by first | omega | (simp; omega), by first | omega | (simp; omega)⟩
                go_wp2_with fail
                have h1 := cancQ_c nm kk o s d r lo (x1 % 8) _ _ q l _ (B1.out.rq.mono (Nat.zero_le _)) B1.out.fr.rd HWL.out (by omega) (by omega) HM.out
                rw [HE.out] at h1
                refine h1.mono ?_
                clear h1
                rintro e w2 ⟨vq2, vw2, rfl, rq2, fr2, b2⟩
                obtain ⟨q2, qm2, qc2, rfl, hqm2⟩ := rq2.shape
                obtain ⟨l2, lm2, lc2, rfl, hlm2⟩ := fr_shape fr2
                clear hlm2
                have HQM2 := Lib.hid hqm2
                clear hqm2
                have R0 := Lib.hid (B1.out.call (n' := lo) X1.out Y1.out hga b2 rq2 fr2)
                have S0 := Lib.hid (oldS B1.out b2 (.slice q2 qm2 qc2) (.slice l2 lm2 lc2) (.int .i64 lo))
                obtain ⟨za0, za1, za2, za3, _, _, _, _⟩ := fourBlk ((b2.block _ (blk_lt X1.out)).trans X1.out)
                have zab := Nat.lt_of_lt_of_le (blk_lt X1.out) b2.size
                obtain ⟨zw0, zw1, zw2, _, _, _⟩ := threeBlk ((b2.block _ (blk_lt Y1.out)).trans Y1.out)
                have zwb := Nat.lt_of_lt_of_le (blk_lt Y1.out) b2.size
                obtain ⟨zu0, zu1, zu2, zu3, zu4, zu5⟩ := threeBlk (B1.out.next b2).blk
                have zub := blk_lt (B1.out.next b2).blk
                obtain ⟨zp0, zp1, zp2, zp3, zp4, zp5⟩ := sixBlk (B1.out.next b2).prt
                have zpb := blk_lt (B1.out.next b2).prt
                have hne1 : ¬ (w.heap.size = w.heap.size + 1) := by omega
                have hne2 : ¬ (wr.heap.size = w.heap.size + 1) := by omega
                have hne3 : ¬ (wr.heap.size + 1 = w.heap.size + 1) := by omega
                clear rq2 fr2 b2 B1 X1 Y1 u0 u1 u2 ub p0 p1 p2 p3 p4 p5 pb j0 j1 j2 j3 jb i0 i1 i2 ib
                go_wp2_with fail
                go_meet
                refine ⟨_, _, _, _, _, _, lo, 0, rfl, rfl, (by first | rfl | go_num), rfl, by omega, by omega, _, _, q, (leaveW l (x1 % 8)), st, gt, R0.out, HV'.out, HW'.out, HL'.out.1, ?_, HL'.out.2.1, HL'.out.2.2, ?_⟩
                · exact HST.out
                · exact .inl (by first | exact .inl rfl | exact .inr rfl)
          case rest =>
            as_aux_lemma =>
              obtain ⟨sa', sm', sc', ga', gm', gc', lo', ev, rfl, rfl, rfl, rfl, hlo0', hlo1', A⟩ := hcut
              obtain ⟨vq', vw', q', l', st', gt', F0, hv', hw', hl', hst', hstl', hgtl', hev⟩ := A.out
              clear A B1 X1 Y1 HV HWL HST HL HLO HM
              obtain ⟨aq', cq', rfl⟩ := F0.rq.shape'
              obtain ⟨aw', cw', rfl⟩ := fr_slice F0.fr
              have T := Lib.hid F0
              have HV' := Lib.hid hv'
              have HW' := Lib.hid hw'
              have HST' := Lib.hid hst'
              have HL' : Hid (l'.length ≤ k + 1 ∧ st'.length ≤ k + 1 ∧ gt'.length ≤ k + 1) := ⟨hl', hstl', hgtl'⟩
              have hq16' := (vldQ_d hv').1
              have HEV := Lib.hid hev
              clear F0 hv' hw' hst' hstl' hgtl' hev
              obtain ⟨tp0, tp1, tp2, tp3, tp4, tp5⟩ := sixBlk T.out.fc.prt
              have tpb := blk_lt T.out.fc.prt
              obtain ⟨tu0, tu1, tu2, tu3, tu4, tu5⟩ := threeBlk T.out.fc.blk
              have tub := blk_lt T.out.fc.blk
              obtain ⟨ta0, ta1, ta2, ta3, _, _, _, _⟩ := fourBlk T.out.act
              have tab := blk_lt T.out.act
              obtain ⟨tw0, tw1, tw2, _, _, _⟩ := threeBlk T.out.was
              have twb := blk_lt T.out.was
              go_wp2_with fail
              refine (validQ_c nm kk o s d r lo' _ _ q' l' _ (T.out.rq.mono (Nat.zero_le _)) T.out.fr.rd HW'.out (by omega) (by omega)).mono ?_
              rintro e wT ⟨rfl, bT⟩
              rw [HV'.out]
              have T0 := Lib.hid (T.out.next bT)
              obtain ⟨zp0, zp1, zp2, zp3, zp4, zp5⟩ := sixBlk T0.out.fc.prt
              have zpb := blk_lt T0.out.fc.prt
              obtain ⟨zu0, zu1, zu2, zu3, zu4, zu5⟩ := threeBlk T0.out.fc.blk
              have zub := blk_lt T0.out.fc.blk
              obtain ⟨za0, za1, za2, za3, _, _, _, _⟩ := fourBlk T0.out.act
              have zab := blk_lt T0.out.act
              obtain ⟨zw0, zw1, zw2, _, _, _⟩ := threeBlk T0.out.was
              have zwb := blk_lt T0.out.was
              have hloq : (lo' != lo') = false := by simp
              rcases HEV.out with hev | ⟨hev, rfl, rfl, rfl, so, sw⟩
              · clear bT
                rcases hev with rfl | rfl
                · go_wp2_with fail
                  go_roundg (n - (k + 1))
                  case measure => omega
                  case rel => exact ⟨k + 1, by omega, by omega, by go_num, _, _, _, _, _, _, rfl, rfl, lo', rfl, by omega, by omega, _, _, q', l', st', gt', T0.out.fc, HV'.out, HW'.out, HL'.out.1, HST'.out, HL'.out.2.1, HL'.out.2.2⟩
                · go_wp2_with fail
                  go_roundg (n - (k + 1))
                  case measure => omega
                  case rel => exact ⟨k + 1, by omega, by omega, by go_num, _, _, _, _, _, _, rfl, rfl, lo', rfl, by omega, by omega, _, _, q', l', st', gt', T0.out.fc, HV'.out, HW'.out, HL'.out.1, HST'.out, HL'.out.2.1, HL'.out.2.2⟩
              · have ev2 : (ev != 0) = true := by rw [bne_iff_ne]; exact hev.1
                have ev4 : (ev != 4) = true := by rw [bne_iff_ne]; exact hev.2
                have SO := Lib.hid (And.intro (so.below bT) (sw.below bT))
                clear hev so sw bT
                go_wp2_with fail
                refine (sameT_c _ _ _ _ q' l' lo' _ (T0.out.rq.mono (Nat.zero_le _)) SO.out.1 T0.out.fr.rd SO.out.2 (by omega) (by omega)).mono ?_
                rintro e wU ⟨rfl, bU⟩
                have T1 := Lib.hid (T0.out.next bU)
                obtain ⟨sp0, sp1, sp2, sp3, sp4, sp5⟩ := sixBlk T1.out.fc.prt
                have spb := blk_lt T1.out.fc.prt
                obtain ⟨su0, su1, su2, su3, su4, su5⟩ := threeBlk T1.out.fc.blk
                have sub := blk_lt T1.out.fc.blk
                obtain ⟨sa0, sa1, sa2, sa3, _, _, _, _⟩ := fourBlk T1.out.act
                have sab := blk_lt T1.out.act
                obtain ⟨sw0, sw1, sw2, _, _, _⟩ := threeBlk T1.out.was
                have swb := blk_lt T1.out.was
                clear bU
                go_wp2_with fail
                go_roundg (n - (k + 1))
                case measure => omega
                case rel => exact ⟨k + 1, by omega, by omega, by go_num, _, _, _, _, _, _, rfl, rfl, lo', rfl, by omega, by omega, _, _, q', l', st', gt', T1.out.fc, HV'.out, HW'.out, HL'.out.1, HST'.out, HL'.out.2.1, HL'.out.2.2⟩
        · as_aux_lemma =>
            have hltz : ¬ (k : Int) < (n : Int) := by omega
            obtain ⟨vq, vw, q, l, st, gt, B0, hvl, hwl, hll, hst, hstl, hgtl⟩ := A.out
            clear A
            obtain ⟨qa, qc, rfl⟩ := B0.rq.shape'
            obtain ⟨u0, u1, u2, _, _, _⟩ := threeBlk B0.blk
            have ub := blk_lt B0.blk
            have hsm : sm = gm + q.length := by rw [B0.op.len, B0.og.len, hst]; simp
            have hq16 := (vldQ_d hvl).1
            have hgm : gm ≤ 40 := by rw [B0.og.len]; omega
            have hsm40 : sm ≤ 60 := by omega
            have hz : ((gm : Int) + (q.length : Int) != (sm : Int)) = false := by rw [hsm]; simp
            have HSM := Lib.hid hsm
            have HB := Lib.hid B0
            have HST := Lib.hid hst
            clear B0 hvl hwl hll hst hstl hgtl hsm
            go_wp2_with fail
            go_loopg [18, 19, 170] sm (fun gg _ _ s170 wi => ∃ j : Nat, j ≤ sm ∧ sm - j ≤ gg ∧ s170 = .int .i64 j ∧ wr = wi)
            case atStart => exact ⟨0, Nat.zero_le _, by omega, rfl, rfl⟩
            case round =>
              obtain ⟨j, hj, hgj, rfl, rfl⟩ := hrel
              by_cases hjt : j < sm
              · have hjz : (j : Int) < (sm : Int) := by omega
                obtain ⟨gs, rfl, hz1, hsc, hgs, cs⟩ := HB.out.op.cell j (by rw [← HB.out.op.len]; exact hjt)
                clear hz1
                by_cases hjg : j < gm
                · have hjgz : (j : Int) < (gm : Int) := by omega
                  obtain ⟨gg', rfl, hz2, hgc, hgg, cg⟩ := HB.out.og.cell j (by rw [← HB.out.og.len]; exact hjg)
                  clear hz2
                  have he : st[j]'(by rw [← HB.out.op.len]; exact hjt) = gt[j]'(by rw [← HB.out.og.len]; exact hjg) := by
                    have h2 := HST.out
                    subst h2
                    rw [List.getElem_append_left]
                  rw [he] at cs
                  generalize strOfNums (gt[j]'(by rw [← HB.out.og.len]; exact hjg)) = sj at cs cg
                  clear he
                  go_wp2_with fail
                  go_roundg (sm - (j + 1))
                  case measure => omega
                  case rel => exact ⟨j + 1, by omega, by omega, by go_num, rfl⟩
                · have hjgz : ¬ (j : Int) < (gm : Int) := by omega
                  have hjq : j - gm < q.length := by have := HSM.out; omega
                  obtain ⟨bq, oq, a', m', c', rfl, hz3, hqc, hbq, cq, rq'⟩ := HB.out.rq.cell (j - gm) hjq
                  clear hz3
                  have he : st[j]'(by rw [← HB.out.op.len]; exact hjt) = q[j - gm] := by
                    have h2 := HST.out
                    subst h2
                    rw [List.getElem_append_right (by have := HB.out.og.len; omega)]
                    congr 1
                    rw [HB.out.og.len]
                  have zs := rq'.str
                  rw [← he] at zs
                  generalize strOfNums (st[j]'(by rw [← HB.out.op.len]; exact hjt)) = sj at cs zs
                  have hsub : (j : Int) - (gm : Int) = ((j - gm : Nat) : Int) := by omega
                  have hj0 : (0 : Int) ≤ (j : Int) - (gm : Int) := by omega
                  have hj1 : (j : Int) - (gm : Int) < (q.length : Int) := by omega
                  have htn : ((j : Int) - (gm : Int)).toNat = j - gm := by omega
                  clear he rq'
                  go_wp2_with fail
                  go_roundg (sm - (j + 1))
                  case measure => omega
                  case rel => exact ⟨j + 1, by omega, by omega, by go_num, rfl⟩
              · have hjz : ¬ (j : Int) < (sm : Int) := by omega
                go_wp2_with fail
                refine (awake23_c _).mono ?_
                rintro e wf ⟨rfl, bf⟩
                have HBg := Lib.hid (HB.out.bel.trans (bf.mono HB.out.bel.size))
                clear bf
                go_wp2_with fail
                go_ret
                exact ⟨rfl, HBg.out⟩
end Go.Proofs.Ytglbfmcbojjglaa

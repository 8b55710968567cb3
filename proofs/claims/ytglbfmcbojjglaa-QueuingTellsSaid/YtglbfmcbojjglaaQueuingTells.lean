/-
  QueuingTells: for every port, state, message and process the call returns true, and nothing that was there before has turned. No conditions but that the state and the message can be read and hold numbers of their types.
-/
import Derived.Test.YtglbfmcbojjglaaTell23W
namespace Go.Proofs.Ytglbfmcbojjglaa
open Go.RowKit

set_option maxHeartbeats 16000000 in
set_option maxRecDepth 100000 in
theorem queuingTells_c (nm : ByteArray) (k : Int) (o : Bool) (s d r : Int) (vq vw : Value) (n : Int) (vx : Value) (q : List (List Int)) (l : List Wt) (x : List Int) (p u : Int) (w : World) (hq : RdQ w 0 vq q) (hw : RdW w 0 vw l) (hx : RdI .u8 w 0 vx x) (hwf : WfW l) (hql : q.length ≤ 9223372036854775807) (hmq : ∀ x ∈ q, x.length ≤ 9223372036854775807) (hxl : x.length ≤ 9223372036854775807) :
    Calls Try.prog 3 #[.agg #[.string nm, .int .u8 k, .bool o, .int .i64 s, .int .i64 d, .int .i64 r], .agg #[vq, vw, .int .i64 n], vx, .int .i64 p, .int .i64 u] w fun e w' => e = .returned (.bool true) ∧ Below w.heap.size w w' := by
  obtain ⟨aq, cq, rfl⟩ := hq.shape'
  obtain ⟨aw, cw, rfl, _, _, _⟩ := hw.open_
  obtain ⟨ax, cx, rfl, _, _, _⟩ := hx.open_
  obtain ⟨W0, hW0⟩ : ∃ W0, W0 = (w.alloc (.cells #[.string nm, .int .u8 k, .bool o, .int .i64 s, .int .i64 d, .int .i64 r] 23)).alloc (.cells #[.slice aq q.length cq, .slice aw l.length cw, .int .i64 n] 27) := ⟨_, rfl⟩
  have HB0 : Hid (Below w.heap.size w W0) := by subst hW0; exact ((Below.refl _ w).alloc (Nat.le_refl _) _).alloc (by simp) _
  have XP0 : Hid (VP W0 w.heap.size nm k o s d r) := by subst hW0; exact (Below.heap_alloc _ _ _ (by simp)).trans (heap_alloc_new w _)
  have XS0 : Hid (VQ W0 (w.heap.size + 1) 27 (.slice aq q.length cq) (.slice aw l.length cw) n q l) := ⟨by subst hW0; exact alloc2Q w _ _, hq.below HB0.out, hw.below HB0.out⟩
  have RX0 := Lib.hid (hx.below HB0.out)
  have HW0 := Lib.hid hW0
  have WF := Lib.hid hwf
  have HMQ := Lib.hid hmq
  clear hW0 hq hw hx hwf hmq
  have hf := few23_c _ _ n q l W0 XS0.out.rq XS0.out.rw hql HMQ.out
  have HF := Lib.hid hf
  clear hf
  have AW : Hid (∀ W : World, Calls Try.prog 25 #[] W fun e w' => e = .returned (.bool true) ∧ Below W.heap.size W w') := fun W => awake23_c W
  by_cases hfw : fewQ q l = true ∧ x.length ≤ 200
  case neg =>
    by_cases hfq : fewQ q l = true
    · have hx2 : (200 : Int) < (x.length : Int) := by have : ¬ x.length ≤ 200 := fun h => hfw ⟨hfq, h⟩; omega
      have HFW := Lib.hid hfq
      clear hfw hfq
      go_enter Try.func3, Try.ntmps3
      go_wp2_with fail
      rw [← HW0.out]
      have hf := HF.out
      rw [HFW.out] at hf
      refine hf.mono ?_
      clear hf
      rintro e w1 ⟨rfl, b1⟩
      have HB1 := Lib.hid (HB0.out.trans (b1.mono HB0.out.size))
      clear b1
      go_wp2_with fail
      refine (AW.out _).mono ?_
      rintro e w9 ⟨rfl, b9⟩
      have HB9 := Lib.hid (HB1.out.trans (b9.mono HB1.out.size))
      clear b9
      go_wp2_with fail
      go_ret
      exact ⟨rfl, HB9.out⟩
    · have HFW := Lib.hid (show fewQ q l = false by simpa using hfq)
      clear hfw hfq
      go_enter Try.func3, Try.ntmps3
      go_wp2_with fail
      rw [← HW0.out]
      have hf := HF.out
      rw [HFW.out] at hf
      refine hf.mono ?_
      clear hf
      rintro e w1 ⟨rfl, b1⟩
      have HB1 := Lib.hid (HB0.out.trans (b1.mono HB0.out.size))
      clear b1
      go_wp2_with fail
      refine (AW.out _).mono ?_
      rintro e w9 ⟨rfl, b9⟩
      have HB9 := Lib.hid (HB1.out.trans (b9.mono HB1.out.size))
      clear b9
      go_wp2_with fail
      go_ret
      exact ⟨rfl, HB9.out⟩
  case pos =>
    obtain ⟨hfq, hx200⟩ := hfw
    obtain ⟨hq40, hl40, hm200⟩ := fewQ_iff hfq
    have hx2 : ¬ (200 : Int) < (x.length : Int) := by omega
    have HFW := Lib.hid hfq
    have HM := Lib.hid (show ∀ x ∈ q, x.length ≤ 1000000 from fun y hy => by have := hm200 y hy; omega)
    have HM2 := Lib.hid hm200
    clear hfq hm200 HMQ
    go_enter Try.func3, Try.ntmps3
    go_wp2_with fail
    rw [← HW0.out]
    have hf := HF.out
    rw [HFW.out] at hf
    refine hf.mono ?_
    clear hf
    rintro e w1 ⟨rfl, b1⟩
    have HB1 := Lib.hid (HB0.out.trans (b1.mono HB0.out.size))
    have XP1 := Lib.hid (XP0.out.next b1)
    have XS1 := Lib.hid (XS0.out.next b1)
    have RX1 := Lib.hid (RX0.out.below b1)
    clear b1 HB0 XP0 XS0 RX0 HW0 HF HFW
    go_upto_region 3 with (fail)
    go_cut [11, 12] from 56 to 59 (fun s11 s12 wx => ∃ g9, s11 = .pointer (some ⟨g9, 0, none⟩) ∧ s12 = .string (strOfNums x) ∧ ∃ a1 c1 a2 c2, Aside (VQ wx g9 27 (.slice a1 q.length c1) (.slice a2 l.length c2) n q l ∧ Below w1.heap.size w1 wx ∧ TgQ wx (.slice a1 q.length c1)))
    case first =>
      refine wp_region_monoP 7 5 4 1 27 (E23 w1.heap.size (.agg #[.slice aq q.length cq, .slice aw l.length cw, .int .i64 n]) (.slice ax x.length cx) n q l x) [some 56, some 57, some 58, some 59, some 11, none, some 12] 11 57 (by kernel_rfl) (by kernel_rfl) (by kernel_rfl) (by kernel_rfl) (by kernel_rfl) (by kernel_rfl) rfl rfl (by decide) (by decide) (fun i v w' w'' _ h hb => E23.keep i v w' w'' h hb) (fun i v w' k' q0 x0 y0 z0 _ h _ hk ha => E23.put i v w' k' q0 x0 y0 z0 h hk ha) ?hp ?hv ?hstore ?hstep ?hend
      case hp => exact fun v w' h => h
      case hv => exact fun v w' h => by obtain ⟨a, c, a', c', e, _, _, _⟩ := h; exact ⟨_, _, _, e, _, _, _, _, _, _, _, rfl, rfl, rfl⟩
      case hstore =>
        intro o' ho A w' k' v' x' y' z' e1 e2 hvar hag
        obtain rfl := Option.some.inj (show some _ = some o' from ho)
        obtain ⟨b0, b1, b2, b3, b4, b5, b6, hb⟩ := hvar
        obtain ⟨rfl, d0, d1, d2, d3, d4, d5, d6, rfl, rfl, rfl⟩ := hag
        obtain ⟨y0, y1, y2, y3, y4, y5⟩ := threeBlk hb
        have yb := blk_lt hb
        generalize A.eval = ρ at e1 e2 ⊢
        simp [execOp, e1, e2, go_sem, put3, y0, y1, y2, y3, y4, y5]
      case hstep =>
       as_aux_lemma =>
        intro i hi hne
        rcases (show i = 0 ∨ i = 1 ∨ i = 2 ∨ i = 3 ∨ i = 4 ∨ i = 6 by omega) with rfl | rfl | rfl | rfl | rfl | rfl
        all_goals
          clear hne
          intro o' ho vs A w' hb hA1 hA2 hdp
          obtain rfl := Option.some.inj (show some _ = some o' from ho)
          clear ho hi
        · have e4 : A.eval (.tmp 6) = .pointer (some ⟨w.heap.size + 1, 0, none⟩) := (hA2 6 (by kernel_rfl)).trans rfl
          obtain ⟨x0, x1, x2⟩ := (XS1.out.next hb).cells
          exact gives_of (v := .agg #[.slice aq q.length cq, .slice aw l.length cw, .int .i64 n]) (by generalize A.eval = ρ at e4 ⊢; simp [execOp, e4, go_sem, x0, x1, x2]) ⟨Below.refl _ _, rfl⟩
        · have e0 := hA1 0 56 (by kernel_rfl) rfl
          rw [show vs 0 = .agg #[.slice aq q.length cq, .slice aw l.length cw, .int .i64 n] from hdp 0 (by kernel_rfl) (by decide)] at e0
          refine gives_call (f := 26) (args := #[.agg #[.slice aq q.length cq, .slice aw l.length cw, .int .i64 n]]) (w' := w') (by have ef : A.eval (.func 26) = .func (.func 26) #[] #[] := rfl; generalize A.eval = ρ at e0 ef ⊢; simp [execOp, e0, ef, go_sem]) ?_
          refine (copied23_c _ _ n q l w' (XS1.out.next hb).rq (XS1.out.next hb).rw (by omega) (by omega) (fun y hy => by have := HM2.out y hy; omega)).mono ?_
          rintro e w2 ⟨vq2, vw2, rfl, rq2, rw2, b2⟩
          obtain ⟨a1, c1, rfl⟩ := rq2.shape
          obtain ⟨a2, c2, rfl⟩ := rdw_sh' (TyW.rd rw2)
          exact ⟨_, rfl, b2, _, _, _, _, rfl, TyQ.rd rq2, TyW.rd rw2, by obtain ⟨_, ho, _⟩ := rq2; exact TgQ.own ho⟩
        · have e4 : A.eval (.tmp 2) = .slice ax x.length cx := (hA2 2 (by kernel_rfl)).trans rfl
          exact gives_of (v := .slice ax x.length cx) (by generalize A.eval = ρ at e4 ⊢; simp [execOp, e4, go_sem]) ⟨Below.refl _ _, rfl⟩
        · have e0 := hA1 2 58 (by kernel_rfl) rfl
          rw [show vs 2 = .slice ax x.length cx from hdp 2 (by kernel_rfl) (by decide)] at e0
          have hs := RdI.str (RX1.out.below hb)
          exact gives_of (v := .string (strOfNums x)) (w' := w') (by generalize A.eval = ρ at e0 ⊢; simp only [execOp, e0, Sem.run_bind, hs, Result.andThen_ok, Sem.run_pure]) ⟨Below.refl _ _, rfl⟩
        · exact gives_of (v := .pointer (some ⟨w'.heap.size, 0, none⟩)) (w' := w'.alloc (.cells #[.slice none 0 0, .slice none 0 0, .int .i64 0] 27)) (by simp [execOp, go_sem]) ⟨(Below.refl _ _).alloc (Nat.le_refl _) _, ⟨_, rfl, hb.size, ⟨_, _, _, _, _, _, _, heap_alloc_new w' _⟩⟩⟩
        · have e0 := hA1 3 59 (by kernel_rfl) rfl
          rw [show vs 3 = .string (strOfNums x) from hdp 3 (by kernel_rfl) (by decide)] at e0
          exact gives_of (v := .string (strOfNums x)) (w' := w') (by generalize A.eval = ρ at e0 ⊢; simp only [execOp, e0, Sem.run_pure]) ⟨Below.refl _ _, rfl⟩
      case hend =>
        intro vs w2 hb2 hvs hst
        obtain ⟨k4, x', y', z', e4, hk4, hag, hblk⟩ := hst
        obtain ⟨a1, c1, a2, c2, e1, rq1, rw1, tg1⟩ := hvs 1 (by omega) (by decide)
        have e6 : vs 6 = .string (strOfNums x) := hvs 6 (by omega) (by decide)
        rw [e1] at hag
        obtain ⟨hag, _⟩ := hag
        simp only [Value.agg.injEq, Array.mk.injEq, List.cons.injEq, and_true] at hag
        obtain ⟨rfl, rfl, rfl⟩ := hag
        have P1 : Hid (VQ w2 k4 27 (.slice a1 q.length c1) (.slice a2 l.length c2) n q l ∧ Below w1.heap.size w1 w2 ∧ TgQ w2 (.slice a1 q.length c1)) := ⟨⟨hblk, rq1, rw1⟩, hb2, tg1⟩
        clear rq1 rw1 tg1 hblk hvs hb2
        simp only [putDs, putM_some, putM_none, Nat.zero_add, Nat.reduceAdd, e1, e4, e6, List.setIfInBounds_toArray, List.set_cons_succ, List.set_cons_zero]
        clear e1 e4 e6
        go_wp2_with fail
        go_meet
        exact ⟨_, rfl, rfl, _, _, _, _, P1.out⟩
    case rest =>
      obtain ⟨V0, rfl⟩ : ∃ V0 : World, V0 = wc := ⟨_, rfl⟩
      obtain ⟨g9, rfl, rfl, a1, c1, a2, c2, A⟩ := hcut
      have XW0 := Lib.hid A.out.1
      have XS0 := Lib.hid (XS1.out.next A.out.2.1)
      have XP0 := Lib.hid (XP1.out.next A.out.2.1)
      have RX0 := Lib.hid (RX1.out.below A.out.2.1)
      have HB0' := Lib.hid (HB1.out.trans (A.out.2.1.mono HB1.out.size))
      have XT0 := Lib.hid A.out.2.2
      clear A XS1 XP1 RX1 HB1
      obtain ⟨q1, l1, n1, m1, f1, hQ1⟩ : ∃ q1 l1 n1 m1 f1, sendQ k s d r q l n x = (q1, l1, n1, m1, f1) := ⟨_, _, _, _, _, rfl⟩
      obtain ⟨q2, l2, x2, y2, f2, hQ2⟩ : ∃ q2 l2 x2 y2 f2, recvQ k s d r q l n p u = (q2, l2, x2, y2, f2) := ⟨_, _, _, _, _, rfl⟩
      obtain ⟨q3, x3, f3, hQ3⟩ : ∃ q3 x3 f3, takeQ k s d r q l n = (q3, x3, f3) := ⟨_, _, _, rfl⟩
      obtain ⟨l4, f4, hQ4⟩ : ∃ l4 f4, cancQ k s d r q l n p = (l4, f4) := ⟨_, _, rfl⟩
      have L1 : Hid (q1.length ≤ 41 ∧ (∀ y ∈ q1, y.length ≤ 200) ∧ l1.length ≤ 41) := by
        have := sendQ_len k s d r q l n x; rw [hQ1] at this
        exact ⟨by have := this.1; simp only at this; omega, fun y hy => by rcases this.2.1 y hy with h | h; exact HM2.out y h; rw [h]; exact hx200, by have := this.2.2; simp only at this; omega⟩
      have L2 : Hid (q2.length ≤ 41 ∧ (∀ y ∈ q2, y.length ≤ 200) ∧ l2.length ≤ 41 ∧ x2.length ≤ 200) := by
        have := recvQ_len k s d r q l n p u; rw [hQ2] at this
        exact ⟨by have := this.1; simp only at this; omega, fun y hy => HM2.out y (this.2.1 y hy), by have := this.2.2.1; simp only at this; omega, by rcases this.2.2.2 with h | h; (have h' : x2 = [] := h; rw [h']; simp); exact HM2.out _ h⟩
      have L3 : Hid (q3.length ≤ 41 ∧ (∀ y ∈ q3, y.length ≤ 200) ∧ x3.length ≤ 200) := by
        have := takeQ_len k s d r q l n; rw [hQ3] at this
        exact ⟨by have := this.1; simp only at this; omega, fun y hy => HM2.out y (this.2.1 y hy), by rcases this.2.2 with h | h; (have h' : x3 = [] := h; rw [h']; simp); exact HM2.out _ h⟩
      have L4 : Hid (l4.length ≤ 41) := by
        have := cancQ_len k s d r q l n p; rw [hQ4] at this
        show _ ≤ _
        simp only at this; omega
      have Q1 := Lib.hid hQ1
      have Q2 := Lib.hid hQ2
      have Q3 := Lib.hid hQ3
      have Q4 := Lib.hid hQ4
      clear hQ1 hQ2 hQ3 hQ4
      obtain ⟨xW0, xW1, xW2⟩ := XW0.out.cells
      have bW0 := blk_lt XW0.out.blk
      obtain ⟨xS0, xS1, xS2⟩ := XS0.out.cells
      have bS0 := blk_lt XS0.out.blk
      obtain ⟨xP0, xP1, xP2, xP3, xP4, xP5⟩ := sixBlk XP0.out
      have bP0 := blk_lt XP0.out
      have XR1 := Lib.hid (VQ.new (n := n) (t := 32) XW0.out.rq XW0.out.rw)
      have XS1 := Lib.hid (XS0.out.alloc (.cells #[.slice a1 q.length c1, .slice a2 l.length c2, .int .i64 n] 32))
      have XW1 := Lib.hid (XW0.out.alloc (.cells #[.slice a1 q.length c1, .slice a2 l.length c2, .int .i64 n] 32))
      have XP1 := Lib.hid (XP0.out.alloc (.cells #[.slice a1 q.length c1, .slice a2 l.length c2, .int .i64 n] 32))
      have RX1 := Lib.hid (RX0.out.allocX (.cells #[.slice a1 q.length c1, .slice a2 l.length c2, .int .i64 n] 32))
      have XT1 := Lib.hid (XT0.out.alloc (.cells #[.slice a1 q.length c1, .slice a2 l.length c2, .int .i64 n] 32))
      have HB1' := Lib.hid (HB0'.out.alloc HB0'.out.size (.cells #[.slice a1 q.length c1, .slice a2 l.length c2, .int .i64 n] 32))
      have HC1 := Lib.hid (Below.refl (V0.alloc (.cells #[.slice a1 q.length c1, .slice a2 l.length c2, .int .i64 n] 32)).heap.size (V0.alloc (.cells #[.slice a1 q.length c1, .slice a2 l.length c2, .int .i64 n] 32)))
      have BXS := Lib.hid XS1.out
      have BXW := Lib.hid XW1.out
      have BRX := Lib.hid RX1.out
      have BHB := Lib.hid HB1'.out
      clear XS0 XW0 XP0 RX0 HB0' XT0
      go_wp2_with fail
      have h2 := sendQ_z nm k o s d r n _ x _ _ q l _ XS1.out.rq XS1.out.rw WF.out (by omega) (by omega) HM.out RX1.out (by omega)
      rw [Q1.out] at h2
      (try dsimp only at h2)
      refine h2.mono ?_
      clear h2
      rintro e w2 ⟨vq2, vw2, rfl, rq2, rw2, b2⟩
      obtain ⟨qa2, qc2, rfl⟩ := rq2.shape'
      obtain ⟨wa2, wd2, rfl⟩ := fr_slice rw2
      have XA2 := Lib.hid (VQ.new (n := n1) (t := 27) (rq2.rd.mono (Nat.zero_le _)) (rw2.rd))
      have FQXA2 := Lib.hid (FrQ.alloc (FrQ.mono rq2 HC1.out.size) (.cells #[.slice qa2 q1.length qc2, .slice wa2 l1.length wd2, .int .i64 n1] 27))
      have FPXA2 := Lib.hid (FrW.alloc (FrW.mono rw2 HC1.out.size) (.cells #[.slice qa2 q1.length qc2, .slice wa2 l1.length wd2, .int .i64 n1] 27))
      have XS2 := Lib.hid ((XS1.out.next b2).alloc (.cells #[.slice qa2 q1.length qc2, .slice wa2 l1.length wd2, .int .i64 n1] 27))
      have XW2 := Lib.hid ((XW1.out.next b2).alloc (.cells #[.slice qa2 q1.length qc2, .slice wa2 l1.length wd2, .int .i64 n1] 27))
      have XR2 := Lib.hid ((XR1.out.next b2).alloc (.cells #[.slice qa2 q1.length qc2, .slice wa2 l1.length wd2, .int .i64 n1] 27))
      have XP2 := Lib.hid ((XP1.out.next b2).alloc (.cells #[.slice qa2 q1.length qc2, .slice wa2 l1.length wd2, .int .i64 n1] 27))
      have RX2 := Lib.hid (RdI.allocX (RX1.out.below b2) (.cells #[.slice qa2 q1.length qc2, .slice wa2 l1.length wd2, .int .i64 n1] 27))
      have XT2 := Lib.hid ((XT1.out.below b2).alloc (.cells #[.slice qa2 q1.length qc2, .slice wa2 l1.length wd2, .int .i64 n1] 27))
      have hb2 := HB1'.out.trans (b2.mono HB1'.out.size)
      have HB2' := Lib.hid (hb2.alloc hb2.size (.cells #[.slice qa2 q1.length qc2, .slice wa2 l1.length wd2, .int .i64 n1] 27))
      have hc2 := HC1.out.trans (b2.mono HC1.out.size)
      have HC2 := Lib.hid (hc2.alloc hc2.size (.cells #[.slice qa2 q1.length qc2, .slice wa2 l1.length wd2, .int .i64 n1] 27))
      clear rq2 rw2 b2 hb2 hc2 HB1' HC1 XS1 XW1 XR1 XP1 RX1 XT1 xW0 xW1 xW2 bW0 xS0 xS1 xS2 bS0 xP0 xP1 xP2 xP3 xP4 xP5 bP0
      go_upto_region 6 with (fail)
      obtain ⟨W2, hW2⟩ : ∃ W2, W2 = w2.alloc (.cells #[.slice qa2 q1.length qc2, .slice wa2 l1.length wd2, .int .i64 n1] 27) := ⟨_, rfl⟩
      rw [← hW2] at XS2 XW2 XR2 XP2 XA2 RX2 XT2 FQXA2 FPXA2 HB2' HC2 ⊢
      clear hW2
      go_cut [17, 18, 19] from 75 to 84 (fun s17 s18 s19 wx => ∃ g17, s17 = .pointer (some ⟨g17, 0, none⟩) ∧ s18 = .int .i64 m1 ∧ s19 = .int .i64 f1 ∧ ∃ a3 c3 b3 d3, Aside (VQ wx g17 32 (.slice a3 q1.length c3) (.slice b3 l1.length d3) n1 q1 l1 ∧ Below W2.heap.size W2 wx))
      case first =>
        refine wp_region_monoP 14 11 10 7 32 (G23 W2.heap.size (.agg #[.string nm, .int .u8 k, .bool o, .int .i64 s, .int .i64 d, .int .i64 r]) (.agg #[.slice a1 q.length c1, .slice a2 l.length c2, .int .i64 n]) (.slice ax x.length cx) x n1 m1 f1 q1 l1) [some 76, some 77, some 78, some 79, some 80, some 81, some 75, some 82, some 83, some 84, some 17, none, some 18, some 19] 17 82 (by kernel_rfl) (by kernel_rfl) (by kernel_rfl) (by kernel_rfl) (by kernel_rfl) (by kernel_rfl) rfl rfl (by decide) (by decide) (fun i v w' w'' _ h hb => G23.keep i v w' w'' h hb) (fun i v w' k' q0 x0 y0 z0 _ h _ hk ha => G23.put i v w' k' q0 x0 y0 z0 h hk ha) ?hp ?hv ?hstore ?hstep ?hend
        case hp => exact fun v w' h => h
        case hv => exact fun v w' h => by obtain ⟨a, c, a', c', e, _, _, _⟩ := h; exact ⟨_, _, _, e, _, _, _, _, _, _, _, rfl, rfl, rfl⟩
        case hstore =>
          intro o' ho A w' k' v' x' y' z' e1 e2 hvar hag
          obtain rfl := Option.some.inj (show some _ = some o' from ho)
          obtain ⟨b0, b1, b2, b3, b4, b5, b6, hb⟩ := hvar
          obtain ⟨rfl, d0, d1, d2, d3, d4, d5, d6, rfl, rfl, rfl⟩ := hag
          obtain ⟨y0, y1, y2, y3, y4, y5⟩ := threeBlk hb
          have yb := blk_lt hb
          generalize A.eval = ρ at e1 e2 ⊢
          simp [execOp, e1, e2, go_sem, put3, y0, y1, y2, y3, y4, y5]
        case hstep =>
         as_aux_lemma =>
          intro i hi hne
          rcases (show i = 0 ∨ i = 1 ∨ i = 2 ∨ i = 3 ∨ i = 4 ∨ i = 5 ∨ i = 6 ∨ i = 7 ∨ i = 8 ∨ i = 9 ∨ i = 10 ∨ i = 12 ∨ i = 13 by omega) with rfl | rfl | rfl | rfl | rfl | rfl | rfl | rfl | rfl | rfl | rfl | rfl | rfl
          all_goals
            clear hne
            intro o' ho vs A w' hb hA1 hA2 hdp
            obtain rfl := Option.some.inj (show some _ = some o' from ho)
            clear ho hi
          · have e4 : A.eval (.tmp 5) = .pointer (some ⟨w.heap.size, 0, none⟩) := (hA2 5 (by kernel_rfl)).trans rfl
            obtain ⟨x0, x1, x2, x3, x4, x5⟩ := sixBlk (XP2.out.next hb)
            exact gives_of (v := .agg #[.string nm, .int .u8 k, .bool o, .int .i64 s, .int .i64 d, .int .i64 r]) (by generalize A.eval = ρ at e4 ⊢; simp [execOp, e4, go_sem, x0, x1, x2, x3, x4, x5]) ⟨Below.refl _ _, rfl⟩
          · have e4 : A.eval (.tmp 13) = .pointer (some ⟨V0.heap.size, 0, none⟩) := (hA2 13 (by kernel_rfl)).trans rfl
            obtain ⟨x0, x1, x2⟩ := (XR2.out.next hb).cells
            exact gives_of (v := .agg #[.slice a1 q.length c1, .slice a2 l.length c2, .int .i64 n]) (by generalize A.eval = ρ at e4 ⊢; simp [execOp, e4, go_sem, x0, x1, x2]) ⟨Below.refl _ _, rfl⟩
          · exact gives_of (v := .slice (some ⟨w'.heap.size, 0, none⟩) 0 0) (by simp [execOp, go_sem]; rfl) ⟨(Below.refl _ _).alloc (Nat.le_refl _) _, ⟨_, rfl⟩⟩
          · have e4 : A.eval (.tmp 2) = .slice ax x.length cx := (hA2 2 (by kernel_rfl)).trans rfl
            exact gives_of (v := .slice ax x.length cx) (by generalize A.eval = ρ at e4 ⊢; simp [execOp, e4, go_sem]) ⟨Below.refl _ _, rfl⟩
          · obtain ⟨k0, hk0⟩ := hdp 2 (by kernel_rfl) (by decide)
            have e0 := hA1 2 78 (by kernel_rfl) rfl
            have e1 := hA1 3 79 (by kernel_rfl) rfl
            rw [hk0] at e0
            rw [show vs 3 = .slice ax x.length cx from hdp 3 (by kernel_rfl) (by decide)] at e1
            obtain ⟨a, c, w'', hr, ht, hb2⟩ := copyB_bel (W := w') (B := 0) (g := k0) (RX2.out.below hb) (Nat.zero_le _) (by omega)
            exact gives_append (.tmp 78) (.tmp 79) 28 rfl _ _ e0 e1 (hr _) ⟨hb2, ⟨a, c, rfl, TyB.rd ht⟩⟩
          · obtain ⟨a, c, e5, t5⟩ := hdp 4 (by kernel_rfl) (by decide)
            have y0 := hA1 0 76 (by kernel_rfl) rfl
            have y1 := hA1 1 77 (by kernel_rfl) rfl
            have y4 := hA1 4 80 (by kernel_rfl) rfl
            rw [show vs 0 = .agg #[.string nm, .int .u8 k, .bool o, .int .i64 s, .int .i64 d, .int .i64 r] from hdp 0 (by kernel_rfl) (by decide)] at y0
            rw [show vs 1 = .agg #[.slice a1 q.length c1, .slice a2 l.length c2, .int .i64 n] from hdp 1 (by kernel_rfl) (by decide)] at y1
            rw [e5] at y4 t5
            refine gives_call (f := 28) (args := #[.agg #[.string nm, .int .u8 k, .bool o, .int .i64 s, .int .i64 d, .int .i64 r], .agg #[.slice a1 q.length c1, .slice a2 l.length c2, .int .i64 n], .slice a x.length c]) (w' := w') (by have ef : A.eval (.func 28) = .func (.func 28) #[] #[] := rfl; generalize A.eval = ρ at y0 y1 y4 ef ⊢; simp [execOp, y0, y1, y4, ef, go_sem]) ?_
            have h3 := send23_c nm k o s d r n _ x _ _ q l w' (XR2.out.next hb).rq (XT2.out.below hb) (XR2.out.next hb).rw t5 (by omega) (by omega)
            rw [Q1.out] at h3
            refine h3.mono ?_
            rintro e w3 ⟨vq3, vw3, rfl, rq3, rw3, b3, tg3⟩
            obtain ⟨qa, qc, rfl⟩ := rq3.shape'
            obtain ⟨wa, wd, rfl⟩ := rdw_sh' rw3
            exact ⟨_, rfl, b3, _, _, _, _, rfl, rq3, rw3, tg3⟩
          · obtain ⟨a, c, a', c', e5, t5, t6, t7⟩ := hdp 5 (by kernel_rfl) (by decide)
            have y5 := hA1 5 81 (by kernel_rfl) rfl
            rw [e5] at y5
            exact gives_of (w' := w') (by generalize A.eval = ρ at y5 ⊢; simp only [execOp, y5, Sem.run_pure]) ⟨Below.refl _ _, _, _, _, _, rfl, t5, t6, t7⟩
          · obtain ⟨a, c, a', c', e5, t5, t6, t7⟩ := hdp 6 (by kernel_rfl) (by decide)
            have y5 := hA1 6 75 (by kernel_rfl) rfl
            rw [e5] at y5
            exact gives_of (v := .agg #[.slice a q1.length c, .slice a' l1.length c', .int .i64 n1]) (w' := w') (by generalize A.eval = ρ at y5 ⊢; simp [execOp, y5, go_sem]) ⟨Below.refl _ _, _, _, _, _, rfl, t5, t6, t7⟩
          · obtain ⟨a, c, a', c', e5, t5, t6, t7⟩ := hdp 6 (by kernel_rfl) (by decide)
            have y5 := hA1 6 75 (by kernel_rfl) rfl
            rw [e5] at y5
            exact gives_of (v := .int .i64 m1) (w' := w') (by generalize A.eval = ρ at y5 ⊢; simp [execOp, y5, go_sem]) ⟨Below.refl _ _, rfl⟩
          · obtain ⟨a, c, a', c', e5, t5, t6, t7⟩ := hdp 6 (by kernel_rfl) (by decide)
            have y5 := hA1 6 75 (by kernel_rfl) rfl
            rw [e5] at y5
            exact gives_of (v := .int .i64 f1) (w' := w') (by generalize A.eval = ρ at y5 ⊢; simp [execOp, y5, go_sem]) ⟨Below.refl _ _, rfl⟩
          · exact gives_of (v := .pointer (some ⟨w'.heap.size, 0, none⟩)) (w' := w'.alloc (.cells #[.slice none 0 0, .slice none 0 0, .int .i64 0] 32)) (by simp [execOp, go_sem]) ⟨(Below.refl _ _).alloc (Nat.le_refl _) _, ⟨_, rfl, hb.size, ⟨_, _, _, _, _, _, _, heap_alloc_new w' _⟩⟩⟩
          · have e0 := hA1 8 83 (by kernel_rfl) rfl
            rw [show vs 8 = .int .i64 m1 from hdp 8 (by kernel_rfl) (by decide)] at e0
            exact gives_of (v := .int .i64 m1) (w' := w') (by generalize A.eval = ρ at e0 ⊢; simp only [execOp, e0, Sem.run_pure]) ⟨Below.refl _ _, rfl⟩
          · have e0 := hA1 9 84 (by kernel_rfl) rfl
            rw [show vs 9 = .int .i64 f1 from hdp 9 (by kernel_rfl) (by decide)] at e0
            exact gives_of (v := .int .i64 f1) (w' := w') (by generalize A.eval = ρ at e0 ⊢; simp only [execOp, e0, Sem.run_pure]) ⟨Below.refl _ _, rfl⟩
        case hend =>
          intro vs w3 hb3 hvs hst
          obtain ⟨k10, x', y', z', e10, hk10, hag, hblk⟩ := hst
          obtain ⟨a3, c3, b3, d3, e7, rq3, rw3, tg3⟩ := hvs 7 (by omega) (by decide)
          have e12 : vs 12 = .int .i64 m1 := hvs 12 (by omega) (by decide)
          have e13 : vs 13 = .int .i64 f1 := hvs 13 (by omega) (by decide)
          rw [e7] at hag
          obtain ⟨hag, _⟩ := hag
          simp only [Value.agg.injEq, Array.mk.injEq, List.cons.injEq, and_true] at hag
          obtain ⟨rfl, rfl, rfl⟩ := hag
          have P1 : Hid (VQ w3 k10 32 (.slice a3 q1.length c3) (.slice b3 l1.length d3) n1 q1 l1 ∧ Below W2.heap.size W2 w3) := ⟨⟨hblk, rq3, rw3⟩, hb3⟩
          clear rq3 rw3 tg3 hblk hvs hb3
          simp only [putDs, putM_some, putM_none, Nat.zero_add, Nat.reduceAdd, e7, e10, e12, e13, List.setIfInBounds_toArray, List.set_cons_succ, List.set_cons_zero]
          clear e7 e10 e12 e13
          go_wp2_with fail
          go_meet
          exact ⟨_, rfl, rfl, rfl, _, _, _, _, P1.out⟩
      case rest =>
        obtain ⟨V1, rfl⟩ : ∃ V1 : World, V1 = wc := ⟨_, rfl⟩
        obtain ⟨g17, rfl, rfl, rfl, qa3, qc3, wa3, wd3, A⟩ := hcut
        have XB3 := Lib.hid A.out.1
        have XS3 := Lib.hid (XS2.out.next A.out.2)
        have XW3 := Lib.hid (XW2.out.next A.out.2)
        have XR3 := Lib.hid (XR2.out.next A.out.2)
        have XP3 := Lib.hid (XP2.out.next A.out.2)
        have XA3 := Lib.hid (XA2.out.next A.out.2)
        have RX3 := Lib.hid (RX2.out.below A.out.2)
        have FQXA3 := Lib.hid (FQXA2.out.below A.out.2)
        have FPXA3 := Lib.hid (FPXA2.out.below A.out.2)
        have HB3' := Lib.hid (HB2'.out.trans (A.out.2.mono HB2'.out.size))
        have HC3 := Lib.hid (HC2.out.trans (A.out.2.mono HC2.out.size))
        clear A HB2' HC2 XS2 XW2 XR2 XP2 XA2 RX2 FQXA2 FPXA2 XT2
        obtain ⟨xP30, xP31, xP32, xP33, xP34, xP35⟩ := sixBlk XP3.out
        have bsP3 := blk_lt XP3.out
        obtain ⟨xXS30, xXS31, xXS32⟩ := XS3.out.cells
        have bsXS3 := blk_lt XS3.out.blk
        go_wp2_with fail
        have h4 := recvQ_z nm k o s d r n p u _ _ q l _ XS3.out.rq XS3.out.rw WF.out (by omega) (by omega) HM.out
        rw [Q2.out] at h4
        (try dsimp only at h4)
        refine h4.mono ?_
        clear h4
        rintro e w4 ⟨vq4, vw4, vx4, rfl, rq4, rw4, rx4, b4⟩
        obtain ⟨qa4, qc4, rfl⟩ := rq4.shape'
        obtain ⟨wa4, wd4, rfl⟩ := fr_slice rw4
        obtain ⟨xa4, xc4, rfl⟩ := rdi_sh' rx4.rd
        have XC4 := Lib.hid (VQ.new (n := n) (t := 27) (rq4.rd.mono (Nat.zero_le _)) (rw4.rd))
        have FQXC4 := Lib.hid (FrQ.alloc (FrQ.mono rq4 HC3.out.size) (.cells #[.slice qa4 q2.length qc4, .slice wa4 l2.length wd4, .int .i64 n] 27))
        have FPXC4 := Lib.hid (FrW.alloc (FrW.mono rw4 HC3.out.size) (.cells #[.slice qa4 q2.length qc4, .slice wa4 l2.length wd4, .int .i64 n] 27))
        have FMXC4 := Lib.hid (FrI.alloc (FrI.mono rx4 HC3.out.size) (.cells #[.slice qa4 q2.length qc4, .slice wa4 l2.length wd4, .int .i64 n] 27))
        have XS4 := Lib.hid ((XS3.out.next b4).alloc (.cells #[.slice qa4 q2.length qc4, .slice wa4 l2.length wd4, .int .i64 n] 27))
        have XW4 := Lib.hid ((XW3.out.next b4).alloc (.cells #[.slice qa4 q2.length qc4, .slice wa4 l2.length wd4, .int .i64 n] 27))
        have XR4 := Lib.hid ((XR3.out.next b4).alloc (.cells #[.slice qa4 q2.length qc4, .slice wa4 l2.length wd4, .int .i64 n] 27))
        have XP4 := Lib.hid ((XP3.out.next b4).alloc (.cells #[.slice qa4 q2.length qc4, .slice wa4 l2.length wd4, .int .i64 n] 27))
        have XA4 := Lib.hid ((XA3.out.next b4).alloc (.cells #[.slice qa4 q2.length qc4, .slice wa4 l2.length wd4, .int .i64 n] 27))
        have XB4 := Lib.hid ((XB3.out.next b4).alloc (.cells #[.slice qa4 q2.length qc4, .slice wa4 l2.length wd4, .int .i64 n] 27))
        have RX4 := Lib.hid (RdI.allocX (RX3.out.below b4) (.cells #[.slice qa4 q2.length qc4, .slice wa4 l2.length wd4, .int .i64 n] 27))
        have FQXA4 := Lib.hid ((FQXA3.out.below b4).alloc (.cells #[.slice qa4 q2.length qc4, .slice wa4 l2.length wd4, .int .i64 n] 27))
        have FPXA4 := Lib.hid ((FPXA3.out.below b4).alloc (.cells #[.slice qa4 q2.length qc4, .slice wa4 l2.length wd4, .int .i64 n] 27))
        have hb4 := HB3'.out.trans (b4.mono HB3'.out.size)
        have HB4' := Lib.hid (hb4.alloc hb4.size (.cells #[.slice qa4 q2.length qc4, .slice wa4 l2.length wd4, .int .i64 n] 27))
        have hc4 := HC3.out.trans (b4.mono HC3.out.size)
        have HC4 := Lib.hid (hc4.alloc hc4.size (.cells #[.slice qa4 q2.length qc4, .slice wa4 l2.length wd4, .int .i64 n] 27))
        obtain ⟨xP40, xP41, xP42, xP43, xP44, xP45⟩ := sixBlk (XP3.out.next b4)
        have bsP4 := blk_lt (XP3.out.next b4)
        obtain ⟨xXR40, xXR41, xXR42⟩ := (XR3.out.next b4).cells
        have bsXR4 := blk_lt (XR3.out.next b4).blk
        clear rq4 rw4 rx4 b4 hb4 hc4 HB3' HC3 XS3 XW3 XR3 XP3 XA3 XB3 RX3 FQXA3 FPXA3 xP30 xP31 xP32 xP33 xP34 xP35 bsP3 xXS30 xXS31 xXS32 bsXS3
        go_wp2_with fail
        have h5 := recv23_c nm k o s d r n p u _ _ q l _ XR4.out.rq XR4.out.rw (by omega) (by omega)
        rw [Q2.out] at h5
        (try dsimp only at h5)
        refine h5.mono ?_
        clear h5
        rintro e w5 ⟨vq5, vw5, vx5, rfl, rq5, rw5, rx5, b5⟩
        obtain ⟨qa5, qc5, rfl⟩ := rq5.shape'
        obtain ⟨wa5, wd5, rfl⟩ := rdw_sh' rw5
        obtain ⟨xa5, xc5, rfl⟩ := rdi_sh' rx5
        have XD5 := Lib.hid (VQ.new (n := n) (t := 32) rq5 rw5)
        have RMXD5 := Lib.hid (RdI.allocX rx5 (.cells #[.slice qa5 q2.length qc5, .slice wa5 l2.length wd5, .int .i64 n] 32))
        have XS5 := Lib.hid ((XS4.out.next b5).alloc (.cells #[.slice qa5 q2.length qc5, .slice wa5 l2.length wd5, .int .i64 n] 32))
        have XW5 := Lib.hid ((XW4.out.next b5).alloc (.cells #[.slice qa5 q2.length qc5, .slice wa5 l2.length wd5, .int .i64 n] 32))
        have XR5 := Lib.hid ((XR4.out.next b5).alloc (.cells #[.slice qa5 q2.length qc5, .slice wa5 l2.length wd5, .int .i64 n] 32))
        have XP5 := Lib.hid ((XP4.out.next b5).alloc (.cells #[.slice qa5 q2.length qc5, .slice wa5 l2.length wd5, .int .i64 n] 32))
        have XA5 := Lib.hid ((XA4.out.next b5).alloc (.cells #[.slice qa5 q2.length qc5, .slice wa5 l2.length wd5, .int .i64 n] 32))
        have XB5 := Lib.hid ((XB4.out.next b5).alloc (.cells #[.slice qa5 q2.length qc5, .slice wa5 l2.length wd5, .int .i64 n] 32))
        have XC5 := Lib.hid ((XC4.out.next b5).alloc (.cells #[.slice qa5 q2.length qc5, .slice wa5 l2.length wd5, .int .i64 n] 32))
        have RX5 := Lib.hid (RdI.allocX (RX4.out.below b5) (.cells #[.slice qa5 q2.length qc5, .slice wa5 l2.length wd5, .int .i64 n] 32))
        have FQXA5 := Lib.hid ((FQXA4.out.below b5).alloc (.cells #[.slice qa5 q2.length qc5, .slice wa5 l2.length wd5, .int .i64 n] 32))
        have FPXA5 := Lib.hid ((FPXA4.out.below b5).alloc (.cells #[.slice qa5 q2.length qc5, .slice wa5 l2.length wd5, .int .i64 n] 32))
        have FQXC5 := Lib.hid ((FQXC4.out.below b5).alloc (.cells #[.slice qa5 q2.length qc5, .slice wa5 l2.length wd5, .int .i64 n] 32))
        have FPXC5 := Lib.hid ((FPXC4.out.below b5).alloc (.cells #[.slice qa5 q2.length qc5, .slice wa5 l2.length wd5, .int .i64 n] 32))
        have FMXC5 := Lib.hid ((FMXC4.out.below b5).alloc (.cells #[.slice qa5 q2.length qc5, .slice wa5 l2.length wd5, .int .i64 n] 32))
        have hb5 := HB4'.out.trans (b5.mono HB4'.out.size)
        have HB5' := Lib.hid (hb5.alloc hb5.size (.cells #[.slice qa5 q2.length qc5, .slice wa5 l2.length wd5, .int .i64 n] 32))
        have hc5 := HC4.out.trans (b5.mono HC4.out.size)
        have HC5 := Lib.hid (hc5.alloc hc5.size (.cells #[.slice qa5 q2.length qc5, .slice wa5 l2.length wd5, .int .i64 n] 32))
        obtain ⟨xP50, xP51, xP52, xP53, xP54, xP55⟩ := sixBlk (XP4.out.next b5)
        have bsP5 := blk_lt (XP4.out.next b5)
        obtain ⟨xXS50, xXS51, xXS52⟩ := (XS4.out.next b5).cells
        have bsXS5 := blk_lt (XS4.out.next b5).blk
        clear rq5 rw5 rx5 b5 hb5 hc5 HB4' HC4 XS4 XW4 XR4 XP4 XA4 XB4 XC4 RX4 FQXA4 FPXA4 FQXC4 FPXC4 FMXC4 xP40 xP41 xP42 xP43 xP44 xP45 bsP4 xXR40 xXR41 xXR42 bsXR4
        go_wp2_with fail
        have h6 := takeQ_z nm k o s d r n _ _ q l _ XS5.out.rq XS5.out.rw WF.out (by omega) (by omega) HM.out
        rw [Q3.out] at h6
        (try dsimp only at h6)
        refine h6.mono ?_
        clear h6
        rintro e w6 ⟨vq6, vw6, vx6, rfl, rq6, rw6, rx6, b6⟩
        obtain ⟨qa6, qc6, rfl⟩ := rq6.shape'
        obtain ⟨wa6, wd6, rfl⟩ := fr_slice rw6
        obtain ⟨xa6, xc6, rfl⟩ := rdi_sh' rx6.rd
        have XE6 := Lib.hid (VQ.new (n := n) (t := 27) (rq6.rd.mono (Nat.zero_le _)) (rw6.rd))
        have FQXE6 := Lib.hid (FrQ.alloc (FrQ.mono rq6 HC5.out.size) (.cells #[.slice qa6 q3.length qc6, .slice wa6 l.length wd6, .int .i64 n] 27))
        have FPXE6 := Lib.hid (FrW.alloc (FrW.mono rw6 HC5.out.size) (.cells #[.slice qa6 q3.length qc6, .slice wa6 l.length wd6, .int .i64 n] 27))
        have FMXE6 := Lib.hid (FrI.alloc (FrI.mono rx6 HC5.out.size) (.cells #[.slice qa6 q3.length qc6, .slice wa6 l.length wd6, .int .i64 n] 27))
        have XS6 := Lib.hid ((XS5.out.next b6).alloc (.cells #[.slice qa6 q3.length qc6, .slice wa6 l.length wd6, .int .i64 n] 27))
        have XW6 := Lib.hid ((XW5.out.next b6).alloc (.cells #[.slice qa6 q3.length qc6, .slice wa6 l.length wd6, .int .i64 n] 27))
        have XR6 := Lib.hid ((XR5.out.next b6).alloc (.cells #[.slice qa6 q3.length qc6, .slice wa6 l.length wd6, .int .i64 n] 27))
        have XP6 := Lib.hid ((XP5.out.next b6).alloc (.cells #[.slice qa6 q3.length qc6, .slice wa6 l.length wd6, .int .i64 n] 27))
        have XA6 := Lib.hid ((XA5.out.next b6).alloc (.cells #[.slice qa6 q3.length qc6, .slice wa6 l.length wd6, .int .i64 n] 27))
        have XB6 := Lib.hid ((XB5.out.next b6).alloc (.cells #[.slice qa6 q3.length qc6, .slice wa6 l.length wd6, .int .i64 n] 27))
        have XC6 := Lib.hid ((XC5.out.next b6).alloc (.cells #[.slice qa6 q3.length qc6, .slice wa6 l.length wd6, .int .i64 n] 27))
        have XD6 := Lib.hid ((XD5.out.next b6).alloc (.cells #[.slice qa6 q3.length qc6, .slice wa6 l.length wd6, .int .i64 n] 27))
        have RX6 := Lib.hid (RdI.allocX (RX5.out.below b6) (.cells #[.slice qa6 q3.length qc6, .slice wa6 l.length wd6, .int .i64 n] 27))
        have RMXD6 := Lib.hid (RdI.allocX (RMXD5.out.below b6) (.cells #[.slice qa6 q3.length qc6, .slice wa6 l.length wd6, .int .i64 n] 27))
        have FQXA6 := Lib.hid ((FQXA5.out.below b6).alloc (.cells #[.slice qa6 q3.length qc6, .slice wa6 l.length wd6, .int .i64 n] 27))
        have FPXA6 := Lib.hid ((FPXA5.out.below b6).alloc (.cells #[.slice qa6 q3.length qc6, .slice wa6 l.length wd6, .int .i64 n] 27))
        have FQXC6 := Lib.hid ((FQXC5.out.below b6).alloc (.cells #[.slice qa6 q3.length qc6, .slice wa6 l.length wd6, .int .i64 n] 27))
        have FPXC6 := Lib.hid ((FPXC5.out.below b6).alloc (.cells #[.slice qa6 q3.length qc6, .slice wa6 l.length wd6, .int .i64 n] 27))
        have FMXC6 := Lib.hid ((FMXC5.out.below b6).alloc (.cells #[.slice qa6 q3.length qc6, .slice wa6 l.length wd6, .int .i64 n] 27))
        have hb6 := HB5'.out.trans (b6.mono HB5'.out.size)
        have HB6' := Lib.hid (hb6.alloc hb6.size (.cells #[.slice qa6 q3.length qc6, .slice wa6 l.length wd6, .int .i64 n] 27))
        have hc6 := HC5.out.trans (b6.mono HC5.out.size)
        have HC6 := Lib.hid (hc6.alloc hc6.size (.cells #[.slice qa6 q3.length qc6, .slice wa6 l.length wd6, .int .i64 n] 27))
        obtain ⟨xP60, xP61, xP62, xP63, xP64, xP65⟩ := sixBlk (XP5.out.next b6)
        have bsP6 := blk_lt (XP5.out.next b6)
        obtain ⟨xXR60, xXR61, xXR62⟩ := (XR5.out.next b6).cells
        have bsXR6 := blk_lt (XR5.out.next b6).blk
        clear rq6 rw6 rx6 b6 hb6 hc6 HB5' HC5 XS5 XW5 XR5 XP5 XA5 XB5 XC5 XD5 RX5 RMXD5 FQXA5 FPXA5 FQXC5 FPXC5 FMXC5 xP50 xP51 xP52 xP53 xP54 xP55 bsP5 xXS50 xXS51 xXS52 bsXS5
        go_wp2_with fail
        have h7 := take23_c nm k o s d r n _ _ q l _ XR6.out.rq XR6.out.rw (by omega) (by omega)
        rw [Q3.out] at h7
        (try dsimp only at h7)
        refine h7.mono ?_
        clear h7
        rintro e w7 ⟨vq7, vw7, vx7, rfl, rq7, rw7, rx7, b7⟩
        obtain ⟨qa7, qc7, rfl⟩ := rq7.shape'
        obtain ⟨wa7, wd7, rfl⟩ := rdw_sh' rw7
        obtain ⟨xa7, xc7, rfl⟩ := rdi_sh' rx7
        have XF7 := Lib.hid (VQ.new (n := n) (t := 32) rq7 rw7)
        have RMXF7 := Lib.hid (RdI.allocX rx7 (.cells #[.slice qa7 q3.length qc7, .slice wa7 l.length wd7, .int .i64 n] 32))
        have XS7 := Lib.hid ((XS6.out.next b7).alloc (.cells #[.slice qa7 q3.length qc7, .slice wa7 l.length wd7, .int .i64 n] 32))
        have XW7 := Lib.hid ((XW6.out.next b7).alloc (.cells #[.slice qa7 q3.length qc7, .slice wa7 l.length wd7, .int .i64 n] 32))
        have XR7 := Lib.hid ((XR6.out.next b7).alloc (.cells #[.slice qa7 q3.length qc7, .slice wa7 l.length wd7, .int .i64 n] 32))
        have XP7 := Lib.hid ((XP6.out.next b7).alloc (.cells #[.slice qa7 q3.length qc7, .slice wa7 l.length wd7, .int .i64 n] 32))
        have XA7 := Lib.hid ((XA6.out.next b7).alloc (.cells #[.slice qa7 q3.length qc7, .slice wa7 l.length wd7, .int .i64 n] 32))
        have XB7 := Lib.hid ((XB6.out.next b7).alloc (.cells #[.slice qa7 q3.length qc7, .slice wa7 l.length wd7, .int .i64 n] 32))
        have XC7 := Lib.hid ((XC6.out.next b7).alloc (.cells #[.slice qa7 q3.length qc7, .slice wa7 l.length wd7, .int .i64 n] 32))
        have XD7 := Lib.hid ((XD6.out.next b7).alloc (.cells #[.slice qa7 q3.length qc7, .slice wa7 l.length wd7, .int .i64 n] 32))
        have XE7 := Lib.hid ((XE6.out.next b7).alloc (.cells #[.slice qa7 q3.length qc7, .slice wa7 l.length wd7, .int .i64 n] 32))
        have RX7 := Lib.hid (RdI.allocX (RX6.out.below b7) (.cells #[.slice qa7 q3.length qc7, .slice wa7 l.length wd7, .int .i64 n] 32))
        have RMXD7 := Lib.hid (RdI.allocX (RMXD6.out.below b7) (.cells #[.slice qa7 q3.length qc7, .slice wa7 l.length wd7, .int .i64 n] 32))
        have FQXA7 := Lib.hid ((FQXA6.out.below b7).alloc (.cells #[.slice qa7 q3.length qc7, .slice wa7 l.length wd7, .int .i64 n] 32))
        have FPXA7 := Lib.hid ((FPXA6.out.below b7).alloc (.cells #[.slice qa7 q3.length qc7, .slice wa7 l.length wd7, .int .i64 n] 32))
        have FQXC7 := Lib.hid ((FQXC6.out.below b7).alloc (.cells #[.slice qa7 q3.length qc7, .slice wa7 l.length wd7, .int .i64 n] 32))
        have FPXC7 := Lib.hid ((FPXC6.out.below b7).alloc (.cells #[.slice qa7 q3.length qc7, .slice wa7 l.length wd7, .int .i64 n] 32))
        have FMXC7 := Lib.hid ((FMXC6.out.below b7).alloc (.cells #[.slice qa7 q3.length qc7, .slice wa7 l.length wd7, .int .i64 n] 32))
        have FQXE7 := Lib.hid ((FQXE6.out.below b7).alloc (.cells #[.slice qa7 q3.length qc7, .slice wa7 l.length wd7, .int .i64 n] 32))
        have FPXE7 := Lib.hid ((FPXE6.out.below b7).alloc (.cells #[.slice qa7 q3.length qc7, .slice wa7 l.length wd7, .int .i64 n] 32))
        have FMXE7 := Lib.hid ((FMXE6.out.below b7).alloc (.cells #[.slice qa7 q3.length qc7, .slice wa7 l.length wd7, .int .i64 n] 32))
        have hb7 := HB6'.out.trans (b7.mono HB6'.out.size)
        have HB7' := Lib.hid (hb7.alloc hb7.size (.cells #[.slice qa7 q3.length qc7, .slice wa7 l.length wd7, .int .i64 n] 32))
        have hc7 := HC6.out.trans (b7.mono HC6.out.size)
        have HC7 := Lib.hid (hc7.alloc hc7.size (.cells #[.slice qa7 q3.length qc7, .slice wa7 l.length wd7, .int .i64 n] 32))
        obtain ⟨xP70, xP71, xP72, xP73, xP74, xP75⟩ := sixBlk (XP6.out.next b7)
        have bsP7 := blk_lt (XP6.out.next b7)
        obtain ⟨xXS70, xXS71, xXS72⟩ := (XS6.out.next b7).cells
        have bsXS7 := blk_lt (XS6.out.next b7).blk
        clear rq7 rw7 rx7 b7 hb7 hc7 HB6' HC6 XS6 XW6 XR6 XP6 XA6 XB6 XC6 XD6 XE6 RX6 RMXD6 FQXA6 FPXA6 FQXC6 FPXC6 FMXC6 FQXE6 FPXE6 FMXE6 xP60 xP61 xP62 xP63 xP64 xP65 bsP6 xXR60 xXR61 xXR62 bsXR6
        go_wp2_with fail
        have h8 := cancQ_z nm k o s d r n p _ _ q l _ XS7.out.rq XS7.out.rw WF.out (by omega) (by omega) HM.out
        rw [Q4.out] at h8
        (try dsimp only at h8)
        refine h8.mono ?_
        clear h8
        rintro e w8 ⟨vq8, vw8, rfl, rq8, rw8, b8⟩
        obtain ⟨qa8, qc8, rfl⟩ := rq8.shape'
        obtain ⟨wa8, wd8, rfl⟩ := fr_slice rw8
        have XG8 := Lib.hid (VQ.new (n := n) (t := 27) (rq8.rd.mono (Nat.zero_le _)) (rw8.rd))
        have FQXG8 := Lib.hid (FrQ.alloc (FrQ.mono rq8 HC7.out.size) (.cells #[.slice qa8 q.length qc8, .slice wa8 l4.length wd8, .int .i64 n] 27))
        have FPXG8 := Lib.hid (FrW.alloc (FrW.mono rw8 HC7.out.size) (.cells #[.slice qa8 q.length qc8, .slice wa8 l4.length wd8, .int .i64 n] 27))
        have XS8 := Lib.hid ((XS7.out.next b8).alloc (.cells #[.slice qa8 q.length qc8, .slice wa8 l4.length wd8, .int .i64 n] 27))
        have XW8 := Lib.hid ((XW7.out.next b8).alloc (.cells #[.slice qa8 q.length qc8, .slice wa8 l4.length wd8, .int .i64 n] 27))
        have XR8 := Lib.hid ((XR7.out.next b8).alloc (.cells #[.slice qa8 q.length qc8, .slice wa8 l4.length wd8, .int .i64 n] 27))
        have XP8 := Lib.hid ((XP7.out.next b8).alloc (.cells #[.slice qa8 q.length qc8, .slice wa8 l4.length wd8, .int .i64 n] 27))
        have XA8 := Lib.hid ((XA7.out.next b8).alloc (.cells #[.slice qa8 q.length qc8, .slice wa8 l4.length wd8, .int .i64 n] 27))
        have XB8 := Lib.hid ((XB7.out.next b8).alloc (.cells #[.slice qa8 q.length qc8, .slice wa8 l4.length wd8, .int .i64 n] 27))
        have XC8 := Lib.hid ((XC7.out.next b8).alloc (.cells #[.slice qa8 q.length qc8, .slice wa8 l4.length wd8, .int .i64 n] 27))
        have XD8 := Lib.hid ((XD7.out.next b8).alloc (.cells #[.slice qa8 q.length qc8, .slice wa8 l4.length wd8, .int .i64 n] 27))
        have XE8 := Lib.hid ((XE7.out.next b8).alloc (.cells #[.slice qa8 q.length qc8, .slice wa8 l4.length wd8, .int .i64 n] 27))
        have XF8 := Lib.hid ((XF7.out.next b8).alloc (.cells #[.slice qa8 q.length qc8, .slice wa8 l4.length wd8, .int .i64 n] 27))
        have RX8 := Lib.hid (RdI.allocX (RX7.out.below b8) (.cells #[.slice qa8 q.length qc8, .slice wa8 l4.length wd8, .int .i64 n] 27))
        have RMXD8 := Lib.hid (RdI.allocX (RMXD7.out.below b8) (.cells #[.slice qa8 q.length qc8, .slice wa8 l4.length wd8, .int .i64 n] 27))
        have RMXF8 := Lib.hid (RdI.allocX (RMXF7.out.below b8) (.cells #[.slice qa8 q.length qc8, .slice wa8 l4.length wd8, .int .i64 n] 27))
        have FQXA8 := Lib.hid ((FQXA7.out.below b8).alloc (.cells #[.slice qa8 q.length qc8, .slice wa8 l4.length wd8, .int .i64 n] 27))
        have FPXA8 := Lib.hid ((FPXA7.out.below b8).alloc (.cells #[.slice qa8 q.length qc8, .slice wa8 l4.length wd8, .int .i64 n] 27))
        have FQXC8 := Lib.hid ((FQXC7.out.below b8).alloc (.cells #[.slice qa8 q.length qc8, .slice wa8 l4.length wd8, .int .i64 n] 27))
        have FPXC8 := Lib.hid ((FPXC7.out.below b8).alloc (.cells #[.slice qa8 q.length qc8, .slice wa8 l4.length wd8, .int .i64 n] 27))
        have FMXC8 := Lib.hid ((FMXC7.out.below b8).alloc (.cells #[.slice qa8 q.length qc8, .slice wa8 l4.length wd8, .int .i64 n] 27))
        have FQXE8 := Lib.hid ((FQXE7.out.below b8).alloc (.cells #[.slice qa8 q.length qc8, .slice wa8 l4.length wd8, .int .i64 n] 27))
        have FPXE8 := Lib.hid ((FPXE7.out.below b8).alloc (.cells #[.slice qa8 q.length qc8, .slice wa8 l4.length wd8, .int .i64 n] 27))
        have FMXE8 := Lib.hid ((FMXE7.out.below b8).alloc (.cells #[.slice qa8 q.length qc8, .slice wa8 l4.length wd8, .int .i64 n] 27))
        have hb8 := HB7'.out.trans (b8.mono HB7'.out.size)
        have HB8' := Lib.hid (hb8.alloc hb8.size (.cells #[.slice qa8 q.length qc8, .slice wa8 l4.length wd8, .int .i64 n] 27))
        have hc8 := HC7.out.trans (b8.mono HC7.out.size)
        have HC8 := Lib.hid (hc8.alloc hc8.size (.cells #[.slice qa8 q.length qc8, .slice wa8 l4.length wd8, .int .i64 n] 27))
        obtain ⟨xP80, xP81, xP82, xP83, xP84, xP85⟩ := sixBlk (XP7.out.next b8)
        have bsP8 := blk_lt (XP7.out.next b8)
        obtain ⟨xXR80, xXR81, xXR82⟩ := (XR7.out.next b8).cells
        have bsXR8 := blk_lt (XR7.out.next b8).blk
        clear rq8 rw8 b8 hb8 hc8 HB7' HC7 XS7 XW7 XR7 XP7 XA7 XB7 XC7 XD7 XE7 XF7 RX7 RMXD7 RMXF7 FQXA7 FPXA7 FQXC7 FPXC7 FMXC7 FQXE7 FPXE7 FMXE7 xP70 xP71 xP72 xP73 xP74 xP75 bsP7 xXS70 xXS71 xXS72 bsXS7
        go_wp2_with fail
        have h9 := canc23_c nm k o s d r n p _ _ q l _ XR8.out.rq XR8.out.rw (by omega) (by omega)
        rw [Q4.out] at h9
        (try dsimp only at h9)
        refine h9.mono ?_
        clear h9
        rintro e w9 ⟨vq9, vw9, rfl, rq9, rw9, b9⟩
        obtain ⟨qa9, qc9, rfl⟩ := rq9.shape'
        obtain ⟨wa9, wd9, rfl⟩ := rdw_sh' rw9
        have XH9 := Lib.hid (VQ.new (n := n) (t := 32) rq9 rw9)
        have XS9 := Lib.hid ((XS8.out.next b9).alloc (.cells #[.slice qa9 q.length qc9, .slice wa9 l4.length wd9, .int .i64 n] 32))
        have XW9 := Lib.hid ((XW8.out.next b9).alloc (.cells #[.slice qa9 q.length qc9, .slice wa9 l4.length wd9, .int .i64 n] 32))
        have XR9 := Lib.hid ((XR8.out.next b9).alloc (.cells #[.slice qa9 q.length qc9, .slice wa9 l4.length wd9, .int .i64 n] 32))
        have XP9 := Lib.hid ((XP8.out.next b9).alloc (.cells #[.slice qa9 q.length qc9, .slice wa9 l4.length wd9, .int .i64 n] 32))
        have XA9 := Lib.hid ((XA8.out.next b9).alloc (.cells #[.slice qa9 q.length qc9, .slice wa9 l4.length wd9, .int .i64 n] 32))
        have XB9 := Lib.hid ((XB8.out.next b9).alloc (.cells #[.slice qa9 q.length qc9, .slice wa9 l4.length wd9, .int .i64 n] 32))
        have XC9 := Lib.hid ((XC8.out.next b9).alloc (.cells #[.slice qa9 q.length qc9, .slice wa9 l4.length wd9, .int .i64 n] 32))
        have XD9 := Lib.hid ((XD8.out.next b9).alloc (.cells #[.slice qa9 q.length qc9, .slice wa9 l4.length wd9, .int .i64 n] 32))
        have XE9 := Lib.hid ((XE8.out.next b9).alloc (.cells #[.slice qa9 q.length qc9, .slice wa9 l4.length wd9, .int .i64 n] 32))
        have XF9 := Lib.hid ((XF8.out.next b9).alloc (.cells #[.slice qa9 q.length qc9, .slice wa9 l4.length wd9, .int .i64 n] 32))
        have XG9 := Lib.hid ((XG8.out.next b9).alloc (.cells #[.slice qa9 q.length qc9, .slice wa9 l4.length wd9, .int .i64 n] 32))
        have RX9 := Lib.hid (RdI.allocX (RX8.out.below b9) (.cells #[.slice qa9 q.length qc9, .slice wa9 l4.length wd9, .int .i64 n] 32))
        have RMXD9 := Lib.hid (RdI.allocX (RMXD8.out.below b9) (.cells #[.slice qa9 q.length qc9, .slice wa9 l4.length wd9, .int .i64 n] 32))
        have RMXF9 := Lib.hid (RdI.allocX (RMXF8.out.below b9) (.cells #[.slice qa9 q.length qc9, .slice wa9 l4.length wd9, .int .i64 n] 32))
        have FQXA9 := Lib.hid ((FQXA8.out.below b9).alloc (.cells #[.slice qa9 q.length qc9, .slice wa9 l4.length wd9, .int .i64 n] 32))
        have FPXA9 := Lib.hid ((FPXA8.out.below b9).alloc (.cells #[.slice qa9 q.length qc9, .slice wa9 l4.length wd9, .int .i64 n] 32))
        have FQXC9 := Lib.hid ((FQXC8.out.below b9).alloc (.cells #[.slice qa9 q.length qc9, .slice wa9 l4.length wd9, .int .i64 n] 32))
        have FPXC9 := Lib.hid ((FPXC8.out.below b9).alloc (.cells #[.slice qa9 q.length qc9, .slice wa9 l4.length wd9, .int .i64 n] 32))
        have FMXC9 := Lib.hid ((FMXC8.out.below b9).alloc (.cells #[.slice qa9 q.length qc9, .slice wa9 l4.length wd9, .int .i64 n] 32))
        have FQXE9 := Lib.hid ((FQXE8.out.below b9).alloc (.cells #[.slice qa9 q.length qc9, .slice wa9 l4.length wd9, .int .i64 n] 32))
        have FPXE9 := Lib.hid ((FPXE8.out.below b9).alloc (.cells #[.slice qa9 q.length qc9, .slice wa9 l4.length wd9, .int .i64 n] 32))
        have FMXE9 := Lib.hid ((FMXE8.out.below b9).alloc (.cells #[.slice qa9 q.length qc9, .slice wa9 l4.length wd9, .int .i64 n] 32))
        have FQXG9 := Lib.hid ((FQXG8.out.below b9).alloc (.cells #[.slice qa9 q.length qc9, .slice wa9 l4.length wd9, .int .i64 n] 32))
        have FPXG9 := Lib.hid ((FPXG8.out.below b9).alloc (.cells #[.slice qa9 q.length qc9, .slice wa9 l4.length wd9, .int .i64 n] 32))
        have hb9 := HB8'.out.trans (b9.mono HB8'.out.size)
        have HB9' := Lib.hid (hb9.alloc hb9.size (.cells #[.slice qa9 q.length qc9, .slice wa9 l4.length wd9, .int .i64 n] 32))
        have hc9 := HC8.out.trans (b9.mono HC8.out.size)
        have HC9 := Lib.hid (hc9.alloc hc9.size (.cells #[.slice qa9 q.length qc9, .slice wa9 l4.length wd9, .int .i64 n] 32))
        clear rq9 rw9 b9 hb9 hc9 HB8' HC8 XS8 XW8 XR8 XP8 XA8 XB8 XC8 XD8 XE8 XF8 XG8 RX8 RMXD8 RMXF8 FQXA8 FPXA8 FQXC8 FPXC8 FMXC8 FQXE8 FPXE8 FMXE8 FQXG8 FPXG8 xP80 xP81 xP82 xP83 xP84 xP85 bsP8 xXR80 xXR81 xXR82 bsXR8
        go_upto_region 13 with (fail)
        obtain ⟨WZ, hWZ⟩ : ∃ WZ, WZ = w9.alloc (.cells #[.slice qa9 q.length qc9, .slice wa9 l4.length wd9, .int .i64 n] 32) := ⟨_, rfl⟩
        rw [← hWZ] at XS9 XW9 XR9 XP9 XA9 XB9 XC9 XD9 XE9 XF9 XG9 XH9 RX9 RMXD9 RMXF9 FQXA9 FPXA9 FQXC9 FPXC9 FMXC9 FQXE9 FPXE9 FMXE9 FQXG9 FPXG9 HB9' HC9 ⊢
        clear hWZ
        have uXS0 := fun p' : BelW WZ => (XS9.out.next p'.h).cells.1
        have uXS1 := fun p' : BelW WZ => (XS9.out.next p'.h).cells.2.1
        have uXS2 := fun p' : BelW WZ => (XS9.out.next p'.h).cells.2.2
        have uXS3 := fun p' : BelW WZ => blk_lt (XS9.out.next p'.h).blk
        have uXR0 := fun p' : BelW WZ => (XR9.out.next p'.h).cells.1
        have uXR1 := fun p' : BelW WZ => (XR9.out.next p'.h).cells.2.1
        have uXR2 := fun p' : BelW WZ => (XR9.out.next p'.h).cells.2.2
        have uXR3 := fun p' : BelW WZ => blk_lt (XR9.out.next p'.h).blk
        have uXA0 := fun p' : BelW WZ => (XA9.out.next p'.h).cells.1
        have uXA1 := fun p' : BelW WZ => (XA9.out.next p'.h).cells.2.1
        have uXA2 := fun p' : BelW WZ => (XA9.out.next p'.h).cells.2.2
        have uXA3 := fun p' : BelW WZ => blk_lt (XA9.out.next p'.h).blk
        have uXB0 := fun p' : BelW WZ => (XB9.out.next p'.h).cells.1
        have uXB1 := fun p' : BelW WZ => (XB9.out.next p'.h).cells.2.1
        have uXB2 := fun p' : BelW WZ => (XB9.out.next p'.h).cells.2.2
        have uXB3 := fun p' : BelW WZ => blk_lt (XB9.out.next p'.h).blk
        have uXC0 := fun p' : BelW WZ => (XC9.out.next p'.h).cells.1
        have uXC1 := fun p' : BelW WZ => (XC9.out.next p'.h).cells.2.1
        have uXC2 := fun p' : BelW WZ => (XC9.out.next p'.h).cells.2.2
        have uXC3 := fun p' : BelW WZ => blk_lt (XC9.out.next p'.h).blk
        have uXD0 := fun p' : BelW WZ => (XD9.out.next p'.h).cells.1
        have uXD1 := fun p' : BelW WZ => (XD9.out.next p'.h).cells.2.1
        have uXD2 := fun p' : BelW WZ => (XD9.out.next p'.h).cells.2.2
        have uXD3 := fun p' : BelW WZ => blk_lt (XD9.out.next p'.h).blk
        have uXE0 := fun p' : BelW WZ => (XE9.out.next p'.h).cells.1
        have uXE1 := fun p' : BelW WZ => (XE9.out.next p'.h).cells.2.1
        have uXE2 := fun p' : BelW WZ => (XE9.out.next p'.h).cells.2.2
        have uXE3 := fun p' : BelW WZ => blk_lt (XE9.out.next p'.h).blk
        have uXF0 := fun p' : BelW WZ => (XF9.out.next p'.h).cells.1
        have uXF1 := fun p' : BelW WZ => (XF9.out.next p'.h).cells.2.1
        have uXF2 := fun p' : BelW WZ => (XF9.out.next p'.h).cells.2.2
        have uXF3 := fun p' : BelW WZ => blk_lt (XF9.out.next p'.h).blk
        have uXG0 := fun p' : BelW WZ => (XG9.out.next p'.h).cells.1
        have uXG1 := fun p' : BelW WZ => (XG9.out.next p'.h).cells.2.1
        have uXG2 := fun p' : BelW WZ => (XG9.out.next p'.h).cells.2.2
        have uXG3 := fun p' : BelW WZ => blk_lt (XG9.out.next p'.h).blk
        have uXH0 := fun p' : BelW WZ => (XH9.out.next p'.h).cells.1
        have uXH1 := fun p' : BelW WZ => (XH9.out.next p'.h).cells.2.1
        have uXH2 := fun p' : BelW WZ => (XH9.out.next p'.h).cells.2.2
        have uXH3 := fun p' : BelW WZ => blk_lt (XH9.out.next p'.h).blk
        have uP0 := fun p' : BelW WZ => (sixBlk (XP9.out.next p'.h)).1
        have uP1 := fun p' : BelW WZ => (sixBlk (XP9.out.next p'.h)).2.1
        have uP2 := fun p' : BelW WZ => (sixBlk (XP9.out.next p'.h)).2.2.1
        have uP3 := fun p' : BelW WZ => (sixBlk (XP9.out.next p'.h)).2.2.2.1
        have uP4 := fun p' : BelW WZ => (sixBlk (XP9.out.next p'.h)).2.2.2.2.1
        have uP5 := fun p' : BelW WZ => (sixBlk (XP9.out.next p'.h)).2.2.2.2.2
        have uP6 := fun p' : BelW WZ => blk_lt (XP9.out.next p'.h)
        have us1 := fun p' : BelW WZ => (FMXC9.out.1.below p'.h).str
        have us2 := fun p' : BelW WZ => (RMXD9.out.below p'.h).str
        have us3 := fun p' : BelW WZ => (FMXE9.out.1.below p'.h).str
        have us4 := fun p' : BelW WZ => (RMXF9.out.below p'.h).str
        have HV1 : Hid (∀ p' : BelW WZ, Calls Try.prog 35 #[.agg #[.string nm, .int .u8 k, .bool o, .int .i64 s, .int .i64 d, .int .i64 r], .agg #[.slice aq q.length cq, .slice aw l.length cw, .int .i64 n]] p'.W fun e w'' => e = .returned (.bool (vldQ k s d r q l n)) ∧ ∃ q : BelW WZ, w'' = q.W) := fun p' => Calls.bel_of (validQ_c nm k o s d r n _ _ q l p'.W (XS9.out.next p'.h).rq (XS9.out.next p'.h).rw WF.out (by omega) (by omega))
        have HV2 : Hid (∀ p' : BelW WZ, Calls Try.prog 36 #[.agg #[.string nm, .int .u8 k, .bool o, .int .i64 s, .int .i64 d, .int .i64 r], .agg #[.slice a1 q.length c1, .slice a2 l.length c2, .int .i64 n]] p'.W fun e w'' => e = .returned (.bool (vldQ k s d r q l n)) ∧ ∃ q : BelW WZ, w'' = q.W) := fun p' => Calls.bel_of (valid23_c nm k o s d r n _ _ q l p'.W (XR9.out.next p'.h).rq (XR9.out.next p'.h).rw (by omega) (by omega))
        have HO0 : Hid (∀ p' : BelW WZ, Calls Try.prog 38 #[.agg #[.slice qa3 q1.length qc3, .slice wa3 l1.length wd3, .int .i64 n1]] p'.W fun e w'' => e = .returned (.agg #[.slice qa3 q1.length qc3, .slice wa3 l1.length wd3, .int .i64 n1]) ∧ ∃ q : BelW WZ, w'' = q.W) := fun p' => Calls.bel_of (of23_c _ _ _ _ _ _ _ p'.W)
        have HS0 : Hid (∀ p' : BelW WZ, Calls Try.prog 37 #[.agg #[.slice qa2 q1.length qc2, .slice wa2 l1.length wd2, .int .i64 n1], .agg #[.slice qa3 q1.length qc3, .slice wa3 l1.length wd3, .int .i64 n1]] p'.W fun e w'' => e = .returned (.bool true) ∧ ∃ q : BelW WZ, w'' = q.W) := fun p' => Calls.bel_of (sameT_c _ _ _ _ q1 l1 n1 p'.W (XA9.out.next p'.h).rq (XB9.out.next p'.h).rq (XA9.out.next p'.h).rw (XB9.out.next p'.h).rw (by have := L1.out.2.2; omega) (by have := L1.out.1; omega))
        have HO1 : Hid (∀ p' : BelW WZ, Calls Try.prog 38 #[.agg #[.slice qa5 q2.length qc5, .slice wa5 l2.length wd5, .int .i64 n]] p'.W fun e w'' => e = .returned (.agg #[.slice qa5 q2.length qc5, .slice wa5 l2.length wd5, .int .i64 n]) ∧ ∃ q : BelW WZ, w'' = q.W) := fun p' => Calls.bel_of (of23_c _ _ _ _ _ _ _ p'.W)
        have HS1 : Hid (∀ p' : BelW WZ, Calls Try.prog 37 #[.agg #[.slice qa4 q2.length qc4, .slice wa4 l2.length wd4, .int .i64 n], .agg #[.slice qa5 q2.length qc5, .slice wa5 l2.length wd5, .int .i64 n]] p'.W fun e w'' => e = .returned (.bool true) ∧ ∃ q : BelW WZ, w'' = q.W) := fun p' => Calls.bel_of (sameT_c _ _ _ _ q2 l2 n p'.W (XC9.out.next p'.h).rq (XD9.out.next p'.h).rq (XC9.out.next p'.h).rw (XD9.out.next p'.h).rw (by have := L2.out.2.2.1; omega) (by have := L2.out.1; omega))
        have HO2 : Hid (∀ p' : BelW WZ, Calls Try.prog 38 #[.agg #[.slice qa7 q3.length qc7, .slice wa7 l.length wd7, .int .i64 n]] p'.W fun e w'' => e = .returned (.agg #[.slice qa7 q3.length qc7, .slice wa7 l.length wd7, .int .i64 n]) ∧ ∃ q : BelW WZ, w'' = q.W) := fun p' => Calls.bel_of (of23_c _ _ _ _ _ _ _ p'.W)
        have HS2 : Hid (∀ p' : BelW WZ, Calls Try.prog 37 #[.agg #[.slice qa6 q3.length qc6, .slice wa6 l.length wd6, .int .i64 n], .agg #[.slice qa7 q3.length qc7, .slice wa7 l.length wd7, .int .i64 n]] p'.W fun e w'' => e = .returned (.bool true) ∧ ∃ q : BelW WZ, w'' = q.W) := fun p' => Calls.bel_of (sameT_c _ _ _ _ q3 l n p'.W (XE9.out.next p'.h).rq (XF9.out.next p'.h).rq (XE9.out.next p'.h).rw (XF9.out.next p'.h).rw (by omega) (by have := L3.out.1; omega))
        have HO3 : Hid (∀ p' : BelW WZ, Calls Try.prog 38 #[.agg #[.slice qa9 q.length qc9, .slice wa9 l4.length wd9, .int .i64 n]] p'.W fun e w'' => e = .returned (.agg #[.slice qa9 q.length qc9, .slice wa9 l4.length wd9, .int .i64 n]) ∧ ∃ q : BelW WZ, w'' = q.W) := fun p' => Calls.bel_of (of23_c _ _ _ _ _ _ _ p'.W)
        have HS3 : Hid (∀ p' : BelW WZ, Calls Try.prog 37 #[.agg #[.slice qa8 q.length qc8, .slice wa8 l4.length wd8, .int .i64 n], .agg #[.slice qa9 q.length qc9, .slice wa9 l4.length wd9, .int .i64 n]] p'.W fun e w'' => e = .returned (.bool true) ∧ ∃ q : BelW WZ, w'' = q.W) := fun p' => Calls.bel_of (sameT_c _ _ _ _ q l4 n p'.W (XG9.out.next p'.h).rq (XH9.out.next p'.h).rq (XG9.out.next p'.h).rw (XH9.out.next p'.h).rw (by have := L4.out; omega) (by omega))
        generalize vldQ k s d r q l n = vb at HV1 HV2
        go_cut [211] from 133 to 211 (fun s211 wx => s211 = .bool false ∧ Aside (Below WZ.heap.size WZ wx))
        case first =>
          refine wp_region_quiet_bel (by kernel_rfl) (by kernel_rfl) ?_
          as_aux_lemma =>
            iterate 79 (first | go_big_quiet_step (first | (go_at_call 35; exact HV1.out _) | (go_at_call 36; exact HV2.out _) | (go_at_call_of 38 (Value.slice wa3 l1.length wd3); exact HO0.out _) | (go_at_call_of 37 (Value.slice wa2 l1.length wd2); exact HS0.out _) | (go_at_call_of 38 (Value.slice wa5 l2.length wd5); exact HO1.out _) | (go_at_call_of 37 (Value.slice wa4 l2.length wd4); exact HS1.out _) | (go_at_call_of 38 (Value.slice wa7 l.length wd7); exact HO2.out _) | (go_at_call_of 37 (Value.slice wa6 l.length wd6); exact HS2.out _) | (go_at_call_of 38 (Value.slice wa9 l4.length wd9); exact HO3.out _) | (go_at_call_of 37 (Value.slice wa8 l4.length wd8); exact HS3.out _)) | quiet_step (first | (go_at_call 35; exact HV1.out _) | (go_at_call 36; exact HV2.out _) | (go_at_call_of 38 (Value.slice wa3 l1.length wd3); exact HO0.out _) | (go_at_call_of 37 (Value.slice wa2 l1.length wd2); exact HS0.out _) | (go_at_call_of 38 (Value.slice wa5 l2.length wd5); exact HO1.out _) | (go_at_call_of 37 (Value.slice wa4 l2.length wd4); exact HS1.out _) | (go_at_call_of 38 (Value.slice wa7 l.length wd7); exact HO2.out _) | (go_at_call_of 37 (Value.slice wa6 l.length wd6); exact HS2.out _) | (go_at_call_of 38 (Value.slice wa9 l4.length wd9); exact HO3.out _) | (go_at_call_of 37 (Value.slice wa8 l4.length wd8); exact HS3.out _)))
            refine wpQuiet_nil ?_
            intro _ hw'
            obtain ⟨pz, hw''⟩ := hw'
            subst hw''
            have HPZ := Lib.hid pz.h
            go_wp2_with fail
            go_meet
            exact ⟨rfl, HPZ.out⟩
        case rest =>
          clear uXS0 uXS1 uXS2 uXS3 uXR0 uXR1 uXR2 uXR3 uXA0 uXA1 uXA2 uXA3 uXB0 uXB1 uXB2 uXB3 uXC0 uXC1 uXC2 uXC3 uXD0 uXD1 uXD2 uXD3 uXE0 uXE1 uXE2 uXE3 uXF0 uXF1 uXF2 uXF3 uXG0 uXG1 uXG2 uXG3 uXH0 uXH1 uXH2 uXH3 uP0 uP1 uP2 uP3 uP4 uP5 uP6 us1 us2 us3 us4 HV1 HV2 HO0 HS0 HO1 HS1 HO2 HS2 HO3 HS3
          obtain ⟨WY, rfl⟩ : ∃ WY : World, WY = wc := ⟨_, rfl⟩
          obtain ⟨rfl, A⟩ := hcut
          have b8 : Below WZ.heap.size WZ WY := A.out
          clear A
          obtain ⟨yXA0, yXA1, yXA2⟩ := (XA9.out.next b8).cells
          have ybXA := blk_lt (XA9.out.next b8).blk
          obtain ⟨yXC0, yXC1, yXC2⟩ := (XC9.out.next b8).cells
          have ybXC := blk_lt (XC9.out.next b8).blk
          obtain ⟨yXE0, yXE1, yXE2⟩ := (XE9.out.next b8).cells
          have ybXE := blk_lt (XE9.out.next b8).blk
          obtain ⟨yXG0, yXG1, yXG2⟩ := (XG9.out.next b8).cells
          have ybXG := blk_lt (XG9.out.next b8).blk
          have HCY := Lib.hid (HC9.out.trans (b8.mono HC9.out.size))
          have TLY : Hid (TQ (V0.alloc (.cells #[.slice a1 q.length c1, .slice a2 l.length c2, .int .i64 n] 32)) (WY.alloc (.cells #[.slice qa2 q1.length qc2, .slice wa2 l1.length wd2, .int .i64 n1, .slice qa4 q2.length qc4, .slice wa4 l2.length wd4, .int .i64 n, .slice qa6 q3.length qc6, .slice wa6 l.length wd6, .int .i64 n, .slice qa8 q.length qc8, .slice wa8 l4.length wd8, .int .i64 n] 27)) WY.heap.size 27 #[.slice qa2 q1.length qc2, .slice wa2 l1.length wd2, .int .i64 n1, .slice qa4 q2.length qc4, .slice wa4 l2.length wd4, .int .i64 n, .slice qa6 q3.length qc6, .slice wa6 l.length wd6, .int .i64 n, .slice qa8 q.length qc8, .slice wa8 l4.length wd8, .int .i64 n] [(.slice qa2 q1.length qc2, q1.length), (.slice qa4 q2.length qc4, q2.length), (.slice qa6 q3.length qc6, q3.length), (.slice qa8 q.length qc8, q.length)] [(.slice wa2 l1.length wd2, l1.length), (.slice wa4 l2.length wd4, l2.length), (.slice wa6 l.length wd6, l.length), (.slice wa8 l4.length wd8, l4.length)] [.slice xa4 x2.length xc4, .slice xa6 x3.length xc6]) := TQ.new HCY.out (fun p hp => by
            simp only [List.mem_cons, List.not_mem_nil, or_false] at hp
            rcases hp with rfl | rfl | rfl | rfl
            · exact TurnQ.of (FQXA9.out.below b8) (fun y hy => by have := L1.out.2.1 y hy; omega)
            · exact TurnQ.of (FQXC9.out.below b8) (fun y hy => by have := L2.out.2.1 y hy; omega)
            · exact TurnQ.of (FQXE9.out.below b8) (fun y hy => by have := L3.out.2.1 y hy; omega)
            · exact TurnQ.of (FQXG9.out.below b8) (fun y hy => by have := HM2.out y hy; omega)) (fun p hp => by
            simp only [List.mem_cons, List.not_mem_nil, or_false] at hp
            rcases hp with rfl | rfl | rfl | rfl
            · exact TurnP.of (FPXA9.out.below b8)
            · exact TurnP.of (FPXC9.out.below b8)
            · exact TurnP.of (FPXE9.out.below b8)
            · exact TurnP.of (FPXG9.out.below b8)) (fun v hv => by
            simp only [List.mem_cons, List.not_mem_nil, or_false] at hv
            rcases hv with rfl | rfl
            · exact TurnM.of (FMXC9.out.below b8) (by have := L2.out.2.2.2; omega)
            · exact TurnM.of (FMXE9.out.below b8) (by have := L3.out.2.2; omega))
          clear b8 HCY XS9 XW9 XR9 XP9 XA9 XB9 XC9 XD9 XE9 XF9 XG9 XH9 RX9 RMXD9 RMXF9 FQXA9 FPXA9 FQXC9 FPXC9 FMXC9 FQXE9 FPXE9 FMXE9 FQXG9 FPXG9 HB9' HC9
          go_wp2_with fail
          as_aux_lemma =>
            go_loopg [39, 41, 42, 43, 218, 225, 231, 245] 4 (fun gg _ _ _ _ sk _ _ _ wr => ∃ k' : Nat, k' ≤ 4 ∧ 4 - k' ≤ gg ∧ sk = .int .i64 k' ∧ Aside (TQ (V0.alloc (.cells #[.slice a1 q.length c1, .slice a2 l.length c2, .int .i64 n] 32)) wr WY.heap.size 27 #[.slice qa2 q1.length qc2, .slice wa2 l1.length wd2, .int .i64 n1, .slice qa4 q2.length qc4, .slice wa4 l2.length wd4, .int .i64 n, .slice qa6 q3.length qc6, .slice wa6 l.length wd6, .int .i64 n, .slice qa8 q.length qc8, .slice wa8 l4.length wd8, .int .i64 n] [(.slice qa2 q1.length qc2, q1.length), (.slice qa4 q2.length qc4, q2.length), (.slice qa6 q3.length qc6, q3.length), (.slice qa8 q.length qc8, q.length)] [(.slice wa2 l1.length wd2, l1.length), (.slice wa4 l2.length wd4, l2.length), (.slice wa6 l.length wd6, l.length), (.slice wa8 l4.length wd8, l4.length)] [.slice xa4 x2.length xc4, .slice xa6 x3.length xc6]))
            case atStart => exact ⟨0, Nat.zero_le _, by omega, rfl, TLY.out⟩
            case round =>
              obtain ⟨k', hk', hgk', rfl, A⟩ := hrel
              obtain ⟨wo, rfl⟩ : ∃ wo : World, wo = wr := ⟨_, rfl⟩
              have T0 := Lib.hid A.out
              clear TLY A
              by_cases hlt : k' < 4
              · have hltz : (k' : Int) < 4 := by omega
                obtain ⟨a, m, c, a', m', c', z, e0, e1, e2, hm1, hm2, hl1, hl2⟩ : ∃ (a : Option Addr) (m c : Nat) (a' : Option Addr) (m' c' : Nat) (z : Int), (#[.slice qa2 q1.length qc2, .slice wa2 l1.length wd2, .int .i64 n1, .slice qa4 q2.length qc4, .slice wa4 l2.length wd4, .int .i64 n, .slice qa6 q3.length qc6, .slice wa6 l.length wd6, .int .i64 n, .slice qa8 q.length qc8, .slice wa8 l4.length wd8, .int .i64 n] : Array Value)[k' * 3]? = some (.slice a m c) ∧ (#[.slice qa2 q1.length qc2, .slice wa2 l1.length wd2, .int .i64 n1, .slice qa4 q2.length qc4, .slice wa4 l2.length wd4, .int .i64 n, .slice qa6 q3.length qc6, .slice wa6 l.length wd6, .int .i64 n, .slice qa8 q.length qc8, .slice wa8 l4.length wd8, .int .i64 n] : Array Value)[k' * 3 + 1]? = some (.slice a' m' c') ∧ (#[.slice qa2 q1.length qc2, .slice wa2 l1.length wd2, .int .i64 n1, .slice qa4 q2.length qc4, .slice wa4 l2.length wd4, .int .i64 n, .slice qa6 q3.length qc6, .slice wa6 l.length wd6, .int .i64 n, .slice qa8 q.length qc8, .slice wa8 l4.length wd8, .int .i64 n] : Array Value)[k' * 3 + 2]? = some (.int .i64 z) ∧
                    ((Value.slice a m c, m) ∈ ([(.slice qa2 q1.length qc2, q1.length), (.slice qa4 q2.length qc4, q2.length), (.slice qa6 q3.length qc6, q3.length), (.slice qa8 q.length qc8, q.length)] : List (Value × Nat))) ∧ ((Value.slice a' m' c', m') ∈ ([(.slice wa2 l1.length wd2, l1.length), (.slice wa4 l2.length wd4, l2.length), (.slice wa6 l.length wd6, l.length), (.slice wa8 l4.length wd8, l4.length)] : List (Value × Nat))) ∧ m ≤ 101 ∧ m' ≤ 101 := by
                  match k', hlt with
                  | 0, _ => exact ⟨_, _, _, _, _, _, _, rfl, rfl, rfl, by simp, by simp, by have := L1.out.1; omega, by have := L1.out.2.2; omega⟩
                  | 1, _ => exact ⟨_, _, _, _, _, _, _, rfl, rfl, rfl, by simp, by simp, by have := L2.out.1; omega, by have := L2.out.2.2.1; omega⟩
                  | 2, _ => exact ⟨_, _, _, _, _, _, _, rfl, rfl, rfl, by simp, by simp, by have := L3.out.1; omega, by skip; omega⟩
                  | 3, _ => exact ⟨_, _, _, _, _, _, _, rfl, rfl, rfl, by simp, by simp, by skip; omega, by have := L4.out; omega⟩
                have y0 := T0.out.cell _ _ e0
                have y1 := T0.out.cell _ _ e1
                have y2 := T0.out.cell _ _ e2
                have yb := blk_lt T0.out.blk
                have TA := Lib.hid (T0.out.alloc (.cells #[.slice a m c, .slice a' m' c', .int .i64 z] 27))
                have VA := Lib.hid (heap_alloc_new wo (.cells #[.slice a m c, .slice a' m' c', .int .i64 z] 27))
                have HM1 := Lib.hid hm1
                have HM2' := Lib.hid hm2
                clear e0 e1 e2 hm1 hm2 T0
                go_wp2_with fail
                go_loopg [41, 42, 225, 231] m (fun gg _ _ sj _ wi => ∃ j : Nat, j ≤ m ∧ m - j ≤ gg ∧ sj = .int .i64 j ∧ Aside (TQ (V0.alloc (.cells #[.slice a1 q.length c1, .slice a2 l.length c2, .int .i64 n] 32)) wi WY.heap.size 27 #[.slice qa2 q1.length qc2, .slice wa2 l1.length wd2, .int .i64 n1, .slice qa4 q2.length qc4, .slice wa4 l2.length wd4, .int .i64 n, .slice qa6 q3.length qc6, .slice wa6 l.length wd6, .int .i64 n, .slice qa8 q.length qc8, .slice wa8 l4.length wd8, .int .i64 n] [(.slice qa2 q1.length qc2, q1.length), (.slice qa4 q2.length qc4, q2.length), (.slice qa6 q3.length qc6, q3.length), (.slice qa8 q.length qc8, q.length)] [(.slice wa2 l1.length wd2, l1.length), (.slice wa4 l2.length wd4, l2.length), (.slice wa6 l.length wd6, l.length), (.slice wa8 l4.length wd8, l4.length)] [.slice xa4 x2.length xc4, .slice xa6 x3.length xc6] ∧ wi.heap[wo.heap.size]? = some (.cells #[.slice a m c, .slice a' m' c', .int .i64 z] 27 (0, 0))))
                case atStart => exact ⟨0, Nat.zero_le _, by omega, rfl, TA.out, VA.out⟩
                case round =>
                  obtain ⟨j, hj, hgj, rfl, A⟩ := hrel
                  obtain ⟨hT, hV⟩ := A.out
                  clear A TA VA y0 y1 y2
                  by_cases hjt : j < m
                  · have hjz : (j : Int) < (m : Int) := by omega
                    obtain ⟨bq, oq, ma, mm, mc, rfl, hbq, yq, hmm, hM⟩ := (hT.tq _ HM1.out).at j hjt
                    have T2 := Lib.hid (And.intro hT (And.intro hV hM))
                    clear hT hV hM
                    go_wp2_with fail
                    clear yq
                    go_loopg [42, 231] mm (fun gg _ si wi => ∃ i : Nat, i ≤ mm ∧ mm - i ≤ gg ∧ si = .int .i64 i ∧ Aside (TQ (V0.alloc (.cells #[.slice a1 q.length c1, .slice a2 l.length c2, .int .i64 n] 32)) wi WY.heap.size 27 #[.slice qa2 q1.length qc2, .slice wa2 l1.length wd2, .int .i64 n1, .slice qa4 q2.length qc4, .slice wa4 l2.length wd4, .int .i64 n, .slice qa6 q3.length qc6, .slice wa6 l.length wd6, .int .i64 n, .slice qa8 q.length qc8, .slice wa8 l4.length wd8, .int .i64 n] [(.slice qa2 q1.length qc2, q1.length), (.slice qa4 q2.length qc4, q2.length), (.slice qa6 q3.length qc6, q3.length), (.slice qa8 q.length qc8, q.length)] [(.slice wa2 l1.length wd2, l1.length), (.slice wa4 l2.length wd4, l2.length), (.slice wa6 l.length wd6, l.length), (.slice wa8 l4.length wd8, l4.length)] [.slice xa4 x2.length xc4, .slice xa6 x3.length xc6] ∧ wi.heap[wo.heap.size]? = some (.cells #[.slice (some ⟨bq, oq, none⟩) m c, .slice a' m' c', .int .i64 z] 27 (0, 0)) ∧ TurnM wi (V0.alloc (.cells #[.slice a1 q.length c1, .slice a2 l.length c2, .int .i64 n] 32)).heap.size WY.heap.size (.slice ma mm mc)))
                    case atStart => exact ⟨0, Nat.zero_le _, by omega, rfl, T2.out⟩
                    case round =>
                      obtain ⟨i, hi, hgi, rfl, A⟩ := hrel
                      obtain ⟨hT, hV, hM⟩ := A.out
                      clear A T2
                      by_cases hit : i < mm
                      · have hiz : (i : Int) < (mm : Int) := by omega
                        obtain ⟨b, off, z', rfl, hB, hC, hbs, y, hfz⟩ := hM.at i hit
                        have hne : wo.heap.size ≠ b := by omega
                        have HN : Hid (∀ z'' : Int, TQ (V0.alloc (.cells #[.slice a1 q.length c1, .slice a2 l.length c2, .int .i64 n] 32)) (wr.setCell ⟨b, off + i, none⟩ (.int .u8 z'')) WY.heap.size 27 #[.slice qa2 q1.length qc2, .slice wa2 l1.length wd2, .int .i64 n1, .slice qa4 q2.length qc4, .slice wa4 l2.length wd4, .int .i64 n, .slice qa6 q3.length qc6, .slice wa6 l.length wd6, .int .i64 n, .slice qa8 q.length qc8, .slice wa8 l4.length wd8, .int .i64 n] [(.slice qa2 q1.length qc2, q1.length), (.slice qa4 q2.length qc4, q2.length), (.slice qa6 q3.length qc6, q3.length), (.slice qa8 q.length qc8, q.length)] [(.slice wa2 l1.length wd2, l1.length), (.slice wa4 l2.length wd4, l2.length), (.slice wa6 l.length wd6, l.length), (.slice wa8 l4.length wd8, l4.length)] [.slice xa4 x2.length xc4, .slice xa6 x3.length xc6] ∧ (wr.setCell ⟨b, off + i, none⟩ (.int .u8 z'')).heap[wo.heap.size]? = some (.cells #[.slice (some ⟨bq, oq, none⟩) m c, .slice a' m' c', .int .i64 z] 27 (0, 0)) ∧ TurnM (wr.setCell ⟨b, off + i, none⟩ (.int .u8 z'')) (V0.alloc (.cells #[.slice a1 q.length c1, .slice a2 l.length c2, .int .i64 n] 32)).heap.size WY.heap.size (.slice (some ⟨b, off, none⟩) mm mc)) := fun z'' => ⟨hT.set hB hC y z'', set_farQ hV hne, hM.set y⟩
                        clear hT hV hM
                        go_wp2_with fail
                        go_roundg (mm - (i + 1))
                        case measure => omega
                        case rel => exact ⟨i + 1, by omega, by omega, by go_num, HN.out _⟩
                      · have hiz : ¬ (i : Int) < (mm : Int) := by omega
                        have T3 := Lib.hid (And.intro hT hV)
                        clear hT hV hM
                        go_wp2_with fail
                        go_roundg (m - (j + 1))
                        case measure => omega
                        case rel => exact ⟨j + 1, by omega, by omega, by go_num, T3.out⟩
                  · have hjz : ¬ (j : Int) < (m : Int) := by omega
                    obtain ⟨z0, z1, z2, _, _, _⟩ := threeBlk hV
                    have xb := blk_lt hV
                    have T1 := Lib.hid (And.intro hT hV)
                    clear hT hV
                    go_wp2_with fail
                    go_loopg [43, 245] m' (fun gg _ sj wi => ∃ j : Nat, j ≤ m' ∧ m' - j ≤ gg ∧ sj = .int .i64 j ∧ Aside (TQ (V0.alloc (.cells #[.slice a1 q.length c1, .slice a2 l.length c2, .int .i64 n] 32)) wi WY.heap.size 27 #[.slice qa2 q1.length qc2, .slice wa2 l1.length wd2, .int .i64 n1, .slice qa4 q2.length qc4, .slice wa4 l2.length wd4, .int .i64 n, .slice qa6 q3.length qc6, .slice wa6 l.length wd6, .int .i64 n, .slice qa8 q.length qc8, .slice wa8 l4.length wd8, .int .i64 n] [(.slice qa2 q1.length qc2, q1.length), (.slice qa4 q2.length qc4, q2.length), (.slice qa6 q3.length qc6, q3.length), (.slice qa8 q.length qc8, q.length)] [(.slice wa2 l1.length wd2, l1.length), (.slice wa4 l2.length wd4, l2.length), (.slice wa6 l.length wd6, l.length), (.slice wa8 l4.length wd8, l4.length)] [.slice xa4 x2.length xc4, .slice xa6 x3.length xc6] ∧ wi.heap[wo.heap.size]? = some (.cells #[.slice a m c, .slice a' m' c', .int .i64 z] 27 (0, 0))))
                    case atStart => exact ⟨0, Nat.zero_le _, by omega, rfl, T1.out⟩
                    case round =>
                      obtain ⟨j, hj, hgj, rfl, A⟩ := hrel
                      obtain ⟨hT, hV⟩ := A.out
                      clear A T1 z0 z1 z2
                      by_cases hjt : j < m'
                      · have hjz : (j : Int) < (m' : Int) := by omega
                        obtain ⟨z0, z1, z2, _, _, _⟩ := threeBlk hV
                        have xb := blk_lt hV
                        obtain ⟨b, off, z', rfl, hB, hC, hbs, y, hfz⟩ := (hT.tp _ HM2'.out).at j hjt
                        have hne : wo.heap.size ≠ b := by omega
                        have HN : Hid (∀ z'' : Int, TQ (V0.alloc (.cells #[.slice a1 q.length c1, .slice a2 l.length c2, .int .i64 n] 32)) (wr.setCell ⟨b, off + j * 3, none⟩ (.int .i64 z'')) WY.heap.size 27 #[.slice qa2 q1.length qc2, .slice wa2 l1.length wd2, .int .i64 n1, .slice qa4 q2.length qc4, .slice wa4 l2.length wd4, .int .i64 n, .slice qa6 q3.length qc6, .slice wa6 l.length wd6, .int .i64 n, .slice qa8 q.length qc8, .slice wa8 l4.length wd8, .int .i64 n] [(.slice qa2 q1.length qc2, q1.length), (.slice qa4 q2.length qc4, q2.length), (.slice qa6 q3.length qc6, q3.length), (.slice qa8 q.length qc8, q.length)] [(.slice wa2 l1.length wd2, l1.length), (.slice wa4 l2.length wd4, l2.length), (.slice wa6 l.length wd6, l.length), (.slice wa8 l4.length wd8, l4.length)] [.slice xa4 x2.length xc4, .slice xa6 x3.length xc6] ∧ (wr.setCell ⟨b, off + j * 3, none⟩ (.int .i64 z'')).heap[wo.heap.size]? = some (.cells #[.slice a m c, .slice (some ⟨b, off, none⟩) m' c', .int .i64 z] 27 (0, 0))) := fun z'' => ⟨hT.set hB hC y z'', set_farQ hV hne⟩
                        clear hT hV
                        go_wp2_with fail
                        go_roundg (m' - (j + 1))
                        case measure => omega
                        case rel => exact ⟨j + 1, by omega, by omega, by go_num, HN.out _⟩
                      · have hjz : ¬ (j : Int) < (m' : Int) := by omega
                        have T3 := Lib.hid hT
                        clear hT hV
                        go_wp2_with fail
                        go_roundg (4 - (k' + 1))
                        case measure => omega
                        case rel => exact ⟨k' + 1, by omega, by omega, by go_num, T3.out⟩
              · have hltz : ¬ (k' : Int) < 4 := by omega
                have TM := Lib.hid (TQ.again (t' := 28) (row' := #[.slice xa4 x2.length xc4, .slice xa6 x3.length xc6]) T0.out)
                clear T0
                go_wp2_with fail
                go_loopg [45, 46, 263, 269] 2 (fun gg _ _ sk _ wi => ∃ i' : Nat, i' ≤ 2 ∧ 2 - i' ≤ gg ∧ sk = .int .i64 i' ∧ Aside (TQ (V0.alloc (.cells #[.slice a1 q.length c1, .slice a2 l.length c2, .int .i64 n] 32)) wi wo.heap.size 28 #[.slice xa4 x2.length xc4, .slice xa6 x3.length xc6] [] [] [.slice xa4 x2.length xc4, .slice xa6 x3.length xc6]))
                case atStart => exact ⟨0, Nat.zero_le _, by omega, rfl, TM.out⟩
                case round =>
                  obtain ⟨i', hi', hgi', rfl, A⟩ := hrel
                  have T0 := Lib.hid A.out
                  clear TM A
                  by_cases hit : i' < 2
                  · have hitz : (i' : Int) < 2 := by omega
                    obtain ⟨ma, mm, mc, e0, hmm, hml⟩ : ∃ (ma : Option Addr) (mm mc : Nat), (#[.slice xa4 x2.length xc4, .slice xa6 x3.length xc6] : Array Value)[i']? = some (.slice ma mm mc) ∧ (Value.slice ma mm mc ∈ ([.slice xa4 x2.length xc4, .slice xa6 x3.length xc6] : List Value)) ∧ mm ≤ 1000 := by
                      match i', hit with
                      | 0, _ => exact ⟨_, _, _, rfl, by simp, by have := L2.out.2.2.2; omega⟩
                      | 1, _ => exact ⟨_, _, _, rfl, by simp, by have := L3.out.2.2; omega⟩
                    have y0 := T0.out.cell _ _ e0
                    have yb := blk_lt T0.out.blk
                    have HMm := Lib.hid hmm
                    clear e0 hmm
                    obtain ⟨TB, hTB⟩ : ∃ TB, TB = T0 := ⟨_, rfl⟩
                    clear hTB T0
                    go_wp2_with fail
                    clear y0
                    go_loopg [46, 269] mm (fun gg _ sj wi => ∃ j : Nat, j ≤ mm ∧ mm - j ≤ gg ∧ sj = .int .i64 j ∧ Aside (TQ (V0.alloc (.cells #[.slice a1 q.length c1, .slice a2 l.length c2, .int .i64 n] 32)) wi wo.heap.size 28 #[.slice xa4 x2.length xc4, .slice xa6 x3.length xc6] [] [] [.slice xa4 x2.length xc4, .slice xa6 x3.length xc6]))
                    case atStart => exact ⟨0, Nat.zero_le _, by omega, rfl, TB.out⟩
                    case round =>
                      obtain ⟨j, hj, hgj, rfl, A⟩ := hrel
                      have hT := A.out
                      clear A TB
                      by_cases hjt : j < mm
                      · have hjz : (j : Int) < (mm : Int) := by omega
                        obtain ⟨b, off, z', rfl, hB, hC, hbs, y, hfz⟩ := (hT.tm _ HMm.out).at j hjt
                        have HN : Hid (∀ z'' : Int, TQ (V0.alloc (.cells #[.slice a1 q.length c1, .slice a2 l.length c2, .int .i64 n] 32)) (wr.setCell ⟨b, off + j, none⟩ (.int .u8 z'')) wo.heap.size 28 #[.slice xa4 x2.length xc4, .slice xa6 x3.length xc6] [] [] [.slice xa4 x2.length xc4, .slice xa6 x3.length xc6]) := fun z'' => hT.set hB hC y z''
                        clear hT
                        go_wp2_with fail
                        go_roundg (mm - (j + 1))
                        case measure => omega
                        case rel => exact ⟨j + 1, by omega, by omega, by go_num, HN.out _⟩
                      · have hjz : ¬ (j : Int) < (mm : Int) := by omega
                        have T3 := Lib.hid hT
                        clear hT
                        go_wp2_with fail
                        go_roundg (2 - (i' + 1))
                        case measure => omega
                        case rel => exact ⟨i' + 1, by omega, by omega, by go_num, T3.out⟩
                  · have hitz : ¬ (i' : Int) < 2 := by omega
                    have hbe := T0.out.bel
                    have XSe := Lib.hid (BXS.out.next hbe)
                    have XWe := Lib.hid (BXW.out.next hbe)
                    have HBe := Lib.hid (BHB.out.trans (hbe.mono BHB.out.size))
                    have RXe := Lib.hid (BRX.out.below hbe)
                    obtain ⟨xs0, xs1, xs2⟩ := XSe.out.cells
                    have xb0 := blk_lt XSe.out.blk
                    obtain ⟨xw0, xw1, xw2⟩ := XWe.out.cells
                    have xb1 := blk_lt XWe.out.blk
                    clear T0 hbe
                    go_wp2_with fail
                    refine (sameT_c _ _ _ _ q l n _ XSe.out.rq XWe.out.rq XSe.out.rw XWe.out.rw (by omega) (by omega)).mono ?_
                    rintro e we ⟨rfl, be⟩
                    have HBf := Lib.hid (HBe.out.trans (be.mono HBe.out.size))
                    have hstr := (RXe.out.below be).str
                    clear be XSe XWe HBe RXe xs0 xs1 xs2 xw0 xw1 xw2
                    go_wp2_with fail
                    refine (AW.out _).mono ?_
                    rintro e wf ⟨rfl, bf⟩
                    have HBg := Lib.hid (HBf.out.trans (bf.mono HBf.out.size))
                    clear bf
                    go_wp2_with fail
                    go_ret
                    exact ⟨rfl, HBg.out⟩
end Go.Proofs.Ytglbfmcbojjglaa

/-
  BoardConserves: for every depth and every list of acts the call returns true, and nothing that was there before has turned. No conditions but that the list can be read.
-/
import Derived.Test.YtglbfmcbojjglaaConsB
import Derived.Deep.DeepCutAuto
namespace Go.Proofs.Ytglbfmcbojjglaa
open Go.RowKit

/-- A slice of n acts: four bytes each. -/
def RdA4 (w : World) (v : Value) (n : Nat) : Prop :=
  ∃ (ao : Option Addr) (cap : Nat), v = .slice ao n cap ∧ n ≤ cap ∧ (ao = none → cap = 0) ∧ ∀ k, k < n → ∃ b off x y z u, ao = some ⟨b, off, none⟩ ∧ b < w.heap.size ∧
    w.cell? ⟨b, off + k * 4, none⟩ = some (.int .u8 x) ∧ w.cell? ⟨b, off + k * 4 + 1, none⟩ = some (.int .u8 y) ∧ w.cell? ⟨b, off + k * 4 + 2, none⟩ = some (.int .u8 z) ∧ w.cell? ⟨b, off + k * 4 + 3, none⟩ = some (.int .u8 u) ∧
    (0 ≤ x ∧ x ≤ 255) ∧ (0 ≤ y ∧ y ≤ 255) ∧ (0 ≤ z ∧ z ≤ 255) ∧ (0 ≤ u ∧ u ≤ 255)

theorem WfW.tail {x : Wt} {m l : List Wt} (h : WfW l) (hl : l = x :: m) : WfW m ∧ (Lit.int .i64 x.proc).wf = true := by
  subst hl
  exact ⟨fun y hy => h y (by simp [hy]), h x (by simp)⟩
theorem len_tail {α : Type} {x : α} {m l : List α} {k : Nat} (h : l.length ≤ k) (hl : l = x :: m) : m.length + 1 ≤ k := by
  subst hl
  simpa using h
theorem strNums_append (a b : List Int) : strOfNums (a ++ b) = strOfNums a ++ strOfNums b := by
  apply ByteArray.ext
  simp [strOfNums]
theorem strNums_size (a : List Int) : (strOfNums a).size = a.length := by simp [strOfNums, ByteArray.size]
theorem vldBu_d {n : Int} {d : List Int} {p g : List Wt} (h : vldBu n d p g = true) : d.length ≤ 16 := by
  obtain ⟨_, h2, h3, _⟩ := vldBu_iff.1 h
  omega
theorem vldBu_nil {n : Int} (h1 : 1 ≤ n) (h2 : n ≤ 16) : vldBu n [] [] [] = true := vldBu_iff.2 ⟨h1, h2, by simp; omega, OrdW.nil, OrdW.nil, .inl rfl, .inl rfl, by simp⟩
theorem wf8 (x : Int) : (Lit.int .i64 (x % 8)).wf = true := by
  have h1 := Int.emod_nonneg x (show (8 : Int) ≠ 0 by decide)
  have h2 := Int.emod_lt_of_pos x (show (0 : Int) < 8 by decide)
  generalize x % 8 = y at *
  go_wf
theorem wfU {x : Int} (h0 : 0 ≤ x) (h1 : x ≤ 255) : (Lit.int .u8 x).wf = true := by go_wf

theorem BC.put {w W : World} {n n' : Int} {k B : Nat} {vp : Value} {pt : List Int} {vg : Value} {gt : List Int} {cd cp cg cd' cp' cg' : Value} {d d' : List Int} {p g g' : List Wt} (h : BC w W n k vp pt vg gt cd cp cg d p g) (h1 : TyB W B cd' d') (h2 : TyW W B cp' p) (h3 : TyW W B cg' g') :
    BC w (put4 W w.heap.size (.int .i64 n') cd' cp' cg') n' k vp pt vg gt cd' cp' cg' d' p g' := by
  have hne : ∀ (a b c e : Value), (put4 W w.heap.size a b c e).heap[w.heap.size + 1]? = W.heap[w.heap.size + 1]? := fun a b c e => by
    unfold put4
    rw [Below.heap_setCell _ _ _ _ (by show w.heap.size + 1 ≠ w.heap.size; omega), Below.heap_setCell _ _ _ _ (by show w.heap.size + 1 ≠ w.heap.size; omega), Below.heap_setCell _ _ _ _ (by show w.heap.size + 1 ≠ w.heap.size; omega), Below.heap_setCell _ _ _ _ (by show w.heap.size + 1 ≠ w.heap.size; omega)]
  have ho : ∀ {v : Value} {l : List Int}, OwnB W w.heap.size v l → OwnB (put4 W w.heap.size (.int .i64 n') cd' cp' cg') w.heap.size v l := fun hv => by
    have q1 := set4 h.ub.blk (.int .i64 n')
    have q2 := set4 q1.1 cd'
    have q3 := set4 q2.2.1 cp'
    exact own_oth (own_oth (own_oth (own_oth hv h.ub.blk (by decide)) q1.1 (by decide)) q2.2.1 (by decide)) q3.2.2.1 (by decide)
  exact ⟨put4_below h.bel (Nat.le_refl _) _ _ _ _, h.ub.put h1 h2 h3 n', h.mp.blk (hne _ _ _ _), ho h.op, ho h.og, h.ap⟩

set_option maxHeartbeats 8000000 in
set_option maxRecDepth 100000 in
theorem boardConserves_c (dep : Int) (v : Value) (n0 : Nat) (w : World) (hst : 0 ≤ dep ∧ dep ≤ 255) (h : RdA4 w v n0) (hl : n0 ≤ 9223372036854775807) :
    Calls Try.prog 21 #[.int .u8 dep, v] w fun e w' => e = .returned (.bool true) ∧ Below w.heap.size w w' := by
  obtain ⟨ao, ca, rfl, hca, hna, pa⟩ := h
  have HPA := Lib.hid pa
  have hst0 : 0 ≤ dep := hst.1
  have hst1 : dep ≤ 255 := hst.2
  have hN1 : 1 ≤ (1 + dep % 16) := by omega
  have hN2 : (1 + dep % 16) ≤ 16 := by omega
  clear pa hst
  go_enter Try.func21, Try.ntmps21
  have hmm := @run_makeMap Try.prog
  go_upto_region 4 with (fail)
  clear hmm
  obtain ⟨WX, hWX⟩ : ∃ WX, WX = (w.alloc (.cells #[.int .i64 (1 + dep % 16), .slice none 0 0, .slice none 0 0, .slice none 0 0] 125)).alloc (.map #[] 0) := ⟨_, rfl⟩
  rw [← hWX]
  have C0 : Hid (BC w WX (1 + dep % 16) 0 (.slice none 0 0) [] (.slice none 0 0) [] (.slice none 0 0) (.slice none 0 0) (.slice none 0 0) [] [] []) := by
    subst hWX
    have hm := MpW.made (w.alloc (.cells #[.int .i64 (1 + dep % 16), .slice none 0 0, .slice none 0 0, .slice none 0 0] 125))
    rw [heap_alloc_size] at hm
    exact ⟨((Below.refl _ w).alloc (Nat.le_refl _) _).alloc (by simp) _, (UB.new (B := 0) (TyB.nil _ _) (TyW.nil _ _) (TyW.nil _ _)).alloc _, hm, World.ownsRow_nil _ _ _ _, World.ownsRow_nil _ _ _ _, by intro b hb; cases hb⟩
  clear hWX
  go_cut [36, 37, 38] (fun s36 s37 s38 wx => ∃ n : Nat, s36 = .slice ao n ca ∧ s37 = .int .i64 n ∧ s38 = .int .i64 0 ∧ n ≤ 40 ∧ n ≤ n0 ∧ WX = wx)
  case first =>
    by_cases h10 : n0 ≤ 40
    · have hi : (n0 : Int) ≤ 40 := by omega
      go_wp2
      go_meet
      exact ⟨n0, rfl, rfl, rfl, h10, Nat.le_refl _, rfl⟩
    · have hi : ¬ (n0 : Int) ≤ 40 := by omega
      go_wp2
      go_meet
      exact ⟨40, rfl, rfl, rfl, Nat.le_refl _, by omega, rfl⟩
  case rest =>
    obtain ⟨n, rfl, rfl, rfl, hn1, hn2, rfl⟩ := hcut
    have hcell := fun k (hk : k < n) => HPA.out k (by omega)
    have HCELL := Lib.hid hcell
    clear HPA hcell
    go_wp2_with fail
    go_loopg [6, 7, 38] n (fun gg s6 s7 s38 wr => ∃ k : Nat, k ≤ n ∧ n - k ≤ gg ∧ s38 = .int .i64 k ∧ ∃ pa pm pc ga gm gc, s6 = .slice pa pm pc ∧ s7 = .slice ga gm gc ∧ Aside (∃ cd cp cg d p g pt gt, BC w wr (1 + dep % 16) k (.slice pa pm pc) pt (.slice ga gm gc) gt cd cp cg d p g ∧ vldBu (1 + dep % 16) d p g = true ∧ WfW p ∧ WfW g ∧ p.length ≤ k ∧ g.length ≤ k ∧ pt = gt ++ d ∧ pt.length ≤ k ∧ gt.length ≤ k))
    case atStart =>
      exact ⟨0, Nat.zero_le _, by omega, rfl, _, _, _, _, _, _, rfl, rfl, _, _, _, [], [], [], [], [], C0.out, vldBu_nil hN1 hN2, (by unfold WfW; simp), (by unfold WfW; simp), Nat.zero_le _, Nat.zero_le _, rfl, Nat.zero_le _, Nat.zero_le _⟩
    case round =>
      obtain ⟨k, hk, hg, rfl, pa, pm, pc, ga, gm, gc, rfl, rfl, A⟩ := hrel
      clear C0
      by_cases hlt : k < n
      · have hltz : (k : Int) < (n : Int) := by omega
        obtain ⟨cd, cp, cg, d, p, g, pt, gt, B0, hvl, hwp, hwg, hpl, hgl, hpt, hptl, hgtl⟩ := A.out
        clear A
        obtain ⟨b, off, x0, x1, x2, x3, rfl, hbs, c0, c1, c2, c3, hx0, hx1, hx2, hx3⟩ := HCELL.out k hlt
        rw [← B0.bel.cell (p := ⟨b, _, none⟩) hbs] at c0 c1 c2 c3
        have hbw : b < wr.heap.size := Nat.lt_of_lt_of_le hbs B0.bel.size
        have hx00 := hx0.1
        have hx01 := hx0.2
        have hx10 := hx1.1
        have hx11 := hx1.2
        have hx20 := hx2.1
        have hx21 := hx2.2
        have hx30 := hx3.1
        have hx31 := hx3.2
        clear hx0 hx1 hx2 hx3 hbs
        obtain ⟨da, dc, rfl⟩ : ∃ a c, cd = .slice a d.length c := Ty.shape B0.ub.td
        obtain ⟨qa, qc, rfl⟩ : ∃ a c, cp = .slice a p.length c := Ty.shape B0.ub.tp
        obtain ⟨ea, ec, rfl⟩ : ∃ a c, cg = .slice a g.length c := Ty.shape B0.ub.tg
        obtain ⟨u0, u1, u2, u3, _, _, _, _⟩ := fourBlk B0.ub.blk
        have ub := blk_lt B0.ub.blk
        obtain ⟨W1, hW1⟩ : ∃ W1, W1 = (wr.alloc (.cells #[.int .u8 x0, .int .u8 x1, .int .u8 x2, .int .u8 x3] 171)).alloc (.cells #[.int .i64 (1 + dep % 16), .slice da d.length dc, .slice qa p.length qc, .slice ea g.length ec] 125) := ⟨_, rfl⟩
        have B1 : Hid (BC w W1 (1 + dep % 16) k (.slice pa pm pc) pt (.slice ga gm gc) gt (.slice da d.length dc) (.slice qa p.length qc) (.slice ea g.length ec) d p g) := by subst hW1; exact (B0.alloc _).alloc _
        have X1 : Hid (W1.heap[wr.heap.size]? = some (.cells #[.int .u8 x0, .int .u8 x1, .int .u8 x2, .int .u8 x3] 171 (0, 0))) := by subst hW1; exact (Below.heap_alloc _ _ _ (by simp)).trans (heap_alloc_new wr _)
        have S1 : Hid (UB W1 (wr.heap.size + 1) (1 + dep % 16) (.slice da d.length dc) (.slice qa p.length qc) (.slice ea g.length ec) d p g) := by
          subst hW1
          have := UB.new (n := (1 + dep % 16)) (W := wr.alloc (.cells #[.int .u8 x0, .int .u8 x1, .int .u8 x2, .int .u8 x3] 171)) (Ty.alloc B0.ub.td _) (Ty.alloc B0.ub.tp _) (Ty.alloc B0.ub.tg _)
          rw [heap_alloc_size] at this
          exact this
        have HW1 := Lib.hid hW1
        have hd16 : d.length ≤ 16 := vldBu_d hvl
        have HV := Lib.hid hvl
        have HP := Lib.hid hwp
        have HG := Lib.hid hwg
        have HPT := Lib.hid hpt
        have HL : Hid (p.length ≤ k ∧ g.length ≤ k ∧ pt.length ≤ k ∧ gt.length ≤ k) := ⟨hpl, hgl, hptl, hgtl⟩
        have HLO := Lib.hid B1.out.low
        have hpl40 : p.length ≤ 40 := by omega
        have hgl40 : g.length ≤ 40 := by omega
        have hptl40 : pt.length ≤ 40 := by omega
        have hgtl40 : gt.length ≤ 40 := by omega
        have hq8 : 0 ≤ (x1 % 8) := by omega
        clear hW1 B0 hvl hwp hwg hpt hpl hgl hptl hgtl
        rcases (show x0 % 4 = 0 ∨ x0 % 4 = 3 ∨ (x0 % 4 ≠ 0 ∧ x0 % 4 ≠ 3) by omega) with hK | hK | hK
        · have hx4 : x0 % 4 = 0 := hK
          clear hK
          rcases put_ways x2 x3 HV.out hq8 with he | ⟨y, m, hd, hp, hgg, h0, he, hv'⟩ | ⟨hgg, hp, he, hv'⟩ | ⟨hgg, hnew, he, hv'⟩
          · have HE := Lib.hid he
            have HV' := Lib.hid HV.out
            have HW' : Hid (WfW p ∧ WfW g) := ⟨HP.out, HG.out⟩
            clear he
            have HL' : Hid (p.length ≤ k + 1 ∧ g.length ≤ k + 1 ∧ pt.length ≤ k + 1 ∧ gt.length ≤ k + 1) := by have := HL.out; exact ⟨by first | omega | (simp; omega) | (rw [enterW_length]; omega), by first | omega | (simp; omega) | (rw [enterW_length]; omega), by first | omega | (simp; omega), by first | omega | (simp; omega)⟩
            go_wp2_with fail
            rw [← HW1.out]
            have h1 := putBu_c (1 + dep % 16) (x1 % 8) x2 x3 _ _ _ d p g _ B1.out.ub.td.rd B1.out.ub.tp.rd B1.out.ub.tg.rd HP.out HG.out (by omega) (by omega) (by omega)
            rw [HE.out] at h1
            refine h1.mono ?_
            clear h1
            rintro e w2 ⟨vd2, vp2, vg2, rfl, td2, tp2, tg2, b2⟩
            obtain ⟨d2, dm2, c2', rfl⟩ := Ty.shape3 td2
            obtain ⟨p2, pm2, e2, rfl⟩ := Ty.shape3 tp2
            obtain ⟨g2, gm2, f2, rfl⟩ := Ty.shape3 tg2
            have HPM2 : Hid (pm2 = p.length) := by show _ = _; obtain ⟨_, _, hv, _⟩ := tp2; simp only [Value.slice.injEq] at hv; exact hv.2.1
            have R0 := Lib.hid (B1.out.call X1.out b2 td2 tp2 tg2)
            have S2 := Lib.hid ((S1.out.next b2).alloc (.cells #[.int .i64 (1 + dep % 16), .slice d2 dm2 c2', .slice p2 pm2 e2, .slice g2 gm2 f2] 125))
            obtain ⟨a0, a1, a2, a3, _, _, _, _⟩ := fourBlk ((b2.block _ (blk_lt X1.out)).trans X1.out)
            have ab := Nat.lt_of_lt_of_le (blk_lt X1.out) b2.size
            obtain ⟨s0, s1, s2, s3, _, _, _, _⟩ := fourBlk (S1.out.next b2).blk
            have sb := blk_lt (S1.out.next b2).blk
            obtain ⟨u0, u1, u2, u3, u4, u5, u6, u7⟩ := fourBlk (B1.out.next b2).ub.blk
            have ub2 := blk_lt (B1.out.next b2).ub.blk
            clear td2 tp2 tg2 b2 B1 X1 S1 HW1
            go_wp2_with fail
            refine (sameBu_c (1 + dep % 16) _ _ _ _ _ _ d p g _ (TyB.rd (B := W1.heap.size) R0.out.td) S2.out.td.rd R0.out.tp.rd S2.out.tp.rd R0.out.tg.rd S2.out.tg.rd (by omega) (by omega)).mono ?_
            rintro e w3 ⟨rfl, b3⟩
            have R1 := Lib.hid (R0.out.next b3)
            obtain ⟨va0, va1, va2, va3, _, _, _, _⟩ := fourBlk R1.out.act
            have vab := blk_lt R1.out.act
            obtain ⟨vc0, vc1, vc2, vc3, _, _, _, _⟩ := fourBlk R1.out.cvr
            have vcb := blk_lt R1.out.cvr
            obtain ⟨vu0, vu1, vu2, vu3, vu4, vu5, vu6, vu7⟩ := fourBlk R1.out.blk
            have vub := blk_lt R1.out.blk
            clear b3 R0 S2 a0 a1 a2 a3 ab s0 s1 s2 s3 sb u0 u1 u2 u3 u4 u5 u6 u7 ub2
            go_wp2_with fail
            have BT0 := Lib.hid R1.out.store
            refine (validBu_c (1 + dep % 16) _ _ _ d p g _ BT0.out.ub.td.rd BT0.out.ub.tp.rd BT0.out.ub.tg.rd HW'.out.1 HW'.out.2 (by have := HL'.out; omega) (by have := HL'.out; omega)).mono ?_
            rintro e wT ⟨rfl, bT⟩
            rw [HV'.out]
            have BT := Lib.hid ((BT0.out.next bT).mono (show k ≤ k + 1 by omega))
            obtain ⟨t0, t1, t2, t3, _, _, _, _⟩ := fourBlk (BT0.out.next bT).ub.blk
            have tb := blk_lt (BT0.out.next bT).ub.blk
            have hlen := (BT0.out.next bT).mp.len Try.underlying169
            rw [← HPM2.out] at hlen
            clear bT BT0
            go_wp2_with fail
            go_roundg (n - (k + 1))
            case measure => omega
            case rel =>
              refine ⟨k + 1, by omega, by omega, by go_num, _, _, _, _, _, _, rfl, rfl, _, _, _, d, p, g, pt, gt, BT.out, HV'.out, HW'.out.1, HW'.out.2, HL'.out.1, HL'.out.2.1, ?_, HL'.out.2.2.1, HL'.out.2.2.2⟩
              exact HPT.out
          · have HE := Lib.hid he
            have HV' := Lib.hid hv'
            have HGT := Lib.hid (HG.out.tail hgg)
            have HD := Lib.hid hd
            have HW' : Hid (WfW p ∧ WfW m) := ⟨HP.out, HGT.out.1⟩
            have hml : m.length + 1 ≤ g.length := len_tail (Nat.le_refl _) hgg
            clear he hv' hgg hp hd
            generalize y.proc = wk at HE h0
            have HL' : Hid (p.length ≤ k + 1 ∧ m.length ≤ k + 1 ∧ (pt ++ [x3]).length ≤ k + 1 ∧ (gt ++ [x3]).length ≤ k + 1) := by have := HL.out; exact ⟨by first | omega | (simp; omega) | (rw [enterW_length]; omega), by first | omega | (simp; omega) | (rw [enterW_length]; omega), by first | omega | (simp; omega), by first | omega | (simp; omega)⟩
            go_wp2_with fail
            rw [← HW1.out]
            have h1 := putBu_c (1 + dep % 16) (x1 % 8) x2 x3 _ _ _ d p g _ B1.out.ub.td.rd B1.out.ub.tp.rd B1.out.ub.tg.rd HP.out HG.out (by omega) (by omega) (by omega)
            rw [HE.out] at h1
            refine h1.mono ?_
            clear h1
            rintro e w2 ⟨vd2, vp2, vg2, rfl, td2, tp2, tg2, b2⟩
            obtain ⟨d2, dm2, c2', rfl⟩ := Ty.shape3 td2
            obtain ⟨p2, pm2, e2, rfl⟩ := Ty.shape3 tp2
            obtain ⟨g2, gm2, f2, rfl⟩ := Ty.shape3 tg2
            have HPM2 : Hid (pm2 = p.length) := by show _ = _; obtain ⟨_, _, hv, _⟩ := tp2; simp only [Value.slice.injEq] at hv; exact hv.2.1
            have R0 := Lib.hid (B1.out.call X1.out b2 td2 tp2 tg2)
            have S2 := Lib.hid ((S1.out.next b2).alloc (.cells #[.int .i64 (1 + dep % 16), .slice d2 dm2 c2', .slice p2 pm2 e2, .slice g2 gm2 f2] 125))
            obtain ⟨a0, a1, a2, a3, _, _, _, _⟩ := fourBlk ((b2.block _ (blk_lt X1.out)).trans X1.out)
            have ab := Nat.lt_of_lt_of_le (blk_lt X1.out) b2.size
            obtain ⟨s0, s1, s2, s3, _, _, _, _⟩ := fourBlk (S1.out.next b2).blk
            have sb := blk_lt (S1.out.next b2).blk
            obtain ⟨u0, u1, u2, u3, u4, u5, u6, u7⟩ := fourBlk (B1.out.next b2).ub.blk
            have ub2 := blk_lt (B1.out.next b2).ub.blk
            clear td2 tp2 tg2 b2 B1 X1 S1 HW1
            obtain ⟨Px, Py, Pw, Pr, Pq⟩ := R0.out.appPut (y := x3) (by omega) HLO.out.1 28
            rw [heap_alloc_size] at Pr
            have PR := Lib.hid Pr
            have P := Lib.hid Pq
            clear Pr Pq
            obtain ⟨Pa0, Pa1, Pa2, Pa3, _, _, _, _⟩ := fourBlk P.out.act
            have Pab := blk_lt P.out.act
            obtain ⟨Pc0, Pc1, Pc2, Pc3, _, _, _, _⟩ := fourBlk P.out.cvr
            have Pcb := blk_lt P.out.cvr
            obtain ⟨Pu0, Pu1, Pu2, Pu3, Pu4, Pu5, Pu6, Pu7⟩ := fourBlk P.out.blk
            have Pub := blk_lt P.out.blk
            obtain ⟨Gx, Gy, Gw, Gr, Gq⟩ := P.out.appGot (y := x3) (by omega) HLO.out.2 28
            have GR := Lib.hid Gr
            have G := Lib.hid Gq
            clear Gr Gq
            obtain ⟨Ga0, Ga1, Ga2, Ga3, _, _, _, _⟩ := fourBlk G.out.act
            have Gab := blk_lt G.out.act
            obtain ⟨Gc0, Gc1, Gc2, Gc3, _, _, _, _⟩ := fourBlk G.out.cvr
            have Gcb := blk_lt G.out.cvr
            obtain ⟨Gu0, Gu1, Gu2, Gu3, Gu4, Gu5, Gu6, Gu7⟩ := fourBlk G.out.blk
            have Gub := blk_lt G.out.blk
            go_wp2_with (first | (at_builtin; refine Lib.wpList_append_run (o := ⟨some 120, _, _, _, _, _⟩) _ rfl _ _ _ _ rfl _ _ rfl rfl _ _ PR.out ?_) | (at_builtin; refine Lib.wpList_append_run (o := ⟨some 137, _, _, _, _, _⟩) _ rfl _ _ _ _ rfl _ _ rfl rfl _ _ GR.out ?_))
            have BT0 := Lib.hid G.out.store
            refine (validBu_c (1 + dep % 16) _ _ _ d p m _ BT0.out.ub.td.rd BT0.out.ub.tp.rd BT0.out.ub.tg.rd HW'.out.1 HW'.out.2 (by have := HL'.out; omega) (by have := HL'.out; omega)).mono ?_
            rintro e wT ⟨rfl, bT⟩
            rw [HV'.out]
            have BT := Lib.hid ((BT0.out.next bT).mono (show k ≤ k + 1 by omega))
            obtain ⟨t0, t1, t2, t3, _, _, _, _⟩ := fourBlk (BT0.out.next bT).ub.blk
            have tb := blk_lt (BT0.out.next bT).ub.blk
            have hlen := (BT0.out.next bT).mp.len Try.underlying169
            rw [← HPM2.out] at hlen
            clear bT BT0
            go_wp2_with fail
            go_roundg (n - (k + 1))
            case measure => omega
            case rel =>
              refine ⟨k + 1, by omega, by omega, by go_num, _, _, _, _, _, _, rfl, rfl, _, _, _, d, p, m, (pt ++ [x3]), (gt ++ [x3]), BT.out, HV'.out, HW'.out.1, HW'.out.2, HL'.out.1, HL'.out.2.1, ?_, HL'.out.2.2.1, HL'.out.2.2.2⟩
              rw [HPT.out, HD.out]; simp
          · have HE := Lib.hid he
            have HV' := Lib.hid hv'
            have HW' : Hid (WfW p ∧ WfW g) := ⟨HP.out, HG.out⟩
            clear he hv' hgg hp
            have HL' : Hid (p.length ≤ k + 1 ∧ g.length ≤ k + 1 ∧ (pt ++ [x3]).length ≤ k + 1 ∧ gt.length ≤ k + 1) := by have := HL.out; exact ⟨by first | omega | (simp; omega) | (rw [enterW_length]; omega), by first | omega | (simp; omega) | (rw [enterW_length]; omega), by first | omega | (simp; omega), by first | omega | (simp; omega)⟩
            go_wp2_with fail
            rw [← HW1.out]
            have h1 := putBu_c (1 + dep % 16) (x1 % 8) x2 x3 _ _ _ d p g _ B1.out.ub.td.rd B1.out.ub.tp.rd B1.out.ub.tg.rd HP.out HG.out (by omega) (by omega) (by omega)
            rw [HE.out] at h1
            refine h1.mono ?_
            clear h1
            rintro e w2 ⟨vd2, vp2, vg2, rfl, td2, tp2, tg2, b2⟩
            obtain ⟨d2, dm2, c2', rfl⟩ := Ty.shape3 td2
            obtain ⟨p2, pm2, e2, rfl⟩ := Ty.shape3 tp2
            obtain ⟨g2, gm2, f2, rfl⟩ := Ty.shape3 tg2
            have HPM2 : Hid (pm2 = p.length) := by show _ = _; obtain ⟨_, _, hv, _⟩ := tp2; simp only [Value.slice.injEq] at hv; exact hv.2.1
            have R0 := Lib.hid (B1.out.call X1.out b2 td2 tp2 tg2)
            have S2 := Lib.hid ((S1.out.next b2).alloc (.cells #[.int .i64 (1 + dep % 16), .slice d2 dm2 c2', .slice p2 pm2 e2, .slice g2 gm2 f2] 125))
            obtain ⟨a0, a1, a2, a3, _, _, _, _⟩ := fourBlk ((b2.block _ (blk_lt X1.out)).trans X1.out)
            have ab := Nat.lt_of_lt_of_le (blk_lt X1.out) b2.size
            obtain ⟨s0, s1, s2, s3, _, _, _, _⟩ := fourBlk (S1.out.next b2).blk
            have sb := blk_lt (S1.out.next b2).blk
            obtain ⟨u0, u1, u2, u3, u4, u5, u6, u7⟩ := fourBlk (B1.out.next b2).ub.blk
            have ub2 := blk_lt (B1.out.next b2).ub.blk
            clear td2 tp2 tg2 b2 B1 X1 S1 HW1
            obtain ⟨Px, Py, Pw, Pr, Pq⟩ := R0.out.appPut (y := x3) (by omega) HLO.out.1 28
            rw [heap_alloc_size] at Pr
            have PR := Lib.hid Pr
            have P := Lib.hid Pq
            clear Pr Pq
            obtain ⟨Pa0, Pa1, Pa2, Pa3, _, _, _, _⟩ := fourBlk P.out.act
            have Pab := blk_lt P.out.act
            obtain ⟨Pc0, Pc1, Pc2, Pc3, _, _, _, _⟩ := fourBlk P.out.cvr
            have Pcb := blk_lt P.out.cvr
            obtain ⟨Pu0, Pu1, Pu2, Pu3, Pu4, Pu5, Pu6, Pu7⟩ := fourBlk P.out.blk
            have Pub := blk_lt P.out.blk
            go_wp2_with (first | (at_builtin; refine Lib.wpList_append_run (o := ⟨some 120, _, _, _, _, _⟩) _ rfl _ _ _ _ rfl _ _ rfl rfl _ _ PR.out ?_))
            have BT0 := Lib.hid P.out.store
            refine (validBu_c (1 + dep % 16) _ _ _ (d ++ [x3]) p g _ BT0.out.ub.td.rd BT0.out.ub.tp.rd BT0.out.ub.tg.rd HW'.out.1 HW'.out.2 (by have := HL'.out; omega) (by have := HL'.out; omega)).mono ?_
            rintro e wT ⟨rfl, bT⟩
            rw [HV'.out]
            have BT := Lib.hid ((BT0.out.next bT).mono (show k ≤ k + 1 by omega))
            obtain ⟨t0, t1, t2, t3, _, _, _, _⟩ := fourBlk (BT0.out.next bT).ub.blk
            have tb := blk_lt (BT0.out.next bT).ub.blk
            have hlen := (BT0.out.next bT).mp.len Try.underlying169
            rw [← HPM2.out] at hlen
            clear bT BT0
            go_wp2_with fail
            go_roundg (n - (k + 1))
            case measure => omega
            case rel =>
              refine ⟨k + 1, by omega, by omega, by go_num, _, _, _, _, _, _, rfl, rfl, _, _, _, (d ++ [x3]), p, g, (pt ++ [x3]), gt, BT.out, HV'.out, HW'.out.1, HW'.out.2, HL'.out.1, HL'.out.2.1, ?_, HL'.out.2.2.1, HL'.out.2.2.2⟩
              rw [HPT.out]; simp
          · have HE := Lib.hid he
            have HV' := Lib.hid hv'
            have HNEW := Lib.hid hnew
            have HW' : Hid (WfW (enterW p ⟨(x1 % 8), x2, x3⟩) ∧ WfW g) := ⟨HP.out.enter (wf8 x1), HG.out⟩
            clear he hv' hgg hnew
            have HL' : Hid ((enterW p ⟨(x1 % 8), x2, x3⟩).length ≤ k + 1 ∧ g.length ≤ k + 1 ∧ pt.length ≤ k + 1 ∧ gt.length ≤ k + 1) := by have := HL.out; exact ⟨by first | omega | (simp; omega) | (rw [enterW_length]; omega), by first | omega | (simp; omega) | (rw [enterW_length]; omega), by first | omega | (simp; omega), by first | omega | (simp; omega)⟩
            go_wp2_with fail
            rw [← HW1.out]
            have h1 := putBu_c (1 + dep % 16) (x1 % 8) x2 x3 _ _ _ d p g _ B1.out.ub.td.rd B1.out.ub.tp.rd B1.out.ub.tg.rd HP.out HG.out (by omega) (by omega) (by omega)
            rw [HE.out] at h1
            refine h1.mono ?_
            clear h1
            rintro e w2 ⟨vd2, vp2, vg2, rfl, td2, tp2, tg2, b2⟩
            obtain ⟨d2, dm2, c2', rfl⟩ := Ty.shape3 td2
            obtain ⟨p2, pm2, e2, rfl⟩ := Ty.shape3 tp2
            obtain ⟨g2, gm2, f2, rfl⟩ := Ty.shape3 tg2
            have HPM2 : Hid (pm2 = (enterW p ⟨(x1 % 8), x2, x3⟩).length) := by show _ = _; obtain ⟨_, _, hv, _⟩ := tp2; simp only [Value.slice.injEq] at hv; exact hv.2.1
            have R0 := Lib.hid (B1.out.call X1.out b2 td2 tp2 tg2)
            have S2 := Lib.hid ((S1.out.next b2).alloc (.cells #[.int .i64 (1 + dep % 16), .slice d2 dm2 c2', .slice p2 pm2 e2, .slice g2 gm2 f2] 125))
            obtain ⟨a0, a1, a2, a3, _, _, _, _⟩ := fourBlk ((b2.block _ (blk_lt X1.out)).trans X1.out)
            have ab := Nat.lt_of_lt_of_le (blk_lt X1.out) b2.size
            obtain ⟨s0, s1, s2, s3, _, _, _, _⟩ := fourBlk (S1.out.next b2).blk
            have sb := blk_lt (S1.out.next b2).blk
            obtain ⟨u0, u1, u2, u3, u4, u5, u6, u7⟩ := fourBlk (B1.out.next b2).ub.blk
            have ub2 := blk_lt (B1.out.next b2).ub.blk
            clear td2 tp2 tg2 b2 B1 X1 S1 HW1
            go_wp2_with (at_mapUpdate; refine wpList_brEnter R0.out (by omega) ⟨(x1 % 8), x2, x3⟩ HNEW.out (wf8 x1) (wfU hx30 hx31) rfl _ _ _ rfl rfl rfl rfl ?_; intro w3 mq; have R1 := Lib.hid mq; obtain ⟨va0, va1, va2, va3, _, _, _, _⟩ := fourBlk R1.out.act; have vab := blk_lt R1.out.act; obtain ⟨vc0, vc1, vc2, vc3, _, _, _, _⟩ := fourBlk R1.out.cvr; have vcb := blk_lt R1.out.cvr; obtain ⟨vu0, vu1, vu2, vu3, vu4, vu5, vu6, vu7⟩ := fourBlk R1.out.blk; have vub := blk_lt R1.out.blk; clear mq)
            have BT0 := Lib.hid R1.out.store
            refine (validBu_c (1 + dep % 16) _ _ _ d (enterW p ⟨(x1 % 8), x2, x3⟩) g _ BT0.out.ub.td.rd BT0.out.ub.tp.rd BT0.out.ub.tg.rd HW'.out.1 HW'.out.2 (by have := HL'.out; omega) (by have := HL'.out; omega)).mono ?_
            rintro e wT ⟨rfl, bT⟩
            rw [HV'.out]
            have BT := Lib.hid ((BT0.out.next bT).mono (show k + 1 ≤ k + 1 by omega))
            obtain ⟨t0, t1, t2, t3, _, _, _, _⟩ := fourBlk (BT0.out.next bT).ub.blk
            have tb := blk_lt (BT0.out.next bT).ub.blk
            have hlen := (BT0.out.next bT).mp.len Try.underlying169
            rw [← HPM2.out] at hlen
            clear bT BT0
            go_wp2_with fail
            go_roundg (n - (k + 1))
            case measure => omega
            case rel =>
              refine ⟨k + 1, by omega, by omega, by go_num, _, _, _, _, _, _, rfl, rfl, _, _, _, d, (enterW p ⟨(x1 % 8), x2, x3⟩), g, pt, gt, BT.out, HV'.out, HW'.out.1, HW'.out.2, HL'.out.1, HL'.out.2.1, ?_, HL'.out.2.2.1, HL'.out.2.2.2⟩
              exact HPT.out
        · have hx4 : x0 % 4 = 3 := hK
          clear hK
          obtain ⟨he, hv'⟩ := canc_ways (x1 % 8) HV.out
          have HE := Lib.hid he
          have HV' := Lib.hid hv'
          have HOR : Hid (OrdW p) := (vldBu_iff.1 HV.out).2.2.2.1
          have HW' : Hid (WfW (leaveW p (x1 % 8)) ∧ WfW (leaveW g (x1 % 8))) := ⟨HP.out.leave _, HG.out.leave _⟩
          have hlp := leave_length p (x1 % 8)
          have hlg := leave_length g (x1 % 8)
          clear he hv'
          have HL' : Hid ((leaveW p (x1 % 8)).length ≤ k + 1 ∧ (leaveW g (x1 % 8)).length ≤ k + 1 ∧ pt.length ≤ k + 1 ∧ gt.length ≤ k + 1) := by have := HL.out; exact ⟨by first | omega | (simp; omega) | (rw [enterW_length]; omega), by first | omega | (simp; omega) | (rw [enterW_length]; omega), by first | omega | (simp; omega), by first | omega | (simp; omega)⟩
          go_wp2_with fail
          rw [← HW1.out]
          have h1 := cancBu_c (1 + dep % 16) (x1 % 8) _ _ _ d p g _ B1.out.ub.td.rd B1.out.ub.tp.rd B1.out.ub.tg.rd HP.out HG.out (by omega) (by omega) (by omega)
          rw [HE.out] at h1
          refine h1.mono ?_
          clear h1
          rintro e w2 ⟨vd2, vp2, vg2, rfl, td2, tp2, tg2, b2⟩
          obtain ⟨d2, dm2, c2', rfl⟩ := Ty.shape3 td2
          obtain ⟨p2, pm2, e2, rfl⟩ := Ty.shape3 tp2
          obtain ⟨g2, gm2, f2, rfl⟩ := Ty.shape3 tg2
          have HPM2 : Hid (pm2 = (leaveW p (x1 % 8)).length) := by show _ = _; obtain ⟨_, _, hv, _⟩ := tp2; simp only [Value.slice.injEq] at hv; exact hv.2.1
          have R0 := Lib.hid (B1.out.call X1.out b2 td2 tp2 tg2)
          have S2 := Lib.hid ((S1.out.next b2).alloc (.cells #[.int .i64 (1 + dep % 16), .slice d2 dm2 c2', .slice p2 pm2 e2, .slice g2 gm2 f2] 125))
          obtain ⟨a0, a1, a2, a3, _, _, _, _⟩ := fourBlk ((b2.block _ (blk_lt X1.out)).trans X1.out)
          have ab := Nat.lt_of_lt_of_le (blk_lt X1.out) b2.size
          obtain ⟨s0, s1, s2, s3, _, _, _, _⟩ := fourBlk (S1.out.next b2).blk
          have sb := blk_lt (S1.out.next b2).blk
          obtain ⟨u0, u1, u2, u3, u4, u5, u6, u7⟩ := fourBlk (B1.out.next b2).ub.blk
          have ub2 := blk_lt (B1.out.next b2).ub.blk
          clear td2 tp2 tg2 b2 B1 X1 S1 HW1
          go_wp2_with (at_delete; refine wpList_brLeave R0.out HOR.out (x1 % 8) (wf8 x1) rfl _ _ rfl rfl rfl ?_; intro w3 mq; have R1 := Lib.hid mq; obtain ⟨va0, va1, va2, va3, _, _, _, _⟩ := fourBlk R1.out.act; have vab := blk_lt R1.out.act; obtain ⟨vc0, vc1, vc2, vc3, _, _, _, _⟩ := fourBlk R1.out.cvr; have vcb := blk_lt R1.out.cvr; obtain ⟨vu0, vu1, vu2, vu3, vu4, vu5, vu6, vu7⟩ := fourBlk R1.out.blk; have vub := blk_lt R1.out.blk; clear mq)
          have BT0 := Lib.hid R1.out.store
          refine (validBu_c (1 + dep % 16) _ _ _ d (leaveW p (x1 % 8)) (leaveW g (x1 % 8)) _ BT0.out.ub.td.rd BT0.out.ub.tp.rd BT0.out.ub.tg.rd HW'.out.1 HW'.out.2 (by have := HL'.out; omega) (by have := HL'.out; omega)).mono ?_
          rintro e wT ⟨rfl, bT⟩
          rw [HV'.out]
          have BT := Lib.hid ((BT0.out.next bT).mono (show k ≤ k + 1 by omega))
          obtain ⟨t0, t1, t2, t3, _, _, _, _⟩ := fourBlk (BT0.out.next bT).ub.blk
          have tb := blk_lt (BT0.out.next bT).ub.blk
          have hlen := (BT0.out.next bT).mp.len Try.underlying169
          rw [← HPM2.out] at hlen
          clear bT BT0
          go_wp2_with fail
          go_roundg (n - (k + 1))
          case measure => omega
          case rel =>
            refine ⟨k + 1, by omega, by omega, by go_num, _, _, _, _, _, _, rfl, rfl, _, _, _, d, (leaveW p (x1 % 8)), (leaveW g (x1 % 8)), pt, gt, BT.out, HV'.out, HW'.out.1, HW'.out.2, HL'.out.1, HL'.out.2.1, ?_, HL'.out.2.2.1, HL'.out.2.2.2⟩
            exact HPT.out
        · have hx4 : (x0 % 4 == 0) = false := by simp; omega
          have hx5 : (x0 % 4 == 3) = false := by simp; omega
          clear hK
          rcases get_ways x2 HV.out hq8 with he | ⟨hd, hp, he, hv'⟩ | ⟨y, t, x, m, hd, hp, h0, he, hv'⟩ | ⟨y, t, hd, hp, he, hv'⟩
          · have HE := Lib.hid he
            have HV' := Lib.hid HV.out
            have HW' : Hid (WfW p ∧ WfW g) := ⟨HP.out, HG.out⟩
            clear he
            have HL' : Hid (p.length ≤ k + 1 ∧ g.length ≤ k + 1 ∧ pt.length ≤ k + 1 ∧ gt.length ≤ k + 1) := by have := HL.out; exact ⟨by first | omega | (simp; omega) | (rw [enterW_length]; omega), by first | omega | (simp; omega) | (rw [enterW_length]; omega), by first | omega | (simp; omega), by first | omega | (simp; omega)⟩
            go_wp2_with fail
            rw [← HW1.out]
            have h1 := getBu_c (1 + dep % 16) (x1 % 8) x2 _ _ _ d p g _ B1.out.ub.td.rd B1.out.ub.tp.rd B1.out.ub.tg.rd HP.out HG.out (by omega) (by omega) (by omega)
            rw [HE.out] at h1
            refine h1.mono ?_
            clear h1
            rintro e w2 ⟨vd2, vp2, vg2, rfl, td2, tp2, tg2, b2⟩
            obtain ⟨d2, dm2, c2', rfl⟩ := Ty.shape3 td2
            obtain ⟨p2, pm2, e2, rfl⟩ := Ty.shape3 tp2
            obtain ⟨g2, gm2, f2, rfl⟩ := Ty.shape3 tg2
            have HPM2 : Hid (pm2 = p.length) := by show _ = _; obtain ⟨_, _, hv, _⟩ := tp2; simp only [Value.slice.injEq] at hv; exact hv.2.1
            have R0 := Lib.hid (B1.out.call X1.out b2 td2 tp2 tg2)
            have S2 := Lib.hid ((S1.out.next b2).alloc (.cells #[.int .i64 (1 + dep % 16), .slice d2 dm2 c2', .slice p2 pm2 e2, .slice g2 gm2 f2] 125))
            obtain ⟨a0, a1, a2, a3, _, _, _, _⟩ := fourBlk ((b2.block _ (blk_lt X1.out)).trans X1.out)
            have ab := Nat.lt_of_lt_of_le (blk_lt X1.out) b2.size
            obtain ⟨s0, s1, s2, s3, _, _, _, _⟩ := fourBlk (S1.out.next b2).blk
            have sb := blk_lt (S1.out.next b2).blk
            obtain ⟨u0, u1, u2, u3, u4, u5, u6, u7⟩ := fourBlk (B1.out.next b2).ub.blk
            have ub2 := blk_lt (B1.out.next b2).ub.blk
            clear td2 tp2 tg2 b2 B1 X1 S1 HW1
            go_wp2_with fail
            refine (sameBu_c (1 + dep % 16) _ _ _ _ _ _ d p g _ (TyB.rd (B := W1.heap.size) R0.out.td) S2.out.td.rd R0.out.tp.rd S2.out.tp.rd R0.out.tg.rd S2.out.tg.rd (by omega) (by omega)).mono ?_
            rintro e w3 ⟨rfl, b3⟩
            have R1 := Lib.hid (R0.out.next b3)
            obtain ⟨va0, va1, va2, va3, _, _, _, _⟩ := fourBlk R1.out.act
            have vab := blk_lt R1.out.act
            obtain ⟨vc0, vc1, vc2, vc3, _, _, _, _⟩ := fourBlk R1.out.cvr
            have vcb := blk_lt R1.out.cvr
            obtain ⟨vu0, vu1, vu2, vu3, vu4, vu5, vu6, vu7⟩ := fourBlk R1.out.blk
            have vub := blk_lt R1.out.blk
            clear b3 R0 S2 a0 a1 a2 a3 ab s0 s1 s2 s3 sb u0 u1 u2 u3 u4 u5 u6 u7 ub2
            go_wp2_with fail
            have BT0 := Lib.hid R1.out.store
            refine (validBu_c (1 + dep % 16) _ _ _ d p g _ BT0.out.ub.td.rd BT0.out.ub.tp.rd BT0.out.ub.tg.rd HW'.out.1 HW'.out.2 (by have := HL'.out; omega) (by have := HL'.out; omega)).mono ?_
            rintro e wT ⟨rfl, bT⟩
            rw [HV'.out]
            have BT := Lib.hid ((BT0.out.next bT).mono (show k ≤ k + 1 by omega))
            obtain ⟨t0, t1, t2, t3, _, _, _, _⟩ := fourBlk (BT0.out.next bT).ub.blk
            have tb := blk_lt (BT0.out.next bT).ub.blk
            have hlen := (BT0.out.next bT).mp.len Try.underlying169
            rw [← HPM2.out] at hlen
            clear bT BT0
            go_wp2_with fail
            go_roundg (n - (k + 1))
            case measure => omega
            case rel =>
              refine ⟨k + 1, by omega, by omega, by go_num, _, _, _, _, _, _, rfl, rfl, _, _, _, d, p, g, pt, gt, BT.out, HV'.out, HW'.out.1, HW'.out.2, HL'.out.1, HL'.out.2.1, ?_, HL'.out.2.2.1, HL'.out.2.2.2⟩
              exact HPT.out
          · have HE := Lib.hid he
            have HV' := Lib.hid hv'
            have HW' : Hid (WfW p ∧ WfW (enterW g ⟨(x1 % 8), x2, 0⟩)) := ⟨HP.out, HG.out.enter (wf8 x1)⟩
            clear he hv' hd hp
            have HL' : Hid (p.length ≤ k + 1 ∧ (enterW g ⟨(x1 % 8), x2, 0⟩).length ≤ k + 1 ∧ pt.length ≤ k + 1 ∧ gt.length ≤ k + 1) := by have := HL.out; exact ⟨by first | omega | (simp; omega) | (rw [enterW_length]; omega), by first | omega | (simp; omega) | (rw [enterW_length]; omega), by first | omega | (simp; omega), by first | omega | (simp; omega)⟩
            go_wp2_with fail
            rw [← HW1.out]
            have h1 := getBu_c (1 + dep % 16) (x1 % 8) x2 _ _ _ d p g _ B1.out.ub.td.rd B1.out.ub.tp.rd B1.out.ub.tg.rd HP.out HG.out (by omega) (by omega) (by omega)
            rw [HE.out] at h1
            refine h1.mono ?_
            clear h1
            rintro e w2 ⟨vd2, vp2, vg2, rfl, td2, tp2, tg2, b2⟩
            obtain ⟨d2, dm2, c2', rfl⟩ := Ty.shape3 td2
            obtain ⟨p2, pm2, e2, rfl⟩ := Ty.shape3 tp2
            obtain ⟨g2, gm2, f2, rfl⟩ := Ty.shape3 tg2
            have HPM2 : Hid (pm2 = p.length) := by show _ = _; obtain ⟨_, _, hv, _⟩ := tp2; simp only [Value.slice.injEq] at hv; exact hv.2.1
            have BP := Lib.hid (((B1.out.next b2).put (n' := (1 + dep % 16)) td2 tp2 tg2).alloc (.cells #[.int .i64 (1 + dep % 16), .slice d2 dm2 c2', .slice p2 pm2 e2, .slice g2 gm2 f2] 125))
            have S2 := Lib.hid ((S1.out.next b2).alloc (.cells #[.int .i64 (1 + dep % 16), .slice d2 dm2 c2', .slice p2 pm2 e2, .slice g2 gm2 f2] 125))
            obtain ⟨a0, a1, a2, a3, _, _, _, _⟩ := fourBlk ((b2.block _ (blk_lt X1.out)).trans X1.out)
            have ab := Nat.lt_of_lt_of_le (blk_lt X1.out) b2.size
            obtain ⟨s0, s1, s2, s3, _, _, _, _⟩ := fourBlk (S1.out.next b2).blk
            have sb := blk_lt (S1.out.next b2).blk
            obtain ⟨u0, u1, u2, u3, u4, u5, u6, u7⟩ := fourBlk (B1.out.next b2).ub.blk
            have ub2 := blk_lt (B1.out.next b2).ub.blk
            clear td2 tp2 tg2 b2 B1 X1 S1 HW1
            go_wp2_with fail
            have BT0 := Lib.hid BP.out
            refine (validBu_c (1 + dep % 16) _ _ _ d p (enterW g ⟨(x1 % 8), x2, 0⟩) _ BT0.out.ub.td.rd BT0.out.ub.tp.rd BT0.out.ub.tg.rd HW'.out.1 HW'.out.2 (by have := HL'.out; omega) (by have := HL'.out; omega)).mono ?_
            rintro e wT ⟨rfl, bT⟩
            rw [HV'.out]
            have BT := Lib.hid ((BT0.out.next bT).mono (show k ≤ k + 1 by omega))
            obtain ⟨t0, t1, t2, t3, _, _, _, _⟩ := fourBlk (BT0.out.next bT).ub.blk
            have tb := blk_lt (BT0.out.next bT).ub.blk
            have hlen := (BT0.out.next bT).mp.len Try.underlying169
            rw [← HPM2.out] at hlen
            clear bT BT0
            go_wp2_with fail
            go_roundg (n - (k + 1))
            case measure => omega
            case rel =>
              refine ⟨k + 1, by omega, by omega, by go_num, _, _, _, _, _, _, rfl, rfl, _, _, _, d, p, (enterW g ⟨(x1 % 8), x2, 0⟩), pt, gt, BT.out, HV'.out, HW'.out.1, HW'.out.2, HL'.out.1, HL'.out.2.1, ?_, HL'.out.2.2.1, HL'.out.2.2.2⟩
              exact HPT.out
          · have HE := Lib.hid he
            have HV' := Lib.hid hv'
            have HX := Lib.hid (HP.out.tail hp)
            have HXW := Lib.hid HX.out.2
            have HD := Lib.hid hd
            have HPM := Lib.hid hp
            have HOR : Hid (OrdW p) := (vldBu_iff.1 HV.out).2.2.2.1
            have HLV : Hid (leaveW p x.proc = m) := by show _ = _; have ho := HOR.out; rw [hp] at ho ⊢; exact leave_head ho
            have HMEM : Hid (x ∈ p) := by show _ ∈ _; rw [hp]; simp
            have HW' : Hid (WfW m ∧ WfW g) := ⟨HX.out.1, HG.out⟩
            have hml : m.length + 1 ≤ p.length := len_tail (Nat.le_refl _) hp
            have HLOOK : Hid (∀ W b m, MpW W b m p → (Instr.lookup 169 (.map (some b)) (.int .i64 x.proc) true).run Try.prog W = .ok (.tuple #[.int .u8 x.val, .bool true]) W) := fun W b m hh => hh.look Try.underlying169 HMEM.out HX.out.2
            clear he hv' hp hd HX HPM HMEM
            generalize x.proc = xp at *
            generalize x.val = xv at *
            have HL' : Hid (m.length ≤ k + 1 ∧ g.length ≤ k + 1 ∧ (pt ++ [xv]).length ≤ k + 1 ∧ (gt ++ [y]).length ≤ k + 1) := by have := HL.out; exact ⟨by first | omega | (simp; omega) | (rw [enterW_length]; omega), by first | omega | (simp; omega) | (rw [enterW_length]; omega), by first | omega | (simp; omega), by first | omega | (simp; omega)⟩
            go_wp2_with fail
            rw [← HW1.out]
            have h1 := getBu_c (1 + dep % 16) (x1 % 8) x2 _ _ _ d p g _ B1.out.ub.td.rd B1.out.ub.tp.rd B1.out.ub.tg.rd HP.out HG.out (by omega) (by omega) (by omega)
            rw [HE.out] at h1
            refine h1.mono ?_
            clear h1
            rintro e w2 ⟨vd2, vp2, vg2, rfl, td2, tp2, tg2, b2⟩
            obtain ⟨d2, dm2, c2', rfl⟩ := Ty.shape3 td2
            obtain ⟨p2, pm2, e2, rfl⟩ := Ty.shape3 tp2
            obtain ⟨g2, gm2, f2, rfl⟩ := Ty.shape3 tg2
            have HPM2 : Hid (pm2 = m.length) := by show _ = _; obtain ⟨_, _, hv, _⟩ := tp2; simp only [Value.slice.injEq] at hv; exact hv.2.1
            have R0 := Lib.hid (B1.out.call X1.out b2 td2 tp2 tg2)
            have S2 := Lib.hid ((S1.out.next b2).alloc (.cells #[.int .i64 (1 + dep % 16), .slice d2 dm2 c2', .slice p2 pm2 e2, .slice g2 gm2 f2] 125))
            obtain ⟨a0, a1, a2, a3, _, _, _, _⟩ := fourBlk ((b2.block _ (blk_lt X1.out)).trans X1.out)
            have ab := Nat.lt_of_lt_of_le (blk_lt X1.out) b2.size
            obtain ⟨s0, s1, s2, s3, _, _, _, _⟩ := fourBlk (S1.out.next b2).blk
            have sb := blk_lt (S1.out.next b2).blk
            obtain ⟨u0, u1, u2, u3, u4, u5, u6, u7⟩ := fourBlk (B1.out.next b2).ub.blk
            have ub2 := blk_lt (B1.out.next b2).ub.blk
            clear td2 tp2 tg2 b2 B1 X1 S1 HW1
            obtain ⟨Gx, Gy, Gw, Gr, Gq⟩ := R0.out.appGot (y := y) (by omega) HLO.out.2 28
            rw [heap_alloc_size] at Gr
            have GR := Lib.hid Gr
            have G := Lib.hid Gq
            clear Gr Gq
            obtain ⟨Ga0, Ga1, Ga2, Ga3, _, _, _, _⟩ := fourBlk G.out.act
            have Gab := blk_lt G.out.act
            obtain ⟨Gc0, Gc1, Gc2, Gc3, _, _, _, _⟩ := fourBlk G.out.cvr
            have Gcb := blk_lt G.out.cvr
            obtain ⟨Gu0, Gu1, Gu2, Gu3, Gu4, Gu5, Gu6, Gu7⟩ := fourBlk G.out.blk
            have Gub := blk_lt G.out.blk
            have hlk := HLOOK.out _ _ _ G.out.mp
            obtain ⟨Px, Py, Pw, Pr, Pq⟩ := G.out.appPut (y := xv) (by omega) HLO.out.1 28
            have PR := Lib.hid Pr
            have P := Lib.hid Pq
            clear Pr Pq
            obtain ⟨Pa0, Pa1, Pa2, Pa3, _, _, _, _⟩ := fourBlk P.out.act
            have Pab := blk_lt P.out.act
            obtain ⟨Pc0, Pc1, Pc2, Pc3, _, _, _, _⟩ := fourBlk P.out.cvr
            have Pcb := blk_lt P.out.cvr
            obtain ⟨Pu0, Pu1, Pu2, Pu3, Pu4, Pu5, Pu6, Pu7⟩ := fourBlk P.out.blk
            have Pub := blk_lt P.out.blk
            go_wp2_with (first | (at_builtin; refine Lib.wpList_append_run (o := ⟨some 70, _, _, _, _, _⟩) _ rfl _ _ _ _ rfl _ _ rfl rfl _ _ GR.out ?_) | (at_builtin; refine Lib.wpList_append_run (o := ⟨some 84, _, _, _, _, _⟩) _ rfl _ _ _ _ rfl _ _ rfl rfl _ _ PR.out ?_) | (at_delete; refine wpList_brLeave P.out HOR.out xp HXW.out rfl _ _ rfl rfl rfl ?_; intro w3 mq; rw [HLV.out] at mq; have R1 := Lib.hid mq; obtain ⟨va0, va1, va2, va3, _, _, _, _⟩ := fourBlk R1.out.act; have vab := blk_lt R1.out.act; obtain ⟨vc0, vc1, vc2, vc3, _, _, _, _⟩ := fourBlk R1.out.cvr; have vcb := blk_lt R1.out.cvr; obtain ⟨vu0, vu1, vu2, vu3, vu4, vu5, vu6, vu7⟩ := fourBlk R1.out.blk; have vub := blk_lt R1.out.blk; clear mq))
            have BT0 := Lib.hid R1.out.store
            refine (validBu_c (1 + dep % 16) _ _ _ (t ++ [xv]) m g _ BT0.out.ub.td.rd BT0.out.ub.tp.rd BT0.out.ub.tg.rd HW'.out.1 HW'.out.2 (by have := HL'.out; omega) (by have := HL'.out; omega)).mono ?_
            rintro e wT ⟨rfl, bT⟩
            rw [HV'.out]
            have BT := Lib.hid ((BT0.out.next bT).mono (show k ≤ k + 1 by omega))
            obtain ⟨t0, t1, t2, t3, _, _, _, _⟩ := fourBlk (BT0.out.next bT).ub.blk
            have tb := blk_lt (BT0.out.next bT).ub.blk
            have hlen := (BT0.out.next bT).mp.len Try.underlying169
            rw [← HPM2.out] at hlen
            clear bT BT0
            go_wp2_with fail
            go_roundg (n - (k + 1))
            case measure => omega
            case rel =>
              refine ⟨k + 1, by omega, by omega, by go_num, _, _, _, _, _, _, rfl, rfl, _, _, _, (t ++ [xv]), m, g, (pt ++ [xv]), (gt ++ [y]), BT.out, HV'.out, HW'.out.1, HW'.out.2, HL'.out.1, HL'.out.2.1, ?_, HL'.out.2.2.1, HL'.out.2.2.2⟩
              rw [HPT.out, HD.out]; simp
          · have HE := Lib.hid he
            have HV' := Lib.hid hv'
            have HD := Lib.hid hd
            have HW' : Hid (WfW p ∧ WfW g) := ⟨HP.out, HG.out⟩
            clear he hv' hd hp
            have HL' : Hid (p.length ≤ k + 1 ∧ g.length ≤ k + 1 ∧ pt.length ≤ k + 1 ∧ (gt ++ [y]).length ≤ k + 1) := by have := HL.out; exact ⟨by first | omega | (simp; omega) | (rw [enterW_length]; omega), by first | omega | (simp; omega) | (rw [enterW_length]; omega), by first | omega | (simp; omega), by first | omega | (simp; omega)⟩
            go_wp2_with fail
            rw [← HW1.out]
            have h1 := getBu_c (1 + dep % 16) (x1 % 8) x2 _ _ _ d p g _ B1.out.ub.td.rd B1.out.ub.tp.rd B1.out.ub.tg.rd HP.out HG.out (by omega) (by omega) (by omega)
            rw [HE.out] at h1
            refine h1.mono ?_
            clear h1
            rintro e w2 ⟨vd2, vp2, vg2, rfl, td2, tp2, tg2, b2⟩
            obtain ⟨d2, dm2, c2', rfl⟩ := Ty.shape3 td2
            obtain ⟨p2, pm2, e2, rfl⟩ := Ty.shape3 tp2
            obtain ⟨g2, gm2, f2, rfl⟩ := Ty.shape3 tg2
            have HPM2 : Hid (pm2 = p.length) := by show _ = _; obtain ⟨_, _, hv, _⟩ := tp2; simp only [Value.slice.injEq] at hv; exact hv.2.1
            have R0 := Lib.hid (B1.out.call X1.out b2 td2 tp2 tg2)
            have S2 := Lib.hid ((S1.out.next b2).alloc (.cells #[.int .i64 (1 + dep % 16), .slice d2 dm2 c2', .slice p2 pm2 e2, .slice g2 gm2 f2] 125))
            obtain ⟨a0, a1, a2, a3, _, _, _, _⟩ := fourBlk ((b2.block _ (blk_lt X1.out)).trans X1.out)
            have ab := Nat.lt_of_lt_of_le (blk_lt X1.out) b2.size
            obtain ⟨s0, s1, s2, s3, _, _, _, _⟩ := fourBlk (S1.out.next b2).blk
            have sb := blk_lt (S1.out.next b2).blk
            obtain ⟨u0, u1, u2, u3, u4, u5, u6, u7⟩ := fourBlk (B1.out.next b2).ub.blk
            have ub2 := blk_lt (B1.out.next b2).ub.blk
            clear td2 tp2 tg2 b2 B1 X1 S1 HW1
            obtain ⟨Gx, Gy, Gw, Gr, Gq⟩ := R0.out.appGot (y := y) (by omega) HLO.out.2 28
            rw [heap_alloc_size] at Gr
            have GR := Lib.hid Gr
            have G := Lib.hid Gq
            clear Gr Gq
            obtain ⟨Ga0, Ga1, Ga2, Ga3, _, _, _, _⟩ := fourBlk G.out.act
            have Gab := blk_lt G.out.act
            obtain ⟨Gc0, Gc1, Gc2, Gc3, _, _, _, _⟩ := fourBlk G.out.cvr
            have Gcb := blk_lt G.out.cvr
            obtain ⟨Gu0, Gu1, Gu2, Gu3, Gu4, Gu5, Gu6, Gu7⟩ := fourBlk G.out.blk
            have Gub := blk_lt G.out.blk
            go_wp2_with (first | (at_builtin; refine Lib.wpList_append_run (o := ⟨some 70, _, _, _, _, _⟩) _ rfl _ _ _ _ rfl _ _ rfl rfl _ _ GR.out ?_))
            have BT0 := Lib.hid G.out.store
            refine (validBu_c (1 + dep % 16) _ _ _ t p g _ BT0.out.ub.td.rd BT0.out.ub.tp.rd BT0.out.ub.tg.rd HW'.out.1 HW'.out.2 (by have := HL'.out; omega) (by have := HL'.out; omega)).mono ?_
            rintro e wT ⟨rfl, bT⟩
            rw [HV'.out]
            have BT := Lib.hid ((BT0.out.next bT).mono (show k ≤ k + 1 by omega))
            obtain ⟨t0, t1, t2, t3, _, _, _, _⟩ := fourBlk (BT0.out.next bT).ub.blk
            have tb := blk_lt (BT0.out.next bT).ub.blk
            have hlen := (BT0.out.next bT).mp.len Try.underlying169
            rw [← HPM2.out] at hlen
            clear bT BT0
            go_wp2_with fail
            go_roundg (n - (k + 1))
            case measure => omega
            case rel =>
              refine ⟨k + 1, by omega, by omega, by go_num, _, _, _, _, _, _, rfl, rfl, _, _, _, t, p, g, pt, (gt ++ [y]), BT.out, HV'.out, HW'.out.1, HW'.out.2, HL'.out.1, HL'.out.2.1, ?_, HL'.out.2.2.1, HL'.out.2.2.2⟩
              rw [HPT.out, HD.out]; simp
      · have hltz : ¬ (k : Int) < (n : Int) := by omega
        obtain ⟨cd, cp, cg, d, p, g, pt, gt, B0, hvl, hwp, hwg, hpl, hgl, hpt, hptl, hgtl⟩ := A.out
        clear A
        obtain ⟨da, dc, rfl⟩ : ∃ a c, cd = .slice a d.length c := Ty.shape B0.ub.td
        obtain ⟨u0, u1, u2, u3, _, _, _, _⟩ := fourBlk B0.ub.blk
        have ub := blk_lt B0.ub.blk
        have BE := Lib.hid B0.bel
        have z1 := (B0.op.rd).strB
        have z2 := (B0.og.rd).strB
        have z3 := (B0.ub.td.rd).strB
        rw [hpt, strNums_append] at z1
        have hsz : (strOfNums gt).size + (strOfNums d).size ≤ 1000 := by have h1 := strNums_size gt; have h2 := strNums_size d; have := vldBu_d hvl; omega
        have hsz2 : ¬ (9223372036854775807 < (strOfNums gt).size + (strOfNums d).size) := by omega
        clear B0 hvl hwp hwg hpl hgl hpt hptl hgtl
        generalize strOfNums gt = sg at z1 z2 hsz hsz2
        generalize strOfNums d = sd at z1 z3 hsz hsz2
        go_wp2_with fail
        refine (awake24_c _).mono ?_
        rintro e wf ⟨rfl, bf⟩
        have HBg := Lib.hid (BE.out.trans (bf.mono BE.out.size))
        clear bf
        go_wp2_with fail
        go_ret
        exact ⟨rfl, HBg.out⟩
end Go.Proofs.Ytglbfmcbojjglaa

/-
  BoardBuffers: for every buffer, process and byte the call returns true, and nothing that was there before has turned. No conditions but that the buffer can be read and holds numbers of its types.
-/
import Derived.Test.YtglbfmcbojjglaaWas24
import Derived.Test.YtglbfmcbojjglaaRef24D
import Derived.Test.YtglbfmcbojjglaaRefOrd
namespace Go.Proofs.Ytglbfmcbojjglaa
open Go.RowKit

/-- A variable that is never written again: its block and what it leads to. -/
structure VB (W : World) (g : Nat) (t : TypeId) (n : Int) (a b c : Value) (d : List Int) (p q : List Wt) : Prop where
  blk : W.heap[g]? = some (.cells #[.int .i64 n, a, b, c] t (0, 0))
  rd : RdI .u8 W 0 a d
  rp : RdW W 0 b p
  rq : RdW W 0 c q
section
variable {W W' : World} {g : Nat} {t : TypeId} {n : Int} {a b c : Value} {d : List Int} {p q : List Wt}
theorem VB.next (h : VB W g t n a b c d p q) (hb : Below W.heap.size W W') : VB W' g t n a b c d p q := ⟨(hb.block _ (blk_lt h.blk)).trans h.blk, h.rd.below hb, h.rp.below hb, h.rq.below hb⟩
theorem VB.alloc (h : VB W g t n a b c d p q) (ob : Obj) : VB (W.alloc ob) g t n a b c d p q := h.next ((Below.refl _ _).alloc (Nat.le_refl _) _)
theorem VB.new (h1 : RdI .u8 W 0 a d) (h2 : RdW W 0 b p) (h3 : RdW W 0 c q) : VB (W.alloc (.cells #[.int .i64 n, a, b, c] t)) W.heap.size t n a b c d p q := ⟨heap_alloc_new W _, h1.alloc _, h2.alloc _, h3.alloc _⟩
theorem VB.cells (h : VB W g t n a b c d p q) : W.cell? ⟨g, 0, none⟩ = some (.int .i64 n) ∧ W.cell? ⟨g, 1, none⟩ = some a ∧ W.cell? ⟨g, 2, none⟩ = some b ∧ W.cell? ⟨g, 3, none⟩ = some c := by
  obtain ⟨h0, h1, h2, h3, _⟩ := fourBlk h.blk
  exact ⟨h0, h1, h2, h3⟩
end
theorem putBu_len (n : Int) (d : List Int) (p g : List Wt) (q r v : Int) : (putBu n d p g q r v).1.length ≤ d.length + 1 ∧ (putBu n d p g q r v).2.1.length ≤ p.length + 1 ∧ (putBu n d p g q r v).2.2.1.length ≤ g.length := by
  cases hb : (vldBu n d p g && mayB p g q)
  · rw [put_bad hb]; simp
  · rcases nil_or g with hg | ⟨x, m, hg⟩
    · by_cases hl : (d.length : Int) < n
      · rw [put_store hb hg hl]; simp
      · rw [put_wait hb hg hl]; simp [enterW_length]
    · rw [put_wake hb hg, hg]; simp
theorem getBu_len (n : Int) (d : List Int) (p g : List Wt) (q r : Int) : (getBu n d p g q r).1.length ≤ d.length + 1 ∧ (getBu n d p g q r).2.1.length ≤ p.length ∧ (getBu n d p g q r).2.2.1.length ≤ g.length + 1 := by
  cases hb : (vldBu n d p g && mayB p g q)
  · rw [get_bad hb]; simp
  · rcases nil_or d with hd | ⟨y, t, hd⟩
    · rw [get_wait hb hd]; simp [enterW_length]
    · rcases nil_or p with hp | ⟨x, m, hp⟩
      · rw [get_take hb hd hp, hd]; simp; omega
      · rw [get_wake hb hd hp, hd, hp]; simp
theorem cancBu_len (n : Int) (d : List Int) (p g : List Wt) (q : Int) : (cancBu n d p g q).1.length ≤ p.length ∧ (cancBu n d p g q).2.1.length ≤ g.length := by
  unfold cancBu
  split
  · simp
  · exact ⟨leave_length p q, leave_length g q⟩
theorem rdi_sh {w : World} {B : Nat} {v : Value} {l : List Int} (h : RdI .u8 w B v l) : ∃ a m c, v = .slice a m c := by
  obtain ⟨a, c, hv, _⟩ := h.open_
  exact ⟨a, _, c, hv⟩
theorem rdw_sh {w : World} {B : Nat} {v : Value} {l : List Wt} (h : RdW w B v l) : ∃ a m c, v = .slice a m c := by
  obtain ⟨a, c, hv, _⟩ := h.open_
  exact ⟨a, _, c, hv⟩
theorem tyb_len {w : World} {B m c : Nat} {a : Option Addr} {l : List Int} (h : TyB w B (.slice a m c) l) : m = l.length := by
  obtain ⟨_, _, hv, _⟩ := h
  simp only [Value.slice.injEq] at hv
  exact hv.2.1
theorem tyw_len {w : World} {B m c : Nat} {a : Option Addr} {l : List Wt} (h : TyW w B (.slice a m c) l) : m = l.length := by
  obtain ⟨_, _, hv, _⟩ := h
  simp only [Value.slice.injEq] at hv
  exact hv.2.1
theorem TurnG.ofW' {w : World} {B m c : Nat} {a : Option Addr} {l : List Wt} (h : TyW w B (.slice a m c) l) : TurnG 56 w B w.heap.size (.slice a m c) m := by
  have := TurnG.ofW h
  rw [← tyw_len h] at this
  exact this
theorem TurnG.ofB' {w : World} {B m c : Nat} {a : Option Addr} {l : List Int} (h : TyB w B (.slice a m c) l) : TurnG 5 w B w.heap.size (.slice a m c) m := by
  have := TurnG.ofB h
  rw [← tyb_len h] at this
  exact this
theorem kdB : kdT 5 = .u8 := rfl
theorem szB : szT 5 = 1 := rfl
theorem kdW : kdT 56 = .i64 := rfl
theorem szW : szT 56 = 3 := rfl

set_option maxHeartbeats 8000000 in
set_option maxRecDepth 100000 in
theorem boardBuffers_c (n : Int) (vd vp vg : Value) (d : List Int) (p g : List Wt) (q r v : Int) (w : World) (hd : RdI .u8 w 0 vd d) (hp : RdW w 0 vp p) (hg : RdW w 0 vg g) (wp : WfW p) (wg : WfW g) :
    Calls Try.prog 19 #[.agg #[.int .i64 n, vd, vp, vg], .int .i64 q, .int .i64 r, .int .u8 v] w fun e w' => e = .returned (.bool true) ∧ Below w.heap.size w w' := by
  obtain ⟨ad, cd, rfl, _, _, _⟩ := hd.open_
  obtain ⟨ap, cp, rfl, _, _, _⟩ := hp.open_
  obtain ⟨ag, cg, rfl, _, _, _⟩ := hg.open_
  obtain ⟨W0, hW0⟩ : ∃ W0, W0 = w.alloc (.cells #[.int .i64 n, .slice ad d.length cd, .slice ap p.length cp, .slice ag g.length cg] 125) := ⟨_, rfl⟩
  have BX0 : Hid (W0.heap[w.heap.size]? = some (.cells #[.int .i64 n, .slice ad d.length cd, .slice ap p.length cp, .slice ag g.length cg] 125 (0, 0))) := by subst hW0; exact heap_alloc_new w _
  have HB0 : Hid (Below w.heap.size w W0) := by subst hW0; exact (Below.refl _ w).alloc (Nat.le_refl _) _
  have HW0 := Lib.hid hW0
  have HD := Lib.hid hd
  have HP := Lib.hid hp
  have HG := Lib.hid hg
  have WP := Lib.hid wp
  have WG := Lib.hid wg
  clear hW0 hd hp hg wp wg
  have hf := few24_c n _ _ _ d p g W0 (HD.out.below HB0.out) (HP.out.below HB0.out) (HG.out.below HB0.out)
  have HF := Lib.hid hf
  clear hf
  cases hfew : fewB d p g with
  | false =>
    have HFW := Lib.hid hfew
    clear hfew
    go_enter Try.func19, Try.ntmps19
    go_wp2_with fail
    rw [← HW0.out]
    have hf := HF.out
    rw [HFW.out] at hf
    refine hf.mono ?_
    clear hf
    rintro e w1 ⟨rfl, b1⟩
    have HB1 := Lib.hid (HB0.out.trans (b1.mono HB0.out.size))
    clear b1
    go_wp2_with fail
    refine (awake24_c _).mono ?_
    rintro e w9 ⟨rfl, b9⟩
    have HB9 := Lib.hid (HB1.out.trans (b9.mono HB1.out.size))
    clear b9
    go_wp2_with fail
    go_ret
    exact ⟨rfl, HB9.out⟩
  | true =>
    have hfw : d.length ≤ 100 ∧ p.length ≤ 40 ∧ g.length ≤ 40 := by simpa [fewB, and_assoc] using hfew
    have HFW := Lib.hid hfew
    clear hfew
    obtain ⟨hdl, hpl, hgl⟩ := hfw
    go_enter Try.func19, Try.ntmps19
    go_wp2_with fail
    rw [← HW0.out]
    have hf := HF.out
    rw [HFW.out] at hf
    refine hf.mono ?_
    clear hf
    rintro e w1 ⟨rfl, b1⟩
    have HB1 := Lib.hid (HB0.out.trans (b1.mono HB0.out.size))
    have BX := Lib.hid ((b1.block _ (blk_lt BX0.out)).trans BX0.out)
    have RD := Lib.hid (HD.out.below HB1.out)
    have RP := Lib.hid (HP.out.below HB1.out)
    have RG := Lib.hid (HG.out.below HB1.out)
    clear b1 HB0 BX0 HW0 HF HFW HD HP HG
    go_upto_region 3 with (fail)
    go_cut [9] (fun s9 wx => ∃ g9, s9 = .pointer (some ⟨g9, 0, none⟩) ∧ ∃ a1 c1 a2 c2 a3 c3, Aside (wx.heap[g9]? = some (.cells #[.int .i64 n, .slice a1 d.length c1, .slice a2 p.length c2, .slice a3 g.length c3] 125 (0, 0)) ∧ TyB wx 0 (.slice a1 d.length c1) d ∧ TyW wx 0 (.slice a2 p.length c2) p ∧ TyW wx 0 (.slice a3 g.length c3) g ∧ Below w1.heap.size w1 wx))
    case first =>
      refine wp_region_monoD 16 (W24 w.heap.size w1.heap.size n (.slice ad d.length cd) (.slice ap p.length cp) (.slice ag g.length cg) d p g) [some 42, some 43, some 44, some 45, some 46, some 47, some 48, some 49, some 50, some 51, some 52, some 53, some 54, some 55, some 56, some 9] (by kernel_rfl) (by kernel_rfl) (by kernel_rfl) (by kernel_rfl) W24.keep ?_ ?_
      · intro i hi
        rcases (show i = 0 ∨ i = 1 ∨ i = 2 ∨ i = 3 ∨ i = 4 ∨ i = 5 ∨ i = 6 ∨ i = 7 ∨ i = 8 ∨ i = 9 ∨ i = 10 ∨ i = 11 ∨ i = 12 ∨ i = 13 ∨ i = 14 ∨ i = 15 by omega) with rfl | rfl | rfl | rfl | rfl | rfl | rfl | rfl | rfl | rfl | rfl | rfl | rfl | rfl | rfl | rfl
        all_goals
          intro o ho vs A w' hb hA1 hA2 hdp
          obtain rfl := Option.some.inj (show some _ = some o from ho)
          clear ho hi
        · have e4 : A.eval (.tmp 4) = .pointer (some ⟨w.heap.size, 0, none⟩) := (hA2 4 (by kernel_rfl)).trans rfl
          exact gives_of (v := .pointer (some ⟨w.heap.size, 0, none⟩)) (by generalize A.eval = ρ at e4 ⊢; simp [execOp, e4, go_sem]) ⟨Below.refl _ _, rfl⟩
        · have e0 := hA1 0 42 (by kernel_rfl) rfl
          rw [show vs 0 = .pointer (some ⟨w.heap.size, 0, none⟩) from hdp 0 (by kernel_rfl)] at e0
          obtain ⟨x0, x1, x2, x3, _, _, _, _⟩ := fourBlk ((hb.block _ (blk_lt BX.out)).trans BX.out)
          exact gives_of (v := .int .i64 n) (by generalize A.eval = ρ at e0 ⊢; simp [execOp, e0, go_sem, x0]) ⟨Below.refl _ _, rfl⟩
        · exact gives_of (v := .slice (some ⟨w'.heap.size, 0, none⟩) 0 0) (by simp [execOp, go_sem]; rfl) ⟨(Below.refl _ _).alloc (Nat.le_refl _) _, ⟨_, rfl⟩⟩
        · have e4 : A.eval (.tmp 4) = .pointer (some ⟨w.heap.size, 0, none⟩) := (hA2 4 (by kernel_rfl)).trans rfl
          exact gives_of (v := .pointer (some ⟨w.heap.size, 1, none⟩)) (by generalize A.eval = ρ at e4 ⊢; simp [execOp, e4, go_sem]) ⟨Below.refl _ _, rfl⟩
        · have e0 := hA1 3 45 (by kernel_rfl) rfl
          rw [show vs 3 = .pointer (some ⟨w.heap.size, 1, none⟩) from hdp 3 (by kernel_rfl)] at e0
          obtain ⟨x0, x1, x2, x3, _, _, _, _⟩ := fourBlk ((hb.block _ (blk_lt BX.out)).trans BX.out)
          exact gives_of (v := (.slice ad d.length cd)) (by generalize A.eval = ρ at e0 ⊢; simp [execOp, e0, go_sem, x1]) ⟨Below.refl _ _, rfl⟩
        · obtain ⟨k0, hk0⟩ := hdp 2 (by kernel_rfl)
          have e0 := hA1 2 44 (by kernel_rfl) rfl
          have e1 := hA1 4 46 (by kernel_rfl) rfl
          rw [hk0] at e0
          rw [show vs 4 = (.slice ad d.length cd) from hdp 4 (by kernel_rfl)] at e1
          obtain ⟨a, c, w'', hr, ht, hb2⟩ := copyB_bel (W := w') (B := w1.heap.size) (g := k0) (RD.out.below hb) hb.size (by omega)
          exact gives_append (.tmp 44) (.tmp 46) 28 rfl _ _ e0 e1 (hr _) ⟨hb2, ⟨a, c, rfl, ht⟩⟩
        · exact gives_of (v := .slice (some ⟨w'.heap.size, 0, none⟩) 0 0) (by simp [execOp, go_sem]; rfl) ⟨(Below.refl _ _).alloc (Nat.le_refl _) _, ⟨_, rfl⟩⟩
        · have e4 : A.eval (.tmp 4) = .pointer (some ⟨w.heap.size, 0, none⟩) := (hA2 4 (by kernel_rfl)).trans rfl
          exact gives_of (v := .pointer (some ⟨w.heap.size, 2, none⟩)) (by generalize A.eval = ρ at e4 ⊢; simp [execOp, e4, go_sem]) ⟨Below.refl _ _, rfl⟩
        · have e0 := hA1 7 49 (by kernel_rfl) rfl
          rw [show vs 7 = .pointer (some ⟨w.heap.size, 2, none⟩) from hdp 7 (by kernel_rfl)] at e0
          obtain ⟨x0, x1, x2, x3, _, _, _, _⟩ := fourBlk ((hb.block _ (blk_lt BX.out)).trans BX.out)
          exact gives_of (v := (.slice ap p.length cp)) (by generalize A.eval = ρ at e0 ⊢; simp [execOp, e0, go_sem, x2]) ⟨Below.refl _ _, rfl⟩
        · obtain ⟨k0, hk0⟩ := hdp 6 (by kernel_rfl)
          have e0 := hA1 6 48 (by kernel_rfl) rfl
          have e1 := hA1 8 50 (by kernel_rfl) rfl
          rw [hk0] at e0
          rw [show vs 8 = (.slice ap p.length cp) from hdp 8 (by kernel_rfl)] at e1
          obtain ⟨a, c, w'', hr, ht, hb2⟩ := copyW_bel (W := w') (B := w1.heap.size) (g := k0) (RP.out.below hb) hb.size (by omega)
          exact gives_append (.tmp 48) (.tmp 50) 25 rfl _ _ e0 e1 (hr _) ⟨hb2, ⟨a, c, rfl, ht⟩⟩
        · exact gives_of (v := .slice (some ⟨w'.heap.size, 0, none⟩) 0 0) (by simp [execOp, go_sem]; rfl) ⟨(Below.refl _ _).alloc (Nat.le_refl _) _, ⟨_, rfl⟩⟩
        · have e4 : A.eval (.tmp 4) = .pointer (some ⟨w.heap.size, 0, none⟩) := (hA2 4 (by kernel_rfl)).trans rfl
          exact gives_of (v := .pointer (some ⟨w.heap.size, 3, none⟩)) (by generalize A.eval = ρ at e4 ⊢; simp [execOp, e4, go_sem]) ⟨Below.refl _ _, rfl⟩
        · have e0 := hA1 11 53 (by kernel_rfl) rfl
          rw [show vs 11 = .pointer (some ⟨w.heap.size, 3, none⟩) from hdp 11 (by kernel_rfl)] at e0
          obtain ⟨x0, x1, x2, x3, _, _, _, _⟩ := fourBlk ((hb.block _ (blk_lt BX.out)).trans BX.out)
          exact gives_of (v := (.slice ag g.length cg)) (by generalize A.eval = ρ at e0 ⊢; simp [execOp, e0, go_sem, x3]) ⟨Below.refl _ _, rfl⟩
        · obtain ⟨k0, hk0⟩ := hdp 10 (by kernel_rfl)
          have e0 := hA1 10 52 (by kernel_rfl) rfl
          have e1 := hA1 12 54 (by kernel_rfl) rfl
          rw [hk0] at e0
          rw [show vs 12 = (.slice ag g.length cg) from hdp 12 (by kernel_rfl)] at e1
          obtain ⟨a, c, w'', hr, ht, hb2⟩ := copyW_bel (W := w') (B := w1.heap.size) (g := k0) (RG.out.below hb) hb.size (by omega)
          exact gives_append (.tmp 52) (.tmp 54) 25 rfl _ _ e0 e1 (hr _) ⟨hb2, ⟨a, c, rfl, ht⟩⟩
        · obtain ⟨a1, c1, e5, t5⟩ := hdp 5 (by kernel_rfl)
          obtain ⟨a2, c2, e9, t9⟩ := hdp 9 (by kernel_rfl)
          obtain ⟨a3, c3, e13, t13⟩ := hdp 13 (by kernel_rfl)
          have y1 := hA1 1 43 (by kernel_rfl) rfl
          have y5 := hA1 5 47 (by kernel_rfl) rfl
          have y9 := hA1 9 51 (by kernel_rfl) rfl
          have y13 := hA1 13 55 (by kernel_rfl) rfl
          rw [show vs 1 = .int .i64 n from hdp 1 (by kernel_rfl)] at y1
          rw [e5] at y5 t5
          rw [e9] at y9 t9
          rw [e13] at y13 t13
          exact gives_of (v := .agg #[.int .i64 n, .slice a1 d.length c1, .slice a2 p.length c2, .slice a3 g.length c3]) (by generalize A.eval = ρ at y1 y5 y9 y13 ⊢; simp [execOp, go_sem, y1, y5, y9, y13]) ⟨Below.refl _ _, ⟨a1, c1, a2, c2, a3, c3, rfl, t5, t9, t13⟩⟩
        · exact gives_of (v := .pointer (some ⟨w'.heap.size, 0, none⟩)) (w' := w'.alloc (.cells #[.int .i64 0, .slice none 0 0, .slice none 0 0, .slice none 0 0] 125)) (by simp [execOp, go_sem]) ⟨(Below.refl _ _).alloc (Nat.le_refl _) _, ⟨_, rfl, hb.size, heap_alloc_new w' _⟩⟩
      · intro vs w2 hb2 hvs
        obtain ⟨a1, c1, a2, c2, a3, c3, e14, t1, t2, t3⟩ := hvs 14 (by omega)
        obtain ⟨k15, e15, hk15, hblk⟩ := hvs 15 (by omega)
        have hput := set4 (set4 (set4 (set4 hblk (.int .i64 n)).1 (.slice a1 d.length c1)).2.1 (.slice a2 p.length c2)).2.2.1 (.slice a3 g.length c3)
        have HPUT : Hid ((put4 w2 k15 (.int .i64 n) (.slice a1 d.length c1) (.slice a2 p.length c2) (.slice a3 g.length c3)).heap[k15]? = some (.cells #[.int .i64 n, .slice a1 d.length c1, .slice a2 p.length c2, .slice a3 g.length c3] 125 (0, 0))) := hput.2.2.2
        have P1 : Hid (TyB (put4 w2 k15 (.int .i64 n) (.slice a1 d.length c1) (.slice a2 p.length c2) (.slice a3 g.length c3)) 0 (.slice a1 d.length c1) d) := Ty.mono (Ty.put4 t1 hblk (by decide) _ _ _ _) (Nat.zero_le _)
        have P2 : Hid (TyW (put4 w2 k15 (.int .i64 n) (.slice a1 d.length c1) (.slice a2 p.length c2) (.slice a3 g.length c3)) 0 (.slice a2 p.length c2) p) := Ty.mono (Ty.put4 t2 hblk (by decide) _ _ _ _) (Nat.zero_le _)
        have P3 : Hid (TyW (put4 w2 k15 (.int .i64 n) (.slice a1 d.length c1) (.slice a2 p.length c2) (.slice a3 g.length c3)) 0 (.slice a3 g.length c3) g) := Ty.mono (Ty.put4 t3 hblk (by decide) _ _ _ _) (Nat.zero_le _)
        have P4 := Lib.hid (put4_below (g := k15) hb2 hk15 (.int .i64 n) (.slice a1 d.length c1) (.slice a2 p.length c2) (.slice a3 g.length c3))
        obtain ⟨y0, y1, y2, y3, y4, y5, y6, y7⟩ := fourBlk hblk
        have yb := blk_lt hblk
        clear hput t1 t2 t3 hblk hvs
        simp only [putDs, Nat.zero_add, Nat.reduceAdd, e14, e15]
        go_wp2_with fail
        go_meet
        exact ⟨_, rfl, _, _, _, _, _, _, HPUT.out, P1.out, P2.out, P3.out, P4.out⟩
    case rest =>
      obtain ⟨g9, rfl, a1, c1, a2, c2, a3, c3, A⟩ := hcut
      have XW0 : Hid (VB wc g9 125 n (.slice a1 d.length c1) (.slice a2 p.length c2) (.slice a3 g.length c3) d p g) := ⟨A.out.1, A.out.2.1.rd, A.out.2.2.1.rd, A.out.2.2.2.1.rd⟩
      have XS0 : Hid (VB wc w.heap.size 125 n (.slice ad d.length cd) (.slice ap p.length cp) (.slice ag g.length cg) d p g) := ⟨(A.out.2.2.2.2.block _ (blk_lt BX.out)).trans BX.out, RD.out.below A.out.2.2.2.2, RP.out.below A.out.2.2.2.2, RG.out.below A.out.2.2.2.2⟩
      have HB0' := Lib.hid (HB1.out.trans (A.out.2.2.2.2.mono HB1.out.size))
      clear A BX RD RP RG HB1
      obtain ⟨d1, p1, q1, k1, i1, f1, hQ1⟩ : ∃ d1 p1 q1 k1 i1 f1, putBu n d p g q r v = (d1, p1, q1, k1, i1, f1) := ⟨_, _, _, _, _, _, rfl⟩
      obtain ⟨d2, p2, q2, y2, k2, i2, f2, hQ2⟩ : ∃ d2 p2 q2 y2 k2 i2 f2, getBu n d p g q r = (d2, p2, q2, y2, k2, i2, f2) := ⟨_, _, _, _, _, _, _, rfl⟩
      obtain ⟨p3, q3, f3, hQ3⟩ : ∃ p3 q3 f3, cancBu n d p g q = (p3, q3, f3) := ⟨_, _, _, rfl⟩
      have hL1 : d1.length ≤ 101 ∧ p1.length ≤ 41 ∧ q1.length ≤ 41 := by have := putBu_len n d p g q r v; rw [hQ1] at this; simp at this; omega
      have hL2 : d2.length ≤ 101 ∧ p2.length ≤ 41 ∧ q2.length ≤ 41 := by have := getBu_len n d p g q r; rw [hQ2] at this; simp at this; omega
      have hL3 : p3.length ≤ 41 ∧ q3.length ≤ 41 := by have := cancBu_len n d p g q; rw [hQ3] at this; simp at this; omega
      have Q1 := Lib.hid hQ1
      have Q2 := Lib.hid hQ2
      have Q3 := Lib.hid hQ3
      have L1 := Lib.hid hL1
      have L2 := Lib.hid hL2
      have L3 := Lib.hid hL3
      clear hQ1 hQ2 hQ3 hL1 hL2 hL3
      obtain ⟨xW0, xW1, xW2, xW3⟩ := XW0.out.cells
      have bW0 := blk_lt XW0.out.blk
      obtain ⟨xS0, xS1, xS2, xS3⟩ := XS0.out.cells
      have bS0 := blk_lt XS0.out.blk
      have XR1 := Lib.hid (VB.new (n := n) (t := 142) XW0.out.rd XW0.out.rp XW0.out.rq)
      have XS1 := Lib.hid (XS0.out.alloc (.cells #[.int .i64 n, .slice a1 d.length c1, .slice a2 p.length c2, .slice a3 g.length c3] 142))
      have XW1 := Lib.hid (XW0.out.alloc (.cells #[.int .i64 n, .slice a1 d.length c1, .slice a2 p.length c2, .slice a3 g.length c3] 142))
      have HB1' := Lib.hid (HB0'.out.alloc HB0'.out.size (.cells #[.int .i64 n, .slice a1 d.length c1, .slice a2 p.length c2, .slice a3 g.length c3] 142))
      have HC1 := Lib.hid (Below.refl (wc.alloc (.cells #[.int .i64 n, .slice a1 d.length c1, .slice a2 p.length c2, .slice a3 g.length c3] 142)).heap.size (wc.alloc (.cells #[.int .i64 n, .slice a1 d.length c1, .slice a2 p.length c2, .slice a3 g.length c3] 142)))
      have BXS := Lib.hid XS1.out
      have BXW := Lib.hid XW1.out
      have BHB := Lib.hid HB1'.out
      clear XS0 XW0 HB0'
      go_wp2_with fail
      have h2 := putBu_c n q r v _ _ _ d p g _ XS1.out.rd XS1.out.rp XS1.out.rq WP.out WG.out (by omega) (by omega) (by omega)
      rw [Q1.out] at h2
      refine h2.mono ?_
      clear h2
      rintro e w2 ⟨vd2, vp2, vg2, rfl, rd2, rp2, rq2, b2⟩
      obtain ⟨da2, dm2, dc2, rfl⟩ := Ty.shape3 rd2
      obtain ⟨pa2, pm2, pc2, rfl⟩ := Ty.shape3 rp2
      obtain ⟨qa2, qm2, qc2, rfl⟩ := Ty.shape3 rq2
      have hD2 : dm2 ≤ 101 := by have hx := tyb_len rd2; have := L1.out; (try dsimp only at hx); omega
      have hP2 : pm2 ≤ 101 := by have hx := tyw_len rp2; have := L1.out; (try dsimp only at hx); omega
      have hR2 : qm2 ≤ 101 := by have hx := tyw_len rq2; have := L1.out; (try dsimp only at hx); omega
      have XA2 := Lib.hid (VB.new (n := n) (t := 125) (TyB.rd rd2) (TyW.rd rp2) (TyW.rd rq2))
      have FDXA2 := Lib.hid (Ty.alloc (Ty.mono rd2 HC1.out.size) (.cells #[.int .i64 n, .slice da2 dm2 dc2, .slice pa2 pm2 pc2, .slice qa2 qm2 qc2] 125))
      have FPXA2 := Lib.hid (Ty.alloc (Ty.mono rp2 HC1.out.size) (.cells #[.int .i64 n, .slice da2 dm2 dc2, .slice pa2 pm2 pc2, .slice qa2 qm2 qc2] 125))
      have FRXA2 := Lib.hid (Ty.alloc (Ty.mono rq2 HC1.out.size) (.cells #[.int .i64 n, .slice da2 dm2 dc2, .slice pa2 pm2 pc2, .slice qa2 qm2 qc2] 125))
      have XS2 := Lib.hid ((XS1.out.next b2).alloc (.cells #[.int .i64 n, .slice da2 dm2 dc2, .slice pa2 pm2 pc2, .slice qa2 qm2 qc2] 125))
      have XW2 := Lib.hid ((XW1.out.next b2).alloc (.cells #[.int .i64 n, .slice da2 dm2 dc2, .slice pa2 pm2 pc2, .slice qa2 qm2 qc2] 125))
      have XR2 := Lib.hid ((XR1.out.next b2).alloc (.cells #[.int .i64 n, .slice da2 dm2 dc2, .slice pa2 pm2 pc2, .slice qa2 qm2 qc2] 125))
      have hb2 := HB1'.out.trans (b2.mono HB1'.out.size)
      have HB2' := Lib.hid (hb2.alloc hb2.size (.cells #[.int .i64 n, .slice da2 dm2 dc2, .slice pa2 pm2 pc2, .slice qa2 qm2 qc2] 125))
      have hc2 := HC1.out.trans (b2.mono HC1.out.size)
      have HC2 := Lib.hid (hc2.alloc hc2.size (.cells #[.int .i64 n, .slice da2 dm2 dc2, .slice pa2 pm2 pc2, .slice qa2 qm2 qc2] 125))
      obtain ⟨xXR20, xXR21, xXR22, xXR23⟩ := (XR1.out.next b2).cells
      have bsXR2 := blk_lt (XR1.out.next b2).blk
      clear rd2 rp2 rq2 b2 hb2 hc2 HB1' HC1 XS1 XW1 XR1
      go_wp2_with fail
      have h3 := put24_c n q r v _ _ _ d p g _ XR2.out.rd XR2.out.rp XR2.out.rq (by omega) (by omega) (by omega)
      rw [Q1.out] at h3
      refine h3.mono ?_
      clear h3
      rintro e w3 ⟨vd3, vp3, vg3, rfl, rd3, rp3, rq3, b3⟩
      obtain ⟨da3, dm3, dc3, rfl⟩ := rdi_sh rd3
      obtain ⟨pa3, pm3, pc3, rfl⟩ := rdw_sh rp3
      obtain ⟨qa3, qm3, qc3, rfl⟩ := rdw_sh rq3
      have XB3 := Lib.hid (VB.new (n := n) (t := 142) rd3 rp3 rq3)
      have XS3 := Lib.hid ((XS2.out.next b3).alloc (.cells #[.int .i64 n, .slice da3 dm3 dc3, .slice pa3 pm3 pc3, .slice qa3 qm3 qc3] 142))
      have XW3 := Lib.hid ((XW2.out.next b3).alloc (.cells #[.int .i64 n, .slice da3 dm3 dc3, .slice pa3 pm3 pc3, .slice qa3 qm3 qc3] 142))
      have XR3 := Lib.hid ((XR2.out.next b3).alloc (.cells #[.int .i64 n, .slice da3 dm3 dc3, .slice pa3 pm3 pc3, .slice qa3 qm3 qc3] 142))
      have XA3 := Lib.hid ((XA2.out.next b3).alloc (.cells #[.int .i64 n, .slice da3 dm3 dc3, .slice pa3 pm3 pc3, .slice qa3 qm3 qc3] 142))
      have FDXA3 := Lib.hid (Ty.alloc (Ty.below FDXA2.out b3) (.cells #[.int .i64 n, .slice da3 dm3 dc3, .slice pa3 pm3 pc3, .slice qa3 qm3 qc3] 142))
      have FPXA3 := Lib.hid (Ty.alloc (Ty.below FPXA2.out b3) (.cells #[.int .i64 n, .slice da3 dm3 dc3, .slice pa3 pm3 pc3, .slice qa3 qm3 qc3] 142))
      have FRXA3 := Lib.hid (Ty.alloc (Ty.below FRXA2.out b3) (.cells #[.int .i64 n, .slice da3 dm3 dc3, .slice pa3 pm3 pc3, .slice qa3 qm3 qc3] 142))
      have hb3 := HB2'.out.trans (b3.mono HB2'.out.size)
      have HB3' := Lib.hid (hb3.alloc hb3.size (.cells #[.int .i64 n, .slice da3 dm3 dc3, .slice pa3 pm3 pc3, .slice qa3 qm3 qc3] 142))
      have hc3 := HC2.out.trans (b3.mono HC2.out.size)
      have HC3 := Lib.hid (hc3.alloc hc3.size (.cells #[.int .i64 n, .slice da3 dm3 dc3, .slice pa3 pm3 pc3, .slice qa3 qm3 qc3] 142))
      obtain ⟨xXS30, xXS31, xXS32, xXS33⟩ := (XS2.out.next b3).cells
      have bsXS3 := blk_lt (XS2.out.next b3).blk
      clear rd3 rp3 rq3 b3 hb3 hc3 HB2' HC2 XS2 XW2 XR2 XA2 FDXA2 FPXA2 FRXA2
      go_wp2_with fail
      have h4 := getBu_c n q r _ _ _ d p g _ XS3.out.rd XS3.out.rp XS3.out.rq WP.out WG.out (by omega) (by omega) (by omega)
      rw [Q2.out] at h4
      refine h4.mono ?_
      clear h4
      rintro e w4 ⟨vd4, vp4, vg4, rfl, rd4, rp4, rq4, b4⟩
      obtain ⟨da4, dm4, dc4, rfl⟩ := Ty.shape3 rd4
      obtain ⟨pa4, pm4, pc4, rfl⟩ := Ty.shape3 rp4
      obtain ⟨qa4, qm4, qc4, rfl⟩ := Ty.shape3 rq4
      have hD4 : dm4 ≤ 101 := by have hx := tyb_len rd4; have := L2.out; (try dsimp only at hx); omega
      have hP4 : pm4 ≤ 101 := by have hx := tyw_len rp4; have := L2.out; (try dsimp only at hx); omega
      have hR4 : qm4 ≤ 101 := by have hx := tyw_len rq4; have := L2.out; (try dsimp only at hx); omega
      have XC4 := Lib.hid (VB.new (n := n) (t := 125) (TyB.rd rd4) (TyW.rd rp4) (TyW.rd rq4))
      have FDXC4 := Lib.hid (Ty.alloc (Ty.mono rd4 HC3.out.size) (.cells #[.int .i64 n, .slice da4 dm4 dc4, .slice pa4 pm4 pc4, .slice qa4 qm4 qc4] 125))
      have FPXC4 := Lib.hid (Ty.alloc (Ty.mono rp4 HC3.out.size) (.cells #[.int .i64 n, .slice da4 dm4 dc4, .slice pa4 pm4 pc4, .slice qa4 qm4 qc4] 125))
      have FRXC4 := Lib.hid (Ty.alloc (Ty.mono rq4 HC3.out.size) (.cells #[.int .i64 n, .slice da4 dm4 dc4, .slice pa4 pm4 pc4, .slice qa4 qm4 qc4] 125))
      have XS4 := Lib.hid ((XS3.out.next b4).alloc (.cells #[.int .i64 n, .slice da4 dm4 dc4, .slice pa4 pm4 pc4, .slice qa4 qm4 qc4] 125))
      have XW4 := Lib.hid ((XW3.out.next b4).alloc (.cells #[.int .i64 n, .slice da4 dm4 dc4, .slice pa4 pm4 pc4, .slice qa4 qm4 qc4] 125))
      have XR4 := Lib.hid ((XR3.out.next b4).alloc (.cells #[.int .i64 n, .slice da4 dm4 dc4, .slice pa4 pm4 pc4, .slice qa4 qm4 qc4] 125))
      have XA4 := Lib.hid ((XA3.out.next b4).alloc (.cells #[.int .i64 n, .slice da4 dm4 dc4, .slice pa4 pm4 pc4, .slice qa4 qm4 qc4] 125))
      have XB4 := Lib.hid ((XB3.out.next b4).alloc (.cells #[.int .i64 n, .slice da4 dm4 dc4, .slice pa4 pm4 pc4, .slice qa4 qm4 qc4] 125))
      have FDXA4 := Lib.hid (Ty.alloc (Ty.below FDXA3.out b4) (.cells #[.int .i64 n, .slice da4 dm4 dc4, .slice pa4 pm4 pc4, .slice qa4 qm4 qc4] 125))
      have FPXA4 := Lib.hid (Ty.alloc (Ty.below FPXA3.out b4) (.cells #[.int .i64 n, .slice da4 dm4 dc4, .slice pa4 pm4 pc4, .slice qa4 qm4 qc4] 125))
      have FRXA4 := Lib.hid (Ty.alloc (Ty.below FRXA3.out b4) (.cells #[.int .i64 n, .slice da4 dm4 dc4, .slice pa4 pm4 pc4, .slice qa4 qm4 qc4] 125))
      have hb4 := HB3'.out.trans (b4.mono HB3'.out.size)
      have HB4' := Lib.hid (hb4.alloc hb4.size (.cells #[.int .i64 n, .slice da4 dm4 dc4, .slice pa4 pm4 pc4, .slice qa4 qm4 qc4] 125))
      have hc4 := HC3.out.trans (b4.mono HC3.out.size)
      have HC4 := Lib.hid (hc4.alloc hc4.size (.cells #[.int .i64 n, .slice da4 dm4 dc4, .slice pa4 pm4 pc4, .slice qa4 qm4 qc4] 125))
      obtain ⟨xXR40, xXR41, xXR42, xXR43⟩ := (XR3.out.next b4).cells
      have bsXR4 := blk_lt (XR3.out.next b4).blk
      clear rd4 rp4 rq4 b4 hb4 hc4 HB3' HC3 XS3 XW3 XR3 XA3 XB3 FDXA3 FPXA3 FRXA3
      go_wp2_with fail
      have h5 := get24_c n q r _ _ _ d p g _ XR4.out.rd XR4.out.rp XR4.out.rq (by omega) (by omega) (by omega)
      rw [Q2.out] at h5
      refine h5.mono ?_
      clear h5
      rintro e w5 ⟨vd5, vp5, vg5, rfl, rd5, rp5, rq5, b5⟩
      obtain ⟨da5, dm5, dc5, rfl⟩ := rdi_sh rd5
      obtain ⟨pa5, pm5, pc5, rfl⟩ := rdw_sh rp5
      obtain ⟨qa5, qm5, qc5, rfl⟩ := rdw_sh rq5
      have XD5 := Lib.hid (VB.new (n := n) (t := 142) rd5 rp5 rq5)
      have XS5 := Lib.hid ((XS4.out.next b5).alloc (.cells #[.int .i64 n, .slice da5 dm5 dc5, .slice pa5 pm5 pc5, .slice qa5 qm5 qc5] 142))
      have XW5 := Lib.hid ((XW4.out.next b5).alloc (.cells #[.int .i64 n, .slice da5 dm5 dc5, .slice pa5 pm5 pc5, .slice qa5 qm5 qc5] 142))
      have XR5 := Lib.hid ((XR4.out.next b5).alloc (.cells #[.int .i64 n, .slice da5 dm5 dc5, .slice pa5 pm5 pc5, .slice qa5 qm5 qc5] 142))
      have XA5 := Lib.hid ((XA4.out.next b5).alloc (.cells #[.int .i64 n, .slice da5 dm5 dc5, .slice pa5 pm5 pc5, .slice qa5 qm5 qc5] 142))
      have XB5 := Lib.hid ((XB4.out.next b5).alloc (.cells #[.int .i64 n, .slice da5 dm5 dc5, .slice pa5 pm5 pc5, .slice qa5 qm5 qc5] 142))
      have XC5 := Lib.hid ((XC4.out.next b5).alloc (.cells #[.int .i64 n, .slice da5 dm5 dc5, .slice pa5 pm5 pc5, .slice qa5 qm5 qc5] 142))
      have FDXA5 := Lib.hid (Ty.alloc (Ty.below FDXA4.out b5) (.cells #[.int .i64 n, .slice da5 dm5 dc5, .slice pa5 pm5 pc5, .slice qa5 qm5 qc5] 142))
      have FPXA5 := Lib.hid (Ty.alloc (Ty.below FPXA4.out b5) (.cells #[.int .i64 n, .slice da5 dm5 dc5, .slice pa5 pm5 pc5, .slice qa5 qm5 qc5] 142))
      have FRXA5 := Lib.hid (Ty.alloc (Ty.below FRXA4.out b5) (.cells #[.int .i64 n, .slice da5 dm5 dc5, .slice pa5 pm5 pc5, .slice qa5 qm5 qc5] 142))
      have FDXC5 := Lib.hid (Ty.alloc (Ty.below FDXC4.out b5) (.cells #[.int .i64 n, .slice da5 dm5 dc5, .slice pa5 pm5 pc5, .slice qa5 qm5 qc5] 142))
      have FPXC5 := Lib.hid (Ty.alloc (Ty.below FPXC4.out b5) (.cells #[.int .i64 n, .slice da5 dm5 dc5, .slice pa5 pm5 pc5, .slice qa5 qm5 qc5] 142))
      have FRXC5 := Lib.hid (Ty.alloc (Ty.below FRXC4.out b5) (.cells #[.int .i64 n, .slice da5 dm5 dc5, .slice pa5 pm5 pc5, .slice qa5 qm5 qc5] 142))
      have hb5 := HB4'.out.trans (b5.mono HB4'.out.size)
      have HB5' := Lib.hid (hb5.alloc hb5.size (.cells #[.int .i64 n, .slice da5 dm5 dc5, .slice pa5 pm5 pc5, .slice qa5 qm5 qc5] 142))
      have hc5 := HC4.out.trans (b5.mono HC4.out.size)
      have HC5 := Lib.hid (hc5.alloc hc5.size (.cells #[.int .i64 n, .slice da5 dm5 dc5, .slice pa5 pm5 pc5, .slice qa5 qm5 qc5] 142))
      obtain ⟨xXS50, xXS51, xXS52, xXS53⟩ := (XS4.out.next b5).cells
      have bsXS5 := blk_lt (XS4.out.next b5).blk
      clear rd5 rp5 rq5 b5 hb5 hc5 HB4' HC4 XS4 XW4 XR4 XA4 XB4 XC4 FDXA4 FPXA4 FRXA4 FDXC4 FPXC4 FRXC4
      go_wp2_with fail
      have h6 := cancBu_c n q _ _ _ d p g _ XS5.out.rd XS5.out.rp XS5.out.rq WP.out WG.out (by omega) (by omega) (by omega)
      rw [Q3.out] at h6
      refine h6.mono ?_
      clear h6
      rintro e w6 ⟨vd6, vp6, vg6, rfl, rd6, rp6, rq6, b6⟩
      obtain ⟨da6, dm6, dc6, rfl⟩ := Ty.shape3 rd6
      obtain ⟨pa6, pm6, pc6, rfl⟩ := Ty.shape3 rp6
      obtain ⟨qa6, qm6, qc6, rfl⟩ := Ty.shape3 rq6
      have hD6 : dm6 ≤ 101 := by have hx := tyb_len rd6; have := L3.out; (try dsimp only at hx); omega
      have hP6 : pm6 ≤ 101 := by have hx := tyw_len rp6; have := L3.out; (try dsimp only at hx); omega
      have hR6 : qm6 ≤ 101 := by have hx := tyw_len rq6; have := L3.out; (try dsimp only at hx); omega
      have XE6 := Lib.hid (VB.new (n := n) (t := 125) (TyB.rd rd6) (TyW.rd rp6) (TyW.rd rq6))
      have FDXE6 := Lib.hid (Ty.alloc (Ty.mono rd6 HC5.out.size) (.cells #[.int .i64 n, .slice da6 dm6 dc6, .slice pa6 pm6 pc6, .slice qa6 qm6 qc6] 125))
      have FPXE6 := Lib.hid (Ty.alloc (Ty.mono rp6 HC5.out.size) (.cells #[.int .i64 n, .slice da6 dm6 dc6, .slice pa6 pm6 pc6, .slice qa6 qm6 qc6] 125))
      have FRXE6 := Lib.hid (Ty.alloc (Ty.mono rq6 HC5.out.size) (.cells #[.int .i64 n, .slice da6 dm6 dc6, .slice pa6 pm6 pc6, .slice qa6 qm6 qc6] 125))
      have XS6 := Lib.hid ((XS5.out.next b6).alloc (.cells #[.int .i64 n, .slice da6 dm6 dc6, .slice pa6 pm6 pc6, .slice qa6 qm6 qc6] 125))
      have XW6 := Lib.hid ((XW5.out.next b6).alloc (.cells #[.int .i64 n, .slice da6 dm6 dc6, .slice pa6 pm6 pc6, .slice qa6 qm6 qc6] 125))
      have XR6 := Lib.hid ((XR5.out.next b6).alloc (.cells #[.int .i64 n, .slice da6 dm6 dc6, .slice pa6 pm6 pc6, .slice qa6 qm6 qc6] 125))
      have XA6 := Lib.hid ((XA5.out.next b6).alloc (.cells #[.int .i64 n, .slice da6 dm6 dc6, .slice pa6 pm6 pc6, .slice qa6 qm6 qc6] 125))
      have XB6 := Lib.hid ((XB5.out.next b6).alloc (.cells #[.int .i64 n, .slice da6 dm6 dc6, .slice pa6 pm6 pc6, .slice qa6 qm6 qc6] 125))
      have XC6 := Lib.hid ((XC5.out.next b6).alloc (.cells #[.int .i64 n, .slice da6 dm6 dc6, .slice pa6 pm6 pc6, .slice qa6 qm6 qc6] 125))
      have XD6 := Lib.hid ((XD5.out.next b6).alloc (.cells #[.int .i64 n, .slice da6 dm6 dc6, .slice pa6 pm6 pc6, .slice qa6 qm6 qc6] 125))
      have FDXA6 := Lib.hid (Ty.alloc (Ty.below FDXA5.out b6) (.cells #[.int .i64 n, .slice da6 dm6 dc6, .slice pa6 pm6 pc6, .slice qa6 qm6 qc6] 125))
      have FPXA6 := Lib.hid (Ty.alloc (Ty.below FPXA5.out b6) (.cells #[.int .i64 n, .slice da6 dm6 dc6, .slice pa6 pm6 pc6, .slice qa6 qm6 qc6] 125))
      have FRXA6 := Lib.hid (Ty.alloc (Ty.below FRXA5.out b6) (.cells #[.int .i64 n, .slice da6 dm6 dc6, .slice pa6 pm6 pc6, .slice qa6 qm6 qc6] 125))
      have FDXC6 := Lib.hid (Ty.alloc (Ty.below FDXC5.out b6) (.cells #[.int .i64 n, .slice da6 dm6 dc6, .slice pa6 pm6 pc6, .slice qa6 qm6 qc6] 125))
      have FPXC6 := Lib.hid (Ty.alloc (Ty.below FPXC5.out b6) (.cells #[.int .i64 n, .slice da6 dm6 dc6, .slice pa6 pm6 pc6, .slice qa6 qm6 qc6] 125))
      have FRXC6 := Lib.hid (Ty.alloc (Ty.below FRXC5.out b6) (.cells #[.int .i64 n, .slice da6 dm6 dc6, .slice pa6 pm6 pc6, .slice qa6 qm6 qc6] 125))
      have hb6 := HB5'.out.trans (b6.mono HB5'.out.size)
      have HB6' := Lib.hid (hb6.alloc hb6.size (.cells #[.int .i64 n, .slice da6 dm6 dc6, .slice pa6 pm6 pc6, .slice qa6 qm6 qc6] 125))
      have hc6 := HC5.out.trans (b6.mono HC5.out.size)
      have HC6 := Lib.hid (hc6.alloc hc6.size (.cells #[.int .i64 n, .slice da6 dm6 dc6, .slice pa6 pm6 pc6, .slice qa6 qm6 qc6] 125))
      obtain ⟨xXR60, xXR61, xXR62, xXR63⟩ := (XR5.out.next b6).cells
      have bsXR6 := blk_lt (XR5.out.next b6).blk
      clear rd6 rp6 rq6 b6 hb6 hc6 HB5' HC5 XS5 XW5 XR5 XA5 XB5 XC5 XD5 FDXA5 FPXA5 FRXA5 FDXC5 FPXC5 FRXC5
      go_wp2_with fail
      have h7 := cancBu24_c n q _ _ _ d p g _ XR6.out.rd XR6.out.rp XR6.out.rq (by omega) (by omega)
      rw [Q3.out] at h7
      refine h7.mono ?_
      clear h7
      rintro e w7 ⟨vd7, vp7, vg7, rfl, rd7, rp7, rq7, b7⟩
      obtain ⟨da7, dm7, dc7, rfl⟩ := rdi_sh rd7
      obtain ⟨pa7, pm7, pc7, rfl⟩ := rdw_sh rp7
      obtain ⟨qa7, qm7, qc7, rfl⟩ := rdw_sh rq7
      have XF7 := Lib.hid (VB.new (n := n) (t := 142) rd7 rp7 rq7)
      have XS7 := Lib.hid ((XS6.out.next b7).alloc (.cells #[.int .i64 n, .slice da7 dm7 dc7, .slice pa7 pm7 pc7, .slice qa7 qm7 qc7] 142))
      have XW7 := Lib.hid ((XW6.out.next b7).alloc (.cells #[.int .i64 n, .slice da7 dm7 dc7, .slice pa7 pm7 pc7, .slice qa7 qm7 qc7] 142))
      have XR7 := Lib.hid ((XR6.out.next b7).alloc (.cells #[.int .i64 n, .slice da7 dm7 dc7, .slice pa7 pm7 pc7, .slice qa7 qm7 qc7] 142))
      have XA7 := Lib.hid ((XA6.out.next b7).alloc (.cells #[.int .i64 n, .slice da7 dm7 dc7, .slice pa7 pm7 pc7, .slice qa7 qm7 qc7] 142))
      have XB7 := Lib.hid ((XB6.out.next b7).alloc (.cells #[.int .i64 n, .slice da7 dm7 dc7, .slice pa7 pm7 pc7, .slice qa7 qm7 qc7] 142))
      have XC7 := Lib.hid ((XC6.out.next b7).alloc (.cells #[.int .i64 n, .slice da7 dm7 dc7, .slice pa7 pm7 pc7, .slice qa7 qm7 qc7] 142))
      have XD7 := Lib.hid ((XD6.out.next b7).alloc (.cells #[.int .i64 n, .slice da7 dm7 dc7, .slice pa7 pm7 pc7, .slice qa7 qm7 qc7] 142))
      have XE7 := Lib.hid ((XE6.out.next b7).alloc (.cells #[.int .i64 n, .slice da7 dm7 dc7, .slice pa7 pm7 pc7, .slice qa7 qm7 qc7] 142))
      have FDXA7 := Lib.hid (Ty.alloc (Ty.below FDXA6.out b7) (.cells #[.int .i64 n, .slice da7 dm7 dc7, .slice pa7 pm7 pc7, .slice qa7 qm7 qc7] 142))
      have FPXA7 := Lib.hid (Ty.alloc (Ty.below FPXA6.out b7) (.cells #[.int .i64 n, .slice da7 dm7 dc7, .slice pa7 pm7 pc7, .slice qa7 qm7 qc7] 142))
      have FRXA7 := Lib.hid (Ty.alloc (Ty.below FRXA6.out b7) (.cells #[.int .i64 n, .slice da7 dm7 dc7, .slice pa7 pm7 pc7, .slice qa7 qm7 qc7] 142))
      have FDXC7 := Lib.hid (Ty.alloc (Ty.below FDXC6.out b7) (.cells #[.int .i64 n, .slice da7 dm7 dc7, .slice pa7 pm7 pc7, .slice qa7 qm7 qc7] 142))
      have FPXC7 := Lib.hid (Ty.alloc (Ty.below FPXC6.out b7) (.cells #[.int .i64 n, .slice da7 dm7 dc7, .slice pa7 pm7 pc7, .slice qa7 qm7 qc7] 142))
      have FRXC7 := Lib.hid (Ty.alloc (Ty.below FRXC6.out b7) (.cells #[.int .i64 n, .slice da7 dm7 dc7, .slice pa7 pm7 pc7, .slice qa7 qm7 qc7] 142))
      have FDXE7 := Lib.hid (Ty.alloc (Ty.below FDXE6.out b7) (.cells #[.int .i64 n, .slice da7 dm7 dc7, .slice pa7 pm7 pc7, .slice qa7 qm7 qc7] 142))
      have FPXE7 := Lib.hid (Ty.alloc (Ty.below FPXE6.out b7) (.cells #[.int .i64 n, .slice da7 dm7 dc7, .slice pa7 pm7 pc7, .slice qa7 qm7 qc7] 142))
      have FRXE7 := Lib.hid (Ty.alloc (Ty.below FRXE6.out b7) (.cells #[.int .i64 n, .slice da7 dm7 dc7, .slice pa7 pm7 pc7, .slice qa7 qm7 qc7] 142))
      have hb7 := HB6'.out.trans (b7.mono HB6'.out.size)
      have HB7' := Lib.hid (hb7.alloc hb7.size (.cells #[.int .i64 n, .slice da7 dm7 dc7, .slice pa7 pm7 pc7, .slice qa7 qm7 qc7] 142))
      have hc7 := HC6.out.trans (b7.mono HC6.out.size)
      have HC7 := Lib.hid (hc7.alloc hc7.size (.cells #[.int .i64 n, .slice da7 dm7 dc7, .slice pa7 pm7 pc7, .slice qa7 qm7 qc7] 142))
      obtain ⟨xXS70, xXS71, xXS72, xXS73⟩ := (XS6.out.next b7).cells
      have bsXS7 := blk_lt (XS6.out.next b7).blk
      clear rd7 rp7 rq7 b7 hb7 hc7 HB6' HC6 XS6 XW6 XR6 XA6 XB6 XC6 XD6 XE6 FDXA6 FPXA6 FRXA6 FDXC6 FPXC6 FRXC6 FDXE6 FPXE6 FRXE6
      go_upto_region 11 with (fail)
      obtain ⟨WZ, hWZ⟩ : ∃ WZ, WZ = w7.alloc (.cells #[.int .i64 n, .slice da7 dm7 dc7, .slice pa7 pm7 pc7, .slice qa7 qm7 qc7] 142) := ⟨_, rfl⟩
      rw [← hWZ] at XS7 XW7 XR7 XA7 XB7 XC7 XD7 XE7 XF7 FDXA7 FPXA7 FRXA7 FDXC7 FPXC7 FRXC7 FDXE7 FPXE7 FRXE7 HB7' HC7 ⊢
      clear hWZ
      have uXS0 := fun p : BelW WZ => (XS7.out.next p.h).cells.1
      have uXS1 := fun p : BelW WZ => (XS7.out.next p.h).cells.2.1
      have uXS2 := fun p : BelW WZ => (XS7.out.next p.h).cells.2.2.1
      have uXS3 := fun p : BelW WZ => (XS7.out.next p.h).cells.2.2.2
      have uXS4 := fun p : BelW WZ => blk_lt (XS7.out.next p.h).blk
      have uXR0 := fun p : BelW WZ => (XR7.out.next p.h).cells.1
      have uXR1 := fun p : BelW WZ => (XR7.out.next p.h).cells.2.1
      have uXR2 := fun p : BelW WZ => (XR7.out.next p.h).cells.2.2.1
      have uXR3 := fun p : BelW WZ => (XR7.out.next p.h).cells.2.2.2
      have uXR4 := fun p : BelW WZ => blk_lt (XR7.out.next p.h).blk
      have uXA0 := fun p : BelW WZ => (XA7.out.next p.h).cells.1
      have uXA1 := fun p : BelW WZ => (XA7.out.next p.h).cells.2.1
      have uXA2 := fun p : BelW WZ => (XA7.out.next p.h).cells.2.2.1
      have uXA3 := fun p : BelW WZ => (XA7.out.next p.h).cells.2.2.2
      have uXA4 := fun p : BelW WZ => blk_lt (XA7.out.next p.h).blk
      have uXB0 := fun p : BelW WZ => (XB7.out.next p.h).cells.1
      have uXB1 := fun p : BelW WZ => (XB7.out.next p.h).cells.2.1
      have uXB2 := fun p : BelW WZ => (XB7.out.next p.h).cells.2.2.1
      have uXB3 := fun p : BelW WZ => (XB7.out.next p.h).cells.2.2.2
      have uXB4 := fun p : BelW WZ => blk_lt (XB7.out.next p.h).blk
      have uXC0 := fun p : BelW WZ => (XC7.out.next p.h).cells.1
      have uXC1 := fun p : BelW WZ => (XC7.out.next p.h).cells.2.1
      have uXC2 := fun p : BelW WZ => (XC7.out.next p.h).cells.2.2.1
      have uXC3 := fun p : BelW WZ => (XC7.out.next p.h).cells.2.2.2
      have uXC4 := fun p : BelW WZ => blk_lt (XC7.out.next p.h).blk
      have uXD0 := fun p : BelW WZ => (XD7.out.next p.h).cells.1
      have uXD1 := fun p : BelW WZ => (XD7.out.next p.h).cells.2.1
      have uXD2 := fun p : BelW WZ => (XD7.out.next p.h).cells.2.2.1
      have uXD3 := fun p : BelW WZ => (XD7.out.next p.h).cells.2.2.2
      have uXD4 := fun p : BelW WZ => blk_lt (XD7.out.next p.h).blk
      have uXE0 := fun p : BelW WZ => (XE7.out.next p.h).cells.1
      have uXE1 := fun p : BelW WZ => (XE7.out.next p.h).cells.2.1
      have uXE2 := fun p : BelW WZ => (XE7.out.next p.h).cells.2.2.1
      have uXE3 := fun p : BelW WZ => (XE7.out.next p.h).cells.2.2.2
      have uXE4 := fun p : BelW WZ => blk_lt (XE7.out.next p.h).blk
      have uXF0 := fun p : BelW WZ => (XF7.out.next p.h).cells.1
      have uXF1 := fun p : BelW WZ => (XF7.out.next p.h).cells.2.1
      have uXF2 := fun p : BelW WZ => (XF7.out.next p.h).cells.2.2.1
      have uXF3 := fun p : BelW WZ => (XF7.out.next p.h).cells.2.2.2
      have uXF4 := fun p : BelW WZ => blk_lt (XF7.out.next p.h).blk
      have HV1 : Hid (∀ p' : BelW WZ, Calls Try.prog 80 #[.agg #[.int .i64 n, .slice ad d.length cd, .slice ap p.length cp, .slice ag g.length cg]] p'.W fun e w'' => e = .returned (.bool (vldBu n d p g)) ∧ ∃ q : BelW WZ, w'' = q.W) := fun p' => Calls.bel_of (validBu_c n _ _ _ d p g p'.W (XS7.out.next p'.h).rd (XS7.out.next p'.h).rp (XS7.out.next p'.h).rq WP.out WG.out (by omega) (by omega))
      have HV2 : Hid (∀ p' : BelW WZ, Calls Try.prog 81 #[.agg #[.int .i64 n, .slice a1 d.length c1, .slice a2 p.length c2, .slice a3 g.length c3]] p'.W fun e w'' => e = .returned (.bool (vldBu n d p g)) ∧ ∃ q : BelW WZ, w'' = q.W) := fun p' => Calls.bel_of (validBu24_c n _ _ _ d p g p'.W (XR7.out.next p'.h).rd (XR7.out.next p'.h).rp (XR7.out.next p'.h).rq (by omega) (by omega))
      have HS1 : Hid (∀ p' : BelW WZ, Calls Try.prog 82 #[.agg #[.int .i64 n, .slice da2 dm2 dc2, .slice pa2 pm2 pc2, .slice qa2 qm2 qc2], .agg #[.int .i64 n, .slice da3 dm3 dc3, .slice pa3 pm3 pc3, .slice qa3 qm3 qc3]] p'.W fun e w'' => e = .returned (.bool true) ∧ ∃ q : BelW WZ, w'' = q.W) := fun p' => Calls.bel_of (sameBu_c n _ _ _ _ _ _ d1 p1 q1 p'.W (XA7.out.next p'.h).rd (XB7.out.next p'.h).rd (XA7.out.next p'.h).rp (XB7.out.next p'.h).rp (XA7.out.next p'.h).rq (XB7.out.next p'.h).rq (by have := L1.out; omega) (by have := L1.out; omega))
      have HS2 : Hid (∀ p' : BelW WZ, Calls Try.prog 82 #[.agg #[.int .i64 n, .slice da4 dm4 dc4, .slice pa4 pm4 pc4, .slice qa4 qm4 qc4], .agg #[.int .i64 n, .slice da5 dm5 dc5, .slice pa5 pm5 pc5, .slice qa5 qm5 qc5]] p'.W fun e w'' => e = .returned (.bool true) ∧ ∃ q : BelW WZ, w'' = q.W) := fun p' => Calls.bel_of (sameBu_c n _ _ _ _ _ _ d2 p2 q2 p'.W (XC7.out.next p'.h).rd (XD7.out.next p'.h).rd (XC7.out.next p'.h).rp (XD7.out.next p'.h).rp (XC7.out.next p'.h).rq (XD7.out.next p'.h).rq (by have := L2.out; omega) (by have := L2.out; omega))
      have HS3 : Hid (∀ p' : BelW WZ, Calls Try.prog 82 #[.agg #[.int .i64 n, .slice da6 dm6 dc6, .slice pa6 pm6 pc6, .slice qa6 qm6 qc6], .agg #[.int .i64 n, .slice da7 dm7 dc7, .slice pa7 pm7 pc7, .slice qa7 qm7 qc7]] p'.W fun e w'' => e = .returned (.bool true) ∧ ∃ q : BelW WZ, w'' = q.W) := fun p' => Calls.bel_of (sameBu_c n _ _ _ _ _ _ d p3 q3 p'.W (XE7.out.next p'.h).rd (XF7.out.next p'.h).rd (XE7.out.next p'.h).rp (XF7.out.next p'.h).rp (XE7.out.next p'.h).rq (XF7.out.next p'.h).rq (by have := L3.out; omega) (by have := L3.out; omega))
      generalize vldBu n d p g = vb at HV1 HV2
      refine wp_region_quiet_bel (by kernel_rfl) (by kernel_rfl) ?_
      iterate 63 (first | go_big_quiet_step (first | (go_at_call 80; exact HV1.out _) | (go_at_call 81; exact HV2.out _) | (go_at_call_of 82 (Value.slice pa2 pm2 pc2); exact HS1.out _) | (go_at_call_of 82 (Value.slice pa4 pm4 pc4); exact HS2.out _) | (go_at_call_of 82 (Value.slice pa6 pm6 pc6); exact HS3.out _)) | quiet_step (first | (go_at_call 80; exact HV1.out _) | (go_at_call 81; exact HV2.out _) | (go_at_call_of 82 (Value.slice pa2 pm2 pc2); exact HS1.out _) | (go_at_call_of 82 (Value.slice pa4 pm4 pc4); exact HS2.out _) | (go_at_call_of 82 (Value.slice pa6 pm6 pc6); exact HS3.out _)))
      refine wpQuiet_nil ?_
      intro _ hw'
      obtain ⟨pz, hw''⟩ := hw'
      subst hw''
      clear uXS0 uXS1 uXS2 uXS3 uXS4 uXR0 uXR1 uXR2 uXR3 uXR4 uXA0 uXA1 uXA2 uXA3 uXA4 uXB0 uXB1 uXB2 uXB3 uXB4 uXC0 uXC1 uXC2 uXC3 uXC4 uXD0 uXD1 uXD2 uXD3 uXD4 uXE0 uXE1 uXE2 uXE3 uXE4 uXF0 uXF1 uXF2 uXF3 uXF4 HV1 HV2 HS1 HS2 HS3
      obtain ⟨WY, hWY⟩ : ∃ WY, WY = pz.W := ⟨_, rfl⟩
      have b8 : Below WZ.heap.size WZ WY := by rw [hWY]; exact pz.h
      rw [← hWY]
      clear hWY pz
      obtain ⟨yXA0, yXA1, yXA2, yXA3⟩ := (XA7.out.next b8).cells
      have ybXA := blk_lt (XA7.out.next b8).blk
      obtain ⟨yXC0, yXC1, yXC2, yXC3⟩ := (XC7.out.next b8).cells
      have ybXC := blk_lt (XC7.out.next b8).blk
      obtain ⟨yXE0, yXE1, yXE2, yXE3⟩ := (XE7.out.next b8).cells
      have ybXE := blk_lt (XE7.out.next b8).blk
      have HCY := Lib.hid (HC7.out.trans (b8.mono HC7.out.size))
      have TLY : Hid (TG (wc.alloc (.cells #[.int .i64 n, .slice a1 d.length c1, .slice a2 p.length c2, .slice a3 g.length c3] 142)) (WY.alloc (.cells #[.int .i64 n, .slice da2 dm2 dc2, .slice pa2 pm2 pc2, .slice qa2 qm2 qc2, .int .i64 n, .slice da4 dm4 dc4, .slice pa4 pm4 pc4, .slice qa4 qm4 qc4, .int .i64 n, .slice da6 dm6 dc6, .slice pa6 pm6 pc6, .slice qa6 qm6 qc6] 125)) WY.heap.size 125 #[.int .i64 n, .slice da2 dm2 dc2, .slice pa2 pm2 pc2, .slice qa2 qm2 qc2, .int .i64 n, .slice da4 dm4 dc4, .slice pa4 pm4 pc4, .slice qa4 qm4 qc4, .int .i64 n, .slice da6 dm6 dc6, .slice pa6 pm6 pc6, .slice qa6 qm6 qc6] [(5, .slice da2 dm2 dc2, dm2), (56, .slice pa2 pm2 pc2, pm2), (56, .slice qa2 qm2 qc2, qm2), (5, .slice da4 dm4 dc4, dm4), (56, .slice pa4 pm4 pc4, pm4), (56, .slice qa4 qm4 qc4, qm4), (5, .slice da6 dm6 dc6, dm6), (56, .slice pa6 pm6 pc6, pm6), (56, .slice qa6 qm6 qc6, qm6)]) := TG.new HCY.out (fun p hp => by
        simp only [List.mem_cons, List.not_mem_nil, or_false] at hp
        rcases hp with rfl | rfl | rfl | rfl | rfl | rfl | rfl | rfl | rfl
        · exact TurnG.ofB' (Ty.below FDXA7.out b8)
        · exact TurnG.ofW' (Ty.below FPXA7.out b8)
        · exact TurnG.ofW' (Ty.below FRXA7.out b8)
        · exact TurnG.ofB' (Ty.below FDXC7.out b8)
        · exact TurnG.ofW' (Ty.below FPXC7.out b8)
        · exact TurnG.ofW' (Ty.below FRXC7.out b8)
        · exact TurnG.ofB' (Ty.below FDXE7.out b8)
        · exact TurnG.ofW' (Ty.below FPXE7.out b8)
        · exact TurnG.ofW' (Ty.below FRXE7.out b8))
      clear b8 HCY XS7 XW7 XR7 XA7 XB7 XC7 XD7 XE7 XF7 FDXA7 FPXA7 FRXA7 FDXC7 FPXC7 FRXC7 FDXE7 FPXE7 FRXE7 HB7' HC7 L1 L2 L3
      go_wp2_with fail
      go_loopg [34, 35, 36, 37, 186, 193, 207, 223] 3 (fun gg _ _ _ _ sk _ _ _ wr => ∃ k : Nat, k ≤ 3 ∧ 3 - k ≤ gg ∧ sk = .int .i64 k ∧ Aside (TG (wc.alloc (.cells #[.int .i64 n, .slice a1 d.length c1, .slice a2 p.length c2, .slice a3 g.length c3] 142)) wr WY.heap.size 125 #[.int .i64 n, .slice da2 dm2 dc2, .slice pa2 pm2 pc2, .slice qa2 qm2 qc2, .int .i64 n, .slice da4 dm4 dc4, .slice pa4 pm4 pc4, .slice qa4 qm4 qc4, .int .i64 n, .slice da6 dm6 dc6, .slice pa6 pm6 pc6, .slice qa6 qm6 qc6] [(5, .slice da2 dm2 dc2, dm2), (56, .slice pa2 pm2 pc2, pm2), (56, .slice qa2 qm2 qc2, qm2), (5, .slice da4 dm4 dc4, dm4), (56, .slice pa4 pm4 pc4, pm4), (56, .slice qa4 qm4 qc4, qm4), (5, .slice da6 dm6 dc6, dm6), (56, .slice pa6 pm6 pc6, pm6), (56, .slice qa6 qm6 qc6, qm6)]))
      case atStart => exact ⟨0, Nat.zero_le _, by omega, rfl, TLY.out⟩
      case round =>
        obtain ⟨k, hk, hgk, rfl, A⟩ := hrel
        obtain ⟨wo, rfl⟩ : ∃ wo : World, wo = wr := ⟨_, rfl⟩
        have T0 := Lib.hid A.out
        clear TLY A
        by_cases hlt : k < 3
        · have hltz : (k : Int) < 3 := by omega
          obtain ⟨a, m, c, a', m', c', a'', m'', c'', e0, e1, e2, e3, hm1, hm2, hm3, hl1, hl2, hl3⟩ : ∃ (a : Option Addr) (m c : Nat) (a' : Option Addr) (m' c' : Nat) (a'' : Option Addr) (m'' c'' : Nat), (#[.int .i64 n, .slice da2 dm2 dc2, .slice pa2 pm2 pc2, .slice qa2 qm2 qc2, .int .i64 n, .slice da4 dm4 dc4, .slice pa4 pm4 pc4, .slice qa4 qm4 qc4, .int .i64 n, .slice da6 dm6 dc6, .slice pa6 pm6 pc6, .slice qa6 qm6 qc6] : Array Value)[k * 4]? = some (.int .i64 n) ∧ (#[.int .i64 n, .slice da2 dm2 dc2, .slice pa2 pm2 pc2, .slice qa2 qm2 qc2, .int .i64 n, .slice da4 dm4 dc4, .slice pa4 pm4 pc4, .slice qa4 qm4 qc4, .int .i64 n, .slice da6 dm6 dc6, .slice pa6 pm6 pc6, .slice qa6 qm6 qc6] : Array Value)[k * 4 + 1]? = some (.slice a m c) ∧ (#[.int .i64 n, .slice da2 dm2 dc2, .slice pa2 pm2 pc2, .slice qa2 qm2 qc2, .int .i64 n, .slice da4 dm4 dc4, .slice pa4 pm4 pc4, .slice qa4 qm4 qc4, .int .i64 n, .slice da6 dm6 dc6, .slice pa6 pm6 pc6, .slice qa6 qm6 qc6] : Array Value)[k * 4 + 2]? = some (.slice a' m' c') ∧ (#[.int .i64 n, .slice da2 dm2 dc2, .slice pa2 pm2 pc2, .slice qa2 qm2 qc2, .int .i64 n, .slice da4 dm4 dc4, .slice pa4 pm4 pc4, .slice qa4 qm4 qc4, .int .i64 n, .slice da6 dm6 dc6, .slice pa6 pm6 pc6, .slice qa6 qm6 qc6] : Array Value)[k * 4 + 3]? = some (.slice a'' m'' c'') ∧
              ((5, Value.slice a m c, m) ∈ ([(5, .slice da2 dm2 dc2, dm2), (56, .slice pa2 pm2 pc2, pm2), (56, .slice qa2 qm2 qc2, qm2), (5, .slice da4 dm4 dc4, dm4), (56, .slice pa4 pm4 pc4, pm4), (56, .slice qa4 qm4 qc4, qm4), (5, .slice da6 dm6 dc6, dm6), (56, .slice pa6 pm6 pc6, pm6), (56, .slice qa6 qm6 qc6, qm6)] : List (TypeId × Value × Nat))) ∧ ((56, Value.slice a' m' c', m') ∈ ([(5, .slice da2 dm2 dc2, dm2), (56, .slice pa2 pm2 pc2, pm2), (56, .slice qa2 qm2 qc2, qm2), (5, .slice da4 dm4 dc4, dm4), (56, .slice pa4 pm4 pc4, pm4), (56, .slice qa4 qm4 qc4, qm4), (5, .slice da6 dm6 dc6, dm6), (56, .slice pa6 pm6 pc6, pm6), (56, .slice qa6 qm6 qc6, qm6)] : List (TypeId × Value × Nat))) ∧ ((56, Value.slice a'' m'' c'', m'') ∈ ([(5, .slice da2 dm2 dc2, dm2), (56, .slice pa2 pm2 pc2, pm2), (56, .slice qa2 qm2 qc2, qm2), (5, .slice da4 dm4 dc4, dm4), (56, .slice pa4 pm4 pc4, pm4), (56, .slice qa4 qm4 qc4, qm4), (5, .slice da6 dm6 dc6, dm6), (56, .slice pa6 pm6 pc6, pm6), (56, .slice qa6 qm6 qc6, qm6)] : List (TypeId × Value × Nat))) ∧ m ≤ 101 ∧ m' ≤ 101 ∧ m'' ≤ 101 := by
            match k, hlt with
            | 0, _ => exact ⟨_, _, _, _, _, _, _, _, _, rfl, rfl, rfl, rfl, by simp, by simp, by simp, hD2, hP2, hR2⟩
            | 1, _ => exact ⟨_, _, _, _, _, _, _, _, _, rfl, rfl, rfl, rfl, by simp, by simp, by simp, hD4, hP4, hR4⟩
            | 2, _ => exact ⟨_, _, _, _, _, _, _, _, _, rfl, rfl, rfl, rfl, by simp, by simp, by simp, hD6, hP6, hR6⟩
          have y0 := T0.out.cell _ _ e0
          have y1 := T0.out.cell _ _ e1
          have y2 := T0.out.cell _ _ e2
          have y3 := T0.out.cell _ _ e3
          have yb := blk_lt T0.out.blk
          have TA := Lib.hid (T0.out.alloc (.cells #[.int .i64 n, .slice a m c, .slice a' m' c', .slice a'' m'' c''] 125))
          have VA := Lib.hid (heap_alloc_new wo (.cells #[.int .i64 n, .slice a m c, .slice a' m' c', .slice a'' m'' c''] 125))
          have HM1 := Lib.hid hm1
          have HM2 := Lib.hid hm2
          have HM3 := Lib.hid hm3
          clear e0 e1 e2 e3 hm1 hm2 hm3 T0
          go_wp2_with fail
          go_loopg [35, 193] m (fun gg _ sj wi => ∃ j : Nat, j ≤ m ∧ m - j ≤ gg ∧ sj = .int .i64 j ∧ Aside (TG (wc.alloc (.cells #[.int .i64 n, .slice a1 d.length c1, .slice a2 p.length c2, .slice a3 g.length c3] 142)) wi WY.heap.size 125 #[.int .i64 n, .slice da2 dm2 dc2, .slice pa2 pm2 pc2, .slice qa2 qm2 qc2, .int .i64 n, .slice da4 dm4 dc4, .slice pa4 pm4 pc4, .slice qa4 qm4 qc4, .int .i64 n, .slice da6 dm6 dc6, .slice pa6 pm6 pc6, .slice qa6 qm6 qc6] [(5, .slice da2 dm2 dc2, dm2), (56, .slice pa2 pm2 pc2, pm2), (56, .slice qa2 qm2 qc2, qm2), (5, .slice da4 dm4 dc4, dm4), (56, .slice pa4 pm4 pc4, pm4), (56, .slice qa4 qm4 qc4, qm4), (5, .slice da6 dm6 dc6, dm6), (56, .slice pa6 pm6 pc6, pm6), (56, .slice qa6 qm6 qc6, qm6)] ∧ wi.heap[wo.heap.size]? = some (.cells #[.int .i64 n, .slice a m c, .slice a' m' c', .slice a'' m'' c''] 125 (0, 0))))
          case atStart => exact ⟨0, Nat.zero_le _, by omega, rfl, TA.out, VA.out⟩
          case round =>
            obtain ⟨j, hj, hgj, rfl, A⟩ := hrel
            obtain ⟨hT, hV⟩ := A.out
            clear A TA VA y0 y1 y2 y3
            by_cases hjt : j < m
            · have hjz : (j : Int) < (m : Int) := by omega
              obtain ⟨x0, x1, x2, x3, _, _, _, _⟩ := fourBlk hV
              have xb := blk_lt hV
              obtain ⟨b, off, z', rfl, hBb, hCb, hbs, htg, y, hfz⟩ := (hT.tn _ HM1.out).at j hjt
              have hne : wo.heap.size ≠ b := by omega
              have HN : Hid (∀ z'' : Int, TG (wc.alloc (.cells #[.int .i64 n, .slice a1 d.length c1, .slice a2 p.length c2, .slice a3 g.length c3] 142)) (wr.setCell ⟨b, off + j * 1, none⟩ (.int .u8 z'')) WY.heap.size 125 #[.int .i64 n, .slice da2 dm2 dc2, .slice pa2 pm2 pc2, .slice qa2 qm2 qc2, .int .i64 n, .slice da4 dm4 dc4, .slice pa4 pm4 pc4, .slice qa4 qm4 qc4, .int .i64 n, .slice da6 dm6 dc6, .slice pa6 pm6 pc6, .slice qa6 qm6 qc6] [(5, .slice da2 dm2 dc2, dm2), (56, .slice pa2 pm2 pc2, pm2), (56, .slice qa2 qm2 qc2, qm2), (5, .slice da4 dm4 dc4, dm4), (56, .slice pa4 pm4 pc4, pm4), (56, .slice qa4 qm4 qc4, qm4), (5, .slice da6 dm6 dc6, dm6), (56, .slice pa6 pm6 pc6, pm6), (56, .slice qa6 qm6 qc6, qm6)] ∧ (wr.setCell ⟨b, off + j * 1, none⟩ (.int .u8 z'')).heap[wo.heap.size]? = some (.cells #[.int .i64 n, .slice (some ⟨b, off, none⟩) m c, .slice a' m' c', .slice a'' m'' c''] 125 (0, 0))) := fun z'' => ⟨hT.set hBb hCb htg y z'', set_far hV hne⟩
              rw [szB, kdB] at y
              rw [szB] at hfz
              simp only [Nat.mul_one] at y hfz HN
              clear hT hV htg
              go_wp2_with fail
              go_roundg (m - (j + 1))
              case measure => omega
              case rel => exact ⟨j + 1, by omega, by omega, by go_num, HN.out _⟩
            · have hjz : ¬ (j : Int) < (m : Int) := by omega
              have T1 := Lib.hid (And.intro hT hV)
              obtain ⟨x0, x1, x2, x3, _, _, _, _⟩ := fourBlk hV
              have xb := blk_lt hV
              clear hT hV
              go_wp2_with fail
              go_loopg [36, 207] m' (fun gg _ sj wi => ∃ j : Nat, j ≤ m' ∧ m' - j ≤ gg ∧ sj = .int .i64 j ∧ Aside (TG (wc.alloc (.cells #[.int .i64 n, .slice a1 d.length c1, .slice a2 p.length c2, .slice a3 g.length c3] 142)) wi WY.heap.size 125 #[.int .i64 n, .slice da2 dm2 dc2, .slice pa2 pm2 pc2, .slice qa2 qm2 qc2, .int .i64 n, .slice da4 dm4 dc4, .slice pa4 pm4 pc4, .slice qa4 qm4 qc4, .int .i64 n, .slice da6 dm6 dc6, .slice pa6 pm6 pc6, .slice qa6 qm6 qc6] [(5, .slice da2 dm2 dc2, dm2), (56, .slice pa2 pm2 pc2, pm2), (56, .slice qa2 qm2 qc2, qm2), (5, .slice da4 dm4 dc4, dm4), (56, .slice pa4 pm4 pc4, pm4), (56, .slice qa4 qm4 qc4, qm4), (5, .slice da6 dm6 dc6, dm6), (56, .slice pa6 pm6 pc6, pm6), (56, .slice qa6 qm6 qc6, qm6)] ∧ wi.heap[wo.heap.size]? = some (.cells #[.int .i64 n, .slice a m c, .slice a' m' c', .slice a'' m'' c''] 125 (0, 0))))
              case atStart => exact ⟨0, Nat.zero_le _, by omega, rfl, T1.out.1, T1.out.2⟩
              case round =>
                obtain ⟨j, hj, hgj, rfl, A⟩ := hrel
                obtain ⟨hT, hV⟩ := A.out
                clear A T1 x0 x1 x2 x3
                by_cases hjt : j < m'
                · have hjz : (j : Int) < (m' : Int) := by omega
                  obtain ⟨x0, x1, x2, x3, _, _, _, _⟩ := fourBlk hV
                  have xb := blk_lt hV
                  obtain ⟨b, off, z', rfl, hBb, hCb, hbs, htg, y, hfz⟩ := (hT.tn _ HM2.out).at j hjt
                  have hne : wo.heap.size ≠ b := by omega
                  have HN : Hid (∀ z'' : Int, TG (wc.alloc (.cells #[.int .i64 n, .slice a1 d.length c1, .slice a2 p.length c2, .slice a3 g.length c3] 142)) (wr.setCell ⟨b, off + j * 3, none⟩ (.int .i64 z'')) WY.heap.size 125 #[.int .i64 n, .slice da2 dm2 dc2, .slice pa2 pm2 pc2, .slice qa2 qm2 qc2, .int .i64 n, .slice da4 dm4 dc4, .slice pa4 pm4 pc4, .slice qa4 qm4 qc4, .int .i64 n, .slice da6 dm6 dc6, .slice pa6 pm6 pc6, .slice qa6 qm6 qc6] [(5, .slice da2 dm2 dc2, dm2), (56, .slice pa2 pm2 pc2, pm2), (56, .slice qa2 qm2 qc2, qm2), (5, .slice da4 dm4 dc4, dm4), (56, .slice pa4 pm4 pc4, pm4), (56, .slice qa4 qm4 qc4, qm4), (5, .slice da6 dm6 dc6, dm6), (56, .slice pa6 pm6 pc6, pm6), (56, .slice qa6 qm6 qc6, qm6)] ∧ (wr.setCell ⟨b, off + j * 3, none⟩ (.int .i64 z'')).heap[wo.heap.size]? = some (.cells #[.int .i64 n, .slice a m c, .slice (some ⟨b, off, none⟩) m' c', .slice a'' m'' c''] 125 (0, 0))) := fun z'' => ⟨hT.set hBb hCb htg y z'', set_far hV hne⟩
                  rw [szW, kdW] at y
                  rw [szW] at hfz
                  skip
                  clear hT hV htg
                  go_wp2_with fail
                  go_roundg (m' - (j + 1))
                  case measure => omega
                  case rel => exact ⟨j + 1, by omega, by omega, by go_num, HN.out _⟩
                · have hjz : ¬ (j : Int) < (m' : Int) := by omega
                  have T1 := Lib.hid (And.intro hT hV)
                  obtain ⟨x0, x1, x2, x3, _, _, _, _⟩ := fourBlk hV
                  have xb := blk_lt hV
                  clear hT hV
                  go_wp2_with fail
                  go_loopg [37, 223] m'' (fun gg _ sj wi => ∃ j : Nat, j ≤ m'' ∧ m'' - j ≤ gg ∧ sj = .int .i64 j ∧ Aside (TG (wc.alloc (.cells #[.int .i64 n, .slice a1 d.length c1, .slice a2 p.length c2, .slice a3 g.length c3] 142)) wi WY.heap.size 125 #[.int .i64 n, .slice da2 dm2 dc2, .slice pa2 pm2 pc2, .slice qa2 qm2 qc2, .int .i64 n, .slice da4 dm4 dc4, .slice pa4 pm4 pc4, .slice qa4 qm4 qc4, .int .i64 n, .slice da6 dm6 dc6, .slice pa6 pm6 pc6, .slice qa6 qm6 qc6] [(5, .slice da2 dm2 dc2, dm2), (56, .slice pa2 pm2 pc2, pm2), (56, .slice qa2 qm2 qc2, qm2), (5, .slice da4 dm4 dc4, dm4), (56, .slice pa4 pm4 pc4, pm4), (56, .slice qa4 qm4 qc4, qm4), (5, .slice da6 dm6 dc6, dm6), (56, .slice pa6 pm6 pc6, pm6), (56, .slice qa6 qm6 qc6, qm6)] ∧ wi.heap[wo.heap.size]? = some (.cells #[.int .i64 n, .slice a m c, .slice a' m' c', .slice a'' m'' c''] 125 (0, 0))))
                  case atStart => exact ⟨0, Nat.zero_le _, by omega, rfl, T1.out.1, T1.out.2⟩
                  case round =>
                    obtain ⟨j, hj, hgj, rfl, A⟩ := hrel
                    obtain ⟨hT, hV⟩ := A.out
                    clear A T1 x0 x1 x2 x3
                    by_cases hjt : j < m''
                    · have hjz : (j : Int) < (m'' : Int) := by omega
                      obtain ⟨x0, x1, x2, x3, _, _, _, _⟩ := fourBlk hV
                      have xb := blk_lt hV
                      obtain ⟨b, off, z', rfl, hBb, hCb, hbs, htg, y, hfz⟩ := (hT.tn _ HM3.out).at j hjt
                      have hne : wo.heap.size ≠ b := by omega
                      have HN : Hid (∀ z'' : Int, TG (wc.alloc (.cells #[.int .i64 n, .slice a1 d.length c1, .slice a2 p.length c2, .slice a3 g.length c3] 142)) (wr.setCell ⟨b, off + j * 3, none⟩ (.int .i64 z'')) WY.heap.size 125 #[.int .i64 n, .slice da2 dm2 dc2, .slice pa2 pm2 pc2, .slice qa2 qm2 qc2, .int .i64 n, .slice da4 dm4 dc4, .slice pa4 pm4 pc4, .slice qa4 qm4 qc4, .int .i64 n, .slice da6 dm6 dc6, .slice pa6 pm6 pc6, .slice qa6 qm6 qc6] [(5, .slice da2 dm2 dc2, dm2), (56, .slice pa2 pm2 pc2, pm2), (56, .slice qa2 qm2 qc2, qm2), (5, .slice da4 dm4 dc4, dm4), (56, .slice pa4 pm4 pc4, pm4), (56, .slice qa4 qm4 qc4, qm4), (5, .slice da6 dm6 dc6, dm6), (56, .slice pa6 pm6 pc6, pm6), (56, .slice qa6 qm6 qc6, qm6)] ∧ (wr.setCell ⟨b, off + j * 3, none⟩ (.int .i64 z'')).heap[wo.heap.size]? = some (.cells #[.int .i64 n, .slice a m c, .slice a' m' c', .slice (some ⟨b, off, none⟩) m'' c''] 125 (0, 0))) := fun z'' => ⟨hT.set hBb hCb htg y z'', set_far hV hne⟩
                      rw [szW, kdW] at y
                      rw [szW] at hfz
                      skip
                      clear hT hV htg
                      go_wp2_with fail
                      go_roundg (m'' - (j + 1))
                      case measure => omega
                      case rel => exact ⟨j + 1, by omega, by omega, by go_num, HN.out _⟩
                    · have hjz : ¬ (j : Int) < (m'' : Int) := by omega
                      have T1 := Lib.hid (And.intro hT hV)
                      obtain ⟨x0, x1, x2, x3, _, _, _, _⟩ := fourBlk hV
                      have xb := blk_lt hV
                      clear hT hV
                      go_wp2_with fail
                      go_roundg (3 - (k + 1))
                      case measure => omega
                      case rel => exact ⟨k + 1, by omega, by omega, by go_num, T1.out.1⟩
        · have hltz : ¬ (k : Int) < 3 := by omega
          have hbe := T0.out.bel
          have XSe := Lib.hid (BXS.out.next hbe)
          have XWe := Lib.hid (BXW.out.next hbe)
          have HBe := Lib.hid (BHB.out.trans (hbe.mono BHB.out.size))
          obtain ⟨x0, x1, x2, x3⟩ := XSe.out.cells
          have xb0 := blk_lt XSe.out.blk
          obtain ⟨x4, x5, x6, x7⟩ := XWe.out.cells
          have xb1 := blk_lt XWe.out.blk
          clear T0 hbe
          go_wp2_with fail
          refine (sameBu_c n _ _ _ _ _ _ d p g wo XSe.out.rd XWe.out.rd XSe.out.rp XWe.out.rp XSe.out.rq XWe.out.rq (by omega) (by omega)).mono ?_
          rintro e we ⟨rfl, be⟩
          have HBf := Lib.hid (HBe.out.trans (be.mono HBe.out.size))
          clear be XSe XWe HBe x0 x1 x2 x3 x4 x5 x6 x7
          go_wp2_with fail
          refine (awake24_c _).mono ?_
          rintro e wf ⟨rfl, bf⟩
          have HBg := Lib.hid (HBf.out.trans (bf.mono HBf.out.size))
          clear bf
          go_wp2_with fail
          go_ret
          exact ⟨rfl, HBg.out⟩
end Go.Proofs.Ytglbfmcbojjglaa

/-
  SemaConserves: for every byte and every list of acts the call returns true, and nothing that was there before has turned. No conditions but that the list can be read.
-/
import Derived.Test.YtglbfmcbojjglaaAwake25
import Derived.Test.YtglbfmcbojjglaaPlainD
import Derived.Deep.DeepCutAuto
namespace Go.Proofs.Ytglbfmcbojjglaa
open Go.RowKit

/-- A slice of n acts: three bytes each. -/
def RdA (w : World) (v : Value) (n : Nat) : Prop :=
  ∃ (ao : Option Addr) (cap : Nat), v = .slice ao n cap ∧ n ≤ cap ∧ (ao = none → cap = 0) ∧ ∀ k, k < n → ∃ b off x y z, ao = some ⟨b, off, none⟩ ∧ b < w.heap.size ∧
    w.cell? ⟨b, off + k * 3, none⟩ = some (.int .u8 x) ∧ w.cell? ⟨b, off + k * 3 + 1, none⟩ = some (.int .u8 y) ∧ w.cell? ⟨b, off + k * 3 + 2, none⟩ = some (.int .u8 z) ∧
    (0 ≤ x ∧ x ≤ 255) ∧ (0 ≤ y ∧ y ≤ 255) ∧ (0 ≤ z ∧ z ≤ 255)

/-- A variable of two cells that is not written while its list lies from B on. -/
structure LW (W : World) (B g : Nat) (t : TypeId) (x y : Value) (l : List Wt) : Prop where
  blk : W.heap[g]? = some (.cells #[x, y] t (0, 0))
  fr : FrW W B y l
/-- A variable of three bytes. -/
structure LA (W : World) (g : Nat) (t : TypeId) (x y z : Value) : Prop where
  blk : W.heap[g]? = some (.cells #[x, y, z] t (0, 0))
section
variable {W W' : World} {B g g' o : Nat} {t : TypeId} {x y z u : Value} {l : List Wt}
theorem LW.next (h : LW W B g t x y l) (hb : Below W.heap.size W W') : LW W' B g t x y l := ⟨(hb.block _ (blk_lt h.blk)).trans h.blk, h.fr.below hb⟩
theorem LW.low (h : LW W B g t x y l) (hne : g' ≠ g) (hlt : g' < B) : LW (W.setCell ⟨g', o, none⟩ u) B g t x y l :=
  ⟨(Below.heap_setCell _ _ _ _ (by exact fun e => hne e.symm)).trans h.blk, h.fr.low hlt⟩
theorem LW.cells (h : LW W B g t x y l) : W.cell? ⟨g, 0, none⟩ = some x ∧ W.cell? ⟨g, 1, none⟩ = some y ∧ W.frozen? ⟨g, 0, none⟩ = false ∧ W.frozen? ⟨g, 1, none⟩ = false := twoBlk h.blk
theorem LA.next (h : LA W g t x y z) (hb : Below W.heap.size W W') : LA W' g t x y z := ⟨(hb.block _ (blk_lt h.blk)).trans h.blk⟩
theorem LA.low (h : LA W g t x y z) (hne : g' ≠ g) : LA (W.setCell ⟨g', o, none⟩ u) g t x y z := ⟨(Below.heap_setCell _ _ _ _ (by exact fun e => hne e.symm)).trans h.blk⟩
theorem LA.cells (h : LA W g t x y z) : W.cell? ⟨g, 0, none⟩ = some x ∧ W.cell? ⟨g, 1, none⟩ = some y ∧ W.cell? ⟨g, 2, none⟩ = some z := by
  refine ⟨?_, ?_, ?_⟩ <;> (rw [cell_of_row _ _ _ _ _ _ h.blk]; rfl)
end
theorem vld255 : vldS 255 [] = true := by decide
theorem wfNil : WfW [] := by unfold WfW; decide

set_option maxHeartbeats 4000000 in
set_option maxRecDepth 100000 in
theorem semaConserves_c (start : Int) (v : Value) (n0 : Nat) (w : World) (hst : 0 ≤ start ∧ start ≤ 255) (h : RdA w v n0) (hl : n0 ≤ 9223372036854775807) :
    Calls Try.prog 14 #[.int .u8 start, v] w fun e w' => e = .returned (.bool true) ∧ Below w.heap.size w w' := by
  obtain ⟨ao, ca, rfl, hca, hna, pa⟩ := h
  have HPA := Lib.hid pa
  have hst0 : 0 ≤ start := hst.1
  have hst1 : start ≤ 255 := hst.2
  clear pa hst
  go_enter Try.func14, Try.ntmps14
  go_upto_region 3 with (fail)
  obtain ⟨WX, hWX⟩ : ∃ WX, WX = w.alloc (.cells #[.int .i64 start, .slice none 0 0] 71) := ⟨_, rfl⟩
  rw [← hWX]
  have S0 : Hid (LS WX (w.heap.size + 1) w.heap.size 71 (.int .i64 start) (.slice none 0 0) []) := by subst hWX; exact LS.mk (heap_alloc_new w _) (by omega) (FrW.nil _ _)
  have HB0 : Hid (Below w.heap.size w WX) := by subst hWX; exact (Below.refl _ w).alloc (Nat.le_refl _) _
  have HS0 : Hid (w.heap.size + 1 ≤ WX.heap.size) := by subst hWX; show _ ≤ _; simp
  clear hWX
  go_cut [24, 25, 26] (fun s24 s25 s26 wx => ∃ n : Nat, s24 = .slice ao n ca ∧ s25 = .int .i64 n ∧ s26 = .int .i64 0 ∧ n ≤ 60 ∧ n ≤ n0 ∧ WX = wx)
  case first =>
    by_cases h10 : n0 ≤ 60
    · have hi : (n0 : Int) ≤ 60 := by omega
      go_wp2
      go_meet
      exact ⟨n0, rfl, rfl, rfl, h10, Nat.le_refl _, rfl⟩
    · have hi : ¬ (n0 : Int) ≤ 60 := by omega
      go_wp2
      go_meet
      exact ⟨60, rfl, rfl, rfl, Nat.le_refl _, by omega, rfl⟩
  case rest =>
    obtain ⟨n, rfl, rfl, rfl, hn1, hn2, rfl⟩ := hcut
    have hcell := fun k (hk : k < n) => HPA.out k (by omega)
    have HCELL := Lib.hid hcell
    clear HPA hcell
    go_wp2_with fail
    go_loopg [6, 7, 26] n (fun gg s6 s7 s26 wr => ∃ k : Nat, k ≤ n ∧ n - k ≤ gg ∧ s26 = .int .i64 k ∧ ∃ p q : Int, s6 = .int .i64 p ∧ s7 = .int .i64 q ∧ 0 ≤ p ∧ p ≤ k ∧ 0 ≤ q ∧ q ≤ k ∧ Aside (Below w.heap.size w wr ∧ w.heap.size + 1 ≤ wr.heap.size ∧ ∃ c y l, LS wr (w.heap.size + 1) w.heap.size 71 (.int .i64 c) y l ∧ vldS c l = true ∧ WfW l ∧ l.length ≤ k ∧ p + c = start + q))
    case atStart =>
      exact ⟨0, Nat.zero_le _, by omega, rfl, 0, 0, rfl, rfl, by omega, by omega, by omega, by omega, HB0.out, HS0.out, start, _, [], S0.out, vldS_iff.2 ⟨hst0, hst1, OrdW.nil, by simp, .inr rfl⟩, wfNil, Nat.zero_le _, by omega⟩
    case round =>
      obtain ⟨k, hk, hg, rfl, p, q, rfl, rfl, hp0, hp1, hq0, hq1, A⟩ := hrel
      clear S0 HB0 HS0
      by_cases hlt : k < n
      · have hltz : (k : Int) < (n : Int) := by omega
        obtain ⟨hB, hS, c, ys, l, L1, hvl, hwl, hll, hpc⟩ := A.out
        obtain ⟨hcb0, hcb1⟩ := vldS_bd hvl
        obtain ⟨aS, mS, cS, rfl, hmS⟩ := fr_shape L1.fr
        have HMS := Lib.hid hmS
        have hmb : mS ≤ 60 := by omega
        clear hmS A
        obtain ⟨b, off, x, y, z, rfl, hbs, c0, c1, c2, hx, hy, hz⟩ := HCELL.out k hlt
        rw [← hB.cell (p := ⟨b, _, none⟩) hbs] at c0 c1 c2
        have hbw : b < wr.heap.size := Nat.lt_of_lt_of_le hbs hB.size
        have hx0 := hx.1
        have hx1 := hx.2
        have hy0 := hy.1
        have hy1 := hy.2
        have hz0 := hz.1
        have hz1 := hz.2
        clear hx hy hz hbs
        obtain ⟨x0, x1, x2, x3⟩ := L1.cells
        have xs := blk_lt L1.blk
        have HV := Lib.hid hvl
        have HW := Lib.hid hwl
        have HL := Lib.hid hll
        have HLL : Hid (l.length ≤ 60) := by show _ ≤ _; omega
        have SX : Hid (LS ((wr.alloc (.cells #[.int .u8 x, .int .u8 y, .int .u8 z] 118)).alloc (.cells #[.int .i64 c, .slice aS mS cS] 71)) (w.heap.size + 1) w.heap.size 71 (.int .i64 c) (.slice aS mS cS) l) := (L1.alloc _).alloc _
        have VX : Hid (LW ((wr.alloc (.cells #[.int .u8 x, .int .u8 y, .int .u8 z] 118)).alloc (.cells #[.int .i64 c, .slice aS mS cS] 71)) (w.heap.size + 1) (wr.heap.size + 1) 71 (.int .i64 c) (.slice aS mS cS) l) :=
          ⟨by have := heap_alloc_new (wr.alloc (.cells #[.int .u8 x, .int .u8 y, .int .u8 z] 118)) (.cells #[.int .i64 c, .slice aS mS cS] 71); simpa using this, (L1.fr.alloc _).alloc _⟩
        have AX : Hid (LA ((wr.alloc (.cells #[.int .u8 x, .int .u8 y, .int .u8 z] 118)).alloc (.cells #[.int .i64 c, .slice aS mS cS] 71)) wr.heap.size 118 (.int .u8 x) (.int .u8 y) (.int .u8 z)) :=
          ⟨(Below.heap_alloc _ _ _ (by simp)).trans (heap_alloc_new wr _)⟩
        have HBX : Hid (Below w.heap.size w ((wr.alloc (.cells #[.int .u8 x, .int .u8 y, .int .u8 z] 118)).alloc (.cells #[.int .i64 c, .slice aS mS cS] 71))) := (hB.alloc hB.size _).alloc (by simp; omega) _
        have HSX : Hid (w.heap.size + 1 ≤ ((wr.alloc (.cells #[.int .u8 x, .int .u8 y, .int .u8 z] 118)).alloc (.cells #[.int .i64 c, .slice aS mS cS] 71)).heap.size) := by show _ ≤ _; simp; omega
        have HGX : Hid (wr.heap.size + 1 < ((wr.alloc (.cells #[.int .u8 x, .int .u8 y, .int .u8 z] 118)).alloc (.cells #[.int .i64 c, .slice aS mS cS] 71)).heap.size) := by show _ < _; simp
        clear L1 hB hvl hwl hll
        rcases (show x % 4 = 2 ∨ x % 4 = 3 ∨ (x % 4 ≠ 2 ∧ x % 4 ≠ 3) by omega) with hK | hK | hK
        · have hx4 : x % 4 = 2 := hK
          clear hK
          rcases cons_signal HV.out with ⟨w0, mm, hl, hc, he, h0, hv'⟩ | ⟨hl, hc, he⟩ | ⟨hl, hc0, hc1, he, hv'⟩
          · have HW' : Hid (WfW mm ∧ mm.length + 1 ≤ k) := by subst hl; exact ⟨HW.out.drop 1, HL.out⟩
            have HE := Lib.hid he
            have HV' := Lib.hid hv'
            subst hc
            clear he hv' hl HL
            generalize w0.proc = wk at HE h0
            go_wp2_with fail
            have h1 := signalS_c 0 _ l _ SX.out.fr.rd HW.out (by have := HLL.out; omega)
            rw [HE.out] at h1
            refine h1.mono ?_
            clear h1
            rintro e w1 ⟨v1, rfl, f1, b1⟩
            obtain ⟨a1, m1, c1, rfl, hm1⟩ := fr_shape f1
            clear hm1
            have hs1 : w.heap.size + 1 ≤ w1.heap.size := Nat.le_trans HSX.out b1.size
            have bg1 : wr.heap.size + 1 < w1.heap.size := Nat.lt_of_lt_of_le HGX.out b1.size
            have sS1 := Lib.hid ((SX.out.next b1).put (x' := .int .i64 (0)) (f1.mono HSX.out))
            obtain ⟨x10, x11, x12, x13⟩ := (SX.out.next b1).cells
            have bs1 := blk_lt (SX.out.next b1).blk
            obtain ⟨y10, y11, y12, y13⟩ := (VX.out.next b1).cells
            obtain ⟨z10, z11, z12⟩ := (AX.out.next b1).cells
            have HV1 := Lib.hid (((VX.out.next b1).low (g' := w.heap.size) (o := 0) (u := .int .i64 (0)) (by omega) (by omega)).low (g' := w.heap.size) (o := 1) (u := .slice a1 m1 c1) (by omega) (by omega))
            have HA1 := Lib.hid (((AX.out.next b1).low (g' := w.heap.size) (o := 0) (u := .int .i64 (0)) (by omega)).low (g' := w.heap.size) (o := 1) (u := .slice a1 m1 c1) (by omega))
            have hbb1 := ((HBX.out.trans (b1.mono HBX.out.size)).setCell (p := ⟨w.heap.size, 0, none⟩) (by show _ ≤ w.heap.size; omega) (.int .i64 (0))).setCell (p := ⟨w.heap.size, 1, none⟩) (by show _ ≤ w.heap.size; omega) (.slice a1 m1 c1)
            have HB1 := Lib.hid hbb1
            have HS1 : Hid (w.heap.size + 1 ≤ (((w1.setCell ⟨w.heap.size, 0, none⟩ (.int .i64 (0))).setCell ⟨w.heap.size, 1, none⟩ (.slice a1 m1 c1)).heap.size)) := by show _ ≤ _; simp only [World.setCell, Array.size_modify]; exact hs1
            clear f1 b1 hbb1 HBX HSX HGX SX VX AX
            go_wp2_with fail
            refine (validS_c (0) _ mm _ sS1.out.fr.rd HW'.out.1 (by have := HW'.out.2; omega)).mono ?_
            rintro e wT ⟨rfl, bT⟩
            rw [HV'.out]
            have ST := Lib.hid (sS1.out.next bT)
            have HBT := Lib.hid (HB1.out.trans (bT.mono HB1.out.size))
            have HST := Lib.hid (Nat.le_trans HS1.out bT.size)
            obtain ⟨t0, t1, t2, t3⟩ := ST.out.cells
            have btT := blk_lt ST.out.blk
            have hsum : ((p + 1) + (0) != start + (q + 1)) = false := by simp; omega
            clear bT
            go_wp2_with fail
            go_roundg (n - (k + 1))
            case measure => omega
            case rel =>
              refine ⟨k + 1, by omega, by omega, by go_num, p + 1, q + 1, (by first | rfl | go_num), (by first | rfl | go_num), by omega, by omega, by omega, by omega, HBT.out, HST.out, 0, _, mm, ST.out, HV'.out, HW'.out.1, by have := HW'.out.2; omega, by omega⟩
          · have HE := Lib.hid he
            subst hc
            clear he
            go_wp2_with fail
            have h1 := signalS_c 255 _ l _ SX.out.fr.rd HW.out (by have := HLL.out; omega)
            rw [HE.out] at h1
            refine h1.mono ?_
            clear h1
            rintro e w1 ⟨v1, rfl, f1, b1⟩
            obtain ⟨a1, m1, c1, rfl, hm1⟩ := fr_shape f1
            clear hm1
            have hs1 : w.heap.size + 1 ≤ w1.heap.size := Nat.le_trans HSX.out b1.size
            have bg1 : wr.heap.size + 1 < w1.heap.size := Nat.lt_of_lt_of_le HGX.out b1.size
            have sS1 := Lib.hid ((SX.out.next b1).put (x' := .int .i64 (255)) (f1.mono HSX.out))
            obtain ⟨x10, x11, x12, x13⟩ := (SX.out.next b1).cells
            have bs1 := blk_lt (SX.out.next b1).blk
            obtain ⟨y10, y11, y12, y13⟩ := (VX.out.next b1).cells
            obtain ⟨z10, z11, z12⟩ := (AX.out.next b1).cells
            have HV1 := Lib.hid (((VX.out.next b1).low (g' := w.heap.size) (o := 0) (u := .int .i64 (255)) (by omega) (by omega)).low (g' := w.heap.size) (o := 1) (u := .slice a1 m1 c1) (by omega) (by omega))
            have HA1 := Lib.hid (((AX.out.next b1).low (g' := w.heap.size) (o := 0) (u := .int .i64 (255)) (by omega)).low (g' := w.heap.size) (o := 1) (u := .slice a1 m1 c1) (by omega))
            have hbb1 := ((HBX.out.trans (b1.mono HBX.out.size)).setCell (p := ⟨w.heap.size, 0, none⟩) (by show _ ≤ w.heap.size; omega) (.int .i64 (255))).setCell (p := ⟨w.heap.size, 1, none⟩) (by show _ ≤ w.heap.size; omega) (.slice a1 m1 c1)
            have HB1 := Lib.hid hbb1
            have HS1 : Hid (w.heap.size + 1 ≤ (((w1.setCell ⟨w.heap.size, 0, none⟩ (.int .i64 (255))).setCell ⟨w.heap.size, 1, none⟩ (.slice a1 m1 c1)).heap.size)) := by show _ ≤ _; simp only [World.setCell, Array.size_modify]; exact hs1
            clear f1 b1 hbb1 HBX HSX HGX SX VX AX
            go_wp2_with fail
            refine (validS_c (255) _ [] _ sS1.out.fr.rd wfNil (by have := (show ([] : List Wt).length ≤ 0 from Nat.le_refl _); omega)).mono ?_
            rintro e wT ⟨rfl, bT⟩
            rw [vld255]
            have ST := Lib.hid (sS1.out.next bT)
            have HBT := Lib.hid (HB1.out.trans (bT.mono HB1.out.size))
            have HST := Lib.hid (Nat.le_trans HS1.out bT.size)
            obtain ⟨t0, t1, t2, t3⟩ := ST.out.cells
            have btT := blk_lt ST.out.blk
            have hsum : ((p) + (255) != start + (q)) = false := by simp; omega
            clear bT
            go_wp2_with fail
            go_roundg (n - (k + 1))
            case measure => omega
            case rel =>
              refine ⟨k + 1, by omega, by omega, by go_num, p, q, (by first | rfl | go_num), (by first | rfl | go_num), by omega, by omega, by omega, by omega, HBT.out, HST.out, 255, _, [], ST.out, vld255, wfNil, by have := (show ([] : List Wt).length ≤ 0 from Nat.le_refl _); omega, by omega⟩
          · have HE := Lib.hid he
            have HV' := Lib.hid hv'
            clear he hv'
            go_wp2_with fail
            have h1 := signalS_c c _ l _ SX.out.fr.rd HW.out (by have := HLL.out; omega)
            rw [HE.out] at h1
            refine h1.mono ?_
            clear h1
            rintro e w1 ⟨v1, rfl, f1, b1⟩
            obtain ⟨a1, m1, c1, rfl, hm1⟩ := fr_shape f1
            clear hm1
            have hs1 : w.heap.size + 1 ≤ w1.heap.size := Nat.le_trans HSX.out b1.size
            have bg1 : wr.heap.size + 1 < w1.heap.size := Nat.lt_of_lt_of_le HGX.out b1.size
            have sS1 := Lib.hid ((SX.out.next b1).put (x' := .int .i64 (c + 1)) (f1.mono HSX.out))
            obtain ⟨x10, x11, x12, x13⟩ := (SX.out.next b1).cells
            have bs1 := blk_lt (SX.out.next b1).blk
            obtain ⟨y10, y11, y12, y13⟩ := (VX.out.next b1).cells
            obtain ⟨z10, z11, z12⟩ := (AX.out.next b1).cells
            have HV1 := Lib.hid (((VX.out.next b1).low (g' := w.heap.size) (o := 0) (u := .int .i64 (c + 1)) (by omega) (by omega)).low (g' := w.heap.size) (o := 1) (u := .slice a1 m1 c1) (by omega) (by omega))
            have HA1 := Lib.hid (((AX.out.next b1).low (g' := w.heap.size) (o := 0) (u := .int .i64 (c + 1)) (by omega)).low (g' := w.heap.size) (o := 1) (u := .slice a1 m1 c1) (by omega))
            have hbb1 := ((HBX.out.trans (b1.mono HBX.out.size)).setCell (p := ⟨w.heap.size, 0, none⟩) (by show _ ≤ w.heap.size; omega) (.int .i64 (c + 1))).setCell (p := ⟨w.heap.size, 1, none⟩) (by show _ ≤ w.heap.size; omega) (.slice a1 m1 c1)
            have HB1 := Lib.hid hbb1
            have HS1 : Hid (w.heap.size + 1 ≤ (((w1.setCell ⟨w.heap.size, 0, none⟩ (.int .i64 (c + 1))).setCell ⟨w.heap.size, 1, none⟩ (.slice a1 m1 c1)).heap.size)) := by show _ ≤ _; simp only [World.setCell, Array.size_modify]; exact hs1
            clear f1 b1 hbb1 HBX HSX HGX SX VX AX
            go_wp2_with fail
            refine (validS_c (c + 1) _ [] _ sS1.out.fr.rd wfNil (by have := (show ([] : List Wt).length ≤ 0 from Nat.le_refl _); omega)).mono ?_
            rintro e wT ⟨rfl, bT⟩
            rw [HV'.out]
            have ST := Lib.hid (sS1.out.next bT)
            have HBT := Lib.hid (HB1.out.trans (bT.mono HB1.out.size))
            have HST := Lib.hid (Nat.le_trans HS1.out bT.size)
            obtain ⟨t0, t1, t2, t3⟩ := ST.out.cells
            have btT := blk_lt ST.out.blk
            have hsum : ((p) + (c + 1) != start + (q + 1)) = false := by simp; omega
            clear bT
            go_wp2_with fail
            go_roundg (n - (k + 1))
            case measure => omega
            case rel =>
              refine ⟨k + 1, by omega, by omega, by go_num, p, q + 1, (by first | rfl | go_num), (by first | rfl | go_num), by omega, by omega, by omega, by omega, HBT.out, HST.out, c + 1, _, [], ST.out, HV'.out, wfNil, by have := (show ([] : List Wt).length ≤ 0 from Nat.le_refl _); omega, by omega⟩
        · have hx4 : x % 4 = 3 := hK
          clear hK
          obtain ⟨he, hv'⟩ := cons_cancel HV.out (y % 8)
          have HE := Lib.hid he
          have HV' := Lib.hid hv'
          have HW' : Hid (WfW (leaveW l (y % 8)) ∧ (leaveW l (y % 8)).length ≤ k) := ⟨HW.out.leave _, Nat.le_trans (leave_length _ _) HL.out⟩
          clear he hv'
          go_wp2_with fail
          have h1 := cancelS_c c (y % 8) _ l _ SX.out.fr.rd HW.out (by have := HLL.out; omega)
          rw [HE.out] at h1
          refine h1.mono ?_
          clear h1
          rintro e w1 ⟨v1, rfl, f1, b1⟩
          obtain ⟨a1, m1, c1, rfl, hm1⟩ := fr_shape f1
          clear hm1
          have hs1 : w.heap.size + 1 ≤ w1.heap.size := Nat.le_trans HSX.out b1.size
          have bg1 : wr.heap.size + 1 < w1.heap.size := Nat.lt_of_lt_of_le HGX.out b1.size
          have sS1 := Lib.hid ((SX.out.next b1).put (x' := .int .i64 (c)) (f1.mono HSX.out))
          obtain ⟨x10, x11, x12, x13⟩ := (SX.out.next b1).cells
          have bs1 := blk_lt (SX.out.next b1).blk
          obtain ⟨y10, y11, y12, y13⟩ := (VX.out.next b1).cells
          obtain ⟨z10, z11, z12⟩ := (AX.out.next b1).cells
          have HV1 := Lib.hid (((VX.out.next b1).low (g' := w.heap.size) (o := 0) (u := .int .i64 (c)) (by omega) (by omega)).low (g' := w.heap.size) (o := 1) (u := .slice a1 m1 c1) (by omega) (by omega))
          have HA1 := Lib.hid (((AX.out.next b1).low (g' := w.heap.size) (o := 0) (u := .int .i64 (c)) (by omega)).low (g' := w.heap.size) (o := 1) (u := .slice a1 m1 c1) (by omega))
          have hbb1 := ((HBX.out.trans (b1.mono HBX.out.size)).setCell (p := ⟨w.heap.size, 0, none⟩) (by show _ ≤ w.heap.size; omega) (.int .i64 (c))).setCell (p := ⟨w.heap.size, 1, none⟩) (by show _ ≤ w.heap.size; omega) (.slice a1 m1 c1)
          have HB1 := Lib.hid hbb1
          have HS1 : Hid (w.heap.size + 1 ≤ (((w1.setCell ⟨w.heap.size, 0, none⟩ (.int .i64 (c))).setCell ⟨w.heap.size, 1, none⟩ (.slice a1 m1 c1)).heap.size)) := by show _ ≤ _; simp only [World.setCell, Array.size_modify]; exact hs1
          clear f1 b1 hbb1 HBX HSX HGX SX VX AX
          go_wp2_with fail
          refine (validS_c (c) _ (leaveW l (y % 8)) _ sS1.out.fr.rd HW'.out.1 (by have := HW'.out.2; omega)).mono ?_
          rintro e wT ⟨rfl, bT⟩
          rw [HV'.out]
          have ST := Lib.hid (sS1.out.next bT)
          have HBT := Lib.hid (HB1.out.trans (bT.mono HB1.out.size))
          have HST := Lib.hid (Nat.le_trans HS1.out bT.size)
          obtain ⟨t0, t1, t2, t3⟩ := ST.out.cells
          have btT := blk_lt ST.out.blk
          have hsum : ((p) + (c) != start + (q)) = false := by simp; omega
          clear bT
          go_wp2_with fail
          go_roundg (n - (k + 1))
          case measure => omega
          case rel =>
            refine ⟨k + 1, by omega, by omega, by go_num, p, q, (by first | rfl | go_num), (by first | rfl | go_num), by omega, by omega, by omega, by omega, HBT.out, HST.out, c, _, (leaveW l (y % 8)), ST.out, HV'.out, HW'.out.1, by have := HW'.out.2; omega, by omega⟩
        · have hx2 : (x % 4 == 2) = false := by simp; omega
          have hx3 : (x % 4 == 3) = false := by simp; omega
          clear hK
          rcases cons_wait HV.out (show 0 ≤ y % 8 by omega) z with ⟨he, han⟩ | ⟨hc, he, hv'⟩ | ⟨hc, he, hv'⟩
          · have HE := Lib.hid he
            have HANY := Lib.hid han
            clear he han
            go_wp2_with fail
            have h1 := waitS_c c (y % 8) z _ l _ SX.out.fr.rd HW.out (by have := HLL.out; omega)
            rw [HE.out] at h1
            refine h1.mono ?_
            clear h1
            rintro e w1 ⟨v1, rfl, f1, b1⟩
            obtain ⟨a1, m1, c1, rfl, hm1⟩ := fr_shape f1
            clear hm1
            have hs1 : w.heap.size + 1 ≤ w1.heap.size := Nat.le_trans HSX.out b1.size
            have bg1 : wr.heap.size + 1 < w1.heap.size := Nat.lt_of_lt_of_le HGX.out b1.size
            have sS1 := Lib.hid ((SX.out.next b1).put (x' := .int .i64 (c)) (f1.mono HSX.out))
            obtain ⟨x10, x11, x12, x13⟩ := (SX.out.next b1).cells
            have bs1 := blk_lt (SX.out.next b1).blk
            obtain ⟨y10, y11, y12, y13⟩ := (VX.out.next b1).cells
            obtain ⟨z10, z11, z12⟩ := (AX.out.next b1).cells
            have HV1 := Lib.hid (((VX.out.next b1).low (g' := w.heap.size) (o := 0) (u := .int .i64 (c)) (by omega) (by omega)).low (g' := w.heap.size) (o := 1) (u := .slice a1 m1 c1) (by omega) (by omega))
            have HA1 := Lib.hid (((AX.out.next b1).low (g' := w.heap.size) (o := 0) (u := .int .i64 (c)) (by omega)).low (g' := w.heap.size) (o := 1) (u := .slice a1 m1 c1) (by omega))
            have hbb1 := ((HBX.out.trans (b1.mono HBX.out.size)).setCell (p := ⟨w.heap.size, 0, none⟩) (by show _ ≤ w.heap.size; omega) (.int .i64 (c))).setCell (p := ⟨w.heap.size, 1, none⟩) (by show _ ≤ w.heap.size; omega) (.slice a1 m1 c1)
            have HB1 := Lib.hid hbb1
            have HS1 : Hid (w.heap.size + 1 ≤ (((w1.setCell ⟨w.heap.size, 0, none⟩ (.int .i64 (c))).setCell ⟨w.heap.size, 1, none⟩ (.slice a1 m1 c1)).heap.size)) := by show _ ≤ _; simp only [World.setCell, Array.size_modify]; exact hs1
            clear f1 b1 hbb1 HBX HSX HGX SX VX AX
            go_wp2_with fail
            obtain ⟨W1, hW1⟩ : ∃ W1, W1 = (w1.setCell ⟨w.heap.size, 0, none⟩ (.int .i64 c)).setCell ⟨w.heap.size, 1, none⟩ (.slice a1 m1 c1) := ⟨_, rfl⟩
            rw [← hW1] at sS1 HB1 HS1 HV1 HA1 ⊢
            clear hW1 x10 x11 x12 x13 bs1 y10 y11 y12 y13 z10 z11 z12 bg1 hs1
            go_loopg [14, 64] mS (fun gg s14 s64 wq => ∃ j : Nat, j ≤ mS ∧ mS - j ≤ gg ∧ s64 = .int .i64 j ∧ s14 = .bool ((l.take j).any (fun z : Wt => decide (z.proc = y % 8))) ∧ Aside (Below W1.heap.size W1 wq))
            case atStart => exact ⟨0, Nat.zero_le _, by omega, rfl, by simp, Below.refl _ _⟩
            case round =>
              obtain ⟨j, hj, hgj, rfl, rfl, BQ⟩ := hrel
              obtain ⟨aa, mm, hsl, _, _, pv⟩ := (HV1.out.next BQ.out).fr.1.open_
              obtain ⟨z0, z1, z2⟩ := (HA1.out.next BQ.out).cells
              have bzq := blk_lt (HA1.out.next BQ.out).blk
              by_cases hlt : j < mS
              · have hltz : (j : Int) < (mS : Int) := by omega
                have hjl : j < l.length := by have := HMS.out; omega
                obtain ⟨b, off, ha, _, hbs, ca⟩ := pv (by omega)
                obtain rfl : aS = some ⟨b, off, none⟩ := by simp only [Value.slice.injEq] at hsl; rw [hsl.1, ha]
                obtain ⟨d0, d1, d2⟩ := ca j hjl
                have hsu : (l.take (j + 1)).any (fun z : Wt => decide (z.proc = y % 8)) = ((l.take j).any (fun z : Wt => decide (z.proc = y % 8)) || decide (l[j].proc = y % 8)) := by rw [List.take_succ_eq_append_getElem hjl, List.any_append]; simp
                have HSU := Lib.hid hsu
                clear hsu hsl ha pv ca
                cases hqq : (l.take j).any (fun z : Wt => decide (z.proc = y % 8)) with
                | true =>
                  have HQ := Lib.hid hqq
                  clear hqq
                  go_wp2_with fail
                  go_roundg (mS - (j + 1))
                  case measure => omega
                  case rel => exact ⟨j + 1, by omega, by omega, by go_num, by rw [HSU.out, HQ.out]; rfl, (BQ.out.alloc BQ.out.size _)⟩
                | false =>
                  have HQ := Lib.hid hqq
                  clear hqq
                  by_cases hep : l[j].proc = y % 8
                  · have HEP := Lib.hid hep
                    have hbq : (l[j].proc == y % 8) = true := by simp [hep]
                    clear hep
                    go_wp2_with fail
                    go_roundg (mS - (j + 1))
                    case measure => omega
                    case rel => exact ⟨j + 1, by omega, by omega, by go_num, by rw [HSU.out, HQ.out, decide_eq_true HEP.out]; rfl, (BQ.out.alloc BQ.out.size _)⟩
                  · have HEP := Lib.hid hep
                    have hbq : (l[j].proc == y % 8) = false := by simp [hep]
                    clear hep
                    go_wp2_with fail
                    go_roundg (mS - (j + 1))
                    case measure => omega
                    case rel => exact ⟨j + 1, by omega, by omega, by go_num, by rw [HSU.out, HQ.out, decide_eq_false HEP.out]; rfl, (BQ.out.alloc BQ.out.size _)⟩
              · have hltz : ¬ (j : Int) < (mS : Int) := by omega
                have hany : (l.take j).any (fun z : Wt => decide (z.proc = y % 8)) = true := by rw [List.take_of_length_le (by have := HMS.out; omega)]; exact HANY.out
                have sS2 := Lib.hid (sS1.out.next BQ.out)
                have HB2 := Lib.hid (HB1.out.trans (BQ.out.mono HB1.out.size))
                have HS2 := Lib.hid (Nat.le_trans HS1.out BQ.out.size)
                have HV2 := Lib.hid (HV1.out.next BQ.out)
                obtain ⟨x20, x21, x22, x23⟩ := sS2.out.cells
                have bs2 := blk_lt sS2.out.blk
                obtain ⟨y20, y21, y22, y23⟩ := HV2.out.cells
                have bv2 := blk_lt HV2.out.blk
                rw [hany]
                clear hany pv hsl BQ sS1 HB1 HS1 HV1 HA1 HMS HANY z0 z1 z2 bzq
                go_wp2_with fail
                refine (sameS_c c c _ _ l l _ sS2.out.fr.rd HV2.out.fr.rd (by have := HLL.out; omega) (by have := HLL.out; omega)).mono ?_
                rintro e w3 ⟨rfl, b3⟩
                rw [show decide (c = c ∧ l = l) = true from by simp]
                have sS3 := Lib.hid (sS2.out.next b3)
                have HB3 := Lib.hid (HB2.out.trans (b3.mono HB2.out.size))
                have HS3 := Lib.hid (Nat.le_trans HS2.out b3.size)
                obtain ⟨x30, x31, x32, x33⟩ := sS3.out.cells
                have bs3 := blk_lt sS3.out.blk
                clear b3 sS2 HB2 HS2 HV2 x20 x21 x22 x23 bs2 y20 y21 y22 y23 bv2
                go_wp2_with fail
                refine (validS_c (c) _ l _ sS3.out.fr.rd HW.out (by have := HL.out; omega)).mono ?_
                rintro e wT ⟨rfl, bT⟩
                rw [HV.out]
                have ST := Lib.hid (sS3.out.next bT)
                have HBT := Lib.hid (HB3.out.trans (bT.mono HB3.out.size))
                have HST := Lib.hid (Nat.le_trans HS3.out bT.size)
                obtain ⟨t0, t1, t2, t3⟩ := ST.out.cells
                have btT := blk_lt ST.out.blk
                have hsum : ((p) + (c) != start + (q)) = false := by simp; omega
                clear bT
                go_wp2_with fail
                go_roundg (n - (k + 1))
                case measure => omega
                case rel =>
                  refine ⟨k + 1, by omega, by omega, by go_num, p, q, (by first | rfl | go_num), (by first | rfl | go_num), by omega, by omega, by omega, by omega, HBT.out, HST.out, c, _, l, ST.out, HV.out, HW.out, by have := HL.out; omega, by omega⟩
          · have HE := Lib.hid he
            have HV' := Lib.hid hv'
            clear he hv'
            go_wp2_with fail
            have h1 := waitS_c c (y % 8) z _ l _ SX.out.fr.rd HW.out (by have := HLL.out; omega)
            rw [HE.out] at h1
            refine h1.mono ?_
            clear h1
            rintro e w1 ⟨v1, rfl, f1, b1⟩
            obtain ⟨a1, m1, c1, rfl, hm1⟩ := fr_shape f1
            clear hm1
            have hs1 : w.heap.size + 1 ≤ w1.heap.size := Nat.le_trans HSX.out b1.size
            have bg1 : wr.heap.size + 1 < w1.heap.size := Nat.lt_of_lt_of_le HGX.out b1.size
            have sS1 := Lib.hid ((SX.out.next b1).put (x' := .int .i64 (c - 1)) (f1.mono HSX.out))
            obtain ⟨x10, x11, x12, x13⟩ := (SX.out.next b1).cells
            have bs1 := blk_lt (SX.out.next b1).blk
            obtain ⟨y10, y11, y12, y13⟩ := (VX.out.next b1).cells
            obtain ⟨z10, z11, z12⟩ := (AX.out.next b1).cells
            have HV1 := Lib.hid (((VX.out.next b1).low (g' := w.heap.size) (o := 0) (u := .int .i64 (c - 1)) (by omega) (by omega)).low (g' := w.heap.size) (o := 1) (u := .slice a1 m1 c1) (by omega) (by omega))
            have HA1 := Lib.hid (((AX.out.next b1).low (g' := w.heap.size) (o := 0) (u := .int .i64 (c - 1)) (by omega)).low (g' := w.heap.size) (o := 1) (u := .slice a1 m1 c1) (by omega))
            have hbb1 := ((HBX.out.trans (b1.mono HBX.out.size)).setCell (p := ⟨w.heap.size, 0, none⟩) (by show _ ≤ w.heap.size; omega) (.int .i64 (c - 1))).setCell (p := ⟨w.heap.size, 1, none⟩) (by show _ ≤ w.heap.size; omega) (.slice a1 m1 c1)
            have HB1 := Lib.hid hbb1
            have HS1 : Hid (w.heap.size + 1 ≤ (((w1.setCell ⟨w.heap.size, 0, none⟩ (.int .i64 (c - 1))).setCell ⟨w.heap.size, 1, none⟩ (.slice a1 m1 c1)).heap.size)) := by show _ ≤ _; simp only [World.setCell, Array.size_modify]; exact hs1
            clear f1 b1 hbb1 HBX HSX HGX SX VX AX
            go_wp2_with fail
            refine (validS_c (c - 1) _ l _ sS1.out.fr.rd HW.out (by have := HL.out; omega)).mono ?_
            rintro e wT ⟨rfl, bT⟩
            rw [HV'.out]
            have ST := Lib.hid (sS1.out.next bT)
            have HBT := Lib.hid (HB1.out.trans (bT.mono HB1.out.size))
            have HST := Lib.hid (Nat.le_trans HS1.out bT.size)
            obtain ⟨t0, t1, t2, t3⟩ := ST.out.cells
            have btT := blk_lt ST.out.blk
            have hsum : ((p + 1) + (c - 1) != start + (q)) = false := by simp; omega
            clear bT
            go_wp2_with fail
            go_roundg (n - (k + 1))
            case measure => omega
            case rel =>
              refine ⟨k + 1, by omega, by omega, by go_num, p + 1, q, (by first | rfl | go_num), (by first | rfl | go_num), by omega, by omega, by omega, by omega, HBT.out, HST.out, c - 1, _, l, ST.out, HV'.out, HW.out, by have := HL.out; omega, by omega⟩
          · have HE := Lib.hid he
            have HV' := Lib.hid hv'
            have HW' : Hid (WfW (enterW l ⟨y % 8, z, 0⟩) ∧ (enterW l ⟨y % 8, z, 0⟩).length ≤ k + 1) := ⟨HW.out.enter (WalkArith.wf_i64 (by show _ ≤ y % 8 ∧ y % 8 ≤ _; omega)), by have := enterW_length l ⟨y % 8, z, 0⟩; have := HL.out; omega⟩
            subst hc
            clear he hv'
            go_wp2_with fail
            have h1 := waitS_c 0 (y % 8) z _ l _ SX.out.fr.rd HW.out (by have := HLL.out; omega)
            rw [HE.out] at h1
            refine h1.mono ?_
            clear h1
            rintro e w1 ⟨v1, rfl, f1, b1⟩
            obtain ⟨a1, m1, c1, rfl, hm1⟩ := fr_shape f1
            clear hm1
            have hs1 : w.heap.size + 1 ≤ w1.heap.size := Nat.le_trans HSX.out b1.size
            have bg1 : wr.heap.size + 1 < w1.heap.size := Nat.lt_of_lt_of_le HGX.out b1.size
            have sS1 := Lib.hid ((SX.out.next b1).put (x' := .int .i64 (0)) (f1.mono HSX.out))
            obtain ⟨x10, x11, x12, x13⟩ := (SX.out.next b1).cells
            have bs1 := blk_lt (SX.out.next b1).blk
            obtain ⟨y10, y11, y12, y13⟩ := (VX.out.next b1).cells
            obtain ⟨z10, z11, z12⟩ := (AX.out.next b1).cells
            have HV1 := Lib.hid (((VX.out.next b1).low (g' := w.heap.size) (o := 0) (u := .int .i64 (0)) (by omega) (by omega)).low (g' := w.heap.size) (o := 1) (u := .slice a1 m1 c1) (by omega) (by omega))
            have HA1 := Lib.hid (((AX.out.next b1).low (g' := w.heap.size) (o := 0) (u := .int .i64 (0)) (by omega)).low (g' := w.heap.size) (o := 1) (u := .slice a1 m1 c1) (by omega))
            have hbb1 := ((HBX.out.trans (b1.mono HBX.out.size)).setCell (p := ⟨w.heap.size, 0, none⟩) (by show _ ≤ w.heap.size; omega) (.int .i64 (0))).setCell (p := ⟨w.heap.size, 1, none⟩) (by show _ ≤ w.heap.size; omega) (.slice a1 m1 c1)
            have HB1 := Lib.hid hbb1
            have HS1 : Hid (w.heap.size + 1 ≤ (((w1.setCell ⟨w.heap.size, 0, none⟩ (.int .i64 (0))).setCell ⟨w.heap.size, 1, none⟩ (.slice a1 m1 c1)).heap.size)) := by show _ ≤ _; simp only [World.setCell, Array.size_modify]; exact hs1
            clear f1 b1 hbb1 HBX HSX HGX SX VX AX
            go_wp2_with fail
            refine (validS_c (0) _ (enterW l ⟨y % 8, z, 0⟩) _ sS1.out.fr.rd HW'.out.1 (by have := HW'.out.2; omega)).mono ?_
            rintro e wT ⟨rfl, bT⟩
            rw [HV'.out]
            have ST := Lib.hid (sS1.out.next bT)
            have HBT := Lib.hid (HB1.out.trans (bT.mono HB1.out.size))
            have HST := Lib.hid (Nat.le_trans HS1.out bT.size)
            obtain ⟨t0, t1, t2, t3⟩ := ST.out.cells
            have btT := blk_lt ST.out.blk
            have hsum : ((p) + (0) != start + (q)) = false := by simp; omega
            clear bT
            go_wp2_with fail
            go_roundg (n - (k + 1))
            case measure => omega
            case rel =>
              refine ⟨k + 1, by omega, by omega, by go_num, p, q, (by first | rfl | go_num), (by first | rfl | go_num), by omega, by omega, by omega, by omega, HBT.out, HST.out, 0, _, (enterW l ⟨y % 8, z, 0⟩), ST.out, HV'.out, HW'.out.1, by have := HW'.out.2; omega, by omega⟩
      · have hltz : ¬ (k : Int) < (n : Int) := by omega
        have HBE := Lib.hid A.out.1
        clear A
        go_wp2_with fail
        refine (awake25_c _).mono ?_
        rintro e w13 ⟨rfl, b13⟩
        have HB13 := Lib.hid (HBE.out.trans (b13.mono HBE.out.size))
        clear b13
        go_wp2_with fail
        go_ret
        exact ⟨rfl, HB13.out⟩
end Go.Proofs.Ytglbfmcbojjglaa

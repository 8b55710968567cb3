/-
  SemaWrong: for every two numbers the call returns true, and nothing that was there before has turned. No conditions but that they are bytes.
-/
import Derived.Test.YtglbfmcbojjglaaAwake25
import Derived.Test.YtglbfmcbojjglaaPlainC
import Derived.Deep.DeepCutAuto
namespace Go.Proofs.Ytglbfmcbojjglaa
open Go.RowKit

/-- A variable that is never written again: its block and the list that it leads to. -/
structure SV (W : World) (g : Nat) (t : TypeId) (x y : Value) (l : List Wt) : Prop where
  blk : W.heap[g]? = some (.cells #[x, y] t (0, 0))
  rd : RdW W 0 y l

section
variable {W W' : World} {g : Nat} {t : TypeId} {x y : Value} {l : List Wt}
theorem SV.next (h : SV W g t x y l) (hb : Below W.heap.size W W') : SV W' g t x y l := ⟨(hb.block _ (blk_lt h.blk)).trans h.blk, h.rd.below hb⟩
theorem SV.alloc (h : SV W g t x y l) (ob : Obj) : SV (W.alloc ob) g t x y l := h.next ((Below.refl _ _).alloc (Nat.le_refl _) _)
theorem SV.new (hf : RdW W 0 y l) (hg : W.heap.size = g) : SV (W.alloc (.cells #[x, y] t)) g t x y l := by
  subst hg
  exact ⟨heap_alloc_new W _, hf.alloc _⟩
theorem SV.cells (h : SV W g t x y l) : W.cell? ⟨g, 0, none⟩ = some x ∧ W.cell? ⟨g, 1, none⟩ = some y ∧ W.frozen? ⟨g, 0, none⟩ = false ∧ W.frozen? ⟨g, 1, none⟩ = false := twoBlk h.blk
theorem rd_shape {v : Value} {B : Nat} (h : RdW W B v l) : ∃ a m c, v = .slice a m c ∧ m = l.length := by
  obtain ⟨a, c, hv, _⟩ := h.open_
  exact ⟨a, _, c, hv, rfl⟩
theorem rd_lit (l : List Wt) (hg : W.heap.size = g) : RdW (W.alloc (.cells (cellsW l).toArray t)) 0 (.slice (some ⟨g, 0, none⟩) l.length l.length) l := by
  subst hg
  refine ⟨_, _, rfl, Nat.le_refl _, by simp, by rw [cellsW_length], fun _ => ⟨W.heap.size, 0, rfl, Nat.zero_le _, by simp, fun j u hj => ?_⟩⟩
  have h := heap_alloc_new W (.cells (cellsW l).toArray t)
  simp only [World.cell?, h]
  simpa using hj
end

def BadS (w W : World) (g : Nat) (c : Int) (y : Value) (l : List Wt) : Prop := SV W g 71 (.int .i64 c) y l ∧ vldS c l = false ∧ (WfW l ∧ l.length ≤ 2) ∧ Below w.heap.size w W ∧ RdW W 0 (.slice (some ⟨w.heap.size, 0, none⟩) 1 1) [⟨1, 0, 0⟩]
def BadE (w W : World) (g : Nat) (c : Bool) (y : Value) (l : List Wt) : Prop := SV W g 73 (.bool c) y l ∧ vldE c l = false ∧ (WfW l ∧ l.length ≤ 2) ∧ Below w.heap.size w W ∧ RdW W 0 (.slice (some ⟨w.heap.size, 0, none⟩) 1 1) [⟨1, 0, 0⟩]

theorem bad_wait {c : Int} {l : List Wt} (h : vldS c l = false) (p r : Int) : waitS c l p r = (c, l, false, 2) := by simp [waitS, h]
theorem bad_signal {c : Int} {l : List Wt} (h : vldS c l = false) : signalS c l = (c, l, -1, 2) := by simp [signalS, h]
theorem bad_cancelS {c : Int} {l : List Wt} (h : vldS c l = false) (p : Int) : cancelS c l p = (l, 2) := by simp [cancelS, h]
theorem bad_raise {c : Bool} {l : List Wt} (h : vldE c l = false) : raiseE c l = (c, l, [], 2) := by simp [raiseE, h]
theorem bad_lower {c : Bool} {l : List Wt} (h : vldE c l = false) : lowerE c l = (c, 2) := by simp [lowerE, h]
theorem bad_until {c : Bool} {l : List Wt} (h : vldE c l = false) (p r : Int) : untilE c l p r = (l, false, 2) := by simp [untilE, h]
theorem bad_cancelE {c : Bool} {l : List Wt} (h : vldE c l = false) (p : Int) : cancelE c l p = (l, 2) := by simp [cancelE, h]
theorem wr1 : signalS 255 [] = (255, [], -1, 4) := by
  have h : vldS 255 [] = true := by decide
  simp [signalS, h]
theorem wr2 : waitS 0 [⟨1, 0, 0⟩] 1 0 = (0, [⟨1, 0, 0⟩], false, 2) := by
  have h : mayL [⟨1, 0, 0⟩] 1 = false := by decide
  simp [waitS, h]
theorem wr3 : untilE false [⟨1, 0, 0⟩] 1 0 = ([⟨1, 0, 0⟩], false, 2) := by
  have h : mayL [⟨1, 0, 0⟩] 1 = false := by decide
  simp [untilE, h]
theorem wr4 : waitS 0 [] (-1) 0 = (0, [], false, 2) := by
  have h : mayL [] (-1) = false := by decide
  simp [waitS, h]
theorem wr5 (p : Int) (hp : 0 ≤ p) : untilE true [] (-1 - p) 0 = ([], false, 2) := by
  have h : mayL [] (-1 - p) = false := by
    simp only [mayL, Bool.and_eq_false_iff, decide_eq_false_iff_not]
    exact .inl (by omega)
  simp [untilE, h]

theorem wiS0 (h : Nat) (w' : World) : (Instr.index 121 (.agg #[.int .i64 (-1), .slice none 0 0, .int .i64 (256), .slice none 0 0, .int .i64 (1), .slice (some ⟨h, 0, none⟩) 1 1, .int .i64 (0), .slice (some ⟨h + 1, 0, none⟩) 1 1, .int .i64 (0), .slice (some ⟨h + 1 + 1, 0, none⟩) 1 1, .int .i64 (0), .slice (some ⟨h + 1 + 1 + 1, 0, none⟩) 2 2]) (.int .u8 0)).run Try.prog w' = .ok (.agg #[.int .i64 (-1), .slice none 0 0]) w' := by kernel_rfl
theorem wiS1 (h : Nat) (w' : World) : (Instr.index 121 (.agg #[.int .i64 (-1), .slice none 0 0, .int .i64 (256), .slice none 0 0, .int .i64 (1), .slice (some ⟨h, 0, none⟩) 1 1, .int .i64 (0), .slice (some ⟨h + 1, 0, none⟩) 1 1, .int .i64 (0), .slice (some ⟨h + 1 + 1, 0, none⟩) 1 1, .int .i64 (0), .slice (some ⟨h + 1 + 1 + 1, 0, none⟩) 2 2]) (.int .u8 1)).run Try.prog w' = .ok (.agg #[.int .i64 (256), .slice none 0 0]) w' := by kernel_rfl
theorem wiS2 (h : Nat) (w' : World) : (Instr.index 121 (.agg #[.int .i64 (-1), .slice none 0 0, .int .i64 (256), .slice none 0 0, .int .i64 (1), .slice (some ⟨h, 0, none⟩) 1 1, .int .i64 (0), .slice (some ⟨h + 1, 0, none⟩) 1 1, .int .i64 (0), .slice (some ⟨h + 1 + 1, 0, none⟩) 1 1, .int .i64 (0), .slice (some ⟨h + 1 + 1 + 1, 0, none⟩) 2 2]) (.int .u8 2)).run Try.prog w' = .ok (.agg #[.int .i64 (1), .slice (some ⟨h, 0, none⟩) 1 1]) w' := by kernel_rfl
theorem wiS3 (h : Nat) (w' : World) : (Instr.index 121 (.agg #[.int .i64 (-1), .slice none 0 0, .int .i64 (256), .slice none 0 0, .int .i64 (1), .slice (some ⟨h, 0, none⟩) 1 1, .int .i64 (0), .slice (some ⟨h + 1, 0, none⟩) 1 1, .int .i64 (0), .slice (some ⟨h + 1 + 1, 0, none⟩) 1 1, .int .i64 (0), .slice (some ⟨h + 1 + 1 + 1, 0, none⟩) 2 2]) (.int .u8 3)).run Try.prog w' = .ok (.agg #[.int .i64 (0), .slice (some ⟨h + 1, 0, none⟩) 1 1]) w' := by kernel_rfl
theorem wiS4 (h : Nat) (w' : World) : (Instr.index 121 (.agg #[.int .i64 (-1), .slice none 0 0, .int .i64 (256), .slice none 0 0, .int .i64 (1), .slice (some ⟨h, 0, none⟩) 1 1, .int .i64 (0), .slice (some ⟨h + 1, 0, none⟩) 1 1, .int .i64 (0), .slice (some ⟨h + 1 + 1, 0, none⟩) 1 1, .int .i64 (0), .slice (some ⟨h + 1 + 1 + 1, 0, none⟩) 2 2]) (.int .u8 4)).run Try.prog w' = .ok (.agg #[.int .i64 (0), .slice (some ⟨h + 1 + 1, 0, none⟩) 1 1]) w' := by kernel_rfl
theorem wiS5 (h : Nat) (w' : World) : (Instr.index 121 (.agg #[.int .i64 (-1), .slice none 0 0, .int .i64 (256), .slice none 0 0, .int .i64 (1), .slice (some ⟨h, 0, none⟩) 1 1, .int .i64 (0), .slice (some ⟨h + 1, 0, none⟩) 1 1, .int .i64 (0), .slice (some ⟨h + 1 + 1, 0, none⟩) 1 1, .int .i64 (0), .slice (some ⟨h + 1 + 1 + 1, 0, none⟩) 2 2]) (.int .u8 5)).run Try.prog w' = .ok (.agg #[.int .i64 (0), .slice (some ⟨h + 1 + 1 + 1, 0, none⟩) 2 2]) w' := by kernel_rfl
theorem pickS (i : Int) (hi : 0 ≤ i ∧ i < 6) (w : World) : ∃ c a m cc l, (∀ w', (Instr.index 121 (.agg #[.int .i64 (-1), .slice none 0 0, .int .i64 (256), .slice none 0 0, .int .i64 (1), .slice (some ⟨w.heap.size, 0, none⟩) 1 1, .int .i64 (0), .slice (some ⟨w.heap.size + 1, 0, none⟩) 1 1, .int .i64 (0), .slice (some ⟨w.heap.size + 1 + 1, 0, none⟩) 1 1, .int .i64 (0), .slice (some ⟨w.heap.size + 1 + 1 + 1, 0, none⟩) 2 2]) (.int .u8 i)).run Try.prog w' = .ok (.agg #[.int .i64 c, .slice a m cc]) w') ∧ vldS c l = false ∧ (WfW l ∧ l.length ≤ 2) ∧ RdW ((((w.alloc (.cells #[.int .i64 1, .int .i64 0, .int .u8 0] 56)).alloc (.cells #[.int .i64 (-1), .int .i64 0, .int .u8 0] 56)).alloc (.cells #[.int .i64 0, .int .i64 0, .int .u8 1] 56)).alloc (.cells #[.int .i64 1, .int .i64 0, .int .u8 0, .int .i64 2, .int .i64 1, .int .u8 0] 56)) 0 (.slice a m cc) l := by
  have R0 : RdW (w.alloc (.cells #[.int .i64 1, .int .i64 0, .int .u8 0] 56)) 0 (.slice (some ⟨w.heap.size, 0, none⟩) 1 1) [⟨1, 0, 0⟩] := rd_lit [⟨1, 0, 0⟩] rfl
  obtain rfl | rfl | rfl | rfl | rfl | rfl : i = 0 ∨ i = 1 ∨ i = 2 ∨ i = 3 ∨ i = 4 ∨ i = 5 := by omega
  · exact ⟨_, _, _, _, [], fun w' => wiS0 w.heap.size w', by decide, ⟨by unfold WfW; decide, by decide⟩, (FrW.nil _ 0).1⟩
  · exact ⟨_, _, _, _, [], fun w' => wiS1 w.heap.size w', by decide, ⟨by unfold WfW; decide, by decide⟩, (FrW.nil _ 0).1⟩
  · exact ⟨_, _, _, _, [⟨1, 0, 0⟩], fun w' => wiS2 w.heap.size w', by decide, ⟨by unfold WfW; decide, by decide⟩, (((R0.alloc _).alloc _).alloc _)⟩
  · exact ⟨_, _, _, _, [⟨-1, 0, 0⟩], fun w' => wiS3 w.heap.size w', by decide, ⟨by unfold WfW; decide, by decide⟩, (((rd_lit [⟨-1, 0, 0⟩] (by simp)).alloc _).alloc _)⟩
  · exact ⟨_, _, _, _, [⟨0, 0, 1⟩], fun w' => wiS4 w.heap.size w', by decide, ⟨by unfold WfW; decide, by decide⟩, ((rd_lit [⟨0, 0, 1⟩] (by simp)).alloc _)⟩
  · exact ⟨_, _, _, _, [⟨1, 0, 0⟩, ⟨2, 1, 0⟩], fun w' => wiS5 w.heap.size w', by decide, ⟨by unfold WfW; decide, by decide⟩, (rd_lit [⟨1, 0, 0⟩, ⟨2, 1, 0⟩] (by simp))⟩
theorem wiE0 (h h' : Nat) (w' : World) : (Instr.index 122 (.agg #[.bool true, .slice (some ⟨h, 0, none⟩) 1 1, .bool false, .slice (some ⟨h', 0, none⟩) 2 2, .bool false, .slice (some ⟨h' + 1, 0, none⟩) 1 1, .bool false, .slice (some ⟨h' + 1 + 1, 0, none⟩) 1 1]) (.int .u8 0)).run Try.prog w' = .ok (.agg #[.bool true, .slice (some ⟨h, 0, none⟩) 1 1]) w' := by kernel_rfl
theorem wiE1 (h h' : Nat) (w' : World) : (Instr.index 122 (.agg #[.bool true, .slice (some ⟨h, 0, none⟩) 1 1, .bool false, .slice (some ⟨h', 0, none⟩) 2 2, .bool false, .slice (some ⟨h' + 1, 0, none⟩) 1 1, .bool false, .slice (some ⟨h' + 1 + 1, 0, none⟩) 1 1]) (.int .u8 1)).run Try.prog w' = .ok (.agg #[.bool false, .slice (some ⟨h', 0, none⟩) 2 2]) w' := by kernel_rfl
theorem wiE2 (h h' : Nat) (w' : World) : (Instr.index 122 (.agg #[.bool true, .slice (some ⟨h, 0, none⟩) 1 1, .bool false, .slice (some ⟨h', 0, none⟩) 2 2, .bool false, .slice (some ⟨h' + 1, 0, none⟩) 1 1, .bool false, .slice (some ⟨h' + 1 + 1, 0, none⟩) 1 1]) (.int .u8 2)).run Try.prog w' = .ok (.agg #[.bool false, .slice (some ⟨h' + 1, 0, none⟩) 1 1]) w' := by kernel_rfl
theorem wiE3 (h h' : Nat) (w' : World) : (Instr.index 122 (.agg #[.bool true, .slice (some ⟨h, 0, none⟩) 1 1, .bool false, .slice (some ⟨h', 0, none⟩) 2 2, .bool false, .slice (some ⟨h' + 1, 0, none⟩) 1 1, .bool false, .slice (some ⟨h' + 1 + 1, 0, none⟩) 1 1]) (.int .u8 3)).run Try.prog w' = .ok (.agg #[.bool false, .slice (some ⟨h' + 1 + 1, 0, none⟩) 1 1]) w' := by kernel_rfl
theorem pickE (i : Int) (hi : 0 ≤ i ∧ i < 4) (w w7 : World) (R7 : RdW w7 0 (.slice (some ⟨w.heap.size, 0, none⟩) 1 1) [⟨1, 0, 0⟩]) : ∃ c a m cc l, (∀ w', (Instr.index 122 (.agg #[.bool true, .slice (some ⟨w.heap.size, 0, none⟩) 1 1, .bool false, .slice (some ⟨w7.heap.size, 0, none⟩) 2 2, .bool false, .slice (some ⟨w7.heap.size + 1, 0, none⟩) 1 1, .bool false, .slice (some ⟨w7.heap.size + 1 + 1, 0, none⟩) 1 1]) (.int .u8 i)).run Try.prog w' = .ok (.agg #[.bool c, .slice a m cc]) w') ∧ vldE c l = false ∧ (WfW l ∧ l.length ≤ 2) ∧ RdW (((w7.alloc (.cells #[.int .i64 1, .int .i64 0, .int .u8 0, .int .i64 1, .int .i64 0, .int .u8 0] 56)).alloc (.cells #[.int .i64 0, .int .i64 0, .int .u8 1] 56)).alloc (.cells #[.int .i64 (-1), .int .i64 0, .int .u8 0] 56)) 0 (.slice a m cc) l := by
  obtain rfl | rfl | rfl | rfl : i = 0 ∨ i = 1 ∨ i = 2 ∨ i = 3 := by omega
  · exact ⟨_, _, _, _, [⟨1, 0, 0⟩], fun w' => wiE0 w.heap.size w7.heap.size w', by decide, ⟨by unfold WfW; decide, by decide⟩, (((R7.alloc _).alloc _).alloc _)⟩
  · exact ⟨_, _, _, _, [⟨1, 0, 0⟩, ⟨1, 0, 0⟩], fun w' => wiE1 w.heap.size w7.heap.size w', by decide, ⟨by unfold WfW; decide, by decide⟩, (((rd_lit [⟨1, 0, 0⟩, ⟨1, 0, 0⟩] rfl).alloc _).alloc _)⟩
  · exact ⟨_, _, _, _, [⟨0, 0, 1⟩], fun w' => wiE2 w.heap.size w7.heap.size w', by decide, ⟨by unfold WfW; decide, by decide⟩, ((rd_lit [⟨0, 0, 1⟩] (by simp)).alloc _)⟩
  · exact ⟨_, _, _, _, [⟨-1, 0, 0⟩], fun w' => wiE3 w.heap.size w7.heap.size w', by decide, ⟨by unfold WfW; decide, by decide⟩, (rd_lit [⟨-1, 0, 0⟩] (by simp))⟩

set_option maxHeartbeats 4000000 in
set_option maxRecDepth 100000 in
theorem semaWrong_c (way proc : Int) (w : World) (hw : 0 ≤ way ∧ way ≤ 255) (hp : 0 ≤ proc ∧ proc ≤ 255) :
    Calls Try.prog 16 #[.int .u8 way, .int .u8 proc] w fun e w' => e = .returned (.bool true) ∧ Below w.heap.size w w' := by
  have hw0 := hw.1
  have hw1 := hw.2
  have hp0 := hp.1
  have hp1 := hp.2
  clear hw hp
  go_enter Try.func16, Try.ntmps16
  go_upto_region 2 with (fail)
  go_cut [6] (fun s6 wx => ∃ g : Nat, s6 = .pointer (some ⟨g, 0, none⟩) ∧ ∃ c y l, BadS w wx g c y l)
  case first =>
    obtain ⟨c, a, m, cc, l, hix, hv, hwl, hR⟩ := pickS (way % 6) (by omega) w
    have HV := Lib.hid hv
    have HWL := Lib.hid hwl
    have HR := Lib.hid hR
    clear hv hwl hR
    go_wp2
    go_meet
    have R0 : RdW (w.alloc (.cells #[.int .i64 1, .int .i64 0, .int .u8 0] 56)) 0 (.slice (some ⟨w.heap.size, 0, none⟩) 1 1) [⟨1, 0, 0⟩] := rd_lit [⟨1, 0, 0⟩] rfl
    exact ⟨w.heap.size + 1 + 1 + 1 + 1, rfl, c, .slice a m cc, l, SV.new HR.out (by simp), HV.out, HWL.out, (((((Below.refl _ w).alloc (Nat.le_refl _) _).alloc (by simp) _).alloc (by simp; omega) _).alloc (by simp; omega) _).alloc (by simp; omega) _, (((R0.alloc _).alloc _).alloc _).alloc _⟩
  case rest =>
    obtain ⟨g, rfl, c, y, l, hS0, hvl, hwl, hB0, hR0⟩ := hcut
    have XS0 := Lib.hid hS0
    have HV := Lib.hid hvl
    have HW := Lib.hid hwl
    have HB0 := Lib.hid hB0
    have R0 := Lib.hid hR0
    obtain ⟨aS, mS, cS, rfl, hml⟩ := rd_shape hS0.rd
    clear hml
    obtain ⟨x0, x1, x2, x3⟩ := hS0.cells
    have xs := blk_lt hS0.blk
    clear hS0 hvl hwl hB0 hR0
    go_wp2_with fail
    have h1 := waitS_c c proc 0 _ l _ XS0.out.rd HW.out.1 (by have := HW.out.2; omega)
    rw [bad_wait HV.out] at h1
    refine h1.mono ?_
    clear h1
    rintro e w1 ⟨v1, rfl, f1, b1⟩
    obtain ⟨a1, m1, c1, rfl, hm1⟩ := fr_shape f1
    clear hm1
    have XA1 := Lib.hid (SV.new (x := .int .i64 c) (t := 71) f1.rd rfl)
    have XS1 := Lib.hid ((XS0.out.next b1).alloc (.cells #[.int .i64 c, .slice a1 m1 c1] 71))
    have R1 := Lib.hid ((R0.out.below b1).alloc (.cells #[.int .i64 c, .slice a1 m1 c1] 71))
    have hb1 := HB0.out.trans (b1.mono HB0.out.size)
    have HB1 := Lib.hid (hb1.alloc hb1.size (.cells #[.int .i64 c, .slice a1 m1 c1] 71))
    obtain ⟨xXS10, xXS11, xXS12, xXS13⟩ := (XS0.out.next b1).cells
    have bsXS1 := blk_lt (XS0.out.next b1).blk
    clear f1 b1 hb1 HB0 XS0 R0
    go_wp2_with fail
    have h2 := signalS_c c _ l _ XS1.out.rd HW.out.1 (by have := HW.out.2; omega)
    rw [bad_signal HV.out] at h2
    refine h2.mono ?_
    clear h2
    rintro e w2 ⟨v2, rfl, f2, b2⟩
    obtain ⟨a2, m2, c2, rfl, hm2⟩ := fr_shape f2
    clear hm2
    have XB2 := Lib.hid (SV.new (x := .int .i64 c) (t := 71) f2.rd rfl)
    have XS2 := Lib.hid ((XS1.out.next b2).alloc (.cells #[.int .i64 c, .slice a2 m2 c2] 71))
    have XA2 := Lib.hid ((XA1.out.next b2).alloc (.cells #[.int .i64 c, .slice a2 m2 c2] 71))
    have R2 := Lib.hid ((R1.out.below b2).alloc (.cells #[.int .i64 c, .slice a2 m2 c2] 71))
    have hb2 := HB1.out.trans (b2.mono HB1.out.size)
    have HB2 := Lib.hid (hb2.alloc hb2.size (.cells #[.int .i64 c, .slice a2 m2 c2] 71))
    obtain ⟨xXS20, xXS21, xXS22, xXS23⟩ := (XS1.out.next b2).cells
    have bsXS2 := blk_lt (XS1.out.next b2).blk
    clear f2 b2 hb2 HB1 XS1 XA1 R1
    go_wp2_with fail
    have h3 := cancelS_c c proc _ l _ XS2.out.rd HW.out.1 (by have := HW.out.2; omega)
    rw [bad_cancelS HV.out] at h3
    refine h3.mono ?_
    clear h3
    rintro e w3 ⟨v3, rfl, f3, b3⟩
    obtain ⟨a3, m3, c3, rfl, hm3⟩ := fr_shape f3
    clear hm3
    have XC3 := Lib.hid (SV.new (x := .int .i64 c) (t := 71) f3.rd rfl)
    have XS3 := Lib.hid ((XS2.out.next b3).alloc (.cells #[.int .i64 c, .slice a3 m3 c3] 71))
    have XA3 := Lib.hid ((XA2.out.next b3).alloc (.cells #[.int .i64 c, .slice a3 m3 c3] 71))
    have XB3 := Lib.hid ((XB2.out.next b3).alloc (.cells #[.int .i64 c, .slice a3 m3 c3] 71))
    have R3 := Lib.hid ((R2.out.below b3).alloc (.cells #[.int .i64 c, .slice a3 m3 c3] 71))
    have hb3 := HB2.out.trans (b3.mono HB2.out.size)
    have HB3 := Lib.hid (hb3.alloc hb3.size (.cells #[.int .i64 c, .slice a3 m3 c3] 71))
    obtain ⟨xXS30, xXS31, xXS32, xXS33⟩ := (XS2.out.next b3).cells
    have bsXS3 := blk_lt (XS2.out.next b3).blk
    clear f3 b3 hb3 HB2 XS2 XA2 XB2 R2
    go_wp2_with fail
    refine (validS_c c _ l _ XS3.out.rd HW.out.1 (by have := HW.out.2; omega)).mono ?_
    rintro e w4 ⟨rfl, b4⟩
    rw [HV.out]
    have HB4 := Lib.hid (HB3.out.trans (b4.mono HB3.out.size))
    have XS4 := Lib.hid (XS3.out.next b4)
    have XA4 := Lib.hid (XA3.out.next b4)
    have XB4 := Lib.hid (XB3.out.next b4)
    have XC4 := Lib.hid (XC3.out.next b4)
    have R4 := Lib.hid (R3.out.below b4)
    obtain ⟨xXA40, xXA41, xXA42, xXA43⟩ := XA4.out.cells
    have bsXA4 := blk_lt XA4.out.blk
    obtain ⟨xXS40, xXS41, xXS42, xXS43⟩ := XS4.out.cells
    have bsXS4 := blk_lt XS4.out.blk
    clear b4 HB3 XS3 XA3 XB3 XC3 R3
    go_wp2_with fail
    refine (sameS_c c c _ _ l l _ XA4.out.rd XS4.out.rd (by have := HW.out.2; omega) (by have := HW.out.2; omega)).mono ?_
    rintro e w5 ⟨rfl, b5⟩
    rw [show decide (c = c ∧ l = l) = true from by simp]
    have HB5 := Lib.hid (HB4.out.trans (b5.mono HB4.out.size))
    have XS5 := Lib.hid (XS4.out.next b5)
    have XB5 := Lib.hid (XB4.out.next b5)
    have XC5 := Lib.hid (XC4.out.next b5)
    have R5 := Lib.hid (R4.out.below b5)
    obtain ⟨xXB50, xXB51, xXB52, xXB53⟩ := XB5.out.cells
    have bsXB5 := blk_lt XB5.out.blk
    obtain ⟨xXS50, xXS51, xXS52, xXS53⟩ := XS5.out.cells
    have bsXS5 := blk_lt XS5.out.blk
    clear b5 HB4 XS4 XB4 XC4 R4
    go_wp2_with fail
    refine (sameS_c c c _ _ l l _ XB5.out.rd XS5.out.rd (by have := HW.out.2; omega) (by have := HW.out.2; omega)).mono ?_
    rintro e w6 ⟨rfl, b6⟩
    rw [show decide (c = c ∧ l = l) = true from by simp]
    have HB6 := Lib.hid (HB5.out.trans (b6.mono HB5.out.size))
    have XS6 := Lib.hid (XS5.out.next b6)
    have XC6 := Lib.hid (XC5.out.next b6)
    have R6 := Lib.hid (R5.out.below b6)
    obtain ⟨xXC60, xXC61, xXC62, xXC63⟩ := XC6.out.cells
    have bsXC6 := blk_lt XC6.out.blk
    obtain ⟨xXS60, xXS61, xXS62, xXS63⟩ := XS6.out.cells
    have bsXS6 := blk_lt XS6.out.blk
    clear b6 HB5 XS5 XC5 R5
    go_wp2_with fail
    refine (sameS_c c c _ _ l l _ XC6.out.rd XS6.out.rd (by have := HW.out.2; omega) (by have := HW.out.2; omega)).mono ?_
    rintro e w7 ⟨rfl, b7⟩
    rw [show decide (c = c ∧ l = l) = true from by simp]
    have HB7 := Lib.hid (HB6.out.trans (b7.mono HB6.out.size))
    have R7 := Lib.hid (R6.out.below b7)
    clear b7 HB6 R6
    clear HV HW
    go_upto_region 8 with (fail)
    go_cut [15] (fun s15 wx => ∃ g : Nat, s15 = .pointer (some ⟨g, 0, none⟩) ∧ ∃ c y l, BadE w wx g c y l)
    case first =>
      obtain ⟨c, a, m, cc, l, hix, hv, hwl, hR⟩ := pickE (way % 4) (by omega) w w7 R7.out
      have HV := Lib.hid hv
      have HWL := Lib.hid hwl
      have HR := Lib.hid hR
      clear hv hwl hR
      go_wp2
      go_meet
      have hs := HB7.out.size
      exact ⟨w7.heap.size + 1 + 1 + 1, rfl, c, .slice a m cc, l, SV.new HR.out (by simp), HV.out, HWL.out, (((HB7.out.alloc hs _).alloc (by simp; omega) _).alloc (by simp; omega) _).alloc (by simp; omega) _, (((R7.out.alloc _).alloc _).alloc _).alloc _⟩
    case rest =>
      obtain ⟨g, rfl, c, y, l, hS0, hvl, hwl, hB0, hR0⟩ := hcut
      have XS10 := Lib.hid hS0
      have HV := Lib.hid hvl
      have HW := Lib.hid hwl
      have HB10 := Lib.hid hB0
      have R10 := Lib.hid hR0
      clear HB7 R7
      obtain ⟨aS, mS, cS, rfl, hml⟩ := rd_shape hS0.rd
      clear hml
      obtain ⟨x0, x1, x2, x3⟩ := hS0.cells
      have xs := blk_lt hS0.blk
      clear hS0 hvl hwl hB0 hR0
      go_wp2_with fail
      have h11 := raiseE_c c _ l _ XS10.out.rd HW.out.1 (by have := HW.out.2; omega)
      rw [bad_raise HV.out] at h11
      refine h11.mono ?_
      clear h11
      rintro e w11 ⟨v11, u11, rfl, f11, i11, b11⟩
      obtain ⟨a11, m11, c11, rfl, hm11⟩ := fr_shape f11
      clear hm11
      obtain ⟨a11', m11', c11', rfl, hm11'⟩ := own_shape i11
      obtain rfl : m11' = 0 := hm11'
      clear i11
      have XA11 := Lib.hid (SV.new (x := .bool c) (t := 73) f11.rd rfl)
      have XS11 := Lib.hid ((XS10.out.next b11).alloc (.cells #[.bool c, .slice a11 m11 c11] 73))
      have R11 := Lib.hid ((R10.out.below b11).alloc (.cells #[.bool c, .slice a11 m11 c11] 73))
      have hb11 := HB10.out.trans (b11.mono HB10.out.size)
      have HB11 := Lib.hid (hb11.alloc hb11.size (.cells #[.bool c, .slice a11 m11 c11] 73))
      obtain ⟨xXS110, xXS111, xXS112, xXS113⟩ := (XS10.out.next b11).cells
      have bsXS11 := blk_lt (XS10.out.next b11).blk
      clear f11 b11 hb11 HB10 XS10 R10
      go_wp2_with fail
      have h12 := lowerE_c c _ l _ XS11.out.rd HW.out.1 (by have := HW.out.2; omega)
      rw [bad_lower HV.out] at h12
      refine h12.mono ?_
      clear h12
      rintro e w12 ⟨v12, rfl, f12, b12⟩
      obtain ⟨a12, m12, c12, rfl, hm12⟩ := fr_shape f12
      clear hm12
      have XB12 := Lib.hid (SV.new (x := .bool c) (t := 73) f12.rd rfl)
      have XS12 := Lib.hid ((XS11.out.next b12).alloc (.cells #[.bool c, .slice a12 m12 c12] 73))
      have XA12 := Lib.hid ((XA11.out.next b12).alloc (.cells #[.bool c, .slice a12 m12 c12] 73))
      have R12 := Lib.hid ((R11.out.below b12).alloc (.cells #[.bool c, .slice a12 m12 c12] 73))
      have hb12 := HB11.out.trans (b12.mono HB11.out.size)
      have HB12 := Lib.hid (hb12.alloc hb12.size (.cells #[.bool c, .slice a12 m12 c12] 73))
      obtain ⟨xXS120, xXS121, xXS122, xXS123⟩ := (XS11.out.next b12).cells
      have bsXS12 := blk_lt (XS11.out.next b12).blk
      clear f12 b12 hb12 HB11 XS11 XA11 R11
      go_wp2_with fail
      have h13 := untilE_c c proc 0 _ l _ XS12.out.rd HW.out.1 (by have := HW.out.2; omega)
      rw [bad_until HV.out] at h13
      refine h13.mono ?_
      clear h13
      rintro e w13 ⟨v13, rfl, f13, b13⟩
      obtain ⟨a13, m13, c13, rfl, hm13⟩ := fr_shape f13
      clear hm13
      have XC13 := Lib.hid (SV.new (x := .bool c) (t := 73) f13.rd rfl)
      have XS13 := Lib.hid ((XS12.out.next b13).alloc (.cells #[.bool c, .slice a13 m13 c13] 73))
      have XA13 := Lib.hid ((XA12.out.next b13).alloc (.cells #[.bool c, .slice a13 m13 c13] 73))
      have XB13 := Lib.hid ((XB12.out.next b13).alloc (.cells #[.bool c, .slice a13 m13 c13] 73))
      have R13 := Lib.hid ((R12.out.below b13).alloc (.cells #[.bool c, .slice a13 m13 c13] 73))
      have hb13 := HB12.out.trans (b13.mono HB12.out.size)
      have HB13 := Lib.hid (hb13.alloc hb13.size (.cells #[.bool c, .slice a13 m13 c13] 73))
      obtain ⟨xXS130, xXS131, xXS132, xXS133⟩ := (XS12.out.next b13).cells
      have bsXS13 := blk_lt (XS12.out.next b13).blk
      clear f13 b13 hb13 HB12 XS12 XA12 XB12 R12
      go_wp2_with fail
      have h14 := cancelE_c c proc _ l _ XS13.out.rd HW.out.1 (by have := HW.out.2; omega)
      rw [bad_cancelE HV.out] at h14
      refine h14.mono ?_
      clear h14
      rintro e w14 ⟨v14, rfl, f14, b14⟩
      obtain ⟨a14, m14, c14, rfl, hm14⟩ := fr_shape f14
      clear hm14
      have XD14 := Lib.hid (SV.new (x := .bool c) (t := 73) f14.rd rfl)
      have XS14 := Lib.hid ((XS13.out.next b14).alloc (.cells #[.bool c, .slice a14 m14 c14] 73))
      have XA14 := Lib.hid ((XA13.out.next b14).alloc (.cells #[.bool c, .slice a14 m14 c14] 73))
      have XB14 := Lib.hid ((XB13.out.next b14).alloc (.cells #[.bool c, .slice a14 m14 c14] 73))
      have XC14 := Lib.hid ((XC13.out.next b14).alloc (.cells #[.bool c, .slice a14 m14 c14] 73))
      have R14 := Lib.hid ((R13.out.below b14).alloc (.cells #[.bool c, .slice a14 m14 c14] 73))
      have hb14 := HB13.out.trans (b14.mono HB13.out.size)
      have HB14 := Lib.hid (hb14.alloc hb14.size (.cells #[.bool c, .slice a14 m14 c14] 73))
      obtain ⟨xXS140, xXS141, xXS142, xXS143⟩ := (XS13.out.next b14).cells
      have bsXS14 := blk_lt (XS13.out.next b14).blk
      clear f14 b14 hb14 HB13 XS13 XA13 XB13 XC13 R13
      go_wp2_with fail
      refine (validE_c c _ l _ XS14.out.rd HW.out.1 (by have := HW.out.2; omega)).mono ?_
      rintro e w15 ⟨rfl, b15⟩
      rw [HV.out]
      have HB15 := Lib.hid (HB14.out.trans (b15.mono HB14.out.size))
      have XS15 := Lib.hid (XS14.out.next b15)
      have XA15 := Lib.hid (XA14.out.next b15)
      have XB15 := Lib.hid (XB14.out.next b15)
      have XC15 := Lib.hid (XC14.out.next b15)
      have XD15 := Lib.hid (XD14.out.next b15)
      have R15 := Lib.hid (R14.out.below b15)
      obtain ⟨xXA150, xXA151, xXA152, xXA153⟩ := XA15.out.cells
      have bsXA15 := blk_lt XA15.out.blk
      obtain ⟨xXS150, xXS151, xXS152, xXS153⟩ := XS15.out.cells
      have bsXS15 := blk_lt XS15.out.blk
      clear b15 HB14 XS14 XA14 XB14 XC14 XD14 R14
      go_wp2_with fail
      refine (sameE_c c c _ _ l l _ XA15.out.rd XS15.out.rd (by have := HW.out.2; omega) (by have := HW.out.2; omega)).mono ?_
      rintro e w16 ⟨rfl, b16⟩
      rw [show decide (c = c ∧ l = l) = true from by simp]
      have HB16 := Lib.hid (HB15.out.trans (b16.mono HB15.out.size))
      have XS16 := Lib.hid (XS15.out.next b16)
      have XB16 := Lib.hid (XB15.out.next b16)
      have XC16 := Lib.hid (XC15.out.next b16)
      have XD16 := Lib.hid (XD15.out.next b16)
      have R16 := Lib.hid (R15.out.below b16)
      obtain ⟨xXB160, xXB161, xXB162, xXB163⟩ := XB16.out.cells
      have bsXB16 := blk_lt XB16.out.blk
      obtain ⟨xXS160, xXS161, xXS162, xXS163⟩ := XS16.out.cells
      have bsXS16 := blk_lt XS16.out.blk
      clear b16 HB15 XS15 XB15 XC15 XD15 R15
      go_wp2_with fail
      refine (sameE_c c c _ _ l l _ XB16.out.rd XS16.out.rd (by have := HW.out.2; omega) (by have := HW.out.2; omega)).mono ?_
      rintro e w17 ⟨rfl, b17⟩
      rw [show decide (c = c ∧ l = l) = true from by simp]
      have HB17 := Lib.hid (HB16.out.trans (b17.mono HB16.out.size))
      have XS17 := Lib.hid (XS16.out.next b17)
      have XC17 := Lib.hid (XC16.out.next b17)
      have XD17 := Lib.hid (XD16.out.next b17)
      have R17 := Lib.hid (R16.out.below b17)
      obtain ⟨xXC170, xXC171, xXC172, xXC173⟩ := XC17.out.cells
      have bsXC17 := blk_lt XC17.out.blk
      obtain ⟨xXS170, xXS171, xXS172, xXS173⟩ := XS17.out.cells
      have bsXS17 := blk_lt XS17.out.blk
      clear b17 HB16 XS16 XC16 XD16 R16
      go_wp2_with fail
      refine (sameE_c c c _ _ l l _ XC17.out.rd XS17.out.rd (by have := HW.out.2; omega) (by have := HW.out.2; omega)).mono ?_
      rintro e w18 ⟨rfl, b18⟩
      rw [show decide (c = c ∧ l = l) = true from by simp]
      have HB18 := Lib.hid (HB17.out.trans (b18.mono HB17.out.size))
      have XS18 := Lib.hid (XS17.out.next b18)
      have XD18 := Lib.hid (XD17.out.next b18)
      have R18 := Lib.hid (R17.out.below b18)
      obtain ⟨xXD180, xXD181, xXD182, xXD183⟩ := XD18.out.cells
      have bsXD18 := blk_lt XD18.out.blk
      obtain ⟨xXS180, xXS181, xXS182, xXS183⟩ := XS18.out.cells
      have bsXS18 := blk_lt XS18.out.blk
      clear b18 HB17 XS17 XD17 R17
      go_wp2_with fail
      refine (sameE_c c c _ _ l l _ XD18.out.rd XS18.out.rd (by have := HW.out.2; omega) (by have := HW.out.2; omega)).mono ?_
      rintro e w19 ⟨rfl, b19⟩
      rw [show decide (c = c ∧ l = l) = true from by simp]
      have HB19 := Lib.hid (HB18.out.trans (b19.mono HB18.out.size))
      have R19 := Lib.hid (R18.out.below b19)
      clear b19 HB18 R18
      clear HV HW
      have XF20 := Lib.hid (SV.new (x := .int .i64 255) (t := 71) (FrW.nil w19 0).1 rfl)
      have R20 := Lib.hid (R19.out.alloc (.cells #[.int .i64 255, .slice none 0 0] 71))
      have HB20 := Lib.hid (HB19.out.alloc HB19.out.size (.cells #[.int .i64 255, .slice none 0 0] 71))
      clear HB19 R19
      go_wp2_with fail
      have h21 := signalS_c 255 (.slice none 0 0) [] _ XF20.out.rd (by unfold WfW; decide) (by simp)
      rw [wr1] at h21
      refine h21.mono ?_
      clear h21
      rintro e w21 ⟨v21, rfl, f21, b21⟩
      obtain ⟨a21, m21, c21, rfl, hm21⟩ := fr_shape f21
      clear hm21
      have XM21 := Lib.hid (SV.new (x := .int .i64 255) (t := 71) f21.rd rfl)
      have XF21 := Lib.hid ((XF20.out.next b21).alloc (.cells #[.int .i64 255, .slice a21 m21 c21] 71))
      have R21 := Lib.hid ((R20.out.below b21).alloc (.cells #[.int .i64 255, .slice a21 m21 c21] 71))
      have hb21 := HB20.out.trans (b21.mono HB20.out.size)
      have HB21 := Lib.hid (hb21.alloc hb21.size (.cells #[.int .i64 255, .slice a21 m21 c21] 71))
      clear f21 b21 hb21 HB20 XF20 R20
      go_wp2_with fail
      have h22 := waitS_c 0 1 0 _ [⟨1, 0, 0⟩] _ R21.out (by unfold WfW; decide) (by simp)
      rw [wr2] at h22
      refine h22.mono ?_
      clear h22
      rintro e w22 ⟨v22, rfl, f22, b22⟩
      obtain ⟨a22, m22, c22, rfl, hm22⟩ := fr_shape f22
      clear hm22
      have XF22 := Lib.hid ((XF21.out.next b22).alloc (.cells #[.int .i64 0, .slice a22 m22 c22] 71))
      have XM22 := Lib.hid ((XM21.out.next b22).alloc (.cells #[.int .i64 0, .slice a22 m22 c22] 71))
      have R22 := Lib.hid ((R21.out.below b22).alloc (.cells #[.int .i64 0, .slice a22 m22 c22] 71))
      have hb22 := HB21.out.trans (b22.mono HB21.out.size)
      have HB22 := Lib.hid (hb22.alloc hb22.size (.cells #[.int .i64 0, .slice a22 m22 c22] 71))
      clear f22 b22 hb22 HB21 XF21 XM21 R21
      go_wp2_with fail
      have h23 := untilE_c false 1 0 _ [⟨1, 0, 0⟩] _ R22.out (by unfold WfW; decide) (by simp)
      rw [wr3] at h23
      refine h23.mono ?_
      clear h23
      rintro e w23 ⟨v23, rfl, f23, b23⟩
      obtain ⟨a23, m23, c23, rfl, hm23⟩ := fr_shape f23
      clear hm23
      have XF23 := Lib.hid ((XF22.out.next b23).alloc (.cells #[.bool false, .slice a23 m23 c23] 73))
      have XM23 := Lib.hid ((XM22.out.next b23).alloc (.cells #[.bool false, .slice a23 m23 c23] 73))
      have hb23 := HB22.out.trans (b23.mono HB22.out.size)
      have HB23 := Lib.hid (hb23.alloc hb23.size (.cells #[.bool false, .slice a23 m23 c23] 73))
      clear f23 b23 hb23 HB22 XF22 XM22
      go_wp2_with fail
      have h24 := waitS_c 0 (-1) 0 (.slice none 0 0) [] _ XF23.out.rd (by unfold WfW; decide) (by simp)
      rw [wr4] at h24
      refine h24.mono ?_
      clear h24
      rintro e w24 ⟨v24, rfl, f24, b24⟩
      obtain ⟨a24, m24, c24, rfl, hm24⟩ := fr_shape f24
      clear hm24
      have XF24 := Lib.hid ((XF23.out.next b24).alloc (.cells #[.int .i64 0, .slice a24 m24 c24] 71))
      have XM24 := Lib.hid ((XM23.out.next b24).alloc (.cells #[.int .i64 0, .slice a24 m24 c24] 71))
      have hb24 := HB23.out.trans (b24.mono HB23.out.size)
      have HB24 := Lib.hid (hb24.alloc hb24.size (.cells #[.int .i64 0, .slice a24 m24 c24] 71))
      clear f24 b24 hb24 HB23 XF23 XM23
      go_wp2_with fail
      have h25 := untilE_c true (-1 - proc) 0 (.slice none 0 0) [] _ XF24.out.rd (by unfold WfW; decide) (by simp)
      rw [wr5 proc hp0] at h25
      refine h25.mono ?_
      clear h25
      rintro e w25 ⟨v25, rfl, f25, b25⟩
      obtain ⟨a25, m25, c25, rfl, hm25⟩ := fr_shape f25
      clear hm25
      have XF25 := Lib.hid ((XF24.out.next b25).alloc (.cells #[.bool true, .slice a25 m25 c25] 73))
      have XM25 := Lib.hid ((XM24.out.next b25).alloc (.cells #[.bool true, .slice a25 m25 c25] 73))
      have hb25 := HB24.out.trans (b25.mono HB24.out.size)
      have HB25 := Lib.hid (hb25.alloc hb25.size (.cells #[.bool true, .slice a25 m25 c25] 73))
      obtain ⟨xXM250, xXM251, xXM252, xXM253⟩ := (XM24.out.next b25).cells
      have bsXM25 := blk_lt (XM24.out.next b25).blk
      obtain ⟨xXF250, xXF251, xXF252, xXF253⟩ := (XF24.out.next b25).cells
      have bsXF25 := blk_lt (XF24.out.next b25).blk
      clear f25 b25 hb25 HB24 XF24 XM24
      go_wp2_with fail
      refine (sameS_c 255 255 _ _ [] [] _ XM25.out.rd XF25.out.rd (by simp) (by simp)).mono ?_
      rintro e w26 ⟨rfl, b26⟩
      rw [show decide ((255 : Int) = 255 ∧ ([] : List Wt) = []) = true from by simp]
      have HB26 := Lib.hid (HB25.out.trans (b26.mono HB25.out.size))
      clear b26 HB25 
      go_wp2_with fail
      refine (awake25_c _).mono ?_
      rintro e w27 ⟨rfl, b27⟩
      have HB27 := Lib.hid (HB26.out.trans (b27.mono HB26.out.size))
      clear b27
      go_wp2_with fail
      go_ret
      exact ⟨rfl, HB27.out⟩
end Go.Proofs.Ytglbfmcbojjglaa

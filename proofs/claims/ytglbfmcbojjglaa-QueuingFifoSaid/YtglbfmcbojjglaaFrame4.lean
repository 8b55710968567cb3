/-
  Arguments opened: a blackboard, a buffer by value. No conditions.
-/
import Derived.Test.YtglbfmcbojjglaaFrame2
import Derived.Test.YtglbfmcbojjglaaFrame3
namespace Go.Proofs.Ytglbfmcbojjglaa
open Go.ChangeShapes Go.WideShapes Go.ChangeAt Go.RowKit
set_option linter.unusedVariables false

theorem cellsBoard : Try.prog.cellsOf 131 = 3 := by kernel_rfl
theorem cellsBuffer : Try.prog.cellsOf 125 = 4 := by kernel_rfl
theorem trod_shapeB {H : Type} {enc : TypeId × Value → H} {W : World} {spare : Nat → Bool} {held : Bool} {n : Nat} {v : Value} {x : DataW H × List MemPlace}
    (hf : DataW.trod enc Try.prog W 0 spare held n 28 [v] = some x) : ∃ a len cap, v = .slice a len cap := by
  rcases Deep.open_slice Try.underlying28 hf with ⟨hcs, _⟩ | ⟨ad, l, c, m, n, D, Pl, hcs, _⟩
  · simp at hcs; exact ⟨_, _, _, hcs⟩
  · simp at hcs; exact ⟨_, _, _, hcs⟩

set_option maxRecDepth 100000 in
theorem open_board {H : Type} {enc : TypeId × Value → H} {W : World} {r : Reach} {b0 : Nat} {spare : Nat → Bool} {held : Bool} {v : Value} {d : DataW H} {p : List MemPlace}
    (hv : Value.okWide Try.prog W r b0 131 v) (h : DataW.Trod enc Try.prog W 0 spare held 131 v d p) :
    ∃ (n : Bool) (x : Int) (u : Value) (l : List Wt), v = .agg #[.bool n, .int .u8 x, u] ∧ (Lit.int .u8 x).wf = true ∧ RdW W 0 u l ∧ WfW l ∧ l.length ≤ maxLen := by
  obtain ⟨v0, v1, v2, y0, y1, y2, n, rfl, _, _, h0, h1, h2⟩ := Joins.open_agg3 Try.underlying131 (by kernel_rfl) cellsBoard hv h
  obtain ⟨z0, e0, _⟩ := DataW.trod_bool Try.underlying4 h0
  simp at e0
  subst e0
  obtain ⟨z1, e1, _, w1⟩ := DataW.trod_int Try.underlying5 h1
  simp at e1
  subst e1
  obtain ⟨a, len, cap, rfl⟩ := trod_shapeW h2
  obtain ⟨l, R, WF, _, LN, MX⟩ := open_wts h2
  exact ⟨z0, z1, _, l, rfl, w1, R, WF, by omega⟩

set_option maxRecDepth 100000 in
theorem open_buffer {H : Type} {enc : TypeId × Value → H} {W : World} {r : Reach} {b0 : Nat} {spare : Nat → Bool} {held : Bool} {v : Value} {d : DataW H} {p : List MemPlace}
    (hv : Value.okWide Try.prog W r b0 125 v) (h : DataW.Trod enc Try.prog W 0 spare held 125 v d p) :
    ∃ (n : Int) (vd vp vg : Value) (b : List Int) (l m : List Wt), v = .agg #[.int .i64 n, vd, vp, vg] ∧ (Lit.int .i64 n).wf = true ∧ RdI .u8 W 0 vd b ∧ (∀ z ∈ b, 0 ≤ z ∧ z ≤ 255) ∧ b.length ≤ maxLen ∧ RdW W 0 vp l ∧ WfW l ∧ l.length ≤ maxLen ∧ RdW W 0 vg m ∧ WfW m ∧ m.length ≤ maxLen := by
  obtain ⟨v0, v1, v2, v3, y0, y1, y2, y3, n, rfl, _, _, h0, h1, h2, h3⟩ := Joins.open_agg4 Try.underlying125 (by kernel_rfl) cellsBuffer hv h
  obtain ⟨z0, e0, _, w0⟩ := DataW.trod_int Try.underlying3 h0
  simp at e0
  subst e0
  obtain ⟨a1, len1, cap1, rfl⟩ := trod_shapeB h1
  obtain ⟨b, R1, BZ, MX1⟩ := open_bytes_arg (spare := spare) (held := held) ⟨n, h1⟩
  obtain ⟨a2, len2, cap2, rfl⟩ := trod_shapeW h2
  obtain ⟨l2, R2, WF2, _, LN2, MX2⟩ := open_wts h2
  obtain ⟨a3, len3, cap3, rfl⟩ := trod_shapeW h3
  obtain ⟨l3, R3, WF3, _, LN3, MX3⟩ := open_wts h3
  exact ⟨z0, _, _, _, b, l2, l3, rfl, w0, R1, BZ, MX1, R2, WF2, by omega, R3, WF3, by omega⟩
end Go.Proofs.Ytglbfmcbojjglaa

/-
  Arguments opened: a semaphore, an event by value. No conditions.
-/
import Derived.Test.YtglbfmcbojjglaaFrame
namespace Go.Proofs.Ytglbfmcbojjglaa
open Go.ChangeShapes Go.WideShapes Go.ChangeAt Go.RowKit
set_option linter.unusedVariables false

theorem trod_shapeW {H : Type} {enc : TypeId × Value → H} {W : World} {spare : Nat → Bool} {held : Bool} {n : Nat} {v : Value} {x : DataW H × List MemPlace}
    (hf : DataW.trod enc Try.prog W 0 spare held n 25 [v] = some x) : ∃ a len cap, v = .slice a len cap := by
  rcases Deep.open_slice Try.underlying25 hf with ⟨hcs, _⟩ | ⟨ad, l, c, m, n, D, Pl, hcs, _⟩
  · simp at hcs; exact ⟨_, _, _, hcs⟩
  · simp at hcs; exact ⟨_, _, _, hcs⟩

theorem cellsSema : Try.prog.cellsOf 71 = 2 := by kernel_rfl
theorem cellsEvent : Try.prog.cellsOf 73 = 2 := by kernel_rfl

set_option maxRecDepth 100000 in
theorem open_sema {H : Type} {enc : TypeId × Value → H} {W : World} {r : Reach} {b0 : Nat} {spare : Nat → Bool} {held : Bool} {v : Value} {d : DataW H} {p : List MemPlace}
    (hv : Value.okWide Try.prog W r b0 71 v) (h : DataW.Trod enc Try.prog W 0 spare held 71 v d p) :
    ∃ (n : Int) (u : Value) (l : List Wt), v = .agg #[.int .i64 n, u] ∧ (Lit.int .i64 n).wf = true ∧ RdW W 0 u l ∧ WfW l ∧ l.length ≤ maxLen := by
  obtain ⟨v0, v1, y0, y1, n, rfl, _, _, h0, h1⟩ := Joins.open_agg2 Try.underlying71 (by kernel_rfl) cellsSema hv h
  obtain ⟨z0, e0, _, w0⟩ := DataW.trod_int Try.underlying3 h0
  simp at e0
  subst e0
  obtain ⟨a, len, cap, rfl⟩ := trod_shapeW h1
  obtain ⟨l, R, WF, _, LN, MX⟩ := open_wts h1
  exact ⟨z0, _, l, rfl, w0, R, WF, by omega⟩

set_option maxRecDepth 100000 in
theorem open_event {H : Type} {enc : TypeId × Value → H} {W : World} {r : Reach} {b0 : Nat} {spare : Nat → Bool} {held : Bool} {v : Value} {d : DataW H} {p : List MemPlace}
    (hv : Value.okWide Try.prog W r b0 73 v) (h : DataW.Trod enc Try.prog W 0 spare held 73 v d p) :
    ∃ (n : Bool) (u : Value) (l : List Wt), v = .agg #[.bool n, u] ∧ RdW W 0 u l ∧ WfW l ∧ l.length ≤ maxLen := by
  obtain ⟨v0, v1, y0, y1, n, rfl, _, _, h0, h1⟩ := Joins.open_agg2 Try.underlying73 (by kernel_rfl) cellsEvent hv h
  obtain ⟨z0, e0, _⟩ := DataW.trod_bool Try.underlying4 h0
  simp at e0
  subst e0
  obtain ⟨a, len, cap, rfl⟩ := trod_shapeW h1
  obtain ⟨l, R, WF, _, LN, MX⟩ := open_wts h1
  exact ⟨z0, _, l, rfl, R, WF, by omega⟩
end Go.Proofs.Ytglbfmcbojjglaa

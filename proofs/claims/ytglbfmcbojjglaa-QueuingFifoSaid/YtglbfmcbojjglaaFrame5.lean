/-
  Arguments opened: a slice of acts of nacellelaw23, each of three bytes and a message. No conditions.
-/
import Derived.Test.YtglbfmcbojjglaaFrame4
import Derived.Test.YtglbfmcbojjglaaQueuingFifo
namespace Go.Proofs.Ytglbfmcbojjglaa
open Go.ChangeShapes Go.WideShapes Go.ChangeAt Go.RowKit
set_option linter.unusedVariables false

theorem cellsAct23 : Try.prog.cellsOf 66 = 4 := by kernel_rfl
set_option maxRecDepth 100000 in
theorem open_act23 {H : Type} {enc : TypeId × Value → H} {t : TypeId} {f0 f1 f2 f3 : Field} {W : World} {spare : Nat → Bool} {held : Bool} {n : Nat} {x : Addr} {cs : List Value} {y : DataW H × List MemPlace}
    (hs : Try.prog.underlying t = some (.struct #[f0, f1, f2, f3])) (hone : Deep.oneCellFields Try.prog #[f0, f1, f2, f3] = true) (i0 : Try.prog.underlying f0.type = some (.int .u8)) (i1 : Try.prog.underlying f1.type = some (.int .u8)) (i2 : Try.prog.underlying f2.type = some (.int .u8)) (i3 : f3.type = 28)
    (hc : W.cells? 0 x 4 = some cs) (ht : DataW.trod enc Try.prog W 0 spare held n t cs = some y) :
    ∃ z0 z1 z2 a m c u, W.cell? (x.add 0) = some (.int .u8 z0) ∧ W.cell? (x.add 1) = some (.int .u8 z1) ∧ W.cell? (x.add 2) = some (.int .u8 z2) ∧ W.cell? (x.add 3) = some (.slice a m c) ∧ (0 ≤ z0 ∧ z0 ≤ 255) ∧ (0 ≤ z1 ∧ z1 ≤ 255) ∧ (0 ≤ z2 ∧ z2 ≤ 255) ∧ RdI .u8 W 0 (.slice a m c) u ∧ m = u.length ∧ m ≤ 9223372036854775807 := by
  obtain ⟨_, hcl, hat⟩ := World.cells?_some hc
  obtain ⟨ys, n', _, _, _, hyl, hg⟩ := DataW.trod_struct hs ht
  obtain ⟨o0, k0⟩ := Deep.hone_of hone 0 f0 rfl
  obtain ⟨o1, k1⟩ := Deep.hone_of hone 1 f1 rfl
  obtain ⟨o2, k2⟩ := Deep.hone_of hone 2 f2 rfl
  obtain ⟨o3, k3⟩ := Deep.hone_of hone 3 f3 rfl
  have g0 := hg 0 f0 rfl
  have g1 := hg 1 f1 rfl
  have g2 := hg 2 f2 rfl
  have g3 := hg 3 f3 rfl
  rw [o0, k0] at g0
  rw [o1, k1] at g1
  rw [o2, k2] at g2
  rw [o3, k3, i3] at g3
  match cs, hcl, ys, hyl with
  | [u0, u1, u2, u3], _, [y0, y1, y2, y3], _ =>
    obtain ⟨z0, e0, _, w0⟩ := DataW.trod_int i0 g0
    obtain ⟨z1, e1, _, w1⟩ := DataW.trod_int i1 g1
    obtain ⟨z2, e2, _, w2⟩ := DataW.trod_int i2 g2
    simp at e0 e1 e2
    subst e0 e1 e2
    have g3' : DataW.trod enc Try.prog W 0 spare held n' 28 [u3] = some y3 := g3
    obtain ⟨a, m, c, rfl⟩ := trod_shapeB g3'
    obtain ⟨u, R, _, MX⟩ := open_bytes_arg (spare := spare) (held := held) ⟨n', g3'⟩
    have b0 := bounds_u8 w0
    have b1 := bounds_u8 w1
    have b2 := bounds_u8 w2
    obtain ⟨_, _, hv, _⟩ := R.open_
    simp only [Value.slice.injEq] at hv
    refine ⟨z0, z1, z2, a, m, c, u, hat 0 (by omega), hat 1 (by omega), hat 2 (by omega), hat 3 (by omega), by omega, by omega, by omega, R, hv.2.1, ?_⟩
    have := hv.2.1
    unfold maxLen at MX
    omega
set_option maxRecDepth 100000 in
theorem open_acts23 {H : Type} {enc : TypeId × Value → H} {W : World} {spare : Nat → Bool} {held : Bool} {a : Option Addr} {len cap : Nat} {d : DataW H} {p : List MemPlace}
    (h : DataW.Trod enc Try.prog W 0 spare held 63 (.slice a len cap) d p) : RdF W (.slice a len cap) len ∧ len ≤ maxLen := by
  obtain ⟨fuel, hf⟩ := h
  rcases Deep.open_slice Try.underlying63 hf with ⟨hcs, _⟩ | ⟨x, l, c, m, n, D, Pl, hcs, _, hl, hm, hmm, _, hi⟩
  · simp [Value.cells] at hcs
    obtain ⟨rfl, rfl, rfl⟩ := hcs
    exact ⟨⟨none, 0, rfl, Nat.le_refl _, fun _ => rfl, fun k hk => absurd hk (by omega)⟩, by unfold maxLen; omega⟩
  · simp [Value.cells] at hcs
    obtain ⟨rfl, rfl, rfl⟩ := hcs
    have hlm : len ≤ m := by subst hmm; split <;> omega
    simp only [cellsAct23] at hi
    refine ⟨⟨some x, cap, rfl, hl, by simp, fun k hk => ?_⟩, by omega⟩
    obtain ⟨cs0, hc0, ht0⟩ := hi 0 (by omega)
    obtain ⟨_, _, _, _, _, _, _, q0, _⟩ := open_act23 Try.underlying66 (by kernel_rfl) Try.underlying5 Try.underlying5 Try.underlying5 rfl hc0 ht0
    have hx : x = ⟨x.block, x.off, none⟩ := by
      have h2 : (x.add (0 * 4)).add 0 = x := by simp [Addr.add]
      rw [h2] at q0
      exact addr_of_cell q0
    obtain ⟨cs, hc, ht⟩ := hi k (by omega)
    obtain ⟨z0, z1, z2, a, m, c, u, r0, r1, r2, r3, b0, b1, b2, R, hm', hx'⟩ := open_act23 Try.underlying66 (by kernel_rfl) Try.underlying5 Try.underlying5 Try.underlying5 rfl hc ht
    rw [hx, addr_add, addr_add] at r0 r1 r2 r3
    exact ⟨x.block, x.off, z0, z1, z2, a, m, c, u, by rw [← hx], (by have := World.block_lt_of_cell? _ _ r0; exact this), r0, r1, r2, r3, b0, b1, b2, R, hm', hx'⟩
end Go.Proofs.Ytglbfmcbojjglaa

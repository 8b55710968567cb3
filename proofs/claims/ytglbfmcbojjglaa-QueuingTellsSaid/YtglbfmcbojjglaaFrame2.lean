/-
  Arguments opened: a port by value, a slice of bytes. No conditions.
-/
import Derived.Test.YtglbfmcbojjglaaFrame
namespace Go.Proofs.Ytglbfmcbojjglaa
open Go.ChangeShapes Go.WideShapes Go.ChangeAt Go.RowKit
set_option linter.unusedVariables false

theorem cellsPort : Try.prog.cellsOf 23 = 6 := by kernel_rfl

/-- A struct of a string, a byte, a bool and three ints, by value. -/
theorem open_six {H : Type} {enc : TypeId × Value → H} {P : Program} {t : TypeId} {f0 f1 f2 f3 f4 f5 : Field} {W : World} {r : Reach} {b0 : Nat} {spare : Nat → Bool} {held : Bool} {v : Value} {d : DataW H} {p : List MemPlace}
    (hs : P.underlying t = some (.struct #[f0, f1, f2, f3, f4, f5])) (hone : Deep.oneCellFields P #[f0, f1, f2, f3, f4, f5] = true) (hC : P.cellsOf t = 6)
    (i0 : P.underlying f0.type = some .string) (i1 : P.underlying f1.type = some (.int .u8)) (i2 : P.underlying f2.type = some .bool) (i3 : P.underlying f3.type = some (.int .i64)) (i4 : P.underlying f4.type = some (.int .i64)) (i5 : P.underlying f5.type = some (.int .i64))
    (hv : Value.okWide P W r b0 t v) (h : DataW.Trod enc P W 0 spare held t v d p) :
    ∃ (nm : ByteArray) (c : Int) (o : Bool) (s e q : Int), v = .agg #[.string nm, .int .u8 c, .bool o, .int .i64 s, .int .i64 e, .int .i64 q] ∧ (Lit.int .u8 c).wf = true ∧ (Lit.int .i64 s).wf = true ∧ (Lit.int .i64 e).wf = true ∧ (Lit.int .i64 q).wf = true := by
  obtain ⟨cs, rfl, hsz⟩ := okWide_struct hs hv
  obtain ⟨l⟩ := cs
  obtain ⟨fuel, hf⟩ := h
  obtain ⟨xs, n, _, _, _, hlen, hg⟩ := DataW.trod_struct hs hf
  obtain ⟨o0, k0⟩ := Deep.hone_of hone 0 f0 rfl
  obtain ⟨o1, k1⟩ := Deep.hone_of hone 1 f1 rfl
  obtain ⟨o2, k2⟩ := Deep.hone_of hone 2 f2 rfl
  obtain ⟨o3, k3⟩ := Deep.hone_of hone 3 f3 rfl
  obtain ⟨o4, k4⟩ := Deep.hone_of hone 4 f4 rfl
  obtain ⟨o5, k5⟩ := Deep.hone_of hone 5 f5 rfl
  have g0 := hg 0 f0 rfl
  have g1 := hg 1 f1 rfl
  have g2 := hg 2 f2 rfl
  have g3 := hg 3 f3 rfl
  have g4 := hg 4 f4 rfl
  have g5 := hg 5 f5 rfl
  rw [o0, k0] at g0
  rw [o1, k1] at g1
  rw [o2, k2] at g2
  rw [o3, k3] at g3
  rw [o4, k4] at g4
  rw [o5, k5] at g5
  match l, hsz.trans hC, xs, hlen with
  | [u0, u1, u2, u3, u4, u5], _, [y0, y1, y2, y3, y4, y5], _ =>
    obtain ⟨z0, e0, _⟩ := DataW.trod_string i0 g0
    obtain ⟨z1, e1, _, w1⟩ := DataW.trod_int i1 g1
    obtain ⟨z2, e2, _⟩ := DataW.trod_bool i2 g2
    obtain ⟨z3, e3, _, w3⟩ := DataW.trod_int i3 g3
    obtain ⟨z4, e4, _, w4⟩ := DataW.trod_int i4 g4
    obtain ⟨z5, e5, _, w5⟩ := DataW.trod_int i5 g5
    simp [Value.cells] at e0 e1 e2 e3 e4 e5
    subst e0 e1 e2 e3 e4 e5
    exact ⟨z0, z1, z2, z3, z4, z5, rfl, w1, w3, w4, w5⟩

set_option maxRecDepth 100000 in
theorem open_port {H : Type} {enc : TypeId × Value → H} {W : World} {r : Reach} {b0 : Nat} {spare : Nat → Bool} {held : Bool} {v : Value} {d : DataW H} {p : List MemPlace}
    (hv : Value.okWide Try.prog W r b0 23 v) (h : DataW.Trod enc Try.prog W 0 spare held 23 v d p) :
    ∃ (nm : ByteArray) (c : Int) (o : Bool) (s e q : Int), v = .agg #[.string nm, .int .u8 c, .bool o, .int .i64 s, .int .i64 e, .int .i64 q] ∧ (Lit.int .u8 c).wf = true ∧ (Lit.int .i64 s).wf = true ∧ (Lit.int .i64 e).wf = true ∧ (Lit.int .i64 q).wf = true :=
  open_six Try.underlying23 (by kernel_rfl) cellsPort Try.underlying9 Try.underlying5 Try.underlying4 Try.underlying3 Try.underlying3 Try.underlying3 hv h

theorem open_bytes_arg {H : Type} {enc : TypeId × Value → H} {W : World} {spare : Nat → Bool} {held : Bool} {a : Option Addr} {len cap : Nat} {d : DataW H} {p : List MemPlace}
    (h : DataW.Trod enc Try.prog W 0 spare held 28 (.slice a len cap) d p) : ∃ l : List Int, RdI .u8 W 0 (.slice a len cap) l ∧ (∀ z ∈ l, 0 ≤ z ∧ z ≤ 255) ∧ l.length ≤ maxLen := by
  obtain ⟨fuel, hf⟩ := h
  rcases Deep.open_slice Try.underlying28 hf with ⟨hcs, _⟩ | ⟨ad, l, c, m, n, D, Pl, hcs, _, hl, hm, hmm, _, hi⟩
  · simp [Value.cells] at hcs
    obtain ⟨rfl, rfl, rfl⟩ := hcs
    exact ⟨[], RdI.nil _ _ _, by simp, by simp⟩
  · simp [Value.cells] at hcs
    obtain ⟨rfl, rfl, rfl⟩ := hcs
    have hlm : len ≤ m := by subst hmm; split <;> omega
    rw [show Try.prog.cellsOf 5 = 1 by kernel_rfl] at hi
    have hel : ∀ k, k < len → ∃ z : Int, W.cell? (ad.add k) = some (.int .u8 z) ∧ (0 ≤ z ∧ z ≤ 255) := fun k hk => by
      obtain ⟨cs, hc, ht⟩ := hi k (by omega)
      obtain ⟨_, hcl, hat⟩ := World.cells?_some hc
      obtain ⟨z, rfl, _, hwz⟩ := DataW.trod_int Try.underlying5 ht
      have h0 := hat 0 (by omega)
      rw [Deep.add_add, Nat.mul_one, Nat.add_zero] at h0
      exact ⟨z, h0, by have := bounds_u8 hwz; omega⟩
    obtain ⟨l, hll, hp⟩ := exists_list len hel
    refine ⟨l, ?_, fun z hz => ?_, by omega⟩
    · refine ⟨some ad, cap, by rw [hll], by omega, by simp, by simp, fun h0 => ?_⟩
      have q0 := (hp 0 (by omega)).1
      have h2 : ad.add 0 = ad := by simp [Addr.add]
      rw [h2] at q0
      have hx := addr_of_cell q0
      refine ⟨ad.block, ad.off, by rw [← hx], Nat.zero_le _, World.block_lt_of_cell? _ _ q0, fun j u hu => ?_⟩
      have hjl : j < l.length := by have := (List.getElem?_eq_some_iff.1 hu).1; simpa using this
      have r0 := (hp j hjl).1
      rw [hx, addr_add] at r0
      rw [List.getElem?_map, List.getElem?_eq_getElem hjl] at hu
      simp at hu
      subst hu
      exact r0
    · obtain ⟨k, hk, rfl⟩ := List.getElem_of_mem hz
      exact (hp k hk).2
end Go.Proofs.Ytglbfmcbojjglaa

/-
  Arguments opened: a slice of messages; a state of a queuing port by value. No conditions.
-/
import Derived.Test.YtglbfmcbojjglaaFrame2
import Derived.Test.YtglbfmcbojjglaaFrame3
import Derived.Test.YtglbfmcbojjglaaQueA
namespace Go.Proofs.Ytglbfmcbojjglaa
open Go.ChangeShapes Go.WideShapes Go.ChangeAt Go.RowKit
set_option linter.unusedVariables false

theorem cellsQState : Try.prog.cellsOf 27 = 3 := by kernel_rfl
theorem trod_shapeB6 {H : Type} {enc : TypeId × Value → H} {W : World} {spare : Nat → Bool} {held : Bool} {n : Nat} {v : Value} {x : DataW H × List MemPlace}
    (hf : DataW.trod enc Try.prog W 0 spare held n 28 [v] = some x) : ∃ a len cap, v = .slice a len cap := by
  rcases Deep.open_slice Try.underlying28 hf with ⟨hcs, _⟩ | ⟨ad, l, c, m, n, D, Pl, hcs, _⟩
  · simp at hcs; exact ⟨_, _, _, hcs⟩
  · simp at hcs; exact ⟨_, _, _, hcs⟩
theorem trod_shapeQ {H : Type} {enc : TypeId × Value → H} {W : World} {spare : Nat → Bool} {held : Bool} {n : Nat} {v : Value} {x : DataW H × List MemPlace}
    (hf : DataW.trod enc Try.prog W 0 spare held n 24 [v] = some x) : ∃ a len cap, v = .slice a len cap := by
  rcases Deep.open_slice Try.underlying24 hf with ⟨hcs, _⟩ | ⟨ad, l, c, m, n, D, Pl, hcs, _⟩
  · simp at hcs; exact ⟨_, _, _, hcs⟩
  · simp at hcs; exact ⟨_, _, _, hcs⟩

set_option maxRecDepth 100000 in
theorem open_msgs {H : Type} {enc : TypeId × Value → H} {W : World} {spare : Nat → Bool} {held : Bool} {a : Option Addr} {len cap : Nat} {d : DataW H} {p : List MemPlace}
    (h : DataW.Trod enc Try.prog W 0 spare held 24 (.slice a len cap) d p) : ∃ q : List (List Int), RdQ W 0 (.slice a len cap) q ∧ q.length ≤ maxLen ∧ ∀ x ∈ q, x.length ≤ maxLen := by
  obtain ⟨fuel, hf⟩ := h
  rcases Deep.open_slice Try.underlying24 hf with ⟨hcs, _⟩ | ⟨ad, l, c, m, n, D, Pl, hcs, _, hl, hm, hmm, _, hi⟩
  · simp [Value.cells] at hcs
    obtain ⟨rfl, rfl, rfl⟩ := hcs
    exact ⟨[], ⟨[], ⟨none, 0, rfl, Nat.le_refl _, fun _ => rfl, rfl, fun h0 => absurd h0 (by simp)⟩, fun i u x hu => by simp at hu⟩, by unfold maxLen; simp, by simp⟩
  · simp [Value.cells] at hcs
    obtain ⟨rfl, rfl, rfl⟩ := hcs
    have hlm : len ≤ m := by subst hmm; split <;> omega
    rw [show Try.prog.cellsOf 28 = 1 by kernel_rfl] at hi
    have hel : ∀ k, k < len → ∃ z : Value × List Int, W.cell? (ad.add k) = some z.1 ∧ RdI .u8 W 0 z.1 z.2 ∧ z.2.length ≤ maxLen := fun k hk => by
      obtain ⟨cs, hc, ht⟩ := hi k (by omega)
      obtain ⟨_, hcl, hat⟩ := World.cells?_some hc
      match cs, hcl with
      | [u0], _ =>
        obtain ⟨a, m, c, rfl⟩ := trod_shapeB6 ht
        obtain ⟨x, R, _, MX⟩ := open_bytes_arg (spare := spare) (held := held) ⟨n, ht⟩
        have h0 := hat 0 (by omega)
        rw [Deep.add_add, Nat.mul_one, Nat.add_zero] at h0
        exact ⟨(_, x), h0, R, MX⟩
    obtain ⟨l, hll, hp⟩ := exists_list len hel
    refine ⟨l.map (·.2), ⟨l.map (·.1), ⟨some ad, cap, by simp [hll], by simp; omega, by simp, by simp, fun h0 => ?_⟩, fun i u x hu hx => ?_⟩, by simp; omega, fun x hx => ?_⟩
    · have h0' : 0 < l.length := by simpa using h0
      have q0 := (hp 0 h0').1
      have h2 : ad.add 0 = ad := by simp [Addr.add]
      rw [h2] at q0
      have hx := addr_of_cell q0
      refine ⟨ad.block, ad.off, by rw [← hx], Nat.zero_le _, World.block_lt_of_cell? _ _ q0, fun j u hu => ?_⟩
      have hjl : j < l.length := by have := (List.getElem?_eq_some_iff.1 hu).1; simpa using this
      have r0 := (hp j hjl).1
      rw [hx, addr_add] at r0
      rw [List.getElem?_map, List.getElem?_eq_getElem hjl] at hu
      simp at hu
      subst hu
      exact r0
    · rw [List.getElem?_map] at hu hx
      have hil : i < l.length := by
        by_cases hil : i < l.length
        · exact hil
        · rw [List.getElem?_eq_none (by omega)] at hu; simp at hu
      rw [List.getElem?_eq_getElem hil] at hu hx
      simp at hu hx
      subst hu hx
      exact (hp i hil).2.1
    · obtain ⟨z, hz, rfl⟩ := List.mem_map.1 hx
      obtain ⟨k, hk, rfl⟩ := List.getElem_of_mem hz
      exact (hp k hk).2.2

set_option maxRecDepth 100000 in
theorem open_qstate {H : Type} {enc : TypeId × Value → H} {W : World} {r : Reach} {b0 : Nat} {spare : Nat → Bool} {held : Bool} {v : Value} {d : DataW H} {p : List MemPlace}
    (hv : Value.okWide Try.prog W r b0 27 v) (h : DataW.Trod enc Try.prog W 0 spare held 27 v d p) :
    ∃ (vq vw : Value) (n : Int) (q : List (List Int)) (l : List Wt), v = .agg #[vq, vw, .int .i64 n] ∧ RdQ W 0 vq q ∧ q.length ≤ maxLen ∧ (∀ x ∈ q, x.length ≤ maxLen) ∧ RdW W 0 vw l ∧ WfW l ∧ l.length ≤ maxLen := by
  obtain ⟨v0, v1, v2, y0, y1, y2, n, rfl, _, _, h0, h1, h2⟩ := Joins.open_agg3 Try.underlying27 (by kernel_rfl) cellsQState hv h
  obtain ⟨a0, len0, cap0, rfl⟩ := trod_shapeQ h0
  obtain ⟨q, RQ, ML, MX⟩ := open_msgs (spare := spare) (held := held) ⟨n, h0⟩
  obtain ⟨a, len, cap, rfl⟩ := trod_shapeW h1
  obtain ⟨l, R, WF, _, LN, MXL⟩ := open_wts h1
  obtain ⟨z2, e2, _, w2⟩ := DataW.trod_int Try.underlying3 h2
  simp at e2
  subst e2
  exact ⟨_, _, z2, q, l, rfl, RQ, ML, MX, R, WF, by omega⟩
end Go.Proofs.Ytglbfmcbojjglaa

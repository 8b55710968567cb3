/-
  Arguments opened: a slice of waiters, a waiter, a port. No conditions.
-/
import Derived.Test.YtglbfmcbojjglaaLawA
import Derived.WalkKit
import Derived.ProofKit
import Derived.OpenShut
import Derived.ShutString
import Derived.ChangeOld
import Derived.Below
import Derived.Deep.Slices
import Derived.Deep.Fields
import Derived.Lib.SmallJoins
namespace Go.Proofs.Ytglbfmcbojjglaa
open Go.ChangeShapes Go.WideShapes Go.ChangeAt Go.RowKit
set_option linter.unusedVariables false

theorem exists_list {α : Type} {P : Nat → α → Prop} (n : Nat) (h : ∀ k, k < n → ∃ x, P k x) : ∃ l : List α, l.length = n ∧ ∀ k (hk : k < l.length), P k l[k] := by
  induction n with
  | zero => exact ⟨[], rfl, fun k hk => absurd hk (by simp)⟩
  | succ n ih =>
    obtain ⟨l, hl, hp⟩ := ih fun k hk => h k (by omega)
    obtain ⟨x, hx⟩ := h n (by omega)
    refine ⟨l ++ [x], by simp [hl], fun k hk => ?_⟩
    by_cases hkl : k < l.length
    · rw [List.getElem_append_left hkl]; exact hp k hkl
    · have : k = n := by simp at hk; omega
      subst this
      rw [List.getElem_append_right (by omega)]
      simpa using hx

theorem rdW_of_cells {w : World} {b off cap : Nat} {l : List Wt} (hl : l.length ≤ cap) (hb : 0 < l.length → b < w.heap.size)
    (hc : ∀ k (hk : k < l.length), w.cell? ⟨b, off + k * 3, none⟩ = some (.int .i64 l[k].proc) ∧ w.cell? ⟨b, off + k * 3 + 1, none⟩ = some (.int .i64 l[k].prio) ∧ w.cell? ⟨b, off + k * 3 + 2, none⟩ = some (.int .u8 l[k].val)) :
    RdW w 0 (.slice (some ⟨b, off, none⟩) l.length cap) l := by
  refine ⟨_, cap, rfl, hl, by simp, cellsW_length l, fun h0 => ⟨b, off, rfl, Nat.zero_le _, hb h0, fun j u hj => ?_⟩⟩
  have hjl : j < l.length * 3 := by have := (List.getElem?_eq_some_iff.1 hj).1; rwa [cellsW_length] at this
  have hk : j / 3 < l.length := by omega
  have hi : j % 3 < 3 := Nat.mod_lt _ (by omega)
  have he : j = j / 3 * 3 + j % 3 := by omega
  generalize j / 3 = k at he hk
  generalize j % 3 = i at he hi
  subst he
  rw [cellsW_get l k i hk hi] at hj
  obtain ⟨h1, h2, h3⟩ := hc k hk
  match i, hi, hj with
  | 0, _, hj => simp [encW] at hj; subst hj; exact h1
  | 1, _, hj => simp [encW] at hj; subst hj; rw [← Nat.add_assoc]; exact h2
  | 2, _, hj => simp [encW] at hj; subst hj; rw [← Nat.add_assoc]; exact h3

/-- One waiter, out of three cells. -/
theorem open_wt {H : Type} {enc : TypeId × Value → H} {P : Program} {t : TypeId} {f0 f1 f2 : Field} {W : World} {spare : Nat → Bool} {held : Bool} {n : Nat} {cs : List Value} {y : DataW H × List MemPlace}
    (hs : P.underlying t = some (.struct #[f0, f1, f2])) (hone : Deep.oneCellFields P #[f0, f1, f2] = true) (i0 : P.underlying f0.type = some (.int .i64)) (i1 : P.underlying f1.type = some (.int .i64)) (i2 : P.underlying f2.type = some (.int .u8))
    (hcl : cs.length = 3) (ht : DataW.trod enc P W 0 spare held n t cs = some y) :
    ∃ x : Wt, cs = [.int .i64 x.proc, .int .i64 x.prio, .int .u8 x.val] ∧ (Lit.int .i64 x.proc).wf = true ∧ (Lit.int .i64 x.prio).wf = true ∧ (Lit.int .u8 x.val).wf = true := by
  obtain ⟨ys, n', _, _, _, hyl, hg⟩ := DataW.trod_struct hs ht
  obtain ⟨o0, k0⟩ := Deep.hone_of hone 0 f0 rfl
  obtain ⟨o1, k1⟩ := Deep.hone_of hone 1 f1 rfl
  obtain ⟨o2, k2⟩ := Deep.hone_of hone 2 f2 rfl
  have g0 := hg 0 f0 rfl
  have g1 := hg 1 f1 rfl
  have g2 := hg 2 f2 rfl
  rw [o0, k0] at g0
  rw [o1, k1] at g1
  rw [o2, k2] at g2
  match cs, hcl, ys, hyl with
  | [u0, u1, u2], _, [y0, y1, y2], _ =>
    obtain ⟨z0, e0, _, w0⟩ := DataW.trod_int i0 g0
    obtain ⟨z1, e1, _, w1⟩ := DataW.trod_int i1 g1
    obtain ⟨z2, e2, _, w2⟩ := DataW.trod_int i2 g2
    simp at e0 e1 e2
    subst e0 e1 e2
    exact ⟨⟨z0, z1, z2⟩, rfl, w0, w1, w2⟩

theorem cellsWt : Try.prog.cellsOf 56 = 3 := by kernel_rfl

theorem open_wts {H : Type} {enc : TypeId × Value → H} {W : World} {spare : Nat → Bool} {held : Bool} {n : Nat} {a : Option Addr} {len cap : Nat} {x : DataW H × List MemPlace}
    (hf : DataW.trod enc Try.prog W 0 spare held n 25 [.slice a len cap] = some x) : ∃ l : List Wt, RdW W 0 (.slice a len cap) l ∧ WfW l ∧ (∀ y ∈ l, (Lit.int .i64 y.prio).wf = true ∧ (Lit.int .u8 y.val).wf = true) ∧ l.length = len ∧ len ≤ maxLen := by
  rcases Deep.open_slice Try.underlying25 hf with ⟨hcs, _⟩ | ⟨ad, l, c, m, n, D, Pl, hcs, _, hl, hm, hmm, _, hi⟩
  · simp at hcs
    obtain ⟨rfl, rfl, rfl⟩ := hcs
    exact ⟨[], Sl.nil _ _ _, by unfold WfW; simp, by simp, rfl, by unfold maxLen; omega⟩
  · simp at hcs
    obtain ⟨rfl, rfl, rfl⟩ := hcs
    have hlm : len ≤ m := by subst hmm; split <;> omega
    simp only [cellsWt] at hi
    have hel : ∀ k, k < len → ∃ y : Wt, (W.cell? ((ad.add (k * 3)).add 0) = some (.int .i64 y.proc) ∧ W.cell? ((ad.add (k * 3)).add 1) = some (.int .i64 y.prio) ∧ W.cell? ((ad.add (k * 3)).add 2) = some (.int .u8 y.val)) ∧ (Lit.int .i64 y.proc).wf = true ∧ (Lit.int .i64 y.prio).wf = true ∧ (Lit.int .u8 y.val).wf = true := fun k hk => by
      obtain ⟨cs, hc, ht⟩ := hi k (by omega)
      obtain ⟨_, hcl, hat⟩ := World.cells?_some hc
      obtain ⟨y, rfl, h1, h2, h3⟩ := open_wt Try.underlying56 (by kernel_rfl) Try.underlying3 Try.underlying3 Try.underlying5 hcl ht
      exact ⟨y, ⟨hat 0 (by omega), hat 1 (by omega), hat 2 (by omega)⟩, h1, h2, h3⟩
    obtain ⟨l, hll, hp⟩ := exists_list len hel
    have hmem : ∀ y ∈ l, (Lit.int .i64 y.proc).wf = true ∧ (Lit.int .i64 y.prio).wf = true ∧ (Lit.int .u8 y.val).wf = true := fun y hy => by
      obtain ⟨k, hk, rfl⟩ := List.getElem_of_mem hy
      exact (hp k hk).2
    refine ⟨l, ?_, fun y hy => (hmem y hy).1, fun y hy => (hmem y hy).2, hll, by omega⟩
    by_cases h0 : 0 < len
    · have q0 := (hp 0 (by omega)).1.1
      have h2 : (ad.add (0 * 3)).add 0 = ad := by simp [Addr.add]
      rw [h2] at q0
      have hx := addr_of_cell q0
      rw [hx, ← hll]
      refine rdW_of_cells (by omega) (fun _ => World.block_lt_of_cell? _ _ q0) (fun k hk => ?_)
      obtain ⟨r0, r1, r2⟩ := (hp k hk).1
      rw [hx, addr_add, addr_add] at r0 r1 r2
      exact ⟨r0, r1, r2⟩
    · have : l = [] := List.eq_nil_of_length_eq_zero (by omega)
      subst this
      refine ⟨some ad, cap, ?_, by simp, by simp, by simp [cellsW], fun h => absurd h (by simp)⟩
      rw [← hll]

set_option maxRecDepth 100000 in
/-- A waiter that came in by value. -/
theorem open_waiter {H : Type} {enc : TypeId × Value → H} {W : World} {r : Reach} {b0 : Nat} {spare : Nat → Bool} {held : Bool} {v : Value} {d : DataW H} {p : List MemPlace}
    (hv : Value.okWide Try.prog W r b0 56 v) (h : DataW.Trod enc Try.prog W 0 spare held 56 v d p) : ∃ x : Wt, v = .agg #[.int .i64 x.proc, .int .i64 x.prio, .int .u8 x.val] ∧ (Lit.int .i64 x.proc).wf = true ∧ (Lit.int .i64 x.prio).wf = true ∧ (Lit.int .u8 x.val).wf = true := by
  obtain ⟨v0, v1, v2, y0, y1, y2, n, rfl, _, _, h0, h1, h2⟩ := Joins.open_agg3 Try.underlying56 (by kernel_rfl) cellsWt hv h
  obtain ⟨z0, e0, _, w0⟩ := DataW.trod_int Try.underlying3 h0
  obtain ⟨z1, e1, _, w1⟩ := DataW.trod_int Try.underlying3 h1
  obtain ⟨z2, e2, _, w2⟩ := DataW.trod_int Try.underlying5 h2
  simp at e0 e1 e2
  subst e0 e1 e2
  exact ⟨⟨z0, z1, z2⟩, rfl, w0, w1, w2⟩
theorem open_wts_arg {H : Type} {enc : TypeId × Value → H} {W : World} {spare : Nat → Bool} {held : Bool} {a : Option Addr} {len cap : Nat} {d : DataW H} {p : List MemPlace}
    (h : DataW.Trod enc Try.prog W 0 spare held 25 (.slice a len cap) d p) : ∃ l : List Wt, RdW W 0 (.slice a len cap) l ∧ WfW l ∧ (∀ y ∈ l, (Lit.int .i64 y.prio).wf = true ∧ (Lit.int .u8 y.val).wf = true) ∧ l.length = len ∧ len ≤ maxLen := by
  obtain ⟨fuel, hf⟩ := h
  exact open_wts hf
end Go.Proofs.Ytglbfmcbojjglaa

/-
  PROVED: for every byte and every list of acts, nacellelaw24.BoardConserves returns true. No conditions.
  The frame round the walk follows the guide's shell for functions of this form.
-/
import Derived.Test.YtglbfmcbojjglaaRows
import Derived.Test.YtglbfmcbojjglaaBoardConserves
import Derived.WalkKit
import Derived.ProofKit
import Derived.OpenShut
import Derived.ShutString
import Derived.ChangeOld
import Derived.Below
import Derived.Deep.Slices
import Derived.Deep.Fields
namespace Go.Proofs.Ytglbfmcbojjglaa.boardConserves
open Go.ChangeShapes Go.WideShapes Go.ChangeAt Go.RowKit
open Go.ChangeMaps (open_string shut_string)
set_option linter.unusedVariables false

theorem own : ownKnob Try.prog.godebug = none := by kernel_rfl
theorem laidOut : laidOutB Try.prog = true := by kernel_rfl
theorem cellsAct : Try.prog.cellsOf 171 = 4 := by kernel_rfl

/-- A struct of four bytes, opened: its four cells. -/
theorem open_act {H : Type} {enc : TypeId × Value → H} {P : Program} {t : TypeId} {f0 f1 f2 f3 : Field} {W : World} {spare : Nat → Bool} {held : Bool} {n : Nat} {x : Addr} {cs : List Value} {y : DataW H × List MemPlace}
    (hs : P.underlying t = some (.struct #[f0, f1, f2, f3])) (hone : Deep.oneCellFields P #[f0, f1, f2, f3] = true) (i0 : P.underlying f0.type = some (.int .u8)) (i1 : P.underlying f1.type = some (.int .u8)) (i2 : P.underlying f2.type = some (.int .u8)) (i3 : P.underlying f3.type = some (.int .u8))
    (hc : W.cells? 0 x 4 = some cs) (ht : DataW.trod enc P W 0 spare held n t cs = some y) :
    ∃ z0 z1 z2 z3, W.cell? (x.add 0) = some (.int .u8 z0) ∧ W.cell? (x.add 1) = some (.int .u8 z1) ∧ W.cell? (x.add 2) = some (.int .u8 z2) ∧ W.cell? (x.add 3) = some (.int .u8 z3) ∧ (0 ≤ z0 ∧ z0 ≤ 255) ∧ (0 ≤ z1 ∧ z1 ≤ 255) ∧ (0 ≤ z2 ∧ z2 ≤ 255) ∧ (0 ≤ z3 ∧ z3 ≤ 255) := by
  obtain ⟨_, hcl, hat⟩ := World.cells?_some hc
  obtain ⟨ys, n', _, _, _, hyl, hg⟩ := DataW.trod_struct hs ht
  obtain ⟨o0, k0⟩ := Deep.hone_of hone 0 f0 rfl
  obtain ⟨o1, k1⟩ := Deep.hone_of hone 1 f1 rfl
  obtain ⟨o2, k2⟩ := Deep.hone_of hone 2 f2 rfl
  obtain ⟨o3, k3⟩ := Deep.hone_of hone 3 f3 rfl
  have g0 := hg 0 f0 rfl
  have g1 := hg 1 f1 rfl
  have g2 := hg 2 f2 rfl
  have g3 := hg 3 f3 rfl
  rw [o0, k0] at g0
  rw [o1, k1] at g1
  rw [o2, k2] at g2
  rw [o3, k3] at g3
  match cs, hcl, ys, hyl with
  | [u0, u1, u2, u3], _, [y0, y1, y2, y3], _ =>
    obtain ⟨z0, e0, _, w0⟩ := DataW.trod_int i0 g0
    obtain ⟨z1, e1, _, w1⟩ := DataW.trod_int i1 g1
    obtain ⟨z2, e2, _, w2⟩ := DataW.trod_int i2 g2
    obtain ⟨z3, e3, _, w3⟩ := DataW.trod_int i3 g3
    simp at e0 e1 e2 e3
    subst e0 e1 e2 e3
    have b0 := bounds_u8 w0
    have b1 := bounds_u8 w1
    have b2 := bounds_u8 w2
    have b3 := bounds_u8 w3
    exact ⟨z0, z1, z2, z3, hat 0 (by omega), hat 1 (by omega), hat 2 (by omega), hat 3 (by omega), by omega, by omega, by omega, by omega⟩

theorem open_acts {H : Type} {enc : TypeId × Value → H} {W : World} {spare : Nat → Bool} {held : Bool} {a : Option Addr} {len cap : Nat} {d : DataW H} {p : List MemPlace}
    (h : DataW.Trod enc Try.prog W 0 spare held 168 (.slice a len cap) d p) : RdA4 W (.slice a len cap) len ∧ len ≤ maxLen := by
  obtain ⟨fuel, hf⟩ := h
  rcases Deep.open_slice Try.underlying168 hf with ⟨hcs, _⟩ | ⟨x, l, c, m, n, D, Pl, hcs, _, hl, hm, hmm, _, hi⟩
  · simp [Value.cells] at hcs
    obtain ⟨rfl, rfl, rfl⟩ := hcs
    exact ⟨⟨none, 0, rfl, Nat.le_refl _, fun _ => rfl, fun k hk => absurd hk (by omega)⟩, by unfold maxLen; omega⟩
  · simp [Value.cells] at hcs
    obtain ⟨rfl, rfl, rfl⟩ := hcs
    have hlm : len ≤ m := by subst hmm; split <;> omega
    simp only [cellsAct] at hi
    refine ⟨⟨some x, cap, rfl, hl, by simp, fun k hk => ?_⟩, by omega⟩
    obtain ⟨cs0, hc0, ht0⟩ := hi 0 (by omega)
    obtain ⟨_, _, _, _, q0, _⟩ := open_act Try.underlying171 (by kernel_rfl) Try.underlying5 Try.underlying5 Try.underlying5 Try.underlying5 hc0 ht0
    have hx : x = ⟨x.block, x.off, none⟩ := by
      have h2 : (x.add (0 * 4)).add 0 = x := by simp [Addr.add]
      rw [h2] at q0
      exact addr_of_cell q0
    obtain ⟨cs, hc, ht⟩ := hi k (by omega)
    obtain ⟨z0, z1, z2, z3, r0, r1, r2, r3, b0, b1, b2, b3⟩ := open_act Try.underlying171 (by kernel_rfl) Try.underlying5 Try.underlying5 Try.underlying5 Try.underlying5 hc ht
    rw [hx, addr_add, addr_add] at r0 r1 r2 r3
    exact ⟨x.block, x.off, z0, z1, z2, z3, by rw [← hx], (by have := World.block_lt_of_cell? _ _ r0; exact this), r0, r1, r2, r3, b0, b1, b2, b3⟩

theorem walk (a0 : Int) (a1 : Option Addr) (len1 cap1 : Nat) (w : World) (w0 : (Lit.int .u8 a0).wf = true) (w1 : RdA4 w (.slice a1 len1 cap1) len1 ∧ len1 ≤ maxLen) :
    Calls Try.prog 21 #[.int .u8 a0, .slice a1 len1 cap1] w fun e w' => e = .returned (.bool true) ∧ Below w.heap.size w w' :=
  boardConserves_c _ _ len1 w (by have := bounds_u8 w0; omega) w1.1 (by have := w1.2; simpa [maxLen] using this)

set_option maxRecDepth 100000 in
theorem lifted (os : Os) (started : os.Started) (H : Type) (enc : TypeId × Value → H) :
    ReturnsInHanded {} Try.checked os 21 .any (Rows.boardConservesSpec.pre6 enc Try.prog Try.f21 Rows.boardConservesRow.domain false) (Rows.boardConservesSpec.post enc Try.prog Try.f21 false true false false) := by
  refine returnsInHanded_of_change (C := Try.checked) own started (by kernel_rfl) Try.func21
    (ChangeSpec.witness6 (enc := enc) (C := Try.checked) false ⟨#[], #[.int .u8 0, .slice none 0 0], []⟩ 8 (by kernel_rfl) (by kernel_rfl) (by kernel_rfl) (by kernel_rfl)) ?_
  intro W base args ds gs before hval0 hW hcnd _
  have hval : ∀ (j : Nat) t v, Try.f21.params[j]? = some t → args[j]? = some v → Value.okWide Try.prog W .any base t v := hval0
  have hW' := hW
  obtain ⟨p, q, hA0, hV, rfl, hfz, hnd⟩ := hW
  have hA : DataW.TrodAll enc Try.prog W 0 (fun _ => true) true Try.f21.params.toList args.toList ds p := hA0
  rw [Try.params21] at hA hval
  obtain ⟨v0, vs0, d0, ds0, p0, q0, hargs, rfl, rfl, h0, r0⟩ := trodAll_cons hA
  obtain ⟨v1, vs1, d1, ds1, p1, q1, rfl, rfl, rfl, h1, r1⟩ := trodAll_cons r0
  obtain ⟨rfl, rfl, rfl⟩ := trodAll_nil r1
  obtain rfl : args = #[v0, v1] := by cases args; simp_all
  obtain ⟨rfl, rfl⟩ := trodVars_none hV
  obtain ⟨a0, rfl, rfl, rfl, w0⟩ := open_int Try.underlying5 (hval 0 5 v0 rfl rfl) h0
  obtain ⟨a1, len1, cap1, rfl⟩ := okWide_slice Try.underlying168 (hval 1 168 v1 rfl rfl)
  have k1 := h1
  have lt1 : ∀ x ∈ p1, x.block < W.heap.size := by obtain ⟨m, hm⟩ := k1; exact DataW.trod_lt m _ _ _ hm
  have w1 := open_acts h1
  clear hA0 hval0
  refine (walk a0 a1 len1 cap1 W w0 w1).mono fun e W' ⟨he, bel⟩ => ?_
  subst he
  exact ⟨_, rfl, _, _, _, [], _, [], hW', trodAll_mk1 (shut_bool Try.underlying4 _), (trodAll_cons_mk (shut_int Try.underlying5 w0) (trodAll_cons_mk (Below.trod laidOut (by kernel_rfl) (of_decide_eq_true (by kernel_rfl)) k1 bel lt1) trodAll_mk0)), rfl, bel.frame _, fun h => by cases h⟩

set_option maxHeartbeats 4000000 in
theorem closed : joinedFacts Try.prog 21 Try.f21 Rows.boardConservesSpec Rows.boardConservesRow = true := by
  unfold joinedFacts
  simp only [Bool.and_eq_true]
  repeat' (refine And.intro ?_ ?_)
  all_goals as_aux_lemma => kernel_rfl

theorem over : Rows.boardConservesRow.holds Try.pinned (OpenSpec.ofChange Rows.boardConservesSpec) :=
  OpenClaim.holds_of_wide 21 Try.f21 rfl rfl rfl rfl rfl rfl rfl ⟨rfl, rfl, rfl, rfl, rfl⟩ rfl rfl rfl rfl rfl (by as_aux_lemma => kernel_rfl) Try.func21 closed
    (of_decide_eq_true (by as_aux_lemma => kernel_rfl)) (by unfold Func.isWrapper; first | (rw [if_pos (by decide +kernel)]; kernel_rfl) | (rw [if_neg (by decide +kernel)]; exact ⟨rfl, rfl⟩))
    (fun os started H enc _ => lifted os started H enc)

/-- The statement. -/
theorem proved : Rows.BoardConservesSaid :=
  over
#print axioms proved
end Go.Proofs.Ytglbfmcbojjglaa.boardConserves

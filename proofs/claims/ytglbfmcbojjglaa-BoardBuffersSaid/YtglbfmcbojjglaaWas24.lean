/-
  Words for BoardBuffers: Few; the copy of the buffer that is kept. No conditions.
-/
import Derived.Test.YtglbfmcbojjglaaWords24
import Derived.Test.YtglbfmcbojjglaaRef24M
import Derived.Test.YtglbfmcbojjglaaBdD
import Derived.Deep.DeepCutAuto
import Derived.Deep.RegionHeld3
namespace Go.Proofs.Ytglbfmcbojjglaa
open Go.RowKit

def fewB (d : List Int) (p g : List Wt) : Bool := decide (d.length ≤ 100) && decide (p.length ≤ 40) && decide (g.length ≤ 40)
set_option maxHeartbeats 2000000 in
theorem few24_c (n : Int) (vd vp vg : Value) (d : List Int) (p g : List Wt) (w : World) (hd : RdI .u8 w 0 vd d) (hp : RdW w 0 vp p) (hg : RdW w 0 vg g) :
    Calls Try.prog 75 #[.agg #[.int .i64 n, vd, vp, vg]] w fun e w' => e = .returned (.bool (fewB d p g)) ∧ Below w.heap.size w w' := by
  obtain ⟨ad, cd, rfl, _, _, _⟩ := hd.open_
  obtain ⟨ap, cp, rfl, _, _, _⟩ := hp.open_
  obtain ⟨ag, cg, rfl, _, _, _⟩ := hg.open_
  have B0 : Hid (Below w.heap.size w (w.alloc (.cells #[.int .i64 n, .slice ad d.length cd, .slice ap p.length cp, .slice ag g.length cg] 125))) := (Below.refl _ w).alloc (Nat.le_refl _) _
  clear hd hp hg
  by_cases h1 : d.length ≤ 100
  · by_cases h2 : p.length ≤ 40
    · by_cases h3 : g.length ≤ 40
      · rw [show fewB d p g = true by simp [fewB, h1, h2, h3]]
        have z1 : (d.length : Int) ≤ 100 := by omega
        have z2 : (p.length : Int) ≤ 40 := by omega
        have z3 : (g.length : Int) ≤ 40 := by omega
        go_enter Try.func75, Try.ntmps75
        go_wp2_with fail
        go_ret
        exact ⟨ret_bool (by first | rfl | simp), B0.out⟩
      · rw [show fewB d p g = false by simp [fewB, h3]]
        have z1 : (d.length : Int) ≤ 100 := by omega
        have z2 : (p.length : Int) ≤ 40 := by omega
        have z3 : ¬ (g.length : Int) ≤ 40 := by omega
        go_enter Try.func75, Try.ntmps75
        go_wp2_with fail
        go_ret
        exact ⟨ret_bool (by first | rfl | simp), B0.out⟩
    · rw [show fewB d p g = false by simp [fewB, h2]]
      have z1 : (d.length : Int) ≤ 100 := by omega
      have z2 : ¬ (p.length : Int) ≤ 40 := by omega
      go_enter Try.func75, Try.ntmps75
      go_wp2_with fail
      go_ret
      exact ⟨ret_bool (by first | rfl | simp), B0.out⟩
  · rw [show fewB d p g = false by simp [fewB, h1]]
    have z1 : ¬ (d.length : Int) ≤ 100 := by omega
    go_enter Try.func75, Try.ntmps75
    go_wp2_with fail
    go_ret
    exact ⟨ret_bool (by first | rfl | simp), B0.out⟩

/-- What the operations of 'was := ..' leave: B: the heap's size ahead of them, H: the buffer's variable. -/
def W24 (H B : Nat) (n : Int) (vd vp vg : Value) (d : List Int) (p g : List Wt) (i : Nat) (v : Value) (w : World) : Prop :=
  match i with
  | 0 => v = .pointer (some ⟨H, 0, none⟩)
  | 1 => v = .int .i64 n
  | 2 => ∃ k, v = .slice (some ⟨k, 0, none⟩) 0 0
  | 3 => v = .pointer (some ⟨H, 1, none⟩)
  | 4 => v = vd
  | 5 => ∃ a c, v = .slice a d.length c ∧ TyB w B v d
  | 6 => ∃ k, v = .slice (some ⟨k, 0, none⟩) 0 0
  | 7 => v = .pointer (some ⟨H, 2, none⟩)
  | 8 => v = vp
  | 9 => ∃ a c, v = .slice a p.length c ∧ TyW w B v p
  | 10 => ∃ k, v = .slice (some ⟨k, 0, none⟩) 0 0
  | 11 => v = .pointer (some ⟨H, 3, none⟩)
  | 12 => v = vg
  | 13 => ∃ a c, v = .slice a g.length c ∧ TyW w B v g
  | 14 => ∃ a1 c1 a2 c2 a3 c3, v = .agg #[.int .i64 n, .slice a1 d.length c1, .slice a2 p.length c2, .slice a3 g.length c3] ∧ TyB w B (.slice a1 d.length c1) d ∧ TyW w B (.slice a2 p.length c2) p ∧ TyW w B (.slice a3 g.length c3) g
  | 15 => ∃ k, v = .pointer (some ⟨k, 0, none⟩) ∧ B ≤ k ∧ w.heap[k]? = some (.cells #[.int .i64 0, .slice none 0 0, .slice none 0 0, .slice none 0 0] 125 (0, 0))
  | _ => True
theorem W24.keep {H B : Nat} {n : Int} {vd vp vg : Value} {d : List Int} {p g : List Wt} (i : Nat) (v : Value) (w w' : World) (h : W24 H B n vd vp vg d p g i v w) (hb : Below w.heap.size w w') : W24 H B n vd vp vg d p g i v w' := by
  unfold W24 at *
  split <;> simp only at h <;> first
    | exact h
    | (obtain ⟨a, c, e, ht⟩ := h; exact ⟨a, c, e, Ty.below ht hb⟩)
    | (obtain ⟨a1, c1, a2, c2, a3, c3, e, h1, h2, h3⟩ := h; exact ⟨a1, c1, a2, c2, a3, c3, e, Ty.below h1 hb, Ty.below h2 hb, Ty.below h3 hb⟩)
    | (obtain ⟨k, e, hk, hh⟩ := h; exact ⟨k, e, hk, (hb.block _ (blk_lt hh)).trans hh⟩)
end Go.Proofs.Ytglbfmcbojjglaa

/-
  BoardWrong: for every two numbers the call returns true, and nothing that was there before has turned. No conditions but that they are bytes.
-/
import Derived.Test.YtglbfmcbojjglaaBdD
import Derived.Test.YtglbfmcbojjglaaPlainH
import Derived.Deep.DeepCutAuto
namespace Go.Proofs.Ytglbfmcbojjglaa
open Go.RowKit

theorem TyB.lit {W : World} {g : Nat} (d : List Int) (hg : W.heap.size = g) : TyB (W.alloc (.cells (d.map (Value.int .u8)).toArray 5)) 0 (.slice (some ⟨g, 0, none⟩) d.length d.length) d := by
  subst hg
  exact ⟨_, _, rfl, Nat.le_refl _, by simp, by simp, fun _ => ⟨W.heap.size, 0, _, rfl, Nat.zero_le _, heap_alloc_new W _, by simp, fun j u hu => by simpa using hu⟩⟩
theorem TyW.lit {W : World} {g : Nat} (l : List Wt) (hg : W.heap.size = g) : TyW (W.alloc (.cells (cellsW l).toArray 56)) 0 (.slice (some ⟨g, 0, none⟩) l.length l.length) l := by
  subst hg
  exact ⟨_, _, rfl, Nat.le_refl _, by rw [cellsW_length], by simp, fun _ => ⟨W.heap.size, 0, _, rfl, Nat.zero_le _, heap_alloc_new W _, by simp [cellsW_length], fun j u hu => by simpa using hu⟩⟩
theorem TyB.al {W : World} {B : Nat} {v : Value} {d : List Int} (h : TyB W B v d) (o : Obj) : TyB (W.alloc o) B v d := Ty.alloc h o
theorem TyW.al {W : World} {B : Nat} {v : Value} {l : List Wt} (h : TyW W B v l) (o : Obj) : TyW (W.alloc o) B v l := Ty.alloc h o
section
variable {n : Int} {d : List Int} {p g : List Wt} {h : Bool} {x : Int} {l : List Wt}
theorem bad_and (hv : vldBu n d p g = false) (q : Int) : (vldBu n d p g && mayB p g q) = false := by rw [hv]; rfl
theorem cancBu_bad (hv : vldBu n d p g = false) (q : Int) : cancBu n d p g q = (p, g, 2) := by simp [cancBu, hv]
theorem lookBd_bad (hv : vldBd h x l = false) (p r : Int) : lookBd h x l p r = (l, 0, false, 2) := by simp [lookBd, hv]
theorem showBd_bad (hv : vldBd h x l = false) (y : Int) : showBd h x l y = (h, x, l, [], 2) := by simp [showBd, hv]
theorem clearBd_bad (hv : vldBd h x l = false) : clearBd h x l = (h, x, 2) := by simp [clearBd, hv]
theorem cancBd_bad (hv : vldBd h x l = false) (p : Int) : cancBd h x l p = (l, 2) := by simp [cancBd, hv]
end
theorem full_bad (v : Int) (q : Int) (hq : q = 4 ∨ q = -1) : (vldBu 1 [v] [⟨4, 0, v⟩] [] && mayB [⟨4, 0, v⟩] [] q) = false := by
  have hm : mayB [⟨4, 0, v⟩] [] q = false := by
    rcases hq with rfl | rfl <;> simp [mayB]
  rw [hm, Bool.and_false]
theorem look_neg : lookBd false 0 [] (-1) 0 = ([], 0, false, 2) := by decide
theorem boardWf4 (v : Int) : WfW [⟨4, 0, v⟩] := fun x hx => by
  rw [List.mem_singleton] at hx
  subst hx
  exact (by decide : (Lit.int .i64 4).wf = true)

theorem wb0 (h : Nat) (w' : World) : (Instr.index 174 (.agg #[.int .i64 0, .slice none 0 0, .slice none 0 0, .slice none 0 0, .int .i64 17, .slice none 0 0, .slice none 0 0, .slice none 0 0, .int .i64 1, .slice (some ⟨h + 1, 0, none⟩) 2 2, .slice none 0 0, .slice none 0 0, .int .i64 2, .slice (some ⟨h + 1 + 1, 0, none⟩) 1 1, .slice (some ⟨h, 0, none⟩) 1 1, .slice none 0 0, .int .i64 2, .slice (some ⟨h + 1 + 1 + 1, 0, none⟩) 1 1, .slice none 0 0, .slice (some ⟨h, 0, none⟩) 1 1, .int .i64 1, .slice none 0 0, .slice none 0 0, .slice (some ⟨h + 1 + 1 + 1 + 1, 0, none⟩) 1 1, .int .i64 1, .slice none 0 0, .slice none 0 0, .slice (some ⟨h + 1 + 1 + 1 + 1 + 1, 0, none⟩) 1 1, .int .i64 1, .slice (some ⟨h + 1 + 1 + 1 + 1 + 1 + 1, 0, none⟩) 1 1, .slice (some ⟨h + 1 + 1 + 1 + 1 + 1 + 1 + 1, 0, none⟩) 2 2, .slice none 0 0]) (.int .u8 0)).run Try.prog w' = .ok (.agg #[.int .i64 0, .slice none 0 0, .slice none 0 0, .slice none 0 0]) w' := by kernel_rfl
theorem wb1 (h : Nat) (w' : World) : (Instr.index 174 (.agg #[.int .i64 0, .slice none 0 0, .slice none 0 0, .slice none 0 0, .int .i64 17, .slice none 0 0, .slice none 0 0, .slice none 0 0, .int .i64 1, .slice (some ⟨h + 1, 0, none⟩) 2 2, .slice none 0 0, .slice none 0 0, .int .i64 2, .slice (some ⟨h + 1 + 1, 0, none⟩) 1 1, .slice (some ⟨h, 0, none⟩) 1 1, .slice none 0 0, .int .i64 2, .slice (some ⟨h + 1 + 1 + 1, 0, none⟩) 1 1, .slice none 0 0, .slice (some ⟨h, 0, none⟩) 1 1, .int .i64 1, .slice none 0 0, .slice none 0 0, .slice (some ⟨h + 1 + 1 + 1 + 1, 0, none⟩) 1 1, .int .i64 1, .slice none 0 0, .slice none 0 0, .slice (some ⟨h + 1 + 1 + 1 + 1 + 1, 0, none⟩) 1 1, .int .i64 1, .slice (some ⟨h + 1 + 1 + 1 + 1 + 1 + 1, 0, none⟩) 1 1, .slice (some ⟨h + 1 + 1 + 1 + 1 + 1 + 1 + 1, 0, none⟩) 2 2, .slice none 0 0]) (.int .u8 1)).run Try.prog w' = .ok (.agg #[.int .i64 17, .slice none 0 0, .slice none 0 0, .slice none 0 0]) w' := by kernel_rfl
theorem wb2 (h : Nat) (w' : World) : (Instr.index 174 (.agg #[.int .i64 0, .slice none 0 0, .slice none 0 0, .slice none 0 0, .int .i64 17, .slice none 0 0, .slice none 0 0, .slice none 0 0, .int .i64 1, .slice (some ⟨h + 1, 0, none⟩) 2 2, .slice none 0 0, .slice none 0 0, .int .i64 2, .slice (some ⟨h + 1 + 1, 0, none⟩) 1 1, .slice (some ⟨h, 0, none⟩) 1 1, .slice none 0 0, .int .i64 2, .slice (some ⟨h + 1 + 1 + 1, 0, none⟩) 1 1, .slice none 0 0, .slice (some ⟨h, 0, none⟩) 1 1, .int .i64 1, .slice none 0 0, .slice none 0 0, .slice (some ⟨h + 1 + 1 + 1 + 1, 0, none⟩) 1 1, .int .i64 1, .slice none 0 0, .slice none 0 0, .slice (some ⟨h + 1 + 1 + 1 + 1 + 1, 0, none⟩) 1 1, .int .i64 1, .slice (some ⟨h + 1 + 1 + 1 + 1 + 1 + 1, 0, none⟩) 1 1, .slice (some ⟨h + 1 + 1 + 1 + 1 + 1 + 1 + 1, 0, none⟩) 2 2, .slice none 0 0]) (.int .u8 2)).run Try.prog w' = .ok (.agg #[.int .i64 1, .slice (some ⟨h + 1, 0, none⟩) 2 2, .slice none 0 0, .slice none 0 0]) w' := by kernel_rfl
theorem wb3 (h : Nat) (w' : World) : (Instr.index 174 (.agg #[.int .i64 0, .slice none 0 0, .slice none 0 0, .slice none 0 0, .int .i64 17, .slice none 0 0, .slice none 0 0, .slice none 0 0, .int .i64 1, .slice (some ⟨h + 1, 0, none⟩) 2 2, .slice none 0 0, .slice none 0 0, .int .i64 2, .slice (some ⟨h + 1 + 1, 0, none⟩) 1 1, .slice (some ⟨h, 0, none⟩) 1 1, .slice none 0 0, .int .i64 2, .slice (some ⟨h + 1 + 1 + 1, 0, none⟩) 1 1, .slice none 0 0, .slice (some ⟨h, 0, none⟩) 1 1, .int .i64 1, .slice none 0 0, .slice none 0 0, .slice (some ⟨h + 1 + 1 + 1 + 1, 0, none⟩) 1 1, .int .i64 1, .slice none 0 0, .slice none 0 0, .slice (some ⟨h + 1 + 1 + 1 + 1 + 1, 0, none⟩) 1 1, .int .i64 1, .slice (some ⟨h + 1 + 1 + 1 + 1 + 1 + 1, 0, none⟩) 1 1, .slice (some ⟨h + 1 + 1 + 1 + 1 + 1 + 1 + 1, 0, none⟩) 2 2, .slice none 0 0]) (.int .u8 3)).run Try.prog w' = .ok (.agg #[.int .i64 2, .slice (some ⟨h + 1 + 1, 0, none⟩) 1 1, .slice (some ⟨h, 0, none⟩) 1 1, .slice none 0 0]) w' := by kernel_rfl
theorem wb4 (h : Nat) (w' : World) : (Instr.index 174 (.agg #[.int .i64 0, .slice none 0 0, .slice none 0 0, .slice none 0 0, .int .i64 17, .slice none 0 0, .slice none 0 0, .slice none 0 0, .int .i64 1, .slice (some ⟨h + 1, 0, none⟩) 2 2, .slice none 0 0, .slice none 0 0, .int .i64 2, .slice (some ⟨h + 1 + 1, 0, none⟩) 1 1, .slice (some ⟨h, 0, none⟩) 1 1, .slice none 0 0, .int .i64 2, .slice (some ⟨h + 1 + 1 + 1, 0, none⟩) 1 1, .slice none 0 0, .slice (some ⟨h, 0, none⟩) 1 1, .int .i64 1, .slice none 0 0, .slice none 0 0, .slice (some ⟨h + 1 + 1 + 1 + 1, 0, none⟩) 1 1, .int .i64 1, .slice none 0 0, .slice none 0 0, .slice (some ⟨h + 1 + 1 + 1 + 1 + 1, 0, none⟩) 1 1, .int .i64 1, .slice (some ⟨h + 1 + 1 + 1 + 1 + 1 + 1, 0, none⟩) 1 1, .slice (some ⟨h + 1 + 1 + 1 + 1 + 1 + 1 + 1, 0, none⟩) 2 2, .slice none 0 0]) (.int .u8 4)).run Try.prog w' = .ok (.agg #[.int .i64 2, .slice (some ⟨h + 1 + 1 + 1, 0, none⟩) 1 1, .slice none 0 0, .slice (some ⟨h, 0, none⟩) 1 1]) w' := by kernel_rfl
theorem wb5 (h : Nat) (w' : World) : (Instr.index 174 (.agg #[.int .i64 0, .slice none 0 0, .slice none 0 0, .slice none 0 0, .int .i64 17, .slice none 0 0, .slice none 0 0, .slice none 0 0, .int .i64 1, .slice (some ⟨h + 1, 0, none⟩) 2 2, .slice none 0 0, .slice none 0 0, .int .i64 2, .slice (some ⟨h + 1 + 1, 0, none⟩) 1 1, .slice (some ⟨h, 0, none⟩) 1 1, .slice none 0 0, .int .i64 2, .slice (some ⟨h + 1 + 1 + 1, 0, none⟩) 1 1, .slice none 0 0, .slice (some ⟨h, 0, none⟩) 1 1, .int .i64 1, .slice none 0 0, .slice none 0 0, .slice (some ⟨h + 1 + 1 + 1 + 1, 0, none⟩) 1 1, .int .i64 1, .slice none 0 0, .slice none 0 0, .slice (some ⟨h + 1 + 1 + 1 + 1 + 1, 0, none⟩) 1 1, .int .i64 1, .slice (some ⟨h + 1 + 1 + 1 + 1 + 1 + 1, 0, none⟩) 1 1, .slice (some ⟨h + 1 + 1 + 1 + 1 + 1 + 1 + 1, 0, none⟩) 2 2, .slice none 0 0]) (.int .u8 5)).run Try.prog w' = .ok (.agg #[.int .i64 1, .slice none 0 0, .slice none 0 0, .slice (some ⟨h + 1 + 1 + 1 + 1, 0, none⟩) 1 1]) w' := by kernel_rfl
theorem wb6 (h : Nat) (w' : World) : (Instr.index 174 (.agg #[.int .i64 0, .slice none 0 0, .slice none 0 0, .slice none 0 0, .int .i64 17, .slice none 0 0, .slice none 0 0, .slice none 0 0, .int .i64 1, .slice (some ⟨h + 1, 0, none⟩) 2 2, .slice none 0 0, .slice none 0 0, .int .i64 2, .slice (some ⟨h + 1 + 1, 0, none⟩) 1 1, .slice (some ⟨h, 0, none⟩) 1 1, .slice none 0 0, .int .i64 2, .slice (some ⟨h + 1 + 1 + 1, 0, none⟩) 1 1, .slice none 0 0, .slice (some ⟨h, 0, none⟩) 1 1, .int .i64 1, .slice none 0 0, .slice none 0 0, .slice (some ⟨h + 1 + 1 + 1 + 1, 0, none⟩) 1 1, .int .i64 1, .slice none 0 0, .slice none 0 0, .slice (some ⟨h + 1 + 1 + 1 + 1 + 1, 0, none⟩) 1 1, .int .i64 1, .slice (some ⟨h + 1 + 1 + 1 + 1 + 1 + 1, 0, none⟩) 1 1, .slice (some ⟨h + 1 + 1 + 1 + 1 + 1 + 1 + 1, 0, none⟩) 2 2, .slice none 0 0]) (.int .u8 6)).run Try.prog w' = .ok (.agg #[.int .i64 1, .slice none 0 0, .slice none 0 0, .slice (some ⟨h + 1 + 1 + 1 + 1 + 1, 0, none⟩) 1 1]) w' := by kernel_rfl
theorem wb7 (h : Nat) (w' : World) : (Instr.index 174 (.agg #[.int .i64 0, .slice none 0 0, .slice none 0 0, .slice none 0 0, .int .i64 17, .slice none 0 0, .slice none 0 0, .slice none 0 0, .int .i64 1, .slice (some ⟨h + 1, 0, none⟩) 2 2, .slice none 0 0, .slice none 0 0, .int .i64 2, .slice (some ⟨h + 1 + 1, 0, none⟩) 1 1, .slice (some ⟨h, 0, none⟩) 1 1, .slice none 0 0, .int .i64 2, .slice (some ⟨h + 1 + 1 + 1, 0, none⟩) 1 1, .slice none 0 0, .slice (some ⟨h, 0, none⟩) 1 1, .int .i64 1, .slice none 0 0, .slice none 0 0, .slice (some ⟨h + 1 + 1 + 1 + 1, 0, none⟩) 1 1, .int .i64 1, .slice none 0 0, .slice none 0 0, .slice (some ⟨h + 1 + 1 + 1 + 1 + 1, 0, none⟩) 1 1, .int .i64 1, .slice (some ⟨h + 1 + 1 + 1 + 1 + 1 + 1, 0, none⟩) 1 1, .slice (some ⟨h + 1 + 1 + 1 + 1 + 1 + 1 + 1, 0, none⟩) 2 2, .slice none 0 0]) (.int .u8 7)).run Try.prog w' = .ok (.agg #[.int .i64 1, .slice (some ⟨h + 1 + 1 + 1 + 1 + 1 + 1, 0, none⟩) 1 1, .slice (some ⟨h + 1 + 1 + 1 + 1 + 1 + 1 + 1, 0, none⟩) 2 2, .slice none 0 0]) w' := by kernel_rfl
theorem pickB (i : Int) (hi : 0 ≤ i ∧ i < 8) (w : World) : ∃ (n : Int) (a1 : Option Addr) (m1 c1 : Nat) (a2 : Option Addr) (m2 c2 : Nat) (a3 : Option Addr) (m3 c3 : Nat) (d : List Int) (p g : List Wt), (∀ w', (Instr.index 174 (.agg #[.int .i64 0, .slice none 0 0, .slice none 0 0, .slice none 0 0, .int .i64 17, .slice none 0 0, .slice none 0 0, .slice none 0 0, .int .i64 1, .slice (some ⟨w.heap.size + 1, 0, none⟩) 2 2, .slice none 0 0, .slice none 0 0, .int .i64 2, .slice (some ⟨w.heap.size + 1 + 1, 0, none⟩) 1 1, .slice (some ⟨w.heap.size, 0, none⟩) 1 1, .slice none 0 0, .int .i64 2, .slice (some ⟨w.heap.size + 1 + 1 + 1, 0, none⟩) 1 1, .slice none 0 0, .slice (some ⟨w.heap.size, 0, none⟩) 1 1, .int .i64 1, .slice none 0 0, .slice none 0 0, .slice (some ⟨w.heap.size + 1 + 1 + 1 + 1, 0, none⟩) 1 1, .int .i64 1, .slice none 0 0, .slice none 0 0, .slice (some ⟨w.heap.size + 1 + 1 + 1 + 1 + 1, 0, none⟩) 1 1, .int .i64 1, .slice (some ⟨w.heap.size + 1 + 1 + 1 + 1 + 1 + 1, 0, none⟩) 1 1, .slice (some ⟨w.heap.size + 1 + 1 + 1 + 1 + 1 + 1 + 1, 0, none⟩) 2 2, .slice none 0 0]) (.int .u8 i)).run Try.prog w' = .ok (.agg #[.int .i64 n, .slice a1 m1 c1, .slice a2 m2 c2, .slice a3 m3 c3]) w') ∧ vldBu n d p g = false ∧ (WfW p ∧ WfW g ∧ d.length ≤ 2 ∧ p.length ≤ 2 ∧ g.length ≤ 2) ∧
    TyB ((((((((w.alloc (.cells #[.int .i64 1, .int .i64 0, .int .u8 0] 56)).alloc (.cells #[.int .u8 1, .int .u8 2] 5)).alloc (.cells #[.int .u8 1] 5)).alloc (.cells #[.int .u8 1] 5)).alloc (.cells #[.int .i64 (-1), .int .i64 0, .int .u8 0] 56)).alloc (.cells #[.int .i64 1, .int .i64 0, .int .u8 2] 56)).alloc (.cells #[.int .u8 1] 5)).alloc (.cells #[.int .i64 1, .int .i64 0, .int .u8 0, .int .i64 2, .int .i64 1, .int .u8 0] 56)) 0 (.slice a1 m1 c1) d ∧ TyW ((((((((w.alloc (.cells #[.int .i64 1, .int .i64 0, .int .u8 0] 56)).alloc (.cells #[.int .u8 1, .int .u8 2] 5)).alloc (.cells #[.int .u8 1] 5)).alloc (.cells #[.int .u8 1] 5)).alloc (.cells #[.int .i64 (-1), .int .i64 0, .int .u8 0] 56)).alloc (.cells #[.int .i64 1, .int .i64 0, .int .u8 2] 56)).alloc (.cells #[.int .u8 1] 5)).alloc (.cells #[.int .i64 1, .int .i64 0, .int .u8 0, .int .i64 2, .int .i64 1, .int .u8 0] 56)) 0 (.slice a2 m2 c2) p ∧ TyW ((((((((w.alloc (.cells #[.int .i64 1, .int .i64 0, .int .u8 0] 56)).alloc (.cells #[.int .u8 1, .int .u8 2] 5)).alloc (.cells #[.int .u8 1] 5)).alloc (.cells #[.int .u8 1] 5)).alloc (.cells #[.int .i64 (-1), .int .i64 0, .int .u8 0] 56)).alloc (.cells #[.int .i64 1, .int .i64 0, .int .u8 2] 56)).alloc (.cells #[.int .u8 1] 5)).alloc (.cells #[.int .i64 1, .int .i64 0, .int .u8 0, .int .i64 2, .int .i64 1, .int .u8 0] 56)) 0 (.slice a3 m3 c3) g := by
  obtain rfl | rfl | rfl | rfl | rfl | rfl | rfl | rfl : i = 0 ∨ i = 1 ∨ i = 2 ∨ i = 3 ∨ i = 4 ∨ i = 5 ∨ i = 6 ∨ i = 7 := by omega
  · exact ⟨_, _, _, _, _, _, _, _, _, _, [], [], [], fun w' => wb0 w.heap.size w', by decide, ⟨by unfold WfW; decide, by unfold WfW; decide, by decide, by decide, by decide⟩, TyB.nil _ _, TyW.nil _ _, TyW.nil _ _⟩
  · exact ⟨_, _, _, _, _, _, _, _, _, _, [], [], [], fun w' => wb1 w.heap.size w', by decide, ⟨by unfold WfW; decide, by unfold WfW; decide, by decide, by decide, by decide⟩, TyB.nil _ _, TyW.nil _ _, TyW.nil _ _⟩
  · exact ⟨_, _, _, _, _, _, _, _, _, _, [1, 2], [], [], fun w' => wb2 w.heap.size w', by decide, ⟨by unfold WfW; decide, by unfold WfW; decide, by decide, by decide, by decide⟩, (((((((TyB.lit [1, 2] (by simp)).al _).al _).al _).al _).al _).al _), TyW.nil _ _, TyW.nil _ _⟩
  · exact ⟨_, _, _, _, _, _, _, _, _, _, [1], [⟨1, 0, 0⟩], [], fun w' => wb3 w.heap.size w', by decide, ⟨by unfold WfW; decide, by unfold WfW; decide, by decide, by decide, by decide⟩, ((((((TyB.lit [1] (by simp)).al _).al _).al _).al _).al _), ((((((((TyW.lit [⟨1, 0, 0⟩] (by simp)).al _).al _).al _).al _).al _).al _).al _), TyW.nil _ _⟩
  · exact ⟨_, _, _, _, _, _, _, _, _, _, [1], [], [⟨1, 0, 0⟩], fun w' => wb4 w.heap.size w', by decide, ⟨by unfold WfW; decide, by unfold WfW; decide, by decide, by decide, by decide⟩, (((((TyB.lit [1] (by simp)).al _).al _).al _).al _), TyW.nil _ _, ((((((((TyW.lit [⟨1, 0, 0⟩] (by simp)).al _).al _).al _).al _).al _).al _).al _)⟩
  · exact ⟨_, _, _, _, _, _, _, _, _, _, [], [], [⟨-1, 0, 0⟩], fun w' => wb5 w.heap.size w', by decide, ⟨by unfold WfW; decide, by unfold WfW; decide, by decide, by decide, by decide⟩, TyB.nil _ _, TyW.nil _ _, ((((TyW.lit [⟨-1, 0, 0⟩] (by simp)).al _).al _).al _)⟩
  · exact ⟨_, _, _, _, _, _, _, _, _, _, [], [], [⟨1, 0, 2⟩], fun w' => wb6 w.heap.size w', by decide, ⟨by unfold WfW; decide, by unfold WfW; decide, by decide, by decide, by decide⟩, TyB.nil _ _, TyW.nil _ _, (((TyW.lit [⟨1, 0, 2⟩] (by simp)).al _).al _)⟩
  · exact ⟨_, _, _, _, _, _, _, _, _, _, [1], [⟨1, 0, 0⟩, ⟨2, 1, 0⟩], [], fun w' => wb7 w.heap.size w', by decide, ⟨by unfold WfW; decide, by unfold WfW; decide, by decide, by decide, by decide⟩, ((TyB.lit [1] (by simp)).al _), (TyW.lit [⟨1, 0, 0⟩, ⟨2, 1, 0⟩] (by simp)), TyW.nil _ _⟩
theorem wd0 (h h' : Nat) (w' : World) : (Instr.index 175 (.agg #[.bool false, .int .u8 1, .slice none 0 0, .bool true, .int .u8 0, .slice (some ⟨h, 0, none⟩) 1 1, .bool false, .int .u8 0, .slice (some ⟨h', 0, none⟩) 1 1, .bool false, .int .u8 0, .slice (some ⟨h' + 1, 0, none⟩) 1 1, .bool false, .int .u8 0, .slice (some ⟨h' + 1 + 1, 0, none⟩) 2 2]) (.int .u8 0)).run Try.prog w' = .ok (.agg #[.bool false, .int .u8 1, .slice none 0 0]) w' := by kernel_rfl
theorem wd1 (h h' : Nat) (w' : World) : (Instr.index 175 (.agg #[.bool false, .int .u8 1, .slice none 0 0, .bool true, .int .u8 0, .slice (some ⟨h, 0, none⟩) 1 1, .bool false, .int .u8 0, .slice (some ⟨h', 0, none⟩) 1 1, .bool false, .int .u8 0, .slice (some ⟨h' + 1, 0, none⟩) 1 1, .bool false, .int .u8 0, .slice (some ⟨h' + 1 + 1, 0, none⟩) 2 2]) (.int .u8 1)).run Try.prog w' = .ok (.agg #[.bool true, .int .u8 0, .slice (some ⟨h, 0, none⟩) 1 1]) w' := by kernel_rfl
theorem wd2 (h h' : Nat) (w' : World) : (Instr.index 175 (.agg #[.bool false, .int .u8 1, .slice none 0 0, .bool true, .int .u8 0, .slice (some ⟨h, 0, none⟩) 1 1, .bool false, .int .u8 0, .slice (some ⟨h', 0, none⟩) 1 1, .bool false, .int .u8 0, .slice (some ⟨h' + 1, 0, none⟩) 1 1, .bool false, .int .u8 0, .slice (some ⟨h' + 1 + 1, 0, none⟩) 2 2]) (.int .u8 2)).run Try.prog w' = .ok (.agg #[.bool false, .int .u8 0, .slice (some ⟨h', 0, none⟩) 1 1]) w' := by kernel_rfl
theorem wd3 (h h' : Nat) (w' : World) : (Instr.index 175 (.agg #[.bool false, .int .u8 1, .slice none 0 0, .bool true, .int .u8 0, .slice (some ⟨h, 0, none⟩) 1 1, .bool false, .int .u8 0, .slice (some ⟨h', 0, none⟩) 1 1, .bool false, .int .u8 0, .slice (some ⟨h' + 1, 0, none⟩) 1 1, .bool false, .int .u8 0, .slice (some ⟨h' + 1 + 1, 0, none⟩) 2 2]) (.int .u8 3)).run Try.prog w' = .ok (.agg #[.bool false, .int .u8 0, .slice (some ⟨h' + 1, 0, none⟩) 1 1]) w' := by kernel_rfl
theorem wd4 (h h' : Nat) (w' : World) : (Instr.index 175 (.agg #[.bool false, .int .u8 1, .slice none 0 0, .bool true, .int .u8 0, .slice (some ⟨h, 0, none⟩) 1 1, .bool false, .int .u8 0, .slice (some ⟨h', 0, none⟩) 1 1, .bool false, .int .u8 0, .slice (some ⟨h' + 1, 0, none⟩) 1 1, .bool false, .int .u8 0, .slice (some ⟨h' + 1 + 1, 0, none⟩) 2 2]) (.int .u8 4)).run Try.prog w' = .ok (.agg #[.bool false, .int .u8 0, .slice (some ⟨h' + 1 + 1, 0, none⟩) 2 2]) w' := by kernel_rfl
theorem pickD (i : Int) (hi : 0 ≤ i ∧ i < 5) (w w7 : World) (R7 : TyW w7 0 (.slice (some ⟨w.heap.size, 0, none⟩) 1 1) [⟨1, 0, 0⟩]) : ∃ (h : Bool) (x : Int) (a1 : Option Addr) (m1 c1 : Nat) (l : List Wt), (∀ w', (Instr.index 175 (.agg #[.bool false, .int .u8 1, .slice none 0 0, .bool true, .int .u8 0, .slice (some ⟨w.heap.size, 0, none⟩) 1 1, .bool false, .int .u8 0, .slice (some ⟨w7.heap.size, 0, none⟩) 1 1, .bool false, .int .u8 0, .slice (some ⟨w7.heap.size + 1, 0, none⟩) 1 1, .bool false, .int .u8 0, .slice (some ⟨w7.heap.size + 1 + 1, 0, none⟩) 2 2]) (.int .u8 i)).run Try.prog w' = .ok (.agg #[.bool h, .int .u8 x, .slice a1 m1 c1]) w') ∧ vldBd h x l = false ∧ (WfW l ∧ l.length ≤ 2) ∧ TyW (((w7.alloc (.cells #[.int .i64 (-1), .int .i64 0, .int .u8 0] 56)).alloc (.cells #[.int .i64 0, .int .i64 0, .int .u8 1] 56)).alloc (.cells #[.int .i64 1, .int .i64 0, .int .u8 0, .int .i64 1, .int .i64 0, .int .u8 0] 56)) 0 (.slice a1 m1 c1) l := by
  obtain rfl | rfl | rfl | rfl | rfl : i = 0 ∨ i = 1 ∨ i = 2 ∨ i = 3 ∨ i = 4 := by omega
  · exact ⟨_, _, _, _, _, [], fun w' => wd0 w.heap.size w7.heap.size w', by decide, ⟨by unfold WfW; decide, by decide⟩, TyW.nil _ _⟩
  · exact ⟨_, _, _, _, _, [⟨1, 0, 0⟩], fun w' => wd1 w.heap.size w7.heap.size w', by decide, ⟨by unfold WfW; decide, by decide⟩, (((R7.al _).al _).al _)⟩
  · exact ⟨_, _, _, _, _, [⟨-1, 0, 0⟩], fun w' => wd2 w.heap.size w7.heap.size w', by decide, ⟨by unfold WfW; decide, by decide⟩, (((TyW.lit [⟨-1, 0, 0⟩] (by simp)).al _).al _)⟩
  · exact ⟨_, _, _, _, _, [⟨0, 0, 1⟩], fun w' => wd3 w.heap.size w7.heap.size w', by decide, ⟨by unfold WfW; decide, by decide⟩, ((TyW.lit [⟨0, 0, 1⟩] (by simp)).al _)⟩
  · exact ⟨_, _, _, _, _, [⟨1, 0, 0⟩, ⟨1, 0, 0⟩], fun w' => wd4 w.heap.size w7.heap.size w', by decide, ⟨by unfold WfW; decide, by decide⟩, (TyW.lit [⟨1, 0, 0⟩, ⟨1, 0, 0⟩] (by simp))⟩

/-- A waiting list that no variable holds. -/
structure UW (W : World) (v : Value) (l : List Wt) : Prop where
  ty : TyW W 0 v l
theorem UW.next {W W' : World} {v : Value} {l : List Wt} (m : UW W v l) (hb : Below W.heap.size W W') : UW W' v l := ⟨Ty.below m.ty hb⟩
theorem UW.alloc {W : World} {v : Value} {l : List Wt} (m : UW W v l) (o : Obj) : UW (W.alloc o) v l := m.next ((Below.refl _ _).alloc (Nat.le_refl _) _)
def BadB (w W : World) (g : Nat) (n : Int) (a1 : Option Addr) (m1 c1 : Nat) (a2 : Option Addr) (m2 c2 : Nat) (a3 : Option Addr) (m3 c3 : Nat) (d : List Int) (p q : List Wt) : Prop := UB W g n (.slice a1 m1 c1) (.slice a2 m2 c2) (.slice a3 m3 c3) d p q ∧ vldBu n d p q = false ∧ (WfW p ∧ WfW q ∧ d.length ≤ 2 ∧ p.length ≤ 2 ∧ q.length ≤ 2) ∧ Below w.heap.size w W ∧ TyW W 0 (.slice (some ⟨w.heap.size, 0, none⟩) 1 1) [⟨1, 0, 0⟩]
theorem full_ub (w : World) (v : Int) : UB (((w.alloc (.cells #[.int .u8 v] 5)).alloc (.cells #[.int .i64 4, .int .i64 0, .int .u8 v] 56)).alloc (.cells #[.int .i64 1, .slice (some ⟨w.heap.size, 0, none⟩) 1 1, .slice (some ⟨w.heap.size + 1, 0, none⟩) 1 1, .slice none 0 0] 125)) (w.heap.size + 1 + 1) 1 (.slice (some ⟨w.heap.size, 0, none⟩) 1 1) (.slice (some ⟨w.heap.size + 1, 0, none⟩) 1 1) (.slice none 0 0) [v] [⟨4, 0, v⟩] [] := by
  have h1 : TyB ((w.alloc (.cells #[.int .u8 v] 5)).alloc (.cells #[.int .i64 4, .int .i64 0, .int .u8 v] 56)) 0 (.slice (some ⟨w.heap.size, 0, none⟩) 1 1) [v] := TyB.al (TyB.lit [v] rfl) _
  have h2 : TyW ((w.alloc (.cells #[.int .u8 v] 5)).alloc (.cells #[.int .i64 4, .int .i64 0, .int .u8 v] 56)) 0 (.slice (some ⟨w.heap.size + 1, 0, none⟩) 1 1) [⟨4, 0, v⟩] := TyW.lit [⟨4, 0, v⟩] (heap_alloc_size _ _)
  have h3 : TyW ((w.alloc (.cells #[.int .u8 v] 5)).alloc (.cells #[.int .i64 4, .int .i64 0, .int .u8 v] 56)) 0 (.slice none 0 0) [] := TyW.nil _ 0
  have hu := UB.new (n := 1) h1 h2 h3
  have hz : ((w.alloc (.cells #[.int .u8 v] 5)).alloc (.cells #[.int .i64 4, .int .i64 0, .int .u8 v] 56)).heap.size = w.heap.size + 1 + 1 := by rw [heap_alloc_size, heap_alloc_size]
  rw [hz] at hu
  exact hu
def BadD (w W : World) (g : Nat) (h : Bool) (x : Int) (a1 : Option Addr) (m1 c1 : Nat) (l : List Wt) : Prop := UD W g h x (.slice a1 m1 c1) l ∧ vldBd h x l = false ∧ (WfW l ∧ l.length ≤ 2) ∧ Below w.heap.size w W

set_option maxHeartbeats 8000000 in
set_option maxRecDepth 100000 in
theorem boardWrong_c (way v : Int) (w : World) (hw0 : 0 ≤ way) (hw1 : way ≤ 255) :
    Calls Try.prog 23 #[.int .u8 way, .int .u8 v] w fun e w' => e = .returned (.bool true) ∧ Below w.heap.size w w' := by
  go_enter Try.func23, Try.ntmps23
  go_upto_region 2 with (fail)
  go_cut [6] (fun s6 wx => ∃ g : Nat, s6 = .pointer (some ⟨g, 0, none⟩) ∧ ∃ n a1 m1 c1 a2 m2 c2 a3 m3 c3 d p q, BadB w wx g n a1 m1 c1 a2 m2 c2 a3 m3 c3 d p q)
  case first =>
    obtain ⟨n, a1, m1, c1, a2, m2, c2, a3, m3, c3, d, p, q, hix, hv, hwl, h1, h2, h3⟩ := pickB (way % 8) (by omega) w
    have HV := Lib.hid hv
    have HWL := Lib.hid hwl
    have H1 := Lib.hid h1
    have H2 := Lib.hid h2
    have H3 := Lib.hid h3
    clear hv hwl h1 h2 h3
    go_wp2
    go_meet
    have R0 : TyW (w.alloc (.cells #[.int .i64 1, .int .i64 0, .int .u8 0] 56)) 0 (.slice (some ⟨w.heap.size, 0, none⟩) 1 1) [⟨1, 0, 0⟩] := TyW.lit [⟨1, 0, 0⟩] rfl
    have hu := UB.new (n := n) H1.out H2.out H3.out
    have hb : Below w.heap.size w ((((((((w.alloc (.cells #[.int .i64 1, .int .i64 0, .int .u8 0] 56)).alloc (.cells #[.int .u8 1, .int .u8 2] 5)).alloc (.cells #[.int .u8 1] 5)).alloc (.cells #[.int .u8 1] 5)).alloc (.cells #[.int .i64 (-1), .int .i64 0, .int .u8 0] 56)).alloc (.cells #[.int .i64 1, .int .i64 0, .int .u8 2] 56)).alloc (.cells #[.int .u8 1] 5)).alloc (.cells #[.int .i64 1, .int .i64 0, .int .u8 0, .int .i64 2, .int .i64 1, .int .u8 0] 56)) := (((((((((Below.refl _ w).alloc (by simp) _).alloc (by simp) _).alloc (by simp; omega) _).alloc (by simp; omega) _).alloc (by simp; omega) _).alloc (by simp; omega) _).alloc (by simp; omega) _).alloc (by simp; omega) _)
    refine ⟨_, rfl, n, a1, m1, c1, a2, m2, c2, a3, m3, c3, d, p, q, ?_, HV.out, HWL.out, hb.alloc hb.size _, ((((((((R0.al _).al _).al _).al _).al _).al _).al _).al _)⟩
    simpa using hu
  case rest =>
    obtain ⟨g, rfl, n, a1, m1, c1, a2, m2, c2, a3, m3, c3, d, p, q, hu, hv, hwl, hb, hR⟩ := hcut
    have HV := Lib.hid hv
    have HWL := Lib.hid hwl
    obtain ⟨wr, rfl⟩ : ∃ wr : World, wr = wc := ⟨_, rfl⟩
    have E0 := Lib.hid hb
    have bb0 := Lib.hid hu
    have RR0 := Lib.hid (UW.mk hR)
    clear hu hv hwl hb hR
    obtain ⟨bbx0, bbx1, bbx2, bbx3, bbx4, bbx5, bbx6, bbx7⟩ := fourBlk (bb0.out).blk
    have bbxb := blk_lt (bb0.out).blk
    go_wp2_with fail
    have h1 := putBu_c n 3 0 v _ _ _ d p q _ bb0.out.td.rd bb0.out.tp.rd bb0.out.tg.rd HWL.out.1 HWL.out.2.1 (Nat.le_trans HWL.out.2.2.1 (by decide)) (Nat.le_trans HWL.out.2.2.2.1 (by decide)) (Nat.le_trans HWL.out.2.2.2.2 (by decide))
    rw [put_bad (bad_and HV.out 3)] at h1
    refine h1.mono ?_
    clear h1
    rintro e w1 ⟨vd1, vp1, vg1, rfl, td1, tp1, tg1, b1⟩
    obtain ⟨da1, dm1, dc1, rfl⟩ := Ty.shape3 td1
    obtain ⟨pa1, pm1, pc1, rfl⟩ := Ty.shape3 tp1
    obtain ⟨ga1, gm1, gc1, rfl⟩ := Ty.shape3 tg1
    clear bbx0 bbx1 bbx2 bbx3 bbx4 bbx5 bbx6 bbx7 bbxb
    obtain ⟨bbx0, bbx1, bbx2, bbx3, bbx4, bbx5, bbx6, bbx7⟩ := fourBlk (bb0.out.next b1).blk
    have bbxb := blk_lt (bb0.out.next b1).blk
    have bb1 := Lib.hid ((bb0.out.next b1).alloc (.cells #[.int .i64 n, .slice da1 dm1 dc1, .slice pa1 pm1 pc1, .slice ga1 gm1 gc1] 125))
    have RR1 := Lib.hid ((RR0.out.next b1).alloc (.cells #[.int .i64 n, .slice da1 dm1 dc1, .slice pa1 pm1 pc1, .slice ga1 gm1 gc1] 125))
    have x11 := Lib.hid (UB.new (n := n) td1 tp1 tg1)
    have z1 := E0.out.trans (b1.mono E0.out.size)
    have E1 := Lib.hid (z1.alloc z1.size (.cells #[.int .i64 n, .slice da1 dm1 dc1, .slice pa1 pm1 pc1, .slice ga1 gm1 gc1] 125))
    have gex1 : w.heap.size ≤ w1.heap.size := z1.size
    have nbbx1 : g ≠ w1.heap.size := Nat.ne_of_lt bbxb
    have nx1bb : w1.heap.size ≠ g := Nat.ne_of_gt bbxb
    clear td1 tp1 tg1 b1 z1 E0 bb0 RR0
    go_wp2_with fail
    have h2 := getBu_c n 3 0 _ _ _ d p q _ bb1.out.td.rd bb1.out.tp.rd bb1.out.tg.rd HWL.out.1 HWL.out.2.1 (Nat.le_trans HWL.out.2.2.1 (by decide)) (Nat.le_trans HWL.out.2.2.2.1 (by decide)) (Nat.le_trans HWL.out.2.2.2.2 (by decide))
    rw [get_bad (bad_and HV.out 3)] at h2
    refine h2.mono ?_
    clear h2
    rintro e w2 ⟨vd2, vp2, vg2, rfl, td2, tp2, tg2, b2⟩
    obtain ⟨da2, dm2, dc2, rfl⟩ := Ty.shape3 td2
    obtain ⟨pa2, pm2, pc2, rfl⟩ := Ty.shape3 tp2
    obtain ⟨ga2, gm2, gc2, rfl⟩ := Ty.shape3 tg2
    clear bbx0 bbx1 bbx2 bbx3 bbx4 bbx5 bbx6 bbx7 bbxb
    obtain ⟨bbx0, bbx1, bbx2, bbx3, bbx4, bbx5, bbx6, bbx7⟩ := fourBlk (bb1.out.next b2).blk
    have bbxb := blk_lt (bb1.out.next b2).blk
    obtain ⟨x1x0, x1x1, x1x2, x1x3, x1x4, x1x5, x1x6, x1x7⟩ := fourBlk (x11.out.next b2).blk
    have x1xb := blk_lt (x11.out.next b2).blk
    have bb2 := Lib.hid ((bb1.out.next b2).alloc (.cells #[.int .i64 n, .slice da2 dm2 dc2, .slice pa2 pm2 pc2, .slice ga2 gm2 gc2] 125))
    have RR2 := Lib.hid ((RR1.out.next b2).alloc (.cells #[.int .i64 n, .slice da2 dm2 dc2, .slice pa2 pm2 pc2, .slice ga2 gm2 gc2] 125))
    have x12 := Lib.hid ((x11.out.next b2).alloc (.cells #[.int .i64 n, .slice da2 dm2 dc2, .slice pa2 pm2 pc2, .slice ga2 gm2 gc2] 125))
    have x22 := Lib.hid (UB.new (n := n) td2 tp2 tg2)
    have z2 := E1.out.trans (b2.mono E1.out.size)
    have E2 := Lib.hid (z2.alloc z2.size (.cells #[.int .i64 n, .slice da2 dm2 dc2, .slice pa2 pm2 pc2, .slice ga2 gm2 gc2] 125))
    have gex2 : w.heap.size ≤ w2.heap.size := z2.size
    have nbbx2 : g ≠ w2.heap.size := Nat.ne_of_lt bbxb
    have nx2bb : w2.heap.size ≠ g := Nat.ne_of_gt bbxb
    have nx1x2 : w1.heap.size ≠ w2.heap.size := Nat.ne_of_lt x1xb
    have nx2x1 : w2.heap.size ≠ w1.heap.size := Nat.ne_of_gt x1xb
    clear td2 tp2 tg2 b2 z2 E1 bb1 RR1 x11
    go_wp2_with fail
    have h3 := cancBu_c n 3 _ _ _ d p q _ bb2.out.td.rd bb2.out.tp.rd bb2.out.tg.rd HWL.out.1 HWL.out.2.1 (Nat.le_trans HWL.out.2.2.1 (by decide)) (Nat.le_trans HWL.out.2.2.2.1 (by decide)) (Nat.le_trans HWL.out.2.2.2.2 (by decide))
    rw [cancBu_bad HV.out 3] at h3
    refine h3.mono ?_
    clear h3
    rintro e w3 ⟨vd3, vp3, vg3, rfl, td3, tp3, tg3, b3⟩
    obtain ⟨da3, dm3, dc3, rfl⟩ := Ty.shape3 td3
    obtain ⟨pa3, pm3, pc3, rfl⟩ := Ty.shape3 tp3
    obtain ⟨ga3, gm3, gc3, rfl⟩ := Ty.shape3 tg3
    clear bbx0 bbx1 bbx2 bbx3 bbx4 bbx5 bbx6 bbx7 bbxb x1x0 x1x1 x1x2 x1x3 x1x4 x1x5 x1x6 x1x7 x1xb
    obtain ⟨bbx0, bbx1, bbx2, bbx3, bbx4, bbx5, bbx6, bbx7⟩ := fourBlk (bb2.out.next b3).blk
    have bbxb := blk_lt (bb2.out.next b3).blk
    obtain ⟨x1x0, x1x1, x1x2, x1x3, x1x4, x1x5, x1x6, x1x7⟩ := fourBlk (x12.out.next b3).blk
    have x1xb := blk_lt (x12.out.next b3).blk
    obtain ⟨x2x0, x2x1, x2x2, x2x3, x2x4, x2x5, x2x6, x2x7⟩ := fourBlk (x22.out.next b3).blk
    have x2xb := blk_lt (x22.out.next b3).blk
    have bb3 := Lib.hid ((bb2.out.next b3).alloc (.cells #[.int .i64 n, .slice da3 dm3 dc3, .slice pa3 pm3 pc3, .slice ga3 gm3 gc3] 125))
    have RR3 := Lib.hid ((RR2.out.next b3).alloc (.cells #[.int .i64 n, .slice da3 dm3 dc3, .slice pa3 pm3 pc3, .slice ga3 gm3 gc3] 125))
    have x13 := Lib.hid ((x12.out.next b3).alloc (.cells #[.int .i64 n, .slice da3 dm3 dc3, .slice pa3 pm3 pc3, .slice ga3 gm3 gc3] 125))
    have x23 := Lib.hid ((x22.out.next b3).alloc (.cells #[.int .i64 n, .slice da3 dm3 dc3, .slice pa3 pm3 pc3, .slice ga3 gm3 gc3] 125))
    have x33 := Lib.hid (UB.new (n := n) td3 tp3 tg3)
    have z3 := E2.out.trans (b3.mono E2.out.size)
    have E3 := Lib.hid (z3.alloc z3.size (.cells #[.int .i64 n, .slice da3 dm3 dc3, .slice pa3 pm3 pc3, .slice ga3 gm3 gc3] 125))
    have gex3 : w.heap.size ≤ w3.heap.size := z3.size
    have nbbx3 : g ≠ w3.heap.size := Nat.ne_of_lt bbxb
    have nx3bb : w3.heap.size ≠ g := Nat.ne_of_gt bbxb
    have nx1x3 : w1.heap.size ≠ w3.heap.size := Nat.ne_of_lt x1xb
    have nx3x1 : w3.heap.size ≠ w1.heap.size := Nat.ne_of_gt x1xb
    have nx2x3 : w2.heap.size ≠ w3.heap.size := Nat.ne_of_lt x2xb
    have nx3x2 : w3.heap.size ≠ w2.heap.size := Nat.ne_of_gt x2xb
    clear td3 tp3 tg3 b3 z3 E2 bb2 RR2 x12 x22
    go_wp2_with fail
    have h4 := validBu_c n _ _ _ d p q _ bb3.out.td.rd bb3.out.tp.rd bb3.out.tg.rd HWL.out.1 HWL.out.2.1 (Nat.le_trans HWL.out.2.2.2.1 (by decide)) (Nat.le_trans HWL.out.2.2.2.2 (by decide))
    rw [HV.out] at h4
    refine h4.mono ?_
    clear h4
    rintro e w4 ⟨rfl, b4⟩
    clear bbx0 bbx1 bbx2 bbx3 bbx4 bbx5 bbx6 bbx7 bbxb x1x0 x1x1 x1x2 x1x3 x1x4 x1x5 x1x6 x1x7 x1xb x2x0 x2x1 x2x2 x2x3 x2x4 x2x5 x2x6 x2x7 x2xb
    have bb4 := Lib.hid (bb3.out.next b4)
    have RR4 := Lib.hid (RR3.out.next b4)
    have x14 := Lib.hid (x13.out.next b4)
    have x24 := Lib.hid (x23.out.next b4)
    have x34 := Lib.hid (x33.out.next b4)
    have E4 := Lib.hid (E3.out.trans (b4.mono E3.out.size))
    clear b4 E3 bb3 RR3 x13 x23 x33
    obtain ⟨bbx0, bbx1, bbx2, bbx3, bbx4, bbx5, bbx6, bbx7⟩ := fourBlk (bb4.out).blk
    have bbxb := blk_lt (bb4.out).blk
    obtain ⟨x1x0, x1x1, x1x2, x1x3, x1x4, x1x5, x1x6, x1x7⟩ := fourBlk (x14.out).blk
    have x1xb := blk_lt (x14.out).blk
    obtain ⟨x2x0, x2x1, x2x2, x2x3, x2x4, x2x5, x2x6, x2x7⟩ := fourBlk (x24.out).blk
    have x2xb := blk_lt (x24.out).blk
    obtain ⟨x3x0, x3x1, x3x2, x3x3, x3x4, x3x5, x3x6, x3x7⟩ := fourBlk (x34.out).blk
    have x3xb := blk_lt (x34.out).blk
    go_wp2_with fail
    refine (sameBu_c n _ _ _ _ _ _ d p q _ x14.out.td.rd bb4.out.td.rd x14.out.tp.rd bb4.out.tp.rd x14.out.tg.rd bb4.out.tg.rd (Nat.le_trans HWL.out.2.2.2.1 (by decide)) (Nat.le_trans HWL.out.2.2.2.2 (by decide))).mono ?_
    rintro e w5 ⟨rfl, b5⟩
    clear bbx0 bbx1 bbx2 bbx3 bbx4 bbx5 bbx6 bbx7 bbxb x1x0 x1x1 x1x2 x1x3 x1x4 x1x5 x1x6 x1x7 x1xb x2x0 x2x1 x2x2 x2x3 x2x4 x2x5 x2x6 x2x7 x2xb x3x0 x3x1 x3x2 x3x3 x3x4 x3x5 x3x6 x3x7 x3xb
    have bb5 := Lib.hid (bb4.out.next b5)
    have RR5 := Lib.hid (RR4.out.next b5)
    have x15 := Lib.hid (x14.out.next b5)
    have x25 := Lib.hid (x24.out.next b5)
    have x35 := Lib.hid (x34.out.next b5)
    have E5 := Lib.hid (E4.out.trans (b5.mono E4.out.size))
    clear b5 E4 bb4 RR4 x14 x24 x34
    obtain ⟨bbx0, bbx1, bbx2, bbx3, bbx4, bbx5, bbx6, bbx7⟩ := fourBlk (bb5.out).blk
    have bbxb := blk_lt (bb5.out).blk
    obtain ⟨x1x0, x1x1, x1x2, x1x3, x1x4, x1x5, x1x6, x1x7⟩ := fourBlk (x15.out).blk
    have x1xb := blk_lt (x15.out).blk
    obtain ⟨x2x0, x2x1, x2x2, x2x3, x2x4, x2x5, x2x6, x2x7⟩ := fourBlk (x25.out).blk
    have x2xb := blk_lt (x25.out).blk
    obtain ⟨x3x0, x3x1, x3x2, x3x3, x3x4, x3x5, x3x6, x3x7⟩ := fourBlk (x35.out).blk
    have x3xb := blk_lt (x35.out).blk
    go_wp2_with fail
    refine (sameBu_c n _ _ _ _ _ _ d p q _ x25.out.td.rd bb5.out.td.rd x25.out.tp.rd bb5.out.tp.rd x25.out.tg.rd bb5.out.tg.rd (Nat.le_trans HWL.out.2.2.2.1 (by decide)) (Nat.le_trans HWL.out.2.2.2.2 (by decide))).mono ?_
    rintro e w6 ⟨rfl, b6⟩
    clear bbx0 bbx1 bbx2 bbx3 bbx4 bbx5 bbx6 bbx7 bbxb x1x0 x1x1 x1x2 x1x3 x1x4 x1x5 x1x6 x1x7 x1xb x2x0 x2x1 x2x2 x2x3 x2x4 x2x5 x2x6 x2x7 x2xb x3x0 x3x1 x3x2 x3x3 x3x4 x3x5 x3x6 x3x7 x3xb
    have bb6 := Lib.hid (bb5.out.next b6)
    have RR6 := Lib.hid (RR5.out.next b6)
    have x16 := Lib.hid (x15.out.next b6)
    have x26 := Lib.hid (x25.out.next b6)
    have x36 := Lib.hid (x35.out.next b6)
    have E6 := Lib.hid (E5.out.trans (b6.mono E5.out.size))
    clear b6 E5 bb5 RR5 x15 x25 x35
    obtain ⟨bbx0, bbx1, bbx2, bbx3, bbx4, bbx5, bbx6, bbx7⟩ := fourBlk (bb6.out).blk
    have bbxb := blk_lt (bb6.out).blk
    obtain ⟨x1x0, x1x1, x1x2, x1x3, x1x4, x1x5, x1x6, x1x7⟩ := fourBlk (x16.out).blk
    have x1xb := blk_lt (x16.out).blk
    obtain ⟨x2x0, x2x1, x2x2, x2x3, x2x4, x2x5, x2x6, x2x7⟩ := fourBlk (x26.out).blk
    have x2xb := blk_lt (x26.out).blk
    obtain ⟨x3x0, x3x1, x3x2, x3x3, x3x4, x3x5, x3x6, x3x7⟩ := fourBlk (x36.out).blk
    have x3xb := blk_lt (x36.out).blk
    go_wp2_with fail
    refine (sameBu_c n _ _ _ _ _ _ d p q _ x36.out.td.rd bb6.out.td.rd x36.out.tp.rd bb6.out.tp.rd x36.out.tg.rd bb6.out.tg.rd (Nat.le_trans HWL.out.2.2.2.1 (by decide)) (Nat.le_trans HWL.out.2.2.2.2 (by decide))).mono ?_
    rintro e w7 ⟨rfl, b7⟩
    clear bbx0 bbx1 bbx2 bbx3 bbx4 bbx5 bbx6 bbx7 bbxb x1x0 x1x1 x1x2 x1x3 x1x4 x1x5 x1x6 x1x7 x1xb x2x0 x2x1 x2x2 x2x3 x2x4 x2x5 x2x6 x2x7 x2xb x3x0 x3x1 x3x2 x3x3 x3x4 x3x5 x3x6 x3x7 x3xb
    have bb7 := Lib.hid (bb6.out.next b7)
    have RR7 := Lib.hid (RR6.out.next b7)
    have x17 := Lib.hid (x16.out.next b7)
    have x27 := Lib.hid (x26.out.next b7)
    have x37 := Lib.hid (x36.out.next b7)
    have E7 := Lib.hid (E6.out.trans (b7.mono E6.out.size))
    clear b7 E6 bb6 RR6 x16 x26 x36
    obtain ⟨bbx0, bbx1, bbx2, bbx3, bbx4, bbx5, bbx6, bbx7⟩ := fourBlk (bb7.out).blk
    have bbxb := blk_lt (bb7.out).blk
    obtain ⟨x1x0, x1x1, x1x2, x1x3, x1x4, x1x5, x1x6, x1x7⟩ := fourBlk (x17.out).blk
    have x1xb := blk_lt (x17.out).blk
    obtain ⟨x2x0, x2x1, x2x2, x2x3, x2x4, x2x5, x2x6, x2x7⟩ := fourBlk (x27.out).blk
    have x2xb := blk_lt (x27.out).blk
    obtain ⟨x3x0, x3x1, x3x2, x3x3, x3x4, x3x5, x3x6, x3x7⟩ := fourBlk (x37.out).blk
    have x3xb := blk_lt (x37.out).blk
    clear bbx0 bbx1 bbx2 bbx3 bbx4 bbx5 bbx6 bbx7 bbxb x1x0 x1x1 x1x2 x1x3 x1x4 x1x5 x1x6 x1x7 x1xb x2x0 x2x1 x2x2 x2x3 x2x4 x2x5 x2x6 x2x7 x2xb x3x0 x3x1 x3x2 x3x3 x3x4 x3x5 x3x6 x3x7 x3xb
    clear bb7 x17 x27 x37
    go_upto_region 8 with (fail)
    go_cut [18] (fun s18 wx => ∃ g : Nat, s18 = .pointer (some ⟨g, 0, none⟩) ∧ ∃ h x a1 m1 c1 l, BadD w wx g h x a1 m1 c1 l)
    case first =>
      obtain ⟨h, x, a1, m1, c1, l, hix, hv, hwl, h1⟩ := pickD (way % 5) (by omega) w w7 RR7.out.ty
      have HVD := Lib.hid hv
      have HWD := Lib.hid hwl
      have H1 := Lib.hid h1
      clear hv hwl h1
      go_wp2
      go_meet
      have hu := UD.new (h := h) (x := x) H1.out
      have hb := ((E7.out.alloc E7.out.size (.cells #[.int .i64 (-1), .int .i64 0, .int .u8 0] 56)).alloc (by have := E7.out.size; simp; omega) (.cells #[.int .i64 0, .int .i64 0, .int .u8 1] 56)).alloc (by have := E7.out.size; simp; omega) (.cells #[.int .i64 1, .int .i64 0, .int .u8 0, .int .i64 1, .int .i64 0, .int .u8 0] 56)
      refine ⟨_, rfl, h, x, a1, m1, c1, l, ?_, HVD.out, HWD.out, hb.alloc hb.size _⟩
      simpa using hu
    case rest =>
      obtain ⟨g2, rfl, h, x, a4, m4, c4, l, hu, hv, hwl, hb⟩ := hcut
      have HVD := Lib.hid hv
      have HWD := Lib.hid hwl
      obtain ⟨ws, rfl⟩ : ∃ ws : World, ws = wc := ⟨_, rfl⟩
      have EE := Lib.hid hb
      have oo := Lib.hid hu
      clear hu hv hwl hb RR7 E7
      have E20 := Lib.hid EE.out
      have oo20 := Lib.hid oo.out
      clear EE oo
      obtain ⟨oox0, oox1, oox2, oox3, oox4, oox5⟩ := threeBlk (oo20.out).blk
      have ooxb := blk_lt (oo20.out).blk
      go_wp2_with fail
      have h21 := showBd_c h x v _ l _ oo20.out.tw.rd HWD.out.1 (Nat.le_trans HWD.out.2 (by decide))
      rw [showBd_bad HVD.out v] at h21
      refine h21.mono ?_
      clear h21
      rintro e w21 ⟨vw21, vu21, rfl, tw21, ou21, b21⟩
      obtain ⟨wa21, wm21, wc21, rfl⟩ := Ty.shape3 tw21
      obtain ⟨ua21, um21, uc21, rfl, hum21⟩ := own_shape ou21
      clear oox0 oox1 oox2 oox3 oox4 oox5 ooxb
      obtain ⟨oox0, oox1, oox2, oox3, oox4, oox5⟩ := threeBlk (oo20.out.next b21).blk
      have ooxb := blk_lt (oo20.out.next b21).blk
      have oo21 := Lib.hid ((oo20.out.next b21).alloc (.cells #[.bool h, .int .u8 x, .slice wa21 wm21 wc21] 131))
      have y121 := Lib.hid (UD.new (h := h) (x := x) tw21)
      have z21 := E20.out.trans (b21.mono E20.out.size)
      have E21 := Lib.hid (z21.alloc z21.size (.cells #[.bool h, .int .u8 x, .slice wa21 wm21 wc21] 131))
      have gey1 : w.heap.size ≤ w21.heap.size := z21.size
      have nooy1 : g2 ≠ w21.heap.size := Nat.ne_of_lt ooxb
      have ny1oo : w21.heap.size ≠ g2 := Nat.ne_of_gt ooxb
      obtain rfl : um21 = 0 := hum21
      clear tw21 ou21 b21 z21 E20 oo20
      go_wp2_with fail
      have h22 := lookBd_c h x 3 0 _ l _ oo21.out.tw.rd HWD.out.1 (Nat.le_trans HWD.out.2 (by decide))
      rw [lookBd_bad HVD.out 3 0] at h22
      refine h22.mono ?_
      clear h22
      rintro e w22 ⟨vw22, rfl, tw22, b22⟩
      obtain ⟨wa22, wm22, wc22, rfl⟩ := Ty.shape3 tw22
      clear oox0 oox1 oox2 oox3 oox4 oox5 ooxb
      obtain ⟨oox0, oox1, oox2, oox3, oox4, oox5⟩ := threeBlk (oo21.out.next b22).blk
      have ooxb := blk_lt (oo21.out.next b22).blk
      obtain ⟨y1x0, y1x1, y1x2, y1x3, y1x4, y1x5⟩ := threeBlk (y121.out.next b22).blk
      have y1xb := blk_lt (y121.out.next b22).blk
      have oo22 := Lib.hid ((oo21.out.next b22).alloc (.cells #[.bool h, .int .u8 x, .slice wa22 wm22 wc22] 131))
      have y122 := Lib.hid ((y121.out.next b22).alloc (.cells #[.bool h, .int .u8 x, .slice wa22 wm22 wc22] 131))
      have y222 := Lib.hid (UD.new (h := h) (x := x) tw22)
      have z22 := E21.out.trans (b22.mono E21.out.size)
      have E22 := Lib.hid (z22.alloc z22.size (.cells #[.bool h, .int .u8 x, .slice wa22 wm22 wc22] 131))
      have gey2 : w.heap.size ≤ w22.heap.size := z22.size
      have nooy2 : g2 ≠ w22.heap.size := Nat.ne_of_lt ooxb
      have ny2oo : w22.heap.size ≠ g2 := Nat.ne_of_gt ooxb
      have ny1y2 : w21.heap.size ≠ w22.heap.size := Nat.ne_of_lt y1xb
      have ny2y1 : w22.heap.size ≠ w21.heap.size := Nat.ne_of_gt y1xb
      clear tw22 b22 z22 E21 oo21 y121
      go_wp2_with fail
      have h23 := clearBd_c h x  _ l _ oo22.out.tw.rd HWD.out.1 (Nat.le_trans HWD.out.2 (by decide))
      rw [clearBd_bad HVD.out] at h23
      refine h23.mono ?_
      clear h23
      rintro e w23 ⟨vw23, rfl, tw23, b23⟩
      obtain ⟨wa23, wm23, wc23, rfl⟩ := Ty.shape3 tw23
      clear oox0 oox1 oox2 oox3 oox4 oox5 ooxb y1x0 y1x1 y1x2 y1x3 y1x4 y1x5 y1xb
      obtain ⟨oox0, oox1, oox2, oox3, oox4, oox5⟩ := threeBlk (oo22.out.next b23).blk
      have ooxb := blk_lt (oo22.out.next b23).blk
      obtain ⟨y1x0, y1x1, y1x2, y1x3, y1x4, y1x5⟩ := threeBlk (y122.out.next b23).blk
      have y1xb := blk_lt (y122.out.next b23).blk
      obtain ⟨y2x0, y2x1, y2x2, y2x3, y2x4, y2x5⟩ := threeBlk (y222.out.next b23).blk
      have y2xb := blk_lt (y222.out.next b23).blk
      have oo23 := Lib.hid ((oo22.out.next b23).alloc (.cells #[.bool h, .int .u8 x, .slice wa23 wm23 wc23] 131))
      have y123 := Lib.hid ((y122.out.next b23).alloc (.cells #[.bool h, .int .u8 x, .slice wa23 wm23 wc23] 131))
      have y223 := Lib.hid ((y222.out.next b23).alloc (.cells #[.bool h, .int .u8 x, .slice wa23 wm23 wc23] 131))
      have y323 := Lib.hid (UD.new (h := h) (x := x) tw23)
      have z23 := E22.out.trans (b23.mono E22.out.size)
      have E23 := Lib.hid (z23.alloc z23.size (.cells #[.bool h, .int .u8 x, .slice wa23 wm23 wc23] 131))
      have gey3 : w.heap.size ≤ w23.heap.size := z23.size
      have nooy3 : g2 ≠ w23.heap.size := Nat.ne_of_lt ooxb
      have ny3oo : w23.heap.size ≠ g2 := Nat.ne_of_gt ooxb
      have ny1y3 : w21.heap.size ≠ w23.heap.size := Nat.ne_of_lt y1xb
      have ny3y1 : w23.heap.size ≠ w21.heap.size := Nat.ne_of_gt y1xb
      have ny2y3 : w22.heap.size ≠ w23.heap.size := Nat.ne_of_lt y2xb
      have ny3y2 : w23.heap.size ≠ w22.heap.size := Nat.ne_of_gt y2xb
      clear tw23 b23 z23 E22 oo22 y122 y222
      go_wp2_with fail
      have h24 := cancBd_c h x 3 _ l _ oo23.out.tw.rd HWD.out.1 (Nat.le_trans HWD.out.2 (by decide))
      rw [cancBd_bad HVD.out 3] at h24
      refine h24.mono ?_
      clear h24
      rintro e w24 ⟨vw24, rfl, tw24, b24⟩
      obtain ⟨wa24, wm24, wc24, rfl⟩ := Ty.shape3 tw24
      clear oox0 oox1 oox2 oox3 oox4 oox5 ooxb y1x0 y1x1 y1x2 y1x3 y1x4 y1x5 y1xb y2x0 y2x1 y2x2 y2x3 y2x4 y2x5 y2xb
      obtain ⟨oox0, oox1, oox2, oox3, oox4, oox5⟩ := threeBlk (oo23.out.next b24).blk
      have ooxb := blk_lt (oo23.out.next b24).blk
      obtain ⟨y1x0, y1x1, y1x2, y1x3, y1x4, y1x5⟩ := threeBlk (y123.out.next b24).blk
      have y1xb := blk_lt (y123.out.next b24).blk
      obtain ⟨y2x0, y2x1, y2x2, y2x3, y2x4, y2x5⟩ := threeBlk (y223.out.next b24).blk
      have y2xb := blk_lt (y223.out.next b24).blk
      obtain ⟨y3x0, y3x1, y3x2, y3x3, y3x4, y3x5⟩ := threeBlk (y323.out.next b24).blk
      have y3xb := blk_lt (y323.out.next b24).blk
      have oo24 := Lib.hid ((oo23.out.next b24).alloc (.cells #[.bool h, .int .u8 x, .slice wa24 wm24 wc24] 131))
      have y124 := Lib.hid ((y123.out.next b24).alloc (.cells #[.bool h, .int .u8 x, .slice wa24 wm24 wc24] 131))
      have y224 := Lib.hid ((y223.out.next b24).alloc (.cells #[.bool h, .int .u8 x, .slice wa24 wm24 wc24] 131))
      have y324 := Lib.hid ((y323.out.next b24).alloc (.cells #[.bool h, .int .u8 x, .slice wa24 wm24 wc24] 131))
      have y424 := Lib.hid (UD.new (h := h) (x := x) tw24)
      have z24 := E23.out.trans (b24.mono E23.out.size)
      have E24 := Lib.hid (z24.alloc z24.size (.cells #[.bool h, .int .u8 x, .slice wa24 wm24 wc24] 131))
      have gey4 : w.heap.size ≤ w24.heap.size := z24.size
      have nooy4 : g2 ≠ w24.heap.size := Nat.ne_of_lt ooxb
      have ny4oo : w24.heap.size ≠ g2 := Nat.ne_of_gt ooxb
      have ny1y4 : w21.heap.size ≠ w24.heap.size := Nat.ne_of_lt y1xb
      have ny4y1 : w24.heap.size ≠ w21.heap.size := Nat.ne_of_gt y1xb
      have ny2y4 : w22.heap.size ≠ w24.heap.size := Nat.ne_of_lt y2xb
      have ny4y2 : w24.heap.size ≠ w22.heap.size := Nat.ne_of_gt y2xb
      have ny3y4 : w23.heap.size ≠ w24.heap.size := Nat.ne_of_lt y3xb
      have ny4y3 : w24.heap.size ≠ w23.heap.size := Nat.ne_of_gt y3xb
      clear tw24 b24 z24 E23 oo23 y123 y223 y323
      go_wp2_with fail
      have h25 := validBd_c h x _ l _ oo24.out.tw.rd HWD.out.1 (Nat.le_trans HWD.out.2 (by decide))
      rw [HVD.out] at h25
      refine h25.mono ?_
      clear h25
      rintro e w25 ⟨rfl, b25⟩
      clear oox0 oox1 oox2 oox3 oox4 oox5 ooxb y1x0 y1x1 y1x2 y1x3 y1x4 y1x5 y1xb y2x0 y2x1 y2x2 y2x3 y2x4 y2x5 y2xb y3x0 y3x1 y3x2 y3x3 y3x4 y3x5 y3xb
      have oo25 := Lib.hid (oo24.out.next b25)
      have y125 := Lib.hid (y124.out.next b25)
      have y225 := Lib.hid (y224.out.next b25)
      have y325 := Lib.hid (y324.out.next b25)
      have y425 := Lib.hid (y424.out.next b25)
      have E25 := Lib.hid (E24.out.trans (b25.mono E24.out.size))
      clear b25 E24 oo24 y124 y224 y324 y424
      obtain ⟨oox0, oox1, oox2, oox3, oox4, oox5⟩ := threeBlk (oo25.out).blk
      have ooxb := blk_lt (oo25.out).blk
      obtain ⟨y1x0, y1x1, y1x2, y1x3, y1x4, y1x5⟩ := threeBlk (y125.out).blk
      have y1xb := blk_lt (y125.out).blk
      obtain ⟨y2x0, y2x1, y2x2, y2x3, y2x4, y2x5⟩ := threeBlk (y225.out).blk
      have y2xb := blk_lt (y225.out).blk
      obtain ⟨y3x0, y3x1, y3x2, y3x3, y3x4, y3x5⟩ := threeBlk (y325.out).blk
      have y3xb := blk_lt (y325.out).blk
      obtain ⟨y4x0, y4x1, y4x2, y4x3, y4x4, y4x5⟩ := threeBlk (y425.out).blk
      have y4xb := blk_lt (y425.out).blk
      go_wp2_with fail
      refine (sameBd_c h x _ _ l _ y125.out.tw.rd oo25.out.tw.rd (Nat.le_trans HWD.out.2 (by decide))).mono ?_
      rintro e w26 ⟨rfl, b26⟩
      clear oox0 oox1 oox2 oox3 oox4 oox5 ooxb y1x0 y1x1 y1x2 y1x3 y1x4 y1x5 y1xb y2x0 y2x1 y2x2 y2x3 y2x4 y2x5 y2xb y3x0 y3x1 y3x2 y3x3 y3x4 y3x5 y3xb y4x0 y4x1 y4x2 y4x3 y4x4 y4x5 y4xb
      have oo26 := Lib.hid (oo25.out.next b26)
      have y126 := Lib.hid (y125.out.next b26)
      have y226 := Lib.hid (y225.out.next b26)
      have y326 := Lib.hid (y325.out.next b26)
      have y426 := Lib.hid (y425.out.next b26)
      have E26 := Lib.hid (E25.out.trans (b26.mono E25.out.size))
      clear b26 E25 oo25 y125 y225 y325 y425
      obtain ⟨oox0, oox1, oox2, oox3, oox4, oox5⟩ := threeBlk (oo26.out).blk
      have ooxb := blk_lt (oo26.out).blk
      obtain ⟨y1x0, y1x1, y1x2, y1x3, y1x4, y1x5⟩ := threeBlk (y126.out).blk
      have y1xb := blk_lt (y126.out).blk
      obtain ⟨y2x0, y2x1, y2x2, y2x3, y2x4, y2x5⟩ := threeBlk (y226.out).blk
      have y2xb := blk_lt (y226.out).blk
      obtain ⟨y3x0, y3x1, y3x2, y3x3, y3x4, y3x5⟩ := threeBlk (y326.out).blk
      have y3xb := blk_lt (y326.out).blk
      obtain ⟨y4x0, y4x1, y4x2, y4x3, y4x4, y4x5⟩ := threeBlk (y426.out).blk
      have y4xb := blk_lt (y426.out).blk
      go_wp2_with fail
      refine (sameBd_c h x _ _ l _ y226.out.tw.rd oo26.out.tw.rd (Nat.le_trans HWD.out.2 (by decide))).mono ?_
      rintro e w27 ⟨rfl, b27⟩
      clear oox0 oox1 oox2 oox3 oox4 oox5 ooxb y1x0 y1x1 y1x2 y1x3 y1x4 y1x5 y1xb y2x0 y2x1 y2x2 y2x3 y2x4 y2x5 y2xb y3x0 y3x1 y3x2 y3x3 y3x4 y3x5 y3xb y4x0 y4x1 y4x2 y4x3 y4x4 y4x5 y4xb
      have oo27 := Lib.hid (oo26.out.next b27)
      have y127 := Lib.hid (y126.out.next b27)
      have y227 := Lib.hid (y226.out.next b27)
      have y327 := Lib.hid (y326.out.next b27)
      have y427 := Lib.hid (y426.out.next b27)
      have E27 := Lib.hid (E26.out.trans (b27.mono E26.out.size))
      clear b27 E26 oo26 y126 y226 y326 y426
      obtain ⟨oox0, oox1, oox2, oox3, oox4, oox5⟩ := threeBlk (oo27.out).blk
      have ooxb := blk_lt (oo27.out).blk
      obtain ⟨y1x0, y1x1, y1x2, y1x3, y1x4, y1x5⟩ := threeBlk (y127.out).blk
      have y1xb := blk_lt (y127.out).blk
      obtain ⟨y2x0, y2x1, y2x2, y2x3, y2x4, y2x5⟩ := threeBlk (y227.out).blk
      have y2xb := blk_lt (y227.out).blk
      obtain ⟨y3x0, y3x1, y3x2, y3x3, y3x4, y3x5⟩ := threeBlk (y327.out).blk
      have y3xb := blk_lt (y327.out).blk
      obtain ⟨y4x0, y4x1, y4x2, y4x3, y4x4, y4x5⟩ := threeBlk (y427.out).blk
      have y4xb := blk_lt (y427.out).blk
      go_wp2_with fail
      refine (sameBd_c h x _ _ l _ y327.out.tw.rd oo27.out.tw.rd (Nat.le_trans HWD.out.2 (by decide))).mono ?_
      rintro e w28 ⟨rfl, b28⟩
      clear oox0 oox1 oox2 oox3 oox4 oox5 ooxb y1x0 y1x1 y1x2 y1x3 y1x4 y1x5 y1xb y2x0 y2x1 y2x2 y2x3 y2x4 y2x5 y2xb y3x0 y3x1 y3x2 y3x3 y3x4 y3x5 y3xb y4x0 y4x1 y4x2 y4x3 y4x4 y4x5 y4xb
      have oo28 := Lib.hid (oo27.out.next b28)
      have y128 := Lib.hid (y127.out.next b28)
      have y228 := Lib.hid (y227.out.next b28)
      have y328 := Lib.hid (y327.out.next b28)
      have y428 := Lib.hid (y427.out.next b28)
      have E28 := Lib.hid (E27.out.trans (b28.mono E27.out.size))
      clear b28 E27 oo27 y127 y227 y327 y427
      obtain ⟨oox0, oox1, oox2, oox3, oox4, oox5⟩ := threeBlk (oo28.out).blk
      have ooxb := blk_lt (oo28.out).blk
      obtain ⟨y1x0, y1x1, y1x2, y1x3, y1x4, y1x5⟩ := threeBlk (y128.out).blk
      have y1xb := blk_lt (y128.out).blk
      obtain ⟨y2x0, y2x1, y2x2, y2x3, y2x4, y2x5⟩ := threeBlk (y228.out).blk
      have y2xb := blk_lt (y228.out).blk
      obtain ⟨y3x0, y3x1, y3x2, y3x3, y3x4, y3x5⟩ := threeBlk (y328.out).blk
      have y3xb := blk_lt (y328.out).blk
      obtain ⟨y4x0, y4x1, y4x2, y4x3, y4x4, y4x5⟩ := threeBlk (y428.out).blk
      have y4xb := blk_lt (y428.out).blk
      go_wp2_with fail
      refine (sameBd_c h x _ _ l _ y428.out.tw.rd oo28.out.tw.rd (Nat.le_trans HWD.out.2 (by decide))).mono ?_
      rintro e w29 ⟨rfl, b29⟩
      clear oox0 oox1 oox2 oox3 oox4 oox5 ooxb y1x0 y1x1 y1x2 y1x3 y1x4 y1x5 y1xb y2x0 y2x1 y2x2 y2x3 y2x4 y2x5 y2xb y3x0 y3x1 y3x2 y3x3 y3x4 y3x5 y3xb y4x0 y4x1 y4x2 y4x3 y4x4 y4x5 y4xb
      have oo29 := Lib.hid (oo28.out.next b29)
      have y129 := Lib.hid (y128.out.next b29)
      have y229 := Lib.hid (y228.out.next b29)
      have y329 := Lib.hid (y328.out.next b29)
      have y429 := Lib.hid (y428.out.next b29)
      have E29 := Lib.hid (E28.out.trans (b29.mono E28.out.size))
      clear b29 E28 oo28 y128 y228 y328 y428
      obtain ⟨oox0, oox1, oox2, oox3, oox4, oox5⟩ := threeBlk (oo29.out).blk
      have ooxb := blk_lt (oo29.out).blk
      obtain ⟨y1x0, y1x1, y1x2, y1x3, y1x4, y1x5⟩ := threeBlk (y129.out).blk
      have y1xb := blk_lt (y129.out).blk
      obtain ⟨y2x0, y2x1, y2x2, y2x3, y2x4, y2x5⟩ := threeBlk (y229.out).blk
      have y2xb := blk_lt (y229.out).blk
      obtain ⟨y3x0, y3x1, y3x2, y3x3, y3x4, y3x5⟩ := threeBlk (y329.out).blk
      have y3xb := blk_lt (y329.out).blk
      obtain ⟨y4x0, y4x1, y4x2, y4x3, y4x4, y4x5⟩ := threeBlk (y429.out).blk
      have y4xb := blk_lt (y429.out).blk
      clear oox0 oox1 oox2 oox3 oox4 oox5 ooxb y1x0 y1x1 y1x2 y1x3 y1x4 y1x5 y1xb y2x0 y2x1 y2x2 y2x3 y2x4 y2x5 y2xb y3x0 y3x1 y3x2 y3x3 y3x4 y3x5 y3xb y4x0 y4x1 y4x2 y4x3 y4x4 y4x5 y4xb
      clear oo29 y129 y229 y329 y429
      go_upto_region 16 with (fail)
      have FU := Lib.hid (full_ub w29 v)
      have hE := ((E29.out.alloc E29.out.size (.cells #[.int .u8 v] 5)).alloc (by have := E29.out.size; simp; omega) (.cells #[.int .i64 4, .int .i64 0, .int .u8 v] 56))
      have E30 := Lib.hid (hE.alloc hE.size (.cells #[.int .i64 1, .slice (some ⟨w29.heap.size, 0, none⟩) 1 1, .slice (some ⟨w29.heap.size + 1, 0, none⟩) 1 1, .slice none 0 0] 125))
      clear hE E29
      obtain ⟨WF, hWF⟩ : ∃ WF, WF = ((w29.alloc (.cells #[.int .u8 v] 5)).alloc (.cells #[.int .i64 4, .int .i64 0, .int .u8 v] 56)).alloc (.cells #[.int .i64 1, .slice (some ⟨w29.heap.size, 0, none⟩) 1 1, .slice (some ⟨w29.heap.size + 1, 0, none⟩) 1 1, .slice none 0 0] 125) := ⟨_, rfl⟩
      rw [← hWF] at FU E30 ⊢
      clear hWF
      generalize w29.heap.size + 1 + 1 = gf at FU ⊢
      have ff30 := Lib.hid FU.out
      clear FU
      obtain ⟨ffx0, ffx1, ffx2, ffx3, ffx4, ffx5, ffx6, ffx7⟩ := fourBlk (ff30.out).blk
      have ffxb := blk_lt (ff30.out).blk
      go_wp2_with fail
      have h31 := putBu_c 1 4 0 v _ _ _ [v] [⟨4, 0, v⟩] [] _ ff30.out.td.rd ff30.out.tp.rd ff30.out.tg.rd (boardWf4 v) (by unfold WfW; decide) (by simp) (by simp) (by decide)
      rw [put_bad (full_bad v 4 (.inl rfl))] at h31
      refine h31.mono ?_
      clear h31
      rintro e w31 ⟨vd31, vp31, vg31, rfl, td31, tp31, tg31, b31⟩
      obtain ⟨da31, dm31, dc31, rfl⟩ := Ty.shape3 td31
      obtain ⟨pa31, pm31, pc31, rfl⟩ := Ty.shape3 tp31
      obtain ⟨ga31, gm31, gc31, rfl⟩ := Ty.shape3 tg31
      clear ffx0 ffx1 ffx2 ffx3 ffx4 ffx5 ffx6 ffx7 ffxb
      obtain ⟨ffx0, ffx1, ffx2, ffx3, ffx4, ffx5, ffx6, ffx7⟩ := fourBlk (ff30.out.next b31).blk
      have ffxb := blk_lt (ff30.out.next b31).blk
      have ff31 := Lib.hid (ff30.out.next b31)
      have z31 : True := trivial
      have E31 := Lib.hid (E30.out.trans (b31.mono E30.out.size))
      clear td31 tp31 tg31 b31 z31 E30 ff30
      go_wp2_with fail
      have h32 := getBu_c 1 4 0 _ _ _ [v] [⟨4, 0, v⟩] [] _ ff31.out.td.rd ff31.out.tp.rd ff31.out.tg.rd (boardWf4 v) (by unfold WfW; decide) (by simp) (by simp) (by decide)
      rw [get_bad (full_bad v 4 (.inl rfl))] at h32
      refine h32.mono ?_
      clear h32
      rintro e w32 ⟨vd32, vp32, vg32, rfl, td32, tp32, tg32, b32⟩
      obtain ⟨da32, dm32, dc32, rfl⟩ := Ty.shape3 td32
      obtain ⟨pa32, pm32, pc32, rfl⟩ := Ty.shape3 tp32
      obtain ⟨ga32, gm32, gc32, rfl⟩ := Ty.shape3 tg32
      clear ffx0 ffx1 ffx2 ffx3 ffx4 ffx5 ffx6 ffx7 ffxb
      obtain ⟨ffx0, ffx1, ffx2, ffx3, ffx4, ffx5, ffx6, ffx7⟩ := fourBlk (ff31.out.next b32).blk
      have ffxb := blk_lt (ff31.out.next b32).blk
      have ff32 := Lib.hid (ff31.out.next b32)
      have z32 : True := trivial
      have E32 := Lib.hid (E31.out.trans (b32.mono E31.out.size))
      clear td32 tp32 tg32 b32 z32 E31 ff31
      go_wp2_with fail
      have h33 := putBu_c 1 (-1) 0 v _ _ _ [v] [⟨4, 0, v⟩] [] _ ff32.out.td.rd ff32.out.tp.rd ff32.out.tg.rd (boardWf4 v) (by unfold WfW; decide) (by simp) (by simp) (by decide)
      rw [put_bad (full_bad v (-1) (.inr rfl))] at h33
      refine h33.mono ?_
      clear h33
      rintro e w33 ⟨vd33, vp33, vg33, rfl, td33, tp33, tg33, b33⟩
      obtain ⟨da33, dm33, dc33, rfl⟩ := Ty.shape3 td33
      obtain ⟨pa33, pm33, pc33, rfl⟩ := Ty.shape3 tp33
      obtain ⟨ga33, gm33, gc33, rfl⟩ := Ty.shape3 tg33
      clear ffx0 ffx1 ffx2 ffx3 ffx4 ffx5 ffx6 ffx7 ffxb
      obtain ⟨ffx0, ffx1, ffx2, ffx3, ffx4, ffx5, ffx6, ffx7⟩ := fourBlk (ff32.out.next b33).blk
      have ffxb := blk_lt (ff32.out.next b33).blk
      have ff33 := Lib.hid (ff32.out.next b33)
      have z33 : True := trivial
      have E33 := Lib.hid (E32.out.trans (b33.mono E32.out.size))
      clear td33 tp33 tg33 b33 z33 E32 ff32
      go_wp2_with fail
      have h34 := lookBd_c false 0 (-1) 0 _ [] _ (FrW.nil w33 0).1 (by unfold WfW; decide) (by decide)
      rw [look_neg] at h34
      refine h34.mono ?_
      clear h34
      rintro e w34 ⟨vw34, rfl, tw34, b34⟩
      obtain ⟨wa34, wm34, wc34, rfl⟩ := Ty.shape3 tw34
      clear ffx0 ffx1 ffx2 ffx3 ffx4 ffx5 ffx6 ffx7 ffxb
      obtain ⟨ffx0, ffx1, ffx2, ffx3, ffx4, ffx5, ffx6, ffx7⟩ := fourBlk (ff33.out.next b34).blk
      have ffxb := blk_lt (ff33.out.next b34).blk
      have ff34 := Lib.hid (ff33.out.next b34)
      have z34 : True := trivial
      have E34 := Lib.hid (E33.out.trans (b34.mono E33.out.size))
      clear tw34 b34 z34 E33 ff33
      go_wp2_with fail
      refine (awake24_c _).mono ?_
      rintro e wz ⟨rfl, bz⟩
      have EZ := Lib.hid (E34.out.trans (bz.mono E34.out.size))
      clear bz
      go_wp2_with fail
      go_ret
      exact ⟨rfl, EZ.out⟩
end Go.Proofs.Ytglbfmcbojjglaa

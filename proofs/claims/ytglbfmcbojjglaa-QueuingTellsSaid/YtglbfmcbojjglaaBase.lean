/-
  Words for memory over waiting lists, and plain facts on lists: nothing here is a statement of the seat. No conditions.
-/
import Derived.Test.YtglbfmcbojjglaaProg
import Derived.WalkKit
import Derived.WalkSpells
import Derived.WalkLawsBesides
import Derived.Deep.LoopGhost
import Derived.Deep.QuietTactic
import Derived.BigQuiet
import Derived.Deep.Draws
import Derived.Lib.Hide
namespace Go.Proofs.Ytglbfmcbojjglaa
open Go.RowKit

theorem ret_bool {a b : Bool} (h : a = b) : Ending.returned (.bool a) = .returned (.bool b) := by rw [h]
theorem ret_int {k : IntKind} {a b : Int} (h : a = b) : Ending.returned (.int k a) = .returned (.int k b) := by rw [h]

/-- A process that waits, as plain data. -/
structure Wt where
  proc : Int
  prio : Int
  val : Int

theorem Wt.ext_iff' {a b : Wt} : a = b ↔ a.proc = b.proc ∧ a.prio = b.prio ∧ a.val = b.val := by
  cases a; cases b; simp

instance : DecidableEq Wt := fun a b => decidable_of_iff (a.proc = b.proc ∧ a.prio = b.prio ∧ a.val = b.val) Wt.ext_iff'.symm
instance : Inhabited Wt := ⟨⟨0, 0, 0⟩⟩

/-- The three cells of a waiter. -/
def encW (x : Wt) : List Value := [.int .i64 x.proc, .int .i64 x.prio, .int .u8 x.val]
def cellsW (l : List Wt) : List Value := l.flatMap encW

theorem encW_length (x : Wt) : (encW x).length = 3 := rfl
theorem cellsW_nil : cellsW [] = [] := rfl
theorem cellsW_cons (x : Wt) (l : List Wt) : cellsW (x :: l) = encW x ++ cellsW l := rfl
theorem cellsW_append (l m : List Wt) : cellsW (l ++ m) = cellsW l ++ cellsW m := by simp [cellsW]
theorem cellsW_length (l : List Wt) : (cellsW l).length = l.length * 3 := by
  induction l with
  | nil => rfl
  | cons x l ih => rw [cellsW_cons, List.length_append, ih, encW_length, List.length_cons]; omega

theorem cellsW_drop (l : List Wt) (k : Nat) : (cellsW l).drop (k * 3) = cellsW (l.drop k) := by
  induction k generalizing l with
  | zero => simp
  | succ k ih =>
    cases l with
    | nil => simp [cellsW_nil]
    | cons x l =>
      rw [cellsW_cons, List.drop_succ_cons, ← ih l]
      have : (k + 1) * 3 = 3 + k * 3 := by omega
      rw [this, ← List.drop_drop]
      rfl
theorem cellsW_take (l : List Wt) (k : Nat) : (cellsW l).take (k * 3) = cellsW (l.take k) := by
  induction k generalizing l with
  | zero => simp [cellsW_nil]
  | succ k ih =>
    cases l with
    | nil => simp [cellsW_nil]
    | cons x l =>
      rw [cellsW_cons, List.take_succ_cons, cellsW_cons, ← ih l]
      have : (k + 1) * 3 = (encW x).length + k * 3 := by rw [encW_length]; omega
      rw [this, List.take_append, Nat.add_sub_cancel_left, List.take_of_length_le (by omega)]

theorem cellsW_get (l : List Wt) (k i : Nat) (hk : k < l.length) (hi : i < 3) : (cellsW l)[k * 3 + i]? = (encW l[k])[i]? := by
  rw [← List.getElem?_drop, cellsW_drop, List.drop_eq_getElem_cons hk, cellsW_cons, List.getElem?_append_left (by rw [encW_length]; omega)]

theorem oneW (l : List Wt) : ∀ u ∈ cellsW l, u.oneCell' = true := by
  intro u hu
  simp only [cellsW, List.mem_flatMap, encW] at hu
  obtain ⟨x, _, hx⟩ := hu
  simp at hx
  rcases hx with rfl | rfl | rfl <;> rfl

/-- THE WORD: the slice value 'v' reads in 'w' as a list of 'n' elements of 'sz' cells each, whose cells are 'xs'; its array, where there is an element, lies among the blocks from 'B' on. -/
def Sl (w : World) (B sz : Nat) (v : Value) (n : Nat) (xs : List Value) : Prop :=
  ∃ (ao : Option Addr) (cap : Nat), v = .slice ao n cap ∧ n ≤ cap ∧ (ao = none → cap = 0) ∧ xs.length = n * sz ∧
    (0 < n → ∃ b off, ao = some ⟨b, off, none⟩ ∧ B ≤ b ∧ b < w.heap.size ∧ ∀ j u, xs[j]? = some u → w.cell? ⟨b, off + j, none⟩ = some u)

section
variable {w w' : World} {B B' sz n : Nat} {v : Value} {xs : List Value}
theorem Sl.keep (h : Sl w B sz v n xs) (hz : w.heap.size ≤ w'.heap.size) (hk : ∀ p : Addr, p.block < w.heap.size → w'.cell? p = w.cell? p) : Sl w' B sz v n xs := by
  obtain ⟨ao, cap, hv, hnc, hno, hl, hp⟩ := h
  refine ⟨ao, cap, hv, hnc, hno, hl, fun h0 => ?_⟩
  obtain ⟨b, off, ha, hB, hb, hc⟩ := hp h0
  exact ⟨b, off, ha, hB, by omega, fun j u hu => (hk _ hb).trans (hc j u hu)⟩
theorem Sl.below (h : Sl w B sz v n xs) (hb : Below w.heap.size w w') : Sl w' B sz v n xs := h.keep hb.size fun _ hp => hb.cell hp
theorem Sl.drewN (h : Sl w B sz v n xs) (k : Nat) : Sl (w.drewN k) B sz v n xs := h
theorem Sl.drew (h : Sl w B sz v n xs) : Sl w.drew B sz v n xs := h
theorem Sl.alloc (h : Sl w B sz v n xs) (o : Obj) : Sl (w.alloc o) B sz v n xs := h.below ((Below.refl _ _).alloc (Nat.le_refl _) _)
theorem Sl.mono (h : Sl w B sz v n xs) (hB : B' ≤ B) : Sl w B' sz v n xs := by
  obtain ⟨ao, cap, hv, hnc, hno, hl, hp⟩ := h
  refine ⟨ao, cap, hv, hnc, hno, hl, fun h0 => ?_⟩
  obtain ⟨b, off, ha, hB, hb, hc⟩ := hp h0
  exact ⟨b, off, ha, by omega, hb, hc⟩
theorem Sl.nil (w : World) (B sz : Nat) : Sl w B sz (.slice none 0 0) 0 [] := ⟨none, 0, rfl, Nat.le_refl _, fun _ => rfl, by simp, fun h => absurd h (by omega)⟩
theorem Sl.of_own {base : Nat} {e : TypeId} (h : w.ownsRow base e sz v n xs) : Sl w base sz v n xs := by
  rcases h.2 with ⟨rfl, rfl⟩ | ⟨g, cap, cur, rfl, hbg, hg, hnc, _, hcs, htake⟩
  · exact ⟨none, 0, rfl, Nat.le_refl _, fun _ => rfl, h.1, fun h => absurd h (by omega)⟩
  · refine ⟨_, cap, rfl, hnc, (by intro h; cases h), h.1, fun _ => ⟨g, 0, rfl, hbg, (Array.getElem?_eq_some_iff.1 hg).1, fun j u hu => ?_⟩⟩
    have := h.cells (g := g) rfl j u hu
    have hadd : (⟨g, 0, none⟩ : Addr).add j = ⟨g, 0 + j, none⟩ := by unfold Addr.add; split <;> simp_all
    rw [hadd] at this
    exact this
end

/-- A slice that reads as a list of waiters. -/
def RdW (w : World) (B : Nat) (v : Value) (l : List Wt) : Prop := Sl w B 3 v l.length (cellsW l)

section
variable {w w' : World} {B B' : Nat} {v : Value} {l : List Wt}
theorem RdW.below (h : RdW w B v l) (hb : Below w.heap.size w w') : RdW w' B v l := Sl.below h hb
theorem RdW.drewN (h : RdW w B v l) (k : Nat) : RdW (w.drewN k) B v l := h
theorem RdW.drew (h : RdW w B v l) : RdW w.drew B v l := h
theorem RdW.alloc (h : RdW w B v l) (o : Obj) : RdW (w.alloc o) B v l := Sl.alloc h o
theorem RdW.mono (h : RdW w B v l) (hB : B' ≤ B) : RdW w B' v l := Sl.mono h hB
/-- The value's shape; its cells, element by element. -/
theorem RdW.open_ (h : RdW w B v l) : ∃ (ao : Option Addr) (cap : Nat), v = .slice ao l.length cap ∧ l.length ≤ cap ∧ (ao = none → cap = 0) ∧
    (0 < l.length → ∃ b off, ao = some ⟨b, off, none⟩ ∧ B ≤ b ∧ b < w.heap.size ∧ ∀ k (hk : k < l.length),
      w.cell? ⟨b, off + k * 3, none⟩ = some (.int .i64 l[k].proc) ∧ w.cell? ⟨b, off + k * 3 + 1, none⟩ = some (.int .i64 l[k].prio) ∧ w.cell? ⟨b, off + k * 3 + 2, none⟩ = some (.int .u8 l[k].val)) := by
  obtain ⟨ao, cap, hv, hnc, hno, _, hp⟩ := h
  refine ⟨ao, cap, hv, hnc, hno, fun h0 => ?_⟩
  obtain ⟨b, off, ha, hB, hb, hc⟩ := hp h0
  refine ⟨b, off, ha, hB, hb, fun k hk => ⟨?_, ?_, ?_⟩⟩
  · exact hc (k * 3) _ (by have := cellsW_get l k 0 hk (by omega); simpa [encW] using this)
  · exact hc (k * 3 + 1) _ (by have := cellsW_get l k 1 hk (by omega); simpa [encW] using this)
  · exact hc (k * 3 + 2) _ (by have := cellsW_get l k 2 hk (by omega); simpa [encW] using this)
end

end Go.Proofs.Ytglbfmcbojjglaa

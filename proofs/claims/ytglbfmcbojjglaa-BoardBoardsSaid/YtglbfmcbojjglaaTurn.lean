/-
  Words for rows whose elements are turned in place: a row of waiters whose processes change. No conditions.
-/
import Derived.Test.YtglbfmcbojjglaaLawA
namespace Go.Proofs.Ytglbfmcbojjglaa
open Go.RowKit

/-- What is left of a row of waiters while its processes are turned: an int at every third cell, in a block from B on and below C, not frozen. -/
def TurnW (w : World) (B C : Nat) (v : Value) (n : Nat) : Prop :=
  ∃ (a : Option Addr) (c : Nat), v = .slice a n c ∧ (0 < n → ∃ b off, a = some ⟨b, off, none⟩ ∧ B ≤ b ∧ b < C ∧ (∀ k, k < n → ∃ z, w.cell? ⟨b, off + k * 3, none⟩ = some (.int .i64 z)) ∧ ∀ j, w.frozen? ⟨b, j, none⟩ = false)

section
variable {w w' : World} {B B' C n : Nat} {v : Value} {l : List Wt}
theorem TurnW.of (h : FrW w B v l) : TurnW w B w.heap.size v l.length := by
  obtain ⟨a, c, hv, _, _, hp⟩ := h.1.open_
  refine ⟨a, c, hv, fun h0 => ?_⟩
  obtain ⟨b, off, ha, hB, hbs, hc⟩ := hp h0
  refine ⟨b, off, ha, hB, hbs, fun k hk => ⟨_, (hc k hk).1⟩, fun j => ?_⟩
  subst ha
  exact h.2 _ _ _ hv h0 j
theorem TurnW.mono (h : TurnW w B C v n) (hB : B' ≤ B) : TurnW w B' C v n := by
  obtain ⟨a, c, hv, hp⟩ := h
  refine ⟨a, c, hv, fun h0 => ?_⟩
  obtain ⟨b, off, ha, hb, r⟩ := hp h0
  exact ⟨b, off, ha, by omega, r⟩
theorem TurnW.next (h : TurnW w B C v n) (hb : Below w.heap.size w w') : TurnW w' B C v n := by
  obtain ⟨a, c, hv, hp⟩ := h
  refine ⟨a, c, hv, fun h0 => ?_⟩
  obtain ⟨b, off, ha, hB, hC, hc, hf⟩ := hp h0
  obtain ⟨z0, hz0⟩ := hc 0 h0
  have hlt : b < w.heap.size := World.block_lt_of_cell? _ _ hz0
  refine ⟨b, off, ha, hB, hC, fun k hk => ?_, fun j => ?_⟩
  · obtain ⟨z, hz⟩ := hc k hk
    exact ⟨z, (hb.cell (p := ⟨b, _, none⟩) hlt).trans hz⟩
  · exact (hb.frozen (p := ⟨b, j, none⟩) hlt).trans (hf j)
theorem TurnW.set {p : Addr} {u : Value} (h : TurnW w B C v n) (hp : w.cell? p = some u) (z : Int) : TurnW (w.setCell p (.int .i64 z)) B C v n := by
  obtain ⟨a, c, hv, hp'⟩ := h
  refine ⟨a, c, hv, fun h0 => ?_⟩
  obtain ⟨b, off, ha, hB, hC, hc, hf⟩ := hp' h0
  refine ⟨b, off, ha, hB, hC, fun k hk => ?_, fun j => ?_⟩
  · by_cases he : p = ⟨b, off + k * 3, none⟩
    · subst he
      exact ⟨z, World.cell?_setCell_same _ _ _ hp⟩
    · obtain ⟨z', hz'⟩ := hc k hk
      exact ⟨z', by rw [World.cell?_setCell_other _ _ _ _ he]; exact hz'⟩
  · rw [World.frozen?_setCell]
    exact hf j
theorem TurnW.alloc (h : TurnW w B C v n) (o : Obj) : TurnW (w.alloc o) B C v n := h.next ((Below.refl _ _).alloc (Nat.le_refl _) _)
/-- The k-th process: its cell, and what it lies in. -/
theorem TurnW.at {a : Option Addr} {m c : Nat} (h : TurnW w B C (.slice a m c) n) (k : Nat) (hk : k < n) : ∃ b off z, a = some ⟨b, off, none⟩ ∧ B ≤ b ∧ b < C ∧ b < w.heap.size ∧ w.cell? ⟨b, off + k * 3, none⟩ = some (.int .i64 z) ∧ w.frozen? ⟨b, off + k * 3, none⟩ = false := by
  obtain ⟨a', c', hv, hp⟩ := h
  simp only [Value.slice.injEq] at hv
  obtain ⟨rfl, rfl, rfl⟩ := hv
  obtain ⟨b, off, ha, hB, hC, hc, hf⟩ := hp (by omega)
  obtain ⟨z, hz⟩ := hc k hk
  exact ⟨b, off, z, ha, hB, hC, World.block_lt_of_cell? _ _ hz, hz, hf _⟩
end

/-- The row of block g that leads to the rows vs, while their processes are turned; all that was there in W0 is as it was. -/
structure TL (W0 w : World) (g : Nat) (t : TypeId) (row : Array Value) (vs : List (Value × Nat)) : Prop where
  blk : w.heap[g]? = some (.cells row t (0, 0))
  bel : Below W0.heap.size W0 w
  ge : W0.heap.size ≤ g
  tn : ∀ p ∈ vs, TurnW w W0.heap.size g p.1 p.2
section
variable {W0 w w' : World} {g : Nat} {t : TypeId} {row : Array Value} {vs : List (Value × Nat)}
theorem TL.next (h : TL W0 w g t row vs) (hb : Below w.heap.size w w') : TL W0 w' g t row vs :=
  ⟨(hb.block _ (blk_lt h.blk)).trans h.blk, h.bel.trans (hb.mono h.bel.size), h.ge, fun p hp => (h.tn p hp).next hb⟩
theorem TL.alloc (h : TL W0 w g t row vs) (o : Obj) : TL W0 (w.alloc o) g t row vs := h.next ((Below.refl _ _).alloc (Nat.le_refl _) _)
theorem TL.set {b o : Nat} {u : Value} (h : TL W0 w g t row vs) (hb : W0.heap.size ≤ b) (hg : b < g) (hc : w.cell? ⟨b, o, none⟩ = some u) (z : Int) : TL W0 (w.setCell ⟨b, o, none⟩ (.int .i64 z)) g t row vs :=
  ⟨(Below.heap_setCell _ _ _ _ (by show g ≠ b; omega)).trans h.blk, h.bel.setCell (p := ⟨b, o, none⟩) hb _, h.ge, fun p hp => (h.tn p hp).set hc z⟩
theorem TL.new {w1 : World} (hb : Below W0.heap.size W0 w1) (ht : ∀ p ∈ vs, TurnW w1 W0.heap.size w1.heap.size p.1 p.2) : TL W0 (w1.alloc (.cells row t)) w1.heap.size t row vs :=
  ⟨heap_alloc_new w1 _, hb.alloc hb.size _, hb.size, fun p hp => (ht p hp).alloc _⟩
theorem TL.cell (h : TL W0 w g t row vs) (j : Nat) (x : Value) (hx : row[j]? = some x) : w.cell? ⟨g, j, none⟩ = some x := by
  rw [cell_of_row w _ _ _ _ _ h.blk]
  exact hx
end
theorem blk_set {w : World} {g b o : Nat} {ob : Obj} {u : Value} (h : w.heap[g]? = some ob) (hne : g ≠ b) : (w.setCell ⟨b, o, none⟩ u).heap[g]? = some ob := (Below.heap_setCell _ _ _ _ hne).trans h
end Go.Proofs.Ytglbfmcbojjglaa

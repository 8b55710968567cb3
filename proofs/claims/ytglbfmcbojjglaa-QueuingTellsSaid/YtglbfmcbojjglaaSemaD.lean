/-
  What the exported functions of package sema keep in memory between their calls; plain words for what they answer. No conditions.
-/
import Derived.Test.YtglbfmcbojjglaaSemaC
import Derived.Test.YtglbfmcbojjglaaSemaP
namespace Go.Proofs.Ytglbfmcbojjglaa
open Go.RowKit

theorem twoBlk {W : World} {g : Nat} {x y : Value} {t : TypeId} (h : W.heap[g]? = some (.cells #[x, y] t (0, 0))) :
    W.cell? ⟨g, 0, none⟩ = some x ∧ W.cell? ⟨g, 1, none⟩ = some y ∧ W.frozen? ⟨g, 0, none⟩ = false ∧ W.frozen? ⟨g, 1, none⟩ = false :=
  ⟨by rw [cell_of_row W _ _ _ _ _ h]; rfl, by rw [cell_of_row W _ _ _ _ _ h]; rfl, by simp [World.frozen?, h], by simp [World.frozen?, h]⟩

/-- Between two calls: the boxed argument, the result's cell, the object that is being changed. -/
structure Mid (w W : World) (t t' : TypeId) (c z v0 : Value) (g : Nat) (v1 c1 : Value) (l : List Wt) : Prop where
  arg : W.heap[w.heap.size]? = some (.cells #[c, v0] t (0, 0))
  res : W.heap[w.heap.size + 1]? = some (.cells #[z, .slice none 0 0] t (0, 0))
  ge : w.heap.size + 2 ≤ g
  obj : W.heap[g]? = some (.cells #[v1, c1] t' (0, 0))
  fr : FrW W (w.heap.size + 2) v1 l
  below : Below w.heap.size w W
  apart : ∀ a n cc, v1 = .slice (some a) n cc → 0 < n → a.block ≠ g

section
variable {w W W' : World} {t t' : TypeId} {c z v0 : Value} {g : Nat} {v1 c1 : Value} {l : List Wt}
theorem blk_lt {W : World} {g : Nat} {o : Obj} (h : W.heap[g]? = some o) : g < W.heap.size := (Array.getElem?_eq_some_iff.1 h).1
theorem Mid.next (h : Mid w W t t' c z v0 g v1 c1 l) (hb : Below W.heap.size W W') : Mid w W' t t' c z v0 g v1 c1 l :=
  ⟨(hb.block _ (blk_lt h.arg)).trans h.arg, (hb.block _ (blk_lt h.res)).trans h.res, h.ge, (hb.block _ (blk_lt h.obj)).trans h.obj, h.fr.below hb, h.below.trans (hb.mono h.below.size), h.apart⟩
/-- Behind 'open'. -/
theorem Mid.open_ {W0 : World} {v0' : Value} (hW0 : W0 = ((w.alloc (.cells #[c, v0'] t)).alloc (.cells #[z, .slice none 0 0] t))) (hg1 : W0.heap.size ≤ g) (hg2 : W.heap[g]? = some (.cells #[v1, c1] t' (0, 0))) (hfr : FrW W W0.heap.size v1 l) (hb : Below W0.heap.size W0 W)
    (ha : ∀ a n cc, v1 = .slice (some a) n cc → 0 < n → a.block ≠ g) : Mid w W t t' c z v0' g v1 c1 l := by
  have hs : W0.heap.size = w.heap.size + 2 := by subst hW0; simp
  have h0 : W0.heap[w.heap.size]? = some (.cells #[c, v0'] t (0, 0)) := by subst hW0; rw [Below.heap_alloc _ _ _ (by simp)]; exact heap_alloc_new w _
  have h1 : W0.heap[w.heap.size + 1]? = some (.cells #[z, .slice none 0 0] t (0, 0)) := by
    subst hW0
    have := heap_alloc_new (w.alloc (.cells #[c, v0'] t)) (.cells #[z, .slice none 0 0] t)
    simpa using this
  have hb0 : Below w.heap.size w W0 := by subst hW0; exact ((Below.refl _ w).alloc (Nat.le_refl _) _).alloc (by simp) _
  exact ⟨(hb.block _ (by omega)).trans h0, (hb.block _ (by omega)).trans h1, by omega, hg2, hfr.mono (by omega), hb0.trans (hb.mono (by omega)), ha⟩
theorem FrW.low {w : World} {B : Nat} {v : Value} {l : List Wt} {g o : Nat} {u : Value} (h : FrW w B v l) (hg : g < B) : FrW (w.setCell ⟨g, o, none⟩ u) B v l := by
  refine h.far (g := g) ⟨rfl, rfl, rfl, by simp [World.setCell], fun k _ hk => Below.heap_setCell _ _ _ _ (fun e => hk (by rw [e]))⟩ (fun a n c hv hn => ?_)
  obtain ⟨ao, cap, hv', _, _, _, hp⟩ := h.1
  subst hv
  simp only [Value.slice.injEq] at hv'
  obtain ⟨hao, hn', _⟩ := hv'
  obtain ⟨b, off, ha, hB, _, _⟩ := hp (by omega)
  rw [ha] at hao
  simp only [Option.some.injEq] at hao
  subst hao
  show b ≠ g
  omega
/-- The object's second cell turns. -/
theorem Mid.put1 (h : Mid w W t t' c z v0 g v1 c1 l) (u : Value) : Mid w (W.setCell ⟨g, 1, none⟩ u) t t' c z v0 g v1 u l := by
  have hge := h.ge
  refine ⟨(Below.heap_setCell _ _ _ _ (by show _ ≠ g; omega)).trans h.arg, (Below.heap_setCell _ _ _ _ (by show _ ≠ g; omega)).trans h.res, h.ge, ?_, ?_, h.below.setCell (p := ⟨g, 1, none⟩) (by show _ ≤ g; omega) _, h.apart⟩
  · have := heap_setCell_same W g 1 _ _ u h.obj
    simpa using this
  · exact h.fr.far (g := g) ⟨rfl, rfl, rfl, by simp [World.setCell], fun k _ hk => Below.heap_setCell _ _ _ _ (fun e => hk (by rw [e]))⟩ h.apart
/-- The object's list turns: another one, in memory of its own. -/
theorem Mid.put0 (h : Mid w W t t' c z v0 g v1 c1 l) (u : Value) {m : List Wt} (hu : FrW W (w.heap.size + 2) u m) (ha : ∀ a n cc, u = .slice (some a) n cc → 0 < n → a.block ≠ g) : Mid w (W.setCell ⟨g, 0, none⟩ u) t t' c z v0 g u c1 m := by
  have hge := h.ge
  refine ⟨(Below.heap_setCell _ _ _ _ (by show _ ≠ g; omega)).trans h.arg, (Below.heap_setCell _ _ _ _ (by show _ ≠ g; omega)).trans h.res, h.ge, ?_, ?_, h.below.setCell (p := ⟨g, 0, none⟩) (by show _ ≤ g; omega) _, ha⟩
  · have := heap_setCell_same W g 0 _ _ u h.obj
    simpa using this
  · exact hu.far (g := g) ⟨rfl, rfl, rfl, by simp [World.setCell], fun k _ hk => Below.heap_setCell _ _ _ _ (fun e => hk (by rw [e]))⟩ ha
/-- The last store: the result. -/
theorem Mid.last (h : Mid w W t t' c z v0 g v1 c1 l) (x y : Value) : FrW ((W.setCell ⟨w.heap.size + 1, 0, none⟩ x).setCell ⟨w.heap.size + 1, 1, none⟩ y) w.heap.size v1 l ∧ Below w.heap.size w ((W.setCell ⟨w.heap.size + 1, 0, none⟩ x).setCell ⟨w.heap.size + 1, 1, none⟩ y) :=
  ⟨((h.fr.low (by omega)).low (by omega)).mono (by omega), (h.below.setCell (p := ⟨w.heap.size + 1, 0, none⟩) (by simp) _).setCell (p := ⟨w.heap.size + 1, 1, none⟩) (by simp) _⟩
/-- 'x.enter': behind it. -/
theorem Mid.enter (h : Mid w W t t' c z v0 g v1 c1 l) {m : List Wt} {v2 : Value} (ho : W'.heap[g]? = some (.cells #[v2, c1] t' (0, 0))) (hf : FrW W' W.heap.size v2 m) (hg : W.grownBy W' (some g)) : Mid w W' t t' c z v0 g v2 c1 m := by
  have hge := h.ge
  have hl := blk_lt h.obj
  refine ⟨(hg.block _ (blk_lt h.arg) (by simp; omega)).trans h.arg, (hg.block _ (blk_lt h.res) (by simp; omega)).trans h.res, h.ge, ho, hf.mono (by omega), ?_, ?_⟩
  · exact h.below.grown hg h.below.size (fun k hk => by simp at hk; omega)
  · intro a n cc hv hn
    obtain ⟨ao, cap, hv', _, _, _, hp⟩ := hf.1
    subst hv
    simp only [Value.slice.injEq] at hv'
    obtain ⟨hao, hn', _⟩ := hv'
    obtain ⟨b, off, ha, hB, _, _⟩ := hp (by omega)
    rw [ha] at hao
    simp only [Option.some.injEq] at hao
    subst hao
    show b ≠ g
    omega
end

def Ret3 (w : World) (c : Value) (l : List Wt) (x y : Value) (e : Ending) (w' : World) : Prop := ∃ v, e = .returned (.tuple #[.agg #[c, v], x, y]) ∧ FrW w' w.heap.size v l ∧ Below w.heap.size w w'
def Ret2 (w : World) (c : Value) (l : List Wt) (y : Value) (e : Ending) (w' : World) : Prop := ∃ v, e = .returned (.tuple #[.agg #[c, v], y]) ∧ FrW w' w.heap.size v l ∧ Below w.heap.size w w'

theorem fr_slice {w : World} {B : Nat} {v : Value} {l : List Wt} (h : FrW w B v l) : ∃ a c, v = .slice a l.length c := by
  obtain ⟨⟨a, c, hv, _⟩, _⟩ := h
  exact ⟨a, c, hv⟩

end Go.Proofs.Ytglbfmcbojjglaa

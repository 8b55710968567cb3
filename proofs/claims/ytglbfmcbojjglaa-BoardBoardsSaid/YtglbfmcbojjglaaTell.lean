/-
  Words for the laws that compare the program with the reference (SemaCounts, SemaEvents). No conditions.
-/
import Derived.Test.YtglbfmcbojjglaaAwake25
import Derived.Test.YtglbfmcbojjglaaRef25E
import Derived.Test.YtglbfmcbojjglaaTurn
import Derived.Deep.DeepCutAuto
import Derived.Deep.RegionHeld3
namespace Go.Proofs.Ytglbfmcbojjglaa
open Go.RowKit

/-- A variable that is never written again: its block and the list that it leads to. -/
structure VR (W : World) (g : Nat) (t : TypeId) (x y : Value) (l : List Wt) : Prop where
  blk : W.heap[g]? = some (.cells #[x, y] t (0, 0))
  rd : RdW W 0 y l
section
variable {W W' : World} {g : Nat} {t : TypeId} {x y : Value} {l : List Wt}
theorem VR.next (h : VR W g t x y l) (hb : Below W.heap.size W W') : VR W' g t x y l := ⟨(hb.block _ (blk_lt h.blk)).trans h.blk, h.rd.below hb⟩
theorem VR.alloc (h : VR W g t x y l) (ob : Obj) : VR (W.alloc ob) g t x y l := h.next ((Below.refl _ _).alloc (Nat.le_refl _) _)
theorem VR.new (hf : RdW W 0 y l) : VR (W.alloc (.cells #[x, y] t)) W.heap.size t x y l := ⟨heap_alloc_new W _, hf.alloc _⟩
theorem VR.cells (h : VR W g t x y l) : W.cell? ⟨g, 0, none⟩ = some x ∧ W.cell? ⟨g, 1, none⟩ = some y ∧ W.frozen? ⟨g, 0, none⟩ = false ∧ W.frozen? ⟨g, 1, none⟩ = false := twoBlk h.blk
theorem rdv_shape {v : Value} {B : Nat} (h : RdW W B v l) : ∃ a m c, v = .slice a m c ∧ m = l.length := by
  obtain ⟨a, c, hv, _⟩ := h.open_
  exact ⟨a, _, c, hv, rfl⟩
end
theorem waitS_len (n : Int) (l : List Wt) (p r : Int) : (waitS n l p r).2.1.length ≤ l.length + 1 := by
  unfold waitS
  split
  · simp
  · split
    · simp
    · simp [enterW_length]
theorem signalS_len (n : Int) (l : List Wt) : (signalS n l).2.1.length ≤ l.length := by
  unfold signalS
  split
  · simp
  · cases l with
    | nil => simp; split <;> simp
    | cons x m => simp
theorem cancelS_len (n : Int) (l : List Wt) (p : Int) : (cancelS n l p).1.length ≤ l.length := by
  unfold cancelS
  split
  · simp
  · exact leave_length l p

/-- append to a row of one's own, at a step of a region that draws. -/
theorem step_append_own {P : Program} {ops : Array Oper} {o : Oper} {a : Act} {w : World} {K : Act → World → Prop} {Q : Exit → Act → World → Prop} {E : Prop}
    (hg : o.guard = none) (s x : Operand) (t : TypeId) (hop : o.op = .call { callee := .builtin .append, args := #[s, x], argTypes := #[t, t] })
    (base : Nat) (e : TypeId) (i : TypeInfo) (z : Value) (size bytes : Nat) (ht : P.underlying t = some (.slice e)) (hi : P.info? e = some i) (hz : i.zero = some z) (hsize : i.size = size) (hby : i.bytes = bytes) (hzs : z.cells.size = size) (hsz : 0 < size)
    (v : Value) (n : Nat) (xs : List Value) (hs : a.eval s = v) (hown : w.ownsRow base e size v n xs) (ad : Addr) (m c : Nat) (news : List Value) (hx : a.eval x = .slice (some ad) m c) (hl : news.length = m * size)
    (hnews : ∀ j u, news[j]? = some u → w.cell? (ad.add j) = some u) (h1 : ∀ u ∈ news, u.oneCell' = true) (h63 : n + m ≤ maxLen) (hbytes : (n + m) * bytes ≤ 140737488355328) (hbase : base ≤ w.heap.size)
    (h : ∀ v' w', w'.ownsRow base e size v' (n + m) (xs ++ news) → w.grownBy w' v.ownBlock → K (a.put o.dst v') w') :
    if Region.wanted o (yielded ops a.tmps) = true then Oper.wp P o a w K Q else E := by
  have hw : Region.wanted o (yielded ops a.tmps) = true := by simp [Region.wanted, hg]
  rw [if_pos hw]
  obtain ⟨v', w', hr, h2, h3, _⟩ := run_append_own (P := P) w base t o.type e i z size bytes ht hi hz hsize hby hzs hsz v n xs hown ad m c news hl hnews h1 h63 hbytes hbase
  unfold Oper.wp execOp
  simp only [hop, resolve, invoke, builtin, Sem.run_bind, Sem.run_pure, Result.andThen_ok, List.map_toArray, List.map_cons, List.map_nil, hs, hx, hr]
  exact h v' w' h2 h3

theorem alloc2 (w : World) (o o' : Obj) : ((w.alloc o).alloc o').heap[w.heap.size + 1]? = some o' := by
  have := heap_alloc_new (w.alloc o) o'
  simpa using this
theorem own_put2 {w : World} {B e s n g : Nat} {t : TypeId} {v a b : Value} {xs : List Value} (h : w.ownsRow B e s v n xs) (hg : w.heap[g]? = some (.cells #[a, b] t (0, 0))) (ht : t ≠ e) (x y : Value) :
    ((w.setCell ⟨g, 0, none⟩ x).setCell ⟨g, 1, none⟩ y).ownsRow B e s v n xs ∧ ((w.setCell ⟨g, 0, none⟩ x).setCell ⟨g, 1, none⟩ y).heap[g]? = some (.cells #[x, y] t (0, 0)) := by
  have h1 := heap_setCell_same w g 0 _ _ x hg
  have h2 := heap_setCell_same _ g 1 _ _ y h1
  simp at h1 h2
  exact ⟨own_oth (own_oth h hg ht) h1 ht, h2⟩
theorem own_rd {w : World} {B : Nat} {v : Value} {l : List Wt} (h : w.ownsRow B 56 3 v l.length (cellsW l)) : RdW w 0 v l := RdW.mono (B := B) (Sl.of_own h) (Nat.zero_le _)
theorem rdi_shape {k : IntKind} {w : World} {B : Nat} {v : Value} {l : List Int} (h : RdI k w B v l) : ∃ a m c, v = .slice a m c ∧ m = l.length := by
  obtain ⟨a, c, hv, _⟩ := h.open_
  exact ⟨a, _, c, hv, rfl⟩
theorem raiseE_len (n : Bool) (l : List Wt) : (raiseE n l).2.1.length ≤ l.length ∧ (raiseE n l).2.2.1.length ≤ l.length := by
  unfold raiseE
  split <;> simp
theorem untilE_len (n : Bool) (l : List Wt) (p r : Int) : (untilE n l p r).1.length ≤ l.length + 1 := by
  unfold untilE
  split
  · simp
  · split
    · simp
    · simp [enterW_length]
theorem cancelE_len (n : Bool) (l : List Wt) (p : Int) : (cancelE n l p).1.length ≤ l.length := by
  unfold cancelE
  split
  · simp
  · exact leave_length l p
theorem TurnW.of' {w : World} {B m c : Nat} {a : Option Addr} {l : List Wt} (h : FrW w B (.slice a m c) l) : TurnW w B w.heap.size (.slice a m c) m := by
  have := TurnW.of h
  obtain ⟨a', c', hv, _⟩ := h.1.open_
  simp only [Value.slice.injEq] at hv
  rw [hv.2.1]
  rw [hv.2.1] at this
  exact this
end Go.Proofs.Ytglbfmcbojjglaa

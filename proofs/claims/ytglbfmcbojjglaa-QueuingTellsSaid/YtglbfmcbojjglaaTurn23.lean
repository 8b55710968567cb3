/-
  Words for QueuingTells: messages and waiting lists whose elements are turned in place. A cell that holds a number is no cell that holds a slice, so no types of blocks are needed. No conditions.
-/
import Derived.Test.YtglbfmcbojjglaaQzF
namespace Go.Proofs.Ytglbfmcbojjglaa
open Go.RowKit

/-- What is left of a message while its bytes are turned. -/
def TurnM (w : World) (B C : Nat) (v : Value) : Prop :=
  ∃ (a : Option Addr) (n c : Nat), v = .slice a n c ∧ n ≤ 1000 ∧ (0 < n → ∃ b off, a = some ⟨b, off, none⟩ ∧ B ≤ b ∧ b < C ∧ b < w.heap.size ∧ ∀ k, k < n → (∃ z, w.cell? ⟨b, off + k, none⟩ = some (.int .u8 z)) ∧ w.frozen? ⟨b, off + k, none⟩ = false)
/-- Of a queue. -/
def TurnQ (w : World) (B C : Nat) (v : Value) (n : Nat) : Prop :=
  ∃ (a : Option Addr) (c : Nat), v = .slice a n c ∧ (0 < n → ∃ b off, a = some ⟨b, off, none⟩ ∧ B ≤ b ∧ b < C ∧ b < w.heap.size ∧ ∀ k, k < n → ∃ u, w.cell? ⟨b, off + k, none⟩ = some u ∧ TurnM w B C u)
/-- Of a waiting list. -/
def TurnP (w : World) (B C : Nat) (v : Value) (n : Nat) : Prop :=
  ∃ (a : Option Addr) (c : Nat), v = .slice a n c ∧ (0 < n → ∃ b off, a = some ⟨b, off, none⟩ ∧ B ≤ b ∧ b < C ∧ b < w.heap.size ∧ ∀ k, k < n → (∃ z, w.cell? ⟨b, off + k * 3, none⟩ = some (.int .i64 z)) ∧ w.frozen? ⟨b, off + k * 3, none⟩ = false)
section
variable {w w' : World} {B B' C C' n : Nat} {v : Value}
theorem TurnM.next (h : TurnM w B C v) (hb : Below w.heap.size w w') : TurnM w' B C v := by
  obtain ⟨a, n, c, hv, hn, hp⟩ := h
  refine ⟨a, n, c, hv, hn, fun h0 => ?_⟩
  obtain ⟨b, off, ha, h1, h2, h3, hc⟩ := hp h0
  refine ⟨b, off, ha, h1, h2, Nat.lt_of_lt_of_le h3 hb.size, fun k hk => ?_⟩
  rw [hb.cell (p := ⟨b, _, none⟩) h3, hb.frozen (p := ⟨b, _, none⟩) h3]
  exact hc k hk
theorem TurnM.up (h : TurnM w B C v) (hC : C ≤ C') : TurnM w B C' v := by
  obtain ⟨a, n, c, hv, hn, hp⟩ := h
  refine ⟨a, n, c, hv, hn, fun h0 => ?_⟩
  obtain ⟨b, off, ha, h1, h2, r⟩ := hp h0
  exact ⟨b, off, ha, h1, by omega, r⟩
theorem TurnM.mono (h : TurnM w B C v) (hB : B' ≤ B) : TurnM w B' C v := by
  obtain ⟨a, n, c, hv, hn, hp⟩ := h
  refine ⟨a, n, c, hv, hn, fun h0 => ?_⟩
  obtain ⟨b, off, ha, h1, r⟩ := hp h0
  exact ⟨b, off, ha, by omega, r⟩
theorem frozen_set {w : World} {p q : Addr} {u : Value} : (w.setCell p u).frozen? q = w.frozen? q := by
  unfold World.frozen? World.setCell
  simp only [Array.getElem?_modify]
  by_cases e : p.block = q.block
  · rw [if_pos e]
    cases w.heap[q.block]? with
    | none => rfl
    | some o => cases o <;> rfl
  · rw [if_neg e]
theorem size_set {w : World} {p : Addr} {u : Value} : (w.setCell p u).heap.size = w.heap.size := by simp [World.setCell]
theorem int_set {w : World} {p q : Addr} {kd kd' : IntKind} {z z' y : Int} (hp : w.cell? p = some (.int kd z)) (hq : w.cell? q = some (.int kd' y)) : ∃ y', (w.setCell p (.int kd z')).cell? q = some (.int kd' y') := by
  by_cases e : p = q
  · subst e
    rw [hp] at hq
    simp only [Option.some.injEq, Value.int.injEq] at hq
    obtain ⟨rfl, rfl⟩ := hq
    exact ⟨z', World.cell?_setCell_same _ _ _ hp⟩
  · exact ⟨y, by rw [World.cell?_setCell_other _ _ _ _ e]; exact hq⟩
theorem TurnM.set {p : Addr} {kd : IntKind} {z z' : Int} (h : TurnM w B C v) (hp : w.cell? p = some (.int kd z)) : TurnM (w.setCell p (.int kd z')) B C v := by
  obtain ⟨a, n, c, hv, hn, hq⟩ := h
  refine ⟨a, n, c, hv, hn, fun h0 => ?_⟩
  obtain ⟨b, off, ha, h1, h2, h3, hc⟩ := hq h0
  refine ⟨b, off, ha, h1, h2, by rw [size_set]; exact h3, fun k hk => ?_⟩
  obtain ⟨⟨y, hy⟩, hf⟩ := hc k hk
  exact ⟨int_set hp hy, by rw [frozen_set]; exact hf⟩
theorem TurnQ.next (h : TurnQ w B C v n) (hb : Below w.heap.size w w') : TurnQ w' B C v n := by
  obtain ⟨a, c, hv, hp⟩ := h
  refine ⟨a, c, hv, fun h0 => ?_⟩
  obtain ⟨b, off, ha, h1, h2, h3, hc⟩ := hp h0
  refine ⟨b, off, ha, h1, h2, Nat.lt_of_lt_of_le h3 hb.size, fun k hk => ?_⟩
  obtain ⟨u, hu, hm⟩ := hc k hk
  exact ⟨u, (hb.cell (p := ⟨b, _, none⟩) h3).trans hu, hm.next hb⟩
theorem TurnQ.up (h : TurnQ w B C v n) (hC : C ≤ C') : TurnQ w B C' v n := by
  obtain ⟨a, c, hv, hp⟩ := h
  refine ⟨a, c, hv, fun h0 => ?_⟩
  obtain ⟨b, off, ha, h1, h2, h3, hc⟩ := hp h0
  refine ⟨b, off, ha, h1, by omega, h3, fun k hk => ?_⟩
  obtain ⟨u, hu, hm⟩ := hc k hk
  exact ⟨u, hu, hm.up hC⟩
theorem TurnQ.mono (h : TurnQ w B C v n) (hB : B' ≤ B) : TurnQ w B' C v n := by
  obtain ⟨a, c, hv, hp⟩ := h
  refine ⟨a, c, hv, fun h0 => ?_⟩
  obtain ⟨b, off, ha, h1, h2, h3, hc⟩ := hp h0
  refine ⟨b, off, ha, by omega, h2, h3, fun k hk => ?_⟩
  obtain ⟨u, hu, hm⟩ := hc k hk
  exact ⟨u, hu, hm.mono hB⟩
theorem TurnQ.set {p : Addr} {kd : IntKind} {z z' : Int} (h : TurnQ w B C v n) (hp : w.cell? p = some (.int kd z)) : TurnQ (w.setCell p (.int kd z')) B C v n := by
  obtain ⟨a, c, hv, hq⟩ := h
  refine ⟨a, c, hv, fun h0 => ?_⟩
  obtain ⟨b, off, ha, h1, h2, h3, hc⟩ := hq h0
  refine ⟨b, off, ha, h1, h2, by rw [size_set]; exact h3, fun k hk => ?_⟩
  obtain ⟨u, hu, hm⟩ := hc k hk
  refine ⟨u, ?_, hm.set hp⟩
  rw [World.cell?_setCell_other _ _ _ _ ?_]
  · exact hu
  · intro e
    subst e
    rw [hu] at hp
    obtain ⟨_, _, _, hu', _⟩ := hm
    subst hu'
    simp at hp
theorem TurnP.next (h : TurnP w B C v n) (hb : Below w.heap.size w w') : TurnP w' B C v n := by
  obtain ⟨a, c, hv, hp⟩ := h
  refine ⟨a, c, hv, fun h0 => ?_⟩
  obtain ⟨b, off, ha, h1, h2, h3, hc⟩ := hp h0
  refine ⟨b, off, ha, h1, h2, Nat.lt_of_lt_of_le h3 hb.size, fun k hk => ?_⟩
  rw [hb.cell (p := ⟨b, _, none⟩) h3, hb.frozen (p := ⟨b, _, none⟩) h3]
  exact hc k hk
theorem TurnP.up (h : TurnP w B C v n) (hC : C ≤ C') : TurnP w B C' v n := by
  obtain ⟨a, c, hv, hp⟩ := h
  refine ⟨a, c, hv, fun h0 => ?_⟩
  obtain ⟨b, off, ha, h1, h2, r⟩ := hp h0
  exact ⟨b, off, ha, h1, by omega, r⟩
theorem TurnP.mono (h : TurnP w B C v n) (hB : B' ≤ B) : TurnP w B' C v n := by
  obtain ⟨a, c, hv, hp⟩ := h
  refine ⟨a, c, hv, fun h0 => ?_⟩
  obtain ⟨b, off, ha, h1, r⟩ := hp h0
  exact ⟨b, off, ha, by omega, r⟩
theorem TurnP.set {p : Addr} {kd : IntKind} {z z' : Int} (h : TurnP w B C v n) (hp : w.cell? p = some (.int kd z)) : TurnP (w.setCell p (.int kd z')) B C v n := by
  obtain ⟨a, c, hv, hq⟩ := h
  refine ⟨a, c, hv, fun h0 => ?_⟩
  obtain ⟨b, off, ha, h1, h2, h3, hc⟩ := hq h0
  refine ⟨b, off, ha, h1, h2, by rw [size_set]; exact h3, fun k hk => ?_⟩
  obtain ⟨⟨y, hy⟩, hf⟩ := hc k hk
  exact ⟨int_set hp hy, by rw [frozen_set]; exact hf⟩
theorem TurnM.of {x : List Int} (h : FrI w B v x) (hx : x.length ≤ 1000) : TurnM w B w.heap.size v := by
  obtain ⟨a, c, hv, _, _, hp⟩ := h.1.open_
  refine ⟨a, _, c, hv, hx, fun h0 => ?_⟩
  obtain ⟨b, off, ha, hB, hb, hc⟩ := hp h0
  subst ha
  exact ⟨b, off, rfl, hB, hb, hb, fun k hk => ⟨⟨_, hc k hk⟩, h.2 _ _ _ hv h0 _⟩⟩
theorem TurnQ.of {q : List (List Int)} (h : FrQ w B v q) (hq : ∀ x ∈ q, x.length ≤ 1000) : TurnQ w B w.heap.size v q.length := by
  obtain ⟨vs, ⟨ao, cap, hv, h1, h2, h3, hp⟩, hi⟩ := h
  refine ⟨ao, cap, hv, fun h0 => ?_⟩
  obtain ⟨b, off, ha, hB, hb, hc⟩ := hp h0
  refine ⟨b, off, ha, hB, hb, hb, fun k hk => ?_⟩
  have hkv : k < vs.length := by omega
  exact ⟨vs[k], hc k _ (List.getElem?_eq_getElem hkv), TurnM.of (hi k _ _ (List.getElem?_eq_getElem hkv) (List.getElem?_eq_getElem hk)) (hq _ (List.getElem_mem hk))⟩
theorem TurnP.of {l : List Wt} (h : FrW w B v l) : TurnP w B w.heap.size v l.length := by
  obtain ⟨a, c, hv, _, _, hp⟩ := h.1.open_
  refine ⟨a, c, hv, fun h0 => ?_⟩
  obtain ⟨b, off, ha, hB, hb, hc⟩ := hp h0
  subst ha
  exact ⟨b, off, rfl, hB, hb, hb, fun k hk => ⟨⟨_, (hc k hk).1⟩, h.2 _ _ _ hv h0 _⟩⟩
/-- The k-th. -/
theorem TurnM.at {a : Option Addr} {m c : Nat} (h : TurnM w B C (.slice a m c)) (k : Nat) (hk : k < m) : ∃ b off z, a = some ⟨b, off, none⟩ ∧ B ≤ b ∧ b < C ∧ b < w.heap.size ∧ w.cell? ⟨b, off + k, none⟩ = some (.int .u8 z) ∧ w.frozen? ⟨b, off + k, none⟩ = false := by
  obtain ⟨a', n', c', hv, hn, hp⟩ := h
  simp only [Value.slice.injEq] at hv
  obtain ⟨rfl, rfl, rfl⟩ := hv
  obtain ⟨b, off, ha, hB, hC, hb, hc⟩ := hp (by omega)
  obtain ⟨⟨z, hz⟩, hf⟩ := hc k hk
  exact ⟨b, off, z, ha, hB, hC, hb, hz, hf⟩
theorem TurnP.at {a : Option Addr} {m c : Nat} (h : TurnP w B C (.slice a m c) n) (k : Nat) (hk : k < n) : ∃ b off z, a = some ⟨b, off, none⟩ ∧ B ≤ b ∧ b < C ∧ b < w.heap.size ∧ w.cell? ⟨b, off + k * 3, none⟩ = some (.int .i64 z) ∧ w.frozen? ⟨b, off + k * 3, none⟩ = false := by
  obtain ⟨a', c', hv, hp⟩ := h
  simp only [Value.slice.injEq] at hv
  obtain ⟨rfl, rfl, rfl⟩ := hv
  obtain ⟨b, off, ha, hB, hC, hb, hc⟩ := hp (by omega)
  obtain ⟨⟨z, hz⟩, hf⟩ := hc k hk
  exact ⟨b, off, z, ha, hB, hC, hb, hz, hf⟩
theorem TurnQ.at {a : Option Addr} {m c : Nat} (h : TurnQ w B C (.slice a m c) n) (k : Nat) (hk : k < n) : ∃ b off a' m' c', a = some ⟨b, off, none⟩ ∧ b < w.heap.size ∧ w.cell? ⟨b, off + k, none⟩ = some (.slice a' m' c') ∧ m' ≤ 1000 ∧ TurnM w B C (.slice a' m' c') := by
  obtain ⟨a', c', hv, hp⟩ := h
  simp only [Value.slice.injEq] at hv
  obtain ⟨rfl, rfl, rfl⟩ := hv
  obtain ⟨b, off, ha, hB, hC, hb, hc⟩ := hp (by omega)
  obtain ⟨u, hu, hm⟩ := hc k hk
  have hm' := hm
  obtain ⟨a1, n1, c1, rfl, hn, _⟩ := hm'
  exact ⟨b, off, a1, n1, c1, ha, hb, hu, hn, hm⟩
end
/-- The row of block g that leads to what is turned; all that was there in W0 is as it was. -/
structure TQ (W0 w : World) (g : Nat) (t : TypeId) (row : Array Value) (qs ps : List (Value × Nat)) (ms : List Value) : Prop where
  blk : w.heap[g]? = some (.cells row t (0, 0))
  bel : Below W0.heap.size W0 w
  ge : W0.heap.size ≤ g
  tq : ∀ p ∈ qs, TurnQ w W0.heap.size g p.1 p.2
  tp : ∀ p ∈ ps, TurnP w W0.heap.size g p.1 p.2
  tm : ∀ v ∈ ms, TurnM w W0.heap.size g v
section
variable {W0 w w' : World} {g : Nat} {t : TypeId} {row : Array Value} {qs ps : List (Value × Nat)} {ms : List Value}
theorem TQ.next (h : TQ W0 w g t row qs ps ms) (hb : Below w.heap.size w w') : TQ W0 w' g t row qs ps ms :=
  ⟨(hb.block _ (blk_lt h.blk)).trans h.blk, h.bel.trans (hb.mono h.bel.size), h.ge, fun p hp => (h.tq p hp).next hb, fun p hp => (h.tp p hp).next hb, fun p hp => (h.tm p hp).next hb⟩
theorem TQ.alloc (h : TQ W0 w g t row qs ps ms) (o : Obj) : TQ W0 (w.alloc o) g t row qs ps ms := h.next ((Below.refl _ _).alloc (Nat.le_refl _) _)
theorem TQ.set {b o : Nat} {kd : IntKind} {z : Int} (h : TQ W0 w g t row qs ps ms) (hb : W0.heap.size ≤ b) (hg : b < g) (hc : w.cell? ⟨b, o, none⟩ = some (.int kd z)) (z' : Int) : TQ W0 (w.setCell ⟨b, o, none⟩ (.int kd z')) g t row qs ps ms :=
  ⟨(Below.heap_setCell _ _ _ _ (by show g ≠ b; omega)).trans h.blk, h.bel.setCell (p := ⟨b, o, none⟩) hb _, h.ge, fun p hp => (h.tq p hp).set hc, fun p hp => (h.tp p hp).set hc, fun p hp => (h.tm p hp).set hc⟩
theorem TQ.new {w1 : World} (hb : Below W0.heap.size W0 w1) (h1 : ∀ p ∈ qs, TurnQ w1 W0.heap.size w1.heap.size p.1 p.2) (h2 : ∀ p ∈ ps, TurnP w1 W0.heap.size w1.heap.size p.1 p.2) (h3 : ∀ v ∈ ms, TurnM w1 W0.heap.size w1.heap.size v) : TQ W0 (w1.alloc (.cells row t)) w1.heap.size t row qs ps ms := by
  have hn : Below w1.heap.size w1 (w1.alloc (.cells row t)) := (Below.refl _ _).alloc (Nat.le_refl _) _
  exact ⟨heap_alloc_new w1 _, hb.alloc hb.size _, hb.size, fun p hp => (h1 p hp).next hn, fun p hp => (h2 p hp).next hn, fun p hp => (h3 p hp).next hn⟩
/-- The second row: the two messages. -/
theorem TQ.again {t' : TypeId} {row' : Array Value} (h : TQ W0 w g t row qs ps ms) : TQ W0 (w.alloc (.cells row' t')) w.heap.size t' row' [] [] ms :=
  TQ.new h.bel (by simp) (by simp) (fun v hv => (h.tm v hv).up (Nat.le_of_lt (blk_lt h.blk)))
theorem TQ.cell (h : TQ W0 w g t row qs ps ms) (j : Nat) (x : Value) (hx : row[j]? = some x) : w.cell? ⟨g, j, none⟩ = some x := by
  rw [cell_of_row w _ _ _ _ _ h.blk]
  exact hx
end
end Go.Proofs.Ytglbfmcbojjglaa

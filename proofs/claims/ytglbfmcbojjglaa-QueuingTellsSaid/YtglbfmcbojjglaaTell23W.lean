/-
  Words for QueuingTells: variables, what the two regions that draw leave, plain facts. No conditions.
-/
import Derived.Test.YtglbfmcbojjglaaTell23B
import Derived.Test.YtglbfmcbojjglaaTurn23
import Derived.Test.YtglbfmcbojjglaaQzH
import Derived.Test.YtglbfmcbojjglaaSame
import Derived.Test.YtglbfmcbojjglaaMono4
namespace Go.Proofs.Ytglbfmcbojjglaa
open Go.RowKit

/-- A variable of a state that is never written again. -/
structure VQ (W : World) (g : Nat) (t : TypeId) (a b : Value) (n : Int) (q : List (List Int)) (l : List Wt) : Prop where
  blk : W.heap[g]? = some (.cells #[a, b, .int .i64 n] t (0, 0))
  rq : RdQ W 0 a q
  rw : RdW W 0 b l
section
variable {W W' : World} {g : Nat} {t : TypeId} {a b : Value} {n : Int} {q : List (List Int)} {l : List Wt}
theorem VQ.next (h : VQ W g t a b n q l) (hb : Below W.heap.size W W') : VQ W' g t a b n q l := ⟨(hb.block _ (blk_lt h.blk)).trans h.blk, h.rq.below hb, h.rw.below hb⟩
theorem VQ.alloc (h : VQ W g t a b n q l) (ob : Obj) : VQ (W.alloc ob) g t a b n q l := h.next ((Below.refl _ _).alloc (Nat.le_refl _) _)
theorem VQ.new (h1 : RdQ W 0 a q) (h2 : RdW W 0 b l) : VQ (W.alloc (.cells #[a, b, .int .i64 n] t)) W.heap.size t a b n q l := ⟨heap_alloc_new W _, h1.alloc _, h2.alloc _⟩
theorem VQ.cells (h : VQ W g t a b n q l) : W.cell? ⟨g, 0, none⟩ = some a ∧ W.cell? ⟨g, 1, none⟩ = some b ∧ W.cell? ⟨g, 2, none⟩ = some (.int .i64 n) := by
  obtain ⟨h0, h1, h2, _⟩ := threeBlk h.blk
  exact ⟨h0, h1, h2⟩
end
/-- The variable of a port. -/
def VP (W : World) (g : Nat) (nm : ByteArray) (k : Int) (o : Bool) (s d r : Int) : Prop := W.heap[g]? = some (.cells #[.string nm, .int .u8 k, .bool o, .int .i64 s, .int .i64 d, .int .i64 r] 23 (0, 0))
theorem VP.next {W W' : World} {g : Nat} {nm : ByteArray} {k : Int} {o : Bool} {s d r : Int} (h : VP W g nm k o s d r) (hb : Below W.heap.size W W') : VP W' g nm k o s d r := (hb.block _ (blk_lt h)).trans h
theorem VP.alloc {W : World} {g : Nat} {nm : ByteArray} {k : Int} {o : Bool} {s d r : Int} (h : VP W g nm k o s d r) (ob : Obj) : VP (W.alloc ob) g nm k o s d r := h.next ((Below.refl _ _).alloc (Nat.le_refl _) _)
theorem RdI.allocX {W : World} {v : Value} {x : List Int} (h : RdI .u8 W 0 v x) (ob : Obj) : RdI .u8 (W.alloc ob) 0 v x := h.below ((Below.refl _ _).alloc (Nat.le_refl _) _)

/-- A variable that still holds zeros is no part of what was told ahead of it: its cells hold nothing that a row of bytes or of waiters could hold, and its type is none of a row of messages. -/
theorem Sl.put3 {w : World} {B sz n k : Nat} {v x y z : Value} {xs : List Value} (h : Sl w B sz v n xs) (hne : ∀ b off m c, v = .slice (some ⟨b, off, none⟩) m c → 0 < m → b ≠ k) : Sl (put3 w k x y z) B sz v n xs := by
  obtain ⟨ao, cap, hv, h1, h2, h3, hp⟩ := h
  refine ⟨ao, cap, hv, h1, h2, h3, fun h0 => ?_⟩
  obtain ⟨b, off, ha, hB, hb, hc⟩ := hp h0
  subst ha
  have hbk := hne b off n cap hv h0
  refine ⟨b, off, rfl, hB, by rw [put3_size]; exact hb, fun j u hu => ?_⟩
  unfold Go.Proofs.Ytglbfmcbojjglaa.put3
  rw [World.cell?_setCell_other _ _ _ _ (by intro e; injection e with e; exact hbk e.symm), World.cell?_setCell_other _ _ _ _ (by intro e; injection e with e; exact hbk e.symm), World.cell?_setCell_other _ _ _ _ (by intro e; injection e with e; exact hbk e.symm)]
  exact hc j u hu
section
variable {w : World} {k : Nat} {t : TypeId} {v x y z : Value}
theorem var_cell {off : Nat} {u : Value} (hk : Var3 w k t) (hu : w.cell? ⟨k, off, none⟩ = some u) : (∃ a n c, u = .slice a n c) ∨ (off = 2 ∧ ∃ z, u = .int .i64 z) := by
  obtain ⟨a, n, c, a', n', c', z, hk⟩ := hk
  rw [cell_of_row w _ _ _ _ _ hk] at hu
  match off, hu with
  | 0, hu => simp at hu; exact .inl ⟨_, _, _, hu.symm⟩
  | 1, hu => simp at hu; exact .inl ⟨_, _, _, hu.symm⟩
  | 2, hu => simp at hu; exact .inr ⟨rfl, _, hu.symm⟩
  | n + 3, hu => simp at hu
theorem Var3.putO {k' : Nat} {q : Value} {t' : TypeId} (h : Var3 w k' t') (hk : Var3 w k t) (hq : Agg3 q x y z) : Var3 (put3 w k x y z) k' t' := by
  by_cases e : k' = k
  · subst e
    obtain ⟨a, n, c, a', n', c', u, h⟩ := h
    exact (Var3.put ⟨a, n, c, a', n', c', u, h⟩ hq).2
  · obtain ⟨a, n, c, a', n', c', u, h⟩ := h
    refine ⟨a, n, c, a', n', c', u, ?_⟩
    unfold Go.Proofs.Ytglbfmcbojjglaa.put3
    rw [Below.heap_setCell _ _ _ _ e, Below.heap_setCell _ _ _ _ e, Below.heap_setCell _ _ _ _ e]
    exact h
theorem rdi_put3 {B : Nat} {l : List Int} (h : RdI .u8 w B v l) (hk : Var3 w k t) : RdI .u8 (put3 w k x y z) B v l := by
  refine Sl.put3 h fun b off m c hv hm e => ?_
  subst e
  obtain ⟨ao, cap, hv', _, _, hp⟩ := h.open_
  rw [hv] at hv'
  simp only [Value.slice.injEq] at hv'
  obtain ⟨rfl, rfl, rfl⟩ := hv'
  obtain ⟨b', off', ha, _, _, hc⟩ := hp hm
  simp only [Option.some.injEq, Addr.mk.injEq, and_true] at ha
  obtain ⟨rfl, rfl⟩ := ha
  rcases var_cell hk (hc 0 hm) with ⟨_, _, _, e⟩ | ⟨_, _, e⟩ <;> simp at e
theorem rdw_put3 {B : Nat} {l : List Wt} (h : RdW w B v l) (hk : Var3 w k t) : RdW (put3 w k x y z) B v l := by
  refine Sl.put3 h fun b off m c hv hm e => ?_
  subst e
  obtain ⟨ao, cap, hv', _, _, hp⟩ := h.open_
  rw [hv] at hv'
  simp only [Value.slice.injEq] at hv'
  obtain ⟨rfl, rfl, rfl⟩ := hv'
  obtain ⟨b', off', ha, _, _, hc⟩ := hp hm
  simp only [Option.some.injEq, Addr.mk.injEq, and_true] at ha
  obtain ⟨rfl, rfl⟩ := ha
  obtain ⟨c0, c1, _⟩ := hc 0 hm
  rcases var_cell hk c0 with ⟨_, _, _, e⟩ | ⟨e0, _⟩
  · simp at e
  · rcases var_cell hk c1 with ⟨_, _, _, e⟩ | ⟨e, _⟩
    · simp at e
    · omega
theorem rdq_put3 {q : List (List Int)} (h : RdQ w 0 v q) (hg : TgQ w v) (hk : Var3 w k t) (ht : t ≠ 28) : RdQ (put3 w k x y z) 0 v q := by
  obtain ⟨vs, h1, h2⟩ := h
  refine ⟨vs, Sl.put3 h1 fun b off m c hv hm e => ?_, fun i u x hu hx => rdi_put3 (h2 i u x hu hx) hk⟩
  subst e
  obtain ⟨cs, hc⟩ := hg _ _ _ hv hm
  obtain ⟨_, _, _, _, _, _, _, hk⟩ := hk
  rw [hk] at hc
  simp only [Option.some.injEq, Obj.cells.injEq] at hc
  exact ht hc.2.1
end
theorem set_farQ {W : World} {g b o : Nat} {ob : Obj} {u : Value} (h : W.heap[g]? = some ob) (hne : g ≠ b) : (W.setCell ⟨b, o, none⟩ u).heap[g]? = some ob := (Below.heap_setCell _ _ _ _ hne).trans h
theorem TgQ.put3 {w : World} {k : Nat} {v x y z : Value} (h : TgQ w v) : TgQ (put3 w k x y z) v := h.set.set.set

/-- What the operations of 'was, message := ..' leave. -/
def E23 (B : Nat) (s0 vx : Value) (n : Int) (q : List (List Int)) (l : List Wt) (x : List Int) (i : Nat) (v : Value) (w : World) : Prop :=
  match i with
  | 0 => v = s0
  | 1 => ∃ a c a' c', v = .agg #[.slice a q.length c, .slice a' l.length c', .int .i64 n] ∧ RdQ w 0 (.slice a q.length c) q ∧ RdW w 0 (.slice a' l.length c') l ∧ TgQ w (.slice a q.length c)
  | 2 => v = vx
  | 3 => v = .string (strOfNums x)
  | 4 => ∃ k, v = .pointer (some ⟨k, 0, none⟩) ∧ B ≤ k ∧ Var3 w k 27
  | 6 => v = .string (strOfNums x)
  | _ => True
theorem E23.keep {B : Nat} {s0 vx : Value} {n : Int} {q : List (List Int)} {l : List Wt} {x : List Int} (i : Nat) (v : Value) (w w' : World) (h : E23 B s0 vx n q l x i v w) (hb : Below w.heap.size w w') : E23 B s0 vx n q l x i v w' := by
  unfold E23 at *
  split <;> simp only at h <;> first
    | exact h
    | (obtain ⟨a, c, a', c', e, h1, h2, h3⟩ := h; exact ⟨a, c, a', c', e, h1.below hb, h2.below hb, h3.below hb⟩)
    | (obtain ⟨k, e, hk, hh⟩ := h; exact ⟨k, e, hk, hh.next hb⟩)
theorem E23.put {B : Nat} {s0 vx : Value} {n : Int} {q : List (List Int)} {l : List Wt} {x : List Int} (i : Nat) (v : Value) (w : World) (k : Nat) (q0 x0 y0 z0 : Value) (h : E23 B s0 vx n q l x i v w) (hk : Var3 w k 27) (ha : Agg3 q0 x0 y0 z0) : E23 B s0 vx n q l x i v (put3 w k x0 y0 z0) := by
  unfold E23 at *
  split <;> simp only at h <;> first
    | exact h
    | (obtain ⟨a, c, a', c', e, h1, h2, h3⟩ := h; exact ⟨a, c, a', c', e, rdq_put3 h1 h3 hk (by decide), rdw_put3 h2 hk, h3.put3⟩)
    | (obtain ⟨k', e, hk', hh⟩ := h; exact ⟨k', e, hk', hh.putO hk ha⟩)
/-- What the operations of the reference's Send leave. -/
def G23 (B : Nat) (p0 r0 vx : Value) (x : List Int) (n' m e : Int) (q' : List (List Int)) (l' : List Wt) (i : Nat) (v : Value) (w : World) : Prop :=
  match i with
  | 0 => v = p0
  | 1 => v = r0
  | 2 => ∃ k, v = .slice (some ⟨k, 0, none⟩) 0 0
  | 3 => v = vx
  | 4 => ∃ a c, v = .slice a x.length c ∧ RdI .u8 w 0 v x
  | 5 => ∃ a c a' c', v = .tuple #[.agg #[.slice a q'.length c, .slice a' l'.length c', .int .i64 n'], .int .i64 m, .int .i64 e] ∧ RdQ w 0 (.slice a q'.length c) q' ∧ RdW w 0 (.slice a' l'.length c') l' ∧ TgQ w (.slice a q'.length c)
  | 6 => ∃ a c a' c', v = .tuple #[.agg #[.slice a q'.length c, .slice a' l'.length c', .int .i64 n'], .int .i64 m, .int .i64 e] ∧ RdQ w 0 (.slice a q'.length c) q' ∧ RdW w 0 (.slice a' l'.length c') l' ∧ TgQ w (.slice a q'.length c)
  | 7 => ∃ a c a' c', v = .agg #[.slice a q'.length c, .slice a' l'.length c', .int .i64 n'] ∧ RdQ w 0 (.slice a q'.length c) q' ∧ RdW w 0 (.slice a' l'.length c') l' ∧ TgQ w (.slice a q'.length c)
  | 8 => v = .int .i64 m
  | 9 => v = .int .i64 e
  | 10 => ∃ k, v = .pointer (some ⟨k, 0, none⟩) ∧ B ≤ k ∧ Var3 w k 32
  | 12 => v = .int .i64 m
  | 13 => v = .int .i64 e
  | _ => True
theorem G23.keep {B : Nat} {p0 r0 vx : Value} {x : List Int} {n' m e : Int} {q' : List (List Int)} {l' : List Wt} (i : Nat) (v : Value) (w w' : World) (h : G23 B p0 r0 vx x n' m e q' l' i v w) (hb : Below w.heap.size w w') : G23 B p0 r0 vx x n' m e q' l' i v w' := by
  unfold G23 at *
  split <;> simp only at h <;> first
    | exact h
    | (obtain ⟨a, c, a', c', e, h1, h2, h3⟩ := h; exact ⟨a, c, a', c', e, h1.below hb, h2.below hb, h3.below hb⟩)
    | (obtain ⟨k, e, hk, hh⟩ := h; exact ⟨k, e, hk, hh.next hb⟩)
    | (obtain ⟨a, c, e, h1⟩ := h; exact ⟨a, c, e, h1.below hb⟩)

theorem G23.put {B : Nat} {p0 r0 vx : Value} {x : List Int} {n' m e : Int} {q' : List (List Int)} {l' : List Wt} (i : Nat) (v : Value) (w : World) (k : Nat) (q0 x0 y0 z0 : Value) (h : G23 B p0 r0 vx x n' m e q' l' i v w) (hk : Var3 w k 32) (ha : Agg3 q0 x0 y0 z0) : G23 B p0 r0 vx x n' m e q' l' i v (put3 w k x0 y0 z0) := by
  unfold G23 at *
  split <;> simp only at h <;> first
    | exact h
    | (obtain ⟨a, c, a', c', e, h1, h2, h3⟩ := h; exact ⟨a, c, a', c', e, rdq_put3 h1 h3 hk (by decide), rdw_put3 h2 hk, h3.put3⟩)
    | (obtain ⟨a, c, e, h1⟩ := h; exact ⟨a, c, e, rdi_put3 h1 hk⟩)
    | (obtain ⟨k', e, hk', hh⟩ := h; exact ⟨k', e, hk', hh.putO hk ha⟩)
/-- Lengths of what comes out. -/
theorem sendQ_len (k s d r : Int) (q : List (List Int)) (l : List Wt) (n : Int) (x : List Int) : (sendQ k s d r q l n x).1.length ≤ q.length + 1 ∧ (∀ y ∈ (sendQ k s d r q l n x).1, y ∈ q ∨ y = x) ∧ (sendQ k s d r q l n x).2.1.length ≤ l.length := by
  unfold sendQ
  split
  · simp; exact fun y h => .inl h
  · split
    · simp; exact fun y h => .inl h
    · split
      · simp; exact fun y h => .inl h
      · split
        · simp; exact fun y h => .inl h
        · simp
theorem takeQ_len (k s d r : Int) (q : List (List Int)) (l : List Wt) (n : Int) : (takeQ k s d r q l n).1.length ≤ q.length ∧ (∀ y ∈ (takeQ k s d r q l n).1, y ∈ q) ∧ ((takeQ k s d r q l n).2.1 = [] ∨ (takeQ k s d r q l n).2.1 ∈ q) := by
  unfold takeQ
  split
  · simp
  · split
    · rename_i x t _
      exact ⟨by simp, fun y h => List.mem_cons_of_mem _ h, .inr (List.mem_cons_self ..)⟩
    · simp
theorem recvQ_len (k s d r : Int) (q : List (List Int)) (l : List Wt) (n p u : Int) : (recvQ k s d r q l n p u).1.length ≤ q.length ∧ (∀ y ∈ (recvQ k s d r q l n p u).1, y ∈ q) ∧ (recvQ k s d r q l n p u).2.1.length ≤ l.length + 1 ∧ ((recvQ k s d r q l n p u).2.2.1 = [] ∨ (recvQ k s d r q l n p u).2.2.1 ∈ q) := by
  unfold recvQ
  split
  · simp
  · split
    · rename_i x t _
      exact ⟨by simp, fun y h => List.mem_cons_of_mem _ h, by simp, .inr (List.mem_cons_self ..)⟩
    · exact ⟨by simp, by simp, by simp [enterW_length], .inl rfl⟩
theorem cancQ_len (k s d r : Int) (q : List (List Int)) (l : List Wt) (n p : Int) : (cancQ k s d r q l n p).1.length ≤ l.length := by
  unfold cancQ
  split
  · simp
  · exact leave_length l p
theorem rdi_sh' {w : World} {B : Nat} {v : Value} {l : List Int} (h : RdI .u8 w B v l) : ∃ a c, v = .slice a l.length c := by
  obtain ⟨a, c, hv, _⟩ := h.open_
  exact ⟨a, c, hv⟩
theorem rdw_sh' {w : World} {B : Nat} {v : Value} {l : List Wt} (h : RdW w B v l) : ∃ a c, v = .slice a l.length c := by
  obtain ⟨a, c, hv, _⟩ := h.open_
  exact ⟨a, c, hv⟩
theorem fewQ_iff {q : List (List Int)} {l : List Wt} (h : fewQ q l = true) : q.length ≤ 40 ∧ l.length ≤ 40 ∧ ∀ x ∈ q, x.length ≤ 200 := by
  simp only [fewQ, Bool.and_eq_true, Bool.not_eq_true', List.any_eq_false, decide_eq_true_eq] at h
  exact ⟨h.2.1, h.2.2, fun x hx => by have := h.1 x hx; omega⟩
end Go.Proofs.Ytglbfmcbojjglaa

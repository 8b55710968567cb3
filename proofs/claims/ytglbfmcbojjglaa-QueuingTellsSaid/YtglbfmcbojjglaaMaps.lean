/-
  A map from integers to integers that counts, as a plain function; orderedness of waiting lists in plain words. No conditions.
-/
import Derived.Test.YtglbfmcbojjglaaBase
import Derived.Maps.OwnOps
import Derived.Maps.Views
namespace Go.Proofs.Ytglbfmcbojjglaa
open Go.RowKit Go.Maps

/-- Block b is a map (type t, keys of type k, an integer kind q; elements int) that reads as the function f; it has at most n entries. -/
def CntM (k : TypeId) (q : IntKind) (w : World) (b n : Nat) (f : Int → Int) : Prop :=
  ∃ D : DataW Unit, IsMap D ∧ w.ownsMap Try.prog k (plainElem Try.prog 3) b n D ∧ ∀ x, D.atKey (.int q x) (.lit (.int .i64 0)) = .lit (.int .i64 (f x))

section
variable {k : TypeId} {q : IntKind} {w w' : World} {b n : Nat} {f : Int → Int}
theorem CntM.made (k : TypeId) (q : IntKind) (w : World) : CntM k q (w.alloc (.map #[] 0)) w.heap.size 0 (fun _ => 0) :=
  ⟨.map [], isMap_empty, World.ownsMap_made _ _ _ _, fun _ => rfl⟩
theorem CntM.lt (h : CntM k q w b n f) : b < w.heap.size := by obtain ⟨D, _, h, _⟩ := h; exact h.lt
theorem CntM.kept {row : Option Nat} (h : CntM k q w b n f) (hg : w.grownBy w' row) (hne : some b ≠ row) : CntM k q w' b n f := by
  obtain ⟨D, h1, h2, h3⟩ := h; exact ⟨D, h1, h2.kept hg hne, h3⟩
theorem CntM.below {B : Nat} (h : CntM k q w b n f) (hb : Below B w w') (hB : b < B) : CntM k q w' b n f := by
  obtain ⟨D, h1, ⟨es, clock, hb', r⟩, h3⟩ := h; exact ⟨D, h1, ⟨es, clock, (hb.block b hB).trans hb', r⟩, h3⟩
theorem CntM.alloc (h : CntM k q w b n f) (o : Obj) : CntM k q (w.alloc o) b n f := by
  obtain ⟨D, h1, h2, h3⟩ := h; exact ⟨D, h1, h2.alloc o, h3⟩
theorem CntM.drewN (h : CntM k q w b n f) (m : Nat) : CntM k q (w.drewN m) b n f := h
theorem CntM.look (h : CntM k q w b n f) {t : TypeId} (ht : Try.prog.underlying t = some (.map k 3)) (hk : Try.prog.underlying k = some (.int q)) (x : Int) (hx : (Lit.int q x).wf = true) :
    (Instr.lookup t (.map (some b)) (.int q x) false).run Try.prog w = .ok (.int .i64 (f x)) w := by
  obtain ⟨D, h1, h2, h3⟩ := h
  have hz : (zeroValue 3).run Try.prog w = .ok (.int .i64 0) w := by kernel_rfl
  obtain ⟨c, hrun, hat, _⟩ := h2.lookup_int (int_keyed hk) ht Try.underlying3 hz (keyOf_int_mk hk hx)
  rw [h3 x] at hat
  simp only [DataW.lit.injEq, Lit.int.injEq, true_and] at hat
  rw [hrun, hat]
theorem CntM.update (h : CntM k q w b n f) {t : TypeId} (ht : Try.prog.underlying t = some (.map k 3)) (hk : Try.prog.underlying k = some (.int q)) (hn : n < maxLen) (x c : Int) (hx : (Lit.int q x).wf = true) (hc : (Lit.int .i64 c).wf = true) :
    ∃ w', (Instr.mapUpdate t (.map (some b)) (.int q x) (.int .i64 c)).run Try.prog w = .ok () w' ∧ CntM k q w' b (n + 1) (fun y => if y = x then c else f y) ∧ w.grownBy w' (some b) := by
  obtain ⟨D, h1, h2, h3⟩ := h
  obtain ⟨w', hrun, ho, hg⟩ := h2.update (int_keyed hk) ht hn (keyOf_int_mk hk hx) (plainElem_int Try.underlying3 hc)
  refine ⟨w', hrun, ⟨_, h1.put _ _, ho, fun y => ?_⟩, hg⟩
  show _ = DataW.lit (Lit.int .i64 (if y = x then c else f y))
  by_cases hy : y = x
  · subst hy
    rw [if_pos rfl, atKey_put_same h1 (k := .int q y) trivial]
  · rw [if_neg hy, atKey_put_other (by simp only [ne_eq, Lit.int.injEq, true_and]; exact hy), h3 y]
end

/-- 'm[x] = c' at the operation, for the walk. -/
theorem wpList_cnt_update {k : TypeId} {q : IntKind} {w : World} {b n : Nat} {f : Int → Int} {ops : Array Oper} {rest : List Oper} {o : Oper} {a : Act} {Q : Exit → Act → World → Prop}
    (hg : o.guard = none) (m x v : Operand) (t : TypeId) (hop : o.op = Op.mapUpdate t m x v) (ht : Try.prog.underlying t = some (.map k 3)) (hk : Try.prog.underlying k = some (.int q))
    (h : CntM k q w b n f) (hn : n < maxLen) (key c : Int) (hx : (Lit.int q key).wf = true) (hc : (Lit.int .i64 c).wf = true) (hm : a.eval m = .map (some b)) (hxe : a.eval x = .int q key) (hve : a.eval v = .int .i64 c)
    (hK : ∀ w', CntM k q w' b (n + 1) (fun y => if y = key then c else f y) → w.grownBy w' (some b) → wpList Try.prog ops Q rest (a.put o.dst undef) w') :
    wpList Try.prog ops Q (o :: rest) a w := by
  refine wpList_plain hg fun K' hK' => ?_
  obtain ⟨w', hrun, r1, r2⟩ := h.update ht hk hn key c hx hc
  unfold Oper.wp
  simp [execOp, hop, hm, hxe, hve, hrun, Result.andThen]
  exact hK' _ _ (hK w' r1 r2)

/-! Orderedness -/
def OrdW (l : List Wt) : Prop := (∀ x ∈ l, 0 ≤ x.proc) ∧ l.Pairwise (fun a b => a.proc ≠ b.proc) ∧ l.Pairwise (fun a b => b.prio ≤ a.prio)
instance (l : List Wt) : Decidable (OrdW l) := by unfold OrdW; exact inferInstance

theorem OrdW.nil : OrdW [] := ⟨by simp, List.Pairwise.nil, List.Pairwise.nil⟩
theorem OrdW.take {l : List Wt} (h : OrdW l) (k : Nat) : OrdW (l.take k) :=
  ⟨fun x hx => h.1 x (List.mem_of_mem_take hx), h.2.1.sublist (List.take_sublist k l), h.2.2.sublist (List.take_sublist k l)⟩

theorem ordW_snoc (m : List Wt) (x : Wt) : OrdW (m ++ [x]) ↔ OrdW m ∧ 0 ≤ x.proc ∧ (∀ y ∈ m, y.proc ≠ x.proc) ∧ ∀ y ∈ m, x.prio ≤ y.prio := by
  unfold OrdW
  simp only [List.pairwise_append, List.mem_append, List.mem_singleton, List.pairwise_singleton]
  constructor
  · rintro ⟨h1, ⟨h2, _, h3⟩, h4, _, h5⟩
    exact ⟨⟨fun y hy => h1 y (.inl hy), h2, h4⟩, h1 x (.inr rfl), fun y hy => h3 y hy x rfl, fun y hy => h5 y hy x rfl⟩
  · rintro ⟨⟨h1, h2, h3⟩, h4, h5, h6⟩
    exact ⟨by rintro y (hy | rfl); exact h1 y hy; exact h4, ⟨h2, trivial, by rintro y hy z rfl; exact h5 y hy⟩, h3, trivial, by rintro y hy z rfl; exact h6 y hy⟩

/-- One step further: the next element against what stands ahead of it. -/
theorem ordW_step (l : List Wt) (k : Nat) (hk : k < l.length) (h : OrdW (l.take k)) :
    OrdW (l.take (k + 1)) ↔ 0 ≤ l[k].proc ∧ (∀ y ∈ l.take k, y.proc ≠ l[k].proc) ∧ (0 < k → l[k].prio ≤ (l[k - 1]'(by omega)).prio) := by
  rw [List.take_succ_eq_append_getElem hk, ordW_snoc]
  constructor
  · rintro ⟨_, h1, h2, h3⟩
    refine ⟨h1, h2, fun h0 => h3 _ ?_⟩
    rw [List.mem_take_iff_getElem]
    exact ⟨k - 1, by omega, rfl⟩
  · rintro ⟨h1, h2, h3⟩
    refine ⟨h, h1, h2, fun y hy => ?_⟩
    rw [List.mem_take_iff_getElem] at hy
    obtain ⟨j, hj, rfl⟩ := hy
    have h3' := h3 (by omega)
    by_cases e : j = k - 1
    · subst e; exact h3'
    · have hp := h.2.2
      rw [List.pairwise_iff_getElem] at hp
      have := hp j (k - 1) (by simp; omega) (by simp; omega) (by omega)
      simp only [List.getElem_take] at this
      omega

/-- The number of a list's elements of a process. -/
def cntP (l : List Wt) (q : Int) : Int := (l.countP fun x => decide (x.proc = q) : Nat)
theorem cntP_zero_iff (l : List Wt) (q : Int) : cntP l q = 0 ↔ ∀ y ∈ l, y.proc ≠ q := by
  unfold cntP
  rw [show ((l.countP (fun x => decide (x.proc = q)) : Nat) : Int) = 0 ↔ l.countP (fun x => decide (x.proc = q)) = 0 by omega, List.countP_eq_zero]
  simp
theorem cntP_nonneg (l : List Wt) (q : Int) : 0 ≤ cntP l q := by unfold cntP; omega
theorem cntP_le (l : List Wt) (q : Int) : cntP l q ≤ l.length := by
  unfold cntP
  have := List.countP_le_length (p := fun x : Wt => decide (x.proc = q)) (l := l)
  omega
theorem cntP_snoc (l : List Wt) (x : Wt) : (fun y => if y = x.proc then cntP l x.proc + 1 else cntP l y) = cntP (l ++ [x]) := by
  funext y
  unfold cntP
  rw [List.countP_append]
  by_cases h : y = x.proc
  · subst h; simp
  · have : ¬ x.proc = y := fun e => h e.symm
    simp [h, this]
end Go.Proofs.Ytglbfmcbojjglaa

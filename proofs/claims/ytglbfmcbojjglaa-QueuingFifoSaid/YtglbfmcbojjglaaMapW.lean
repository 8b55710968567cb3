/-
  A map from processes to bytes that reads as a waiting list: each process that waits has its byte. No conditions.
-/
import Derived.Test.YtglbfmcbojjglaaPlainJ
import Derived.Maps.OwnSet
namespace Go.Proofs.Ytglbfmcbojjglaa
open Go.RowKit Go.Maps

/-- Block b is a map[int]byte of at most n entries that reads as the list l. -/
def MpW (w : World) (b n : Nat) (l : List Wt) : Prop :=
  ∃ D : DataW Unit, w.ownsMap Try.prog 3 (plainElem Try.prog 5) b n D ∧ Maps.size D = l.length ∧ (∀ x, Maps.has D (.int .i64 x) = l.any (fun y => decide (y.proc = x))) ∧ ∀ y ∈ l, D.atKey (.int .i64 y.proc) (.lit (.int .u8 0)) = .lit (.int .u8 y.val)

section
variable {w w' : World} {b n : Nat} {l : List Wt}
theorem MpW.made (w : World) : MpW (w.alloc (.map #[] 0)) w.heap.size 0 [] :=
  ⟨.map [], World.ownsMap_made _ _ _ _, rfl, fun _ => rfl, by simp⟩
theorem MpW.lt (h : MpW w b n l) : b < w.heap.size := by obtain ⟨D, h, _⟩ := h; exact h.lt
theorem MpW.blk (h : MpW w b n l) (hb : w'.heap[b]? = w.heap[b]?) : MpW w' b n l := by
  obtain ⟨D, ⟨es, clock, hb', r⟩, h3⟩ := h; exact ⟨D, ⟨es, clock, hb.trans hb', r⟩, h3⟩
theorem MpW.next (h : MpW w b n l) (hb : Below w.heap.size w w') : MpW w' b n l := h.blk (hb.block b h.lt)
theorem MpW.alloc (h : MpW w b n l) (o : Obj) : MpW (w.alloc o) b n l := h.next ((Below.refl _ _).alloc (Nat.le_refl _) _)
theorem MpW.set {g o : Nat} {u : Value} (h : MpW w b n l) (hne : b ≠ g) : MpW (w.setCell ⟨g, o, none⟩ u) b n l := h.blk (Below.heap_setCell _ _ _ _ hne)
theorem MpW.mono {n' : Nat} (h : MpW w b n l) (hn : n ≤ n') : MpW w b n' l := by
  obtain ⟨D, h1, h2⟩ := h; exact ⟨D, h1.mono hn, h2⟩
theorem MpW.len (h : MpW w b n l) {t : TypeId} (ht : Try.prog.underlying t = some (.map 3 5)) (ty : TypeId) : (Builtin.len_ #[t] ty #[.map (some b)]).run Try.prog w = .ok (.int .i64 l.length) w := by
  obtain ⟨D, h1, h2, _⟩ := h
  rw [h1.len ht ty, h2]
theorem MpW.look (h : MpW w b n l) {t : TypeId} (ht : Try.prog.underlying t = some (.map 3 5)) {y : Wt} (hy : y ∈ l) (hw : (Lit.int .i64 y.proc).wf = true) :
    (Instr.lookup t (.map (some b)) (.int .i64 y.proc) true).run Try.prog w = .ok (.tuple #[.int .u8 y.val, .bool true]) w := by
  obtain ⟨D, h1, h2, h3, h4⟩ := h
  have hz : (zeroValue 5).run Try.prog w = .ok (.int .u8 0) w := by kernel_rfl
  obtain ⟨v, ps, hrun, hv⟩ := h1.look_ok (int_keyed Try.underlying3) ht hz (plainElem_int Try.underlying5 (by decide)) (keyOf_int_mk Try.underlying3 hw)
  obtain ⟨c, rfl, hc, _⟩ := plainElem_int_inv Try.underlying5 hv
  rw [h4 y hy] at hc
  simp only [Prod.mk.injEq, DataW.lit.injEq, Lit.int.injEq, true_and] at hc
  rw [hrun, h3, ← hc.1, List.any_eq_true.2 ⟨y, hy, by simp⟩]
theorem MpW.enter (h : MpW w b n l) {t : TypeId} (ht : Try.prog.underlying t = some (.map 3 5)) (hn : n < maxLen) (x : Wt) (hnew : ∀ y ∈ l, y.proc ≠ x.proc) (hx : (Lit.int .i64 x.proc).wf = true) (hc : (Lit.int .u8 x.val).wf = true) :
    ∃ w', (Instr.mapUpdate t (.map (some b)) (.int .i64 x.proc) (.int .u8 x.val)).run Try.prog w = .ok () w' ∧ MpW w' b (n + 1) (enterW l x) ∧ w.grownBy w' (some b) := by
  obtain ⟨D, h1, h2, h3, h4⟩ := h
  have hti := h1.tidy (int_keyed Try.underlying3)
  obtain ⟨w', hrun, ho, hg⟩ := h1.update (int_keyed Try.underlying3) ht hn (keyOf_int_mk Try.underlying3 hx) (plainElem_int Try.underlying5 hc)
  have hno : Maps.has D (.int .i64 x.proc) = false := by
    rw [h3, List.any_eq_false]
    intro y hy
    simpa using hnew y hy
  refine ⟨w', hrun, ⟨_, ho, ?_, fun y => ?_, fun y hy => ?_⟩, hg⟩
  · rw [size_put hti, hno, h2, enterW_length]
    rfl
  · by_cases e : y = x.proc
    · subst e
      rw [has_put_same hti.isMap (k := .int .i64 x.proc) trivial]
      exact (List.any_eq_true.2 ⟨x, enterW_mem.2 (.inl rfl), by simp⟩).symm
    · rw [has_put_other (by simp only [ne_eq, Lit.int.injEq, true_and]; exact e), h3, Bool.eq_iff_iff]
      simp only [List.any_eq_true, decide_eq_true_eq]
      constructor
      · rintro ⟨z, hz, hq⟩
        exact ⟨z, enterW_mem.2 (.inr hz), hq⟩
      · rintro ⟨z, hz, hq⟩
        rcases enterW_mem.1 hz with rfl | hz
        · exact absurd hq.symm e
        · exact ⟨z, hz, hq⟩
  · rcases enterW_mem.1 hy with rfl | hy
    · rw [atKey_put_same hti.isMap (k := .int .i64 y.proc) trivial]
    · rw [atKey_put_other (by simp only [ne_eq, Lit.int.injEq, true_and]; exact hnew y hy), h4 y hy]
theorem MpW.leave (h : MpW w b n l) {t : TypeId} (ht : Try.prog.underlying t = some (.map 3 5)) (ho : OrdW l) (q : Int) (hq : (Lit.int .i64 q).wf = true) (ty : TypeId) :
    ∃ w', (Builtin.delete_ #[t, 3] ty #[.map (some b), .int .i64 q]).run Try.prog w = .ok (.tuple #[]) w' ∧ MpW w' b n (leaveW l q) ∧ w.grownBy w' (some b) := by
  obtain ⟨D, h1, h2, h3, h4⟩ := h
  have hti := h1.tidy (int_keyed Try.underlying3)
  obtain ⟨w', hrun, hw, hm⟩ := h1.drop (int_keyed Try.underlying3) ht (keyOf_int_mk Try.underlying3 hq) ty
  refine ⟨w', hrun, ⟨_, hw, ?_, fun y => ?_, fun y hy => ?_⟩, hm.grown⟩
  · have a1 := size_del (k := .int .i64 q) hti
    have a2 := leave_count (q := q) ho.2.1
    rw [h3, h2] at a1
    omega
  · by_cases e : y = q
    · subst e
      rw [has_del_same]
      symm
      rw [List.any_eq_false]
      intro z hz
      simpa using (leave_mem.1 hz).2
    · rw [has_del_other (by simp only [ne_eq, Lit.int.injEq, true_and]; exact e), h3, Bool.eq_iff_iff]
      simp only [List.any_eq_true, decide_eq_true_eq]
      constructor
      · rintro ⟨z, hz, hq'⟩
        exact ⟨z, leave_mem.2 ⟨hz, by rw [hq']; exact e⟩, hq'⟩
      · rintro ⟨z, hz, hq'⟩
        exact ⟨z, (leave_mem.1 hz).1, hq'⟩
  · obtain ⟨hy1, hy2⟩ := leave_mem.1 hy
    rw [atKey_del_other (by simp only [ne_eq, Lit.int.injEq, true_and]; exact hy2), h4 y hy1]
/-- The first one leaves. -/
theorem leave_head {x : Wt} {m : List Wt} (h : OrdW (x :: m)) : leaveW (x :: m) x.proc = m := by
  have h1 := (List.pairwise_cons.1 h.2.1).1
  have h2 : leaveW m x.proc = m := leave_none fun y hy e => h1 y hy e.symm
  unfold leaveW at h2 ⊢
  rw [List.filter_cons]
  simpa using h2
end
end Go.Proofs.Ytglbfmcbojjglaa

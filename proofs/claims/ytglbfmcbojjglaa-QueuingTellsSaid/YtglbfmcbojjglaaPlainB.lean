/-
  Plain facts for SemaPasses: processes of one priority that enter once each; a counting map with its size. No conditions.
-/
import Derived.Test.YtglbfmcbojjglaaPlainA
import Derived.Test.YtglbfmcbojjglaaLawA
import Derived.Maps.OwnSet
namespace Go.Proofs.Ytglbfmcbojjglaa
open Go.RowKit Go.Maps

/-- CntM with the number of entries; every element that is there is not 0. -/
def CntZ (k : TypeId) (q : IntKind) (w : World) (b n : Nat) (f : Int → Int) (sz : Nat) : Prop :=
  ∃ D : DataW Unit, Tidy D ∧ w.ownsMap Try.prog k (plainElem Try.prog 3) b n D ∧ (∀ x, D.atKey (.int q x) (.lit (.int .i64 0)) = .lit (.int .i64 (f x))) ∧ (∀ x, has D (.int q x) = decide (f x ≠ 0)) ∧ size D = sz

section
variable {k : TypeId} {q : IntKind} {w w' : World} {b n sz : Nat} {f : Int → Int}
theorem CntZ.cnt (h : CntZ k q w b n f sz) : CntM k q w b n f := by
  obtain ⟨D, h1, h2, h3, _, _⟩ := h; exact ⟨D, h1.isMap, h2, h3⟩
theorem CntZ.made (k : TypeId) (q : IntKind) (w : World) : CntZ k q (w.alloc (.map #[] 0)) w.heap.size 0 (fun _ => 0) 0 :=
  ⟨.map [], tidy_empty, World.ownsMap_made _ _ _ _, fun _ => rfl, fun _ => rfl, rfl⟩
theorem CntZ.lt (h : CntZ k q w b n f sz) : b < w.heap.size := h.cnt.lt
theorem CntZ.blk (h : CntZ k q w b n f sz) (hb : w'.heap[b]? = w.heap[b]?) : CntZ k q w' b n f sz := by
  obtain ⟨D, h1, ⟨es, clock, hb', r⟩, h3, h4, h5⟩ := h; exact ⟨D, h1, ⟨es, clock, hb.trans hb', r⟩, h3, h4, h5⟩
theorem CntZ.next (h : CntZ k q w b n f sz) (hb : Below w.heap.size w w') : CntZ k q w' b n f sz := h.blk (hb.block b h.lt)
theorem CntZ.len (h : CntZ k q w b n f sz) {t : TypeId} (ht : Try.prog.underlying t = some (.map k 3)) (ty : TypeId) : (Builtin.len_ #[t] ty #[.map (some b)]).run Try.prog w = .ok (.int .i64 sz) w := by
  obtain ⟨D, h1, h2, h3, _, h5⟩ := h
  rw [h2.len ht ty, h5]
theorem CntZ.update (h : CntZ k q w b n f sz) {t : TypeId} (ht : Try.prog.underlying t = some (.map k 3)) (hk : Try.prog.underlying k = some (.int q)) (hn : n < maxLen) (x c : Int) (hx : (Lit.int q x).wf = true) (hc : (Lit.int .i64 c).wf = true) (hc0 : c ≠ 0) :
    ∃ w', (Instr.mapUpdate t (.map (some b)) (.int q x) (.int .i64 c)).run Try.prog w = .ok () w' ∧ CntZ k q w' b (n + 1) (fun y => if y = x then c else f y) (if f x = 0 then sz + 1 else sz) ∧ w.grownBy w' (some b) := by
  obtain ⟨D, h1, h2, h3, h4, h5⟩ := h
  obtain ⟨w', hrun, ho, hg⟩ := h2.update (int_keyed hk) ht hn (keyOf_int_mk hk hx) (plainElem_int Try.underlying3 hc)
  refine ⟨w', hrun, ⟨_, ho.tidy (int_keyed hk), ho, fun y => ?_, fun y => ?_, ?_⟩, hg⟩
  · show _ = DataW.lit (Lit.int .i64 (if y = x then c else f y))
    by_cases hy : y = x
    · subst hy
      rw [if_pos rfl, atKey_put_same h1.isMap (k := .int q y) trivial]
    · rw [if_neg hy, atKey_put_other (by simp only [ne_eq, Lit.int.injEq, true_and]; exact hy), h3 y]
  · by_cases hy : y = x
    · subst hy
      rw [has_put_same h1.isMap (k := .int q y) trivial]
      simp [hc0]
    · rw [has_put_other (by simp only [ne_eq, Lit.int.injEq, true_and]; exact hy), h4 y]
      simp [hy]
  · rw [size_put h1, h4 x, h5]
    by_cases hf : f x = 0 <;> simp [hf]
end

theorem wpList_cntZ_update {k : TypeId} {q : IntKind} {w : World} {b n sz : Nat} {f : Int → Int} {ops : Array Oper} {rest : List Oper} {o : Oper} {a : Act} {Q : Exit → Act → World → Prop}
    (hg : o.guard = none) (m x v : Operand) (t : TypeId) (hop : o.op = Op.mapUpdate t m x v) (ht : Try.prog.underlying t = some (.map k 3)) (hk : Try.prog.underlying k = some (.int q))
    (h : CntZ k q w b n f sz) (hn : n < maxLen) (key c : Int) (hx : (Lit.int q key).wf = true) (hc : (Lit.int .i64 c).wf = true) (hc0 : c ≠ 0) (hm : a.eval m = .map (some b)) (hxe : a.eval x = .int q key) (hve : a.eval v = .int .i64 c)
    (hK : ∀ w', CntZ k q w' b (n + 1) (fun y => if y = key then c else f y) (if f key = 0 then sz + 1 else sz) → w.grownBy w' (some b) → wpList Try.prog ops Q rest (a.put o.dst undef) w') :
    wpList Try.prog ops Q (o :: rest) a w := by
  refine wpList_plain hg fun K' hK' => ?_
  obtain ⟨w', hrun, r1, r2⟩ := h.update ht hk hn key c hx hc hc0
  unfold Oper.wp
  simp [execOp, hop, hm, hxe, hve, hrun, Result.andThen]
  exact hK' _ _ (hK w' r1 r2)

theorem LV.oth {W : World} {g g' o : Nat} {t : TypeId} {x y u : Value} {l : List Wt} (h : LV W g t x y l) (hne : g' ≠ g) (hap : ∀ a n c, y = .slice (some a) n c → 0 < n → a.block ≠ g') : LV (W.setCell ⟨g', o, none⟩ u) g t x y l :=
  ⟨(Below.heap_setCell _ _ _ _ (by exact fun e => hne e.symm)).trans h.blk, h.fr.far (g := g') ⟨rfl, rfl, rfl, by simp [World.setCell], fun k _ hk => Below.heap_setCell _ _ _ _ (fun e => hk (by rw [e]))⟩ hap, h.ap⟩
theorem LV.ap_nil {W : World} {g g' : Nat} {t : TypeId} {x y : Value} (h : LV W g t x y []) : ∀ a n c, y = .slice (some a) n c → 0 < n → a.block ≠ g' := by
  intro a n c hy hn
  obtain ⟨_, m, _, hv, hm⟩ := fr_shape h.fr
  rw [hy] at hv
  simp only [Value.slice.injEq] at hv
  simp at hm
  omega
theorem LV.alloc {W : World} {g : Nat} {t : TypeId} {x y : Value} {l : List Wt} (h : LV W g t x y l) (o : Obj) : LV (W.alloc o) g t x y l := h.next ((Below.refl _ _).alloc (Nat.le_refl _) _)
theorem LV.far {W W' : World} {g g' : Nat} {t : TypeId} {x y : Value} {l : List Wt} (h : LV W g t x y l) (hg : W.grownBy W' (some g')) (hne : g' ≠ g) (hap : ∀ a n c, y = .slice (some a) n c → 0 < n → a.block ≠ g') : LV W' g t x y l :=
  ⟨(hg.block _ (blk_lt h.blk) (by simp; exact fun e => hne e.symm)).trans h.blk, h.fr.far hg hap, h.ap⟩

/-- What waits behind the first k processes, each of priority 1. -/
def once (ps : List Int) : Nat → List Wt
  | 0 => []
  | k + 1 => if mayL (once ps k) (ps.getD k 0) then enterW (once ps k) ⟨ps.getD k 0, 1, 0⟩ else once ps k

/-- How often a process is among the first k. -/
def cntI (ps : List Int) (k : Nat) (q : Int) : Int := ((ps.take k).countP fun x => decide (x = q) : Nat)

structure Once (ps : List Int) (k : Nat) (l : List Wt) : Prop where
  len : l.length ≤ k
  el : ∀ x ∈ l, x.val = 0 ∧ x.prio = 1 ∧ 0 ≤ x.proc ∧ x.proc ≤ 255
  ord : OrdW l
  mem : ∀ q, (∃ x ∈ l, x.proc = q) ↔ cntI ps k q ≠ 0

theorem cntI_succ (ps : List Int) (k : Nat) (hk : k < ps.length) : (fun y => if y = ps.getD k 0 then cntI ps k (ps.getD k 0) + 1 else cntI ps k y) = cntI ps (k + 1) := by
  funext y
  unfold cntI
  have hg : ps.getD k 0 = ps[k] := by simp [List.getD, List.getElem?_eq_getElem hk]
  rw [hg, List.take_succ_eq_append_getElem hk, List.countP_append]
  by_cases h : y = ps[k]
  · subst h; simp
  · have : ¬ ps[k] = y := fun e => h e.symm
    simp [h, this]
theorem cntI_bd (ps : List Int) (k : Nat) (q : Int) : 0 ≤ cntI ps k q ∧ cntI ps k q ≤ k := by
  unfold cntI
  have := List.countP_le_length (p := fun x : Int => decide (x = q)) (l := ps.take k)
  simp at this
  omega

theorem mayL_iff {l : List Wt} {q : Int} (hq : 0 ≤ q) : mayL l q = true ↔ ¬ ∃ x ∈ l, x.proc = q := by
  simp [mayL, hq]

theorem once_good (ps : List Int) (hb : ∀ z ∈ ps, 0 ≤ z ∧ z ≤ 255) (k : Nat) (hk : k ≤ ps.length) : Once ps k (once ps k) := by
  induction k with
  | zero => exact ⟨Nat.le_refl _, by simp [once], OrdW.nil, fun q => by simp [once, cntI]⟩
  | succ k ih =>
    have h := ih (by omega)
    have hg : ps.getD k 0 = ps[k] := by simp [List.getD, List.getElem?_eq_getElem (show k < ps.length by omega)]
    have hp := hb ps[k] (List.getElem_mem _)
    rw [← hg] at hp
    have hc := cntI_succ ps k (by omega)
    unfold once
    generalize ps.getD k 0 = p at hp hc
    have hcp : ∀ q, cntI ps (k + 1) q = if q = p then cntI ps k p + 1 else cntI ps k q := fun q => by rw [← hc]
    have hcn := (cntI_bd ps k p).1
    by_cases hm : mayL (once ps k) p = true
    · rw [if_pos hm]
      rw [mayL_iff hp.1] at hm
      refine ⟨by rw [enterW_length]; have := h.len; omega, fun x hx => ?_, ?_, fun q => ?_⟩
      · rw [enterW_mem] at hx
        rcases hx with rfl | hx
        · exact ⟨rfl, rfl, hp⟩
        · exact h.el x hx
      · refine ⟨fun x hx => ?_, enter_pairwise h.ord.2.1 (fun y hy e => hm ⟨y, List.mem_of_mem_take hy, e⟩) (fun y hy e => hm ⟨y, List.mem_of_mem_drop hy, e.symm⟩), enter_pairwise h.ord.2.2 (fun y hy => ?_) (fun y hy => ?_)⟩
        · rw [enterW_mem] at hx
          rcases hx with rfl | hx
          · exact hp.1
          · exact h.ord.1 x hx
        · have := (h.el y (List.mem_of_mem_take hy)).2.1
          show (1 : Int) ≤ y.prio
          omega
        · have := (h.el y (List.mem_of_mem_drop hy)).2.1
          show y.prio ≤ (1 : Int)
          omega
      · rw [hcp q]
        by_cases hq : q = p
        · subst hq
          rw [if_pos rfl]
          exact ⟨fun _ => by omega, fun _ => ⟨⟨q, 1, 0⟩, enterW_mem.2 (.inl rfl), rfl⟩⟩
        · rw [if_neg hq, ← h.mem q]
          constructor
          · rintro ⟨x, hx, rfl⟩
            rw [enterW_mem] at hx
            rcases hx with rfl | hx
            · exact absurd rfl hq
            · exact ⟨x, hx, rfl⟩
          · rintro ⟨x, hx, rfl⟩
            exact ⟨x, enterW_mem.2 (.inr hx), rfl⟩
    · rw [if_neg hm]
      rw [mayL_iff hp.1, Classical.not_not] at hm
      refine ⟨by have := h.len; omega, h.el, h.ord, fun q => ?_⟩
      rw [hcp q]
      by_cases hq : q = p
      · subst hq
        rw [if_pos rfl]
        exact ⟨fun _ => by omega, fun _ => hm⟩
      · rw [if_neg hq]; exact h.mem q
end Go.Proofs.Ytglbfmcbojjglaa

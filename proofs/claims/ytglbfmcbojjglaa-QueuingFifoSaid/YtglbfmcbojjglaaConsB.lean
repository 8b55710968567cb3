/-
  Words for BoardConserves: the variables of a round, and what each of its operations leaves. No conditions.
-/
import Derived.Test.YtglbfmcbojjglaaMapW
import Derived.Test.YtglbfmcbojjglaaBdD
import Derived.Test.YtglbfmcbojjglaaQueA
import Derived.Maps.AppendAt
namespace Go.Proofs.Ytglbfmcbojjglaa
open Go.RowKit

theorem Ty.grownLt {w w' : World} {B sz n : Nat} {t : TypeId} {v : Value} {xs : List Value} {row : Option Nat} (h : Ty w B t sz v n xs) (hw : w.grownBy w' row) (hlt : ∀ g, row = some g → g < B) : Ty w' B t sz v n xs := by
  obtain ⟨a, c, hv, h1, h2, h3, hp⟩ := h
  refine ⟨a, c, hv, h1, h2, h3, fun h0 => ?_⟩
  obtain ⟨b, off, cs, ha, hB, hb, hr⟩ := hp h0
  exact ⟨b, off, cs, ha, hB, (hw.block b (blk_lt hb) (fun e => by have := hlt b e.symm; omega)).trans hb, hr⟩
theorem Ty.grownT {w w' : World} {B sz n : Nat} {t t' : TypeId} {v : Value} {xs : List Value} {row : Option Nat} (h : Ty w B t sz v n xs) (hw : w.grownBy w' row) (hr : ∀ g, row = some g → Tag w g t') (ht : t' ≠ t) : Ty w' B t sz v n xs := h.keep fun b cs hc =>
  (hw.block b (blk_lt hc) (fun e => by
    obtain ⟨cs', h'⟩ := hr b e.symm
    rw [hc] at h'
    simp only [Option.some.injEq, Obj.cells.injEq] at h'
    exact ht h'.2.1.symm)).trans hc
theorem blk_grownT {w w' : World} {g : Nat} {t t' : TypeId} {cs : Array Value} {row : Option Nat} (h : w.heap[g]? = some (.cells cs t (0, 0))) (hw : w.grownBy w' row) (hr : ∀ g, row = some g → Tag w g t') (ht : t' ≠ t) : w'.heap[g]? = some (.cells cs t (0, 0)) :=
  (hw.block g (blk_lt h) (fun e => by
    obtain ⟨cs', h'⟩ := hr g e.symm
    rw [h] at h'
    simp only [Option.some.injEq, Obj.cells.injEq] at h'
    exact ht h'.2.1.symm)).trans h
theorem own_tag {w : World} {B e s n : Nat} {v : Value} {xs : List Value} (h : w.ownsRow B e s v n xs) : ∀ g, v.ownBlock = some g → Tag w g e := by
  intro g hg
  rcases h.2 with ⟨rfl, _⟩ | ⟨g', cap, cur, rfl, _, hb, _⟩
  · cases hg
  · simp only [Value.ownBlock, Option.some.injEq] at hg
    subst hg
    exact ⟨cur, hb⟩
theorem own_far {w w' : World} {B e s n : Nat} {v : Value} {xs : List Value} {row : Option Nat} (h : w.ownsRow B e s v n xs) (hw : w.grownBy w' row) (hne : ∀ g, v.ownBlock = some g → row ≠ some g) : w'.ownsRow B e s v n xs := by
  refine ⟨h.1, ?_⟩
  rcases h.2 with ⟨rfl, h2⟩ | ⟨g', cap, cur, rfl, h1, hb, r⟩
  · exact .inl ⟨rfl, h2⟩
  · refine .inr ⟨g', cap, cur, rfl, h1, (hw.block g' (blk_lt hb) (fun e => hne g' rfl e.symm)).trans hb, r⟩
theorem own_lt {w : World} {B e s n : Nat} {v : Value} {xs : List Value} (h : w.ownsRow B e s v n xs) : ∀ g, v.ownBlock = some g → B ≤ g ∧ g < w.heap.size := by
  intro g hg
  rcases h.2 with ⟨rfl, _⟩ | ⟨g', cap, cur, rfl, h1, hb, _⟩
  · cases hg
  · simp only [Value.ownBlock, Option.some.injEq] at hg
    subst hg
    exact ⟨h1, blk_lt hb⟩

/-- One byte more at the end of a row of the call's own. -/
theorem OwnB.snoc {W : World} {B g : Nat} {v : Value} {l : List Int} {x : Int} (h : OwnB W B v l) (hB : B ≤ W.heap.size) (hl : l.length ≤ 1000) (hg : W.heap[g]? = some (.cells #[.int .u8 x] 5 (0, 0))) (ty : TypeId) :
    ∃ a c w', (Builtin.append_ #[28, 28] ty #[v, .slice (some ⟨g, 0, none⟩) 1 1]).run Try.prog W = .ok (.slice a (l.length + 1) c) w' ∧ OwnB w' B (.slice a (l.length + 1) c) (l ++ [x]) ∧ W.grownBy w' v.ownBlock ∧
      ((Value.slice a (l.length + 1) c).ownBlock = v.ownBlock ∨ (Value.slice a (l.length + 1) c).ownBlock = some W.heap.size) := by
  obtain ⟨i0, hi, hz0, hz1, hz2⟩ := info_B2
  have hnews : ∀ j u, ([Value.int .u8 x] : List Value)[j]? = some u → W.cell? ((⟨g, 0, none⟩ : Addr).add j) = some u := by
    intro j u hu
    match j, hu with
    | 0, hu =>
      simp at hu
      subst hu
      rw [addr_add, cell_of_row W _ _ _ _ _ hg]
      rfl
  obtain ⟨v', w', h1, h2, h3, _, h5⟩ := run_append_own_at (P := Try.prog) W B 28 ty 5 i0 (.int .u8 0) 1 1 Try.underlying28 hi hz0 hz1 hz2 rfl (by decide) v l.length (l.map (Value.int .u8)) h ⟨g, 0, none⟩ 1 1 [.int .u8 x] rfl hnews (by intro u hu; simp at hu; subst hu; rfl) (by unfold maxLen; omega) (by omega) hB
  have h2' : OwnB w' B v' (l ++ [x]) := by
    unfold OwnB
    rw [List.length_append, List.map_append]
    exact h2
  obtain ⟨a, c, rfl⟩ := own_slice h2
  exact ⟨a, c, w', h1, h2', h3, h5⟩

/-- The variables of a round behind the operation. H: the heap's size ahead of it. -/
structure BR (w W : World) (H ga gc : Nat) (x0 x1 x2 x3 n : Int) (b0 b1 b2 b3 : Value) (k : Nat) (pm : List Wt) (vp : Value) (pt : List Int) (vg : Value) (gt : List Int) (cd cp cg : Value) (d : List Int) (p g : List Wt) : Prop where
  bel : Below w.heap.size w W
  blk : W.heap[w.heap.size]? = some (.cells #[b0, b1, b2, b3] 125 (0, 0))
  act : W.heap[ga]? = some (.cells #[.int .u8 x0, .int .u8 x1, .int .u8 x2, .int .u8 x3] 171 (0, 0))
  cvr : W.heap[gc]? = some (.cells #[.int .i64 n, cd, cp, cg] 125 (0, 0))
  gt0 : w.heap.size < gc
  td : TyB W H cd d
  tp : TyW W 0 cp p
  tg : TyW W 0 cg g
  mp : MpW W (w.heap.size + 1) k pm
  op : OwnB W w.heap.size vp pt
  og : OwnB W w.heap.size vg gt
  ap : ∀ b, vp.ownBlock = some b → vg.ownBlock ≠ some b
section
variable {w W W' : World} {H ga gc : Nat} {x0 x1 x2 x3 n : Int} {b0 b1 b2 b3 : Value} {k : Nat} {pm : List Wt} {vp : Value} {pt : List Int} {vg : Value} {gt : List Int} {cd cp cg : Value} {d : List Int} {p g : List Wt}
theorem BR.next (h : BR w W H ga gc x0 x1 x2 x3 n b0 b1 b2 b3 k pm vp pt vg gt cd cp cg d p g) (hb : Below W.heap.size W W') : BR w W' H ga gc x0 x1 x2 x3 n b0 b1 b2 b3 k pm vp pt vg gt cd cp cg d p g :=
  ⟨h.bel.trans (hb.mono h.bel.size), (hb.block _ (blk_lt h.blk)).trans h.blk, (hb.block _ (blk_lt h.act)).trans h.act, (hb.block _ (blk_lt h.cvr)).trans h.cvr, h.gt0, Ty.below h.td hb, Ty.below h.tp hb, Ty.below h.tg hb, h.mp.next hb, h.op.below hb, h.og.below hb, h.ap⟩
theorem BR.alloc (h : BR w W H ga gc x0 x1 x2 x3 n b0 b1 b2 b3 k pm vp pt vg gt cd cp cg d p g) (o : Obj) : BR w (W.alloc o) H ga gc x0 x1 x2 x3 n b0 b1 b2 b3 k pm vp pt vg gt cd cp cg d p g := h.next ((Below.refl _ _).alloc (Nat.le_refl _) _)
theorem MpW.grown {row : Option Nat} {b m : Nat} {l : List Wt} {t : TypeId} (h : MpW W b m l) (hw : W.grownBy W' row) (hr : ∀ g, row = some g → Tag W g t) : MpW W' b m l := by
  refine h.blk (hw.block b h.lt (fun e => ?_))
  obtain ⟨cs, hc⟩ := hr b e.symm
  obtain ⟨D, ⟨es, clock, hb, _⟩, _⟩ := h
  rw [hc] at hb
  cases hb
/-- 'put = append(put, y)': y lies in a new block. -/
theorem BR.appPut {y : Int} (h : BR w W H ga gc x0 x1 x2 x3 n b0 b1 b2 b3 k pm vp pt vg gt cd cp cg d p g) (hl : pt.length ≤ 1000) (hlt : ∀ b, vp.ownBlock = some b → b < H) (ty : TypeId) :
    ∃ a c w', (Builtin.append_ #[28, 28] ty #[vp, .slice (some ⟨W.heap.size, 0, none⟩) 1 1]).run Try.prog (W.alloc (.cells #[.int .u8 y] 5)) = .ok (.slice a (pt.length + 1) c) w' ∧ BR w w' H ga gc x0 x1 x2 x3 n b0 b1 b2 b3 k pm (.slice a (pt.length + 1) c) (pt ++ [y]) vg gt cd cp cg d p g := by
  have h1 := h.alloc (.cells #[.int .u8 y] 5)
  have hgn := heap_alloc_new W (.cells #[.int .u8 y] 5)
  generalize W.alloc (.cells #[.int .u8 y] 5) = W1 at h1 hgn
  obtain ⟨a, c, w', hr, ho, hg, hb⟩ := h1.op.snoc h1.bel.size hl hgn ty
  have ht := own_tag h1.op
  have hlo := own_lt h1.op
  refine ⟨a, c, w', hr, ⟨⟨hg.os.trans h1.bel.os, hg.tape.trans h1.bel.tape, hg.output.trans h1.bel.output, Nat.le_trans h1.bel.size hg.size, fun j hj => ?_⟩, blk_grownT h1.blk hg ht (by decide), blk_grownT h1.act hg ht (by decide), blk_grownT h1.cvr hg ht (by decide), h1.gt0, Ty.grownLt h1.td hg hlt, Ty.grownT h1.tp hg ht (by decide), Ty.grownT h1.tg hg ht (by decide), h1.mp.grown hg ht, ho, own_far h1.og hg (fun b e e' => h1.ap b e' e), fun b e e' => ?_⟩⟩
  · exact (hg.block j (Nat.lt_of_lt_of_le hj h1.bel.size) (fun e => by have := (hlo j e.symm).1; omega)).trans (h1.bel.block j hj)
  · rcases hb with hb | hb
    · rw [hb] at e; exact h1.ap b e e'
    · rw [hb] at e
      simp only [Option.some.injEq] at e
      have := (own_lt h1.og b e').2
      omega
/-- 'got = append(got, y)'. -/
theorem BR.appGot {y : Int} (h : BR w W H ga gc x0 x1 x2 x3 n b0 b1 b2 b3 k pm vp pt vg gt cd cp cg d p g) (hl : gt.length ≤ 1000) (hlt : ∀ b, vg.ownBlock = some b → b < H) (ty : TypeId) :
    ∃ a c w', (Builtin.append_ #[28, 28] ty #[vg, .slice (some ⟨W.heap.size, 0, none⟩) 1 1]).run Try.prog (W.alloc (.cells #[.int .u8 y] 5)) = .ok (.slice a (gt.length + 1) c) w' ∧ BR w w' H ga gc x0 x1 x2 x3 n b0 b1 b2 b3 k pm vp pt (.slice a (gt.length + 1) c) (gt ++ [y]) cd cp cg d p g := by
  have h1 := h.alloc (.cells #[.int .u8 y] 5)
  have hgn := heap_alloc_new W (.cells #[.int .u8 y] 5)
  generalize W.alloc (.cells #[.int .u8 y] 5) = W1 at h1 hgn
  obtain ⟨a, c, w', hr, ho, hg, hb⟩ := h1.og.snoc h1.bel.size hl hgn ty
  have ht := own_tag h1.og
  have hlo := own_lt h1.og
  refine ⟨a, c, w', hr, ⟨⟨hg.os.trans h1.bel.os, hg.tape.trans h1.bel.tape, hg.output.trans h1.bel.output, Nat.le_trans h1.bel.size hg.size, fun j hj => ?_⟩, blk_grownT h1.blk hg ht (by decide), blk_grownT h1.act hg ht (by decide), blk_grownT h1.cvr hg ht (by decide), h1.gt0, Ty.grownLt h1.td hg hlt, Ty.grownT h1.tp hg ht (by decide), Ty.grownT h1.tg hg ht (by decide), h1.mp.grown hg ht, own_far h1.op hg (fun b e e' => h1.ap b e e'), ho, fun b e e' => ?_⟩⟩
  · exact (hg.block j (Nat.lt_of_lt_of_le hj h1.bel.size) (fun e => by have := (hlo j e.symm).1; omega)).trans (h1.bel.block j hj)
  · rcases hb with hb | hb
    · rw [hb] at e'; exact h1.ap b e e'
    · rw [hb] at e'
      simp only [Option.some.injEq] at e'
      have := (own_lt h1.op b e).2
      omega
theorem map_ne {b b' m t : Nat} {l : List Wt} {cs : Array Value} {fz : Nat × Nat} (h : MpW W b m l) (hc : W.heap[b']? = some (.cells cs t fz)) : b' ≠ b := by
  rintro rfl
  obtain ⟨D, ⟨es, clock, hb, _⟩, _⟩ := h
  rw [hc] at hb
  cases hb
theorem Ty.grownM {B sz m : Nat} {t : TypeId} {v : Value} {xs : List Value} {b j : Nat} {l : List Wt} (h : Ty W B t sz v m xs) (hm : MpW W b j l) (hw : W.grownBy W' (some b)) : Ty W' B t sz v m xs := h.keep fun b' cs hc =>
  (hw.block b' (blk_lt hc) (fun e => by simp only [Option.some.injEq] at e; exact map_ne hm hc e)).trans hc
theorem BR.turned {k' : Nat} {pm' : List Wt} (h : BR w W H ga gc x0 x1 x2 x3 n b0 b1 b2 b3 k pm vp pt vg gt cd cp cg d p g) (hw : W.grownBy W' (some (w.heap.size + 1))) (hm : MpW W' (w.heap.size + 1) k' pm') : BR w W' H ga gc x0 x1 x2 x3 n b0 b1 b2 b3 k' pm' vp pt vg gt cd cp cg d p g := by
  have hk : ∀ {b : Nat} {cs : Array Value} {t : TypeId}, W.heap[b]? = some (.cells cs t (0, 0)) → W'.heap[b]? = some (.cells cs t (0, 0)) := fun hc =>
    (hw.block _ (blk_lt hc) (fun e => by simp only [Option.some.injEq] at e; exact map_ne h.mp hc e)).trans hc
  have ho : ∀ {v : Value} {l : List Int}, OwnB W w.heap.size v l → OwnB W' w.heap.size v l := fun hv => own_far hv hw (fun b e e' => by
    obtain ⟨cs, hc⟩ := own_tag hv b e
    simp only [Option.some.injEq] at e'
    exact map_ne h.mp hc e'.symm)
  refine ⟨⟨hw.os.trans h.bel.os, hw.tape.trans h.bel.tape, hw.output.trans h.bel.output, Nat.le_trans h.bel.size hw.size, fun j hj => ?_⟩, hk h.blk, hk h.act, hk h.cvr, h.gt0, Ty.grownM h.td h.mp hw, Ty.grownM h.tp h.mp hw, Ty.grownM h.tg h.mp hw, hm, ho h.op, ho h.og, h.ap⟩
  exact (hw.block j (Nat.lt_of_lt_of_le hj h.bel.size) (fun e => by simp only [Option.some.injEq] at e; omega)).trans (h.bel.block j hj)
/-- 'waiting[x] = y'. -/
theorem wpList_brEnter {ops : Array Oper} {rest : List Oper} {o : Oper} {a : Act} {Q : Exit → Act → World → Prop} (h : BR w W H ga gc x0 x1 x2 x3 n b0 b1 b2 b3 k pm vp pt vg gt cd cp cg d p g) (hk : k ≤ 1000) (x : Wt) (hnew : ∀ y ∈ pm, y.proc ≠ x.proc) (hx : (Lit.int .i64 x.proc).wf = true) (hc : (Lit.int .u8 x.val).wf = true)
    (hg : o.guard = none) (m q v : Operand) (hop : o.op = Op.mapUpdate 169 m q v) (hm : a.eval m = .map (some (w.heap.size + 1))) (hq : a.eval q = .int .i64 x.proc) (hv : a.eval v = .int .u8 x.val)
    (hK : ∀ w', BR w w' H ga gc x0 x1 x2 x3 n b0 b1 b2 b3 (k + 1) (enterW pm x) vp pt vg gt cd cp cg d p g → wpList Try.prog ops Q rest (a.put o.dst undef) w') : wpList Try.prog ops Q (o :: rest) a W := by
  obtain ⟨w', h1, h2, h3⟩ := h.mp.enter Try.underlying169 (by unfold maxLen; omega) x hnew hx hc
  refine wpList_plain hg fun K' hK' => ?_
  unfold Oper.wp
  simp [execOp, hop, hm, hq, hv, h1, Result.andThen]
  exact hK' _ _ (hK w' (h.turned h3 h2))
/-- 'delete(waiting, q)'. -/
theorem wpList_brLeave {ops : Array Oper} {rest : List Oper} {o : Oper} {a : Act} {Q : Exit → Act → World → Prop} (h : BR w W H ga gc x0 x1 x2 x3 n b0 b1 b2 b3 k pm vp pt vg gt cd cp cg d p g) (ho : OrdW pm) (q : Int) (hq : (Lit.int .i64 q).wf = true)
    (hg : o.guard = none) (m x : Operand) (hop : o.op = Op.call { callee := Callee.builtin Builtin.delete, args := #[m, x], argTypes := #[169, 3] }) (hm : a.eval m = .map (some (w.heap.size + 1))) (hx : a.eval x = .int .i64 q)
    (hK : ∀ w', BR w w' H ga gc x0 x1 x2 x3 n b0 b1 b2 b3 k (leaveW pm q) vp pt vg gt cd cp cg d p g → wpList Try.prog ops Q rest (a.put o.dst (.tuple #[])) w') : wpList Try.prog ops Q (o :: rest) a W := by
  obtain ⟨w', h1, h2, h3⟩ := h.mp.leave Try.underlying169 ho q hq o.type
  refine wpList_plain hg fun K' hK' => ?_
  unfold Oper.wp
  simp [execOp, hop, resolve, invoke, builtin, hm, hx, h1, Result.andThen]
  exact hK' _ _ (hK w' (h.turned h3 h2))
end

/-- The variables between two rounds. -/
structure BC (w W : World) (n : Int) (k : Nat) (vp : Value) (pt : List Int) (vg : Value) (gt : List Int) (cd cp cg : Value) (d : List Int) (p g : List Wt) : Prop where
  bel : Below w.heap.size w W
  ub : UB W w.heap.size n cd cp cg d p g
  mp : MpW W (w.heap.size + 1) k p
  op : OwnB W w.heap.size vp pt
  og : OwnB W w.heap.size vg gt
  ap : ∀ b, vp.ownBlock = some b → vg.ownBlock ≠ some b
section
variable {w W W' : World} {H ga gc : Nat} {x0 x1 x2 x3 n : Int} {b0 b1 b2 b3 : Value} {k : Nat} {vp : Value} {pt : List Int} {vg : Value} {gt : List Int} {cd cp cg : Value} {d : List Int} {p g : List Wt}
theorem BC.next (h : BC w W n k vp pt vg gt cd cp cg d p g) (hb : Below W.heap.size W W') : BC w W' n k vp pt vg gt cd cp cg d p g :=
  ⟨h.bel.trans (hb.mono h.bel.size), h.ub.next hb, h.mp.next hb, h.op.below hb, h.og.below hb, h.ap⟩
theorem BC.alloc (h : BC w W n k vp pt vg gt cd cp cg d p g) (o : Obj) : BC w (W.alloc o) n k vp pt vg gt cd cp cg d p g := h.next ((Below.refl _ _).alloc (Nat.le_refl _) _)
theorem BC.mono {k' : Nat} (h : BC w W n k vp pt vg gt cd cp cg d p g) (hk : k ≤ k') : BC w W n k' vp pt vg gt cd cp cg d p g := ⟨h.bel, h.ub, h.mp.mono hk, h.op, h.og, h.ap⟩
/-- 'b = c'. -/
theorem BR.store (h : BR w W H ga gc x0 x1 x2 x3 n b0 b1 b2 b3 k p vp pt vg gt cd cp cg d p g) : BC w (put4 W w.heap.size (.int .i64 n) cd cp cg) n k vp pt vg gt cd cp cg d p g := by
  have hne : ∀ (a b c e : Value), (put4 W w.heap.size a b c e).heap[w.heap.size + 1]? = W.heap[w.heap.size + 1]? := fun a b c e => by
    unfold put4
    rw [Below.heap_setCell _ _ _ _ (by show w.heap.size + 1 ≠ w.heap.size; omega), Below.heap_setCell _ _ _ _ (by show w.heap.size + 1 ≠ w.heap.size; omega), Below.heap_setCell _ _ _ _ (by show w.heap.size + 1 ≠ w.heap.size; omega), Below.heap_setCell _ _ _ _ (by show w.heap.size + 1 ≠ w.heap.size; omega)]
  have ho : ∀ {v : Value} {l : List Int}, OwnB W w.heap.size v l → OwnB (put4 W w.heap.size (.int .i64 n) cd cp cg) w.heap.size v l := fun hv => by
    have h1 := set4 h.blk (.int .i64 n)
    have h2 := set4 h1.1 cd
    have h3 := set4 h2.2.1 cp
    exact own_oth (own_oth (own_oth (own_oth hv h.blk (by decide)) h1.1 (by decide)) h2.2.1 (by decide)) h3.2.2.1 (by decide)
  exact ⟨put4_below h.bel (Nat.le_refl _) _ _ _ _, ⟨(set4 (set4 (set4 (set4 h.blk _).1 _).2.1 _).2.2.1 _).2.2.2, Ty.mono (Ty.put4 h.td h.blk (by decide) _ _ _ _) (Nat.zero_le _), Ty.put4 h.tp h.blk (by decide) _ _ _ _, Ty.put4 h.tg h.blk (by decide) _ _ _ _⟩, h.mp.blk (hne _ _ _ _), ho h.op, ho h.og, h.ap⟩
/-- Behind the operation on the buffer: its result in a new variable. -/
theorem BC.call {cd' cp' cg' : Value} {d' : List Int} {p' g' : List Wt} (h : BC w W n k vp pt vg gt cd cp cg d p g) (ha : W.heap[ga]? = some (.cells #[.int .u8 x0, .int .u8 x1, .int .u8 x2, .int .u8 x3] 171 (0, 0))) (hb : Below W.heap.size W W') (h1 : TyB W' W.heap.size cd' d') (h2 : TyW W' W.heap.size cp' p') (h3 : TyW W' W.heap.size cg' g') :
    BR w (W'.alloc (.cells #[.int .i64 n, cd', cp', cg'] 125)) W.heap.size ga W'.heap.size x0 x1 x2 x3 n (.int .i64 n) cd cp cg k p vp pt vg gt cd' cp' cg' d' p' g' := by
  have h' := (h.next hb).alloc (.cells #[.int .i64 n, cd', cp', cg'] 125)
  have hlt := blk_lt h.ub.blk
  exact ⟨h'.bel, h'.ub.blk, (Below.heap_alloc _ _ _ (by have := hb.size; have := blk_lt ha; omega)).trans ((hb.block _ (blk_lt ha)).trans ha), heap_alloc_new W' _, by have := hb.size; omega, Ty.alloc h1 _, Ty.mono (Ty.alloc h2 _) (Nat.zero_le _), Ty.mono (Ty.alloc h3 _) (Nat.zero_le _), h'.mp, h'.op, h'.og, h'.ap⟩
theorem BC.low (h : BC w W n k vp pt vg gt cd cp cg d p g) : (∀ b, vp.ownBlock = some b → b < W.heap.size) ∧ ∀ b, vg.ownBlock = some b → b < W.heap.size := ⟨fun b hb => (own_lt h.op b hb).2, fun b hb => (own_lt h.og b hb).2⟩
end
end Go.Proofs.Ytglbfmcbojjglaa

/-
  Words for QueuingFifo: the variables of a round, and what each of its operations leaves. No conditions.
-/
import Derived.Test.YtglbfmcbojjglaaPlainK
import Derived.Test.YtglbfmcbojjglaaSame
import Derived.Test.YtglbfmcbojjglaaConsB
namespace Go.Proofs.Ytglbfmcbojjglaa
open Go.RowKit

theorem info_S : (Try.prog.info? 9).map (fun i => (i.zero, i.size, i.bytes)) = some (some (.string ⟨#[]⟩), 1, 16) := by kernel_rfl
/-- A row of strings of the call's own: messages. -/
def OwnS (w : World) (B : Nat) (v : Value) (l : List (List Int)) : Prop := w.ownsRow B 9 1 v l.length (l.map (fun x => Value.string (strOfNums x)))
theorem OwnS.snoc {W : World} {B g : Nat} {v : Value} {l : List (List Int)} {x : List Int} (h : OwnS W B v l) (hB : B ≤ W.heap.size) (hl : l.length ≤ 1000) (hg : W.heap[g]? = some (.cells #[.string (strOfNums x)] 9 (0, 0))) (ty : TypeId) :
    ∃ a c w', (Builtin.append_ #[64, 64] ty #[v, .slice (some ⟨g, 0, none⟩) 1 1]).run Try.prog W = .ok (.slice a (l.length + 1) c) w' ∧ OwnS w' B (.slice a (l.length + 1) c) (l ++ [x]) ∧ W.grownBy w' v.ownBlock ∧
      ((Value.slice a (l.length + 1) c).ownBlock = v.ownBlock ∨ (Value.slice a (l.length + 1) c).ownBlock = some W.heap.size) := by
  obtain ⟨i0, hi, hz0, hz1, hz2⟩ := info_parts info_S
  have hnews : ∀ j u, ([Value.string (strOfNums x)] : List Value)[j]? = some u → W.cell? ((⟨g, 0, none⟩ : Addr).add j) = some u := by
    intro j u hu
    match j, hu with
    | 0, hu =>
      simp at hu
      subst hu
      rw [addr_add, cell_of_row W _ _ _ _ _ hg]
      rfl
  obtain ⟨v', w', h1, h2, h3, _, h5⟩ := run_append_own_at (P := Try.prog) W B 64 ty 9 i0 (.string ⟨#[]⟩) 1 16 Try.underlying64 hi hz0 hz1 hz2 rfl (by decide) v l.length (l.map (fun x => Value.string (strOfNums x))) h ⟨g, 0, none⟩ 1 1 [.string (strOfNums x)] rfl hnews (by intro u hu; simp at hu; subst hu; rfl) (by unfold maxLen; omega) (by omega) hB
  have h2' : OwnS w' B v' (l ++ [x]) := by
    unfold OwnS
    rw [List.length_append, List.map_append]
    exact h2
  obtain ⟨a, c, rfl⟩ := own_slice h2
  exact ⟨a, c, w', h1, h2', h3, h5⟩
theorem Sl.grownLt {w w' : World} {B sz n : Nat} {v : Value} {xs : List Value} {row : Option Nat} (h : Sl w B sz v n xs) (hw : w.grownBy w' row) (hlt : ∀ g, row = some g → g < B) : Sl w' B sz v n xs := by
  obtain ⟨ao, cap, hv, h1, h2, h3, hp⟩ := h
  refine ⟨ao, cap, hv, h1, h2, h3, fun h0 => ?_⟩
  obtain ⟨b, off, ha, hB, hb, hc⟩ := hp h0
  have hblk := hw.block b hb (fun e => by have := hlt b e.symm; omega)
  refine ⟨b, off, ha, hB, Nat.lt_of_lt_of_le hb hw.size, fun j u hj => ?_⟩
  have := hc j u hj
  simp only [World.cell?] at this ⊢
  rw [hblk]
  exact this
theorem RdQ.grownLt {w w' : World} {B : Nat} {v : Value} {q : List (List Int)} {row : Option Nat} (h : RdQ w B v q) (hw : w.grownBy w' row) (hlt : ∀ g, row = some g → g < B) : RdQ w' B v q := by
  obtain ⟨vs, h1, h2⟩ := h
  exact ⟨vs, h1.grownLt hw hlt, fun i u x hu hx => Sl.grownLt (h2 i u x hu hx) hw hlt⟩
theorem FrW.grownLt {w w' : World} {B : Nat} {v : Value} {l : List Wt} {row : Option Nat} (h : FrW w B v l) (hw : w.grownBy w' row) (hlt : ∀ g, row = some g → g < B) : FrW w' B v l := by
  cases row with
  | none => exact h.below ⟨hw.os, hw.tape, hw.output, hw.size, fun k hk => hw.block k hk (by simp)⟩
  | some g =>
    refine h.far hw (fun a n c hv hn e => ?_)
    obtain ⟨ao, cap, hv', _, _, _, hp⟩ := h.1
    rw [hv] at hv'
    simp only [Value.slice.injEq] at hv'
    obtain ⟨b, off, ha, hB, _⟩ := hp (by omega)
    rw [← hv'.1] at ha
    simp only [Option.some.injEq] at ha
    subst ha
    have := hlt g rfl
    simp only at e
    omega

/-- The variables between two rounds. -/
structure FC (w W : World) (pc : Array Value) (vs : Value) (st : List (List Int)) (vg : Value) (gt : List (List Int)) (vq vw : Value) (n : Int) (q : List (List Int)) (l : List Wt) : Prop where
  bel : Below w.heap.size w W
  prt : W.heap[w.heap.size]? = some (.cells pc 23 (0, 0))
  blk : W.heap[w.heap.size + 1]? = some (.cells #[vq, vw, .int .i64 n] 27 (0, 0))
  rq : RdQ W (w.heap.size + 2) vq q
  fr : FrW W (w.heap.size + 2) vw l
  op : OwnS W w.heap.size vs st
  og : OwnS W w.heap.size vg gt
  ap : ∀ b, vs.ownBlock = some b → vg.ownBlock ≠ some b
/-- .. behind the operation and 's = ..'; H: the heap's size ahead of it. -/
structure FR (w W : World) (pc : Array Value) (H ga : Nat) (x0 x1 x2 : Int) (vx w0 w1 w2 vs : Value) (st : List (List Int)) (vg : Value) (gt : List (List Int)) (vq vw : Value) (n : Int) (q : List (List Int)) (l : List Wt) : Prop where
  fc : FC w W pc vs st vg gt vq vw n q l
  act : W.heap[ga]? = some (.cells #[.int .u8 x0, .int .u8 x1, .int .u8 x2, vx] 66 (0, 0))
  was : W.heap[ga + 1]? = some (.cells #[w0, w1, w2] 27 (0, 0))
  hi : w.heap.size + 2 ≤ H
  rq : RdQ W H vq q
  fr : FrW W H vw l
section
variable {w W W' : World} {pc : Array Value} {H ga : Nat} {x0 x1 x2 : Int} {vx w0 w1 w2 vs : Value} {st : List (List Int)} {vg : Value} {gt : List (List Int)} {vq vw vq' vw' : Value} {n n' : Int} {q q' : List (List Int)} {l l' : List Wt}
theorem FC.next (h : FC w W pc vs st vg gt vq vw n q l) (hb : Below W.heap.size W W') : FC w W' pc vs st vg gt vq vw n q l :=
  ⟨h.bel.trans (hb.mono h.bel.size), (hb.block _ (blk_lt h.prt)).trans h.prt, (hb.block _ (blk_lt h.blk)).trans h.blk, h.rq.below hb, h.fr.below hb, own_below h.op hb, own_below h.og hb, h.ap⟩
theorem FC.alloc (h : FC w W pc vs st vg gt vq vw n q l) (o : Obj) : FC w (W.alloc o) pc vs st vg gt vq vw n q l := h.next ((Below.refl _ _).alloc (Nat.le_refl _) _)
theorem FC.low (h : FC w W pc vs st vg gt vq vw n q l) : (∀ b, vs.ownBlock = some b → b < W.heap.size) ∧ ∀ b, vg.ownBlock = some b → b < W.heap.size := ⟨fun b hb => (own_lt h.op b hb).2, fun b hb => (own_lt h.og b hb).2⟩
theorem FR.next (h : FR w W pc H ga x0 x1 x2 vx w0 w1 w2 vs st vg gt vq vw n q l) (hb : Below W.heap.size W W') : FR w W' pc H ga x0 x1 x2 vx w0 w1 w2 vs st vg gt vq vw n q l :=
  ⟨h.fc.next hb, (hb.block _ (blk_lt h.act)).trans h.act, (hb.block _ (blk_lt h.was)).trans h.was, h.hi, h.rq.below hb, h.fr.below hb⟩
theorem FR.alloc (h : FR w W pc H ga x0 x1 x2 vx w0 w1 w2 vs st vg gt vq vw n q l) (o : Obj) : FR w (W.alloc o) pc H ga x0 x1 x2 vx w0 w1 w2 vs st vg gt vq vw n q l := h.next ((Below.refl _ _).alloc (Nat.le_refl _) _)
/-- 's, .. = op(p, s, ..)'. -/
theorem FC.call (h : FC w W pc vs st vg gt vq vw n q l) (ha : W.heap[ga]? = some (.cells #[.int .u8 x0, .int .u8 x1, .int .u8 x2, vx] 66 (0, 0))) (hw : W.heap[ga + 1]? = some (.cells #[w0, w1, w2] 27 (0, 0))) (hga : w.heap.size + 1 < ga) (hb : Below W.heap.size W W') (hq : RdQ W' W.heap.size vq' q') (hf : FrW W' W.heap.size vw' l') :
    FR w (put3 W' (w.heap.size + 1) vq' vw' (.int .i64 n')) pc W.heap.size ga x0 x1 x2 vx w0 w1 w2 vs st vg gt vq' vw' n' q' l' := by
  have hlt := blk_lt h.blk
  have hB : w.heap.size + 1 < W.heap.size := hlt
  have hn := h.next hb
  have far : ∀ {g : Nat} {ob : Obj}, W'.heap[g]? = some ob → g ≠ w.heap.size + 1 → (put3 W' (w.heap.size + 1) vq' vw' (.int .i64 n')).heap[g]? = some ob := fun hg hne => by
    unfold put3
    exact set_far (set_far (set_far hg hne) hne) hne
  have own : ∀ {v : Value} {m : List (List Int)}, OwnS W' w.heap.size v m → OwnS (put3 W' (w.heap.size + 1) vq' vw' (.int .i64 n')) w.heap.size v m := fun hv => by
    have q1 := set3 hn.blk vq'
    have q2 := set3 q1.1 vw'
    exact own_oth (own_oth (own_oth hv hn.blk (by decide)) q1.1 (by decide)) q2.2.1 (by decide)
  have rq : RdQ (put3 W' (w.heap.size + 1) vq' vw' (.int .i64 n')) W.heap.size vq' q' := ((hq.low hB).low hB).low hB
  have fr : FrW (put3 W' (w.heap.size + 1) vq' vw' (.int .i64 n')) W.heap.size vw' l' := ((hf.low hB).low hB).low hB
  exact ⟨⟨put3_below hn.bel (Nat.le_succ _) _ _ _, far hn.prt (by omega), put3_blk hn.blk, rq.mono (by omega), fr.mono (by omega), own hn.op, own hn.og, h.ap⟩, far ((hb.block _ (blk_lt ha)).trans ha) (by omega), far ((hb.block _ (blk_lt hw)).trans hw) (by omega), by omega, rq, fr⟩
theorem FR.grow {row : Option Nat} {vs' vg' : Value} {st' gt' : List (List Int)} (h : FR w W pc H ga x0 x1 x2 vx w0 w1 w2 vs st vg gt vq vw n q l) (hg : W.grownBy W' row) (ht : ∀ g, row = some g → Tag W g 9) (hlo : ∀ g, row = some g → w.heap.size ≤ g ∧ g < H) (h1 : OwnS W' w.heap.size vs' st') (h2 : OwnS W' w.heap.size vg' gt') (hap : ∀ b, vs'.ownBlock = some b → vg'.ownBlock ≠ some b) :
    FR w W' pc H ga x0 x1 x2 vx w0 w1 w2 vs' st' vg' gt' vq vw n q l := by
  have rq := h.rq.grownLt hg (fun g e => (hlo g e).2)
  have fr := h.fr.grownLt hg (fun g e => (hlo g e).2)
  refine ⟨⟨⟨hg.os.trans h.fc.bel.os, hg.tape.trans h.fc.bel.tape, hg.output.trans h.fc.bel.output, Nat.le_trans h.fc.bel.size hg.size, fun j hj => ?_⟩, blk_grownT h.fc.prt hg ht (by decide), blk_grownT h.fc.blk hg ht (by decide), rq.mono h.hi, fr.mono h.hi, h1, h2, hap⟩, blk_grownT h.act hg ht (by decide), blk_grownT h.was hg ht (by decide), h.hi, rq, fr⟩
  exact (hg.block j (Nat.lt_of_lt_of_le hj h.fc.bel.size) (fun e => by have := (hlo j e.symm).1; omega)).trans (h.fc.bel.block j hj)
/-- 'sent = append(sent, y)'. -/
theorem FR.appS {y : List Int} (h : FR w W pc H ga x0 x1 x2 vx w0 w1 w2 vs st vg gt vq vw n q l) (hl : st.length ≤ 1000) (hlt : ∀ b, vs.ownBlock = some b → b < H) (ty : TypeId) :
    ∃ a c w', (Builtin.append_ #[64, 64] ty #[vs, .slice (some ⟨W.heap.size, 0, none⟩) 1 1]).run Try.prog (W.alloc (.cells #[.string (strOfNums y)] 9)) = .ok (.slice a (st.length + 1) c) w' ∧ FR w w' pc H ga x0 x1 x2 vx w0 w1 w2 (.slice a (st.length + 1) c) (st ++ [y]) vg gt vq vw n q l := by
  have h1 := h.alloc (.cells #[.string (strOfNums y)] 9)
  have hgn := heap_alloc_new W (.cells #[.string (strOfNums y)] 9)
  generalize W.alloc (.cells #[.string (strOfNums y)] 9) = W1 at h1 hgn
  obtain ⟨a, c, w', hr, ho, hg, hb⟩ := h1.fc.op.snoc h1.fc.bel.size hl hgn ty
  refine ⟨a, c, w', hr, h1.grow hg (own_tag h1.fc.op) (fun g e => ⟨(own_lt h1.fc.op g e).1, hlt g e⟩) ho (own_far h1.fc.og hg (fun b e e' => h1.fc.ap b e' e)) (fun b e e' => ?_)⟩
  rcases hb with hb | hb
  · rw [hb] at e; exact h1.fc.ap b e e'
  · rw [hb] at e
    simp only [Option.some.injEq] at e
    have := (own_lt h1.fc.og b e').2
    omega
/-- 'got = append(got, y)'. -/
theorem FR.appG {y : List Int} (h : FR w W pc H ga x0 x1 x2 vx w0 w1 w2 vs st vg gt vq vw n q l) (hl : gt.length ≤ 1000) (hlt : ∀ b, vg.ownBlock = some b → b < H) (ty : TypeId) :
    ∃ a c w', (Builtin.append_ #[64, 64] ty #[vg, .slice (some ⟨W.heap.size, 0, none⟩) 1 1]).run Try.prog (W.alloc (.cells #[.string (strOfNums y)] 9)) = .ok (.slice a (gt.length + 1) c) w' ∧ FR w w' pc H ga x0 x1 x2 vx w0 w1 w2 vs st (.slice a (gt.length + 1) c) (gt ++ [y]) vq vw n q l := by
  have h1 := h.alloc (.cells #[.string (strOfNums y)] 9)
  have hgn := heap_alloc_new W (.cells #[.string (strOfNums y)] 9)
  generalize W.alloc (.cells #[.string (strOfNums y)] 9) = W1 at h1 hgn
  obtain ⟨a, c, w', hr, ho, hg, hb⟩ := h1.fc.og.snoc h1.fc.bel.size hl hgn ty
  refine ⟨a, c, w', hr, h1.grow hg (own_tag h1.fc.og) (fun g e => ⟨(own_lt h1.fc.og g e).1, hlt g e⟩) (own_far h1.fc.op hg (fun b e e' => h1.fc.ap b e e')) ho (fun b e e' => ?_)⟩
  rcases hb with hb | hb
  · rw [hb] at e'; exact h1.fc.ap b e e'
  · rw [hb] at e'
    simp only [Option.some.injEq] at e'
    have := (own_lt h1.fc.op b e).2
    omega
end
end Go.Proofs.Ytglbfmcbojjglaa

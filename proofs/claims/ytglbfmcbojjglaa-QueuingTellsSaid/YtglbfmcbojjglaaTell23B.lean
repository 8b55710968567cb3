/-
  The contract of nacellelaw23.copied. Conditions: the state can be read, at most a thousand elements.
-/
import Derived.Test.YtglbfmcbojjglaaTell23A
import Derived.Test.YtglbfmcbojjglaaWords24
import Derived.Deep.DeepCutAuto
import Derived.Test.YtglbfmcbojjglaaAwake23
namespace Go.Proofs.Ytglbfmcbojjglaa
open Go.RowKit

/-- What the operations of 't := State{..}' leave: B: the heap's size ahead of them, H: the state's variable. -/
def C23 (H B : Nat) (n : Int) (vw : Value) (l : List Wt) (i : Nat) (v : Value) (w : World) : Prop :=
  match i with
  | 0 => v = .pointer (some ⟨H, 2, none⟩)
  | 1 => v = .int .i64 n
  | 2 => ∃ k, v = .slice (some ⟨k, 0, none⟩) 0 0
  | 3 => v = .pointer (some ⟨H, 1, none⟩)
  | 4 => v = vw
  | 5 => ∃ a c, v = .slice a l.length c ∧ TyW w B v l
  | 6 => ∃ a c, v = .agg #[.slice none 0 0, .slice a l.length c, .int .i64 n] ∧ TyW w B (.slice a l.length c) l
  | 7 => ∃ k, v = .pointer (some ⟨k, 0, none⟩) ∧ B ≤ k ∧ w.heap[k]? = some (.cells #[.slice none 0 0, .slice none 0 0, .int .i64 0] 27 (0, 0))
  | _ => True
theorem C23.keep {H B : Nat} {n : Int} {vw : Value} {l : List Wt} (i : Nat) (v : Value) (w w' : World) (h : C23 H B n vw l i v w) (hb : Below w.heap.size w w') : C23 H B n vw l i v w' := by
  unfold C23 at *
  split <;> simp only at h <;> first
    | exact h
    | (obtain ⟨a, c, e, ht⟩ := h; exact ⟨a, c, e, Ty.below ht hb⟩)
    | (obtain ⟨k, e, hk, hh⟩ := h; exact ⟨k, e, hk, (hb.block _ (blk_lt hh)).trans hh⟩)
theorem RdQ.cellAt2 {w : World} {B m c : Nat} {a : Option Addr} {q : List (List Int)} (h : RdQ w B (.slice a m c) q) (k : Nat) (hk : k < q.length) : ∃ b off a' c', a = some ⟨b, off, none⟩ ∧ m ≤ c ∧ b < w.heap.size ∧ w.cell? ⟨b, off + k, none⟩ = some (.slice a' q[k].length c') ∧ RdI .u8 w B (.slice a' q[k].length c') q[k] := by
  obtain ⟨vs, ⟨ao, cap, hv, h1, h2, h3, hp⟩, hi⟩ := h
  simp only [Value.slice.injEq] at hv
  obtain ⟨rfl, rfl, rfl⟩ := hv
  obtain ⟨b, off, ha, hB, hbs, hc⟩ := hp (by omega)
  have hkv : k < vs.length := by omega
  have hr := hi k _ _ (List.getElem?_eq_getElem hkv) (List.getElem?_eq_getElem hk)
  obtain ⟨a', c', hv', _⟩ := hr.open_
  have := hc k _ (List.getElem?_eq_getElem hkv)
  rw [hv'] at this hr
  exact ⟨b, off, a', c', ha, h1, hbs, this, hr⟩
/-- append at a step of a region in order. -/
theorem wpList_append_run {P : Program} {ops : Array Oper} {o : Oper} {rest : List Oper} {a : Act} {w : World} {Q : Exit → Act → World → Prop} (hg : o.guard = none) (d x : Operand) (t : TypeId) (hop : o.op = .call { callee := .builtin .append, args := #[d, x], argTypes := #[t, t] })
    (v u : Value) (hd : a.eval d = v) (hx : a.eval x = u) {v' : Value} {w' : World} (hr : (Builtin.append_ #[t, t] o.type #[v, u]).run P w = .ok v' w') (hK : wpList P ops Q rest (a.put o.dst v') w') : wpList P ops Q (o :: rest) a w := by
  refine wpList_plain hg fun K hK' => ?_
  unfold Oper.wp
  have : (execOp a.eval o).run P w = .ok (.value v') w' := by
    simp only [execOp, hop, resolve, invoke, builtin, Sem.run_bind, Sem.run_pure, Result.andThen_ok, List.map_toArray, List.map_cons, List.map_nil, hd, hx, hr]
  rw [this]
  exact hK' _ _ hK

/-- A queue whose row can still grow, its messages in blocks of bytes. -/
def TyQ (w : World) (B : Nat) (v : Value) (q : List (List Int)) : Prop := ∃ vs : List Value, w.ownsRow B 28 1 v q.length vs ∧ ∀ (i : Nat) u x, vs[i]? = some u → q[i]? = some x → TyB w B u x
section
variable {w w' : World} {B g o : Nat} {v u : Value} {q : List (List Int)} {t : TypeId}
theorem TyQ.rd (h : TyQ w B v q) : RdQ w 0 v q := by
  obtain ⟨vs, h1, h2⟩ := h
  exact ⟨vs, (Sl.of_own h1).mono (Nat.zero_le _), fun i u x hu hx => TyB.rd (h2 i u x hu hx)⟩
theorem TyQ.below (h : TyQ w B v q) (hb : Below w.heap.size w w') : TyQ w' B v q := by
  obtain ⟨vs, h1, h2⟩ := h
  exact ⟨vs, own_below h1 hb, fun i u x hu hx => Ty.below (h2 i u x hu hx) hb⟩
theorem TyQ.setT (h : TyQ w B v q) (hg : Tag w g t) (h1 : t ≠ 28) (h2 : t ≠ 5) : TyQ (w.setCell ⟨g, o, none⟩ u) B v q := by
  obtain ⟨vs, a1, a2⟩ := h
  have hg' := hg
  obtain ⟨cs, hg⟩ := hg
  exact ⟨vs, own_oth a1 hg h1, fun i u' x hu hx => Ty.setT (a2 i u' x hu hx) hg' h2⟩
theorem TyQ.nil (w : World) (B : Nat) : TyQ w B (.slice none 0 0) [] := ⟨[], World.ownsRow_nil _ _ _ _, fun i u x hu => by simp at hu⟩
theorem TyQ.shape (h : TyQ w B v q) : ∃ a c, v = .slice a q.length c := by
  obtain ⟨vs, h1, _⟩ := h
  exact own_slice h1
/-- One message more. -/
theorem TyQ.app {x : List Int} {vx : Value} (h : TyQ w B v q) (hx : TyB w B vx x) (hx1 : vx.oneCell' = true) (hg : w.heap[g]? = some (.cells #[vx] 28 (0, 0))) (hB : B ≤ w.heap.size) (hn : q.length ≤ 90000) (ty : TypeId) :
    ∃ a c w', (Builtin.append_ #[24, 24] ty #[v, .slice (some ⟨g, 0, none⟩) 1 1]).run Try.prog w = .ok (.slice a (q.length + 1) c) w' ∧ TyQ w' B (.slice a (q.length + 1) c) (q ++ [x]) ∧ w.grownBy w' v.ownBlock ∧ (∀ b, v.ownBlock = some b → B ≤ b) ∧ (∀ {b : Nat} {cs : Array Value} {t : TypeId}, w.heap[b]? = some (.cells cs t (0, 0)) → t ≠ 28 → w'.heap[b]? = some (.cells cs t (0, 0))) := by
  obtain ⟨vs, ho, hin⟩ := h
  obtain ⟨i0, hi, hz0, hz1, hz2⟩ := info_parts info_BS
  obtain ⟨v', w', r1, r2, r3, _⟩ := run_append_own (P := Try.prog) w B 24 ty 28 i0 (.slice none 0 0) 1 24 Try.underlying24 hi hz0 hz1 hz2 rfl (by decide) v q.length vs ho ⟨g, 0, none⟩ 1 1 [vx] rfl
    (by
      intro j u hu
      match j, hu with
      | 0, hu =>
        simp at hu
        subst hu
        rw [addr_add, cell_of_row w _ _ _ _ _ hg]
        rfl) (by intro u hu; simp at hu; subst hu; exact hx1) (by unfold maxLen; omega) (by omega) hB
  obtain ⟨a, c, rfl⟩ := own_slice r2
  have hblk : ∀ {b : Nat} {cs : Array Value} {t : TypeId}, w.heap[b]? = some (.cells cs t (0, 0)) → t ≠ 28 → w'.heap[b]? = some (.cells cs t (0, 0)) := fun {b cs t} hb ht =>
    (r3.block b (blk_lt hb) (ne_own hb ho ht)).trans hb
  have hvl : vs.length = q.length := by have := ho.1; omega
  refine ⟨a, c, w', r1, ⟨vs ++ [vx], by simpa using r2, fun i u y hu hy => ?_⟩, r3, fun b hb => (ho.lt b hb).1, hblk⟩
  have hk : ∀ {u : Value} {y : List Int}, TyB w B u y → TyB w' B u y := fun {u y} ht => Ty.keep ht fun b cs hc => hblk hc (by decide)
  by_cases hi : i < q.length
  · rw [List.getElem?_append_left (by omega)] at hu hy
    exact hk (hin i u y hu hy)
  · rw [List.getElem?_append_right (by omega)] at hu hy
    have h1 := (List.getElem?_eq_some_iff.1 hy).1
    simp at h1
    have hi0 : i - vs.length = 0 := by omega
    have hi1 : i - q.length = 0 := by omega
    rw [hi0] at hu
    rw [hi1] at hy
    simp at hu hy
    subst hu hy
    exact hk hx
end
theorem TyQ.mono {w : World} {B B' : Nat} {v : Value} {q : List (List Int)} (h : TyQ w B v q) (hB : B' ≤ B) : TyQ w B' v q := by
  obtain ⟨vs, h1, h2⟩ := h
  exact ⟨vs, own_mono h1 hB, fun i u x hu hx => Ty.mono (h2 i u x hu hx) hB⟩
def RfS (w : World) (q : List (List Int)) (l : List Wt) (n : Int) (e : Ending) (w' : World) : Prop := ∃ vq vw, e = .returned (.agg #[vq, vw, .int .i64 n]) ∧ TyQ w' w.heap.size vq q ∧ TyW w' w.heap.size vw l ∧ Below w.heap.size w w'
/-- What the first operations of 't.Queue = append(..)' leave. -/
def D23 (g B : Nat) (vq vm : Value) (x : List Int) (i : Nat) (v : Value) (w : World) : Prop :=
  match i with
  | 0 => v = .pointer (some ⟨g, 0, none⟩)
  | 1 => v = vq
  | 2 => ∃ k, v = .slice (some ⟨k, 0, none⟩) 0 0
  | 3 => v = vm
  | 4 => ∃ a c, v = .slice a x.length c ∧ TyB w B v x
  | 5 => ∃ k a c, v = .slice (some ⟨k, 0, none⟩) 1 1 ∧ w.heap[k]? = some (.cells #[.slice a x.length c] 28 (0, 0)) ∧ TyB w B (.slice a x.length c) x
  | _ => True
theorem D23.keep {g B : Nat} {vq vm : Value} {x : List Int} (i : Nat) (v : Value) (w w' : World) (h : D23 g B vq vm x i v w) (hb : Below w.heap.size w w') : D23 g B vq vm x i v w' := by
  unfold D23 at *
  split <;> simp only at h <;> first
    | exact h
    | (obtain ⟨a, c, e, ht⟩ := h; exact ⟨a, c, e, Ty.below ht hb⟩)
    | (obtain ⟨k, a, c, e, hh, ht⟩ := h; exact ⟨k, a, c, e, (hb.block _ (blk_lt hh)).trans hh, Ty.below ht hb⟩)
theorem set0 {W : World} {g : Nat} {a b c : Value} {t : TypeId} (h : W.heap[g]? = some (.cells #[a, b, c] t (0, 0))) (x : Value) : (W.setCell ⟨g, 0, none⟩ x).heap[g]? = some (.cells #[x, b, c] t (0, 0)) := (set3 h x).1
/-- What the loop keeps. -/
structure CL (W0 w : World) (B g : Nat) (vq vw : Value) (n : Int) (q : List (List Int)) (l : List Wt) : Prop where
  blk : w.heap[g]? = some (.cells #[vq, vw, .int .i64 n] 27 (0, 0))
  tq : TyQ w B vq q
  tw : TyW w B vw l
  bel : Below W0.heap.size W0 w
  hB : W0.heap.size ≤ B
  hg : B ≤ g
theorem CL.put {W0 w w' w2 : World} {B g : Nat} {vq vw v' : Value} {n : Int} {q : List (List Int)} {l : List Wt} {x : List Int} (h : CL W0 w B g vq vw n q l) (hb : Below w.heap.size w w') (hgr : w'.grownBy w2 vq.ownBlock) (hob : ∀ b, vq.ownBlock = some b → B ≤ b)
    (hk : ∀ {b : Nat} {cs : Array Value} {t : TypeId}, w'.heap[b]? = some (.cells cs t (0, 0)) → t ≠ 28 → w2.heap[b]? = some (.cells cs t (0, 0))) (ht : TyQ w2 B v' (q ++ [x])) :
    w2.heap[g]? = some (.cells #[vq, vw, .int .i64 n] 27 (0, 0)) ∧ CL W0 (w2.setCell ⟨g, 0, none⟩ v') B g v' vw n (q ++ [x]) l := by
  have h1 : w2.heap[g]? = some (.cells #[vq, vw, .int .i64 n] 27 (0, 0)) := hk ((hb.block _ (blk_lt h.blk)).trans h.blk) (by decide)
  have hbe : Below W0.heap.size W0 w2 := by
    have h2 := h.bel.trans (hb.mono h.bel.size)
    refine ⟨hgr.os.trans h2.os, hgr.tape.trans h2.tape, hgr.output.trans h2.output, Nat.le_trans h2.size hgr.size, fun b hbk => ?_⟩
    refine (hgr.block b (Nat.lt_of_lt_of_le hbk h2.size) (fun e => ?_)).trans (h2.block b hbk)
    have := hob b e.symm
    have := h.hB
    omega
  have hgB := h.hg
  have hB := h.hB
  have tw2 : TyW w2 B vw l := Ty.keep (Ty.below h.tw hb) fun b cs hc => hk hc (by decide)
  exact ⟨h1, set0 h1 v', ht.setT (Tag.of h1) (by decide) (by decide), Ty.setT tw2 (Tag.of h1) (by decide), hbe.setCell (p := ⟨g, 0, none⟩) (by show _ ≤ g; omega) _, hB, hgB⟩

set_option maxHeartbeats 8000000 in
set_option maxRecDepth 100000 in
theorem copied23_c (vq vw : Value) (n : Int) (q : List (List Int)) (l : List Wt) (w : World) (hq : RdQ w 0 vq q) (hw : RdW w 0 vw l) (hql : q.length ≤ 1000) (hl : l.length ≤ 1000) (hm : ∀ x ∈ q, x.length ≤ 1000) :
    Calls Try.prog 26 #[.agg #[vq, vw, .int .i64 n]] w (RfS w q l n) := by
  obtain ⟨aq, cq, rfl⟩ := hq.shape'
  obtain ⟨aw, cw, rfl, _, _, _⟩ := hw.open_
  obtain ⟨W0, hW0⟩ : ∃ W0, W0 = (w.alloc (.cells #[.slice aq q.length cq, .slice aw l.length cw, .int .i64 n] 27)).alloc (.cells #[.slice none 0 0, .slice none 0 0, .int .i64 0] 27) := ⟨_, rfl⟩
  have BX : Hid (W0.heap[w.heap.size]? = some (.cells #[.slice aq q.length cq, .slice aw l.length cw, .int .i64 n] 27 (0, 0))) := by subst hW0; exact (Below.heap_alloc _ _ _ (by simp)).trans (heap_alloc_new w _)
  have BR : Hid (W0.heap[w.heap.size + 1]? = some (.cells #[.slice none 0 0, .slice none 0 0, .int .i64 0] 27 (0, 0))) := by subst hW0; exact alloc2Q w _ _
  have HB0 : Hid (Below w.heap.size w W0) := by subst hW0; exact ((Below.refl _ w).alloc (Nat.le_refl _) _).alloc (by simp) _
  have HS0 : Hid (W0.heap.size = w.heap.size + 2) := by subst hW0; show _ = _; simp
  have HW0 := Lib.hid hW0
  have RQ := Lib.hid (hq.below HB0.out)
  have RW := Lib.hid (hw.below HB0.out)
  have HM := Lib.hid hm
  clear hq hw hW0 hm
  go_enter Try.func26, Try.ntmps26
  go_wp2_with fail
  rw [← HW0.out]
  clear HW0
  go_cut [3] (fun s3 wx => ∃ g3, s3 = .pointer (some ⟨g3, 0, none⟩) ∧ ∃ a c, Aside (CL W0 wx W0.heap.size g3 (.slice none 0 0) (.slice a l.length c) n [] l))
  case first =>
    refine wp_region_monoD 8 (C23 w.heap.size W0.heap.size n (.slice aw l.length cw) l) [some 6, some 7, some 8, some 9, some 10, some 11, some 12, some 3] (by kernel_rfl) (by kernel_rfl) (by kernel_rfl) (by kernel_rfl) C23.keep ?_ ?_
    · intro i hi
      rcases (show i = 0 ∨ i = 1 ∨ i = 2 ∨ i = 3 ∨ i = 4 ∨ i = 5 ∨ i = 6 ∨ i = 7 by omega) with rfl | rfl | rfl | rfl | rfl | rfl | rfl | rfl
      all_goals
        intro o ho vs A w' hb hA1 hA2 hdp
        obtain rfl := Option.some.inj (show some _ = some o from ho)
        clear ho hi
      · have e4 : A.eval (.tmp 1) = .pointer (some ⟨w.heap.size, 0, none⟩) := (hA2 1 (by kernel_rfl)).trans rfl
        exact gives_of (v := .pointer (some ⟨w.heap.size, 2, none⟩)) (by generalize A.eval = ρ at e4 ⊢; simp [execOp, e4, go_sem]) ⟨Below.refl _ _, rfl⟩
      · have e0 := hA1 0 6 (by kernel_rfl) rfl
        rw [show vs 0 = .pointer (some ⟨w.heap.size, 2, none⟩) from hdp 0 (by kernel_rfl)] at e0
        obtain ⟨x0, x1, x2, _, _, _⟩ := threeBlk ((hb.block _ (blk_lt BX.out)).trans BX.out)
        exact gives_of (v := .int .i64 n) (by generalize A.eval = ρ at e0 ⊢; simp [execOp, e0, go_sem, x2]) ⟨Below.refl _ _, rfl⟩
      · exact gives_of (v := .slice (some ⟨w'.heap.size, 0, none⟩) 0 0) (by simp [execOp, go_sem]; rfl) ⟨(Below.refl _ _).alloc (Nat.le_refl _) _, ⟨_, rfl⟩⟩
      · have e4 : A.eval (.tmp 1) = .pointer (some ⟨w.heap.size, 0, none⟩) := (hA2 1 (by kernel_rfl)).trans rfl
        exact gives_of (v := .pointer (some ⟨w.heap.size, 1, none⟩)) (by generalize A.eval = ρ at e4 ⊢; simp [execOp, e4, go_sem]) ⟨Below.refl _ _, rfl⟩
      · have e0 := hA1 3 9 (by kernel_rfl) rfl
        rw [show vs 3 = .pointer (some ⟨w.heap.size, 1, none⟩) from hdp 3 (by kernel_rfl)] at e0
        obtain ⟨x0, x1, x2, _, _, _⟩ := threeBlk ((hb.block _ (blk_lt BX.out)).trans BX.out)
        exact gives_of (v := .slice aw l.length cw) (by generalize A.eval = ρ at e0 ⊢; simp [execOp, e0, go_sem, x1]) ⟨Below.refl _ _, rfl⟩
      · obtain ⟨k0, hk0⟩ := hdp 2 (by kernel_rfl)
        have e0 := hA1 2 8 (by kernel_rfl) rfl
        have e1 := hA1 4 10 (by kernel_rfl) rfl
        rw [hk0] at e0
        rw [show vs 4 = .slice aw l.length cw from hdp 4 (by kernel_rfl)] at e1
        obtain ⟨a, c, w'', hr, ht, hb2⟩ := copyW_bel (W := w') (B := W0.heap.size) (g := k0) (RW.out.below hb) hb.size (by omega)
        exact gives_append (.tmp 8) (.tmp 10) 25 rfl _ _ e0 e1 (hr _) ⟨hb2, ⟨a, c, rfl, ht⟩⟩
      · obtain ⟨a1, c1, e5, t5⟩ := hdp 5 (by kernel_rfl)
        have y1 := hA1 1 7 (by kernel_rfl) rfl
        have y5 := hA1 5 11 (by kernel_rfl) rfl
        rw [show vs 1 = .int .i64 n from hdp 1 (by kernel_rfl)] at y1
        rw [e5] at y5 t5
        exact gives_of (v := .agg #[.slice none 0 0, .slice a1 l.length c1, .int .i64 n]) (by generalize A.eval = ρ at y1 y5 ⊢; simp [execOp, go_sem, y1, y5]) ⟨Below.refl _ _, ⟨a1, c1, rfl, t5⟩⟩
      · exact gives_of (v := .pointer (some ⟨w'.heap.size, 0, none⟩)) (w' := w'.alloc (.cells #[.slice none 0 0, .slice none 0 0, .int .i64 0] 27)) (by simp [execOp, go_sem]) ⟨(Below.refl _ _).alloc (Nat.le_refl _) _, ⟨_, rfl, hb.size, heap_alloc_new w' _⟩⟩
    · intro vs w2 hb2 hvs
      obtain ⟨a1, c1, e6, t1⟩ := hvs 6 (by omega)
      obtain ⟨k7, e7, hk7, hblk⟩ := hvs 7 (by omega)
      have hz := HS0.out
      have P1 : Hid (CL W0 (put3 w2 k7 (.slice none 0 0) (.slice a1 l.length c1) (.int .i64 n)) W0.heap.size k7 (.slice none 0 0) (.slice a1 l.length c1) n [] l) := ⟨put3_blk hblk, TyQ.nil _ _, Ty.set3 t1 (Tag.of hblk) (by decide) _ _ _, put3_below hb2 hk7 _ _ _, Nat.le_refl _, hk7⟩
      obtain ⟨y0, y1, y2, y3, y4, y5⟩ := threeBlk hblk
      have yb := blk_lt hblk
      clear t1 hblk hvs hz
      simp only [putDs, Nat.zero_add, Nat.reduceAdd, e6, e7]
      go_wp2_with fail
      go_meet
      exact ⟨_, rfl, _, _, P1.out⟩
  case rest =>
    obtain ⟨g3, rfl, a, c, A⟩ := hcut
    have L0 := Lib.hid A.out
    clear A
    obtain ⟨x0, x1, x2, _, _, _⟩ := threeBlk ((L0.out.bel.block _ (blk_lt BX.out)).trans BX.out)
    have xb : w.heap.size < wc.heap.size := blk_lt ((L0.out.bel.block _ (blk_lt BX.out)).trans BX.out)
    go_wp2_with fail
    clear x0 x1 x2 xb
    go_loopg [5, 16] q.length (fun gg _ s16 wr => ∃ j : Nat, j ≤ q.length ∧ q.length - j ≤ gg ∧ s16 = .int .i64 j ∧ ∃ aq' mq' cq', Aside (CL W0 wr W0.heap.size g3 (.slice aq' mq' cq') (.slice a l.length c) n (q.take j) l))
    case atStart => exact ⟨0, Nat.zero_le _, by omega, rfl, _, _, _, L0.out⟩
    case round =>
      obtain ⟨j, hj, hgj, rfl, aq', mq', cq', A⟩ := hrel
      have LL := Lib.hid A.out
      clear A L0
      by_cases hlt : j < q.length
      · have hltz : (j : Int) < (q.length : Int) := by omega
        have RQ' := RQ.out.below (LL.out.bel.mono (Nat.le_refl _))
        obtain ⟨x, hx⟩ : ∃ x, x = q[j] := ⟨_, rfl⟩
        obtain ⟨b, off, a', c', rfl, hqc, hbs, cj, rx⟩ := RQ'.cellAt2 j hlt
        rw [← hx] at cj rx
        have hxl : x.length ≤ 1000 := by rw [hx]; exact HM.out _ (List.getElem_mem hlt)
        have hqcz : (q.length : Int) ≤ (cq : Int) := by omega
        have HX := Lib.hid hx
        have RX := Lib.hid rx
        clear hx rx RQ'
        go_upto_region 5 with (fail)
        clear cj hbs hqc hqcz
        refine wp_region_monoD 6 (D23 g3 W0.heap.size (.slice aq' mq' cq') (.slice a' x.length c') x) [some 20, some 21, some 22, some 23, some 24, some 25] (by kernel_rfl) (by kernel_rfl) (by kernel_rfl) (by kernel_rfl) D23.keep ?_ ?_
        · intro i hi
          rcases (show i = 0 ∨ i = 1 ∨ i = 2 ∨ i = 3 ∨ i = 4 ∨ i = 5 by omega) with rfl | rfl | rfl | rfl | rfl | rfl
          all_goals
            intro o ho vs A w' hb hA1 hA2 hdp
            obtain rfl := Option.some.inj (show some _ = some o from ho)
            clear ho hi
          · have e4 : A.eval (.tmp 3) = .pointer (some ⟨g3, 0, none⟩) := (hA2 3 (by kernel_rfl)).trans rfl
            exact gives_of (v := .pointer (some ⟨g3, 0, none⟩)) (by generalize A.eval = ρ at e4 ⊢; simp [execOp, e4, go_sem]) ⟨Below.refl _ _, rfl⟩
          · have e0 := hA1 0 20 (by kernel_rfl) rfl
            rw [show vs 0 = .pointer (some ⟨g3, 0, none⟩) from hdp 0 (by kernel_rfl)] at e0
            obtain ⟨x0, x1, x2, _, _, _⟩ := threeBlk ((hb.block _ (blk_lt LL.out.blk)).trans LL.out.blk)
            exact gives_of (v := .slice aq' mq' cq') (by generalize A.eval = ρ at e0 ⊢; simp [execOp, e0, go_sem, x0]) ⟨Below.refl _ _, rfl⟩
          · exact gives_of (v := .slice (some ⟨w'.heap.size, 0, none⟩) 0 0) (by simp [execOp, go_sem]; rfl) ⟨(Below.refl _ _).alloc (Nat.le_refl _) _, ⟨_, rfl⟩⟩
          · have e4 : A.eval (.tmp 5) = .slice a' x.length c' := (hA2 5 (by kernel_rfl)).trans rfl
            exact gives_of (v := .slice a' x.length c') (by generalize A.eval = ρ at e4 ⊢; simp [execOp, e4, go_sem]) ⟨Below.refl _ _, rfl⟩
          · obtain ⟨k0, hk0⟩ := hdp 2 (by kernel_rfl)
            have e0 := hA1 2 22 (by kernel_rfl) rfl
            have e1 := hA1 3 23 (by kernel_rfl) rfl
            rw [hk0] at e0
            rw [show vs 3 = .slice a' x.length c' from hdp 3 (by kernel_rfl)] at e1
            have hsz := LL.out.bel.size
            have hbz := hb.size
            obtain ⟨a2, c2, w'', hr, ht, hb2⟩ := copyB_bel (W := w') (B := W0.heap.size) (g := k0) (RX.out.below hb) (by omega) (by omega)
            exact gives_append (.tmp 22) (.tmp 23) 28 rfl _ _ e0 e1 (hr _) ⟨hb2, ⟨a2, c2, rfl, ht⟩⟩
          · obtain ⟨a2, c2, e5, t5⟩ := hdp 4 (by kernel_rfl)
            have y5 := hA1 4 24 (by kernel_rfl) rfl
            rw [e5] at y5 t5
            exact gives_of (v := .slice (some ⟨w'.heap.size, 0, none⟩) 1 1) (w' := w'.alloc (.cells #[.slice a2 x.length c2] 28)) (by generalize A.eval = ρ at y5 ⊢; simp [execOp, go_sem, y5]) ⟨(Below.refl _ _).alloc (Nat.le_refl _) _, ⟨_, a2, c2, rfl, heap_alloc_new w' _, Ty.alloc t5 _⟩⟩
        · intro vs w2 hb2 hvs
          have e1 : vs 1 = .slice aq' mq' cq' := hvs 1 (by omega)
          obtain ⟨k5, a5, c5, e5, hblk, t5⟩ := hvs 5 (by omega)
          have hsz := LL.out.bel.size
          have hbz := hb2.size
          have hlen : (q.take j).length = j := by simp; omega
          obtain ⟨a6, c6, w6, hr6, tq6, hgr6, hob6, hk6⟩ := (LL.out.tq.below hb2).app t5 rfl hblk (by omega) (by rw [hlen]; omega) 24
          obtain ⟨hb6, CL6⟩ := LL.out.put hb2 hgr6 hob6 hk6 tq6
          rw [HX.out, ← List.take_succ_eq_append_getElem hlt, hlen] at CL6
          rw [hlen] at hr6
          have C6 := Lib.hid CL6
          have HR6 := Lib.hid hr6
          obtain ⟨y0, y1, y2, y3, y4, y5⟩ := threeBlk hb6
          have yb := blk_lt hb6
          clear hblk t5 hvs hsz hbz hlen tq6 hgr6 hob6 hk6 hb6 CL6 hr6
          simp only [putDs, Nat.zero_add, Nat.reduceAdd, e1, e5]
          refine wpList_append_run rfl (.tmp 21) (.tmp 25) 24 rfl _ _ ?e1 ?e2 HR6.out ?_
          case e1 => go_simp
          case e2 => go_simp
          go_wp2_with fail
          go_roundg (q.length - (j + 1))
          case measure => omega
          case rel => exact ⟨j + 1, by omega, by omega, by go_num, _, _, _, C6.out⟩
      · have hltz : ¬ (j : Int) < (q.length : Int) := by omega
        obtain ⟨y0, y1, y2, _, _, _⟩ := threeBlk LL.out.blk
        have yb := blk_lt LL.out.blk
        have BR' := (LL.out.bel.block _ (blk_lt BR.out)).trans BR.out
        obtain ⟨z0, z1, z2, z3, z4, z5⟩ := threeBlk BR'
        have zb := blk_lt BR'
        have hz := HS0.out
        have hgw := LL.out.hg
        have hne : ¬ (g3 = w.heap.size + 1) := by omega
        have E1 : Hid (TyQ (put3 wr (w.heap.size + 1) (.slice aq' mq' cq') (.slice a l.length c) (.int .i64 n)) w.heap.size (.slice aq' mq' cq') q) := by
          have h1 := ((LL.out.tq.setT (o := 0) (u := .slice aq' mq' cq') (Tag.of BR') (by decide) (by decide)).setT (o := 1) (u := .slice a l.length c) (Tag.of BR').set (by decide) (by decide)).setT (o := 2) (u := .int .i64 n) (Tag.of BR').set.set (by decide) (by decide)
          rw [List.take_of_length_le (by omega)] at h1
          exact h1.mono (by omega)
        have E2 : Hid (TyW (put3 wr (w.heap.size + 1) (.slice aq' mq' cq') (.slice a l.length c) (.int .i64 n)) w.heap.size (.slice a l.length c) l) := Ty.mono (Ty.set3 LL.out.tw (Tag.of BR') (by decide) _ _ _) (by omega)
        have E3 : Hid (Below w.heap.size w (put3 wr (w.heap.size + 1) (.slice aq' mq' cq') (.slice a l.length c) (.int .i64 n))) := put3_below (HB0.out.trans (LL.out.bel.mono HB0.out.size)) (by omega) _ _ _
        clear LL hz hgw BR'
        go_wp2_with fail
        refine bodyPost_ret (v := .agg #[.slice aq' mq' cq', .slice a l.length c, .int .i64 n]) (by simp [results, Try.results26, go_sem, z0, z1, z2]) rfl ?_
        exact ⟨_, _, rfl, E1.out, E2.out, E3.out⟩
end Go.Proofs.Ytglbfmcbojjglaa

/-
  Package board: the contracts of Put, Get and CancelBuffer. Conditions: what is read can be read, the processes are of type int, at most forty thousand elements.
-/
import Derived.Test.YtglbfmcbojjglaaBuB
import Derived.RegionTactic
namespace Go.Proofs.Ytglbfmcbojjglaa
open Go.RowKit

/-- P24.2 -/
def putBu (n : Int) (d : List Int) (p g : List Wt) (q r v : Int) : List Int × List Wt × List Wt × Bool × Int × Int :=
  if (vldBu n d p g && mayB p g q) = false then (d, p, g, false, -1, 2) else match g with
    | x :: m => (d, p, m, true, x.proc, 0)
    | [] => if (d.length : Int) < n then (d ++ [v], p, [], true, -1, 0) else (d, enterW p ⟨q, r, v⟩, [], false, -1, 0)
/-- P24.3 -/
def getBu (n : Int) (d : List Int) (p g : List Wt) (q r : Int) : List Int × List Wt × List Wt × Int × Bool × Int × Int :=
  if (vldBu n d p g && mayB p g q) = false then (d, p, g, 0, false, -1, 2) else match d with
    | [] => ([], p, enterW g ⟨q, r, 0⟩, 0, false, -1, 0)
    | y :: t => match p with
      | x :: m => (t ++ [x.val], m, g, y, true, x.proc, 0)
      | [] => (t, [], g, y, true, -1, 0)
/-- P24.5 -/
def cancBu (n : Int) (d : List Int) (p g : List Wt) (q : Int) : List Wt × List Wt × Int := if vldBu n d p g = false then (p, g, 2) else (leaveW p q, leaveW g q, 0)
section
variable {n : Int} {d t : List Int} {p g m : List Wt} {q r v y : Int} {x : Wt}
theorem put_bad (h : (vldBu n d p g && mayB p g q) = false) : putBu n d p g q r v = (d, p, g, false, -1, 2) := by simp only [putBu, h, if_pos]
theorem put_wake (h : (vldBu n d p g && mayB p g q) = true) (hg : g = x :: m) : putBu n d p g q r v = (d, p, m, true, x.proc, 0) := by subst hg; simp only [putBu, h]; rfl
theorem put_store (h : (vldBu n d p g && mayB p g q) = true) (hg : g = []) (hl : (d.length : Int) < n) : putBu n d p g q r v = (d ++ [v], p, [], true, -1, 0) := by subst hg; simp [putBu, h, hl]
theorem put_wait (h : (vldBu n d p g && mayB p g q) = true) (hg : g = []) (hl : ¬ (d.length : Int) < n) : putBu n d p g q r v = (d, enterW p ⟨q, r, v⟩, [], false, -1, 0) := by subst hg; simp [putBu, h, hl]
theorem get_bad (h : (vldBu n d p g && mayB p g q) = false) : getBu n d p g q r = (d, p, g, 0, false, -1, 2) := by simp only [getBu, h, if_pos]
theorem get_wait (h : (vldBu n d p g && mayB p g q) = true) (hd : d = []) : getBu n d p g q r = ([], p, enterW g ⟨q, r, 0⟩, 0, false, -1, 0) := by subst hd; simp only [getBu, h]; rfl
theorem get_wake (h : (vldBu n d p g && mayB p g q) = true) (hd : d = y :: t) (hp : p = x :: m) : getBu n d p g q r = (t ++ [x.val], m, g, y, true, x.proc, 0) := by subst hd; subst hp; simp only [getBu, h]; rfl
theorem get_take (h : (vldBu n d p g && mayB p g q) = true) (hd : d = y :: t) (hp : p = []) : getBu n d p g q r = (t, [], g, y, true, -1, 0) := by subst hd; subst hp; simp only [getBu, h]; rfl
end

/-- The results: a buffer, and one, three or four values more. -/
def RBu1 (w : World) (n : Int) (d : List Int) (p g : List Wt) (y : Value) (e : Ending) (w' : World) : Prop := ∃ vd vp vg, e = .returned (.tuple #[.agg #[.int .i64 n, vd, vp, vg], y]) ∧ TyB w' w.heap.size vd d ∧ TyW w' w.heap.size vp p ∧ TyW w' w.heap.size vg g ∧ Below w.heap.size w w'
def RBu3 (w : World) (n : Int) (d : List Int) (p g : List Wt) (y1 y2 y3 : Value) (e : Ending) (w' : World) : Prop := ∃ vd vp vg, e = .returned (.tuple #[.agg #[.int .i64 n, vd, vp, vg], y1, y2, y3]) ∧ TyB w' w.heap.size vd d ∧ TyW w' w.heap.size vp p ∧ TyW w' w.heap.size vg g ∧ Below w.heap.size w w'
def RBu4 (w : World) (n : Int) (d : List Int) (p g : List Wt) (y1 y2 y3 y4 : Value) (e : Ending) (w' : World) : Prop := ∃ vd vp vg, e = .returned (.tuple #[.agg #[.int .i64 n, vd, vp, vg], y1, y2, y3, y4]) ∧ TyB w' w.heap.size vd d ∧ TyW w' w.heap.size vp p ∧ TyW w' w.heap.size vg g ∧ Below w.heap.size w w'

/-- The four cells of a buffer's variable are written. -/
def put4 (W : World) (g : Nat) (a b c d : Value) : World := (((W.setCell ⟨g, 0, none⟩ a).setCell ⟨g, 1, none⟩ b).setCell ⟨g, 2, none⟩ c).setCell ⟨g, 3, none⟩ d
theorem Ty.put4 {w : World} {B sz n g : Nat} {t t' : TypeId} {v : Value} {xs : List Value} {e0 e1 e2 e3 : Value} (h : Ty w B t sz v n xs) (hg : w.heap[g]? = some (.cells #[e0, e1, e2, e3] t' (0, 0))) (ht : t' ≠ t) (a b c d : Value) : Ty (put4 w g a b c d) B t sz v n xs := by
  have h1 := (set4 hg a).1
  have h2 := (set4 h1 b).2.1
  have h3 := (set4 h2 c).2.2.1
  exact (((h.set hg ht).set h1 ht).set h2 ht).set h3 ht
theorem put4_below {w W : World} {B g : Nat} (h : Below B w W) (hg : B ≤ g) (a b c d : Value) : Below B w (put4 W g a b c d) :=
  (((h.setCell (p := ⟨g, 0, none⟩) hg a).setCell (p := ⟨g, 1, none⟩) hg b).setCell (p := ⟨g, 2, none⟩) hg c).setCell (p := ⟨g, 3, none⟩) hg d

/-- What an operation on a buffer keeps while it runs. -/
structure BuM (w W : World) (n0 : Int) (d0 p0 g0 : Value) (gb : Nat) (n : Int) (vd vp vg : Value) (d : List Int) (p g : List Wt) : Prop where
  arg : W.heap[w.heap.size]? = some (.cells #[.int .i64 n0, d0, p0, g0] 125 (0, 0))
  res : W.heap[w.heap.size + 1]? = some (.cells #[.int .i64 0, .slice none 0 0, .slice none 0 0, .slice none 0 0] 125 (0, 0))
  ge : w.heap.size + 2 ≤ gb
  obj : W.heap[gb]? = some (.cells #[.int .i64 n, vd, vp, vg] 206 (0, 0))
  td : TyB W (w.heap.size + 2) vd d
  tp : TyW W (w.heap.size + 2) vp p
  tg : TyW W (w.heap.size + 2) vg g
  bel : Below w.heap.size w W
section
variable {w W W' : World} {n0 n : Int} {d0 p0 g0 vd vp vg v' : Value} {gb : Nat} {d d' : List Int} {p g p' g' : List Wt}
theorem BuM.next (m : BuM w W n0 d0 p0 g0 gb n vd vp vg d p g) (hb : Below W.heap.size W W') : BuM w W' n0 d0 p0 g0 gb n vd vp vg d p g :=
  ⟨(hb.block _ (blk_lt m.arg)).trans m.arg, (hb.block _ (blk_lt m.res)).trans m.res, m.ge, (hb.block _ (blk_lt m.obj)).trans m.obj, Ty.below m.td hb, Ty.below m.tp hb, Ty.below m.tg hb, m.bel.trans (hb.mono m.bel.size)⟩
theorem BuM.drew (m : BuM w W n0 d0 p0 g0 gb n vd vp vg d p g) : BuM w W.drew n0 d0 p0 g0 gb n vd vp vg d p g := ⟨m.arg, m.res, m.ge, m.obj, m.td, m.tp, m.tg, m.bel.drew⟩
theorem BuM.drewN (m : BuM w W n0 d0 p0 g0 gb n vd vp vg d p g) (k : Nat) : BuM w (W.drewN k) n0 d0 p0 g0 gb n vd vp vg d p g := ⟨m.arg, m.res, m.ge, m.obj, m.td, m.tp, m.tg, below_drewN' m.bel k⟩
theorem BuM.alloc (m : BuM w W n0 d0 p0 g0 gb n vd vp vg d p g) (o : Obj) : BuM w (W.alloc o) n0 d0 p0 g0 gb n vd vp vg d p g := m.next ((Below.refl _ _).alloc (Nat.le_refl _) _)
theorem BuM.set {j : Nat} {u vd' vp' vg' : Value} (m : BuM w W n0 d0 p0 g0 gb n vd vp vg d p g) (ho : (W.setCell ⟨gb, j, none⟩ u).heap[gb]? = some (.cells #[.int .i64 n, vd', vp', vg'] 206 (0, 0))) (h1 : TyB W (w.heap.size + 2) vd' d') (h2 : TyW W (w.heap.size + 2) vp' p') (h3 : TyW W (w.heap.size + 2) vg' g') : BuM w (W.setCell ⟨gb, j, none⟩ u) n0 d0 p0 g0 gb n vd' vp' vg' d' p' g' := by
  have hg := m.ge
  exact ⟨(Below.heap_setCell _ _ _ _ (by show w.heap.size ≠ gb; omega)).trans m.arg, (Below.heap_setCell _ _ _ _ (by show w.heap.size + 1 ≠ gb; omega)).trans m.res, m.ge, ho, Ty.set h1 m.obj (by decide), Ty.set h2 m.obj (by decide), Ty.set h3 m.obj (by decide), m.bel.setCell (p := ⟨gb, j, none⟩) (by show _ ≤ gb; omega) u⟩
theorem BuM.putD (m : BuM w W n0 d0 p0 g0 gb n vd vp vg d p g) (h : TyB W (w.heap.size + 2) v' d') : BuM w (W.setCell ⟨gb, 1, none⟩ v') n0 d0 p0 g0 gb n v' vp vg d' p g := m.set (set4 m.obj _).2.1 h m.tp m.tg
theorem BuM.putP (m : BuM w W n0 d0 p0 g0 gb n vd vp vg d p g) (h : TyW W (w.heap.size + 2) v' p') : BuM w (W.setCell ⟨gb, 2, none⟩ v') n0 d0 p0 g0 gb n vd v' vg d p' g := m.set (set4 m.obj _).2.2.1 m.td h m.tg
theorem BuM.putG (m : BuM w W n0 d0 p0 g0 gb n vd vp vg d p g) (h : TyW W (w.heap.size + 2) v' g') : BuM w (W.setCell ⟨gb, 3, none⟩ v') n0 d0 p0 g0 gb n vd vp v' d p g' := m.set (set4 m.obj _).2.2.2 m.td m.tp h
theorem BuM.sz (m : BuM w W n0 d0 p0 g0 gb n vd vp vg d p g) : w.heap.size + 2 ≤ W.heap.size := by have h1 := m.ge; have h2 := blk_lt m.obj; omega
theorem BuM.firstG (m : BuM w W n0 d0 p0 g0 gb n vd vp vg d p g) (ho : W'.heap[gb]? = some (.cells ((#[.int .i64 n, vd, vp, vg] : Array Value).setIfInBounds 3 v') 206 (0, 0))) (ht : TyW W' (w.heap.size + 2) v' g') (hg : W.grownBy W' (some gb)) : BuM w W' n0 d0 p0 g0 gb n vd vp v' d p g' := by
  have hge := m.ge
  exact ⟨(hg.block _ (blk_lt m.arg) (by intro e; cases e; omega)).trans m.arg, (hg.block _ (blk_lt m.res) (by intro e; cases e; omega)).trans m.res, m.ge, ho, Ty.grown m.td hg m.obj (by decide), Ty.grown m.tp hg m.obj (by decide), ht, m.bel.grown hg m.bel.size (fun b e => by cases e; omega)⟩
theorem BuM.firstP (m : BuM w W n0 d0 p0 g0 gb n vd vp vg d p g) (ho : W'.heap[gb]? = some (.cells ((#[.int .i64 n, vd, vp, vg] : Array Value).setIfInBounds 2 v') 206 (0, 0))) (ht : TyW W' (w.heap.size + 2) v' p') (hg : W.grownBy W' (some gb)) : BuM w W' n0 d0 p0 g0 gb n vd v' vg d p' g := by
  have hge := m.ge
  exact ⟨(hg.block _ (blk_lt m.arg) (by intro e; cases e; omega)).trans m.arg, (hg.block _ (blk_lt m.res) (by intro e; cases e; omega)).trans m.res, m.ge, ho, Ty.grown m.td hg m.obj (by decide), ht, Ty.grown m.tg hg m.obj (by decide), m.bel.grown hg m.bel.size (fun b e => by cases e; omega)⟩
theorem BuM.store {e : Ending} (m : BuM w W n0 d0 p0 g0 gb n vd vp vg d p g) (h : StoreEnd W gb n vp vg (w.heap.size + 2) d' e W') : ∃ v', e = .returned (.tuple #[]) ∧ BuM w W' n0 d0 p0 g0 gb n v' vp vg d' p g := by
  obtain ⟨v', he, ho, ht, hb, hs, hk⟩ := h
  have hge := m.ge
  have hk2 : ∀ (b : Nat) (cs : Array Value), W.heap[b]? = some (Obj.cells cs 56 (0, 0)) → W'.heap[b]? = some (Obj.cells cs 56 (0, 0)) := fun b cs hc => hk b cs _ _ (by
    rintro rfl
    rw [m.obj] at hc
    simp only [Option.some.injEq, Obj.cells.injEq] at hc
    exact absurd hc.2.1 (by decide)) hc (by decide)
  exact ⟨v', he, hk _ _ _ _ (by omega) m.arg (by decide), hk _ _ _ _ (by omega) m.res (by decide), m.ge, ho, ht, Ty.keep m.tp hk2, Ty.keep m.tg hk2, m.bel.trans (hb.mono (by omega))⟩
theorem BuM.last (m : BuM w W n0 d0 p0 g0 gb n vd vp vg d p g) (a b c e : Value) : TyB (put4 W (w.heap.size + 1) a b c e) w.heap.size vd d ∧ TyW (put4 W (w.heap.size + 1) a b c e) w.heap.size vp p ∧ TyW (put4 W (w.heap.size + 1) a b c e) w.heap.size vg g ∧ Below w.heap.size w (put4 W (w.heap.size + 1) a b c e) :=
  ⟨Ty.mono (Ty.put4 m.td m.res (by decide) a b c e) (by omega), Ty.mono (Ty.put4 m.tp m.res (by decide) a b c e) (by omega), Ty.mono (Ty.put4 m.tg m.res (by decide) a b c e) (by omega), put4_below m.bel (by omega) a b c e⟩
theorem BuM.fin (m : BuM w W n0 d0 p0 g0 gb n vd vp vg d p g) (hd : d = d') (hp : p = p') (hg : g = g') (a b c e : Value) : TyB (put4 W (w.heap.size + 1) a b c e) w.heap.size vd d' ∧ TyW (put4 W (w.heap.size + 1) a b c e) w.heap.size vp p' ∧ TyW (put4 W (w.heap.size + 1) a b c e) w.heap.size vg g' ∧ Below w.heap.size w (put4 W (w.heap.size + 1) a b c e) := by
  subst hd hp hg
  exact m.last a b c e
theorem BuM.finA (m : BuM w W n0 d0 p0 g0 gb n vd vp vg d p g) (hd : d = d') (hp : p = p') (hg : g = g') (a b c e : Value) (X : Obj) : TyB ((put4 W (w.heap.size + 1) a b c e).alloc X).drew w.heap.size vd d' ∧ TyW ((put4 W (w.heap.size + 1) a b c e).alloc X).drew w.heap.size vp p' ∧ TyW ((put4 W (w.heap.size + 1) a b c e).alloc X).drew w.heap.size vg g' ∧ Below w.heap.size w ((put4 W (w.heap.size + 1) a b c e).alloc X).drew := by
  obtain ⟨h1, h2, h3, h4⟩ := m.fin hd hp hg a b c e
  exact ⟨Ty.alloc h1 X, Ty.alloc h2 X, Ty.alloc h3 X, (h4.alloc h4.size X).drew⟩
theorem BuM.finD (m : BuM w W n0 d0 p0 g0 gb n vd vp vg d p g) (hd : d = d') (hp : p = p') (hg : g = g') (a b c e : Value) : TyB (put4 W (w.heap.size + 1) a b c e).drew w.heap.size vd d' ∧ TyW (put4 W (w.heap.size + 1) a b c e).drew w.heap.size vp p' ∧ TyW (put4 W (w.heap.size + 1) a b c e).drew w.heap.size vg g' ∧ Below w.heap.size w (put4 W (w.heap.size + 1) a b c e).drew := by
  obtain ⟨h1, h2, h3, h4⟩ := m.fin hd hp hg a b c e
  exact ⟨Ty.drew h1, Ty.drew h2, Ty.drew h3, h4.drew⟩
theorem BuM.new {W0 : World} (hW0 : W0 = (w.alloc (.cells #[.int .i64 n0, d0, p0, g0] 125)).alloc (.cells #[.int .i64 0, .slice none 0 0, .slice none 0 0, .slice none 0 0] 125)) (hge : W0.heap.size ≤ gb) (ho : W.heap[gb]? = some (.cells #[.int .i64 n, vd, vp, vg] 206 (0, 0))) (h1 : TyB W W0.heap.size vd d) (h2 : TyW W W0.heap.size vp p) (h3 : TyW W W0.heap.size vg g) (hb : Below W0.heap.size W0 W) : BuM w W n0 d0 p0 g0 gb n vd vp vg d p g := by
  have hz : W0.heap.size = w.heap.size + 2 := by subst hW0; simp
  have e1 : W0.heap[w.heap.size]? = some (.cells #[.int .i64 n0, d0, p0, g0] 125 (0, 0)) := by subst hW0; exact (Below.heap_alloc _ _ _ (by simp)).trans (heap_alloc_new w _)
  have e2 : W0.heap[w.heap.size + 1]? = some (.cells #[.int .i64 0, .slice none 0 0, .slice none 0 0, .slice none 0 0] 125 (0, 0)) := by subst hW0; exact allocBu2 w _ _
  have e3 : Below w.heap.size w W0 := by subst hW0; exact ((Below.refl _ w).alloc (Nat.le_refl _) _).alloc (by simp) _
  rw [hz] at h1 h2 h3 hge
  exact ⟨(hb.block _ (by omega)).trans e1, (hb.block _ (by omega)).trans e2, hge, ho, h1, h2, h3, e3.trans (hb.mono e3.size)⟩
end
theorem TyB.tail0 {w : World} {B b off c : Nat} {x : Int} {m l : List Int} (h : TyB w B (.slice (some ⟨b, off, none⟩) l.length c) l) (hl : l = x :: m) (hc : c = 1) : TyB w B (.slice (some ⟨b, off, none⟩) 0 0) m := by
  have h1 := h.tail1 hl hc
  obtain ⟨_, cap, hv, h2, _⟩ := h
  simp only [Value.slice.injEq] at hv
  rw [show l.length - 1 = 0 by omega] at h1
  exact h1
theorem TyB.head {w : World} {B : Nat} {a : Option Addr} {c : Nat} {y : Int} {t l : List Int} (h : TyB w B (.slice a l.length c) l) (hl : l = y :: t) : ∃ b off, a = some ⟨b, off, none⟩ ∧ 1 ≤ l.length ∧ l.length ≤ c ∧ b < w.heap.size ∧ w.cell? ⟨b, off, none⟩ = some (.int .u8 y) := by
  subst hl
  obtain ⟨ao, cap, hv, h1, h2, h3, hp⟩ := h
  simp only [Value.slice.injEq] at hv
  obtain ⟨rfl, _, rfl⟩ := hv
  obtain ⟨b, off, cs, rfl, hB, hb, hc, hx⟩ := hp (by simp at h1; omega)
  refine ⟨b, off, rfl, by simp, h1, blk_lt hb, ?_⟩
  rw [cell_of_row w _ _ _ _ _ hb]
  exact hx 0 _ rfl
theorem nil_or {α : Type} (l : List α) : l = [] ∨ ∃ x m, l = x :: m := by
  cases l with
  | nil => exact .inl rfl
  | cons x m => exact .inr ⟨x, m, rfl⟩

set_option maxHeartbeats 4000000 in
set_option maxRecDepth 100000 in
theorem putBu_c (n : Int) (q r v : Int) (vd vp vg : Value) (d : List Int) (p g : List Wt) (w : World) (hd : RdI .u8 w 0 vd d) (hp : RdW w 0 vp p) (hg : RdW w 0 vg g) (wp : WfW p) (wg : WfW g) (hdl : d.length ≤ 40000) (hpl : p.length ≤ 40000) (hgl : g.length ≤ 40000) :
    Calls Try.prog 68 #[.agg #[.int .i64 n, vd, vp, vg], .int .i64 q, .int .i64 r, .int .u8 v] w (RBu3 w n (putBu n d p g q r v).1 (putBu n d p g q r v).2.1 (putBu n d p g q r v).2.2.1 (.bool (putBu n d p g q r v).2.2.2.1) (.int .i64 (putBu n d p g q r v).2.2.2.2.1) (.int .i64 (putBu n d p g q r v).2.2.2.2.2)) := by
  obtain ⟨ad, cd, rfl, _, _, _⟩ := hd.open_
  obtain ⟨ap, cp, rfl, _, _, _⟩ := hp.open_
  obtain ⟨ag, cg, rfl, _, _, _⟩ := hg.open_
  obtain ⟨W0, hW0⟩ : ∃ W0, W0 = (w.alloc (.cells #[.int .i64 n, .slice ad d.length cd, .slice ap p.length cp, .slice ag g.length cg] 125)).alloc (.cells #[.int .i64 0, .slice none 0 0, .slice none 0 0, .slice none 0 0] 125) := ⟨_, rfl⟩
  have B0 : Hid (Below w.heap.size w W0) := by subst hW0; exact ((Below.refl _ w).alloc (Nat.le_refl _) _).alloc (by simp) _
  have HD := Lib.hid (hd.below B0.out)
  have HP := Lib.hid (hp.below B0.out)
  have HG := Lib.hid (hg.below B0.out)
  have WP := Lib.hid wp
  have WG := Lib.hid wg
  have HW0 := Lib.hid hW0
  clear hd hp hg wp wg hW0
  cases k1 : (vldBu n d p g && mayB p g q) with
  | false =>
    rw [put_bad k1]
    have K1 := Lib.hid k1
    clear k1
    go_enter Try.func68, Try.ntmps68
    go_wp2_with fail
    rw [← HW0.out]
    refine (openBu_c n q _ _ _ d p g W0 HD.out HP.out HG.out WP.out WG.out hdl hpl hgl).mono ?_
    rintro e w1 ⟨gb, vd1, vp1, vg1, rfl, hge, hobj, td1, tp1, tg1, b1⟩
    obtain ⟨a1, c1, rfl⟩ := Ty.shape td1
    obtain ⟨a2, c2, rfl⟩ := Ty.shape tp1
    obtain ⟨a3, c3, rfl⟩ := Ty.shape tg1
    rw [K1.out]
    have M1 := Lib.hid (BuM.new HW0.out hge hobj td1 tp1 tg1 b1)
    clear hge hobj td1 tp1 tg1 b1
    obtain ⟨x0, x1, x2, x3, x4, x5, x6, x7⟩ := fourBlk M1.out.arg
    obtain ⟨r0, r1, r2, r3, r4, r5, r6, r7⟩ := fourBlk M1.out.res
    obtain ⟨o0, o1, o2, o3, o4, o5, o6, o7⟩ := fourBlk M1.out.obj
    have has := blk_lt M1.out.arg
    have hrs := blk_lt M1.out.res
    have hos := blk_lt M1.out.obj
    have hge := M1.out.ge
    have hn1 : gb ≠ w.heap.size + 1 := by omega
    have hn2 : w.heap.size + 1 ≠ gb := by omega
    go_wp2_with fail
    refine bodyPost_ret (v := .tuple #[.agg #[.int .i64 n, .slice a1 d.length c1, .slice a2 p.length c2, .slice a3 g.length c3], .bool false, .int .i64 (-1), .int .i64 2]) (by simp [results, Try.results68, go_sem, r0, r1, r2, r3]) rfl ?_
    exact ⟨_, _, _, rfl, M1.out.last _ _ _ _⟩
  | true =>
    have K1 := Lib.hid k1
    rcases nil_or g with hg0 | ⟨x, m, hg1⟩
    · have HG0 := Lib.hid hg0
      clear hg0
      by_cases hl : (d.length : Int) < n
      · rw [put_store k1 HG0.out hl]
        clear k1
        go_enter Try.func68, Try.ntmps68
        go_wp2_with fail
        rw [← HW0.out]
        refine (openBu_c n q _ _ _ d p g W0 HD.out HP.out HG.out WP.out WG.out hdl hpl hgl).mono ?_
        rintro e w1 ⟨gb, vd1, vp1, vg1, rfl, hge, hobj, td1, tp1, tg1, b1⟩
        obtain ⟨a1, c1, rfl⟩ := Ty.shape td1
        obtain ⟨a2, c2, rfl⟩ := Ty.shape tp1
        obtain ⟨a3, c3, rfl⟩ := Ty.shape tg1
        rw [K1.out]
        have M1 := Lib.hid (BuM.new HW0.out hge hobj td1 tp1 tg1 b1)
        clear hge hobj td1 tp1 tg1 b1
        obtain ⟨x0, x1, x2, x3, x4, x5, x6, x7⟩ := fourBlk M1.out.arg
        obtain ⟨r0, r1, r2, r3, r4, r5, r6, r7⟩ := fourBlk M1.out.res
        obtain ⟨o0, o1, o2, o3, o4, o5, o6, o7⟩ := fourBlk M1.out.obj
        have has := blk_lt M1.out.arg
        have hrs := blk_lt M1.out.res
        have hos := blk_lt M1.out.obj
        have hge := M1.out.ge
        have hn1 : gb ≠ w.heap.size + 1 := by omega
        have hn2 : w.heap.size + 1 ≠ gb := by omega
        go_wp2_with fail
        refine (first_nil gb 3 _ (w.heap.size + 2) _ w1 M1.out.obj rfl (HG0.out ▸ M1.out.tg)).mono ?_
        rintro e w2 ⟨rfl, b2⟩
        have M2 := Lib.hid ((M1.out.next b2).alloc (.cells #[.int .i64 (-1), .int .i64 0, .int .u8 0] 56))
        have M2b := Lib.hid (M1.out.next b2)
        clear b2 M1
        clear x0 x1 x2 x3 x4 x5 x6 x7 r0 r1 r2 r3 r4 r5 r6 r7 o0 o1 o2 o3 o4 o5 o6 o7 has hrs hos hge hn1 hn2
        obtain ⟨x0, x1, x2, x3, x4, x5, x6, x7⟩ := fourBlk M2b.out.arg
        obtain ⟨r0, r1, r2, r3, r4, r5, r6, r7⟩ := fourBlk M2b.out.res
        obtain ⟨o0, o1, o2, o3, o4, o5, o6, o7⟩ := fourBlk M2b.out.obj
        have has := blk_lt M2b.out.arg
        have hrs := blk_lt M2b.out.res
        have hos := blk_lt M2b.out.obj
        have hge := M2b.out.ge
        have hn1 : gb ≠ w.heap.size + 1 := by omega
        have hn2 : w.heap.size + 1 ≠ gb := by omega
        clear M2b
        go_wp2_with fail
        go_quiet (fail)
        go_wp2_with fail
        refine (store_c gb n v _ _ _ (w.heap.size + 2) d _ (M2.out.drewN _).obj (M2.out.drewN _).td M2.out.ge (by omega)).mono ?_
        rintro e w3 hs
        obtain ⟨v3, rfl, hm3⟩ := (M2.out.drewN _).store hs
        obtain ⟨a4, c4, rfl⟩ := Ty.shape hm3.td
        have M3 := Lib.hid hm3
        clear hs hm3 M2
        clear x0 x1 x2 x3 x4 x5 x6 x7 r0 r1 r2 r3 r4 r5 r6 r7 o0 o1 o2 o3 o4 o5 o6 o7 has hrs hos hge hn1 hn2
        obtain ⟨x0, x1, x2, x3, x4, x5, x6, x7⟩ := fourBlk M3.out.arg
        obtain ⟨r0, r1, r2, r3, r4, r5, r6, r7⟩ := fourBlk M3.out.res
        obtain ⟨o0, o1, o2, o3, o4, o5, o6, o7⟩ := fourBlk M3.out.obj
        have has := blk_lt M3.out.arg
        have hrs := blk_lt M3.out.res
        have hos := blk_lt M3.out.obj
        have hge := M3.out.ge
        have hn1 : gb ≠ w.heap.size + 1 := by omega
        have hn2 : w.heap.size + 1 ≠ gb := by omega
        generalize (d ++ [v]).length = m4 at M3 o1 ⊢
        go_wp2_with fail
        refine bodyPost_ret (v := .tuple #[.agg #[.int .i64 n, .slice a4 m4 c4, .slice a2 p.length c2, .slice a3 g.length c3], .bool true, .int .i64 (-1), .int .i64 0]) (by simp [results, Try.results68, go_sem, r0, r1, r2, r3]) rfl ?_
        exact ⟨_, _, _, rfl, M3.out.fin rfl rfl HG0.out _ _ _ _⟩
      · rw [put_wait k1 HG0.out hl]
        clear k1
        go_enter Try.func68, Try.ntmps68
        go_wp2_with fail
        rw [← HW0.out]
        refine (openBu_c n q _ _ _ d p g W0 HD.out HP.out HG.out WP.out WG.out hdl hpl hgl).mono ?_
        rintro e w1 ⟨gb, vd1, vp1, vg1, rfl, hge, hobj, td1, tp1, tg1, b1⟩
        obtain ⟨a1, c1, rfl⟩ := Ty.shape td1
        obtain ⟨a2, c2, rfl⟩ := Ty.shape tp1
        obtain ⟨a3, c3, rfl⟩ := Ty.shape tg1
        rw [K1.out]
        have M1 := Lib.hid (BuM.new HW0.out hge hobj td1 tp1 tg1 b1)
        clear hge hobj td1 tp1 tg1 b1
        obtain ⟨x0, x1, x2, x3, x4, x5, x6, x7⟩ := fourBlk M1.out.arg
        obtain ⟨r0, r1, r2, r3, r4, r5, r6, r7⟩ := fourBlk M1.out.res
        obtain ⟨o0, o1, o2, o3, o4, o5, o6, o7⟩ := fourBlk M1.out.obj
        have has := blk_lt M1.out.arg
        have hrs := blk_lt M1.out.res
        have hos := blk_lt M1.out.obj
        have hge := M1.out.ge
        have hn1 : gb ≠ w.heap.size + 1 := by omega
        have hn2 : w.heap.size + 1 ≠ gb := by omega
        go_wp2_with fail
        refine (first_nil gb 3 _ (w.heap.size + 2) _ w1 M1.out.obj rfl (HG0.out ▸ M1.out.tg)).mono ?_
        rintro e w2 ⟨rfl, b2⟩
        have M2 := Lib.hid ((M1.out.next b2).alloc (.cells #[.int .i64 (-1), .int .i64 0, .int .u8 0] 56))
        have M2b := Lib.hid (M1.out.next b2)
        clear b2 M1
        clear x0 x1 x2 x3 x4 x5 x6 x7 r0 r1 r2 r3 r4 r5 r6 r7 o0 o1 o2 o3 o4 o5 o6 o7 has hrs hos hge hn1 hn2
        obtain ⟨x0, x1, x2, x3, x4, x5, x6, x7⟩ := fourBlk M2b.out.arg
        obtain ⟨r0, r1, r2, r3, r4, r5, r6, r7⟩ := fourBlk M2b.out.res
        obtain ⟨o0, o1, o2, o3, o4, o5, o6, o7⟩ := fourBlk M2b.out.obj
        have has := blk_lt M2b.out.arg
        have hrs := blk_lt M2b.out.res
        have hos := blk_lt M2b.out.obj
        have hge := M2b.out.ge
        have hn1 : gb ≠ w.heap.size + 1 := by omega
        have hn2 : w.heap.size + 1 ≠ gb := by omega
        clear M2b
        go_wp2_with fail
        go_quiet (fail)
        go_wp2_with fail
        refine (enterW_c _ p ⟨q, r, v⟩ _ (M2.out.drewN _).tp.rd (by omega)).mono ?_
        rintro e w3 ⟨v3, rfl, ho3, hb3⟩
        obtain ⟨a4, c4, rfl⟩ := own_slice ho3
        have M2c := Lib.hid ((M2.out.drewN _).next hb3)
        have M3 := Lib.hid (M2c.out.putP (Ty.mono (Ty.of_own ho3) (M2.out.drewN _).sz))
        clear ho3 hb3 M2
        clear x0 x1 x2 x3 x4 x5 x6 x7 r0 r1 r2 r3 r4 r5 r6 r7 o0 o1 o2 o3 o4 o5 o6 o7 has hrs hos hge hn1 hn2
        obtain ⟨x0, x1, x2, x3, x4, x5, x6, x7⟩ := fourBlk M2c.out.arg
        obtain ⟨r0, r1, r2, r3, r4, r5, r6, r7⟩ := fourBlk M2c.out.res
        obtain ⟨o0, o1, o2, o3, o4, o5, o6, o7⟩ := fourBlk M2c.out.obj
        have has := blk_lt M2c.out.arg
        have hrs := blk_lt M2c.out.res
        have hos := blk_lt M2c.out.obj
        have hge := M2c.out.ge
        have hn1 : gb ≠ w.heap.size + 1 := by omega
        have hn2 : w.heap.size + 1 ≠ gb := by omega
        clear M2c
        generalize (enterW p ⟨q, r, v⟩).length = m4 at M3 ⊢
        go_wp2_with fail
        refine bodyPost_ret (v := .tuple #[.agg #[.int .i64 n, .slice a1 d.length c1, .slice a4 m4 c4, .slice a3 g.length c3], .bool false, .int .i64 (-1), .int .i64 0]) (by simp [results, Try.results68, go_sem, r0, r1, r2, r3]) rfl ?_
        exact ⟨_, _, _, rfl, M3.out.fin rfl rfl HG0.out _ _ _ _⟩
    · have HG1 := Lib.hid hg1
      clear hg1
      rw [put_wake k1 HG1.out]
      clear k1
      go_enter Try.func68, Try.ntmps68
      go_wp2_with fail
      rw [← HW0.out]
      refine (openBu_c n q _ _ _ d p g W0 HD.out HP.out HG.out WP.out WG.out hdl hpl hgl).mono ?_
      rintro e w1 ⟨gb, vd1, vp1, vg1, rfl, hge, hobj, td1, tp1, tg1, b1⟩
      obtain ⟨a1, c1, rfl⟩ := Ty.shape td1
      obtain ⟨a2, c2, rfl⟩ := Ty.shape tp1
      obtain ⟨a3, c3, rfl⟩ := Ty.shape tg1
      rw [K1.out]
      have M1 := Lib.hid (BuM.new HW0.out hge hobj td1 tp1 tg1 b1)
      clear hge hobj td1 tp1 tg1 b1
      obtain ⟨x0, x1, x2, x3, x4, x5, x6, x7⟩ := fourBlk M1.out.arg
      obtain ⟨r0, r1, r2, r3, r4, r5, r6, r7⟩ := fourBlk M1.out.res
      obtain ⟨o0, o1, o2, o3, o4, o5, o6, o7⟩ := fourBlk M1.out.obj
      have has := blk_lt M1.out.arg
      have hrs := blk_lt M1.out.res
      have hos := blk_lt M1.out.obj
      have hge := M1.out.ge
      have hn1 : gb ≠ w.heap.size + 1 := by omega
      have hn2 : w.heap.size + 1 ≠ gb := by omega
      go_wp2_with fail
      refine (first_cons gb 3 _ (w.heap.size + 2) _ x m w1 M1.out.obj rfl (HG1.out ▸ M1.out.tg)).mono ?_
      rintro e w2 ⟨v4, rfl, ho, ht, hgr⟩
      obtain ⟨a4, c4, rfl⟩ := Ty.shape ht
      have M2 := Lib.hid (M1.out.firstG ho ht hgr)
      clear ho ht hgr M1
      clear x0 x1 x2 x3 x4 x5 x6 x7 r0 r1 r2 r3 r4 r5 r6 r7 o0 o1 o2 o3 o4 o5 o6 o7 has hrs hos hge hn1 hn2
      obtain ⟨x0, x1, x2, x3, x4, x5, x6, x7⟩ := fourBlk M2.out.arg
      obtain ⟨r0, r1, r2, r3, r4, r5, r6, r7⟩ := fourBlk M2.out.res
      obtain ⟨o0, o1, o2, o3, o4, o5, o6, o7⟩ := fourBlk M2.out.obj
      have has := blk_lt M2.out.arg
      have hrs := blk_lt M2.out.res
      have hos := blk_lt M2.out.obj
      have hge := M2.out.ge
      have hn1 : gb ≠ w.heap.size + 1 := by omega
      have hn2 : w.heap.size + 1 ≠ gb := by omega
      generalize m.length = m4 at M2 o3 ⊢
      go_wp2_with fail
      go_region
      all_goals
        go_wp2_with fail
        refine bodyPost_ret (v := .tuple #[.agg #[.int .i64 n, .slice a1 d.length c1, .slice a2 p.length c2, .slice a4 m4 c4], .bool true, .int .i64 x.proc, .int .i64 0]) (by simp [results, Try.results68, go_sem, r0, r1, r2, r3, hrs]) rfl ?_
        exact ⟨_, _, _, rfl, M2.out.finA rfl rfl rfl _ _ _ _ _⟩

set_option maxHeartbeats 4000000 in
set_option maxRecDepth 100000 in
theorem cancBu_c (n : Int) (q : Int) (vd vp vg : Value) (d : List Int) (p g : List Wt) (w : World) (hd : RdI .u8 w 0 vd d) (hp : RdW w 0 vp p) (hg : RdW w 0 vg g) (wp : WfW p) (wg : WfW g) (hdl : d.length ≤ 40000) (hpl : p.length ≤ 40000) (hgl : g.length ≤ 40000) :
    Calls Try.prog 78 #[.agg #[.int .i64 n, vd, vp, vg], .int .i64 q] w (RBu1 w n d (cancBu n d p g q).1 (cancBu n d p g q).2.1 (.int .i64 (cancBu n d p g q).2.2)) := by
  obtain ⟨ad, cd, rfl, _, _, _⟩ := hd.open_
  obtain ⟨ap, cp, rfl, _, _, _⟩ := hp.open_
  obtain ⟨ag, cg, rfl, _, _, _⟩ := hg.open_
  obtain ⟨W0, hW0⟩ : ∃ W0, W0 = (w.alloc (.cells #[.int .i64 n, .slice ad d.length cd, .slice ap p.length cp, .slice ag g.length cg] 125)).alloc (.cells #[.int .i64 0, .slice none 0 0, .slice none 0 0, .slice none 0 0] 125) := ⟨_, rfl⟩
  have B0 : Hid (Below w.heap.size w W0) := by subst hW0; exact ((Below.refl _ w).alloc (Nat.le_refl _) _).alloc (by simp) _
  have HD := Lib.hid (hd.below B0.out)
  have HP := Lib.hid (hp.below B0.out)
  have HG := Lib.hid (hg.below B0.out)
  have WP := Lib.hid wp
  have WG := Lib.hid wg
  have HW0 := Lib.hid hW0
  clear hd hp hg wp wg hW0
  cases k1 : vldBu n d p g with
  | false =>
    rw [show cancBu n d p g q = (p, g, 2) by simp [cancBu, k1]]
    have K1 := Lib.hid k1
    clear k1
    go_enter Try.func78, Try.ntmps78
    go_wp2_with fail
    rw [← HW0.out]
    refine (openBu_c n q _ _ _ d p g W0 HD.out HP.out HG.out WP.out WG.out hdl hpl hgl).mono ?_
    rintro e w1 ⟨gb, vd1, vp1, vg1, rfl, hge, hobj, td1, tp1, tg1, b1⟩
    obtain ⟨a1, c1, rfl⟩ := Ty.shape td1
    obtain ⟨a2, c2, rfl⟩ := Ty.shape tp1
    obtain ⟨a3, c3, rfl⟩ := Ty.shape tg1
    have M1 := Lib.hid (BuM.new HW0.out hge hobj td1 tp1 tg1 b1)
    have B1 := Lib.hid b1
    generalize (vldBu n d p g && mayB p g q) = okk
    clear hge hobj td1 tp1 tg1 b1
    obtain ⟨x0, x1, x2, x3, x4, x5, x6, x7⟩ := fourBlk M1.out.arg
    obtain ⟨r0, r1, r2, r3, r4, r5, r6, r7⟩ := fourBlk M1.out.res
    obtain ⟨o0, o1, o2, o3, o4, o5, o6, o7⟩ := fourBlk M1.out.obj
    have has := blk_lt M1.out.arg
    have hrs := blk_lt M1.out.res
    have hos := blk_lt M1.out.obj
    have hge := M1.out.ge
    have hn1 : gb ≠ w.heap.size + 1 := by omega
    have hn2 : w.heap.size + 1 ≠ gb := by omega
    go_wp2_with fail
    have hv := validBu_c n _ _ _ d p g w1 (HD.out.below B1.out) (HP.out.below B1.out) (HG.out.below B1.out) WP.out WG.out (by omega) (by omega)
    rw [K1.out] at hv
    refine hv.mono ?_
    clear hv
    rintro e w2 ⟨rfl, b2⟩
    have M2 := Lib.hid (M1.out.next b2)
    clear b2 M1
    clear x0 x1 x2 x3 x4 x5 x6 x7 r0 r1 r2 r3 r4 r5 r6 r7 o0 o1 o2 o3 o4 o5 o6 o7 has hrs hos hge hn1 hn2
    obtain ⟨x0, x1, x2, x3, x4, x5, x6, x7⟩ := fourBlk M2.out.arg
    obtain ⟨r0, r1, r2, r3, r4, r5, r6, r7⟩ := fourBlk M2.out.res
    obtain ⟨o0, o1, o2, o3, o4, o5, o6, o7⟩ := fourBlk M2.out.obj
    have has := blk_lt M2.out.arg
    have hrs := blk_lt M2.out.res
    have hos := blk_lt M2.out.obj
    have hge := M2.out.ge
    have hn1 : gb ≠ w.heap.size + 1 := by omega
    have hn2 : w.heap.size + 1 ≠ gb := by omega
    go_wp2_with fail
    refine bodyPost_ret (v := .tuple #[.agg #[.int .i64 n, .slice a1 d.length c1, .slice a2 p.length c2, .slice a3 g.length c3], .int .i64 2]) (by simp [results, Try.results78, go_sem, r0, r1, r2, r3]) rfl ?_
    exact ⟨_, _, _, rfl, M2.out.last _ _ _ _⟩
  | true =>
    rw [show cancBu n d p g q = (leaveW p q, leaveW g q, 0) by simp [cancBu, k1]]
    have K1 := Lib.hid k1
    clear k1
    go_enter Try.func78, Try.ntmps78
    go_wp2_with fail
    rw [← HW0.out]
    refine (openBu_c n q _ _ _ d p g W0 HD.out HP.out HG.out WP.out WG.out hdl hpl hgl).mono ?_
    rintro e w1 ⟨gb, vd1, vp1, vg1, rfl, hge, hobj, td1, tp1, tg1, b1⟩
    obtain ⟨a1, c1, rfl⟩ := Ty.shape td1
    obtain ⟨a2, c2, rfl⟩ := Ty.shape tp1
    obtain ⟨a3, c3, rfl⟩ := Ty.shape tg1
    have M1 := Lib.hid (BuM.new HW0.out hge hobj td1 tp1 tg1 b1)
    have B1 := Lib.hid b1
    generalize (vldBu n d p g && mayB p g q) = okk
    clear hge hobj td1 tp1 tg1 b1
    obtain ⟨x0, x1, x2, x3, x4, x5, x6, x7⟩ := fourBlk M1.out.arg
    obtain ⟨r0, r1, r2, r3, r4, r5, r6, r7⟩ := fourBlk M1.out.res
    obtain ⟨o0, o1, o2, o3, o4, o5, o6, o7⟩ := fourBlk M1.out.obj
    have has := blk_lt M1.out.arg
    have hrs := blk_lt M1.out.res
    have hos := blk_lt M1.out.obj
    have hge := M1.out.ge
    have hn1 : gb ≠ w.heap.size + 1 := by omega
    have hn2 : w.heap.size + 1 ≠ gb := by omega
    go_wp2_with fail
    have hv := validBu_c n _ _ _ d p g w1 (HD.out.below B1.out) (HP.out.below B1.out) (HG.out.below B1.out) WP.out WG.out (by omega) (by omega)
    rw [K1.out] at hv
    refine hv.mono ?_
    clear hv
    rintro e w2 ⟨rfl, b2⟩
    have M2 := Lib.hid (M1.out.next b2)
    clear b2 M1
    clear x0 x1 x2 x3 x4 x5 x6 x7 r0 r1 r2 r3 r4 r5 r6 r7 o0 o1 o2 o3 o4 o5 o6 o7 has hrs hos hge hn1 hn2
    obtain ⟨x0, x1, x2, x3, x4, x5, x6, x7⟩ := fourBlk M2.out.arg
    obtain ⟨r0, r1, r2, r3, r4, r5, r6, r7⟩ := fourBlk M2.out.res
    obtain ⟨o0, o1, o2, o3, o4, o5, o6, o7⟩ := fourBlk M2.out.obj
    have has := blk_lt M2.out.arg
    have hrs := blk_lt M2.out.res
    have hos := blk_lt M2.out.obj
    have hge := M2.out.ge
    have hn1 : gb ≠ w.heap.size + 1 := by omega
    have hn2 : w.heap.size + 1 ≠ gb := by omega
    go_upto_region 4 with (fail)
    go_cut [26] (fun _ wx => ∃ (a4 : Option Addr) (m4 c4 : Nat) (a5 : Option Addr) (m5 c5 : Nat), Aside (BuM w wx n (.slice ad d.length cd) (.slice ap p.length cp) (.slice ag g.length cg) gb n (.slice a1 d.length c1) (.slice a4 m4 c4) (.slice a5 m5 c5) d (leaveW p q) (leaveW g q)))
    case first =>
      go_region_with (first
          | (go_at_call_of 40 (Value.slice a2 p.length c2); (refine (leaveW_c _ p q _ (by exact M2.out.tp.rd) (by omega)).mono ?_); rintro e w3 ⟨v3, rfl, o3, b3⟩; replace b3 : Below w2.heap.size w2 w3 := (by first | exact b3 | exact below_un b3); replace o3 : w3.ownsRow w2.heap.size 56 3 v3 (leaveW p q).length (cellsW (leaveW p q)) := o3; obtain ⟨a4, c4, rfl⟩ := own_slice o3; have T3 : Hid (TyW w3 (w.heap.size + 2) (.slice a4 (leaveW p q).length c4) (leaveW p q)) := Ty.mono (Ty.of_own o3) M2.out.sz; have M3 := Lib.hid (M2.out.next b3); obtain ⟨y0, y1, y2, y3, y4, y5, y6, y7⟩ := fourBlk M3.out.obj; have hs3 := blk_lt M3.out.obj; clear o3 b3)
          | (go_at_call_of 40 (Value.slice a3 g.length c3); (refine (leaveW_c _ g q _ (by exact M3.out.tg.rd) (by omega)).mono ?_); rintro e w4 ⟨v4, rfl, o4, b4⟩; replace b4 : Below w3.heap.size w3 w4 := (by first | exact b4 | exact below_un b4); replace o4 : w4.ownsRow w3.heap.size 56 3 v4 (leaveW g q).length (cellsW (leaveW g q)) := o4; obtain ⟨a5, c5, rfl⟩ := own_slice o4; have T4 : Hid (TyW w4 (w.heap.size + 2) (.slice a5 (leaveW g q).length c5) (leaveW g q)) := Ty.mono (Ty.of_own o4) M3.out.sz; have T34 : Hid (TyW w4 (w.heap.size + 2) (.slice a4 (leaveW p q).length c4) (leaveW p q)) := Ty.below T3.out b4; have M4 := Lib.hid (M3.out.next b4); obtain ⟨z0, z1, z2, z3, z4, z5, z6, z7⟩ := fourBlk M4.out.obj; have hs4 := blk_lt M4.out.obj; clear o4 b4))
      all_goals
        go_wp2_with fail
        go_meet
        exact ⟨_, _, _, _, _, _, (M4.out.putP T34.out).putG (Ty.set T4.out M4.out.obj (by decide))⟩
    case rest =>
      obtain ⟨a4, m4, c4, a5, m5, c5, A⟩ := hcut
      have M5 := Lib.hid A.out
      clear A M2
      clear x0 x1 x2 x3 x4 x5 x6 x7 r0 r1 r2 r3 r4 r5 r6 r7 o0 o1 o2 o3 o4 o5 o6 o7 has hrs hos hge hn1 hn2
      obtain ⟨x0, x1, x2, x3, x4, x5, x6, x7⟩ := fourBlk M5.out.arg
      obtain ⟨r0, r1, r2, r3, r4, r5, r6, r7⟩ := fourBlk M5.out.res
      obtain ⟨o0, o1, o2, o3, o4, o5, o6, o7⟩ := fourBlk M5.out.obj
      have has := blk_lt M5.out.arg
      have hrs := blk_lt M5.out.res
      have hos := blk_lt M5.out.obj
      have hge := M5.out.ge
      have hn1 : gb ≠ w.heap.size + 1 := by omega
      have hn2 : w.heap.size + 1 ≠ gb := by omega
      go_wp2_with fail
      refine bodyPost_ret (v := .tuple #[.agg #[.int .i64 n, .slice a1 d.length c1, .slice a4 m4 c4, .slice a5 m5 c5], .int .i64 0]) (by simp [results, Try.results78, go_sem, r0, r1, r2, r3]) rfl ?_
      exact ⟨_, _, _, rfl, M5.out.last _ _ _ _⟩

set_option maxHeartbeats 4000000 in
set_option maxRecDepth 100000 in
theorem getBu_c (n : Int) (q r : Int) (vd vp vg : Value) (d : List Int) (p g : List Wt) (w : World) (hd : RdI .u8 w 0 vd d) (hp : RdW w 0 vp p) (hg : RdW w 0 vg g) (wp : WfW p) (wg : WfW g) (hdl : d.length ≤ 40000) (hpl : p.length ≤ 40000) (hgl : g.length ≤ 40000) :
    Calls Try.prog 69 #[.agg #[.int .i64 n, vd, vp, vg], .int .i64 q, .int .i64 r] w (RBu4 w n (getBu n d p g q r).1 (getBu n d p g q r).2.1 (getBu n d p g q r).2.2.1 (.int .u8 (getBu n d p g q r).2.2.2.1) (.bool (getBu n d p g q r).2.2.2.2.1) (.int .i64 (getBu n d p g q r).2.2.2.2.2.1) (.int .i64 (getBu n d p g q r).2.2.2.2.2.2)) := by
  obtain ⟨ad, cd, rfl, _, _, _⟩ := hd.open_
  obtain ⟨ap, cp, rfl, _, _, _⟩ := hp.open_
  obtain ⟨ag, cg, rfl, _, _, _⟩ := hg.open_
  obtain ⟨W0, hW0⟩ : ∃ W0, W0 = (w.alloc (.cells #[.int .i64 n, .slice ad d.length cd, .slice ap p.length cp, .slice ag g.length cg] 125)).alloc (.cells #[.int .i64 0, .slice none 0 0, .slice none 0 0, .slice none 0 0] 125) := ⟨_, rfl⟩
  have B0 : Hid (Below w.heap.size w W0) := by subst hW0; exact ((Below.refl _ w).alloc (Nat.le_refl _) _).alloc (by simp) _
  have HD := Lib.hid (hd.below B0.out)
  have HP := Lib.hid (hp.below B0.out)
  have HG := Lib.hid (hg.below B0.out)
  have WP := Lib.hid wp
  have WG := Lib.hid wg
  have HW0 := Lib.hid hW0
  clear hd hp hg wp wg hW0
  cases k1 : (vldBu n d p g && mayB p g q) with
  | false =>
    rw [get_bad k1]
    have K1 := Lib.hid k1
    clear k1
    go_enter Try.func69, Try.ntmps69
    go_wp2_with fail
    rw [← HW0.out]
    refine (openBu_c n q _ _ _ d p g W0 HD.out HP.out HG.out WP.out WG.out hdl hpl hgl).mono ?_
    rintro e w1 ⟨gb, vd1, vp1, vg1, rfl, hge, hobj, td1, tp1, tg1, b1⟩
    obtain ⟨a1, c1, rfl⟩ := Ty.shape td1
    obtain ⟨a2, c2, rfl⟩ := Ty.shape tp1
    obtain ⟨a3, c3, rfl⟩ := Ty.shape tg1
    rw [K1.out]
    have M1 := Lib.hid (BuM.new HW0.out hge hobj td1 tp1 tg1 b1)
    clear hge hobj td1 tp1 tg1 b1
    obtain ⟨x0, x1, x2, x3, x4, x5, x6, x7⟩ := fourBlk M1.out.arg
    obtain ⟨r0, r1, r2, r3, r4, r5, r6, r7⟩ := fourBlk M1.out.res
    obtain ⟨o0, o1, o2, o3, o4, o5, o6, o7⟩ := fourBlk M1.out.obj
    have has := blk_lt M1.out.arg
    have hrs := blk_lt M1.out.res
    have hos := blk_lt M1.out.obj
    have hge := M1.out.ge
    have hn1 : gb ≠ w.heap.size + 1 := by omega
    have hn2 : w.heap.size + 1 ≠ gb := by omega
    go_wp2_with fail
    refine bodyPost_ret (v := .tuple #[.agg #[.int .i64 n, .slice a1 d.length c1, .slice a2 p.length c2, .slice a3 g.length c3], .int .u8 0, .bool false, .int .i64 (-1), .int .i64 2]) (by simp [results, Try.results69, go_sem, r0, r1, r2, r3]) rfl ?_
    exact ⟨_, _, _, rfl, M1.out.last _ _ _ _⟩
  | true =>
    have K1 := Lib.hid k1
    rcases nil_or d with hd0 | ⟨y, t, hd1⟩
    · have HD0 := Lib.hid hd0
      have hz : (d.length == 0) = true := by simp [hd0]
      have hz' : ((d.length : Int) == 0) = true := by simp [hd0]
      rw [get_wait k1 HD0.out]
      clear k1 hd0
      go_enter Try.func69, Try.ntmps69
      go_wp2_with fail
      rw [← HW0.out]
      refine (openBu_c n q _ _ _ d p g W0 HD.out HP.out HG.out WP.out WG.out hdl hpl hgl).mono ?_
      rintro e w1 ⟨gb, vd1, vp1, vg1, rfl, hge, hobj, td1, tp1, tg1, b1⟩
      obtain ⟨a1, c1, rfl⟩ := Ty.shape td1
      obtain ⟨a2, c2, rfl⟩ := Ty.shape tp1
      obtain ⟨a3, c3, rfl⟩ := Ty.shape tg1
      rw [K1.out]
      have M1 := Lib.hid (BuM.new HW0.out hge hobj td1 tp1 tg1 b1)
      clear hge hobj td1 tp1 tg1 b1
      obtain ⟨x0, x1, x2, x3, x4, x5, x6, x7⟩ := fourBlk M1.out.arg
      obtain ⟨r0, r1, r2, r3, r4, r5, r6, r7⟩ := fourBlk M1.out.res
      obtain ⟨o0, o1, o2, o3, o4, o5, o6, o7⟩ := fourBlk M1.out.obj
      have has := blk_lt M1.out.arg
      have hrs := blk_lt M1.out.res
      have hos := blk_lt M1.out.obj
      have hge := M1.out.ge
      have hn1 : gb ≠ w.heap.size + 1 := by omega
      have hn2 : w.heap.size + 1 ≠ gb := by omega
      go_wp2_with fail
      refine (enterW_c _ g ⟨q, r, 0⟩ _ M1.out.tg.rd (by omega)).mono ?_
      rintro e w3 ⟨v3, rfl, ho3, hb3⟩
      obtain ⟨a4, c4, rfl⟩ := own_slice ho3
      have M2c := Lib.hid (M1.out.next hb3)
      have M3 := Lib.hid (M2c.out.putG (Ty.mono (Ty.of_own ho3) M1.out.sz))
      clear ho3 hb3 M1
      clear x0 x1 x2 x3 x4 x5 x6 x7 r0 r1 r2 r3 r4 r5 r6 r7 o0 o1 o2 o3 o4 o5 o6 o7 has hrs hos hge hn1 hn2
      obtain ⟨x0, x1, x2, x3, x4, x5, x6, x7⟩ := fourBlk M2c.out.arg
      obtain ⟨r0, r1, r2, r3, r4, r5, r6, r7⟩ := fourBlk M2c.out.res
      obtain ⟨o0, o1, o2, o3, o4, o5, o6, o7⟩ := fourBlk M2c.out.obj
      have has := blk_lt M2c.out.arg
      have hrs := blk_lt M2c.out.res
      have hos := blk_lt M2c.out.obj
      have hge := M2c.out.ge
      have hn1 : gb ≠ w.heap.size + 1 := by omega
      have hn2 : w.heap.size + 1 ≠ gb := by omega
      clear M2c
      generalize (enterW g ⟨q, r, 0⟩).length = m4 at M3 ⊢
      go_wp2_with fail
      refine bodyPost_ret (v := .tuple #[.agg #[.int .i64 n, .slice a1 d.length c1, .slice a2 p.length c2, .slice a4 m4 c4], .int .u8 0, .bool false, .int .i64 (-1), .int .i64 0]) (by simp [results, Try.results69, go_sem, r0, r1, r2, r3]) rfl ?_
      exact ⟨_, _, _, rfl, M3.out.fin HD0.out rfl rfl _ _ _ _⟩
    · have HD1 := Lib.hid hd1
      have hz : (d.length == 0) = false := by simp [hd1]
      have hz' : ((d.length : Int) == 0) = false := by rw [beq_eq_false_iff_ne]; have := congrArg List.length hd1; simp at this; omega
      clear hd1
      have hdn : t.length ≤ 40000 := by have := congrArg List.length HD1.out; simp at this; omega
      rcases nil_or p with hp0 | ⟨x, m, hp1⟩
      · have HP0 := Lib.hid hp0
        clear hp0
        rw [get_take k1 HD1.out HP0.out]
        clear k1
        go_enter Try.func69, Try.ntmps69
        go_wp2_with fail
        rw [← HW0.out]
        refine (openBu_c n q _ _ _ d p g W0 HD.out HP.out HG.out WP.out WG.out hdl hpl hgl).mono ?_
        rintro e w1 ⟨gb, vd1, vp1, vg1, rfl, hge, hobj, td1, tp1, tg1, b1⟩
        obtain ⟨a1, c1, rfl⟩ := Ty.shape td1
        obtain ⟨a2, c2, rfl⟩ := Ty.shape tp1
        obtain ⟨a3, c3, rfl⟩ := Ty.shape tg1
        rw [K1.out]
        have M1 := Lib.hid (BuM.new HW0.out hge hobj td1 tp1 tg1 b1)
        clear hge hobj td1 tp1 tg1 b1
        obtain ⟨x0, x1, x2, x3, x4, x5, x6, x7⟩ := fourBlk M1.out.arg
        obtain ⟨r0, r1, r2, r3, r4, r5, r6, r7⟩ := fourBlk M1.out.res
        obtain ⟨o0, o1, o2, o3, o4, o5, o6, o7⟩ := fourBlk M1.out.obj
        have has := blk_lt M1.out.arg
        have hrs := blk_lt M1.out.res
        have hos := blk_lt M1.out.obj
        have hge := M1.out.ge
        have hn1 : gb ≠ w.heap.size + 1 := by omega
        have hn2 : w.heap.size + 1 ≠ gb := by omega
        obtain ⟨bd, offd, rfl, hd1, hd2, hdb, y0⟩ := M1.out.td.head HD1.out
        have hdz1 : (1 : Int) ≤ (d.length : Int) := by omega
        have hdz2 : (d.length : Int) ≤ (c1 : Int) := by omega
        have hdz3 : (0 : Int) < (d.length : Int) := by omega
        by_cases hc1 : c1 = 1
        · subst hc1
          have M2 := Lib.hid (M1.out.putD (M1.out.td.tail0 HD1.out rfl))
          go_wp2_with fail
          refine (first_nil gb 2 _ (w.heap.size + 2) _ _ M2.out.obj rfl (HP0.out ▸ M2.out.tp)).mono ?_
          rintro e w2 ⟨rfl, b2⟩
          have M3 := Lib.hid (M2.out.next b2)
          clear b2 M1 M2 y0
          clear x0 x1 x2 x3 x4 x5 x6 x7 r0 r1 r2 r3 r4 r5 r6 r7 o0 o1 o2 o3 o4 o5 o6 o7 has hrs hos hge hn1 hn2
          obtain ⟨x0, x1, x2, x3, x4, x5, x6, x7⟩ := fourBlk M3.out.arg
          obtain ⟨r0, r1, r2, r3, r4, r5, r6, r7⟩ := fourBlk M3.out.res
          obtain ⟨o0, o1, o2, o3, o4, o5, o6, o7⟩ := fourBlk M3.out.obj
          have has := blk_lt M3.out.arg
          have hrs := blk_lt M3.out.res
          have hos := blk_lt M3.out.obj
          have hge := M3.out.ge
          have hn1 : gb ≠ w.heap.size + 1 := by omega
          have hn2 : w.heap.size + 1 ≠ gb := by omega
          go_wp2_with fail
          go_region
          all_goals
            go_wp2_with fail
            refine bodyPost_ret (v := .tuple #[.agg #[.int .i64 n, .slice (some ⟨bd, offd, none⟩) 0 0, .slice a2 p.length c2, .slice a3 g.length c3], .int .u8 y, .bool true, .int .i64 (-1), .int .i64 0]) (by simp [results, Try.results69, go_sem, r0, r1, r2, r3, hrs]) rfl ?_
            exact ⟨_, _, _, rfl, M3.out.finA rfl HP0.out rfl _ _ _ _ _⟩
        · have M2 := Lib.hid (M1.out.putD (M1.out.td.tail2 HD1.out hc1))
          go_wp2_with fail
          refine (first_nil gb 2 _ (w.heap.size + 2) _ _ M2.out.obj rfl (HP0.out ▸ M2.out.tp)).mono ?_
          rintro e w2 ⟨rfl, b2⟩
          have M3 := Lib.hid (M2.out.next b2)
          clear b2 M1 M2 y0
          clear x0 x1 x2 x3 x4 x5 x6 x7 r0 r1 r2 r3 r4 r5 r6 r7 o0 o1 o2 o3 o4 o5 o6 o7 has hrs hos hge hn1 hn2
          obtain ⟨x0, x1, x2, x3, x4, x5, x6, x7⟩ := fourBlk M3.out.arg
          obtain ⟨r0, r1, r2, r3, r4, r5, r6, r7⟩ := fourBlk M3.out.res
          obtain ⟨o0, o1, o2, o3, o4, o5, o6, o7⟩ := fourBlk M3.out.obj
          have has := blk_lt M3.out.arg
          have hrs := blk_lt M3.out.res
          have hos := blk_lt M3.out.obj
          have hge := M3.out.ge
          have hn1 : gb ≠ w.heap.size + 1 := by omega
          have hn2 : w.heap.size + 1 ≠ gb := by omega
          go_wp2_with fail
          go_region
          all_goals
            go_wp2_with fail
            refine bodyPost_ret (v := .tuple #[.agg #[.int .i64 n, .slice (some ⟨bd, offd + 1, none⟩) (d.length - 1) (c1 - 1), .slice a2 p.length c2, .slice a3 g.length c3], .int .u8 y, .bool true, .int .i64 (-1), .int .i64 0]) (by simp [results, Try.results69, go_sem, r0, r1, r2, r3, hrs]) rfl ?_
            exact ⟨_, _, _, rfl, M3.out.finA rfl HP0.out rfl _ _ _ _ _⟩
      · have HP1 := Lib.hid hp1
        clear hp1
        rw [get_wake k1 HD1.out HP1.out]
        clear k1
        go_enter Try.func69, Try.ntmps69
        go_wp2_with fail
        rw [← HW0.out]
        refine (openBu_c n q _ _ _ d p g W0 HD.out HP.out HG.out WP.out WG.out hdl hpl hgl).mono ?_
        rintro e w1 ⟨gb, vd1, vp1, vg1, rfl, hge, hobj, td1, tp1, tg1, b1⟩
        obtain ⟨a1, c1, rfl⟩ := Ty.shape td1
        obtain ⟨a2, c2, rfl⟩ := Ty.shape tp1
        obtain ⟨a3, c3, rfl⟩ := Ty.shape tg1
        rw [K1.out]
        have M1 := Lib.hid (BuM.new HW0.out hge hobj td1 tp1 tg1 b1)
        clear hge hobj td1 tp1 tg1 b1
        obtain ⟨x0, x1, x2, x3, x4, x5, x6, x7⟩ := fourBlk M1.out.arg
        obtain ⟨r0, r1, r2, r3, r4, r5, r6, r7⟩ := fourBlk M1.out.res
        obtain ⟨o0, o1, o2, o3, o4, o5, o6, o7⟩ := fourBlk M1.out.obj
        have has := blk_lt M1.out.arg
        have hrs := blk_lt M1.out.res
        have hos := blk_lt M1.out.obj
        have hge := M1.out.ge
        have hn1 : gb ≠ w.heap.size + 1 := by omega
        have hn2 : w.heap.size + 1 ≠ gb := by omega
        obtain ⟨bd, offd, rfl, hd1, hd2, hdb, y0⟩ := M1.out.td.head HD1.out
        have hdz1 : (1 : Int) ≤ (d.length : Int) := by omega
        have hdz2 : (d.length : Int) ≤ (c1 : Int) := by omega
        have hdz3 : (0 : Int) < (d.length : Int) := by omega
        by_cases hc1 : c1 = 1
        · subst hc1
          have M2 := Lib.hid (M1.out.putD (M1.out.td.tail0 HD1.out rfl))
          go_wp2_with fail
          refine (first_cons gb 2 _ (w.heap.size + 2) _ x m _ M2.out.obj rfl (HP1.out ▸ M2.out.tp)).mono ?_
          rintro e w2 ⟨v4, rfl, ho, ht, hgr⟩
          obtain ⟨a4, c4, rfl⟩ := Ty.shape ht
          have M3 := Lib.hid (M2.out.firstP ho ht hgr)
          clear ho ht hgr M1 M2 y0
          clear x0 x1 x2 x3 x4 x5 x6 x7 r0 r1 r2 r3 r4 r5 r6 r7 o0 o1 o2 o3 o4 o5 o6 o7 has hrs hos hge hn1 hn2
          obtain ⟨x0, x1, x2, x3, x4, x5, x6, x7⟩ := fourBlk M3.out.arg
          obtain ⟨r0, r1, r2, r3, r4, r5, r6, r7⟩ := fourBlk M3.out.res
          obtain ⟨o0, o1, o2, o3, o4, o5, o6, o7⟩ := fourBlk M3.out.obj
          have has := blk_lt M3.out.arg
          have hrs := blk_lt M3.out.res
          have hos := blk_lt M3.out.obj
          have hge := M3.out.ge
          have hn1 : gb ≠ w.heap.size + 1 := by omega
          have hn2 : w.heap.size + 1 ≠ gb := by omega
          have M3a := Lib.hid (M3.out.alloc (.cells #[.int .i64 x.proc, .int .i64 x.prio, .int .u8 x.val] 56))
          have V3 := Lib.hid (heap_alloc_new w2 (.cells #[.int .i64 x.proc, .int .i64 x.prio, .int .u8 x.val] 56))
          have hvg : w2.heap.size ≠ gb := by omega
          have hv1 : w2.heap.size ≠ w.heap.size + 1 := by omega
          generalize m.length = m4 at M3 M3a o2 ⊢
          go_upto_region 11 with (fail)
          go_region_with (go_at_call 112; refine (store_c gb n x.val _ _ _ (w.heap.size + 2) t _ M3a.out.drew.obj M3a.out.drew.td M3a.out.ge (by omega)).mono ?_; rintro e w3 hs; obtain ⟨v5, rfl, hm3⟩ := M3a.out.drew.store hs; obtain ⟨_, _, _, _, _, _, hk⟩ := hs; have V4 := Lib.hid (hk w2.heap.size _ _ _ hvg V3.out (by decide)); obtain ⟨a5, c5, rfl⟩ := Ty.shape hm3.td; have M4 := Lib.hid hm3; clear hm3 hk)
          all_goals
            clear M3 M3a V3
            clear x0 x1 x2 x3 x4 x5 x6 x7 r0 r1 r2 r3 r4 r5 r6 r7 o0 o1 o2 o3 o4 o5 o6 o7 has hrs hos hge hn1 hn2
            obtain ⟨x0, x1, x2, x3, x4, x5, x6, x7⟩ := fourBlk M4.out.arg
            obtain ⟨r0, r1, r2, r3, r4, r5, r6, r7⟩ := fourBlk M4.out.res
            obtain ⟨o0, o1, o2, o3, o4, o5, o6, o7⟩ := fourBlk M4.out.obj
            have has := blk_lt M4.out.arg
            have hrs := blk_lt M4.out.res
            have hos := blk_lt M4.out.obj
            have hge := M4.out.ge
            have hn1 : gb ≠ w.heap.size + 1 := by omega
            have hn2 : w.heap.size + 1 ≠ gb := by omega
            obtain ⟨v0, v1, v2, _, _, _⟩ := threeBlk V4.out
            have hvs := blk_lt V4.out
            generalize (t ++ [x.val]).length = m5 at M4 o1 ⊢
            go_wp2_with fail
            go_region
            all_goals
              go_wp2_with fail
              refine bodyPost_ret (v := .tuple #[.agg #[.int .i64 n, .slice a5 m5 c5, .slice a4 m4 c4, .slice a3 g.length c3], .int .u8 y, .bool true, .int .i64 x.proc, .int .i64 0]) (by simp [results, Try.results69, go_sem, r0, r1, r2, r3]) rfl ?_
              exact ⟨_, _, _, rfl, M4.out.finD rfl rfl rfl _ _ _ _⟩
        · have M2 := Lib.hid (M1.out.putD (M1.out.td.tail2 HD1.out hc1))
          go_wp2_with fail
          refine (first_cons gb 2 _ (w.heap.size + 2) _ x m _ M2.out.obj rfl (HP1.out ▸ M2.out.tp)).mono ?_
          rintro e w2 ⟨v4, rfl, ho, ht, hgr⟩
          obtain ⟨a4, c4, rfl⟩ := Ty.shape ht
          have M3 := Lib.hid (M2.out.firstP ho ht hgr)
          clear ho ht hgr M1 M2 y0
          clear x0 x1 x2 x3 x4 x5 x6 x7 r0 r1 r2 r3 r4 r5 r6 r7 o0 o1 o2 o3 o4 o5 o6 o7 has hrs hos hge hn1 hn2
          obtain ⟨x0, x1, x2, x3, x4, x5, x6, x7⟩ := fourBlk M3.out.arg
          obtain ⟨r0, r1, r2, r3, r4, r5, r6, r7⟩ := fourBlk M3.out.res
          obtain ⟨o0, o1, o2, o3, o4, o5, o6, o7⟩ := fourBlk M3.out.obj
          have has := blk_lt M3.out.arg
          have hrs := blk_lt M3.out.res
          have hos := blk_lt M3.out.obj
          have hge := M3.out.ge
          have hn1 : gb ≠ w.heap.size + 1 := by omega
          have hn2 : w.heap.size + 1 ≠ gb := by omega
          have M3a := Lib.hid (M3.out.alloc (.cells #[.int .i64 x.proc, .int .i64 x.prio, .int .u8 x.val] 56))
          have V3 := Lib.hid (heap_alloc_new w2 (.cells #[.int .i64 x.proc, .int .i64 x.prio, .int .u8 x.val] 56))
          have hvg : w2.heap.size ≠ gb := by omega
          have hv1 : w2.heap.size ≠ w.heap.size + 1 := by omega
          generalize m.length = m4 at M3 M3a o2 ⊢
          go_upto_region 11 with (fail)
          go_region_with (go_at_call 112; refine (store_c gb n x.val _ _ _ (w.heap.size + 2) t _ M3a.out.drew.obj M3a.out.drew.td M3a.out.ge (by omega)).mono ?_; rintro e w3 hs; obtain ⟨v5, rfl, hm3⟩ := M3a.out.drew.store hs; obtain ⟨_, _, _, _, _, _, hk⟩ := hs; have V4 := Lib.hid (hk w2.heap.size _ _ _ hvg V3.out (by decide)); obtain ⟨a5, c5, rfl⟩ := Ty.shape hm3.td; have M4 := Lib.hid hm3; clear hm3 hk)
          all_goals
            clear M3 M3a V3
            clear x0 x1 x2 x3 x4 x5 x6 x7 r0 r1 r2 r3 r4 r5 r6 r7 o0 o1 o2 o3 o4 o5 o6 o7 has hrs hos hge hn1 hn2
            obtain ⟨x0, x1, x2, x3, x4, x5, x6, x7⟩ := fourBlk M4.out.arg
            obtain ⟨r0, r1, r2, r3, r4, r5, r6, r7⟩ := fourBlk M4.out.res
            obtain ⟨o0, o1, o2, o3, o4, o5, o6, o7⟩ := fourBlk M4.out.obj
            have has := blk_lt M4.out.arg
            have hrs := blk_lt M4.out.res
            have hos := blk_lt M4.out.obj
            have hge := M4.out.ge
            have hn1 : gb ≠ w.heap.size + 1 := by omega
            have hn2 : w.heap.size + 1 ≠ gb := by omega
            obtain ⟨v0, v1, v2, _, _, _⟩ := threeBlk V4.out
            have hvs := blk_lt V4.out
            generalize (t ++ [x.val]).length = m5 at M4 o1 ⊢
            go_wp2_with fail
            go_region
            all_goals
              go_wp2_with fail
              refine bodyPost_ret (v := .tuple #[.agg #[.int .i64 n, .slice a5 m5 c5, .slice a4 m4 c4, .slice a3 g.length c3], .int .u8 y, .bool true, .int .i64 x.proc, .int .i64 0]) (by simp [results, Try.results69, go_sem, r0, r1, r2, r3]) rfl ?_
              exact ⟨_, _, _, rfl, M4.out.finD rfl rfl rfl _ _ _ _⟩
end Go.Proofs.Ytglbfmcbojjglaa

/-
  Layer 24: variables of buffers and blackboards; SameBuffer and SameBoard of equal ones; the chapter's examples. Conditions: what is read can be read.
-/
import Derived.Test.YtglbfmcbojjglaaBuC
import Derived.Test.YtglbfmcbojjglaaBdC
import Derived.Test.YtglbfmcbojjglaaLawA
import Derived.Laws.BytesArg
namespace Go.Proofs.Ytglbfmcbojjglaa
open Go.RowKit

theorem Ty.shape3 {w : World} {B : Nat} {t : TypeId} {sz : Nat} {v : Value} {n : Nat} {xs : List Value} (h : Ty w B t sz v n xs) : ∃ a m c, v = .slice a m c := by
  obtain ⟨a, c, hv⟩ := h.shape
  exact ⟨a, _, c, hv⟩
/-- A variable of a buffer, of a blackboard, with what it leads to. -/
structure UB (W : World) (g : Nat) (n : Int) (vd vp vg : Value) (d : List Int) (p q : List Wt) : Prop where
  blk : W.heap[g]? = some (.cells #[.int .i64 n, vd, vp, vg] 125 (0, 0))
  td : TyB W 0 vd d
  tp : TyW W 0 vp p
  tg : TyW W 0 vg q
structure UD (W : World) (g : Nat) (h : Bool) (x : Int) (v : Value) (l : List Wt) : Prop where
  blk : W.heap[g]? = some (.cells #[.bool h, .int .u8 x, v] 131 (0, 0))
  tw : TyW W 0 v l
def putD (W : World) (g : Nat) (x y z : Value) : World := ((W.setCell ⟨g, 0, none⟩ x).setCell ⟨g, 1, none⟩ y).setCell ⟨g, 2, none⟩ z
theorem putD_below {w W : World} {B g : Nat} (h : Below B w W) (hg : B ≤ g) (a b c : Value) : Below B w (putD W g a b c) := ((h.setCell (p := ⟨g, 0, none⟩) hg a).setCell (p := ⟨g, 1, none⟩) hg b).setCell (p := ⟨g, 2, none⟩) hg c
theorem set_far {W : World} {g b o : Nat} {ob : Obj} {u : Value} (h : W.heap[g]? = some ob) (hne : g ≠ b) : (W.setCell ⟨b, o, none⟩ u).heap[g]? = some ob := (Below.heap_setCell _ _ _ _ hne).trans h
section
variable {W W' : World} {g g' B : Nat} {n : Int} {vd vp vg vd' vp' vg' v v' : Value} {d d' : List Int} {p q p' q' l l' : List Wt} {h : Bool} {x : Int}
theorem UB.next (m : UB W g n vd vp vg d p q) (hb : Below W.heap.size W W') : UB W' g n vd vp vg d p q := ⟨(hb.block _ (blk_lt m.blk)).trans m.blk, Ty.below m.td hb, Ty.below m.tp hb, Ty.below m.tg hb⟩
theorem UB.alloc (m : UB W g n vd vp vg d p q) (o : Obj) : UB (W.alloc o) g n vd vp vg d p q := m.next ((Below.refl _ _).alloc (Nat.le_refl _) _)
theorem UB.drew (m : UB W g n vd vp vg d p q) : UB W.drew g n vd vp vg d p q := ⟨m.blk, m.td, m.tp, m.tg⟩
theorem UB.drewN (m : UB W g n vd vp vg d p q) (k : Nat) : UB (W.drewN k) g n vd vp vg d p q := ⟨m.blk, m.td, m.tp, m.tg⟩
theorem UB.new (h1 : TyB W B vd d) (h2 : TyW W B vp p) (h3 : TyW W B vg q) : UB (W.alloc (.cells #[.int .i64 n, vd, vp, vg] 125)) W.heap.size n vd vp vg d p q :=
  ⟨heap_alloc_new W _, Ty.mono (Ty.alloc h1 _) (Nat.zero_le _), Ty.mono (Ty.alloc h2 _) (Nat.zero_le _), Ty.mono (Ty.alloc h3 _) (Nat.zero_le _)⟩
theorem UB.put (m : UB W g n vd vp vg d p q) (h1 : TyB W B vd' d') (h2 : TyW W B vp' p') (h3 : TyW W B vg' q') (n' : Int) : UB (put4 W g (.int .i64 n') vd' vp' vg') g n' vd' vp' vg' d' p' q' :=
  ⟨(set4 (set4 (set4 (set4 m.blk _).1 _).2.1 _).2.2.1 _).2.2.2, Ty.mono (Ty.put4 h1 m.blk (by decide) _ _ _ _) (Nat.zero_le _), Ty.mono (Ty.put4 h2 m.blk (by decide) _ _ _ _) (Nat.zero_le _), Ty.mono (Ty.put4 h3 m.blk (by decide) _ _ _ _) (Nat.zero_le _)⟩
theorem UB.far4 {e0 e1 e2 e3 : Value} (m : UB W g n vd vp vg d p q) (hg : W.heap[g']? = some (.cells #[e0, e1, e2, e3] 125 (0, 0))) (hne : g ≠ g') (a b c e : Value) : UB (put4 W g' a b c e) g n vd vp vg d p q :=
  ⟨set_far (set_far (set_far (set_far m.blk hne) hne) hne) hne, Ty.put4 m.td hg (by decide) _ _ _ _, Ty.put4 m.tp hg (by decide) _ _ _ _, Ty.put4 m.tg hg (by decide) _ _ _ _⟩
theorem UB.far3 {cs : Array Value} (m : UB W g n vd vp vg d p q) (hg : W.heap[g']? = some (.cells cs 131 (0, 0))) (hne : g ≠ g') (a b c : Value) : UB (putD W g' a b c) g n vd vp vg d p q :=
  ⟨set_far (set_far (set_far m.blk hne) hne) hne, Ty.set3 m.td (Tag.of hg) (by decide) _ _ _, Ty.set3 m.tp (Tag.of hg) (by decide) _ _ _, Ty.set3 m.tg (Tag.of hg) (by decide) _ _ _⟩
theorem UD.next (m : UD W g h x v l) (hb : Below W.heap.size W W') : UD W' g h x v l := ⟨(hb.block _ (blk_lt m.blk)).trans m.blk, Ty.below m.tw hb⟩
theorem UD.alloc (m : UD W g h x v l) (o : Obj) : UD (W.alloc o) g h x v l := m.next ((Below.refl _ _).alloc (Nat.le_refl _) _)
theorem UD.drew (m : UD W g h x v l) : UD W.drew g h x v l := ⟨m.blk, m.tw⟩
theorem UD.drewN (m : UD W g h x v l) (k : Nat) : UD (W.drewN k) g h x v l := ⟨m.blk, m.tw⟩
theorem UD.new (h1 : TyW W B v l) : UD (W.alloc (.cells #[.bool h, .int .u8 x, v] 131)) W.heap.size h x v l := ⟨heap_alloc_new W _, Ty.mono (Ty.alloc h1 _) (Nat.zero_le _)⟩
theorem UD.put (m : UD W g h x v l) (h1 : TyW W B v' l') (h' : Bool) (x' : Int) : UD (putD W g (.bool h') (.int .u8 x') v') g h' x' v' l' :=
  ⟨(set3 (set3 (set3 m.blk _).1 _).2.1 _).2.2, Ty.mono (Ty.set3 h1 (Tag.of m.blk) (by decide) _ _ _) (Nat.zero_le _)⟩
theorem UD.far3 {cs : Array Value} (m : UD W g h x v l) (hg : W.heap[g']? = some (.cells cs 131 (0, 0))) (hne : g ≠ g') (a b c : Value) : UD (putD W g' a b c) g h x v l :=
  ⟨set_far (set_far (set_far m.blk hne) hne) hne, Ty.set3 m.tw (Tag.of hg) (by decide) _ _ _⟩
theorem UD.far4 {e0 e1 e2 e3 : Value} (m : UD W g h x v l) (hg : W.heap[g']? = some (.cells #[e0, e1, e2, e3] 125 (0, 0))) (hne : g ≠ g') (a b c e : Value) : UD (put4 W g' a b c e) g h x v l :=
  ⟨set_far (set_far (set_far (set_far m.blk hne) hne) hne) hne, Ty.put4 m.tw hg (by decide) _ _ _ _⟩
end

set_option maxHeartbeats 1000000 in
theorem sameBd_c (h : Bool) (x : Int) (va vb : Value) (l : List Wt) (w : World) (ha : RdW w 0 va l) (hb : RdW w 0 vb l) (hl : l.length ≤ 100000) :
    Calls Try.prog 73 #[.agg #[.bool h, .int .u8 x, va], .agg #[.bool h, .int .u8 x, vb]] w fun e w' => e = .returned (.bool true) ∧ Below w.heap.size w w' := by
  obtain ⟨W0, hW0⟩ : ∃ W0, W0 = ((w.alloc (.cells #[.bool h, .int .u8 x, va] 131)).alloc (.cells #[.bool h, .int .u8 x, vb] 131)) := ⟨_, rfl⟩
  have hb0 : Below w.heap.size w W0 := by subst hW0; exact ((Below.refl _ w).alloc (Nat.le_refl _) _).alloc (by simp) _
  have hc := waiters_c va vb l l W0 (ha.below hb0) (hb.below hb0) (by omega) (by omega)
  rw [show decide (l = l) = true from by simp] at hc
  have HC := Lib.hid hc
  obtain ⟨ao, ca, rfl, _, _, _⟩ := ha.open_
  obtain ⟨bo, cb, rfl, _, _, _⟩ := hb.open_
  have HW0 := Lib.hid hW0
  have HB0 := Lib.hid hb0
  clear hW0 hb0 ha hb hc
  have q1 : (h == h) = true := by simp
  have q2 : (x == x) = true := by simp
  go_enter Try.func73, Try.ntmps73
  go_wp2_with fail
  rw [← HW0.out]
  refine HC.out.mono ?_
  rintro e w1 ⟨rfl, k, rfl⟩
  clear HC HW0
  go_wp2_with fail
  go_ret
  exact ⟨rfl, below_drewN' HB0.out _⟩

/-- What bytes are as a string. -/
theorem RdI.strB {w : World} {B m c : Nat} {a : Option Addr} {x : List Int} (h : RdI .u8 w B (.slice a m c) x) : (convert 28 9 (.slice a m c)).run Try.prog w = .ok (.string (strOfNums x)) w := by
  obtain ⟨ao, cap, hv, hnc, hno, hp⟩ := h.open_
  simp only [Value.slice.injEq] at hv
  obtain ⟨rfl, rfl, rfl⟩ := hv
  by_cases h0 : 0 < x.length
  · obtain ⟨b, off, rfl, _, _, hc⟩ := hp h0
    refine run_convert_bytes_arg (P := Try.prog) w 28 5 Try.underlying28 Try.underlying5 b off _ _ x rfl (fun i hi => ?_) 9 Try.underlying9
    rw [hc i hi]
    simp [List.getD, List.getElem?_eq_getElem hi]
  · have hx : x = [] := List.eq_nil_of_length_eq_zero (by omega)
    subst hx
    rw [run_convert_bytes_string w 28 9 5 _ _ _ Try.underlying28 Try.underlying5 Try.underlying9]
    cases a <;> simp [Conv.bytesToString, loadCells]
    all_goals rfl

set_option maxHeartbeats 1000000 in
theorem sameBu_c (n : Int) (va vb pa pb ga gb : Value) (d : List Int) (p g : List Wt) (w : World) (ha : RdI .u8 w 0 va d) (hb : RdI .u8 w 0 vb d) (hpa : RdW w 0 pa p) (hpb : RdW w 0 pb p) (hga : RdW w 0 ga g) (hgb : RdW w 0 gb g) (hpl : p.length ≤ 100000) (hgl : g.length ≤ 100000) :
    Calls Try.prog 82 #[.agg #[.int .i64 n, va, pa, ga], .agg #[.int .i64 n, vb, pb, gb]] w fun e w' => e = .returned (.bool true) ∧ Below w.heap.size w w' := by
  obtain ⟨W0, hW0⟩ : ∃ W0, W0 = ((w.alloc (.cells #[.int .i64 n, va, pa, ga] 125)).alloc (.cells #[.int .i64 n, vb, pb, gb] 125)) := ⟨_, rfl⟩
  have hb0 : Below w.heap.size w W0 := by subst hW0; exact ((Below.refl _ w).alloc (Nat.le_refl _) _).alloc (by simp) _
  have K1 : Hid (W0.heap[w.heap.size]? = some (.cells #[.int .i64 n, va, pa, ga] 125 (0, 0))) := by subst hW0; exact (Below.heap_alloc _ _ _ (by simp)).trans (heap_alloc_new w _)
  have K2 : Hid (W0.heap[w.heap.size + 1]? = some (.cells #[.int .i64 n, vb, pb, gb] 125 (0, 0))) := by subst hW0; exact allocBu2 w _ _
  obtain ⟨a1, c1, rfl, _, _, _⟩ := ha.open_
  obtain ⟨a2, c2, rfl, _, _, _⟩ := hb.open_
  have s1 := (ha.below hb0).strB
  have s2 := (hb.below hb0).strB
  have hc := waiters_c pa pb p p W0 (hpa.below hb0) (hpb.below hb0) (by omega) (by omega)
  rw [show decide (p = p) = true from by simp] at hc
  have HC := Lib.hid hc
  have HD : Hid (∀ W, Below w.heap.size w W → Calls Try.prog 41 #[ga, gb] W fun e w' => e = .returned (.bool true) ∧ ∃ k, w' = W.drewN k) := fun W hw => by
    have hd := waiters_c ga gb g g W (hga.below hw) (hgb.below hw) (by omega) (by omega)
    rw [show decide (g = g) = true from by simp] at hd
    exact hd
  obtain ⟨a3, c3, rfl, _, _, _⟩ := hpa.open_
  obtain ⟨a4, c4, rfl, _, _, _⟩ := hpb.open_
  obtain ⟨a5, c5, rfl, _, _, _⟩ := hga.open_
  obtain ⟨a6, c6, rfl, _, _, _⟩ := hgb.open_
  have HW0 := Lib.hid hW0
  have HB0 := Lib.hid hb0
  generalize strOfNums d = sd at s1 s2
  clear hW0 hb0 ha hb hc hpa hpb hga hgb
  have q1 : (n == n) = true := by simp
  obtain ⟨x0, x1, x2, x3, _, _, _, _⟩ := fourBlk K1.out
  obtain ⟨y0, y1, y2, y3, _, _, _, _⟩ := fourBlk K2.out
  have hk1 := blk_lt K1.out
  have hk2 := blk_lt K2.out
  go_enter Try.func82, Try.ntmps82
  go_upto_region 1 with (fail)
  rw [← HW0.out]
  go_wp2_with fail
  refine HC.out.mono ?_
  rintro e w1 ⟨rfl, k, rfl⟩
  clear HC HW0 s1 s2
  go_wp2_with fail
  refine (HD.out _ (below_drewN' HB0.out k)).mono ?_
  rintro e w2 ⟨rfl, k2, rfl⟩
  go_wp2_with fail
  go_ret
  exact ⟨rfl, below_drewN' HB0.out _⟩

/-- A list of ints that no variable holds. -/
structure UI (W : World) (v : Value) (l : List Int) : Prop where
  ty : Ty W 0 3 1 v l.length (l.map (Value.int .i64))
section
variable {W W' : World} {v : Value} {l : List Int} {B g : Nat}
theorem UI.of (h : OwnI W B v l) : UI W v l := ⟨Ty.mono (Ty.of_own h) (Nat.zero_le _)⟩
theorem UI.next (m : UI W v l) (hb : Below W.heap.size W W') : UI W' v l := ⟨Ty.below m.ty hb⟩
theorem UI.alloc (m : UI W v l) (o : Obj) : UI (W.alloc o) v l := m.next ((Below.refl _ _).alloc (Nat.le_refl _) _)
theorem UI.drewN (m : UI W v l) (k : Nat) : UI (W.drewN k) v l := ⟨m.ty⟩
theorem UI.far3 {cs : Array Value} (m : UI W v l) (hg : W.heap[g]? = some (.cells cs 131 (0, 0))) (a b c : Value) : UI (putD W g a b c) v l := ⟨Ty.set3 m.ty (Tag.of hg) (by decide) _ _ _⟩
theorem UI.far4 {e0 e1 e2 e3 : Value} (m : UI W v l) (hg : W.heap[g]? = some (.cells #[e0, e1, e2, e3] 125 (0, 0))) (a b c e : Value) : UI (put4 W g a b c e) v l := ⟨Ty.put4 m.ty hg (by decide) _ _ _ _⟩
theorem UI.rd (m : UI W v l) : RdI .i64 W 0 v l := Ty.sl m.ty
end
theorem rdI_two (w : World) (t : TypeId) (x y : Int) : RdI .i64 (w.alloc (.cells #[.int .i64 x, .int .i64 y] t)) 0 (.slice (some ⟨w.heap.size, 0, none⟩) 2 2) [x, y] := by
  refine ⟨_, _, rfl, Nat.le_refl _, by simp, rfl, fun _ => ⟨w.heap.size, 0, rfl, Nat.zero_le _, by simp, fun j u hj => ?_⟩⟩
  have hh := heap_alloc_new w (.cells #[.int .i64 x, .int .i64 y] t)
  simp only [World.cell?, hh]
  simpa using hj

theorem ab1 : putBu 1 [] [] [] 0 0 5 = ([5], [], [], true, -1, 0) := by decide
theorem ab2 : putBu 1 [5] [] [] 1 2 6 = ([5], [⟨1, 2, 6⟩], [], false, -1, 0) := by decide
theorem ab3 : getBu 1 [5] [⟨1, 2, 6⟩] [] 2 0 = ([6], [], [], 5, true, 1, 0) := by decide
theorem ab4 : getBu 1 [6] [] [] 2 0 = ([], [], [], 6, true, -1, 0) := by decide
theorem ab5 : getBu 1 [] [] [] 2 0 = ([], [], [⟨2, 0, 0⟩], 0, false, -1, 0) := by decide
theorem ab6 : putBu 1 [] [] [⟨2, 0, 0⟩] 0 0 7 = ([], [], [], true, 2, 0) := by decide
theorem ab7 : lookBd false 0 [] 3 1 = ([⟨3, 1, 0⟩], 0, false, 0) := by decide
theorem ab8 : lookBd false 0 [⟨3, 1, 0⟩] 4 2 = ([⟨4, 2, 0⟩, ⟨3, 1, 0⟩], 0, false, 0) := by decide
theorem ab9 : showBd false 0 [⟨4, 2, 0⟩, ⟨3, 1, 0⟩] 9 = (true, 9, [], [4, 3], 0) := by decide
theorem ab10 : lookBd true 9 [] 3 1 = ([], 9, true, 0) := by decide
theorem ab11 : clearBd true 9 [] = (false, 0, 0) := by decide

set_option maxHeartbeats 8000000 in
set_option maxRecDepth 100000 in
theorem awake24_c (w : World) : Calls Try.prog 70 #[] w fun e w' => e = .returned (.bool true) ∧ Below w.heap.size w w' := by
  have E0 := Lib.hid (Below.refl w.heap.size w)
  go_enter Try.func70, Try.ntmps70
  go_wp2_with fail
  have h1 := putBu_c 1 0 0 5 _ _ _ [] [] [] _ (RdI.nil .u8 w 0) (FrW.nil w 0).1 (FrW.nil w 0).1 (by unfold WfW; decide) (by unfold WfW; decide) (by decide) (by decide) (by decide)
  rw [ab1] at h1
  refine h1.mono ?_
  clear h1
  rintro e w1 ⟨vd1, vp1, vg1, rfl, td1, tp1, tg1, b1⟩
  obtain ⟨da1, dm1, dc1, rfl⟩ := Ty.shape3 td1
  obtain ⟨pa1, pm1, pc1, rfl⟩ := Ty.shape3 tp1
  obtain ⟨ga1, gm1, gc1, rfl⟩ := Ty.shape3 tg1
  have bb1 := Lib.hid (UB.new (n := 1) td1 tp1 tg1)
  have z1 := E0.out.trans (b1.mono E0.out.size)
  have E1 := Lib.hid (z1.alloc z1.size (.cells #[.int .i64 1, .slice da1 dm1 dc1, .slice pa1 pm1 pc1, .slice ga1 gm1 gc1] 125))
  have gebb : w.heap.size ≤ w1.heap.size := z1.size
  clear td1 tp1 tg1 b1 z1 E0 
  go_wp2_with fail
  have h2 := putBu_c 1 1 2 6 _ _ _ [5] [] [] _ bb1.out.td.rd bb1.out.tp.rd bb1.out.tg.rd (by unfold WfW; decide) (by unfold WfW; decide) (by decide) (by decide) (by decide)
  rw [ab2] at h2
  refine h2.mono ?_
  clear h2
  rintro e w2 ⟨vd2, vp2, vg2, rfl, td2, tp2, tg2, b2⟩
  obtain ⟨da2, dm2, dc2, rfl⟩ := Ty.shape3 td2
  obtain ⟨pa2, pm2, pc2, rfl⟩ := Ty.shape3 tp2
  obtain ⟨ga2, gm2, gc2, rfl⟩ := Ty.shape3 tg2
  obtain ⟨bbx0, bbx1, bbx2, bbx3, bbx4, bbx5, bbx6, bbx7⟩ := fourBlk (bb1.out.next b2).blk
  have bbxb := blk_lt (bb1.out.next b2).blk
  have bb2 := Lib.hid ((bb1.out.next b2).put td2 tp2 tg2 1)
  have z2 := E1.out.trans (b2.mono E1.out.size)
  have E2 := Lib.hid (put4_below (g := w1.heap.size) z2 gebb (.int .i64 1) (.slice da2 dm2 dc2) (.slice pa2 pm2 pc2) (.slice ga2 gm2 gc2))
  clear td2 tp2 tg2 b2 z2 E1 bb1
  go_wp2_with fail
  have h3 := getBu_c 1 2 0 _ _ _ [5] [⟨1, 2, 6⟩] [] _ bb2.out.td.rd bb2.out.tp.rd bb2.out.tg.rd (by unfold WfW; decide) (by unfold WfW; decide) (by decide) (by decide) (by decide)
  rw [ab3] at h3
  refine h3.mono ?_
  clear h3
  rintro e w3 ⟨vd3, vp3, vg3, rfl, td3, tp3, tg3, b3⟩
  obtain ⟨da3, dm3, dc3, rfl⟩ := Ty.shape3 td3
  obtain ⟨pa3, pm3, pc3, rfl⟩ := Ty.shape3 tp3
  obtain ⟨ga3, gm3, gc3, rfl⟩ := Ty.shape3 tg3
  clear bbx0 bbx1 bbx2 bbx3 bbx4 bbx5 bbx6 bbx7 bbxb
  obtain ⟨bbx0, bbx1, bbx2, bbx3, bbx4, bbx5, bbx6, bbx7⟩ := fourBlk (bb2.out.next b3).blk
  have bbxb := blk_lt (bb2.out.next b3).blk
  have bb3 := Lib.hid ((bb2.out.next b3).put td3 tp3 tg3 1)
  have z3 := E2.out.trans (b3.mono E2.out.size)
  have E3 := Lib.hid (put4_below (g := w1.heap.size) z3 gebb (.int .i64 1) (.slice da3 dm3 dc3) (.slice pa3 pm3 pc3) (.slice ga3 gm3 gc3))
  clear td3 tp3 tg3 b3 z3 E2 bb2
  have hst := (bb3.out.td.rd).strB
  unfold put4 at hst
  rw [show strOfNums [6] = ⟨#[6]⟩ from rfl] at hst
  go_wp2_with fail
  have h4 := getBu_c 1 2 0 _ _ _ [6] [] [] _ bb3.out.td.rd bb3.out.tp.rd bb3.out.tg.rd (by unfold WfW; decide) (by unfold WfW; decide) (by decide) (by decide) (by decide)
  rw [ab4] at h4
  refine h4.mono ?_
  clear h4
  rintro e w4 ⟨vd4, vp4, vg4, rfl, td4, tp4, tg4, b4⟩
  obtain ⟨da4, dm4, dc4, rfl⟩ := Ty.shape3 td4
  obtain ⟨pa4, pm4, pc4, rfl⟩ := Ty.shape3 tp4
  obtain ⟨ga4, gm4, gc4, rfl⟩ := Ty.shape3 tg4
  clear bbx0 bbx1 bbx2 bbx3 bbx4 bbx5 bbx6 bbx7 bbxb
  obtain ⟨bbx0, bbx1, bbx2, bbx3, bbx4, bbx5, bbx6, bbx7⟩ := fourBlk (bb3.out.next b4).blk
  have bbxb := blk_lt (bb3.out.next b4).blk
  have bb4 := Lib.hid ((bb3.out.next b4).put td4 tp4 tg4 1)
  have z4 := E3.out.trans (b4.mono E3.out.size)
  have E4 := Lib.hid (put4_below (g := w1.heap.size) z4 gebb (.int .i64 1) (.slice da4 dm4 dc4) (.slice pa4 pm4 pc4) (.slice ga4 gm4 gc4))
  clear td4 tp4 tg4 b4 z4 E3 bb3
  clear hst
  go_wp2_with fail
  have h5 := getBu_c 1 2 0 _ _ _ [] [] [] _ bb4.out.td.rd bb4.out.tp.rd bb4.out.tg.rd (by unfold WfW; decide) (by unfold WfW; decide) (by decide) (by decide) (by decide)
  rw [ab5] at h5
  refine h5.mono ?_
  clear h5
  rintro e w5 ⟨vd5, vp5, vg5, rfl, td5, tp5, tg5, b5⟩
  obtain ⟨da5, dm5, dc5, rfl⟩ := Ty.shape3 td5
  obtain ⟨pa5, pm5, pc5, rfl⟩ := Ty.shape3 tp5
  obtain ⟨ga5, gm5, gc5, rfl⟩ := Ty.shape3 tg5
  clear bbx0 bbx1 bbx2 bbx3 bbx4 bbx5 bbx6 bbx7 bbxb
  obtain ⟨bbx0, bbx1, bbx2, bbx3, bbx4, bbx5, bbx6, bbx7⟩ := fourBlk (bb4.out.next b5).blk
  have bbxb := blk_lt (bb4.out.next b5).blk
  have bb5 := Lib.hid ((bb4.out.next b5).put td5 tp5 tg5 1)
  have z5 := E4.out.trans (b5.mono E4.out.size)
  have E5 := Lib.hid (put4_below (g := w1.heap.size) z5 gebb (.int .i64 1) (.slice da5 dm5 dc5) (.slice pa5 pm5 pc5) (.slice ga5 gm5 gc5))
  clear td5 tp5 tg5 b5 z5 E4 bb4
  go_wp2_with fail
  have h6 := putBu_c 1 0 0 7 _ _ _ [] [] [⟨2, 0, 0⟩] _ bb5.out.td.rd bb5.out.tp.rd bb5.out.tg.rd (by unfold WfW; decide) (by unfold WfW; decide) (by decide) (by decide) (by decide)
  rw [ab6] at h6
  refine h6.mono ?_
  clear h6
  rintro e w6 ⟨vd6, vp6, vg6, rfl, td6, tp6, tg6, b6⟩
  obtain ⟨da6, dm6, dc6, rfl⟩ := Ty.shape3 td6
  obtain ⟨pa6, pm6, pc6, rfl⟩ := Ty.shape3 tp6
  obtain ⟨ga6, gm6, gc6, rfl⟩ := Ty.shape3 tg6
  clear bbx0 bbx1 bbx2 bbx3 bbx4 bbx5 bbx6 bbx7 bbxb
  obtain ⟨bbx0, bbx1, bbx2, bbx3, bbx4, bbx5, bbx6, bbx7⟩ := fourBlk (bb5.out.next b6).blk
  have bbxb := blk_lt (bb5.out.next b6).blk
  have bb6 := Lib.hid ((bb5.out.next b6).alloc (.cells #[.int .i64 1, .slice da6 dm6 dc6, .slice pa6 pm6 pc6, .slice ga6 gm6 gc6] 125))
  have zz6 := Lib.hid (UB.new (n := 1) td6 tp6 tg6)
  have z6 := E5.out.trans (b6.mono E5.out.size)
  have E6 := Lib.hid (z6.alloc z6.size (.cells #[.int .i64 1, .slice da6 dm6 dc6, .slice pa6 pm6 pc6, .slice ga6 gm6 gc6] 125))
  have gezz : w.heap.size ≤ w6.heap.size := z6.size
  have nbbzz : w1.heap.size ≠ w6.heap.size := Nat.ne_of_lt bbxb
  have nzzbb : w6.heap.size ≠ w1.heap.size := Nat.ne_of_gt bbxb
  clear td6 tp6 tg6 b6 z6 E5 bb5
  clear zz6
  go_wp2_with fail
  have h7 := lookBd_c false 0 3 1 _ [] _ (FrW.nil (w6.alloc (.cells #[.int .i64 1, .slice da6 dm6 dc6, .slice pa6 pm6 pc6, .slice ga6 gm6 gc6] 125)) 0).1 (by unfold WfW; decide) (by decide)
  rw [ab7] at h7
  refine h7.mono ?_
  clear h7
  rintro e w7 ⟨vw7, rfl, tw7, b7⟩
  obtain ⟨wa7, wm7, wc7, rfl⟩ := Ty.shape3 tw7
  clear bbx0 bbx1 bbx2 bbx3 bbx4 bbx5 bbx6 bbx7 bbxb
  obtain ⟨bbx0, bbx1, bbx2, bbx3, bbx4, bbx5, bbx6, bbx7⟩ := fourBlk (bb6.out.next b7).blk
  have bbxb := blk_lt (bb6.out.next b7).blk
  have bb7 := Lib.hid ((bb6.out.next b7).alloc (.cells #[.bool false, .int .u8 0, .slice wa7 wm7 wc7] 131))
  have cc7 := Lib.hid (UD.new (h := false) (x := 0) tw7)
  have z7 := E6.out.trans (b7.mono E6.out.size)
  have E7 := Lib.hid (z7.alloc z7.size (.cells #[.bool false, .int .u8 0, .slice wa7 wm7 wc7] 131))
  have gecc : w.heap.size ≤ w7.heap.size := z7.size
  have nbbcc : w1.heap.size ≠ w7.heap.size := Nat.ne_of_lt bbxb
  have nccbb : w7.heap.size ≠ w1.heap.size := Nat.ne_of_gt bbxb
  clear tw7 b7 z7 E6 bb6
  go_wp2_with fail
  have h8 := lookBd_c false 0 4 2 _ [⟨3, 1, 0⟩] _ cc7.out.tw.rd (by unfold WfW; decide) (by decide)
  rw [ab8] at h8
  refine h8.mono ?_
  clear h8
  rintro e w8 ⟨vw8, rfl, tw8, b8⟩
  obtain ⟨wa8, wm8, wc8, rfl⟩ := Ty.shape3 tw8
  clear bbx0 bbx1 bbx2 bbx3 bbx4 bbx5 bbx6 bbx7 bbxb
  obtain ⟨bbx0, bbx1, bbx2, bbx3, bbx4, bbx5, bbx6, bbx7⟩ := fourBlk (bb7.out.next b8).blk
  have bbxb := blk_lt (bb7.out.next b8).blk
  obtain ⟨ccx0, ccx1, ccx2, ccx3, ccx4, ccx5⟩ := threeBlk (cc7.out.next b8).blk
  have ccxb := blk_lt (cc7.out.next b8).blk
  have bb8 := Lib.hid ((bb7.out.next b8).far3 (cc7.out.next b8).blk nbbcc (.bool false) (.int .u8 0) (.slice wa8 wm8 wc8))
  have cc8 := Lib.hid ((cc7.out.next b8).put tw8 false 0)
  have z8 := E7.out.trans (b8.mono E7.out.size)
  have E8 := Lib.hid (putD_below (g := w7.heap.size) z8 gecc (.bool false) (.int .u8 0) (.slice wa8 wm8 wc8))
  clear tw8 b8 z8 E7 bb7 cc7
  go_wp2_with fail
  have h9 := showBd_c false 0 9 _ [⟨4, 2, 0⟩, ⟨3, 1, 0⟩] _ cc8.out.tw.rd (by unfold WfW; decide) (by decide)
  rw [ab9] at h9
  refine h9.mono ?_
  clear h9
  rintro e w9 ⟨vw9, vu9, rfl, tw9, ou9, b9⟩
  obtain ⟨wa9, wm9, wc9, rfl⟩ := Ty.shape3 tw9
  obtain ⟨ua9, um9, uc9, rfl, hum9⟩ := own_shape ou9
  clear bbx0 bbx1 bbx2 bbx3 bbx4 bbx5 bbx6 bbx7 bbxb ccx0 ccx1 ccx2 ccx3 ccx4 ccx5 ccxb
  obtain ⟨bbx0, bbx1, bbx2, bbx3, bbx4, bbx5, bbx6, bbx7⟩ := fourBlk (bb8.out.next b9).blk
  have bbxb := blk_lt (bb8.out.next b9).blk
  obtain ⟨ccx0, ccx1, ccx2, ccx3, ccx4, ccx5⟩ := threeBlk (cc8.out.next b9).blk
  have ccxb := blk_lt (cc8.out.next b9).blk
  have bb9 := Lib.hid ((bb8.out.next b9).far3 (cc8.out.next b9).blk nbbcc (.bool true) (.int .u8 9) (.slice wa9 wm9 wc9))
  have cc9 := Lib.hid ((cc8.out.next b9).put tw9 true 9)
  have z9 := E8.out.trans (b9.mono E8.out.size)
  have E9 := Lib.hid (putD_below (g := w7.heap.size) z9 gecc (.bool true) (.int .u8 9) (.slice wa9 wm9 wc9))
  have WK9 := Lib.hid ((UI.of ou9).far3 (cc8.out.next b9).blk (.bool true) (.int .u8 9) (.slice wa9 wm9 wc9))
  clear hum9
  clear tw9 ou9 b9 z9 E8 bb8 cc8
  go_wp2_with fail
  have h10 := lookBd_c true 9 3 1 _ [] _ cc9.out.tw.rd (by unfold WfW; decide) (by decide)
  rw [ab10] at h10
  refine h10.mono ?_
  clear h10
  rintro e w10 ⟨vw10, rfl, tw10, b10⟩
  obtain ⟨wa10, wm10, wc10, rfl⟩ := Ty.shape3 tw10
  clear bbx0 bbx1 bbx2 bbx3 bbx4 bbx5 bbx6 bbx7 bbxb ccx0 ccx1 ccx2 ccx3 ccx4 ccx5 ccxb
  obtain ⟨bbx0, bbx1, bbx2, bbx3, bbx4, bbx5, bbx6, bbx7⟩ := fourBlk (bb9.out.next b10).blk
  have bbxb := blk_lt (bb9.out.next b10).blk
  obtain ⟨ccx0, ccx1, ccx2, ccx3, ccx4, ccx5⟩ := threeBlk (cc9.out.next b10).blk
  have ccxb := blk_lt (cc9.out.next b10).blk
  have bb10 := Lib.hid (bb9.out.next b10)
  have cc10 := Lib.hid (cc9.out.next b10)
  have WK10 := Lib.hid (WK9.out.next b10)
  have z10 : True := trivial
  have E10 := Lib.hid (E9.out.trans (b10.mono E9.out.size))
  clear tw10 b10 z10 E9 bb9 cc9 WK9
  go_wp2_with fail
  have h11 := clearBd_c true 9  _ [] _ cc10.out.tw.rd (by unfold WfW; decide) (by decide)
  rw [ab11] at h11
  refine h11.mono ?_
  clear h11
  rintro e w11 ⟨vw11, rfl, tw11, b11⟩
  obtain ⟨wa11, wm11, wc11, rfl⟩ := Ty.shape3 tw11
  clear bbx0 bbx1 bbx2 bbx3 bbx4 bbx5 bbx6 bbx7 bbxb ccx0 ccx1 ccx2 ccx3 ccx4 ccx5 ccxb
  obtain ⟨bbx0, bbx1, bbx2, bbx3, bbx4, bbx5, bbx6, bbx7⟩ := fourBlk (bb10.out.next b11).blk
  have bbxb := blk_lt (bb10.out.next b11).blk
  obtain ⟨ccx0, ccx1, ccx2, ccx3, ccx4, ccx5⟩ := threeBlk (cc10.out.next b11).blk
  have ccxb := blk_lt (cc10.out.next b11).blk
  have bb11 := Lib.hid ((bb10.out.next b11).far3 (cc10.out.next b11).blk nbbcc (.bool false) (.int .u8 0) (.slice wa11 wm11 wc11))
  have cc11 := Lib.hid ((cc10.out.next b11).put tw11 false 0)
  have WK11 := Lib.hid ((WK10.out.next b11).far3 (cc10.out.next b11).blk (.bool false) (.int .u8 0) (.slice wa11 wm11 wc11))
  have z11 := E10.out.trans (b11.mono E10.out.size)
  have E11 := Lib.hid (putD_below (g := w7.heap.size) z11 gecc (.bool false) (.int .u8 0) (.slice wa11 wm11 wc11))
  clear tw11 b11 z11 E10 bb10 cc10 WK10
  go_wp2_with fail
  have h12 := lookBd_c false 0 3 1 _ [] _ cc11.out.tw.rd (by unfold WfW; decide) (by decide)
  rw [ab7] at h12
  refine h12.mono ?_
  clear h12
  rintro e w12 ⟨vw12, rfl, tw12, b12⟩
  obtain ⟨wa12, wm12, wc12, rfl⟩ := Ty.shape3 tw12
  clear bbx0 bbx1 bbx2 bbx3 bbx4 bbx5 bbx6 bbx7 bbxb ccx0 ccx1 ccx2 ccx3 ccx4 ccx5 ccxb
  obtain ⟨bbx0, bbx1, bbx2, bbx3, bbx4, bbx5, bbx6, bbx7⟩ := fourBlk (bb11.out.next b12).blk
  have bbxb := blk_lt (bb11.out.next b12).blk
  obtain ⟨ccx0, ccx1, ccx2, ccx3, ccx4, ccx5⟩ := threeBlk (cc11.out.next b12).blk
  have ccxb := blk_lt (cc11.out.next b12).blk
  have bb12 := Lib.hid (bb11.out.next b12)
  have cc12 := Lib.hid (cc11.out.next b12)
  have WK12 := Lib.hid (WK11.out.next b12)
  have z12 : True := trivial
  have E12 := Lib.hid (E11.out.trans (b12.mono E11.out.size))
  clear tw12 b12 z12 E11 bb11 cc11 WK11
  go_wp2_with fail
  have hi := ints_c _ _ [4, 3] [4, 3] (w12.alloc (.cells #[.int .i64 4, .int .i64 3] 3)) (WK12.out.alloc _).rd (rdI_two w12 _ 4 3) (by decide) (by decide)
  rw [show decide (([4, 3] : List Int) = [4, 3]) = true from by decide] at hi
  refine hi.mono ?_
  clear hi
  rintro e w13 ⟨rfl, k13, rfl⟩
  have E13 := Lib.hid (below_drewN' (E12.out.alloc E12.out.size (.cells #[.int .i64 4, .int .i64 3] 3)) k13)
  go_wp2_with fail
  go_ret
  exact ⟨rfl, E13.out⟩
end Go.Proofs.Ytglbfmcbojjglaa

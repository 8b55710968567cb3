/-
  QueuingBounds: for every port and every number the call returns true, and nothing that was there before has turned. No conditions.
-/
import Derived.Test.YtglbfmcbojjglaaQueuingWakes
import Derived.Test.YtglbfmcbojjglaaQueuingWrong
import Derived.Deep.RegionHeld3
import Derived.Deep.OwnRows
import Derived.Laws.OwnMore
namespace Go.Proofs.Ytglbfmcbojjglaa
open Go.RowKit

theorem allocB2 (w : World) (o o' : Obj) : ((w.alloc o).alloc o').heap[w.heap.size + 1]? = some o' := allocQ2 w o o'
theorem far_new {W : World} {g : Nat} {ob o' : Obj} (h : W.heap[g]? = some ob) : (W.alloc o').heap[g]? = some ob := far_alloc h
theorem mk_zeros (x : Int) (n : Nat) (hx : x = (n : Int)) (hn : n ≤ 1000000) (W : World) : (Instr.makeSlice 28 (.int .i64 x) (.int .i64 x)).run Try.prog W = .ok (.slice (some ⟨W.heap.size, 0, none⟩) n n) (W.alloc (.cells (madeCells #[.int .u8 0] n) 5)) := by
  subst hx
  exact run_make_row' 28 5 (.int .u8 0) 1 Try.underlying28 info_B rfl .i64 .i64 n (by omega) (by omega) W
theorem made_rd {W : World} {g : Nat} {t : TypeId} (n : Nat) (h : W.heap[g]? = some (.cells (madeCells #[.int .u8 0] n) t (0, 0))) : RdI .u8 W 0 (.slice (some ⟨g, 0, none⟩) n n) (List.replicate n 0) := by
  refine ⟨_, _, by rw [List.length_replicate], by simp, by simp, by simp, fun _ => ⟨g, 0, rfl, Nat.zero_le _, blk_lt h, fun j u hj => ?_⟩⟩
  rw [cell_of_row W _ _ _ _ _ h, Nat.zero_add]
  have := toList_madeCells_one (.int .u8 0) n
  rw [List.map_replicate] at hj
  rw [← Array.getElem?_toList, this]
  exact hj
theorem low3q {W : World} {B g : Nat} {v : Value} {q : List (List Int)} {x y z : Value} (h : RdQ W B v q) (hg : g < B) : RdQ (put3 W g x y z) B v q := ((h.low hg).low hg).low hg
theorem low3w {W : World} {B g : Nat} {v : Value} {l : List Wt} {x y z : Value} (h : FrW W B v l) (hg : g < B) : FrW (put3 W g x y z) B v l := ((h.low hg).low hg).low hg
theorem send_empty {k s d r n : Int} {q : List (List Int)} {l : List Wt} : sendQ k s d r q l n [] = (q, l, n, -1, 2) := by simp [sendQ]
theorem Sl.cellfar {w : World} {B sz m : Nat} {v : Value} {xs : List Value} {p : Addr} {u y : Value} (h : Sl w B sz v m xs) (hc : w.cell? p = some y) (hy : y ∉ xs) : Sl (w.setCell p u) B sz v m xs := by
  obtain ⟨ao, cap, hv, h1, h2, h3, hp⟩ := h
  refine ⟨ao, cap, hv, h1, h2, h3, fun h0 => ?_⟩
  obtain ⟨b, off, ha, hB, hb, hcs⟩ := hp h0
  refine ⟨b, off, ha, hB, by simpa [World.setCell] using hb, fun j x hx => ?_⟩
  have hx' := hcs j x hx
  have hne : p ≠ ⟨b, off + j, none⟩ := by
    intro e
    rw [e, hx'] at hc
    simp only [Option.some.injEq] at hc
    subst hc
    exact hy (List.mem_of_getElem? hx)
  rw [World.cell?_setCell_other _ _ _ _ hne]
  exact hx'
/-- A number of a state is written: the messages are as they were, since none of their cells holds an int. -/
theorem RdQ.cellfar {w : World} {B : Nat} {v : Value} {q : List (List Int)} {p : Addr} {u : Value} {n : Int} (h : RdQ w B v q) (hc : w.cell? p = some (.int .i64 n)) : RdQ (w.setCell p u) B v q := by
  obtain ⟨vs, hs, hin⟩ := h
  have hlen : vs.length = q.length := by have := hs; obtain ⟨_, _, _, _, _, h3, _⟩ := this; simpa using h3
  refine ⟨vs, hs.cellfar hc (fun hm => ?_), fun i x y hx hy => ?_⟩
  · obtain ⟨i, hi, he⟩ := List.getElem_of_mem hm
    have := hin i vs[i] q[i] (List.getElem?_eq_getElem hi) (List.getElem?_eq_getElem (by omega))
    obtain ⟨a, cc, hv, _⟩ := this.open_
    rw [he] at hv
    cases hv
  · exact Sl.cellfar (hin i x y hx hy) hc (by simp)
/-- The copy of the state. -/
structure FQ (W : World) (B g : Nat) (vq vw : Value) (n : Int) (q : List (List Int)) : Prop where
  blk : W.heap[g]? = some (.cells #[vq, vw, .int .i64 n] 27 (0, 0))
  rq : RdQ W B vq q
  fr : FrW W B vw []
theorem FQ.next {W W' : World} {B g : Nat} {vq vw : Value} {n : Int} {q : List (List Int)} (h : FQ W B g vq vw n q) (hb : Below W.heap.size W W') : FQ W' B g vq vw n q := ⟨(hb.block _ (blk_lt h.blk)).trans h.blk, h.rq.below hb, h.fr.below hb⟩
theorem FQ.put {W : World} {B g g' : Nat} {vq vw : Value} {n : Int} {q : List (List Int)} (h : FQ W B g vq vw n q) (hg : g' < B) (hne : g ≠ g') (x y z : Value) : FQ (put3 W g' x y z) B g vq vw n q := ⟨far_set (far_set (far_set h.blk hne) hne) hne, low3q h.rq hg, low3w h.fr hg⟩
theorem LT.qr {W : World} {B g : Nat} {vq vw : Value} {n : Int} {q : List (List Int)} {l : List Wt} (h : LT W B g vq vw n q l) : QR W g vq vw n q l := ⟨h.blk, h.rq.mono (Nat.zero_le _), h.fr.rd⟩

set_option maxHeartbeats 16000000 in
set_option maxRecDepth 100000 in
theorem queuingBounds_c (nm : ByteArray) (c : Int) (o : Bool) (s d r : Int) (more : Int) (w : World) (hw0 : 0 ≤ more) (hw1 : more ≤ 255) :
    Calls Try.prog 7 #[.agg #[.string nm, .int .u8 c, .bool o, .int .i64 s, .int .i64 d, .int .i64 r], .int .u8 more] w fun e w' => e = .returned (.bool true) ∧ Below w.heap.size w w' := by
  obtain ⟨WX, hWX⟩ : ∃ WX, WX = (w.alloc (.cells #[.string nm, .int .u8 c, .bool o, .int .i64 s, .int .i64 d, .int .i64 r] 23)).alloc (.cells #[.slice none 0 0, .slice none 0 0, .int .i64 0] 27) := ⟨_, rfl⟩
  have PX : Hid (PV w WX nm c o s d r) := by
    subst hWX
    exact ⟨(Below.heap_alloc _ _ _ (by simp)).trans (heap_alloc_new w _), ((Below.refl _ w).alloc (Nat.le_refl _) _).alloc (by simp) _⟩
  have LX : Hid (LT WX (w.heap.size + 2) (w.heap.size + 1) (.slice none 0 0) (.slice none 0 0) 0 [] []) := by
    subst hWX
    refine ⟨?_, by omega, RdQ.nil _ _, FrW.nil _ _⟩
    exact allocB2 w _ _
  have hsx : (w.heap.size + 2) ≤ WX.heap.size := by subst hWX; simp
  have HWX := Lib.hid hWX
  clear hWX
  go_enter Try.func7, Try.ntmps7
  go_wp2_with fail
  rw [← HWX.out]
  refine (validQ_c nm c o s d r 0 _ _ [] [] WX (RdQ.nil _ _) (FrW.nil WX 0).1 (by unfold WfW; decide) (by decide) (by decide)).mono ?_
  rintro e w1 ⟨rfl, b1⟩
  have P1 := Lib.hid (PX.out.next b1)
  have L1 := Lib.hid (LX.out.next b1)
  have hs1 : (w.heap.size + 2) ≤ w1.heap.size := Nat.le_trans hsx b1.size
  clear b1 PX LX HWX
  cases hv : vldQ c s d r [] [] 0 with
  | false =>
    clear hv
    go_wp2_with fail
    refine (awake23_c _).mono ?_
    rintro e w9 ⟨rfl, b9⟩
    have HB9 := Lib.hid ((P1.out).next b9).bel
    clear b9
    go_wp2_with fail
    go_ret
    exact ⟨rfl, HB9.out⟩
  | true =>
    obtain ⟨hq1, hq2, hq3, hq4, _⟩ := vldQ_port hv
    obtain ⟨sn, rfl⟩ : ∃ sn : Nat, s = (sn : Int) := ⟨s.toNat, by omega⟩
    obtain ⟨dn, rfl⟩ : ∃ dn : Nat, d = (dn : Int) := ⟨d.toNat, by omega⟩
    have hs1' : 1 ≤ sn := by omega
    have hs2' : sn ≤ 64 := by omega
    have hd1' : 1 ≤ dn := by omega
    have hd2' : dn ≤ 16 := by omega
    obtain ⟨mn, hmn⟩ : ∃ mn : Nat, more % 21 = (mn : Int) := ⟨(more % 21).toNat, by omega⟩
    have hmn' : mn ≤ 20 := by omega
    have HMN := Lib.hid hmn
    have HV := Lib.hid hv
    clear hv hq1 hq2 hq3 hq4 hmn
    obtain ⟨p0, p1, p2, p3, p4, p5⟩ := sixBlk P1.out.prt
    have hp1 := blk_lt P1.out.prt
    obtain ⟨x0, x1, x2, _, _, _⟩ := threeBlk L1.out.blk
    have hx1 := blk_lt L1.out.blk
    go_wp2_with fail
    have h2 := sendQ_c nm c o sn dn r 0 (.slice none 0 0) [] _ _ [] [] w1 (L1.out.rq.mono (Nat.zero_le _)) L1.out.fr.rd (by unfold WfW; decide) (by decide) (by decide) (by simp) (RdI.nil _ _ _) (by decide)
    rw [send_empty] at h2
    refine h2.mono ?_
    clear h2
    rintro e w2 ⟨vq2, vw2, rfl, rq2, fr2, b2⟩
    obtain ⟨a2, m2, c2, rfl⟩ := rq_shape rq2
    obtain ⟨d2, k2, e2, rfl⟩ := rw_shape fr2.1
    have P2 := Lib.hid ((P1.out.next b2).alloc (.cells #[.slice a2 m2 c2, .slice d2 k2 e2, .int .i64 0] 27))
    have L2 := Lib.hid ((L1.out.next b2).alloc (.cells #[.slice a2 m2 c2, .slice d2 k2 e2, .int .i64 0] 27))
    have hs2 : (w.heap.size + 2) ≤ (w2.alloc (.cells #[.slice a2 m2 c2, .slice d2 k2 e2, .int .i64 0] 27)).heap.size := by have := b2.size; simp; omega
    clear rq2 fr2 b2 P1 L1 hp1 hx1 p0 p1 p2 p3 p4 p5 x0 x1 x2
    go_upto_region 5 with (fail)
    obtain ⟨WA, hWA⟩ : ∃ WA, WA = w2.alloc (.cells #[.slice a2 m2 c2, .slice d2 k2 e2, .int .i64 0] 27) := ⟨_, rfl⟩
    rw [← hWA] at P2 L2 hs2 ⊢
    clear hWA
    have YA := Lib.hid L2.out.qr
    have hwr : IntKind.i64.wrap ((sn : Int) + 1) = (sn : Int) + 1 := by rw [IntKind.wrap_i64]; omega
    obtain ⟨p0, p1, p2, p3, p4, p5⟩ := sixBlk P2.out.prt
    have hp := blk_lt P2.out.prt
    obtain ⟨x0, x1, x2, _, _, _⟩ := threeBlk YA.out.blk
    have hx := blk_lt YA.out.blk
    have hmk : ∀ W : World, (Instr.makeSlice 28 (.int .i64 ((sn : Int) + 1)) (.int .i64 ((sn : Int) + 1))).run Try.prog W = .ok (.slice (some ⟨W.heap.size, 0, none⟩) (sn + 1) (sn + 1)) (W.alloc (.cells (madeCells #[.int .u8 0] (sn + 1)) 5)) := mk_zeros _ (sn + 1) (by omega) (by omega)
    go_cut [9, 10, 11] (fun sv sw se wx => ∃ (g : Nat) (a2 : Option Addr) (m2 c2 : Nat) (d2 : Option Addr) (k2 e2 : Nat), sv = .pointer (some ⟨g, 0, none⟩) ∧ sw = .int .i64 (-1) ∧ se = .int .i64 3 ∧ Aside (Below WA.heap.size WA wx ∧ WA.heap.size ≤ g ∧ wx.heap[g]? = some (.cells #[.slice a2 m2 c2, .slice d2 k2 e2, .int .i64 0] 27 (0, 0)) ∧ RdQ wx WA.heap.size (.slice a2 m2 c2) ([]) ∧ FrW wx WA.heap.size (.slice d2 k2 e2) []))
    case first =>
      have Ba : Hid (Below WA.heap.size WA ((WA.alloc (.cells (madeCells #[.int .u8 0] (sn + 1)) 5)).drew)) := (((Below.refl _ WA).alloc (Nat.le_refl _) _).drew)
      have Ca : Hid (Calls Try.prog 27 #[.agg #[.string nm, .int .u8 c, .bool o, .int .i64 sn, .int .i64 dn, .int .i64 r], .agg #[.slice none 0 0, .slice none 0 0, .int .i64 0], .slice (some ⟨WA.heap.size, 0, none⟩) (sn + 1) (sn + 1)] ((WA.alloc (.cells (madeCells #[.int .u8 0] (sn + 1)) 5)).drew) (RetQ ((WA.alloc (.cells (madeCells #[.int .u8 0] (sn + 1)) 5)).drew) ([]) [] 0 (.int .i64 (-1)) (.int .i64 3))) := by
        have h := sendQ_c nm c o sn dn r 0 (.slice (some ⟨WA.heap.size, 0, none⟩) (sn + 1) (sn + 1)) (List.replicate (sn + 1) 0) _ _ ([]) [] ((WA.alloc (.cells (madeCells #[.int .u8 0] (sn + 1)) 5)).drew) ((YA.out.rq.below Ba.out).mono (Nat.zero_le _)) ((YA.out.rw_.below Ba.out).mono (Nat.zero_le _)) (by unfold WfW; decide) (by decide) (by decide) (by simp) (made_rd (sn + 1) (by exact heap_alloc_new WA _)) (by simp; omega)
        rw [send_long (x := List.replicate (sn + 1) 0) HV.out (by simp [List.replicate_succ]) (by simp; omega)] at h
        exact h
      have Bb : Hid (Below WA.heap.size WA (((WA.alloc (.cells #[.slice none 0 0, .slice none 0 0, .int .i64 0] 27)).alloc (.cells (madeCells #[.int .u8 0] (sn + 1)) 5)).drew)) := ((((Below.refl _ WA).alloc (Nat.le_refl _) _).alloc (by simp) _).drew)
      have Cb : Hid (Calls Try.prog 27 #[.agg #[.string nm, .int .u8 c, .bool o, .int .i64 sn, .int .i64 dn, .int .i64 r], .agg #[.slice none 0 0, .slice none 0 0, .int .i64 0], .slice (some ⟨WA.heap.size + 1, 0, none⟩) (sn + 1) (sn + 1)] (((WA.alloc (.cells #[.slice none 0 0, .slice none 0 0, .int .i64 0] 27)).alloc (.cells (madeCells #[.int .u8 0] (sn + 1)) 5)).drew) (RetQ (((WA.alloc (.cells #[.slice none 0 0, .slice none 0 0, .int .i64 0] 27)).alloc (.cells (madeCells #[.int .u8 0] (sn + 1)) 5)).drew) ([]) [] 0 (.int .i64 (-1)) (.int .i64 3))) := by
        have h := sendQ_c nm c o sn dn r 0 (.slice (some ⟨WA.heap.size + 1, 0, none⟩) (sn + 1) (sn + 1)) (List.replicate (sn + 1) 0) _ _ ([]) [] (((WA.alloc (.cells #[.slice none 0 0, .slice none 0 0, .int .i64 0] 27)).alloc (.cells (madeCells #[.int .u8 0] (sn + 1)) 5)).drew) ((YA.out.rq.below Bb.out).mono (Nat.zero_le _)) ((YA.out.rw_.below Bb.out).mono (Nat.zero_le _)) (by unfold WfW; decide) (by decide) (by decide) (by simp) (made_rd (sn + 1) (by exact allocB2 WA _ _)) (by simp; omega)
        rw [send_long (x := List.replicate (sn + 1) 0) HV.out (by simp [List.replicate_succ]) (by simp; omega)] at h
        exact h
      have Zb : Hid ((((WA.alloc (.cells #[.slice none 0 0, .slice none 0 0, .int .i64 0] 27)).alloc (.cells (madeCells #[.int .u8 0] (sn + 1)) 5)).drew).heap[WA.heap.size]? = some (.cells #[.slice none 0 0, .slice none 0 0, .int .i64 0] 27 (0, 0))) := far_new (heap_alloc_new WA _)
      have Bc : Hid (Below WA.heap.size WA (((WA.alloc (.cells (madeCells #[.int .u8 0] (sn + 1)) 5)).alloc (.cells #[.slice none 0 0, .slice none 0 0, .int .i64 0] 27)).drew)) := ((((Below.refl _ WA).alloc (Nat.le_refl _) _).alloc (by simp) _).drew)
      have Cc : Hid (Calls Try.prog 27 #[.agg #[.string nm, .int .u8 c, .bool o, .int .i64 sn, .int .i64 dn, .int .i64 r], .agg #[.slice none 0 0, .slice none 0 0, .int .i64 0], .slice (some ⟨WA.heap.size, 0, none⟩) (sn + 1) (sn + 1)] (((WA.alloc (.cells (madeCells #[.int .u8 0] (sn + 1)) 5)).alloc (.cells #[.slice none 0 0, .slice none 0 0, .int .i64 0] 27)).drew) (RetQ (((WA.alloc (.cells (madeCells #[.int .u8 0] (sn + 1)) 5)).alloc (.cells #[.slice none 0 0, .slice none 0 0, .int .i64 0] 27)).drew) ([]) [] 0 (.int .i64 (-1)) (.int .i64 3))) := by
        have h := sendQ_c nm c o sn dn r 0 (.slice (some ⟨WA.heap.size, 0, none⟩) (sn + 1) (sn + 1)) (List.replicate (sn + 1) 0) _ _ ([]) [] (((WA.alloc (.cells (madeCells #[.int .u8 0] (sn + 1)) 5)).alloc (.cells #[.slice none 0 0, .slice none 0 0, .int .i64 0] 27)).drew) ((YA.out.rq.below Bc.out).mono (Nat.zero_le _)) ((YA.out.rw_.below Bc.out).mono (Nat.zero_le _)) (by unfold WfW; decide) (by decide) (by decide) (by simp) (made_rd (sn + 1) (by exact far_new (heap_alloc_new WA _))) (by simp; omega)
        rw [send_long (x := List.replicate (sn + 1) 0) HV.out (by simp [List.replicate_succ]) (by simp; omega)] at h
        exact h
      have Zc : Hid ((((WA.alloc (.cells (madeCells #[.int .u8 0] (sn + 1)) 5)).alloc (.cells #[.slice none 0 0, .slice none 0 0, .int .i64 0] 27)).drew).heap[WA.heap.size + 1]? = some (.cells #[.slice none 0 0, .slice none 0 0, .int .i64 0] 27 (0, 0))) := allocB2 WA _ _
      have hne1 : WA.heap.size ≠ w.heap.size := by omega
      have hne2 : WA.heap.size + 1 ≠ w.heap.size := by omega
      have hne3 : WA.heap.size ≠ (w.heap.size + 1) := by omega
      have hne4 : WA.heap.size + 1 ≠ (w.heap.size + 1) := by omega
      go_region_held3 (fun w' => w'.cell? ⟨w.heap.size, 0, none⟩ = some (.string nm) ∧ w'.cell? ⟨w.heap.size, 1, none⟩ = some (.int .u8 c) ∧ w'.cell? ⟨w.heap.size, 2, none⟩ = some (.bool o) ∧ w'.cell? ⟨w.heap.size, 3, none⟩ = some (.int .i64 sn) ∧ w'.cell? ⟨w.heap.size, 4, none⟩ = some (.int .i64 dn) ∧ w'.cell? ⟨w.heap.size, 5, none⟩ = some (.int .i64 r) ∧ w'.cell? ⟨(w.heap.size + 1), 0, none⟩ = some (.slice none 0 0) ∧ w'.cell? ⟨(w.heap.size + 1), 1, none⟩ = some (.slice none 0 0) ∧ w'.cell? ⟨(w.heap.size + 1), 2, none⟩ = some (.int .i64 0)) (first | go_keep | (refine ⟨?_, ?_, ?_, ?_, ?_, ?_, ?_, ?_, ?_⟩ <;> assumption) | (refine ⟨?_, ?_, ?_, ?_, ?_, ?_, ?_, ?_, ?_⟩ <;> simp [*, World.cell?_setCell_far]))
        ((first | (go_at_call 27; (with_reducible refine (Ca.out).mono ?_); rintro e w2 ⟨vq2, vw2, rfl, rq2, fr2, b2⟩; obtain ⟨a2, m2, c2, rfl⟩ := rq_shape rq2; obtain ⟨d2, k2, e2, rfl⟩ := rw_shape fr2.1; have HB2 := Lib.hid (Ba.out.trans (b2.mono Ba.out.size)); obtain ⟨r0, r1, r2, r3, r4, r5⟩ := sixBlk (P2.out.next HB2.out).prt; obtain ⟨y0, y1, y2, _, _, _⟩ := threeBlk ((HB2.out.block _ hx).trans YA.out.blk); have hs2 : WA.heap.size ≤ w2.heap.size := HB2.out.size; have hn1 : w2.heap.size ≠ w.heap.size := (by omega); have hn2 : w2.heap.size ≠ (w.heap.size + 1) := (by omega); have RQ := Lib.hid rq2; have FR := Lib.hid fr2; clear rq2 fr2 b2) | (go_at_call 27; (with_reducible refine (Cb.out).mono ?_); rintro e w2 ⟨vq2, vw2, rfl, rq2, fr2, b2⟩; obtain ⟨a2, m2, c2, rfl⟩ := rq_shape rq2; obtain ⟨d2, k2, e2, rfl⟩ := rw_shape fr2.1; have HB2 := Lib.hid (Bb.out.trans (b2.mono Bb.out.size)); obtain ⟨r0, r1, r2, r3, r4, r5⟩ := sixBlk (P2.out.next HB2.out).prt; obtain ⟨y0, y1, y2, _, _, _⟩ := threeBlk ((HB2.out.block _ hx).trans YA.out.blk); have hs2 : WA.heap.size ≤ w2.heap.size := HB2.out.size; have hn1 : w2.heap.size ≠ w.heap.size := (by omega); have hn2 : w2.heap.size ≠ (w.heap.size + 1) := (by omega); have RQ := Lib.hid rq2; have FR := Lib.hid fr2; have hv := (b2.block _ (blk_lt Zb.out)).trans Zb.out; obtain ⟨z0, z1, z2, z3, z4, z5⟩ := threeBlk hv; have hq7 := blk_lt hv; have HV := Lib.hid hv; clear hv; clear rq2 fr2 b2) | (go_at_call 27; (with_reducible refine (Cc.out).mono ?_); rintro e w2 ⟨vq2, vw2, rfl, rq2, fr2, b2⟩; obtain ⟨a2, m2, c2, rfl⟩ := rq_shape rq2; obtain ⟨d2, k2, e2, rfl⟩ := rw_shape fr2.1; have HB2 := Lib.hid (Bc.out.trans (b2.mono Bc.out.size)); obtain ⟨r0, r1, r2, r3, r4, r5⟩ := sixBlk (P2.out.next HB2.out).prt; obtain ⟨y0, y1, y2, _, _, _⟩ := threeBlk ((HB2.out.block _ hx).trans YA.out.blk); have hs2 : WA.heap.size ≤ w2.heap.size := HB2.out.size; have hn1 : w2.heap.size ≠ w.heap.size := (by omega); have hn2 : w2.heap.size ≠ (w.heap.size + 1) := (by omega); have RQ := Lib.hid rq2; have FR := Lib.hid fr2; have hv := (b2.block _ (blk_lt Zc.out)).trans Zc.out; obtain ⟨z0, z1, z2, z3, z4, z5⟩ := threeBlk hv; have hq7 := blk_lt hv; have HV := Lib.hid hv; clear hv; clear rq2 fr2 b2)))
      all_goals
        go_wp2_with fail
        go_meet
        first
          | exact ⟨_, _, _, _, _, _, _, rfl, rfl, rfl, HB2.out.alloc HB2.out.size _, hs2, heap_alloc_new w2 _, (RQ.out.mono Ba.out.size).alloc _, (FR.out.mono Ba.out.size).alloc _⟩
          | exact ⟨_, _, _, _, _, _, _, rfl, rfl, rfl, put3_below HB2.out (Nat.le_refl _) _ _ _, Nat.le_refl _, put3_blk HV.out, (low3q RQ.out (by first | (simp; done) | (simp; omega))).mono Bb.out.size, (low3w FR.out (by first | (simp; done) | (simp; omega))).mono Bb.out.size⟩
          | exact ⟨_, _, _, _, _, _, _, rfl, rfl, rfl, put3_below HB2.out (Nat.le_succ _) _ _ _, Nat.le_succ _, put3_blk HV.out, (low3q RQ.out (by first | (simp; done) | (simp; omega))).mono Bc.out.size, (low3w FR.out (by first | (simp; done) | (simp; omega))).mono Bc.out.size⟩
    case rest =>
      obtain ⟨g3, a3, m3, c3, d3, k3, e3, rfl, rfl, rfl, A⟩ := hcut
      have P3 := Lib.hid (P2.out.next A.out.1)
      have L3 := Lib.hid (L2.out.next A.out.1)
      have hs3 : w.heap.size + 2 ≤ wc.heap.size := Nat.le_trans hs2 A.out.1.size
      clear A P2 L2 YA hmk hwr p0 p1 p2 p3 p4 p5 x0 x1 x2 hp hx
      obtain ⟨wb, rfl⟩ : ∃ wb : World, wb = wc := ⟨_, rfl⟩
      obtain ⟨p0, p1, p2, p3, p4, p5⟩ := sixBlk P3.out.prt
      have hp3 := blk_lt P3.out.prt
      go_wp2_with fail
      go_loopg [12, 13, 14, 15, 61] dn (fun gg _ _ _ _ s61 wr => ∃ k : Nat, k ≤ dn ∧ dn - k ≤ gg ∧ s61 = .int .i64 k ∧ Aside (PV w wr nm c o sn dn r ∧ w.heap.size + 2 ≤ wr.heap.size ∧ ∃ vq vw, LT wr (w.heap.size + 2) (w.heap.size + 1) vq vw 0 (qz sn k) []))
      case atStart => exact ⟨0, Nat.zero_le _, by omega, rfl, P3.out, hs3, _, _, L3.out⟩
      case round =>
        obtain ⟨k, hk, hg, rfl, A⟩ := hrel
        obtain ⟨wo, rfl⟩ : ∃ wo : World, wo = wr := ⟨_, rfl⟩
        clear P3 L3 hs3 p0 p1 p2 p3 p4 p5 hp3
        obtain ⟨hP, hS, vq0, vw0, hL⟩ := A.out
        obtain ⟨a0, m0, c0, rfl⟩ := rq_shape hL.rq
        obtain ⟨d0, k0, e0, rfl⟩ := rw_shape hL.fr.1
        have P0 := Lib.hid hP
        have L0 := Lib.hid hL
        clear A hP hL
        by_cases hlt : k < dn
        · have hltz : (k : Int) < (dn : Int) := by omega
          have Y0 := Lib.hid L0.out.qr
          obtain ⟨kk, hkk⟩ : ∃ kk : Nat, kk = k % sn := ⟨_, rfl⟩
          have hkl : kk < sn := by rw [hkk]; exact Nat.mod_lt _ (by omega)
          have HSQ : Hid (sendQ c sn dn r (qz sn k) [] 0 (List.replicate (1 + kk) 0) = (qz sn (k + 1), [], 0, -1, 0)) := by rw [hkk]; exact send_qz HV.out (by omega)
          have HQL : Hid ((qz sn k).length ≤ 90000 ∧ ∀ x ∈ qz sn k, x.length ≤ 1000000) := ⟨by rw [qz_length]; omega, fun x hx => by have := (qz_el hs1' hx).2; omega⟩
          have hsz : ((sn : Int) == 0) = false := by rw [beq_eq_false_iff_ne]; omega
          have hmod : Int.tmod (k : Int) (sn : Int) = (kk : Int) := by rw [hkk, Int.natCast_emod]; exact Int.tmod_eq_emod_of_nonneg (by omega)
          have hwr : IntKind.i64.wrap (1 + (kk : Int)) = 1 + (kk : Int) := by rw [IntKind.wrap_i64]; omega
          have hwk : IntKind.i64.wrap (kk : Int) = (kk : Int) := by rw [IntKind.wrap_i64]; omega
          have hsn0 : ¬ (sn = 0) := by omega
          have hsn1 : ¬ ((sn : Int) = 0) := by omega
          clear hkk
          obtain ⟨p0, p1, p2, p3, p4, p5⟩ := sixBlk P0.out.prt
          have hp := blk_lt P0.out.prt
          obtain ⟨x0, x1, x2, _, _, _⟩ := threeBlk Y0.out.blk
          have hx := blk_lt Y0.out.blk
          have hmk : ∀ W : World, (Instr.makeSlice 28 (.int .i64 (1 + (kk : Int))) (.int .i64 (1 + (kk : Int)))).run Try.prog W = .ok (.slice (some ⟨W.heap.size, 0, none⟩) (1 + kk) (1 + kk)) (W.alloc (.cells (madeCells #[.int .u8 0] (1 + kk)) 5)) := mk_zeros _ (1 + kk) (by omega) (by omega)
          go_upto_region 11 with (fail)
          go_cut [13, 14, 15] (fun sv sw se wx => ∃ (g : Nat) (a2 : Option Addr) (m2 c2 : Nat) (d2 : Option Addr) (k2 e2 : Nat), sv = .pointer (some ⟨g, 0, none⟩) ∧ sw = .int .i64 (-1) ∧ se = .int .i64 0 ∧ Aside (Below wo.heap.size wo wx ∧ wo.heap.size ≤ g ∧ wx.heap[g]? = some (.cells #[.slice a2 m2 c2, .slice d2 k2 e2, .int .i64 0] 27 (0, 0)) ∧ RdQ wx wo.heap.size (.slice a2 m2 c2) (qz sn (k + 1)) ∧ FrW wx wo.heap.size (.slice d2 k2 e2) []))
          case first =>
            have Ba : Hid (Below wo.heap.size wo ((wo.alloc (.cells (madeCells #[.int .u8 0] (1 + kk)) 5)).drew)) := (((Below.refl _ wo).alloc (Nat.le_refl _) _).drew)
            have Ca : Hid (Calls Try.prog 27 #[.agg #[.string nm, .int .u8 c, .bool o, .int .i64 sn, .int .i64 dn, .int .i64 r], .agg #[.slice a0 m0 c0, .slice d0 k0 e0, .int .i64 0], .slice (some ⟨wo.heap.size, 0, none⟩) (1 + kk) (1 + kk)] ((wo.alloc (.cells (madeCells #[.int .u8 0] (1 + kk)) 5)).drew) (RetQ ((wo.alloc (.cells (madeCells #[.int .u8 0] (1 + kk)) 5)).drew) (qz sn (k + 1)) [] 0 (.int .i64 (-1)) (.int .i64 0))) := by
              have h := sendQ_c nm c o sn dn r 0 (.slice (some ⟨wo.heap.size, 0, none⟩) (1 + kk) (1 + kk)) (List.replicate (1 + kk) 0) _ _ (qz sn k) [] ((wo.alloc (.cells (madeCells #[.int .u8 0] (1 + kk)) 5)).drew) ((Y0.out.rq.below Ba.out).mono (Nat.zero_le _)) ((Y0.out.rw_.below Ba.out).mono (Nat.zero_le _)) (by unfold WfW; decide) (by decide) HQL.out.1 HQL.out.2 (made_rd (1 + kk) (by exact heap_alloc_new wo _)) (by simp; omega)
              rw [HSQ.out] at h
              exact h
            have Bb : Hid (Below wo.heap.size wo (((wo.alloc (.cells #[.slice none 0 0, .slice none 0 0, .int .i64 0] 27)).alloc (.cells (madeCells #[.int .u8 0] (1 + kk)) 5)).drew)) := ((((Below.refl _ wo).alloc (Nat.le_refl _) _).alloc (by simp) _).drew)
            have Cb : Hid (Calls Try.prog 27 #[.agg #[.string nm, .int .u8 c, .bool o, .int .i64 sn, .int .i64 dn, .int .i64 r], .agg #[.slice a0 m0 c0, .slice d0 k0 e0, .int .i64 0], .slice (some ⟨wo.heap.size + 1, 0, none⟩) (1 + kk) (1 + kk)] (((wo.alloc (.cells #[.slice none 0 0, .slice none 0 0, .int .i64 0] 27)).alloc (.cells (madeCells #[.int .u8 0] (1 + kk)) 5)).drew) (RetQ (((wo.alloc (.cells #[.slice none 0 0, .slice none 0 0, .int .i64 0] 27)).alloc (.cells (madeCells #[.int .u8 0] (1 + kk)) 5)).drew) (qz sn (k + 1)) [] 0 (.int .i64 (-1)) (.int .i64 0))) := by
              have h := sendQ_c nm c o sn dn r 0 (.slice (some ⟨wo.heap.size + 1, 0, none⟩) (1 + kk) (1 + kk)) (List.replicate (1 + kk) 0) _ _ (qz sn k) [] (((wo.alloc (.cells #[.slice none 0 0, .slice none 0 0, .int .i64 0] 27)).alloc (.cells (madeCells #[.int .u8 0] (1 + kk)) 5)).drew) ((Y0.out.rq.below Bb.out).mono (Nat.zero_le _)) ((Y0.out.rw_.below Bb.out).mono (Nat.zero_le _)) (by unfold WfW; decide) (by decide) HQL.out.1 HQL.out.2 (made_rd (1 + kk) (by exact allocB2 wo _ _)) (by simp; omega)
              rw [HSQ.out] at h
              exact h
            have Zb : Hid ((((wo.alloc (.cells #[.slice none 0 0, .slice none 0 0, .int .i64 0] 27)).alloc (.cells (madeCells #[.int .u8 0] (1 + kk)) 5)).drew).heap[wo.heap.size]? = some (.cells #[.slice none 0 0, .slice none 0 0, .int .i64 0] 27 (0, 0))) := far_new (heap_alloc_new wo _)
            have Bc : Hid (Below wo.heap.size wo (((wo.alloc (.cells (madeCells #[.int .u8 0] (1 + kk)) 5)).alloc (.cells #[.slice none 0 0, .slice none 0 0, .int .i64 0] 27)).drew)) := ((((Below.refl _ wo).alloc (Nat.le_refl _) _).alloc (by simp) _).drew)
            have Cc : Hid (Calls Try.prog 27 #[.agg #[.string nm, .int .u8 c, .bool o, .int .i64 sn, .int .i64 dn, .int .i64 r], .agg #[.slice a0 m0 c0, .slice d0 k0 e0, .int .i64 0], .slice (some ⟨wo.heap.size, 0, none⟩) (1 + kk) (1 + kk)] (((wo.alloc (.cells (madeCells #[.int .u8 0] (1 + kk)) 5)).alloc (.cells #[.slice none 0 0, .slice none 0 0, .int .i64 0] 27)).drew) (RetQ (((wo.alloc (.cells (madeCells #[.int .u8 0] (1 + kk)) 5)).alloc (.cells #[.slice none 0 0, .slice none 0 0, .int .i64 0] 27)).drew) (qz sn (k + 1)) [] 0 (.int .i64 (-1)) (.int .i64 0))) := by
              have h := sendQ_c nm c o sn dn r 0 (.slice (some ⟨wo.heap.size, 0, none⟩) (1 + kk) (1 + kk)) (List.replicate (1 + kk) 0) _ _ (qz sn k) [] (((wo.alloc (.cells (madeCells #[.int .u8 0] (1 + kk)) 5)).alloc (.cells #[.slice none 0 0, .slice none 0 0, .int .i64 0] 27)).drew) ((Y0.out.rq.below Bc.out).mono (Nat.zero_le _)) ((Y0.out.rw_.below Bc.out).mono (Nat.zero_le _)) (by unfold WfW; decide) (by decide) HQL.out.1 HQL.out.2 (made_rd (1 + kk) (by exact far_new (heap_alloc_new wo _))) (by simp; omega)
              rw [HSQ.out] at h
              exact h
            have Zc : Hid ((((wo.alloc (.cells (madeCells #[.int .u8 0] (1 + kk)) 5)).alloc (.cells #[.slice none 0 0, .slice none 0 0, .int .i64 0] 27)).drew).heap[wo.heap.size + 1]? = some (.cells #[.slice none 0 0, .slice none 0 0, .int .i64 0] 27 (0, 0))) := allocB2 wo _ _
            have hne1 : wo.heap.size ≠ w.heap.size := by omega
            have hne2 : wo.heap.size + 1 ≠ w.heap.size := by omega
            have hne3 : wo.heap.size ≠ (w.heap.size + 1) := by omega
            have hne4 : wo.heap.size + 1 ≠ (w.heap.size + 1) := by omega
            go_region_held3 (fun w' => w'.cell? ⟨w.heap.size, 0, none⟩ = some (.string nm) ∧ w'.cell? ⟨w.heap.size, 1, none⟩ = some (.int .u8 c) ∧ w'.cell? ⟨w.heap.size, 2, none⟩ = some (.bool o) ∧ w'.cell? ⟨w.heap.size, 3, none⟩ = some (.int .i64 sn) ∧ w'.cell? ⟨w.heap.size, 4, none⟩ = some (.int .i64 dn) ∧ w'.cell? ⟨w.heap.size, 5, none⟩ = some (.int .i64 r) ∧ w'.cell? ⟨(w.heap.size + 1), 0, none⟩ = some (.slice a0 m0 c0) ∧ w'.cell? ⟨(w.heap.size + 1), 1, none⟩ = some (.slice d0 k0 e0) ∧ w'.cell? ⟨(w.heap.size + 1), 2, none⟩ = some (.int .i64 0)) (first | go_keep | (refine ⟨?_, ?_, ?_, ?_, ?_, ?_, ?_, ?_, ?_⟩ <;> assumption) | (refine ⟨?_, ?_, ?_, ?_, ?_, ?_, ?_, ?_, ?_⟩ <;> simp [*, World.cell?_setCell_far]))
              ((first | (go_at_call 27; (with_reducible refine (Ca.out).mono ?_); rintro e w2 ⟨vq2, vw2, rfl, rq2, fr2, b2⟩; obtain ⟨a2, m2, c2, rfl⟩ := rq_shape rq2; obtain ⟨d2, k2, e2, rfl⟩ := rw_shape fr2.1; have HB2 := Lib.hid (Ba.out.trans (b2.mono Ba.out.size)); obtain ⟨r0, r1, r2, r3, r4, r5⟩ := sixBlk (P0.out.next HB2.out).prt; obtain ⟨y0, y1, y2, _, _, _⟩ := threeBlk ((HB2.out.block _ hx).trans Y0.out.blk); have hs2 : wo.heap.size ≤ w2.heap.size := HB2.out.size; have hn1 : w2.heap.size ≠ w.heap.size := (by omega); have hn2 : w2.heap.size ≠ (w.heap.size + 1) := (by omega); have RQ := Lib.hid rq2; have FR := Lib.hid fr2; clear rq2 fr2 b2) | (go_at_call 27; (with_reducible refine (Cb.out).mono ?_); rintro e w2 ⟨vq2, vw2, rfl, rq2, fr2, b2⟩; obtain ⟨a2, m2, c2, rfl⟩ := rq_shape rq2; obtain ⟨d2, k2, e2, rfl⟩ := rw_shape fr2.1; have HB2 := Lib.hid (Bb.out.trans (b2.mono Bb.out.size)); obtain ⟨r0, r1, r2, r3, r4, r5⟩ := sixBlk (P0.out.next HB2.out).prt; obtain ⟨y0, y1, y2, _, _, _⟩ := threeBlk ((HB2.out.block _ hx).trans Y0.out.blk); have hs2 : wo.heap.size ≤ w2.heap.size := HB2.out.size; have hn1 : w2.heap.size ≠ w.heap.size := (by omega); have hn2 : w2.heap.size ≠ (w.heap.size + 1) := (by omega); have RQ := Lib.hid rq2; have FR := Lib.hid fr2; have hv := (b2.block _ (blk_lt Zb.out)).trans Zb.out; obtain ⟨z0, z1, z2, z3, z4, z5⟩ := threeBlk hv; have hq7 := blk_lt hv; have HV := Lib.hid hv; clear hv; clear rq2 fr2 b2) | (go_at_call 27; (with_reducible refine (Cc.out).mono ?_); rintro e w2 ⟨vq2, vw2, rfl, rq2, fr2, b2⟩; obtain ⟨a2, m2, c2, rfl⟩ := rq_shape rq2; obtain ⟨d2, k2, e2, rfl⟩ := rw_shape fr2.1; have HB2 := Lib.hid (Bc.out.trans (b2.mono Bc.out.size)); obtain ⟨r0, r1, r2, r3, r4, r5⟩ := sixBlk (P0.out.next HB2.out).prt; obtain ⟨y0, y1, y2, _, _, _⟩ := threeBlk ((HB2.out.block _ hx).trans Y0.out.blk); have hs2 : wo.heap.size ≤ w2.heap.size := HB2.out.size; have hn1 : w2.heap.size ≠ w.heap.size := (by omega); have hn2 : w2.heap.size ≠ (w.heap.size + 1) := (by omega); have RQ := Lib.hid rq2; have FR := Lib.hid fr2; have hv := (b2.block _ (blk_lt Zc.out)).trans Zc.out; obtain ⟨z0, z1, z2, z3, z4, z5⟩ := threeBlk hv; have hq7 := blk_lt hv; have HV := Lib.hid hv; clear hv; clear rq2 fr2 b2)))
            all_goals
              go_wp2_with fail
              go_meet
              first
                | exact ⟨_, _, _, _, _, _, _, rfl, rfl, rfl, HB2.out.alloc HB2.out.size _, hs2, heap_alloc_new w2 _, (RQ.out.mono Ba.out.size).alloc _, (FR.out.mono Ba.out.size).alloc _⟩
                | exact ⟨_, _, _, _, _, _, _, rfl, rfl, rfl, put3_below HB2.out (Nat.le_refl _) _ _ _, Nat.le_refl _, put3_blk HV.out, (low3q RQ.out (by first | (simp; done) | (simp; omega))).mono Bb.out.size, (low3w FR.out (by first | (simp; done) | (simp; omega))).mono Bb.out.size⟩
                | exact ⟨_, _, _, _, _, _, _, rfl, rfl, rfl, put3_below HB2.out (Nat.le_succ _) _ _ _, Nat.le_succ _, put3_blk HV.out, (low3q RQ.out (by first | (simp; done) | (simp; omega))).mono Bc.out.size, (low3w FR.out (by first | (simp; done) | (simp; omega))).mono Bc.out.size⟩
          case rest =>
            obtain ⟨g4, a4, m4, c4, d4, k4, e4, rfl, rfl, rfl, A⟩ := hcut
            obtain ⟨hA1, hA2, hA3, hA4, hA5⟩ := A.out
            have hm4 : m4 = k + 1 := by
              obtain ⟨a, cc, hv⟩ := hA4.shape'
              simp only [Value.slice.injEq] at hv
              rw [hv.2.1, qz_length]
            subst hm4
            have P4 := Lib.hid (P0.out.next hA1)
            have L4 := Lib.hid (L0.out.next hA1)
            have T4 := Lib.hid hA3
            have RQ4 := Lib.hid (hA4.mono hS)
            have FR4 := Lib.hid (hA5.mono hS)
            have hs4 : w.heap.size + 2 ≤ wc.heap.size := Nat.le_trans hS hA1.size
            have hg4 : w.heap.size + 1 ≠ g4 := by omega
            have hg4' : ¬ (g4 = w.heap.size + 1) := by omega
            clear A hA1 hA2 hA3 hA4 hA5 P0 L0 Y0 HSQ HQL hmk hwr hwk hsn0 hsn1 hmod hsz p0 p1 p2 p3 p4 p5 x0 x1 x2 hp hx
            obtain ⟨t0, t1, t2, _, _, _⟩ := threeBlk T4.out
            have ht4 := blk_lt T4.out
            obtain ⟨x0, x1, x2, x3, x4, x5⟩ := threeBlk L4.out.blk
            have hx4 := blk_lt L4.out.blk
            have hq1 : (((k + 1 : Nat) : Int) != (k : Int) + 1) = false := by simp
            have hq2 : ((k : Int) + 1 != (k : Int) + 1) = false := by simp
            go_wp2_with fail
            go_roundg (dn - (k + 1))
            case measure => omega
            case rel =>
              refine ⟨k + 1, by omega, by omega, by go_num, P4.out.put (by omega) _ _ _, ?_, _, _, L4.out.put RQ4.out FR4.out 0⟩
              exact (put3_size wc (w.heap.size + 1) _ _ _).symm ▸ hs4
        · have hltz : ¬ (k : Int) < (dn : Int) := by omega
          obtain rfl : k = dn := by omega
          obtain ⟨x0, x1, x2, x3, x4, x5⟩ := threeBlk L0.out.blk
          have hx0 := blk_lt L0.out.blk
          have P5 := Lib.hid (P0.out.alloc (.cells #[.slice a0 m0 c0, .slice d0 k0 e0, .int .i64 0] 27))
          have L5 := Lib.hid (L0.out.alloc (.cells #[.slice a0 m0 c0, .slice d0 k0 e0, .int .i64 0] 27))
          have F5 : Hid (FQ (wo.alloc (.cells #[.slice a0 m0 c0, .slice d0 k0 e0, .int .i64 0] 27)) (w.heap.size + 2) wo.heap.size (.slice a0 m0 c0) (.slice d0 k0 e0) 0 (qz sn k)) := ⟨heap_alloc_new wo _, L0.out.rq.alloc _, L0.out.fr.alloc _⟩
          have hs5 : w.heap.size + 2 ≤ (wo.alloc (.cells #[.slice a0 m0 c0, .slice d0 k0 e0, .int .i64 0] 27)).heap.size := by simp; omega
          clear P0 L0 hlt hg
          have hmn := HMN.out
          go_wp2_with fail
          clear hmn
          go_loopg [17, 18, 19, 96] mn (fun gg _ _ _ s96 wr => ∃ j : Nat, j ≤ mn ∧ mn - j ≤ gg ∧ s96 = .int .u8 j ∧ Aside (PV w wr nm c o sn k r ∧ w.heap.size + 2 ≤ wr.heap.size ∧ wo.heap.size < wr.heap.size ∧ FQ wr (w.heap.size + 2) wo.heap.size (.slice a0 m0 c0) (.slice d0 k0 e0) 0 (qz sn k) ∧ ∃ vq vw, LT wr (w.heap.size + 2) (w.heap.size + 1) vq vw j (qz sn k) []))
          case atStart => exact ⟨0, Nat.zero_le _, by omega, rfl, P5.out, hs5, by simp, F5.out, _, _, L5.out⟩
          case round =>
            obtain ⟨j, hj, hgj, rfl, A⟩ := hrel
            obtain ⟨wi, rfl⟩ : ∃ wi : World, wi = wr := ⟨_, rfl⟩
            clear P5 L5 F5 hs5 x0 x1 x2 x3 x4 x5
            obtain ⟨hP, hSi, hWo, hF, vq1, vw1, hL⟩ := A.out
            obtain ⟨a1, m1, c1, rfl⟩ := rq_shape hL.rq
            obtain ⟨d1, k1, e1, rfl⟩ := rw_shape hL.fr.1
            have P6 := Lib.hid hP
            have L6 := Lib.hid hL
            have F6 := Lib.hid hF
            clear A hP hL hF
            have HQL : Hid ((qz sn k).length ≤ 90000 ∧ ∀ x ∈ qz sn k, x.length ≤ 1000000) := ⟨by rw [qz_length]; omega, fun x hx => by have := (qz_el hs1' hx).2; omega⟩
            by_cases hjt : j < mn
            · have hjz : (j : Int) < (mn : Int) := by omega
              have Y6 := Lib.hid L6.out.qr
              have HSQ : Hid (sendQ c sn k r (qz sn k) [] j (List.replicate sn 0) = (qz sn k, [], (j : Int) + 1, -1, 4)) := send_qz_full HV.out (by omega) (by omega)
              obtain ⟨p0, p1, p2, p3, p4, p5⟩ := sixBlk P6.out.prt
              have hp := blk_lt P6.out.prt
              obtain ⟨x0, x1, x2, _, _, _⟩ := threeBlk Y6.out.blk
              have hx := blk_lt Y6.out.blk
              have hmk : ∀ W : World, (Instr.makeSlice 28 (.int .i64 ((sn : Int))) (.int .i64 ((sn : Int)))).run Try.prog W = .ok (.slice (some ⟨W.heap.size, 0, none⟩) (sn) (sn)) (W.alloc (.cells (madeCells #[.int .u8 0] (sn)) 5)) := mk_zeros _ (sn) (rfl) (by omega)
              go_upto_region 19 with (fail)
              go_cut [17, 18, 19] (fun sv sw se wx => ∃ (g : Nat) (a2 : Option Addr) (m2 c2 : Nat) (d2 : Option Addr) (k2 e2 : Nat), sv = .pointer (some ⟨g, 0, none⟩) ∧ sw = .int .i64 (-1) ∧ se = .int .i64 4 ∧ Aside (Below wi.heap.size wi wx ∧ wi.heap.size ≤ g ∧ wx.heap[g]? = some (.cells #[.slice a2 m2 c2, .slice d2 k2 e2, .int .i64 ((j : Int) + 1)] 27 (0, 0)) ∧ RdQ wx wi.heap.size (.slice a2 m2 c2) (qz sn k) ∧ FrW wx wi.heap.size (.slice d2 k2 e2) []))
              case first =>
                have Ba : Hid (Below wi.heap.size wi ((wi.alloc (.cells (madeCells #[.int .u8 0] (sn)) 5)).drew)) := (((Below.refl _ wi).alloc (Nat.le_refl _) _).drew)
                have Ca : Hid (Calls Try.prog 27 #[.agg #[.string nm, .int .u8 c, .bool o, .int .i64 sn, .int .i64 k, .int .i64 r], .agg #[.slice a1 m1 c1, .slice d1 k1 e1, .int .i64 (j : Int)], .slice (some ⟨wi.heap.size, 0, none⟩) (sn) (sn)] ((wi.alloc (.cells (madeCells #[.int .u8 0] (sn)) 5)).drew) (RetQ ((wi.alloc (.cells (madeCells #[.int .u8 0] (sn)) 5)).drew) (qz sn k) [] ((j : Int) + 1) (.int .i64 (-1)) (.int .i64 4))) := by
                  have h := sendQ_c nm c o sn k r (j : Int) (.slice (some ⟨wi.heap.size, 0, none⟩) (sn) (sn)) (List.replicate (sn) 0) _ _ (qz sn k) [] ((wi.alloc (.cells (madeCells #[.int .u8 0] (sn)) 5)).drew) ((Y6.out.rq.below Ba.out).mono (Nat.zero_le _)) ((Y6.out.rw_.below Ba.out).mono (Nat.zero_le _)) (by unfold WfW; decide) (by decide) HQL.out.1 HQL.out.2 (made_rd (sn) (by exact heap_alloc_new wi _)) (by simp; omega)
                  rw [HSQ.out] at h
                  exact h
                have Bb : Hid (Below wi.heap.size wi (((wi.alloc (.cells #[.slice none 0 0, .slice none 0 0, .int .i64 0] 27)).alloc (.cells (madeCells #[.int .u8 0] (sn)) 5)).drew)) := ((((Below.refl _ wi).alloc (Nat.le_refl _) _).alloc (by simp) _).drew)
                have Cb : Hid (Calls Try.prog 27 #[.agg #[.string nm, .int .u8 c, .bool o, .int .i64 sn, .int .i64 k, .int .i64 r], .agg #[.slice a1 m1 c1, .slice d1 k1 e1, .int .i64 (j : Int)], .slice (some ⟨wi.heap.size + 1, 0, none⟩) (sn) (sn)] (((wi.alloc (.cells #[.slice none 0 0, .slice none 0 0, .int .i64 0] 27)).alloc (.cells (madeCells #[.int .u8 0] (sn)) 5)).drew) (RetQ (((wi.alloc (.cells #[.slice none 0 0, .slice none 0 0, .int .i64 0] 27)).alloc (.cells (madeCells #[.int .u8 0] (sn)) 5)).drew) (qz sn k) [] ((j : Int) + 1) (.int .i64 (-1)) (.int .i64 4))) := by
                  have h := sendQ_c nm c o sn k r (j : Int) (.slice (some ⟨wi.heap.size + 1, 0, none⟩) (sn) (sn)) (List.replicate (sn) 0) _ _ (qz sn k) [] (((wi.alloc (.cells #[.slice none 0 0, .slice none 0 0, .int .i64 0] 27)).alloc (.cells (madeCells #[.int .u8 0] (sn)) 5)).drew) ((Y6.out.rq.below Bb.out).mono (Nat.zero_le _)) ((Y6.out.rw_.below Bb.out).mono (Nat.zero_le _)) (by unfold WfW; decide) (by decide) HQL.out.1 HQL.out.2 (made_rd (sn) (by exact allocB2 wi _ _)) (by simp; omega)
                  rw [HSQ.out] at h
                  exact h
                have Zb : Hid ((((wi.alloc (.cells #[.slice none 0 0, .slice none 0 0, .int .i64 0] 27)).alloc (.cells (madeCells #[.int .u8 0] (sn)) 5)).drew).heap[wi.heap.size]? = some (.cells #[.slice none 0 0, .slice none 0 0, .int .i64 0] 27 (0, 0))) := far_new (heap_alloc_new wi _)
                have Bc : Hid (Below wi.heap.size wi (((wi.alloc (.cells (madeCells #[.int .u8 0] (sn)) 5)).alloc (.cells #[.slice none 0 0, .slice none 0 0, .int .i64 0] 27)).drew)) := ((((Below.refl _ wi).alloc (Nat.le_refl _) _).alloc (by simp) _).drew)
                have Cc : Hid (Calls Try.prog 27 #[.agg #[.string nm, .int .u8 c, .bool o, .int .i64 sn, .int .i64 k, .int .i64 r], .agg #[.slice a1 m1 c1, .slice d1 k1 e1, .int .i64 (j : Int)], .slice (some ⟨wi.heap.size, 0, none⟩) (sn) (sn)] (((wi.alloc (.cells (madeCells #[.int .u8 0] (sn)) 5)).alloc (.cells #[.slice none 0 0, .slice none 0 0, .int .i64 0] 27)).drew) (RetQ (((wi.alloc (.cells (madeCells #[.int .u8 0] (sn)) 5)).alloc (.cells #[.slice none 0 0, .slice none 0 0, .int .i64 0] 27)).drew) (qz sn k) [] ((j : Int) + 1) (.int .i64 (-1)) (.int .i64 4))) := by
                  have h := sendQ_c nm c o sn k r (j : Int) (.slice (some ⟨wi.heap.size, 0, none⟩) (sn) (sn)) (List.replicate (sn) 0) _ _ (qz sn k) [] (((wi.alloc (.cells (madeCells #[.int .u8 0] (sn)) 5)).alloc (.cells #[.slice none 0 0, .slice none 0 0, .int .i64 0] 27)).drew) ((Y6.out.rq.below Bc.out).mono (Nat.zero_le _)) ((Y6.out.rw_.below Bc.out).mono (Nat.zero_le _)) (by unfold WfW; decide) (by decide) HQL.out.1 HQL.out.2 (made_rd (sn) (by exact far_new (heap_alloc_new wi _))) (by simp; omega)
                  rw [HSQ.out] at h
                  exact h
                have Zc : Hid ((((wi.alloc (.cells (madeCells #[.int .u8 0] (sn)) 5)).alloc (.cells #[.slice none 0 0, .slice none 0 0, .int .i64 0] 27)).drew).heap[wi.heap.size + 1]? = some (.cells #[.slice none 0 0, .slice none 0 0, .int .i64 0] 27 (0, 0))) := allocB2 wi _ _
                have hne1 : wi.heap.size ≠ w.heap.size := by omega
                have hne2 : wi.heap.size + 1 ≠ w.heap.size := by omega
                have hne3 : wi.heap.size ≠ (w.heap.size + 1) := by omega
                have hne4 : wi.heap.size + 1 ≠ (w.heap.size + 1) := by omega
                go_region_held3 (fun w' => w'.cell? ⟨w.heap.size, 0, none⟩ = some (.string nm) ∧ w'.cell? ⟨w.heap.size, 1, none⟩ = some (.int .u8 c) ∧ w'.cell? ⟨w.heap.size, 2, none⟩ = some (.bool o) ∧ w'.cell? ⟨w.heap.size, 3, none⟩ = some (.int .i64 sn) ∧ w'.cell? ⟨w.heap.size, 4, none⟩ = some (.int .i64 k) ∧ w'.cell? ⟨w.heap.size, 5, none⟩ = some (.int .i64 r) ∧ w'.cell? ⟨(w.heap.size + 1), 0, none⟩ = some (.slice a1 m1 c1) ∧ w'.cell? ⟨(w.heap.size + 1), 1, none⟩ = some (.slice d1 k1 e1) ∧ w'.cell? ⟨(w.heap.size + 1), 2, none⟩ = some (.int .i64 (j : Int))) (first | go_keep | (refine ⟨?_, ?_, ?_, ?_, ?_, ?_, ?_, ?_, ?_⟩ <;> assumption) | (refine ⟨?_, ?_, ?_, ?_, ?_, ?_, ?_, ?_, ?_⟩ <;> simp [*, World.cell?_setCell_far]))
                  ((first | (go_at_call 27; (with_reducible refine (Ca.out).mono ?_); rintro e w2 ⟨vq2, vw2, rfl, rq2, fr2, b2⟩; obtain ⟨a2, m2, c2, rfl⟩ := rq_shape rq2; obtain ⟨d2, k2, e2, rfl⟩ := rw_shape fr2.1; have HB2 := Lib.hid (Ba.out.trans (b2.mono Ba.out.size)); obtain ⟨r0, r1, r2, r3, r4, r5⟩ := sixBlk (P6.out.next HB2.out).prt; obtain ⟨y0, y1, y2, _, _, _⟩ := threeBlk ((HB2.out.block _ hx).trans Y6.out.blk); have hs2 : wi.heap.size ≤ w2.heap.size := HB2.out.size; have hn1 : w2.heap.size ≠ w.heap.size := (by omega); have hn2 : w2.heap.size ≠ (w.heap.size + 1) := (by omega); have RQ := Lib.hid rq2; have FR := Lib.hid fr2; clear rq2 fr2 b2) | (go_at_call 27; (with_reducible refine (Cb.out).mono ?_); rintro e w2 ⟨vq2, vw2, rfl, rq2, fr2, b2⟩; obtain ⟨a2, m2, c2, rfl⟩ := rq_shape rq2; obtain ⟨d2, k2, e2, rfl⟩ := rw_shape fr2.1; have HB2 := Lib.hid (Bb.out.trans (b2.mono Bb.out.size)); obtain ⟨r0, r1, r2, r3, r4, r5⟩ := sixBlk (P6.out.next HB2.out).prt; obtain ⟨y0, y1, y2, _, _, _⟩ := threeBlk ((HB2.out.block _ hx).trans Y6.out.blk); have hs2 : wi.heap.size ≤ w2.heap.size := HB2.out.size; have hn1 : w2.heap.size ≠ w.heap.size := (by omega); have hn2 : w2.heap.size ≠ (w.heap.size + 1) := (by omega); have RQ := Lib.hid rq2; have FR := Lib.hid fr2; have hv := (b2.block _ (blk_lt Zb.out)).trans Zb.out; obtain ⟨z0, z1, z2, z3, z4, z5⟩ := threeBlk hv; have hq7 := blk_lt hv; have HV := Lib.hid hv; clear hv; clear rq2 fr2 b2) | (go_at_call 27; (with_reducible refine (Cc.out).mono ?_); rintro e w2 ⟨vq2, vw2, rfl, rq2, fr2, b2⟩; obtain ⟨a2, m2, c2, rfl⟩ := rq_shape rq2; obtain ⟨d2, k2, e2, rfl⟩ := rw_shape fr2.1; have HB2 := Lib.hid (Bc.out.trans (b2.mono Bc.out.size)); obtain ⟨r0, r1, r2, r3, r4, r5⟩ := sixBlk (P6.out.next HB2.out).prt; obtain ⟨y0, y1, y2, _, _, _⟩ := threeBlk ((HB2.out.block _ hx).trans Y6.out.blk); have hs2 : wi.heap.size ≤ w2.heap.size := HB2.out.size; have hn1 : w2.heap.size ≠ w.heap.size := (by omega); have hn2 : w2.heap.size ≠ (w.heap.size + 1) := (by omega); have RQ := Lib.hid rq2; have FR := Lib.hid fr2; have hv := (b2.block _ (blk_lt Zc.out)).trans Zc.out; obtain ⟨z0, z1, z2, z3, z4, z5⟩ := threeBlk hv; have hq7 := blk_lt hv; have HV := Lib.hid hv; clear hv; clear rq2 fr2 b2)))
                all_goals
                  go_wp2_with fail
                  go_meet
                  first
                    | exact ⟨_, _, _, _, _, _, _, rfl, rfl, rfl, HB2.out.alloc HB2.out.size _, hs2, heap_alloc_new w2 _, (RQ.out.mono Ba.out.size).alloc _, (FR.out.mono Ba.out.size).alloc _⟩
                    | exact ⟨_, _, _, _, _, _, _, rfl, rfl, rfl, put3_below HB2.out (Nat.le_refl _) _ _ _, Nat.le_refl _, put3_blk HV.out, (low3q RQ.out (by first | (simp; done) | (simp; omega))).mono Bb.out.size, (low3w FR.out (by first | (simp; done) | (simp; omega))).mono Bb.out.size⟩
                    | exact ⟨_, _, _, _, _, _, _, rfl, rfl, rfl, put3_below HB2.out (Nat.le_succ _) _ _ _, Nat.le_succ _, put3_blk HV.out, (low3q RQ.out (by first | (simp; done) | (simp; omega))).mono Bc.out.size, (low3w FR.out (by first | (simp; done) | (simp; omega))).mono Bc.out.size⟩
              case rest =>
                obtain ⟨g7, a7, m7, c7, d7, k7, e7, rfl, rfl, rfl, A⟩ := hcut
                obtain ⟨hA1, hA2, hA3, hA4, hA5⟩ := A.out
                have P7 := Lib.hid (P6.out.next hA1)
                have L7 := Lib.hid (L6.out.next hA1)
                have F7 := Lib.hid (F6.out.next hA1)
                have T7 := Lib.hid hA3
                have RQ7 := Lib.hid (hA4.mono hSi)
                have FR7 := Lib.hid (hA5.mono hSi)
                have hs7 : w.heap.size + 2 ≤ wc.heap.size := Nat.le_trans hSi hA1.size
                have hw7 : wo.heap.size < wc.heap.size := Nat.lt_of_lt_of_le hWo hA1.size
                have hg7 : w.heap.size + 1 ≠ g7 := by omega
                have hg7' : ¬ (g7 = w.heap.size + 1) := by omega
                clear A hA1 hA2 hA3 hA4 hA5 P6 L6 F6 Y6 HSQ HQL hmk p0 p1 p2 p3 p4 p5 x0 x1 x2 hp hx
                obtain ⟨t0, t1, t2, _, _, _⟩ := threeBlk T7.out
                have ht7 := blk_lt T7.out
                obtain ⟨x0, x1, x2, x3, x4, x5⟩ := threeBlk L7.out.blk
                have hx7 := blk_lt L7.out.blk
                go_wp2_with fail
                go_roundg (mn - (j + 1))
                case measure => omega
                case rel =>
                  refine ⟨j + 1, by omega, by omega, by go_num, P7.out.put (by omega) _ _ _, (put3_size wc (w.heap.size + 1) _ _ _).symm ▸ hs7, (put3_size wc (w.heap.size + 1) _ _ _).symm ▸ hw7, F7.out.put (by omega) (by omega) _ _ _, .slice a7 m7 c7, .slice d7 k7 e7, ?_⟩
                  rw [show ((j + 1 : Nat) : Int) = (j : Int) + 1 from by omega]
                  exact L7.out.put RQ7.out FR7.out _
            · have hjz : ¬ (j : Int) < (mn : Int) := by omega
              obtain rfl : j = mn := by omega
              obtain ⟨f0, f1, f2, f3, f4, f5⟩ := threeBlk F6.out.blk
              have hf6 := blk_lt F6.out.blk
              obtain ⟨x0, x1, x2, x3, x4, x5⟩ := threeBlk L6.out.blk
              have hx6 := blk_lt L6.out.blk
              have hmn := HMN.out
              have hgf : w.heap.size + 1 ≠ wo.heap.size := by omega
              have hgf' : ¬ (wo.heap.size = w.heap.size + 1) := by omega
              go_wp2_with fail
              obtain ⟨WB, hWB⟩ : ∃ WB, WB = wi.setCell ⟨wo.heap.size, 2, none⟩ (.int .i64 j) := ⟨_, rfl⟩
              have hBB : Below w.heap.size w WB := by rw [hWB]; exact P6.out.bel.setCell (p := ⟨wo.heap.size, 2, none⟩) (by show w.heap.size ≤ wo.heap.size; omega) _
              have P8 : Hid (PV w WB nm c o sn k r) := by rw [hWB]; exact ⟨far_set P6.out.prt (by omega), P6.out.bel.setCell (p := ⟨wo.heap.size, 2, none⟩) (by show w.heap.size ≤ wo.heap.size; omega) _⟩
              have S8 : Hid (QR WB (w.heap.size + 1) (.slice a1 m1 c1) (.slice d1 k1 e1) j (qz sn k) []) := by rw [hWB]; exact ⟨far_set L6.out.blk hgf, (L6.out.rq.cellfar f2).mono (Nat.zero_le _), FrW.rd (L6.out.fr.empty rfl)⟩
              have F8 : Hid (QR WB wo.heap.size (.slice a0 m0 c0) (.slice d0 k0 e0) j (qz sn k) []) := by rw [hWB]; exact ⟨(set3 F6.out.blk _).2.2, (F6.out.rq.cellfar f2).mono (Nat.zero_le _), FrW.rd (F6.out.fr.empty rfl)⟩
              rw [← hWB]
              clear hWB hmn P6 L6 F6 f0 f1 f2 f3 f4 f5 x0 x1 x2 x3 x4 x5 hBB
              refine (sameT_c _ _ _ _ (qz sn k) [] j _ S8.out.rq F8.out.rq S8.out.rw_ F8.out.rw_ (by decide) HQL.out.1).mono ?_
              rintro e wq ⟨rfl, bq⟩
              have P9 := Lib.hid (P8.out.next bq)
              have S9 := Lib.hid (S8.out.next bq)
              clear bq P8 S8 F8
              obtain ⟨p0, p1, p2, p3, p4, p5⟩ := sixBlk P9.out.prt
              have hp9 := blk_lt P9.out.prt
              obtain ⟨x0, x1, x2, _, _, _⟩ := threeBlk S9.out.blk
              have hx9 := blk_lt S9.out.blk
              go_wp2_with fail
              have h9 := takeQ_c nm c o sn k r j _ _ (qz sn k) [] wq S9.out.rq S9.out.rw_ (by unfold WfW; decide) (by decide) HQL.out.1 HQL.out.2
              rw [take_qz HV.out (by omega) (by omega)] at h9
              refine h9.mono ?_
              clear h9
              rintro e wt ⟨vqt, vwt, vxt, rfl, rqt, frt, rxt, bt⟩
              obtain ⟨at', mt, ct, rfl⟩ := rq_shape rqt
              obtain ⟨dt, kt, et, rfl⟩ := rw_shape frt.1
              obtain ⟨ft, gt, rfl⟩ : ∃ a c, vxt = .slice a 1 c := by obtain ⟨a, c, hv, _⟩ := rxt.open_; exact ⟨a, c, hv⟩
              clear rxt
              obtain ⟨WT, hWT⟩ : ∃ WT, WT = wt.alloc (.cells #[.slice at' mt ct, .slice dt kt et, .int .i64 j] 27) := ⟨_, rfl⟩
              have P10 : Hid (PV w WT nm c o sn k r) := by rw [hWT]; exact (P9.out.next bt).alloc _
              have Y10 : Hid (QR WT wt.heap.size (.slice at' mt ct) (.slice dt kt et) j (qz sn k).tail []) := by rw [hWT]; exact QR.new (rqt.mono (Nat.zero_le _)) frt.rd
              have hgt : w.heap.size + 1 < wt.heap.size := Nat.lt_of_lt_of_le hx9 bt.size
              have hgT : wt.heap.size < WT.heap.size := by rw [hWT]; simp
              have HWT := Lib.hid hWT
              clear hWT rqt frt bt P9 S9 p0 p1 p2 p3 p4 p5 x0 x1 x2 hp9 hx9
              have HTL : Hid (((qz sn k).tail).length ≤ 90000 ∧ ∀ x ∈ (qz sn k).tail, x.length ≤ 1000000) := ⟨by rw [List.length_tail, qz_length]; omega, fun x hx => by have := (qz_tail_el hs1' hx).2; omega⟩
              have HSA : Hid (sendQ c sn k r (qz sn k).tail [] j (List.replicate sn 0) = ((qz sn k).tail ++ [List.replicate sn 0], [], (j : Int), -1, 0)) := send_tail HV.out (by omega) (by omega)
              have HTM : Hid (((qz sn k).tail ++ [List.replicate sn 0]).length ≤ 90000 ∧ ∀ x ∈ (qz sn k).tail ++ [List.replicate sn 0], x.length ≤ 1000000) := by
                refine ⟨by rw [List.length_append, List.length_tail, qz_length]; simp; omega, fun x hx => ?_⟩
                rw [List.mem_append, List.mem_singleton] at hx
                rcases hx with hx | rfl
                · exact HTL.out.2 x hx
                · simp; omega
              have HSB : Hid (sendQ c sn k r ((qz sn k).tail ++ [List.replicate sn 0]) [] j (List.replicate sn 0) = ((qz sn k).tail ++ [List.replicate sn 0], [], (j : Int) + 1, -1, 4)) := send_again HV.out (by omega) (by omega)
              go_upto_region 28 with (fail)
              rw [← HWT.out]
              generalize hgy : wt.heap.size = gy at Y10 hgt hgT ⊢
              clear hgy HWT
              obtain ⟨p0, p1, p2, p3, p4, p5⟩ := sixBlk P10.out.prt
              have hp := blk_lt P10.out.prt
              obtain ⟨x0, x1, x2, _, _, _⟩ := threeBlk Y10.out.blk
              have hx := blk_lt Y10.out.blk
              have hmk : ∀ W : World, (Instr.makeSlice 28 (.int .i64 ((sn : Int))) (.int .i64 ((sn : Int)))).run Try.prog W = .ok (.slice (some ⟨W.heap.size, 0, none⟩) (sn) (sn)) (W.alloc (.cells (madeCells #[.int .u8 0] (sn)) 5)) := mk_zeros _ (sn) (rfl) (by omega)
              go_cut [23, 24, 25] (fun sv sw se wx => ∃ (g : Nat) (a2 : Option Addr) (m2 c2 : Nat) (d2 : Option Addr) (k2 e2 : Nat), sv = .pointer (some ⟨g, 0, none⟩) ∧ sw = .int .i64 (-1) ∧ se = .int .i64 0 ∧ Aside (Below WT.heap.size WT wx ∧ WT.heap.size ≤ g ∧ wx.heap[g]? = some (.cells #[.slice a2 m2 c2, .slice d2 k2 e2, .int .i64 (j : Int)] 27 (0, 0)) ∧ RdQ wx WT.heap.size (.slice a2 m2 c2) ((qz sn k).tail ++ [List.replicate sn 0]) ∧ FrW wx WT.heap.size (.slice d2 k2 e2) []))
              case first =>
                have Ba : Hid (Below WT.heap.size WT ((WT.alloc (.cells (madeCells #[.int .u8 0] (sn)) 5)).drew)) := (((Below.refl _ WT).alloc (Nat.le_refl _) _).drew)
                have Ca : Hid (Calls Try.prog 27 #[.agg #[.string nm, .int .u8 c, .bool o, .int .i64 sn, .int .i64 k, .int .i64 r], .agg #[.slice at' mt ct, .slice dt kt et, .int .i64 (j : Int)], .slice (some ⟨WT.heap.size, 0, none⟩) (sn) (sn)] ((WT.alloc (.cells (madeCells #[.int .u8 0] (sn)) 5)).drew) (RetQ ((WT.alloc (.cells (madeCells #[.int .u8 0] (sn)) 5)).drew) ((qz sn k).tail ++ [List.replicate sn 0]) [] (j : Int) (.int .i64 (-1)) (.int .i64 0))) := by
                  have h := sendQ_c nm c o sn k r (j : Int) (.slice (some ⟨WT.heap.size, 0, none⟩) (sn) (sn)) (List.replicate (sn) 0) _ _ ((qz sn k).tail) [] ((WT.alloc (.cells (madeCells #[.int .u8 0] (sn)) 5)).drew) ((Y10.out.rq.below Ba.out).mono (Nat.zero_le _)) ((Y10.out.rw_.below Ba.out).mono (Nat.zero_le _)) (by unfold WfW; decide) (by decide) HTL.out.1 HTL.out.2 (made_rd (sn) (by exact heap_alloc_new WT _)) (by simp; omega)
                  rw [HSA.out] at h
                  exact h
                have Bb : Hid (Below WT.heap.size WT (((WT.alloc (.cells #[.slice none 0 0, .slice none 0 0, .int .i64 0] 27)).alloc (.cells (madeCells #[.int .u8 0] (sn)) 5)).drew)) := ((((Below.refl _ WT).alloc (Nat.le_refl _) _).alloc (by simp) _).drew)
                have Cb : Hid (Calls Try.prog 27 #[.agg #[.string nm, .int .u8 c, .bool o, .int .i64 sn, .int .i64 k, .int .i64 r], .agg #[.slice at' mt ct, .slice dt kt et, .int .i64 (j : Int)], .slice (some ⟨WT.heap.size + 1, 0, none⟩) (sn) (sn)] (((WT.alloc (.cells #[.slice none 0 0, .slice none 0 0, .int .i64 0] 27)).alloc (.cells (madeCells #[.int .u8 0] (sn)) 5)).drew) (RetQ (((WT.alloc (.cells #[.slice none 0 0, .slice none 0 0, .int .i64 0] 27)).alloc (.cells (madeCells #[.int .u8 0] (sn)) 5)).drew) ((qz sn k).tail ++ [List.replicate sn 0]) [] (j : Int) (.int .i64 (-1)) (.int .i64 0))) := by
                  have h := sendQ_c nm c o sn k r (j : Int) (.slice (some ⟨WT.heap.size + 1, 0, none⟩) (sn) (sn)) (List.replicate (sn) 0) _ _ ((qz sn k).tail) [] (((WT.alloc (.cells #[.slice none 0 0, .slice none 0 0, .int .i64 0] 27)).alloc (.cells (madeCells #[.int .u8 0] (sn)) 5)).drew) ((Y10.out.rq.below Bb.out).mono (Nat.zero_le _)) ((Y10.out.rw_.below Bb.out).mono (Nat.zero_le _)) (by unfold WfW; decide) (by decide) HTL.out.1 HTL.out.2 (made_rd (sn) (by exact allocB2 WT _ _)) (by simp; omega)
                  rw [HSA.out] at h
                  exact h
                have Zb : Hid ((((WT.alloc (.cells #[.slice none 0 0, .slice none 0 0, .int .i64 0] 27)).alloc (.cells (madeCells #[.int .u8 0] (sn)) 5)).drew).heap[WT.heap.size]? = some (.cells #[.slice none 0 0, .slice none 0 0, .int .i64 0] 27 (0, 0))) := far_new (heap_alloc_new WT _)
                have Bc : Hid (Below WT.heap.size WT (((WT.alloc (.cells (madeCells #[.int .u8 0] (sn)) 5)).alloc (.cells #[.slice none 0 0, .slice none 0 0, .int .i64 0] 27)).drew)) := ((((Below.refl _ WT).alloc (Nat.le_refl _) _).alloc (by simp) _).drew)
                have Cc : Hid (Calls Try.prog 27 #[.agg #[.string nm, .int .u8 c, .bool o, .int .i64 sn, .int .i64 k, .int .i64 r], .agg #[.slice at' mt ct, .slice dt kt et, .int .i64 (j : Int)], .slice (some ⟨WT.heap.size, 0, none⟩) (sn) (sn)] (((WT.alloc (.cells (madeCells #[.int .u8 0] (sn)) 5)).alloc (.cells #[.slice none 0 0, .slice none 0 0, .int .i64 0] 27)).drew) (RetQ (((WT.alloc (.cells (madeCells #[.int .u8 0] (sn)) 5)).alloc (.cells #[.slice none 0 0, .slice none 0 0, .int .i64 0] 27)).drew) ((qz sn k).tail ++ [List.replicate sn 0]) [] (j : Int) (.int .i64 (-1)) (.int .i64 0))) := by
                  have h := sendQ_c nm c o sn k r (j : Int) (.slice (some ⟨WT.heap.size, 0, none⟩) (sn) (sn)) (List.replicate (sn) 0) _ _ ((qz sn k).tail) [] (((WT.alloc (.cells (madeCells #[.int .u8 0] (sn)) 5)).alloc (.cells #[.slice none 0 0, .slice none 0 0, .int .i64 0] 27)).drew) ((Y10.out.rq.below Bc.out).mono (Nat.zero_le _)) ((Y10.out.rw_.below Bc.out).mono (Nat.zero_le _)) (by unfold WfW; decide) (by decide) HTL.out.1 HTL.out.2 (made_rd (sn) (by exact far_new (heap_alloc_new WT _))) (by simp; omega)
                  rw [HSA.out] at h
                  exact h
                have Zc : Hid ((((WT.alloc (.cells (madeCells #[.int .u8 0] (sn)) 5)).alloc (.cells #[.slice none 0 0, .slice none 0 0, .int .i64 0] 27)).drew).heap[WT.heap.size + 1]? = some (.cells #[.slice none 0 0, .slice none 0 0, .int .i64 0] 27 (0, 0))) := allocB2 WT _ _
                have hne1 : WT.heap.size ≠ w.heap.size := by omega
                have hne2 : WT.heap.size + 1 ≠ w.heap.size := by omega
                have hne3 : WT.heap.size ≠ gy := by omega
                have hne4 : WT.heap.size + 1 ≠ gy := by omega
                go_region_held3 (fun w' => w'.cell? ⟨w.heap.size, 0, none⟩ = some (.string nm) ∧ w'.cell? ⟨w.heap.size, 1, none⟩ = some (.int .u8 c) ∧ w'.cell? ⟨w.heap.size, 2, none⟩ = some (.bool o) ∧ w'.cell? ⟨w.heap.size, 3, none⟩ = some (.int .i64 sn) ∧ w'.cell? ⟨w.heap.size, 4, none⟩ = some (.int .i64 k) ∧ w'.cell? ⟨w.heap.size, 5, none⟩ = some (.int .i64 r) ∧ w'.cell? ⟨gy, 0, none⟩ = some (.slice at' mt ct) ∧ w'.cell? ⟨gy, 1, none⟩ = some (.slice dt kt et) ∧ w'.cell? ⟨gy, 2, none⟩ = some (.int .i64 (j : Int))) (first | go_keep | (refine ⟨?_, ?_, ?_, ?_, ?_, ?_, ?_, ?_, ?_⟩ <;> assumption) | (refine ⟨?_, ?_, ?_, ?_, ?_, ?_, ?_, ?_, ?_⟩ <;> simp [*, World.cell?_setCell_far]))
                  ((first | (go_at_call 27; (with_reducible refine (Ca.out).mono ?_); rintro e w2 ⟨vq2, vw2, rfl, rq2, fr2, b2⟩; obtain ⟨a2, m2, c2, rfl⟩ := rq_shape rq2; obtain ⟨d2, k2, e2, rfl⟩ := rw_shape fr2.1; have HB2 := Lib.hid (Ba.out.trans (b2.mono Ba.out.size)); obtain ⟨r0, r1, r2, r3, r4, r5⟩ := sixBlk (P10.out.next HB2.out).prt; obtain ⟨y0, y1, y2, _, _, _⟩ := threeBlk ((HB2.out.block _ hx).trans Y10.out.blk); have hs2 : WT.heap.size ≤ w2.heap.size := HB2.out.size; have hn1 : w2.heap.size ≠ w.heap.size := (by omega); have hn2 : w2.heap.size ≠ gy := (by omega); have RQ := Lib.hid rq2; have FR := Lib.hid fr2; clear rq2 fr2 b2) | (go_at_call 27; (with_reducible refine (Cb.out).mono ?_); rintro e w2 ⟨vq2, vw2, rfl, rq2, fr2, b2⟩; obtain ⟨a2, m2, c2, rfl⟩ := rq_shape rq2; obtain ⟨d2, k2, e2, rfl⟩ := rw_shape fr2.1; have HB2 := Lib.hid (Bb.out.trans (b2.mono Bb.out.size)); obtain ⟨r0, r1, r2, r3, r4, r5⟩ := sixBlk (P10.out.next HB2.out).prt; obtain ⟨y0, y1, y2, _, _, _⟩ := threeBlk ((HB2.out.block _ hx).trans Y10.out.blk); have hs2 : WT.heap.size ≤ w2.heap.size := HB2.out.size; have hn1 : w2.heap.size ≠ w.heap.size := (by omega); have hn2 : w2.heap.size ≠ gy := (by omega); have RQ := Lib.hid rq2; have FR := Lib.hid fr2; have hv := (b2.block _ (blk_lt Zb.out)).trans Zb.out; obtain ⟨z0, z1, z2, z3, z4, z5⟩ := threeBlk hv; have hq7 := blk_lt hv; have HV := Lib.hid hv; clear hv; clear rq2 fr2 b2) | (go_at_call 27; (with_reducible refine (Cc.out).mono ?_); rintro e w2 ⟨vq2, vw2, rfl, rq2, fr2, b2⟩; obtain ⟨a2, m2, c2, rfl⟩ := rq_shape rq2; obtain ⟨d2, k2, e2, rfl⟩ := rw_shape fr2.1; have HB2 := Lib.hid (Bc.out.trans (b2.mono Bc.out.size)); obtain ⟨r0, r1, r2, r3, r4, r5⟩ := sixBlk (P10.out.next HB2.out).prt; obtain ⟨y0, y1, y2, _, _, _⟩ := threeBlk ((HB2.out.block _ hx).trans Y10.out.blk); have hs2 : WT.heap.size ≤ w2.heap.size := HB2.out.size; have hn1 : w2.heap.size ≠ w.heap.size := (by omega); have hn2 : w2.heap.size ≠ gy := (by omega); have RQ := Lib.hid rq2; have FR := Lib.hid fr2; have hv := (b2.block _ (blk_lt Zc.out)).trans Zc.out; obtain ⟨z0, z1, z2, z3, z4, z5⟩ := threeBlk hv; have hq7 := blk_lt hv; have HV := Lib.hid hv; clear hv; clear rq2 fr2 b2)))
                all_goals
                  go_wp2_with fail
                  go_meet
                  first
                    | exact ⟨_, _, _, _, _, _, _, rfl, rfl, rfl, HB2.out.alloc HB2.out.size _, hs2, heap_alloc_new w2 _, (RQ.out.mono Ba.out.size).alloc _, (FR.out.mono Ba.out.size).alloc _⟩
                    | exact ⟨_, _, _, _, _, _, _, rfl, rfl, rfl, put3_below HB2.out (Nat.le_refl _) _ _ _, Nat.le_refl _, put3_blk HV.out, (low3q RQ.out (by first | (simp; done) | (simp; omega))).mono Bb.out.size, (low3w FR.out (by first | (simp; done) | (simp; omega))).mono Bb.out.size⟩
                    | exact ⟨_, _, _, _, _, _, _, rfl, rfl, rfl, put3_below HB2.out (Nat.le_succ _) _ _ _, Nat.le_succ _, put3_blk HV.out, (low3q RQ.out (by first | (simp; done) | (simp; omega))).mono Bc.out.size, (low3w FR.out (by first | (simp; done) | (simp; omega))).mono Bc.out.size⟩
              case rest =>
                obtain ⟨g11, a11, m11, c11, d11, k11, e11, rfl, rfl, rfl, A⟩ := hcut
                obtain ⟨hA1, hA2, hA3, hA4, hA5⟩ := A.out
                obtain ⟨WU, rfl⟩ : ∃ WU : World, WU = wc := ⟨_, rfl⟩
                have P11 := Lib.hid (P10.out.next hA1)
                have Y11 : Hid (QR WU g11 (.slice a11 m11 c11) (.slice d11 k11 e11) j ((qz sn k).tail ++ [List.replicate sn 0]) []) := ⟨hA3, hA4.mono (Nat.zero_le _), hA5.rd⟩
                have hg11 : w.heap.size + 1 < g11 := by omega
                clear A hA1 hA2 hA3 hA4 hA5 P10 Y10 hmk p0 p1 p2 p3 p4 p5 x0 x1 x2 hp hx HSA
                obtain ⟨p0, p1, p2, p3, p4, p5⟩ := sixBlk P11.out.prt
                have hp := blk_lt P11.out.prt
                obtain ⟨x0, x1, x2, _, _, _⟩ := threeBlk Y11.out.blk
                have hx := blk_lt Y11.out.blk
                have hmk : ∀ W : World, (Instr.makeSlice 28 (.int .i64 ((sn : Int))) (.int .i64 ((sn : Int)))).run Try.prog W = .ok (.slice (some ⟨W.heap.size, 0, none⟩) (sn) (sn)) (W.alloc (.cells (madeCells #[.int .u8 0] (sn)) 5)) := mk_zeros _ (sn) (rfl) (by omega)
                go_upto_region 29 with (fail)
                go_cut [26, 27, 28] (fun sv sw se wx => ∃ (g : Nat) (a2 : Option Addr) (m2 c2 : Nat) (d2 : Option Addr) (k2 e2 : Nat), sv = .pointer (some ⟨g, 0, none⟩) ∧ sw = .int .i64 (-1) ∧ se = .int .i64 4 ∧ Aside (Below WU.heap.size WU wx ∧ WU.heap.size ≤ g ∧ wx.heap[g]? = some (.cells #[.slice a2 m2 c2, .slice d2 k2 e2, .int .i64 ((j : Int) + 1)] 27 (0, 0)) ∧ RdQ wx WU.heap.size (.slice a2 m2 c2) ((qz sn k).tail ++ [List.replicate sn 0]) ∧ FrW wx WU.heap.size (.slice d2 k2 e2) []))
                case first =>
                  have Ba : Hid (Below WU.heap.size WU ((WU.alloc (.cells (madeCells #[.int .u8 0] (sn)) 5)).drew)) := (((Below.refl _ WU).alloc (Nat.le_refl _) _).drew)
                  have Ca : Hid (Calls Try.prog 27 #[.agg #[.string nm, .int .u8 c, .bool o, .int .i64 sn, .int .i64 k, .int .i64 r], .agg #[.slice a11 m11 c11, .slice d11 k11 e11, .int .i64 (j : Int)], .slice (some ⟨WU.heap.size, 0, none⟩) (sn) (sn)] ((WU.alloc (.cells (madeCells #[.int .u8 0] (sn)) 5)).drew) (RetQ ((WU.alloc (.cells (madeCells #[.int .u8 0] (sn)) 5)).drew) ((qz sn k).tail ++ [List.replicate sn 0]) [] ((j : Int) + 1) (.int .i64 (-1)) (.int .i64 4))) := by
                    have h := sendQ_c nm c o sn k r (j : Int) (.slice (some ⟨WU.heap.size, 0, none⟩) (sn) (sn)) (List.replicate (sn) 0) _ _ ((qz sn k).tail ++ [List.replicate sn 0]) [] ((WU.alloc (.cells (madeCells #[.int .u8 0] (sn)) 5)).drew) ((Y11.out.rq.below Ba.out).mono (Nat.zero_le _)) ((Y11.out.rw_.below Ba.out).mono (Nat.zero_le _)) (by unfold WfW; decide) (by decide) HTM.out.1 HTM.out.2 (made_rd (sn) (by exact heap_alloc_new WU _)) (by simp; omega)
                    rw [HSB.out] at h
                    exact h
                  have Bb : Hid (Below WU.heap.size WU (((WU.alloc (.cells #[.slice none 0 0, .slice none 0 0, .int .i64 0] 27)).alloc (.cells (madeCells #[.int .u8 0] (sn)) 5)).drew)) := ((((Below.refl _ WU).alloc (Nat.le_refl _) _).alloc (by simp) _).drew)
                  have Cb : Hid (Calls Try.prog 27 #[.agg #[.string nm, .int .u8 c, .bool o, .int .i64 sn, .int .i64 k, .int .i64 r], .agg #[.slice a11 m11 c11, .slice d11 k11 e11, .int .i64 (j : Int)], .slice (some ⟨WU.heap.size + 1, 0, none⟩) (sn) (sn)] (((WU.alloc (.cells #[.slice none 0 0, .slice none 0 0, .int .i64 0] 27)).alloc (.cells (madeCells #[.int .u8 0] (sn)) 5)).drew) (RetQ (((WU.alloc (.cells #[.slice none 0 0, .slice none 0 0, .int .i64 0] 27)).alloc (.cells (madeCells #[.int .u8 0] (sn)) 5)).drew) ((qz sn k).tail ++ [List.replicate sn 0]) [] ((j : Int) + 1) (.int .i64 (-1)) (.int .i64 4))) := by
                    have h := sendQ_c nm c o sn k r (j : Int) (.slice (some ⟨WU.heap.size + 1, 0, none⟩) (sn) (sn)) (List.replicate (sn) 0) _ _ ((qz sn k).tail ++ [List.replicate sn 0]) [] (((WU.alloc (.cells #[.slice none 0 0, .slice none 0 0, .int .i64 0] 27)).alloc (.cells (madeCells #[.int .u8 0] (sn)) 5)).drew) ((Y11.out.rq.below Bb.out).mono (Nat.zero_le _)) ((Y11.out.rw_.below Bb.out).mono (Nat.zero_le _)) (by unfold WfW; decide) (by decide) HTM.out.1 HTM.out.2 (made_rd (sn) (by exact allocB2 WU _ _)) (by simp; omega)
                    rw [HSB.out] at h
                    exact h
                  have Zb : Hid ((((WU.alloc (.cells #[.slice none 0 0, .slice none 0 0, .int .i64 0] 27)).alloc (.cells (madeCells #[.int .u8 0] (sn)) 5)).drew).heap[WU.heap.size]? = some (.cells #[.slice none 0 0, .slice none 0 0, .int .i64 0] 27 (0, 0))) := far_new (heap_alloc_new WU _)
                  have Bc : Hid (Below WU.heap.size WU (((WU.alloc (.cells (madeCells #[.int .u8 0] (sn)) 5)).alloc (.cells #[.slice none 0 0, .slice none 0 0, .int .i64 0] 27)).drew)) := ((((Below.refl _ WU).alloc (Nat.le_refl _) _).alloc (by simp) _).drew)
                  have Cc : Hid (Calls Try.prog 27 #[.agg #[.string nm, .int .u8 c, .bool o, .int .i64 sn, .int .i64 k, .int .i64 r], .agg #[.slice a11 m11 c11, .slice d11 k11 e11, .int .i64 (j : Int)], .slice (some ⟨WU.heap.size, 0, none⟩) (sn) (sn)] (((WU.alloc (.cells (madeCells #[.int .u8 0] (sn)) 5)).alloc (.cells #[.slice none 0 0, .slice none 0 0, .int .i64 0] 27)).drew) (RetQ (((WU.alloc (.cells (madeCells #[.int .u8 0] (sn)) 5)).alloc (.cells #[.slice none 0 0, .slice none 0 0, .int .i64 0] 27)).drew) ((qz sn k).tail ++ [List.replicate sn 0]) [] ((j : Int) + 1) (.int .i64 (-1)) (.int .i64 4))) := by
                    have h := sendQ_c nm c o sn k r (j : Int) (.slice (some ⟨WU.heap.size, 0, none⟩) (sn) (sn)) (List.replicate (sn) 0) _ _ ((qz sn k).tail ++ [List.replicate sn 0]) [] (((WU.alloc (.cells (madeCells #[.int .u8 0] (sn)) 5)).alloc (.cells #[.slice none 0 0, .slice none 0 0, .int .i64 0] 27)).drew) ((Y11.out.rq.below Bc.out).mono (Nat.zero_le _)) ((Y11.out.rw_.below Bc.out).mono (Nat.zero_le _)) (by unfold WfW; decide) (by decide) HTM.out.1 HTM.out.2 (made_rd (sn) (by exact far_new (heap_alloc_new WU _))) (by simp; omega)
                    rw [HSB.out] at h
                    exact h
                  have Zc : Hid ((((WU.alloc (.cells (madeCells #[.int .u8 0] (sn)) 5)).alloc (.cells #[.slice none 0 0, .slice none 0 0, .int .i64 0] 27)).drew).heap[WU.heap.size + 1]? = some (.cells #[.slice none 0 0, .slice none 0 0, .int .i64 0] 27 (0, 0))) := allocB2 WU _ _
                  have hne1 : WU.heap.size ≠ w.heap.size := by omega
                  have hne2 : WU.heap.size + 1 ≠ w.heap.size := by omega
                  have hne3 : WU.heap.size ≠ g11 := by omega
                  have hne4 : WU.heap.size + 1 ≠ g11 := by omega
                  go_region_held3 (fun w' => w'.cell? ⟨w.heap.size, 0, none⟩ = some (.string nm) ∧ w'.cell? ⟨w.heap.size, 1, none⟩ = some (.int .u8 c) ∧ w'.cell? ⟨w.heap.size, 2, none⟩ = some (.bool o) ∧ w'.cell? ⟨w.heap.size, 3, none⟩ = some (.int .i64 sn) ∧ w'.cell? ⟨w.heap.size, 4, none⟩ = some (.int .i64 k) ∧ w'.cell? ⟨w.heap.size, 5, none⟩ = some (.int .i64 r) ∧ w'.cell? ⟨g11, 0, none⟩ = some (.slice a11 m11 c11) ∧ w'.cell? ⟨g11, 1, none⟩ = some (.slice d11 k11 e11) ∧ w'.cell? ⟨g11, 2, none⟩ = some (.int .i64 (j : Int))) (first | go_keep | (refine ⟨?_, ?_, ?_, ?_, ?_, ?_, ?_, ?_, ?_⟩ <;> assumption) | (refine ⟨?_, ?_, ?_, ?_, ?_, ?_, ?_, ?_, ?_⟩ <;> simp [*, World.cell?_setCell_far]))
                    ((first | (go_at_call 27; (with_reducible refine (Ca.out).mono ?_); rintro e w2 ⟨vq2, vw2, rfl, rq2, fr2, b2⟩; obtain ⟨a2, m2, c2, rfl⟩ := rq_shape rq2; obtain ⟨d2, k2, e2, rfl⟩ := rw_shape fr2.1; have HB2 := Lib.hid (Ba.out.trans (b2.mono Ba.out.size)); obtain ⟨r0, r1, r2, r3, r4, r5⟩ := sixBlk (P11.out.next HB2.out).prt; obtain ⟨y0, y1, y2, _, _, _⟩ := threeBlk ((HB2.out.block _ hx).trans Y11.out.blk); have hs2 : WU.heap.size ≤ w2.heap.size := HB2.out.size; have hn1 : w2.heap.size ≠ w.heap.size := (by omega); have hn2 : w2.heap.size ≠ g11 := (by omega); have RQ := Lib.hid rq2; have FR := Lib.hid fr2; clear rq2 fr2 b2) | (go_at_call 27; (with_reducible refine (Cb.out).mono ?_); rintro e w2 ⟨vq2, vw2, rfl, rq2, fr2, b2⟩; obtain ⟨a2, m2, c2, rfl⟩ := rq_shape rq2; obtain ⟨d2, k2, e2, rfl⟩ := rw_shape fr2.1; have HB2 := Lib.hid (Bb.out.trans (b2.mono Bb.out.size)); obtain ⟨r0, r1, r2, r3, r4, r5⟩ := sixBlk (P11.out.next HB2.out).prt; obtain ⟨y0, y1, y2, _, _, _⟩ := threeBlk ((HB2.out.block _ hx).trans Y11.out.blk); have hs2 : WU.heap.size ≤ w2.heap.size := HB2.out.size; have hn1 : w2.heap.size ≠ w.heap.size := (by omega); have hn2 : w2.heap.size ≠ g11 := (by omega); have RQ := Lib.hid rq2; have FR := Lib.hid fr2; have hv := (b2.block _ (blk_lt Zb.out)).trans Zb.out; obtain ⟨z0, z1, z2, z3, z4, z5⟩ := threeBlk hv; have hq7 := blk_lt hv; have HV := Lib.hid hv; clear hv; clear rq2 fr2 b2) | (go_at_call 27; (with_reducible refine (Cc.out).mono ?_); rintro e w2 ⟨vq2, vw2, rfl, rq2, fr2, b2⟩; obtain ⟨a2, m2, c2, rfl⟩ := rq_shape rq2; obtain ⟨d2, k2, e2, rfl⟩ := rw_shape fr2.1; have HB2 := Lib.hid (Bc.out.trans (b2.mono Bc.out.size)); obtain ⟨r0, r1, r2, r3, r4, r5⟩ := sixBlk (P11.out.next HB2.out).prt; obtain ⟨y0, y1, y2, _, _, _⟩ := threeBlk ((HB2.out.block _ hx).trans Y11.out.blk); have hs2 : WU.heap.size ≤ w2.heap.size := HB2.out.size; have hn1 : w2.heap.size ≠ w.heap.size := (by omega); have hn2 : w2.heap.size ≠ g11 := (by omega); have RQ := Lib.hid rq2; have FR := Lib.hid fr2; have hv := (b2.block _ (blk_lt Zc.out)).trans Zc.out; obtain ⟨z0, z1, z2, z3, z4, z5⟩ := threeBlk hv; have hq7 := blk_lt hv; have HV := Lib.hid hv; clear hv; clear rq2 fr2 b2)))
                  all_goals
                    go_wp2_with fail
                    go_meet
                    first
                      | exact ⟨_, _, _, _, _, _, _, rfl, rfl, rfl, HB2.out.alloc HB2.out.size _, hs2, heap_alloc_new w2 _, (RQ.out.mono Ba.out.size).alloc _, (FR.out.mono Ba.out.size).alloc _⟩
                      | exact ⟨_, _, _, _, _, _, _, rfl, rfl, rfl, put3_below HB2.out (Nat.le_refl _) _ _ _, Nat.le_refl _, put3_blk HV.out, (low3q RQ.out (by first | (simp; done) | (simp; omega))).mono Bb.out.size, (low3w FR.out (by first | (simp; done) | (simp; omega))).mono Bb.out.size⟩
                      | exact ⟨_, _, _, _, _, _, _, rfl, rfl, rfl, put3_below HB2.out (Nat.le_succ _) _ _ _, Nat.le_succ _, put3_blk HV.out, (low3q RQ.out (by first | (simp; done) | (simp; omega))).mono Bc.out.size, (low3w FR.out (by first | (simp; done) | (simp; omega))).mono Bc.out.size⟩
                case rest =>
                  obtain ⟨g12, a12, m12, c12, d12, k12, e12, rfl, rfl, rfl, A⟩ := hcut
                  have P12 := Lib.hid (P11.out.next A.out.1)
                  clear A P11 Y11 hmk p0 p1 p2 p3 p4 p5 x0 x1 x2 hp hx HSB
                  go_wp2_with fail
                  refine (awake23_c _).mono ?_
                  rintro e w9 ⟨rfl, b9⟩
                  have HB9 := Lib.hid (P12.out.next b9).bel
                  clear b9
                  go_wp2_with fail
                  go_ret
                  exact ⟨rfl, HB9.out⟩
end Go.Proofs.Ytglbfmcbojjglaa

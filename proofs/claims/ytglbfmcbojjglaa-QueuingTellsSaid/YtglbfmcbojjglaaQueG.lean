/-
  The contract of queuing.Send. Conditions: the state and the message can be read, its processes are of type int, at most ninety thousand elements, each message of at most a million bytes.
-/
import Derived.Test.YtglbfmcbojjglaaQueF
namespace Go.Proofs.Ytglbfmcbojjglaa
open Go.RowKit

theorem vldQ_bd {k s d r n : Int} {q : List (List Int)} {l : List Wt} (h : vldQ k s d r q l n = true) : 0 ≤ n ∧ n ≤ 1073741824 := by
  simp only [vldQ, badS, Bool.and_eq_true, Bool.not_eq_true', Bool.or_eq_false_iff, decide_eq_false_iff_not] at h
  omega
theorem RdW.head0 {w : World} {B m d : Nat} {a : Option Addr} {x : Wt} {l k : List Wt} (h : RdW w B (.slice a m d) k) (hk : k = x :: l) : ∃ b off, a = some ⟨b, off, none⟩ ∧ b < w.heap.size ∧ w.cell? ⟨b, off, none⟩ = some (.int .i64 x.proc) := by
  subst hk
  obtain ⟨ao, cap, hv, h1, h2, h3, hp⟩ := h
  simp only [Value.slice.injEq, List.length_cons] at hv
  obtain ⟨rfl, rfl, rfl⟩ := hv
  simp only [List.length_cons] at hp
  obtain ⟨b', off', rfl, hB, hbs, hc⟩ := hp (by omega)
  exact ⟨b', off', rfl, hbs, hc 0 _ rfl⟩
theorem FrW.empty {w w' : World} {B : Nat} {v : Value} {l : List Wt} (h : FrW w B v l) (hl : l = []) : FrW w' B v l := by
  subst hl
  obtain ⟨⟨ao, cap, hv, h1, h2, h3, _⟩, hf⟩ := h
  refine ⟨⟨ao, cap, hv, h1, h2, h3, fun h0 => absurd h0 (by simp)⟩, fun a n c hv2 hn => ?_⟩
  rw [hv] at hv2
  simp only [Value.slice.injEq, List.length_nil] at hv2
  omega
/-- append at a step of a region that draws. -/
theorem step_append_run {P : Program} {ops : Array Oper} {o : Oper} {a : Act} {w : World} {K : Act → World → Prop} {Q : Exit → Act → World → Prop} {E : Prop}
    (hg : o.guard = none) (d x : Operand) (t : TypeId) (hop : o.op = .call { callee := .builtin .append, args := #[d, x], argTypes := #[t, t] })
    (v u : Value) (hd : a.eval d = v) (hx : a.eval x = u) {v' : Value} {w' : World} (hr : (Builtin.append_ #[t, t] o.type #[v, u]).run P w = .ok v' w') (hK : K (a.put o.dst v') w') :
    if Region.wanted o (yielded ops a.tmps) = true then Oper.wp P o a w K Q else E := by
  have hw : Region.wanted o (yielded ops a.tmps) = true := by simp [Region.wanted, hg]
  rw [if_pos hw]
  unfold Oper.wp execOp
  simp only [hop, resolve, invoke, builtin, Sem.run_bind, Sem.run_pure, Result.andThen_ok, List.map_toArray, List.map_cons, List.map_nil, hd, hx, hr]
  exact hK

section
variable {w W W' : World} {nm : ByteArray} {k : Int} {o : Bool} {s d r : Int} {vq0 vw0 : Value} {n0 : Int} {g : Nat} {vq vw : Value} {n : Int} {q : List (List Int)} {l : List Wt}
theorem QM.lastD (h : QM w W nm k o s d r vq0 vw0 n0 g vq vw n q l) (x y z : Value) : RdQ (fin3 w W.drew x y z) w.heap.size vq q ∧ FrW (fin3 w W.drew x y z) w.heap.size vw l ∧ Below w.heap.size w (fin3 w W.drew x y z) := by
  obtain ⟨h1, h2, h3⟩ := h.last x y z
  exact ⟨h1, h2, ⟨h3.os, h3.tape, h3.output, h3.size, h3.block⟩⟩
theorem ne_own {t : Nat} {cs : Array Value} {fz : Nat × Nat} {B e s n g : Nat} {v : Value} {xs : List Value} (hg : W.heap[g]? = some (.cells cs t fz)) (h : W.ownsRow B e s v n xs) (ht : t ≠ e) : some g ≠ v.ownBlock := by
  intro e1
  rcases h.2 with ⟨rfl, _⟩ | ⟨g', cap', cur', rfl, _, hg', _⟩
  · simp [Value.ownBlock] at e1
  · simp only [Value.ownBlock, Option.some.injEq] at e1
    subst e1
    rw [hg] at hg'
    simp only [Option.some.injEq, Obj.cells.injEq] at hg'
    exact ht hg'.2.1
/-- One message more in 'out'. -/
theorem QM.append {a : Option Addr} {m c : Nat} {x : List Int} (h : QM w W nm k o s d r vq0 vw0 n0 g vq vw n q l) (hl : l = []) (hx : OwnB W (w.heap.size + 3) (.slice a m c) x) (hql : q.length ≤ 90000) :
    ∃ v4 w4, (Builtin.append_ #[24, 24] 24 #[vq, .slice (some ⟨W.heap.size, 0, none⟩) 1 1]).run Try.prog (W.alloc (.cells #[.slice a m c] 28)) = .ok v4 w4 ∧ (∃ a m c, v4 = .slice a m c) ∧
      w4.heap[g]? = some (.cells #[vq, vw, .int .i64 n] 27 (0, 0)) ∧ w4.heap[w.heap.size + 1 + 1]? = some (.cells #[.slice none 0 0, .slice none 0 0, .int .i64 0] 27 (0, 0)) ∧
      QM w (w4.setCell ⟨g, 0, none⟩ v4) nm k o s d r vq0 vw0 n0 g v4 vw n (q ++ [x]) l := by
  obtain ⟨vs, ho, hin⟩ := h.oq
  obtain ⟨i0, hi, hz0, hz1, hz2⟩ := info_parts info_BS
  have ha : Below W.heap.size W (W.alloc (.cells #[.slice a m c] 28)) := (Below.refl _ _).alloc (Nat.le_refl _) _
  have ho' := own_below ho ha
  have hge := h.ge
  have hgl := blk_lt h.obj
  have hsz : (W.alloc (.cells #[.slice a m c] 28)).heap.size = W.heap.size + 1 := by simp
  obtain ⟨v4, w4, hrun, hown, hgr, _⟩ := run_append_own (P := Try.prog) (W.alloc (.cells #[.slice a m c] 28)) (w.heap.size + 3) 24 24 28 i0 (.slice none 0 0) 1 24 Try.underlying24 hi hz0 hz1 hz2 rfl (by decide) vq q.length vs ho' ⟨W.heap.size, 0, none⟩ 1 1 [.slice a m c] rfl
    (by
      intro j u hj
      match j, hj with
      | 0, hj =>
        simp at hj
        subst hj
        rw [addr_add, cell_of_row _ _ _ _ _ _ (heap_alloc_new W _)]
        rfl)
    (by intro u hu; simp at hu; subst hu; rfl) (by unfold maxLen; omega) (by omega) (by omega)
  have hblk : ∀ {b : Nat} {cs : Array Value} {t : TypeId}, W.heap[b]? = some (.cells cs t (0, 0)) → t ≠ 28 → w4.heap[b]? = some (.cells cs t (0, 0)) := fun {b cs t} hb ht =>
    (hgr.block b (by have := blk_lt hb; omega) (ne_own ((ha.block b (blk_lt hb)).trans hb) ho' ht)).trans ((ha.block b (blk_lt hb)).trans hb)
  have hq4 : OwnQ w4 (w.heap.size + 3) v4 (q ++ [x]) := OwnQ.snoc ho' (fun i u y hu hy => (hin i u y hu hy).below ha) (hx.below ha) hgr hown
  have hobj := hblk h.obj (by decide)
  have hbel : Below w.heap.size w w4 := by
    have h1 := h.bel.alloc h.bel.size (.cells #[.slice a m c] 28)
    refine ⟨hgr.os.trans h1.os, hgr.tape.trans h1.tape, hgr.output.trans h1.output, Nat.le_trans h1.size hgr.size, fun b hb => ?_⟩
    have hbs := h.bel.size
    refine (hgr.block b (by omega) (fun e => ?_)).trans (h1.block b hb)
    have := (ho'.lt b e.symm).1
    omega
  refine ⟨v4, w4, hrun, ?_, hobj, hblk h.res (by decide), ?_⟩
  · obtain ⟨a, c, hv⟩ := own_slice hown
    exact ⟨a, _, c, hv⟩
  · exact ⟨(Below.heap_setCell _ _ _ _ (by show w.heap.size ≠ g; omega)).trans (hblk h.prt (by decide)), (Below.heap_setCell _ _ _ _ (by show w.heap.size + 1 ≠ g; omega)).trans (hblk h.arg (by decide)), (Below.heap_setCell _ _ _ _ (by show w.heap.size + 1 + 1 ≠ g; omega)).trans (hblk h.res (by decide)), hge, (set3 hobj v4).1, hq4.oth hobj (by decide) (by decide), h.fr.empty hl, h.ap, hbel.setCell (p := ⟨g, 0, none⟩) (by show _ ≤ g; omega) v4⟩
end

set_option maxHeartbeats 4000000 in
set_option maxRecDepth 100000 in
theorem sendQ_c (nm : ByteArray) (k : Int) (o : Bool) (s d r n : Int) (vx : Value) (x : List Int) (vq vw : Value) (q : List (List Int)) (l : List Wt) (w : World) (hq : RdQ w 0 vq q) (hw : RdW w 0 vw l) (hwf : WfW l) (hl : l.length ≤ 90000) (hql : q.length ≤ 90000) (hm : ∀ x ∈ q, x.length ≤ 1000000) (hx : RdI .u8 w 0 vx x) (hxl : x.length ≤ 1000000) :
    Calls Try.prog 27 #[.agg #[.string nm, .int .u8 k, .bool o, .int .i64 s, .int .i64 d, .int .i64 r], .agg #[vq, vw, .int .i64 n], vx] w (RetQ w (sendQ k s d r q l n x).1 (sendQ k s d r q l n x).2.1 (sendQ k s d r q l n x).2.2.1 (.int .i64 (sendQ k s d r q l n x).2.2.2.1) (.int .i64 (sendQ k s d r q l n x).2.2.2.2)) := by
  obtain ⟨aq, cq, rfl⟩ := hq.shape'
  obtain ⟨aw, cw, rfl, hnc, hno, hpw⟩ := hw.open_
  clear hnc hno hpw
  obtain ⟨ax, cx, rfl, hxc, hxn, hxp⟩ := hx.open_
  clear hxc hxn hxp
  have HRX := Lib.hid hx
  clear hx
  have HRQ := Lib.hid hq
  have HRW := Lib.hid hw
  have HWF := Lib.hid hwf
  have HM := Lib.hid hm
  have hW3 : W3 w nm k o s d r (.slice aq q.length cq) (.slice aw l.length cw) n = ((w.alloc (.cells #[.string nm, .int .u8 k, .bool o, .int .i64 s, .int .i64 d, .int .i64 r] 23)).alloc (.cells #[.slice aq q.length cq, .slice aw l.length cw, .int .i64 n] 27)).alloc (.cells #[.slice none 0 0, .slice none 0 0, .int .i64 0] 27) := rfl
  have HW3 := Lib.hid hW3
  clear hq hw hwf hm hW3
  have hway : (vldQ k s d r q l n = false ∧ sendQ k s d r q l n x = (q, l, n, -1, 2)) ∨ (vldQ k s d r q l n = true ∧ x = [] ∧ sendQ k s d r q l n x = (q, l, n, -1, 2)) ∨ (vldQ k s d r q l n = true ∧ x ≠ [] ∧ s < (x.length : Int) ∧ sendQ k s d r q l n x = (q, l, n, -1, 3)) ∨
      (vldQ k s d r q l n = true ∧ x ≠ [] ∧ ¬ s < (x.length : Int) ∧ ∃ y m, l = y :: m ∧ sendQ k s d r q l n x = (q, m, n, y.proc, 0)) ∨ (vldQ k s d r q l n = true ∧ x ≠ [] ∧ ¬ s < (x.length : Int) ∧ l = [] ∧ (q.length : Int) = d ∧ sendQ k s d r q l n x = (q, l, if n < 1073741824 then n + 1 else 1073741824, -1, 4)) ∨
      (vldQ k s d r q l n = true ∧ x ≠ [] ∧ ¬ s < (x.length : Int) ∧ l = [] ∧ ¬ (q.length : Int) = d ∧ sendQ k s d r q l n x = (q ++ [x], l, n, -1, 0)) := by
    unfold sendQ
    cases vldQ k s d r q l n
    · simp
    · by_cases h1 : x = []
      · simp [h1]
      · by_cases h2 : s < (x.length : Int)
        · simp [h1, h2]
        · cases l with
          | cons y m => exact .inr (.inr (.inr (.inl ⟨rfl, h1, h2, y, m, rfl, by simp [h1, h2]⟩)))
          | nil =>
            by_cases h3 : (q.length : Int) = d
            · exact .inr (.inr (.inr (.inr (.inl ⟨rfl, h1, h2, rfl, h3, by simp [h1, h2, h3]⟩))))
            · exact .inr (.inr (.inr (.inr (.inr ⟨rfl, h1, h2, rfl, h3, by simp [h1, h2, h3]⟩))))
  rcases hway with ⟨k1, k2⟩ | ⟨k1, kx, k2⟩ | ⟨k1, kx, ks, k2⟩ | ⟨k1, kx, ks, y, m, kl, k2⟩ | ⟨k1, kx, ks, kl, kd, k2⟩ | ⟨k1, kx, ks, kl, kd, k2⟩
  · rw [k2]
    clear k2
    have K1 := Lib.hid k1
    clear k1
    go_enter Try.func27, Try.ntmps27
    go_wp2_with fail
    rw [← HW3.out]
    refine (ownQ_c _ _ q l n _ (HRQ.out.below w3_below) (HRW.out.below w3_below) (by omega) (by omega) HM.out).mono ?_
    rintro e w1 ⟨vq1, vw1, rfl, oq1, fr1, b1⟩
    obtain ⟨a1, c1, rfl⟩ := oq1.rd.shape'
    obtain ⟨a2, c2, rfl⟩ := fr_slice fr1
    obtain ⟨p0, p1, p2, p3, p4, p5⟩ := sixBlk ((b1.block _ (by rw [w3_size]; omega)).trans w3_prt)
    obtain ⟨g0, g1, g2, g3, g4, g5⟩ := threeBlk ((b1.block _ (by rw [w3_size]; omega)).trans w3_arg)
    have hs1 : w.heap.size + 3 ≤ w1.heap.size := by have := b1.size; rw [w3_size] at this; exact this
    have hp1 : w.heap.size < w1.heap.size := by omega
    have ha1 : w.heap.size + 1 < w1.heap.size := by omega
    have hr1 : w.heap.size + 1 + 1 < w1.heap.size := by omega
    have M1 := Lib.hid (QM.new (n := n) oq1 fr1 b1)
    clear oq1 fr1 b1 HW3
    go_wp2_with fail
    obtain ⟨W1, hW1⟩ : ∃ W1, W1 = w1.alloc (.cells #[.slice a1 q.length c1, .slice a2 l.length c2, .int .i64 n] 27) := ⟨_, rfl⟩
    rw [← hW1] at M1 ⊢
    clear hW1 p0 p1 p2 p3 p4 p5 g0 g1 g2 g3 g4 g5
    have hv := validQ_c nm k o s d r n _ _ q l W1 (HRQ.out.below M1.out.bel) (HRW.out.below M1.out.bel) HWF.out (by omega) (by omega)
    rw [K1.out] at hv
    refine hv.mono ?_
    clear hv
    rintro e w2 ⟨rfl, b2⟩
    have M2 := Lib.hid (M1.out.next b2)
    clear b2 M1
    obtain ⟨p0, p1, p2, p3, p4, p5⟩ := sixBlk M2.out.prt
    obtain ⟨g0, g1, g2, g3, g4, g5⟩ := threeBlk M2.out.arg
    obtain ⟨r0, r1, r2, r3, r4, r5⟩ := threeBlk M2.out.res
    obtain ⟨o0, o1, o2, o3, o4, o5⟩ := threeBlk M2.out.obj
    have hos := blk_lt M2.out.obj
    have hps := blk_lt M2.out.prt
    have has := blk_lt M2.out.arg
    have hrs := blk_lt M2.out.res
    go_wp2_with fail
    refine bodyPost_ret (v := .tuple #[.agg #[.slice a1 q.length c1, .slice a2 l.length c2, .int .i64 n], .int .i64 (-1), .int .i64 2]) (by simp [results, Try.results27, go_sem, r0, r1, r2]) rfl ?_
    exact ⟨_, _, rfl, M2.out.last _ _ _⟩
  · rw [k2]
    clear k2
    have K1 := Lib.hid k1
    clear k1
    have hx0 : (x.length == 0) = true := by rw [kx]; rfl
    have hx1 : ((x.length : Int) == 0) = true := by rw [kx]; rfl
    clear kx
    go_enter Try.func27, Try.ntmps27
    go_wp2_with fail
    rw [← HW3.out]
    refine (ownQ_c _ _ q l n _ (HRQ.out.below w3_below) (HRW.out.below w3_below) (by omega) (by omega) HM.out).mono ?_
    rintro e w1 ⟨vq1, vw1, rfl, oq1, fr1, b1⟩
    obtain ⟨a1, c1, rfl⟩ := oq1.rd.shape'
    obtain ⟨a2, c2, rfl⟩ := fr_slice fr1
    obtain ⟨p0, p1, p2, p3, p4, p5⟩ := sixBlk ((b1.block _ (by rw [w3_size]; omega)).trans w3_prt)
    obtain ⟨g0, g1, g2, g3, g4, g5⟩ := threeBlk ((b1.block _ (by rw [w3_size]; omega)).trans w3_arg)
    have hs1 : w.heap.size + 3 ≤ w1.heap.size := by have := b1.size; rw [w3_size] at this; exact this
    have hp1 : w.heap.size < w1.heap.size := by omega
    have ha1 : w.heap.size + 1 < w1.heap.size := by omega
    have hr1 : w.heap.size + 1 + 1 < w1.heap.size := by omega
    have M1 := Lib.hid (QM.new (n := n) oq1 fr1 b1)
    clear oq1 fr1 b1 HW3
    go_wp2_with fail
    obtain ⟨W1, hW1⟩ : ∃ W1, W1 = w1.alloc (.cells #[.slice a1 q.length c1, .slice a2 l.length c2, .int .i64 n] 27) := ⟨_, rfl⟩
    rw [← hW1] at M1 ⊢
    clear hW1 p0 p1 p2 p3 p4 p5 g0 g1 g2 g3 g4 g5
    have hv := validQ_c nm k o s d r n _ _ q l W1 (HRQ.out.below M1.out.bel) (HRW.out.below M1.out.bel) HWF.out (by omega) (by omega)
    rw [K1.out] at hv
    refine hv.mono ?_
    clear hv
    rintro e w2 ⟨rfl, b2⟩
    have M2 := Lib.hid (M1.out.next b2)
    clear b2 M1
    obtain ⟨p0, p1, p2, p3, p4, p5⟩ := sixBlk M2.out.prt
    obtain ⟨g0, g1, g2, g3, g4, g5⟩ := threeBlk M2.out.arg
    obtain ⟨r0, r1, r2, r3, r4, r5⟩ := threeBlk M2.out.res
    obtain ⟨o0, o1, o2, o3, o4, o5⟩ := threeBlk M2.out.obj
    have hos := blk_lt M2.out.obj
    have hps := blk_lt M2.out.prt
    have has := blk_lt M2.out.arg
    have hrs := blk_lt M2.out.res
    go_wp2_with fail
    refine bodyPost_ret (v := .tuple #[.agg #[.slice a1 q.length c1, .slice a2 l.length c2, .int .i64 n], .int .i64 (-1), .int .i64 2]) (by simp [results, Try.results27, go_sem, r0, r1, r2]) rfl ?_
    exact ⟨_, _, rfl, M2.out.last _ _ _⟩
  · rw [k2]
    clear k2
    have K1 := Lib.hid k1
    clear k1
    have hx0 : (x.length == 0) = false := by simp; exact kx
    have hx1 : ((x.length : Int) == 0) = false := by simp; exact kx
    clear kx
    go_enter Try.func27, Try.ntmps27
    go_wp2_with fail
    rw [← HW3.out]
    refine (ownQ_c _ _ q l n _ (HRQ.out.below w3_below) (HRW.out.below w3_below) (by omega) (by omega) HM.out).mono ?_
    rintro e w1 ⟨vq1, vw1, rfl, oq1, fr1, b1⟩
    obtain ⟨a1, c1, rfl⟩ := oq1.rd.shape'
    obtain ⟨a2, c2, rfl⟩ := fr_slice fr1
    obtain ⟨p0, p1, p2, p3, p4, p5⟩ := sixBlk ((b1.block _ (by rw [w3_size]; omega)).trans w3_prt)
    obtain ⟨g0, g1, g2, g3, g4, g5⟩ := threeBlk ((b1.block _ (by rw [w3_size]; omega)).trans w3_arg)
    have hs1 : w.heap.size + 3 ≤ w1.heap.size := by have := b1.size; rw [w3_size] at this; exact this
    have hp1 : w.heap.size < w1.heap.size := by omega
    have ha1 : w.heap.size + 1 < w1.heap.size := by omega
    have hr1 : w.heap.size + 1 + 1 < w1.heap.size := by omega
    have M1 := Lib.hid (QM.new (n := n) oq1 fr1 b1)
    clear oq1 fr1 b1 HW3
    go_wp2_with fail
    obtain ⟨W1, hW1⟩ : ∃ W1, W1 = w1.alloc (.cells #[.slice a1 q.length c1, .slice a2 l.length c2, .int .i64 n] 27) := ⟨_, rfl⟩
    rw [← hW1] at M1 ⊢
    clear hW1 p0 p1 p2 p3 p4 p5 g0 g1 g2 g3 g4 g5
    have hv := validQ_c nm k o s d r n _ _ q l W1 (HRQ.out.below M1.out.bel) (HRW.out.below M1.out.bel) HWF.out (by omega) (by omega)
    rw [K1.out] at hv
    refine hv.mono ?_
    clear hv
    rintro e w2 ⟨rfl, b2⟩
    have M2 := Lib.hid (M1.out.next b2)
    clear b2 M1
    obtain ⟨p0, p1, p2, p3, p4, p5⟩ := sixBlk M2.out.prt
    obtain ⟨g0, g1, g2, g3, g4, g5⟩ := threeBlk M2.out.arg
    obtain ⟨r0, r1, r2, r3, r4, r5⟩ := threeBlk M2.out.res
    obtain ⟨o0, o1, o2, o3, o4, o5⟩ := threeBlk M2.out.obj
    have hos := blk_lt M2.out.obj
    have hps := blk_lt M2.out.prt
    have has := blk_lt M2.out.arg
    have hrs := blk_lt M2.out.res
    go_wp2_with fail
    refine bodyPost_ret (v := .tuple #[.agg #[.slice a1 q.length c1, .slice a2 l.length c2, .int .i64 n], .int .i64 (-1), .int .i64 3]) (by simp [results, Try.results27, go_sem, r0, r1, r2]) rfl ?_
    exact ⟨_, _, rfl, M2.out.last _ _ _⟩
  · rw [k2]
    clear k2
    have K1 := Lib.hid k1
    clear k1
    have hx0 : (x.length == 0) = false := by simp; exact kx
    have hx1 : ((x.length : Int) == 0) = false := by simp; exact kx
    clear kx
    have KL := Lib.hid kl
    have hl0 : 0 < l.length := by rw [kl]; simp
    have hl1 : (0 : Int) < (l.length : Int) := by omega
    clear kl
    go_enter Try.func27, Try.ntmps27
    go_wp2_with fail
    rw [← HW3.out]
    refine (ownQ_c _ _ q l n _ (HRQ.out.below w3_below) (HRW.out.below w3_below) (by omega) (by omega) HM.out).mono ?_
    rintro e w1 ⟨vq1, vw1, rfl, oq1, fr1, b1⟩
    obtain ⟨a1, c1, rfl⟩ := oq1.rd.shape'
    obtain ⟨a2, c2, rfl⟩ := fr_slice fr1
    obtain ⟨p0, p1, p2, p3, p4, p5⟩ := sixBlk ((b1.block _ (by rw [w3_size]; omega)).trans w3_prt)
    obtain ⟨g0, g1, g2, g3, g4, g5⟩ := threeBlk ((b1.block _ (by rw [w3_size]; omega)).trans w3_arg)
    have hs1 : w.heap.size + 3 ≤ w1.heap.size := by have := b1.size; rw [w3_size] at this; exact this
    have hp1 : w.heap.size < w1.heap.size := by omega
    have ha1 : w.heap.size + 1 < w1.heap.size := by omega
    have hr1 : w.heap.size + 1 + 1 < w1.heap.size := by omega
    have M1 := Lib.hid (QM.new (n := n) oq1 fr1 b1)
    clear oq1 fr1 b1 HW3
    go_wp2_with fail
    obtain ⟨W1, hW1⟩ : ∃ W1, W1 = w1.alloc (.cells #[.slice a1 q.length c1, .slice a2 l.length c2, .int .i64 n] 27) := ⟨_, rfl⟩
    rw [← hW1] at M1 ⊢
    clear hW1 p0 p1 p2 p3 p4 p5 g0 g1 g2 g3 g4 g5
    have hv := validQ_c nm k o s d r n _ _ q l W1 (HRQ.out.below M1.out.bel) (HRW.out.below M1.out.bel) HWF.out (by omega) (by omega)
    rw [K1.out] at hv
    refine hv.mono ?_
    clear hv
    rintro e w2 ⟨rfl, b2⟩
    have M2 := Lib.hid (M1.out.next b2)
    clear b2 M1
    obtain ⟨p0, p1, p2, p3, p4, p5⟩ := sixBlk M2.out.prt
    obtain ⟨g0, g1, g2, g3, g4, g5⟩ := threeBlk M2.out.arg
    obtain ⟨r0, r1, r2, r3, r4, r5⟩ := threeBlk M2.out.res
    obtain ⟨o0, o1, o2, o3, o4, o5⟩ := threeBlk M2.out.obj
    have hos := blk_lt M2.out.obj
    have hps := blk_lt M2.out.prt
    have has := blk_lt M2.out.arg
    have hrs := blk_lt M2.out.res
    obtain ⟨hlen, hd1, b, off, rfl, hBb, hbs, c0, c1', c2'⟩ := M2.out.fr.head KL.out
    have hbg : b ≠ w1.heap.size := M2.out.ap _ _ _ rfl (by omega)
    obtain ⟨b', off', rfl, hbw, e0⟩ := HRW.out.head0 KL.out
    have e1 : w2.cell? ⟨b', off', none⟩ = some (.int .i64 y.proc) := (M2.out.bel.cell (p := ⟨b', off', none⟩) hbw).trans e0
    have hb1 : ¬ (b' = w1.heap.size) := by omega
    have hb2 : ¬ (b' = w.heap.size + 1 + 1) := by omega
    have hb3 : b' < w2.heap.size := by omega
    clear hlen c0 c1' c2' e0
    by_cases hc2 : c2 = 1
    · subst hc2
      have T2 := Lib.hid (M2.out.fr.tail KL.out)
      have M3 := Lib.hid (M2.out.putW (u := .slice (some ⟨b, off, none⟩) (l.length - 1) 0) (l' := m) (by have := T2.out; first | rwa [if_pos rfl] at this | rwa [if_pos trivial] at this) (by intro a n cc hv _; simp only [Value.slice.injEq, Option.some.injEq] at hv; rw [← hv.1]; exact hbg))
      clear M2 T2
      go_upto_region 8 with (fail)
      go_region
      all_goals
        go_wp2_with fail
        refine bodyPost_ret (v := .tuple #[.agg #[.slice a1 q.length c1, .slice (some ⟨b, off, none⟩) (l.length - 1) 0, .int .i64 n], .int .i64 y.proc, .int .i64 0]) (by simp [results, Try.results27, go_sem, r0, r1, r2]) rfl ?_
        first | exact ⟨_, _, rfl, M3.out.last _ _ _⟩ | exact ⟨_, _, rfl, M3.out.lastD _ _ _⟩
    · skip
      have T2 := Lib.hid (M2.out.fr.tail KL.out)
      have M3 := Lib.hid (M2.out.putW (u := .slice (some ⟨b, off + 3, none⟩) (l.length - 1) (c2 - 1)) (l' := m) (by have := T2.out; first | rwa [if_neg hc2] at this | rwa [if_pos trivial] at this) (by intro a n cc hv _; simp only [Value.slice.injEq, Option.some.injEq] at hv; rw [← hv.1]; exact hbg))
      clear M2 T2
      go_upto_region 8 with (fail)
      go_region
      all_goals
        go_wp2_with fail
        refine bodyPost_ret (v := .tuple #[.agg #[.slice a1 q.length c1, .slice (some ⟨b, off + 3, none⟩) (l.length - 1) (c2 - 1), .int .i64 n], .int .i64 y.proc, .int .i64 0]) (by simp [results, Try.results27, go_sem, r0, r1, r2]) rfl ?_
        first | exact ⟨_, _, rfl, M3.out.last _ _ _⟩ | exact ⟨_, _, rfl, M3.out.lastD _ _ _⟩
  · rw [k2]
    clear k2
    have K1 := Lib.hid k1
    clear k1
    have hx0 : (x.length == 0) = false := by simp; exact kx
    have hx1 : ((x.length : Int) == 0) = false := by simp; exact kx
    clear kx
    have KL := Lib.hid kl
    have hl0 : ¬ (0 < l.length) := by rw [kl]; simp
    have hl1 : ¬ ((0 : Int) < (l.length : Int)) := by omega
    clear kl
    have hd1 : ((q.length : Int) == d) = true := by simp [kd]
    clear kd
    have hnb := vldQ_bd K1.out
    have hn0 : 0 ≤ n := hnb.1
    have hn1 : n ≤ 1073741824 := hnb.2
    clear hnb
    by_cases hnn : n < 1073741824
    · rw [if_pos hnn]
      have hmn : n + 1 ≤ 1073741824 := by omega
      go_enter Try.func27, Try.ntmps27
      go_wp2_with fail
      rw [← HW3.out]
      refine (ownQ_c _ _ q l n _ (HRQ.out.below w3_below) (HRW.out.below w3_below) (by omega) (by omega) HM.out).mono ?_
      rintro e w1 ⟨vq1, vw1, rfl, oq1, fr1, b1⟩
      obtain ⟨a1, c1, rfl⟩ := oq1.rd.shape'
      obtain ⟨a2, c2, rfl⟩ := fr_slice fr1
      obtain ⟨p0, p1, p2, p3, p4, p5⟩ := sixBlk ((b1.block _ (by rw [w3_size]; omega)).trans w3_prt)
      obtain ⟨g0, g1, g2, g3, g4, g5⟩ := threeBlk ((b1.block _ (by rw [w3_size]; omega)).trans w3_arg)
      have hs1 : w.heap.size + 3 ≤ w1.heap.size := by have := b1.size; rw [w3_size] at this; exact this
      have hp1 : w.heap.size < w1.heap.size := by omega
      have ha1 : w.heap.size + 1 < w1.heap.size := by omega
      have hr1 : w.heap.size + 1 + 1 < w1.heap.size := by omega
      have M1 := Lib.hid (QM.new (n := n) oq1 fr1 b1)
      clear oq1 fr1 b1 HW3
      go_wp2_with fail
      obtain ⟨W1, hW1⟩ : ∃ W1, W1 = w1.alloc (.cells #[.slice a1 q.length c1, .slice a2 l.length c2, .int .i64 n] 27) := ⟨_, rfl⟩
      rw [← hW1] at M1 ⊢
      clear hW1 p0 p1 p2 p3 p4 p5 g0 g1 g2 g3 g4 g5
      have hv := validQ_c nm k o s d r n _ _ q l W1 (HRQ.out.below M1.out.bel) (HRW.out.below M1.out.bel) HWF.out (by omega) (by omega)
      rw [K1.out] at hv
      refine hv.mono ?_
      clear hv
      rintro e w2 ⟨rfl, b2⟩
      have M2 := Lib.hid (M1.out.next b2)
      clear b2 M1
      obtain ⟨p0, p1, p2, p3, p4, p5⟩ := sixBlk M2.out.prt
      obtain ⟨g0, g1, g2, g3, g4, g5⟩ := threeBlk M2.out.arg
      obtain ⟨r0, r1, r2, r3, r4, r5⟩ := threeBlk M2.out.res
      obtain ⟨o0, o1, o2, o3, o4, o5⟩ := threeBlk M2.out.obj
      have hos := blk_lt M2.out.obj
      have hps := blk_lt M2.out.prt
      have has := blk_lt M2.out.arg
      have hrs := blk_lt M2.out.res
      have M3 := Lib.hid (M2.out.putN (n + 1))
      clear M2
      go_wp2_with fail
      refine bodyPost_ret (v := .tuple #[.agg #[.slice a1 q.length c1, .slice a2 l.length c2, .int .i64 (n + 1)], .int .i64 (-1), .int .i64 4]) (by simp [results, Try.results27, go_sem, r0, r1, r2]) rfl ?_
      exact ⟨_, _, rfl, M3.out.last _ _ _⟩
    · rw [if_neg hnn]
      obtain rfl : n = 1073741824 := by omega
      go_enter Try.func27, Try.ntmps27
      go_wp2_with fail
      rw [← HW3.out]
      refine (ownQ_c _ _ q l _ _ (HRQ.out.below w3_below) (HRW.out.below w3_below) (by omega) (by omega) HM.out).mono ?_
      rintro e w1 ⟨vq1, vw1, rfl, oq1, fr1, b1⟩
      obtain ⟨a1, c1, rfl⟩ := oq1.rd.shape'
      obtain ⟨a2, c2, rfl⟩ := fr_slice fr1
      obtain ⟨p0, p1, p2, p3, p4, p5⟩ := sixBlk ((b1.block _ (by rw [w3_size]; omega)).trans w3_prt)
      obtain ⟨g0, g1, g2, g3, g4, g5⟩ := threeBlk ((b1.block _ (by rw [w3_size]; omega)).trans w3_arg)
      have hs1 : w.heap.size + 3 ≤ w1.heap.size := by have := b1.size; rw [w3_size] at this; exact this
      have hp1 : w.heap.size < w1.heap.size := by omega
      have ha1 : w.heap.size + 1 < w1.heap.size := by omega
      have hr1 : w.heap.size + 1 + 1 < w1.heap.size := by omega
      have M1 := Lib.hid (QM.new (n := 1073741824) oq1 fr1 b1)
      clear oq1 fr1 b1 HW3
      go_wp2_with fail
      obtain ⟨W1, hW1⟩ : ∃ W1, W1 = w1.alloc (.cells #[.slice a1 q.length c1, .slice a2 l.length c2, .int .i64 1073741824] 27) := ⟨_, rfl⟩
      rw [← hW1] at M1 ⊢
      clear hW1 p0 p1 p2 p3 p4 p5 g0 g1 g2 g3 g4 g5
      have hv := validQ_c nm k o s d r 1073741824 _ _ q l W1 (HRQ.out.below M1.out.bel) (HRW.out.below M1.out.bel) HWF.out (by omega) (by omega)
      rw [K1.out] at hv
      refine hv.mono ?_
      clear hv
      rintro e w2 ⟨rfl, b2⟩
      have M2 := Lib.hid (M1.out.next b2)
      clear b2 M1
      obtain ⟨p0, p1, p2, p3, p4, p5⟩ := sixBlk M2.out.prt
      obtain ⟨g0, g1, g2, g3, g4, g5⟩ := threeBlk M2.out.arg
      obtain ⟨r0, r1, r2, r3, r4, r5⟩ := threeBlk M2.out.res
      obtain ⟨o0, o1, o2, o3, o4, o5⟩ := threeBlk M2.out.obj
      have hos := blk_lt M2.out.obj
      have hps := blk_lt M2.out.prt
      have has := blk_lt M2.out.arg
      have hrs := blk_lt M2.out.res
      have M3 := Lib.hid (M2.out.putN (1073741824))
      clear M2
      go_wp2_with fail
      refine bodyPost_ret (v := .tuple #[.agg #[.slice a1 q.length c1, .slice a2 l.length c2, .int .i64 (1073741824)], .int .i64 (-1), .int .i64 4]) (by simp [results, Try.results27, go_sem, r0, r1, r2]) rfl ?_
      exact ⟨_, _, rfl, M3.out.last _ _ _⟩
  · rw [k2]
    clear k2
    have K1 := Lib.hid k1
    clear k1
    have hx0 : (x.length == 0) = false := by simp; exact kx
    have hx1 : ((x.length : Int) == 0) = false := by simp; exact kx
    clear kx
    have KL := Lib.hid kl
    have hl0 : ¬ (0 < l.length) := by rw [kl]; simp
    have hl1 : ¬ ((0 : Int) < (l.length : Int)) := by omega
    clear kl
    have hd1 : ((q.length : Int) == d) = false := by simp [kd]
    clear kd
    go_enter Try.func27, Try.ntmps27
    go_wp2_with fail
    rw [← HW3.out]
    refine (ownQ_c _ _ q l n _ (HRQ.out.below w3_below) (HRW.out.below w3_below) (by omega) (by omega) HM.out).mono ?_
    rintro e w1 ⟨vq1, vw1, rfl, oq1, fr1, b1⟩
    obtain ⟨a1, c1, rfl⟩ := oq1.rd.shape'
    obtain ⟨a2, c2, rfl⟩ := fr_slice fr1
    obtain ⟨p0, p1, p2, p3, p4, p5⟩ := sixBlk ((b1.block _ (by rw [w3_size]; omega)).trans w3_prt)
    obtain ⟨g0, g1, g2, g3, g4, g5⟩ := threeBlk ((b1.block _ (by rw [w3_size]; omega)).trans w3_arg)
    have hs1 : w.heap.size + 3 ≤ w1.heap.size := by have := b1.size; rw [w3_size] at this; exact this
    have hp1 : w.heap.size < w1.heap.size := by omega
    have ha1 : w.heap.size + 1 < w1.heap.size := by omega
    have hr1 : w.heap.size + 1 + 1 < w1.heap.size := by omega
    have M1 := Lib.hid (QM.new (n := n) oq1 fr1 b1)
    clear oq1 fr1 b1 HW3
    go_wp2_with fail
    obtain ⟨W1, hW1⟩ : ∃ W1, W1 = w1.alloc (.cells #[.slice a1 q.length c1, .slice a2 l.length c2, .int .i64 n] 27) := ⟨_, rfl⟩
    rw [← hW1] at M1 ⊢
    clear hW1 p0 p1 p2 p3 p4 p5 g0 g1 g2 g3 g4 g5
    have hv := validQ_c nm k o s d r n _ _ q l W1 (HRQ.out.below M1.out.bel) (HRW.out.below M1.out.bel) HWF.out (by omega) (by omega)
    rw [K1.out] at hv
    refine hv.mono ?_
    clear hv
    rintro e w2 ⟨rfl, b2⟩
    have M2 := Lib.hid (M1.out.next b2)
    clear b2 M1
    obtain ⟨p0, p1, p2, p3, p4, p5⟩ := sixBlk M2.out.prt
    obtain ⟨g0, g1, g2, g3, g4, g5⟩ := threeBlk M2.out.arg
    obtain ⟨r0, r1, r2, r3, r4, r5⟩ := threeBlk M2.out.res
    obtain ⟨o0, o1, o2, o3, o4, o5⟩ := threeBlk M2.out.obj
    have hos := blk_lt M2.out.obj
    have hps := blk_lt M2.out.prt
    have has := blk_lt M2.out.arg
    have hrs := blk_lt M2.out.res
    have HX2 := Lib.hid (HRX.out.below M2.out.bel)
    go_upto_region 12 with (fail)
    go_region_law (first
      | (refine step_append_run rfl (.tmp 59) (.tmp 62) 24 rfl _ _ (by simp [Act.eval]) (by simp [Act.eval]) HAP.out ?_)
      | (go_simp; go_at_call 91; (refine (cloneB_c _ x _ (by exact HX2.out) (by omega)).mono ?_; rintro e w3 ⟨v3, rfl, ho3, hb3⟩; replace hb3 : Below w2.heap.size w2 w3 := (by first | exact hb3 | exact below_un hb3); replace ho3 : OwnB w3 w2.heap.size v3 x := ho3; obtain ⟨a3, c3, rfl⟩ := own_slice ho3; obtain ⟨v4, w4, hap, ⟨a4, m4, c4, rfl⟩, hq1, hq2, hq3⟩ := (M2.out.next hb3).append KL.out (ho3.mono (by have := M2.out.ge; omega)) (by omega); have HAP := Lib.hid hap; have M4 := Lib.hid hq3; obtain ⟨s0, s1, s2, s3, s4, s5⟩ := threeBlk hq1; obtain ⟨t0, t1, t2, t3, t4, t5⟩ := threeBlk hq2; obtain ⟨u0, u1, u2, u3, u4, u5⟩ := threeBlk (M2.out.next hb3).obj; have hus := blk_lt (M2.out.next hb3).obj; have hss := blk_lt hq1; have hts := blk_lt hq2; clear ho3 hb3 hq1 hq2 hq3 hap)))
    all_goals
      go_wp2_with fail
      refine bodyPost_ret (v := .tuple #[.agg #[.slice a4 m4 c4, .slice a2 l.length c2, .int .i64 n], .int .i64 (-1), .int .i64 0]) (by simp [results, Try.results27, go_sem, t0, t1, t2]) rfl ?_
      exact ⟨_, _, rfl, M4.out.last _ _ _⟩
end Go.Proofs.Ytglbfmcbojjglaa

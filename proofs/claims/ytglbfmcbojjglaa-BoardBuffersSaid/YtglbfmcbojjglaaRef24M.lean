/-
  The contracts of nacelleref24.CancelBuffer, Put and Get. Conditions: what is read can be read, at most ninety thousand elements.
  Two appends of bytes in a region that draws: a copy of a slice, then one byte more. Conditions: at most ninety thousand bytes.
  The contracts of nacelleref24.Put and Get. Conditions: what is read can be read, at most forty thousand elements.
-/
import Derived.Test.YtglbfmcbojjglaaRef24B
import Derived.Test.YtglbfmcbojjglaaQueG
import Derived.Test.YtglbfmcbojjglaaBdD
import Derived.Test.YtglbfmcbojjglaaRef25S
namespace Go.Proofs.Ytglbfmcbojjglaa
open Go.RowKit

set_option maxHeartbeats 4000000 in
set_option maxRecDepth 100000 in
theorem cancBu24_c (n : Int) (q : Int) (vd vp vg : Value) (d : List Int) (p g : List Wt) (w : World) (hd : RdI .u8 w 0 vd d) (hp : RdW w 0 vp p) (hg : RdW w 0 vg g) (hpl : p.length ≤ 90000) (hgl : g.length ≤ 90000) :
    Calls Try.prog 79 #[.agg #[.int .i64 n, vd, vp, vg], .int .i64 q] w (Ru1 w n d (cancBu n d p g q).1 (cancBu n d p g q).2.1 (.int .i64 (cancBu n d p g q).2.2)) := by
  obtain ⟨ad, cd, rfl, _, _, _⟩ := hd.open_
  obtain ⟨ap, cp, rfl, _, _, _⟩ := hp.open_
  obtain ⟨ag, cg, rfl, _, _, _⟩ := hg.open_
  obtain ⟨W0, hW0⟩ : ∃ W0, W0 = (w.alloc (.cells #[.int .i64 n, .slice ad d.length cd, .slice ap p.length cp, .slice ag g.length cg] 142)).alloc (.cells #[.int .i64 0, .slice none 0 0, .slice none 0 0, .slice none 0 0] 142) := ⟨_, rfl⟩
  have HD := Lib.hid hd
  have HP := Lib.hid hp
  have HG := Lib.hid hg
  have U0 := Lib.hid (U24.start hW0)
  have HW0 := Lib.hid hW0
  clear hd hp hg hW0
  have hway : (vldBu n d p g = false ∧ cancBu n d p g q = (p, g, 2)) ∨ (vldBu n d p g = true ∧ cancBu n d p g q = (leaveW p q, leaveW g q, 0)) := by
    unfold cancBu
    cases vldBu n d p g <;> simp
  rcases hway with ⟨k1, k2⟩ | ⟨k1, k2⟩
  · rw [k2]
    clear k2
    have K1 := Lib.hid k1
    clear k1
    go_enter Try.func79, Try.ntmps79
    go_wp2_with fail
    rw [← HW0.out]
    have hv := validBu24_c n _ _ _ d p g W0 (HD.out.below U0.out.bel) (HP.out.below U0.out.bel) (HG.out.below U0.out.bel) hpl hgl
    rw [K1.out] at hv
    refine hv.mono ?_
    clear hv
    rintro e w1 ⟨rfl, b1⟩
    have U1 := Lib.hid (U0.out.next b1)
    clear b1 U0 HW0
    obtain ⟨g0, g1, g2, g3, _, _, _, _⟩ := fourBlk U1.out.arg
    obtain ⟨r0, r1, r2, r3, r4, r5, r6, r7⟩ := fourBlk U1.out.res
    have hgs1 := blk_lt U1.out.arg
    have hrs1 := blk_lt U1.out.res
    go_wp2_with fail
    refine bodyPost_ret (v := .tuple #[.agg #[.int .i64 n, .slice ad d.length cd, .slice ap p.length cp, .slice ag g.length cg], .int .i64 2]) (by simp [results, Try.results79, go_sem, r0, r1, r2, r3]) rfl ?_
    exact ⟨_, _, _, rfl, HD.out.below (U1.out.fin _ _ _ _), HP.out.below (U1.out.fin _ _ _ _), HG.out.below (U1.out.fin _ _ _ _), U1.out.fin _ _ _ _⟩
  · rw [k2]
    clear k2
    have K1 := Lib.hid k1
    clear k1
    go_enter Try.func79, Try.ntmps79
    go_wp2_with fail
    rw [← HW0.out]
    have hv := validBu24_c n _ _ _ d p g W0 (HD.out.below U0.out.bel) (HP.out.below U0.out.bel) (HG.out.below U0.out.bel) hpl hgl
    rw [K1.out] at hv
    refine hv.mono ?_
    clear hv
    rintro e w1 ⟨rfl, b1⟩
    have U1 := Lib.hid (U0.out.next b1)
    clear b1 U0 HW0
    obtain ⟨g0, g1, g2, g3, _, _, _, _⟩ := fourBlk U1.out.arg
    obtain ⟨r0, r1, r2, r3, r4, r5, r6, r7⟩ := fourBlk U1.out.res
    have hgs1 := blk_lt U1.out.arg
    have hrs1 := blk_lt U1.out.res
    have RP := Lib.hid (HP.out.below U1.out.bel)
    have RG := Lib.hid (HG.out.below U1.out.bel)
    go_wp2_with fail
    go_region_held3 (fun w' => w'.cell? ⟨w.heap.size, 0, none⟩ = some (.int .i64 n) ∧ w'.cell? ⟨w.heap.size, 1, none⟩ = some (.slice ad d.length cd) ∧ w'.cell? ⟨w.heap.size, 2, none⟩ = some (.slice ap p.length cp) ∧ w'.cell? ⟨w.heap.size, 3, none⟩ = some (.slice ag g.length cg)) (first | go_keep | (refine ⟨?_, ?_, ?_, ?_⟩ <;> assumption))
      (first | (go_at_call 43; refine (refLeave_c _ p q _ (by exact RP.out) hpl).mono ?_; rintro e wp ⟨vwp, rfl, howp, bwp⟩; replace bwp : Below w1.heap.size w1 wp := (by first | exact bwp | exact below_un bwp); replace howp : wp.ownsRow w1.heap.size 56 3 vwp (leaveW p q).length (cellsW (leaveW p q)) := howp; obtain ⟨awp, cwp, rfl⟩ := own_slice howp; have Uwp := Lib.hid (U1.out.next bwp); have Fwp := Lib.hid (FrW.of_own howp); have RGp := Lib.hid (RG.out.below bwp); obtain ⟨s0, s1, s2, s3, _, _, _, _⟩ := fourBlk Uwp.out.arg; obtain ⟨t0, t1, t2, t3, t4, t5, t6, t7⟩ := fourBlk Uwp.out.res; have hss := blk_lt Uwp.out.arg; have hts := blk_lt Uwp.out.res; clear bwp howp) | (go_at_call 43; refine (refLeave_c _ g q _ (by exact RGp.out) hgl).mono ?_; rintro e wpg ⟨vwpg, rfl, howpg, bwpg⟩; replace bwpg : Below wp.heap.size wp wpg := (by first | exact bwpg | exact below_un bwpg); replace howpg : wpg.ownsRow wp.heap.size 56 3 vwpg (leaveW g q).length (cellsW (leaveW g q)) := howpg; obtain ⟨awpg, cwpg, rfl⟩ := own_slice howpg; have Uwpg := Lib.hid (Uwp.out.next bwpg); have FA := Lib.hid (fun x y z u => U24.ownFin (w := w) (Fwp.out.below bwpg) hrs1 x y z u); have FB := Lib.hid (fun x y z u => U24.ownFin (w := w) (FrW.of_own howpg) hts x y z u); obtain ⟨m0, m1, m2, m3, _, _, _, _⟩ := fourBlk Uwpg.out.arg; obtain ⟨n0, n1, n2, n3, n4, n5, n6, n7⟩ := fourBlk Uwpg.out.res; have hms := blk_lt Uwpg.out.arg; have hns := blk_lt Uwpg.out.res; clear bwpg howpg) | (go_at_call 43; refine (refLeave_c _ g q _ (by exact RG.out) hgl).mono ?_; rintro e wg ⟨vwg, rfl, howg, bwg⟩; replace bwg : Below w1.heap.size w1 wg := (by first | exact bwg | exact below_un bwg); replace howg : wg.ownsRow w1.heap.size 56 3 vwg (leaveW g q).length (cellsW (leaveW g q)) := howg; obtain ⟨awg, cwg, rfl⟩ := own_slice howg; have Uwg := Lib.hid (U1.out.next bwg); have Fwg := Lib.hid (FrW.of_own howg); have RPg := Lib.hid (RP.out.below bwg); obtain ⟨s0, s1, s2, s3, _, _, _, _⟩ := fourBlk Uwg.out.arg; obtain ⟨t0, t1, t2, t3, t4, t5, t6, t7⟩ := fourBlk Uwg.out.res; have hss := blk_lt Uwg.out.arg; have hts := blk_lt Uwg.out.res; clear bwg howg) | (go_at_call 43; refine (refLeave_c _ p q _ (by exact RPg.out) hpl).mono ?_; rintro e wgp ⟨vwgp, rfl, howgp, bwgp⟩; replace bwgp : Below wg.heap.size wg wgp := (by first | exact bwgp | exact below_un bwgp); replace howgp : wgp.ownsRow wg.heap.size 56 3 vwgp (leaveW p q).length (cellsW (leaveW p q)) := howgp; obtain ⟨awgp, cwgp, rfl⟩ := own_slice howgp; have Uwgp := Lib.hid (Uwg.out.next bwgp); have FA := Lib.hid (fun x y z u => U24.ownFin (w := w) (Fwg.out.below bwgp) hrs1 x y z u); have FB := Lib.hid (fun x y z u => U24.ownFin (w := w) (FrW.of_own howgp) hts x y z u); obtain ⟨m0, m1, m2, m3, _, _, _, _⟩ := fourBlk Uwgp.out.arg; obtain ⟨n0, n1, n2, n3, n4, n5, n6, n7⟩ := fourBlk Uwgp.out.res; have hms := blk_lt Uwgp.out.arg; have hns := blk_lt Uwgp.out.res; clear bwgp howgp))
    all_goals
      go_wp2_with fail
      first
        | (refine bodyPost_ret (v := .tuple #[.agg #[.int .i64 n, .slice ad d.length cd, .slice awp (leaveW p q).length cwp, .slice awpg (leaveW g q).length cwpg], .int .i64 0]) (by simp [results, Try.results79, go_sem, n0, n1, n2, n3]) rfl ?_; exact ⟨_, _, _, rfl, HD.out.below (Uwpg.out.fin _ _ _ _), FA.out _ _ _ _, FB.out _ _ _ _, Uwpg.out.fin _ _ _ _⟩)
        | (refine bodyPost_ret (v := .tuple #[.agg #[.int .i64 n, .slice ad d.length cd, .slice awgp (leaveW p q).length cwgp, .slice awg (leaveW g q).length cwg], .int .i64 0]) (by simp [results, Try.results79, go_sem, n0, n1, n2, n3]) rfl ?_; exact ⟨_, _, _, rfl, HD.out.below (Uwgp.out.fin _ _ _ _), FB.out _ _ _ _, FA.out _ _ _ _, Uwgp.out.fin _ _ _ _⟩)
end Go.Proofs.Ytglbfmcbojjglaa

namespace Go.Proofs.Ytglbfmcbojjglaa
open Go.RowKit

theorem own_empty {W : World} {g B : Nat} {t : TypeId} {sz : Nat} (hg : W.heap[g]? = some (.cells #[] t (0, 0))) (hB : B ≤ g) : W.ownsRow B t sz (.slice (some ⟨g, 0, none⟩) 0 0) 0 [] :=
  ⟨by simp, .inr ⟨g, 0, #[], rfl, hB, hg, by simp, by simp, by simp, by simp⟩⟩

theorem copyB_run {W : World} {g B : Nat} {v : Value} {d : List Int} (hg : W.heap[g]? = some (.cells #[] 5 (0, 0))) (hB : B ≤ g) (hr : RdI .u8 W 0 v d) (hd : d.length ≤ 90000) (ty : TypeId) :
    ∃ v' w', (Builtin.append_ #[28, 28] ty #[.slice (some ⟨g, 0, none⟩) 0 0, v]).run Try.prog W = .ok v' w' ∧ TyB w' B v' d ∧ W.grownBy w' (some g) := by
  obtain ⟨i0, hi, hz0, hz1, hz2⟩ := info_B2
  have ho := own_empty (sz := 1) hg hB
  obtain ⟨ao, ca, rfl, hca, hna, hp⟩ := hr.open_
  cases ao with
  | none =>
    have h0 : d = [] := by
      apply Classical.byContradiction
      intro hne
      obtain ⟨b, off, ha, _⟩ := hp (by cases d with | nil => exact absurd rfl hne | cons _ _ => simp)
      cases ha
    subst h0
    have hc0 : ca = 0 := hna rfl
    subst hc0
    refine ⟨.slice (some ⟨g, 0, none⟩) 0 0, W, ?_, Ty.of_own ho, ⟨rfl, rfl, rfl, Nat.le_refl _, fun _ _ _ => rfl⟩⟩
    simp [Builtin.append_, go_sem]
  | some ad =>
    have hn : ∀ j u, (d.map fun z => Value.int .u8 z)[j]? = some u → W.cell? (ad.add j) = some u := by
      intro j u hu
      rw [List.getElem?_map] at hu
      have hlt : j < d.length := by
        apply Classical.byContradiction
        intro hge
        rw [List.getElem?_eq_none (by omega)] at hu
        simp at hu
      obtain ⟨b, off, ha, _, _, hc⟩ := hp (by omega)
      cases ha
      rw [List.getElem?_eq_getElem hlt] at hu
      simp at hu
      subst hu
      rw [addr_add]
      exact hc j hlt
    obtain ⟨v', w', h1, h2, h3, _⟩ := run_append_own (P := Try.prog) W B 28 ty 5 i0 (.int .u8 0) 1 1 Try.underlying28 hi hz0 hz1 hz2 rfl (by decide) _ 0 [] ho ad d.length ca (d.map fun z => .int .u8 z) (by simp) hn (by intro u hu; simp at hu; obtain ⟨z, _, rfl⟩ := hu; rfl) (by unfold maxLen; omega) (by omega) (by have := blk_lt hg; omega)
    refine ⟨v', w', h1, ?_, h3⟩
    rw [Nat.zero_add, List.nil_append] at h2
    exact Ty.of_own h2

/-- The first append: the copy; what was there in W is as it was. -/
theorem two1 {W W' : World} {g : Nat} {v : Value} {d : List Int} (hb : Below W.heap.size W W') (hg : W'.heap[g]? = some (.cells #[] 5 (0, 0))) (hB : W.heap.size ≤ g) (hr : RdI .u8 W' 0 v d) (hd : d.length ≤ 90000) (ty : TypeId) :
    ∃ v' w', (Builtin.append_ #[28, 28] ty #[.slice (some ⟨g, 0, none⟩) 0 0, v]).run Try.prog W' = .ok v' w' ∧ TyB w' W.heap.size v' d ∧ Below W.heap.size W w' ∧ ∀ j o, j ≠ g → W'.heap[j]? = some o → w'.heap[j]? = some o := by
  obtain ⟨v', w', h1, h2, h3⟩ := copyB_run hg hB hr hd ty
  refine ⟨v', w', h1, h2, ⟨h3.os.trans hb.os, h3.tape.trans hb.tape, h3.output.trans hb.output, Nat.le_trans hb.size h3.size, fun k hk => ?_⟩, fun j o hj ho => ?_⟩
  · exact (h3.block k (Nat.lt_of_lt_of_le hk hb.size) (by intro e; simp only [Option.some.injEq] at e; omega)).trans (hb.block k hk)
  · have hlt : j < W'.heap.size := by
      apply Classical.byContradiction
      intro hge
      rw [Array.getElem?_eq_none (by omega)] at ho
      cases ho
    exact (h3.block j hlt (by intro e; simp only [Option.some.injEq] at e; exact hj e)).trans ho
/-- The second append: one byte more. -/
theorem two2 {W W' : World} {g : Nat} {v : Value} {d : List Int} {x : Int} (hb : Below W.heap.size W W') (h : TyB W' W.heap.size v d) (hd : d.length ≤ 90000) (hg : W'.heap[g]? = some (.cells #[.int .u8 x] 5 (0, 0))) (ty : TypeId) :
    ∃ a m c w', (Builtin.append_ #[28, 28] ty #[v, .slice (some ⟨g, 0, none⟩) 1 1]).run Try.prog W' = .ok (.slice a m c) w' ∧ TyB w' W.heap.size (.slice a m c) (d ++ [x]) ∧ Below W.heap.size W w' := by
  obtain ⟨v', w', row, h1, h2, h3, h4⟩ := TyB.append h hb.size hd hg ty
  obtain ⟨a, m, c, rfl⟩ := Ty.shape3 h2
  refine ⟨a, m, c, w', h1, h2, ⟨h3.os.trans hb.os, h3.tape.trans hb.tape, h3.output.trans hb.output, Nat.le_trans hb.size h3.size, fun k hk => ?_⟩⟩
  exact (h3.block k (Nat.lt_of_lt_of_le hk hb.size) (by intro e; have := (h4 k e.symm).1; omega)).trans (hb.block k hk)
end Go.Proofs.Ytglbfmcbojjglaa

namespace Go.Proofs.Ytglbfmcbojjglaa
open Go.RowKit

theorem may_any {p g : List Wt} {q : Int} (hq : 0 ≤ q) : mayB p g q = (!p.any (fun x => decide (x.proc = q)) && !g.any (fun x => decide (x.proc = q))) := by
  unfold mayB
  rw [decide_eq_true hq, List.any_append]
  cases p.any (fun x => decide (x.proc = q)) <;> cases g.any (fun x => decide (x.proc = q)) <;> rfl
theorem may_ways (p g : List Wt) (q : Int) : (q < 0 ∧ mayB p g q = false) ∨ (0 ≤ q ∧ p.any (fun x => decide (x.proc = q)) = true ∧ mayB p g q = false) ∨
    (0 ≤ q ∧ p.any (fun x => decide (x.proc = q)) = false ∧ g.any (fun x => decide (x.proc = q)) = true ∧ mayB p g q = false) ∨
    (0 ≤ q ∧ p.any (fun x => decide (x.proc = q)) = false ∧ g.any (fun x => decide (x.proc = q)) = false ∧ mayB p g q = true) := by
  by_cases hq : 0 ≤ q
  · have hm := may_any (p := p) (g := g) hq
    cases h1 : p.any (fun x => decide (x.proc = q))
    · cases h2 : g.any (fun x => decide (x.proc = q))
      · exact .inr (.inr (.inr ⟨hq, rfl, rfl, by rw [hm, h1, h2]; rfl⟩))
      · exact .inr (.inr (.inl ⟨hq, rfl, rfl, by rw [hm, h1, h2]; rfl⟩))
    · exact .inr (.inl ⟨hq, rfl, by rw [hm, h1]; rfl⟩)
  · exact .inl ⟨by omega, by unfold mayB; simp [hq]⟩
theorem RdI.tail {w : World} {B b off m d : Nat} {x : Int} {l k : List Int} (h : RdI .u8 w B (.slice (some ⟨b, off, none⟩) m d) k) (hk : k = x :: l) : RdI .u8 w B (.slice (if d = 1 then some ⟨b, off, none⟩ else some ⟨b, off + 1, none⟩) (m - 1) (d - 1)) l := by
  subst hk
  obtain ⟨ao, cap, hv, h1, h2, h3, hp⟩ := h
  simp only [Value.slice.injEq, List.length_cons] at hv
  obtain ⟨rfl, rfl, rfl⟩ := hv
  simp only [List.length_cons] at h1 hp
  obtain ⟨b', off', ha, hB, hbs, hc⟩ := hp (by omega)
  cases ha
  refine ⟨_, _, rfl, (by omega), (fun e => by split at e <;> cases e), (by simp), fun h0 => ?_⟩
  have hd1 : ¬ d = 1 := by omega
  rw [if_neg hd1]
  refine ⟨b, off + 1, rfl, hB, hbs, fun j u hj => ?_⟩
  have := hc (j + 1) u (by simpa using hj)
  rw [show off + 1 + j = off + (j + 1) by omega]
  exact this
theorem RdI.head {w : World} {B m d : Nat} {a : Option Addr} {x : Int} {l k : List Int} (h : RdI .u8 w B (.slice a m d) k) (hk : k = x :: l) : ∃ b off, a = some ⟨b, off, none⟩ ∧ 1 ≤ d ∧ b < w.heap.size ∧ w.cell? ⟨b, off, none⟩ = some (.int .u8 x) := by
  subst hk
  obtain ⟨ao, cap, hv, h1, h2, h3, hp⟩ := h
  simp only [Value.slice.injEq, List.length_cons] at hv
  obtain ⟨rfl, rfl, rfl⟩ := hv
  simp only [List.length_cons] at h1 hp
  obtain ⟨b', off', rfl, hB, hbs, hc⟩ := hp (by omega)
  exact ⟨b', off', rfl, by omega, hbs, hc 0 _ rfl⟩
theorem RdW.head3 {w : World} {B m d : Nat} {a : Option Addr} {x : Wt} {l k : List Wt} (h : RdW w B (.slice a m d) k) (hk : k = x :: l) : ∃ b off, a = some ⟨b, off, none⟩ ∧ 1 ≤ d ∧ b < w.heap.size ∧ w.cell? ⟨b, off, none⟩ = some (.int .i64 x.proc) ∧ w.cell? ⟨b, off + 2, none⟩ = some (.int .u8 x.val) := by
  subst hk
  obtain ⟨ao, cap, hv, h1, h2, h3, hp⟩ := h
  simp only [Value.slice.injEq, List.length_cons] at hv
  obtain ⟨rfl, rfl, rfl⟩ := hv
  simp only [List.length_cons] at h1 hp
  obtain ⟨b', off', rfl, hB, hbs, hc⟩ := hp (by omega)
  exact ⟨b', off', rfl, by omega, hbs, hc 0 _ rfl, hc 2 _ rfl⟩
/-- What an own row of bytes reads as behind the stores into the result. -/
theorem U24.ownB {w W : World} {B : Nat} {v : Value} {l : List Int} {cs : Array Value} (h : TyB W B v l) (hb : W.heap[w.heap.size + 1]? = some (.cells cs 142 (0, 0))) (x y z u : Value) : RdI .u8 (put4 W (w.heap.size + 1) x y z u) 0 v l := by
  unfold put4
  have t0 := Tag.of hb
  exact TyB.rd (B := B) (Ty.setT (Ty.setT (Ty.setT (Ty.setT h t0 (by decide)) t0.set (by decide)) t0.set.set (by decide)) t0.set.set.set (by decide))
end Go.Proofs.Ytglbfmcbojjglaa

/-
  The contract of nacelleref23.Valid. Conditions: the state can be read, at most ninety thousand elements.
-/
import Derived.Test.YtglbfmcbojjglaaRefOrd
import Derived.Test.YtglbfmcbojjglaaQueH
import Derived.Deep.DeepCutAuto
namespace Go.Proofs.Ytglbfmcbojjglaa
open Go.RowKit

theorem RdQ.cellAt {w : World} {B m c : Nat} {a : Option Addr} {q : List (List Int)} (h : RdQ w B (.slice a m c) q) (k : Nat) (hk : k < q.length) : ∃ b off a' c', a = some ⟨b, off, none⟩ ∧ m ≤ c ∧ b < w.heap.size ∧ w.cell? ⟨b, off + k, none⟩ = some (.slice a' q[k].length c') := by
  obtain ⟨vs, ⟨ao, cap, hv, h1, h2, h3, hp⟩, hr⟩ := h
  simp only [Value.slice.injEq] at hv
  obtain ⟨rfl, rfl, rfl⟩ := hv
  obtain ⟨b, off, ha, _, hb, hc⟩ := hp (by omega)
  have hkv : k < vs.length := by omega
  have hr' := hr k vs[k] q[k] (List.getElem?_eq_getElem hkv) (List.getElem?_eq_getElem hk)
  obtain ⟨a', c', hv', _⟩ := hr'.open_
  exact ⟨b, off, a', c', ha, h1, hb, by rw [hc k vs[k] (List.getElem?_eq_getElem hkv), hv']⟩

set_option maxHeartbeats 8000000 in
set_option maxRecDepth 100000 in
theorem valid23_c (nm : ByteArray) (k : Int) (o : Bool) (s d r n : Int) (vq vw : Value) (q : List (List Int)) (l : List Wt) (w : World) (hq : RdQ w 0 vq q) (hw : RdW w 0 vw l) (hl : l.length ≤ 90000) (hql : q.length ≤ 90000) :
    Calls Try.prog 36 #[.agg #[.string nm, .int .u8 k, .bool o, .int .i64 s, .int .i64 d, .int .i64 r], .agg #[vq, vw, .int .i64 n]] w fun e w' => e = .returned (.bool (vldQ k s d r q l n)) ∧ Below w.heap.size w w' := by
  obtain ⟨aq, cq, rfl⟩ := hq.shape'
  obtain ⟨aw, cw, rfl, hnc, hno, hpw⟩ := hw.open_
  clear hnc hno hpw
  obtain ⟨W0, hW0⟩ : ∃ W0, W0 = (w.alloc (.cells #[.string nm, .int .u8 k, .bool o, .int .i64 s, .int .i64 d, .int .i64 r] 23)).alloc (.cells #[.slice aq q.length cq, .slice aw l.length cw, .int .i64 n] 32) := ⟨_, rfl⟩
  have HB0 : Hid (Below w.heap.size w W0) := by subst hW0; exact ((Below.refl _ w).alloc (Nat.le_refl _) _).alloc (by simp) _
  have HRQ := Lib.hid (hq.below HB0.out)
  have HRW := Lib.hid (hw.below HB0.out)
  have HC0 : Hid (W0.heap[w.heap.size]? = some (.cells #[.string nm, .int .u8 k, .bool o, .int .i64 s, .int .i64 d, .int .i64 r] 23 (0, 0))) := by subst hW0; exact (Below.heap_alloc _ _ _ (by simp)).trans (heap_alloc_new w _)
  have HS0 : Hid (W0.heap[w.heap.size + 1]? = some (.cells #[.slice aq q.length cq, .slice aw l.length cw, .int .i64 n] 32 (0, 0))) := by
    subst hW0
    show _ = _
    have := heap_alloc_new (w.alloc (.cells #[.string nm, .int .u8 k, .bool o, .int .i64 s, .int .i64 d, .int .i64 r] 23)) (.cells #[.slice aq q.length cq, .slice aw l.length cw, .int .i64 n] 32)
    simpa using this
  have hwl : w.heap.size < W0.heap.size := blk_lt HC0.out
  have hwl1 : w.heap.size + 1 < W0.heap.size := blk_lt HS0.out
  have HW0 := Lib.hid hW0
  clear hq hw hW0
  unfold vldQ
  go_enter Try.func36, Try.ntmps36
  go_upto_region 1 with (fail)
  rw [← HW0.out]
  clear HW0
  obtain ⟨c0, c1, c2, c3, c4, c5⟩ := sixBlk HC0.out
  obtain ⟨e0, e1, e2, _, _, _⟩ := threeBlk HS0.out
  go_cut [34] (fun s34 wx => s34 = .bool (badP k s d r) ∧ W0 = wx)
  case first =>
    by_cases h0 : k = 2
    rotate_left
    · have q0 : (k != 2) = true := by simp [h0]
      have E0 := Lib.hid q0
      go_wp2
      go_meet
      exact ⟨congrArg Value.bool (show true = _ by unfold badP; rw [E0.out]; rfl), rfl⟩
    · have q0 : (k != 2) = false := by simp [h0]
      have E0 := Lib.hid q0
      clear h0
      by_cases h1 : s < 1
      · have E1 := Lib.hid (decide_eq_true h1)
        go_wp2
        go_meet
        exact ⟨congrArg Value.bool (show true = _ by unfold badP; rw [E0.out, E1.out]; rfl), rfl⟩
      · have E1 := Lib.hid (decide_eq_false h1)
        by_cases h2 : 64 < s
        · have E2 := Lib.hid (decide_eq_true h2)
          go_wp2
          go_meet
          exact ⟨congrArg Value.bool (show true = _ by unfold badP; rw [E0.out, E1.out, E2.out]; rfl), rfl⟩
        · have E2 := Lib.hid (decide_eq_false h2)
          by_cases h3 : d < 1
          · have E3 := Lib.hid (decide_eq_true h3)
            go_wp2
            go_meet
            exact ⟨congrArg Value.bool (show true = _ by unfold badP; rw [E0.out, E1.out, E2.out, E3.out]; rfl), rfl⟩
          · have E3 := Lib.hid (decide_eq_false h3)
            by_cases h4 : 16 < d
            · have E4 := Lib.hid (decide_eq_true h4)
              go_wp2
              go_meet
              exact ⟨congrArg Value.bool (show true = _ by unfold badP; rw [E0.out, E1.out, E2.out, E3.out, E4.out]; rfl), rfl⟩
            · have E4 := Lib.hid (decide_eq_false h4)
              by_cases h5 : r = 0
              rotate_left
              · have q5 : (r != 0) = true := by simp [h5]
                have E5 := Lib.hid q5
                go_wp2
                go_meet
                exact ⟨congrArg Value.bool (show true = _ by unfold badP; rw [E0.out, E1.out, E2.out, E3.out, E4.out, E5.out]; rfl), rfl⟩
              · have q5 : (r != 0) = false := by simp [h5]
                have E5 := Lib.hid q5
                clear h5
                go_wp2
                go_meet
                exact ⟨congrArg Value.bool (show false = _ by unfold badP; rw [E0.out, E1.out, E2.out, E3.out, E4.out, E5.out]; rfl), rfl⟩
  case rest =>
    obtain ⟨rfl, rfl⟩ := hcut
    cases hbp : badP k s d r with
    | true =>
      have HBP := Lib.hid hbp
      clear hbp
      go_wp2_with fail
      go_ret
      exact ⟨ret_bool (by rw [HBP.out]; rfl), HB0.out⟩
    | false =>
      have HBP := Lib.hid hbp
      clear hbp
      go_upto_region 3 with (fail)
      go_cut [68] (fun s68 wx => s68 = .bool (badS d n q.length l.length (decide (OrdW l))) ∧ Below W0.heap.size W0 wx)
      case first =>
        by_cases hd : d < (q.length : Int)
        · have D := Lib.hid (decide_eq_true hd)
          go_wp2_with fail
          go_meet
          exact ⟨congrArg Value.bool (show true = _ by unfold badS; rw [D.out]; rfl), Below.refl _ _⟩
        · have D := Lib.hid (decide_eq_false hd)
          by_cases hq0 : 0 < (q.length : Int)
          · have hq0' : 0 < q.length := by omega
            have Q0 := Lib.hid (decide_eq_true hq0)
            by_cases hw0 : 0 < (l.length : Int)
            · have hw0' : 0 < l.length := by omega
              have L0 := Lib.hid (decide_eq_true hw0)
              go_wp2_with fail
              go_meet
              exact ⟨congrArg Value.bool (show true = _ by unfold badS; rw [D.out, Q0.out, L0.out]; rfl), Below.refl _ _⟩
            · have hw0' : ¬ 0 < l.length := by omega
              have L0 := Lib.hid (decide_eq_false hw0)
              go_wp2_with fail
              refine (refOrdered_c _ l W0 HRW.out (by omega)).mono ?_
              rintro e w1 ⟨rfl, hb1⟩
              have HB1 := Lib.hid hb1
              obtain ⟨z0, z1, z2, z3, z4, z5⟩ := sixBlk ((hb1.block _ hwl).trans HC0.out)
              obtain ⟨y0, y1, y2, _, _, _⟩ := threeBlk ((hb1.block _ hwl1).trans HS0.out)
              have zs1 : w.heap.size < w1.heap.size := Nat.lt_of_lt_of_le hwl hb1.size
              have zs2 : w.heap.size + 1 < w1.heap.size := Nat.lt_of_lt_of_le hwl1 hb1.size
              clear hb1
              cases hod : decide (OrdW l) with
              | false =>
                have HOD := Lib.hid hod
                clear hod
                go_wp2_with fail
                go_meet
                exact ⟨congrArg Value.bool (show true = _ by unfold badS; rw [HOD.out]; cases decide (d < (q.length : Int)) <;> cases (decide (0 < (q.length : Int)) && decide (0 < (l.length : Int))) <;> cases decide (n < 0) <;> cases decide (1073741824 < n) <;> rfl), HB1.out⟩
              | true =>
                have HOD := Lib.hid hod
                clear hod
                by_cases hn0 : n < 0
                · have N0 := Lib.hid (decide_eq_true hn0)
                  go_wp2_with fail
                  go_meet
                  exact ⟨congrArg Value.bool (show true = _ by unfold badS; rw [D.out, Q0.out, L0.out, N0.out]; rfl), HB1.out⟩
                · have N0 := Lib.hid (decide_eq_false hn0)
                  by_cases hn1 : 1073741824 < n
                  · have N1 := Lib.hid (decide_eq_true hn1)
                    go_wp2_with fail
                    go_meet
                    exact ⟨congrArg Value.bool (show true = _ by unfold badS; rw [D.out, Q0.out, L0.out, N0.out, N1.out]; rfl), HB1.out⟩
                  · have N1 := Lib.hid (decide_eq_false hn1)
                    have n0b := decide_eq_false hn0
                    have n1b := decide_eq_false hn1
                    go_wp2_with fail
                    go_meet
                    exact ⟨congrArg Value.bool (show false = _ by unfold badS; rw [D.out, Q0.out, L0.out, N0.out, N1.out, HOD.out]; rfl), HB1.out⟩
          · have hq0' : ¬ 0 < q.length := by omega
            have Q0 := Lib.hid (decide_eq_false hq0)
            go_wp2_with fail
            refine (refOrdered_c _ l W0 HRW.out (by omega)).mono ?_
            rintro e w1 ⟨rfl, hb1⟩
            have HB1 := Lib.hid hb1
            obtain ⟨z0, z1, z2, z3, z4, z5⟩ := sixBlk ((hb1.block _ hwl).trans HC0.out)
            obtain ⟨y0, y1, y2, _, _, _⟩ := threeBlk ((hb1.block _ hwl1).trans HS0.out)
            have zs1 : w.heap.size < w1.heap.size := Nat.lt_of_lt_of_le hwl hb1.size
            have zs2 : w.heap.size + 1 < w1.heap.size := Nat.lt_of_lt_of_le hwl1 hb1.size
            clear hb1
            cases hod : decide (OrdW l) with
            | false =>
              have HOD := Lib.hid hod
              clear hod
              go_wp2_with fail
              go_meet
              exact ⟨congrArg Value.bool (show true = _ by unfold badS; rw [HOD.out]; cases decide (d < (q.length : Int)) <;> cases (decide (0 < (q.length : Int)) && decide (0 < (l.length : Int))) <;> cases decide (n < 0) <;> cases decide (1073741824 < n) <;> rfl), HB1.out⟩
            | true =>
              have HOD := Lib.hid hod
              clear hod
              by_cases hn0 : n < 0
              · have N0 := Lib.hid (decide_eq_true hn0)
                go_wp2_with fail
                go_meet
                exact ⟨congrArg Value.bool (show true = _ by unfold badS; rw [D.out, Q0.out, N0.out]; rfl), HB1.out⟩
              · have N0 := Lib.hid (decide_eq_false hn0)
                by_cases hn1 : 1073741824 < n
                · have N1 := Lib.hid (decide_eq_true hn1)
                  go_wp2_with fail
                  go_meet
                  exact ⟨congrArg Value.bool (show true = _ by unfold badS; rw [D.out, Q0.out, N0.out, N1.out]; rfl), HB1.out⟩
                · have N1 := Lib.hid (decide_eq_false hn1)
                  have n0b := decide_eq_false hn0
                  have n1b := decide_eq_false hn1
                  go_wp2_with fail
                  go_meet
                  exact ⟨congrArg Value.bool (show false = _ by unfold badS; rw [D.out, Q0.out, N0.out, N1.out, HOD.out]; rfl), HB1.out⟩
      case rest =>
        obtain ⟨rfl, hb2⟩ := hcut
        cases hbs : badS d n q.length l.length (decide (OrdW l)) with
        | true =>
          have HBE := Lib.hid (HB0.out.trans (hb2.mono HB0.out.size))
          have HBS := Lib.hid hbs
          clear hb2 hbs
          go_wp2_with fail
          go_ret
          exact ⟨ret_bool (by rw [HBP.out, HBS.out]; rfl), HBE.out⟩
        | false =>
          have HBS := Lib.hid hbs
          clear hbs
          have HBE := Lib.hid (HB0.out.trans (hb2.mono HB0.out.size))
          have RQ := Lib.hid (HRQ.out.below hb2)
          have RW := Lib.hid (HRW.out.below hb2)
          have BC := Lib.hid ((hb2.block _ hwl).trans HC0.out)
          have BS := Lib.hid ((hb2.block _ hwl1).trans HS0.out)
          clear c0 c1 c2 c3 c4 c5 e0 e1 e2 hb2 HC0 HS0
          obtain ⟨c0, c1, c2, c3, c4, c5⟩ := sixBlk BC.out
          obtain ⟨e0, e1, e2, _, _, _⟩ := threeBlk BS.out
          have sz0 : w.heap.size < wc.heap.size := blk_lt BC.out
          have sz1 : w.heap.size + 1 < wc.heap.size := blk_lt BS.out
          go_wp2_with fail
          go_loopg [5] q.length (fun gg s5 wr => ∃ j : Nat, j ≤ q.length ∧ q.length - j ≤ gg ∧ s5 = .int .i64 j ∧ ∃ m : Nat, wc.drewN m = wr ∧ Aside (∀ x ∈ q.take j, badM s x = false))
          case atStart => exact ⟨0, Nat.zero_le _, by omega, rfl, 0, rfl, by simp [Aside]⟩
          case round =>
            obtain ⟨j, hj, hg, rfl, m, rfl, A⟩ := hrel
            by_cases hlt : j < q.length
            · have hltz : (j : Int) < (q.length : Int) := by omega
              obtain ⟨b, off, a', c', rfl, hqc, hbs, cj⟩ := RQ.out.cellAt j hlt
              have hqcz : (q.length : Int) ≤ (cq : Int) := by omega
              obtain ⟨x, hx⟩ : ∃ x, x = q[j] := ⟨_, rfl⟩
              have HX := Lib.hid hx
              rw [← hx] at cj
              clear hx
              by_cases h1 : (x.length : Int) < 1
              · have h1n : x.length < 1 := by omega
                have d1 : decide ((x.length : Int) < 1) = true := by simpa using h1
                have d1n : decide (x.length < 1) = true := by simpa using h1n
                have HB : Hid (badM s x = true) := by show _ = _; unfold badM; rw [d1]; rfl
                go_wp2_with fail
                refine wp_region_quiet_lit (by kernel_rfl) (by kernel_rfl) ?_
                iterate 18 (first | go_big_quiet_step (fail) | quiet_step (fail))
                refine wpQuiet_nil ?_
                intro _ hw'
                obtain ⟨nq, hw''⟩ := hw'
                subst hw''
                go_wp2_with fail
                go_ret
                refine ⟨ret_bool ?_, ?_⟩
                · have : q.any (badM s) = true := List.any_eq_true.2 ⟨x, by rw [HX.out]; exact List.getElem_mem hlt, HB.out⟩
                  rw [HBP.out, HBS.out, this]; rfl
                · have hd := below_drewN' HBE.out m
                  exact below_drewN' hd nq
              · have h1n : ¬ x.length < 1 := by omega
                have d1 : decide ((x.length : Int) < 1) = false := by simpa using h1
                have d1n : decide (x.length < 1) = false := by simpa using h1n
                by_cases h2 : s < (x.length : Int)
                · have d2 : decide (s < (x.length : Int)) = true := by simpa using h2
                  have HB : Hid (badM s x = true) := by show _ = _; unfold badM; rw [d1, d2]; rfl
                  go_wp2_with fail
                  refine wp_region_quiet_lit (by kernel_rfl) (by kernel_rfl) ?_
                  iterate 18 (first | go_big_quiet_step (fail) | quiet_step (fail))
                  refine wpQuiet_nil ?_
                  intro _ hw'
                  obtain ⟨nq, hw''⟩ := hw'
                  subst hw''
                  go_wp2_with fail
                  go_ret
                  refine ⟨ret_bool ?_, ?_⟩
                  · have : q.any (badM s) = true := List.any_eq_true.2 ⟨x, by rw [HX.out]; exact List.getElem_mem hlt, HB.out⟩
                    rw [HBP.out, HBS.out, this]; rfl
                  · have hd := below_drewN' HBE.out m
                    exact below_drewN' hd nq
                · have d2 : decide (s < (x.length : Int)) = false := by simpa using h2
                  have HB : Hid (badM s x = false) := by show _ = _; unfold badM; rw [d1, d2]; rfl
                  go_wp2_with fail
                  refine wp_region_quiet_lit (by kernel_rfl) (by kernel_rfl) ?_
                  iterate 18 (first | go_big_quiet_step (fail) | quiet_step (fail))
                  refine wpQuiet_nil ?_
                  intro _ hw'
                  obtain ⟨nq, hw''⟩ := hw'
                  subst hw''
                  go_wp2_with fail
                  go_roundg (q.length - (j + 1))
                  case measure => omega
                  case rel =>
                    refine ⟨j + 1, by omega, by omega, by go_num, m + nq, (by first | rfl | rw [World.drewN_drewN]), fun y hy => ?_⟩
                    rw [List.take_succ_eq_append_getElem hlt, List.mem_append, List.mem_singleton] at hy
                    rcases hy with hy | rfl
                    · exact A.out y hy
                    · rw [← HX.out]; exact HB.out
            · have hltz : ¬ (j : Int) < (q.length : Int) := by omega
              have HQ : Hid (q.any (badM s) = false) := by
                show _ = _
                rw [List.any_eq_false]
                intro y hy
                have := A.out y (by rw [List.take_of_length_le (by omega)]; exact hy)
                simp [this]
              clear A
              go_wp2_with fail
              go_loopg [6] l.length (fun gg s6 wr => ∃ i : Nat, i ≤ l.length ∧ l.length - i ≤ gg ∧ s6 = .int .i64 i ∧ wc.drewN m = wr ∧ Aside (∀ x ∈ l.take i, x.val = 0))
              case atStart => exact ⟨0, Nat.zero_le _, by omega, rfl, rfl, by simp [Aside]⟩
              case round =>
                obtain ⟨i, hi, hgi, rfl, rfl, A⟩ := hrel
                by_cases hlt2 : i < l.length
                · have hltz2 : (i : Int) < (l.length : Int) := by omega
                  obtain ⟨_, _, hv, hlc, _, pa⟩ := RW.out.open_
                  simp only [Value.slice.injEq] at hv
                  obtain ⟨b, off, ha, _, hbs, ca'⟩ := pa (by omega)
                  obtain ⟨v0, v1, v2⟩ := ca' i hlt2
                  obtain rfl : aw = some ⟨b, off, none⟩ := by rw [hv.1, ha]
                  have hlcz : (l.length : Int) ≤ (cw : Int) := by have := hv.2.2; omega
                  clear ca' pa hv ha hlc
                  by_cases hz : l[i].val = 0
                  · have hzq : (l[i].val != 0) = false := by simp [hz]
                    have HZ := Lib.hid hz
                    clear hz
                    go_wp2_with fail
                    go_roundg (l.length - (i + 1))
                    case measure => omega
                    case rel =>
                      refine ⟨i + 1, by omega, by omega, by go_num, rfl, fun x hx => ?_⟩
                      rw [List.take_succ_eq_append_getElem hlt2, List.mem_append, List.mem_singleton] at hx
                      rcases hx with hx | rfl
                      · exact A.out x hx
                      · exact HZ.out
                  · have hzq : (l[i].val != 0) = true := by simp [hz]
                    have HZ := Lib.hid hz
                    clear hz
                    go_wp2_with fail
                    go_ret
                    refine ⟨ret_bool ?_, below_drewN' HBE.out m⟩
                    have : l.any (fun x => x.val != 0) = true := List.any_eq_true.2 ⟨l[i], List.getElem_mem hlt2, by simpa using HZ.out⟩
                    rw [HBP.out, HBS.out, HQ.out, this]; rfl
                · have hltz2 : ¬ (i : Int) < (l.length : Int) := by omega
                  have HA : Hid (l.any (fun x => x.val != 0) = false) := by
                    show _ = _
                    rw [List.any_eq_false]
                    intro x hx
                    have := A.out x (by rw [List.take_of_length_le (by omega)]; exact hx)
                    simp [this]
                  clear A
                  go_wp2_with fail
                  go_ret
                  exact ⟨ret_bool (by rw [HBP.out, HBS.out, HQ.out, HA.out]; rfl), below_drewN' HBE.out m⟩
end Go.Proofs.Ytglbfmcbojjglaa

/-
  The contracts of view.valid and queuing.Valid. Conditions: the state can be read, its processes are of type int, at most a hundred thousand elements.
-/
import Derived.Test.YtglbfmcbojjglaaQueC
import Derived.Deep.DeepCutAuto
namespace Go.Proofs.Ytglbfmcbojjglaa
open Go.RowKit

def badP (k s d r : Int) : Bool := k != 2 || decide (s < 1) || decide (64 < s) || decide (d < 1) || decide (16 < d) || r != 0
def badS (d n : Int) (mq mw : Nat) (o : Bool) : Bool := decide (d < (mq : Int)) || (decide (0 < (mq : Int)) && decide (0 < (mw : Int))) || decide (n < 0) || decide (1073741824 < n) || !o
theorem RdQ.shape' {w : World} {B : Nat} {v : Value} {q : List (List Int)} (h : RdQ w B v q) : ∃ a c, v = .slice a q.length c := by
  obtain ⟨vs, ⟨ao, cap, hv, _⟩, _⟩ := h
  exact ⟨ao, cap, hv⟩
/-- P23.1 -/
def vldQ (k s d r : Int) (q : List (List Int)) (l : List Wt) (n : Int) : Bool := !badP k s d r && !badS d n q.length l.length (decide (OrdW l)) && !q.any (badM s) && !l.any (fun x => x.val != 0)

set_option maxHeartbeats 4000000 in
set_option maxRecDepth 100000 in
theorem view_c (nm : ByteArray) (k : Int) (o : Bool) (s d r n : Int) (vq vw : Value) (q : List (List Int)) (l : List Wt) (w : World) (hq : RdQ w 0 vq q) (hw : RdW w 0 vw l) (hwf : WfW l) (hl : l.length ≤ 100000) (hql : q.length ≤ 100000) :
    Calls Try.prog 94 #[.agg #[.string nm, .int .u8 k, .bool o, .int .i64 s, .int .i64 d, .int .i64 r, vq, vw, .int .i64 n]] w fun e w' => e = .returned (.bool (vldQ k s d r q l n)) ∧ Below w.heap.size w w' := by
  obtain ⟨aq, cq, rfl⟩ := hq.shape'
  obtain ⟨aw, cw, rfl, hnc, hno, hpw⟩ := hw.open_
  clear hnc hno hpw
  obtain ⟨W0, hW0⟩ : ∃ W0, W0 = w.alloc (.cells #[.string nm, .int .u8 k, .bool o, .int .i64 s, .int .i64 d, .int .i64 r, .slice aq q.length cq, .slice aw l.length cw, .int .i64 n] 181) := ⟨_, rfl⟩
  have HRQ : Hid (RdQ W0 0 (.slice aq q.length cq) q) := by subst hW0; exact hq.alloc _
  have HRW : Hid (RdW W0 0 (.slice aw l.length cw) l) := by subst hW0; exact hw.alloc _
  have HB0 : Hid (Below w.heap.size w W0) := by subst hW0; exact (Below.refl _ w).alloc (Nat.le_refl _) _
  have hz0 : W0.heap.size = w.heap.size + 1 := by subst hW0; simp
  have HC0 : Hid (W0.heap[w.heap.size]? = some (.cells #[.string nm, .int .u8 k, .bool o, .int .i64 s, .int .i64 d, .int .i64 r, .slice aq q.length cq, .slice aw l.length cw, .int .i64 n] 181 (0, 0))) := by subst hW0; exact heap_alloc_new w _
  have HWF := Lib.hid hwf
  have hcs : ∀ W : World, W.heap[w.heap.size]? = some (.cells #[.string nm, .int .u8 k, .bool o, .int .i64 s, .int .i64 d, .int .i64 r, .slice aq q.length cq, .slice aw l.length cw, .int .i64 n] 181 (0, 0)) → W.cell? ⟨w.heap.size, 1, none⟩ = some (.int .u8 k) ∧ W.cell? ⟨w.heap.size, 3, none⟩ = some (.int .i64 s) ∧ W.cell? ⟨w.heap.size, 4, none⟩ = some (.int .i64 d) ∧ W.cell? ⟨w.heap.size, 5, none⟩ = some (.int .i64 r) ∧
      W.cell? ⟨w.heap.size, 6, none⟩ = some (.slice aq q.length cq) ∧ W.cell? ⟨w.heap.size, 7, none⟩ = some (.slice aw l.length cw) ∧ W.cell? ⟨w.heap.size, 8, none⟩ = some (.int .i64 n) := fun W h => by
    refine ⟨?_, ?_, ?_, ?_, ?_, ?_, ?_⟩ <;> (rw [cell_of_row _ _ _ _ _ _ h]; rfl)
  have HCS := Lib.hid hcs
  clear hq hw hwf hcs
  unfold vldQ
  go_enter Try.func94, Try.ntmps94
  go_upto_region 1 with (fail)
  rw [← hW0]
  clear hW0
  obtain ⟨c1, c3, c4, c5, c6, c7, c8⟩ := HCS.out W0 HC0.out
  have hwl : w.heap.size < W0.heap.size := by omega
  go_cut [37] (fun s37 wx => s37 = .bool (badP k s d r) ∧ W0 = wx)
  case first =>
    by_cases h0 : k = 2
    rotate_left
    · have q0 : (k != 2) = true := by simp [h0]
      have E0 := Lib.hid q0
      go_wp2
      go_meet
      exact ⟨congrArg Value.bool (show true = _ by unfold badP; rw [E0.out]; rfl), rfl⟩
    · have q0 : (k != 2) = false := by simp [h0]
      have E0 := Lib.hid q0
      clear h0
      by_cases h1 : s < 1
      · have E1 := Lib.hid (decide_eq_true h1)
        go_wp2
        go_meet
        exact ⟨congrArg Value.bool (show true = _ by unfold badP; rw [E0.out, E1.out]; rfl), rfl⟩
      · have E1 := Lib.hid (decide_eq_false h1)
        by_cases h2 : 64 < s
        · have E2 := Lib.hid (decide_eq_true h2)
          go_wp2
          go_meet
          exact ⟨congrArg Value.bool (show true = _ by unfold badP; rw [E0.out, E1.out, E2.out]; rfl), rfl⟩
        · have E2 := Lib.hid (decide_eq_false h2)
          by_cases h3 : d < 1
          · have E3 := Lib.hid (decide_eq_true h3)
            go_wp2
            go_meet
            exact ⟨congrArg Value.bool (show true = _ by unfold badP; rw [E0.out, E1.out, E2.out, E3.out]; rfl), rfl⟩
          · have E3 := Lib.hid (decide_eq_false h3)
            by_cases h4 : 16 < d
            · have E4 := Lib.hid (decide_eq_true h4)
              go_wp2
              go_meet
              exact ⟨congrArg Value.bool (show true = _ by unfold badP; rw [E0.out, E1.out, E2.out, E3.out, E4.out]; rfl), rfl⟩
            · have E4 := Lib.hid (decide_eq_false h4)
              by_cases h5 : r = 0
              rotate_left
              · have q5 : (r != 0) = true := by simp [h5]
                have E5 := Lib.hid q5
                go_wp2
                go_meet
                exact ⟨congrArg Value.bool (show true = _ by unfold badP; rw [E0.out, E1.out, E2.out, E3.out, E4.out, E5.out]; rfl), rfl⟩
              · have q5 : (r != 0) = false := by simp [h5]
                have E5 := Lib.hid q5
                clear h5
                go_wp2
                go_meet
                exact ⟨congrArg Value.bool (show false = _ by unfold badP; rw [E0.out, E1.out, E2.out, E3.out, E4.out, E5.out]; rfl), rfl⟩
  case rest =>
    obtain ⟨rfl, rfl⟩ := hcut
    cases hbp : badP k s d r with
    | true =>
      have HBP := Lib.hid hbp
      clear hbp
      go_wp2_with fail
      go_ret
      exact ⟨ret_bool (by rw [HBP.out]; rfl), HB0.out⟩
    | false =>
      have HBP := Lib.hid hbp
      clear hbp
      go_upto_region 3 with (fail)
      go_cut [78] (fun s78 wx => s78 = .bool (badS d n q.length l.length (decide (OrdW l))) ∧ Below W0.heap.size W0 wx)
      case first =>
        by_cases hd : d < (q.length : Int)
        · have D := Lib.hid (decide_eq_true hd)
          go_wp2_with fail
          go_meet
          exact ⟨congrArg Value.bool (show true = _ by unfold badS; rw [D.out]; rfl), Below.refl _ _⟩
        · have D := Lib.hid (decide_eq_false hd)
          by_cases hq0 : 0 < (q.length : Int)
          · have hq0' : 0 < q.length := by omega
            have Q0 := Lib.hid (decide_eq_true hq0)
            by_cases hw0 : 0 < (l.length : Int)
            · have hw0' : 0 < l.length := by omega
              have L0 := Lib.hid (decide_eq_true hw0)
              go_wp2_with fail
              go_meet
              exact ⟨congrArg Value.bool (show true = _ by unfold badS; rw [D.out, Q0.out, L0.out]; rfl), Below.refl _ _⟩
            · have hw0' : ¬ 0 < l.length := by omega
              have L0 := Lib.hid (decide_eq_false hw0)
              by_cases hn0 : n < 0
              · have N0 := Lib.hid (decide_eq_true hn0)
                go_wp2_with fail
                go_meet
                exact ⟨congrArg Value.bool (show true = _ by unfold badS; rw [D.out, Q0.out, L0.out, N0.out]; rfl), Below.refl _ _⟩
              · have N0 := Lib.hid (decide_eq_false hn0)
                by_cases hn1 : 1073741824 < n
                · have N1 := Lib.hid (decide_eq_true hn1)
                  go_wp2_with fail
                  go_meet
                  exact ⟨congrArg Value.bool (show true = _ by unfold badS; rw [D.out, Q0.out, L0.out, N0.out, N1.out]; rfl), Below.refl _ _⟩
                · have N1 := Lib.hid (decide_eq_false hn1)
                  go_wp2_with fail
                  refine (orderedW_c _ l W0 HRW.out HWF.out (by omega)).mono ?_
                  rintro e w1 ⟨rfl, hb1⟩
                  have HB1 := Lib.hid hb1
                  clear hb1
                  generalize hod : decide (OrdW l) = od
                  have HOD := Lib.hid hod
                  clear hod
                  go_wp2_with fail
                  go_meet
                  exact ⟨congrArg Value.bool (show (!od) = _ by unfold badS; rw [D.out, Q0.out, L0.out, N0.out, N1.out, HOD.out]; rfl), HB1.out⟩
          · have hq0' : ¬ 0 < q.length := by omega
            have Q0 := Lib.hid (decide_eq_false hq0)
            by_cases hn0 : n < 0
            · have N0 := Lib.hid (decide_eq_true hn0)
              go_wp2_with fail
              go_meet
              exact ⟨congrArg Value.bool (show true = _ by unfold badS; rw [D.out, Q0.out, N0.out]; rfl), Below.refl _ _⟩
            · have N0 := Lib.hid (decide_eq_false hn0)
              by_cases hn1 : 1073741824 < n
              · have N1 := Lib.hid (decide_eq_true hn1)
                go_wp2_with fail
                go_meet
                exact ⟨congrArg Value.bool (show true = _ by unfold badS; rw [D.out, Q0.out, N0.out, N1.out]; rfl), Below.refl _ _⟩
              · have N1 := Lib.hid (decide_eq_false hn1)
                go_wp2_with fail
                refine (orderedW_c _ l W0 HRW.out HWF.out (by omega)).mono ?_
                rintro e w1 ⟨rfl, hb1⟩
                have HB1 := Lib.hid hb1
                clear hb1
                generalize hod : decide (OrdW l) = od
                have HOD := Lib.hid hod
                clear hod
                go_wp2_with fail
                go_meet
                exact ⟨congrArg Value.bool (show (!od) = _ by unfold badS; rw [D.out, Q0.out, N0.out, N1.out, HOD.out]; rfl), HB1.out⟩
      case rest =>
        obtain ⟨rfl, hbx⟩ := hcut
        have HB1 := Lib.hid (HB0.out.trans (hbx.mono HB0.out.size))
        have hC1 := (hbx.block _ hwl).trans HC0.out
        obtain ⟨d1, d3, d4, d5, d6, d7, d8⟩ := HCS.out wc hC1
        have hwl1 : w.heap.size < wc.heap.size := Nat.lt_of_lt_of_le hwl hbx.size
        have HBX := Lib.hid hbx
        have HRQ1 := Lib.hid (HRQ.out.below hbx)
        have HRW1 := Lib.hid (HRW.out.below hbx)
        have HC1 := Lib.hid hC1
        clear hbx hC1 c1 c3 c4 c5 c6 c7 c8
        cases hbs : badS d n q.length l.length (decide (OrdW l)) with
        | true =>
          have HBS := Lib.hid hbs
          clear hbs
          go_wp2_with fail
          go_ret
          exact ⟨ret_bool (by rw [HBP.out, HBS.out]; rfl), HB1.out⟩
        | false =>
          have HBS := Lib.hid hbs
          clear hbs
          have HA := Lib.hid (containsQ_c _ q _ #[.pointer (some ⟨w.heap.size, 0, none⟩)] (badM s) (enters_c Try.func121 (by kernel_rfl) rfl) wc HRQ1.out (by omega) (fun W u x hW hu => vw1_c u x w.heap.size s wc W d3 hwl1 hW hu))
          go_wp2_with fail
          refine HA.out.mono ?_
          clear HA
          rintro e w2 ⟨rfl, hb2⟩
          have HB2 := Lib.hid (HB1.out.trans (hb2.mono HB1.out.size))
          obtain ⟨e1, e3, e4, e5, e6, e7, e8⟩ := HCS.out w2 ((hb2.block _ hwl1).trans HC1.out)
          have hwl2 : w.heap.size < w2.heap.size := Nat.lt_of_lt_of_le hwl1 hb2.size
          have HRW2 := Lib.hid (HRW1.out.below hb2)
          clear hb2 d1 d3 d4 d5 d6 d7 d8
          cases hqa : q.any (badM s) with
          | true =>
            have HQA := Lib.hid hqa
            clear hqa
            go_wp2_with fail
            go_ret
            exact ⟨ret_bool (by rw [HBP.out, HBS.out, HQA.out]; rfl), HB2.out⟩
          | false =>
            have HQA := Lib.hid hqa
            clear hqa
            have HA := Lib.hid (containsW_c _ l _ #[] _ (enters_c Try.func123 (by kernel_rfl) rfl) w2 HRW2.out (by omega) (fun W x hW => vw2_c x w2 W hW))
            go_wp2_with fail
            refine HA.out.mono ?_
            clear HA
            rintro e w3 ⟨rfl, hb3⟩
            have HB3 := Lib.hid (HB2.out.trans (hb3.mono HB2.out.size))
            clear hb3
            generalize hqq : (l.any fun x => x.val != 0) = qq
            have HQQ := Lib.hid hqq
            clear hqq
            go_wp2_with fail
            go_ret
            exact ⟨ret_bool (by rw [HBP.out, HBS.out, HQA.out, HQQ.out]; cases qq <;> rfl), HB3.out⟩

set_option maxHeartbeats 1000000 in
theorem validQ_c (nm : ByteArray) (k : Int) (o : Bool) (s d r n : Int) (vq vw : Value) (q : List (List Int)) (l : List Wt) (w : World) (hq : RdQ w 0 vq q) (hw : RdW w 0 vw l) (hwf : WfW l) (hl : l.length ≤ 100000) (hql : q.length ≤ 100000) :
    Calls Try.prog 35 #[.agg #[.string nm, .int .u8 k, .bool o, .int .i64 s, .int .i64 d, .int .i64 r], .agg #[vq, vw, .int .i64 n]] w fun e w' => e = .returned (.bool (vldQ k s d r q l n)) ∧ Below w.heap.size w w' := by
  obtain ⟨aq, mq, cq, rfl, hmq⟩ := hq.shape
  obtain ⟨aw, cw, hvw, hnc, hno, _⟩ := hw.open_
  obtain ⟨mw, hmw⟩ : ∃ mw, mw = l.length := ⟨_, rfl⟩
  rw [← hmw] at hvw
  subst hvw
  obtain ⟨W0, hW0⟩ : ∃ W0, W0 = (w.alloc (.cells #[.string nm, .int .u8 k, .bool o, .int .i64 s, .int .i64 d, .int .i64 r] 23)).alloc (.cells #[.slice aq mq cq, .slice aw mw cw, .int .i64 n] 27) := ⟨_, rfl⟩
  have hb0 : Below w.heap.size w W0 := by subst hW0; exact ((Below.refl _ w).alloc (Nat.le_refl _) _).alloc (by simp) _
  have HC := Lib.hid (view_c nm k o s d r n _ _ q l W0 (hq.below hb0) (hw.below hb0) hwf hl hql)
  have HW0 := Lib.hid hW0
  have HB0 := Lib.hid hb0
  clear hq hw hwf hmq hmw hnc hno hW0 hb0
  generalize vldQ k s d r q l n = b at HC ⊢
  go_enter Try.func35, Try.ntmps35
  go_wp2_with fail
  rw [← HW0.out]
  refine HC.out.mono ?_
  rintro e w1 ⟨rfl, hb1⟩
  have HB1 := Lib.hid (HB0.out.trans (hb1.mono HB0.out.size))
  clear hb1 HC HW0 HB0
  go_wp2_with fail
  go_ret
  exact ⟨rfl, HB1.out⟩
end Go.Proofs.Ytglbfmcbojjglaa

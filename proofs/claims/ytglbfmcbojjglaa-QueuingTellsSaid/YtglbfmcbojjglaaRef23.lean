/-
  The contracts of nacelleref23.Leave, Has, Enter and Ordered. Conditions: the list can be read, at most ninety thousand elements.
-/
import Derived.Test.YtglbfmcbojjglaaLawA
import Derived.Test.YtglbfmcbojjglaaPlainE
import Derived.Deep.DeepCutAuto
import Derived.Deep.RegionHeld3
namespace Go.Proofs.Ytglbfmcbojjglaa
open Go.RowKit

def OwnW (w : World) (B : Nat) (v : Value) (l : List Wt) : Prop := w.ownsRow B 56 3 v l.length (cellsW l)

theorem leave_snoc (l : List Wt) (x : Wt) (q : Int) : leaveW (l ++ [x]) q = if x.proc = q then leaveW l q else leaveW l q ++ [x] := by
  unfold leaveW
  rw [List.filter_append]
  by_cases h : x.proc = q <;> simp [h]
theorem ownW_snoc {w : World} {B : Nat} {v : Value} {l : List Wt} {x : Wt} (h : w.ownsRow B 56 3 v (l.length + 1) (cellsW l ++ [.int .i64 x.proc, .int .i64 x.prio, .int .u8 x.val])) : OwnW w B v (l ++ [x]) := by
  unfold OwnW
  rw [cellsW_append]
  simpa [cellsW, encW] using h

set_option maxHeartbeats 1000000 in
theorem refLeave_c (v : Value) (l : List Wt) (q : Int) (w : World) (h : RdW w 0 v l) (hl : l.length ≤ 90000) :
    Calls Try.prog 43 #[v, .int .i64 q] w (EnterEnd w (leaveW l q)) := by
  obtain ⟨ao, ca, rfl, hca, hna, pa⟩ := h.open_
  obtain ⟨i0, hi, hz0, hz1, hz2⟩ := info_parts info_W
  have HPA := Lib.hid pa
  clear h pa
  go_enter Try.func43, Try.ntmps43
  go_wp2
  go_loopg [5, 6] l.length (fun gg s5 s6 wr => ∃ k : Nat, k ≤ l.length ∧ l.length - k ≤ gg ∧ s6 = .int .i64 k ∧ Aside (Below w.heap.size w wr ∧ OwnW wr w.heap.size s5 (leaveW (l.take k) q)))
  case atStart => exact ⟨0, Nat.zero_le _, by omega, rfl, Below.refl _ w, World.ownsRow_nil _ _ _ _⟩
  case round =>
    obtain ⟨k, hk, hg, rfl, A⟩ := hrel
    by_cases hlt : k < l.length
    · have hltz : (k : Int) < (l.length : Int) := by omega
      obtain ⟨b, off, rfl, _, hbs, ca⟩ := HPA.out (by omega)
      obtain ⟨c0, c1, c2⟩ := ca k hlt
      rw [← A.out.1.cell (p := ⟨b, _, none⟩) hbs] at c0 c1 c2
      have hbw : b < wr.heap.size := Nat.lt_of_lt_of_le hbs A.out.1.size
      have hsn := leave_snoc (l.take k) l[k] q
      rw [← List.take_succ_eq_append_getElem hlt] at hsn
      have HSN := Lib.hid hsn
      clear ca hsn
      by_cases he : l[k].proc = q
      · have hq : (l[k].proc != q) = false := by simp [he]
        have HE := Lib.hid he
        clear he
        go_wp2
        go_roundg (l.length - (k + 1))
        case measure => omega
        case rel => exact ⟨k + 1, by omega, by omega, by go_num, A.out.1, by rw [HSN.out, if_pos HE.out]; exact A.out.2⟩
      · have hq : (l[k].proc != q) = true := by simp [he]
        have HE := Lib.hid he
        have hown := A.out.2
        unfold OwnW at hown
        have HO := Lib.hid hown
        have hw1 : w.heap.size ≤ wr.heap.size := A.out.1.size
        have hll : (leaveW (l.take k) q).length ≤ 90000 := by have := leave_length (l.take k) q; have := List.length_take_le k l; omega
        clear he hown
        go_wp2_with (at_builtin; refine wpList_append_own _ rfl _ _ 25 rfl w.heap.size 56 i0 (.agg #[.int .i64 0, .int .i64 0, .int .u8 0]) 3 24 Try.underlying25 hi hz0 hz1 hz2 rfl (by decide) _ _ _ rfl (HO.out.alloc _) ⟨wr.heap.size, 0, none⟩ 1 1 [.int .i64 l[k].proc, .int .i64 l[k].prio, .int .u8 l[k].val] rfl rfl ?c1 ?c2 ?c3 ?c4 ?c5 ?_)
        case c1 =>
          intro j u hj
          rw [addr_add, cell_of_row _ _ _ _ _ _ (heap_alloc_new wr _)]
          simpa using hj
        case c2 => intro u hu; simp at hu; rcases hu with rfl | rfl | rfl <;> rfl
        case c3 => unfold maxLen; omega
        case c4 => omega
        case c5 => simp; omega
        intro v' w1 hown' hgrow _
        have HO' := Lib.hid hown'
        have HG' := Lib.hid hgrow
        clear hown' hgrow
        go_wp2
        go_roundg (l.length - (k + 1))
        case measure => omega
        case rel =>
          refine ⟨k + 1, by omega, by omega, by go_num, (A.out.1.alloc hw1 _).grown HG'.out (by simp; omega) (fun g hg => (HO.out.lt g hg).1), ?_⟩
          rw [HSN.out, if_neg HE.out]
          exact ownW_snoc HO'.out
    · have hltz : ¬ (k : Int) < (l.length : Int) := by omega
      go_wp2
      go_ret
      refine ⟨_, rfl, ?_, A.out.1⟩
      have := A.out.2
      rwa [List.take_of_length_le (by omega)] at this

theorem leave_lt (l : List Wt) (q : Int) : decide ((leaveW l q).length < l.length) = l.any (fun x => decide (x.proc = q)) := by
  unfold leaveW
  rw [Bool.eq_iff_iff, decide_eq_true_eq, List.length_filter_lt_length_iff_exists, List.any_eq_true]
  simp

set_option maxHeartbeats 1000000 in
theorem refHas_c (v : Value) (l : List Wt) (q : Int) (w : World) (h : RdW w 0 v l) (hl : l.length ≤ 90000) :
    Calls Try.prog 93 #[v, .int .i64 q] w fun e w' => e = .returned (.bool (l.any fun x => decide (x.proc = q))) ∧ Below w.heap.size w w' := by
  have HC := Lib.hid (refLeave_c v l q w h hl)
  have HLT := Lib.hid (leave_lt l q)
  obtain ⟨ao, ca, rfl, hca, hna, pa⟩ := h.open_
  clear h pa hca hna
  go_enter Try.func93, Try.ntmps93
  go_wp2_with fail
  refine HC.out.mono ?_
  rintro e w1 ⟨v1, rfl, ho1, hb1⟩
  obtain ⟨a1, c1, rfl⟩ := own_slice ho1
  have HB := Lib.hid hb1
  clear ho1 hb1 HC
  go_wp2_with fail
  go_ret
  exact ⟨ret_bool (by rw [← HLT.out]), HB.out⟩

/-- What stands behind k steps of the reference's Enter. -/
def refE (l : List Wt) (x : Wt) (k : Nat) : List Wt := if posW l x < k then l.take (posW l x) ++ x :: (l.take k).drop (posW l x) else l.take k
theorem refE_in (l : List Wt) (x : Wt) (k : Nat) (hk : k < l.length) (h : posW l x < k) : refE l x (k + 1) = refE l x k ++ [l[k]] := by
  unfold refE
  rw [if_pos h, if_pos (by omega), List.take_succ_eq_append_getElem hk, List.drop_append_of_le_length (by simp; omega)]
  simp
theorem refE_at (l : List Wt) (x : Wt) (k : Nat) (hk : k < l.length) (h : posW l x = k) : refE l x (k + 1) = (refE l x k ++ [x]) ++ [l[k]] := by
  unfold refE
  rw [if_pos (show posW l x < k + 1 by omega), if_neg (show ¬ posW l x < k by omega), List.take_succ_eq_append_getElem hk, h, List.drop_append_of_le_length (by simp; omega), List.drop_eq_nil_of_le (by simp; omega)]
  simp
theorem refE_out (l : List Wt) (x : Wt) (k : Nat) (hk : k < l.length) (h : k < posW l x) : refE l x (k + 1) = refE l x k ++ [l[k]] := by
  unfold refE
  rw [if_neg (by omega), if_neg (by omega), List.take_succ_eq_append_getElem hk]
theorem refE_end (l : List Wt) (x : Wt) : enterW l x = if posW l x < l.length then refE l x l.length else refE l x l.length ++ [x] := by
  have he : enterW l x = l.take (posW l x) ++ x :: l.drop (posW l x) := rfl
  rw [he]
  by_cases h : posW l x < l.length
  · rw [if_pos h]
    unfold refE
    rw [if_pos h, List.take_length]
  · have := posW_le l x
    have hp : posW l x = l.length := by omega
    rw [if_neg h]
    unfold refE
    rw [if_neg h, hp, List.take_length, List.drop_length]
theorem posW_step (l : List Wt) (x : Wt) (k : Nat) (hk : k < l.length) (h : k ≤ posW l x) : l[k].prio < x.prio ↔ posW l x = k := by
  constructor
  · intro hp
    by_cases hlt : k < posW l x
    · have := List.not_of_lt_findIdx (p := fun y : Wt => decide (y.prio < x.prio)) (xs := l) (i := k) hlt
      simp at this
      omega
    · omega
  · intro he
    have := List.findIdx_getElem (xs := l) (p := fun y : Wt => decide (y.prio < x.prio)) (w := by show posW l x < l.length; omega)
    have h2 : l[posW l x]'(by omega) = l[k] := by congr 1
    have h3 : decide ((l[posW l x]'(by omega)).prio < x.prio) = true := this
    rw [h2] at h3
    simpa using h3
theorem refE_length (l : List Wt) (x : Wt) (k : Nat) (hk : k ≤ l.length) : (refE l x k).length ≤ k + 1 := by
  unfold refE
  have := posW_le l x
  split
  · simp; omega
  · simp; omega

theorem boxX {W : World} {g : Nat} {x : Wt} (h : W.heap[g]? = some (.cells #[.int .i64 x.proc, .int .i64 x.prio, .int .u8 x.val] 56 (0, 0))) :
    W.cell? ⟨g, 0, none⟩ = some (.int .i64 x.proc) ∧ W.cell? ⟨g, 1, none⟩ = some (.int .i64 x.prio) ∧ W.cell? ⟨g, 2, none⟩ = some (.int .u8 x.val) := by
  refine ⟨?_, ?_, ?_⟩ <;> (rw [cell_of_row _ _ _ _ _ _ h]; rfl)

set_option maxHeartbeats 2000000 in
theorem refEnter_c (v : Value) (l : List Wt) (x : Wt) (w : World) (h : RdW w 0 v l) (hl : l.length ≤ 90000) :
    Calls Try.prog 42 #[v, .agg #[.int .i64 x.proc, .int .i64 x.prio, .int .u8 x.val]] w (EnterEnd w (enterW l x)) := by
  obtain ⟨ao, ca, rfl, hca, hna, pa⟩ := h.open_
  obtain ⟨i0, hi, hz0, hz1, hz2⟩ := info_parts info_W
  have HPA := Lib.hid pa
  obtain ⟨W0, hW0⟩ : ∃ W0, W0 = w.alloc (.cells #[.int .i64 x.proc, .int .i64 x.prio, .int .u8 x.val] 56) := ⟨_, rfl⟩
  have BX : Hid (W0.heap[w.heap.size]? = some (.cells #[.int .i64 x.proc, .int .i64 x.prio, .int .u8 x.val] 56 (0, 0))) := by subst hW0; exact heap_alloc_new w _
  have HB0 : Hid (Below w.heap.size w W0) := by subst hW0; exact (Below.refl _ w).alloc (Nat.le_refl _) _
  have hsz : w.heap.size + 1 = W0.heap.size := by subst hW0; simp
  have HW0 := Lib.hid hW0
  have HSZ := Lib.hid hsz
  clear h pa hW0 hsz
  go_enter Try.func42, Try.ntmps42
  go_wp2
  rw [← HW0.out]
  go_loopg [5, 6, 7] l.length (fun gg s5 s6 s7 wr => ∃ k : Nat, k ≤ l.length ∧ l.length - k ≤ gg ∧ s7 = .int .i64 k ∧ s6 = .bool (decide (posW l x < k)) ∧ Aside (Below W0.heap.size W0 wr ∧ OwnW wr W0.heap.size s5 (refE l x k)))
  case atStart => exact ⟨0, Nat.zero_le _, by omega, rfl, by simp, Below.refl _ _, by simpa [refE, OwnW, cellsW] using World.ownsRow_nil _ _ _ _⟩
  case round =>
    obtain ⟨k, hk, hg, rfl, rfl, A⟩ := hrel
    have hbw : Below w.heap.size w wr := HB0.out.trans (A.out.1.mono HB0.out.size)
    obtain ⟨x0, x1, x2⟩ := boxX ((A.out.1.block _ (by have := HSZ.out; omega)).trans BX.out)
    have hxs : w.heap.size < wr.heap.size := by have := HSZ.out; have := A.out.1.size; omega
    have hw1 : W0.heap.size ≤ wr.heap.size := A.out.1.size
    have hown := A.out.2
    unfold OwnW at hown
    have HO := Lib.hid hown
    have hrl := refE_length l x k hk
    have HA := Lib.hid A.out.1
    clear hown A
    by_cases hlt : k < l.length
    · have hltz : (k : Int) < (l.length : Int) := by omega
      obtain ⟨b, off, rfl, _, hbs, ca⟩ := HPA.out (by omega)
      have HCA := Lib.hid ca
      obtain ⟨c0, c1, c2⟩ := ca k hlt
      rw [← hbw.cell (p := ⟨b, _, none⟩) hbs] at c0 c1 c2
      have hbr : b < wr.heap.size := Nat.lt_of_lt_of_le hbs hbw.size
      clear ca hbw
      rcases Nat.lt_trichotomy (posW l x) k with hp | hp | hp
      · have hd : decide (posW l x < k) = true := decide_eq_true hp
        have HD : Hid (decide (posW l x < k + 1) = true) := decide_eq_true (by omega)
        have HR := Lib.hid (refE_in l x k hlt hp)
        rw [hd]
        clear hd hp
        go_wp2_with fail
        go_quiet (fail)
        go_wp2_with (at_builtin; refine wpList_append_own _ rfl _ _ 25 rfl W0.heap.size 56 i0 (.agg #[.int .i64 0, .int .i64 0, .int .u8 0]) 3 24 Try.underlying25 hi hz0 hz1 hz2 rfl (by decide) _ _ _ rfl (World.ownsRow.alloc (w := wr.drewN nq) HO.out _) ⟨wr.heap.size, 0, none⟩ 1 1 [.int .i64 l[k].proc, .int .i64 l[k].prio, .int .u8 l[k].val] rfl rfl ?c11 ?c21 ?c31 ?c41 ?c51 ?_)
        case c11 =>
          intro j u hj
          rw [addr_add, show (⟨wr.heap.size, 0 + j, none⟩ : Addr) = ⟨(wr.drewN nq).heap.size, 0 + j, none⟩ from rfl, cell_of_row _ _ _ _ _ _ (heap_alloc_new (wr.drewN nq) _)]
          simpa using hj
        case c21 => first | exact ⟨rfl, rfl, rfl⟩ | (intro u hu; simp at hu; rcases hu with rfl | rfl | rfl <;> rfl)
        case c31 => unfold maxLen; omega
        case c41 => omega
        case c51 => first | omega | (simp; omega)
        intro v1 w1 hown1 hgrow1 _
        have HO1 := Lib.hid hown1
        have HB1 := Lib.hid (((below_drewN' HA.out nq).alloc hw1 (.cells #[.int .i64 l[k].proc, .int .i64 l[k].prio, .int .u8 l[k].val] 56)).grown hgrow1 (by simp; omega) (fun g hg => (HO.out.lt g hg).1))
        have hw1 : W0.heap.size ≤ w1.heap.size := HB1.out.size
        clear hown1 hgrow1
        go_wp2
        go_roundg (l.length - (k + 1))
        case measure => omega
        case rel => exact ⟨k + 1, by omega, by omega, by go_num, by rw [HD.out], HB1.out, by rw [HR.out]; exact ownW_snoc HO1.out⟩
      · have hd : decide (posW l x < k) = false := decide_eq_false (by omega)
        have hpr : decide (l[k].prio < x.prio) = true := decide_eq_true ((posW_step l x k hlt (by omega)).2 hp)
        have HD : Hid (decide (posW l x < k + 1) = true) := decide_eq_true (by omega)
        have HR := Lib.hid (refE_at l x k hlt hp)
        rw [hd]
        clear hd hp
        go_wp2_with fail
        go_quiet (fail)
        go_wp2_with (at_builtin; refine wpList_append_own _ rfl _ _ 25 rfl W0.heap.size 56 i0 (.agg #[.int .i64 0, .int .i64 0, .int .u8 0]) 3 24 Try.underlying25 hi hz0 hz1 hz2 rfl (by decide) _ _ _ rfl (World.ownsRow.alloc (w := wr.drewN nq) HO.out _) ⟨wr.heap.size, 0, none⟩ 1 1 [.int .i64 x.proc, .int .i64 x.prio, .int .u8 x.val] rfl rfl ?c11 ?c21 ?c31 ?c41 ?c51 ?_)
        case c11 =>
          intro j u hj
          rw [addr_add, show (⟨wr.heap.size, 0 + j, none⟩ : Addr) = ⟨(wr.drewN nq).heap.size, 0 + j, none⟩ from rfl, cell_of_row _ _ _ _ _ _ (heap_alloc_new (wr.drewN nq) _)]
          simpa using hj
        case c21 => first | exact ⟨rfl, rfl, rfl⟩ | (intro u hu; simp at hu; rcases hu with rfl | rfl | rfl <;> rfl)
        case c31 => unfold maxLen; omega
        case c41 => omega
        case c51 => first | omega | (simp; omega)
        intro v1 w1 hown1 hgrow1 _
        have HO1 := Lib.hid hown1
        have HB1 := Lib.hid (((below_drewN' HA.out nq).alloc hw1 (.cells #[.int .i64 x.proc, .int .i64 x.prio, .int .u8 x.val] 56)).grown hgrow1 (by simp; omega) (fun g hg => (HO.out.lt g hg).1))
        have hw1 : W0.heap.size ≤ w1.heap.size := HB1.out.size
        clear hown1 hgrow1
        have hb1 : Below w.heap.size w w1 := HB0.out.trans (HB1.out.mono HB0.out.size)
        clear c0 c1 c2
        obtain ⟨c0, c1, c2⟩ := HCA.out k hlt
        rw [← hb1.cell (p := ⟨b, _, none⟩) hbs] at c0 c1 c2
        have hbr1 : b < w1.heap.size := Nat.lt_of_lt_of_le hbs hb1.size
        clear hb1
        have HO1' : Hid (w1.ownsRow W0.heap.size 56 3 v1 (refE l x k ++ [x]).length (cellsW (refE l x k ++ [x]))) := ownW_snoc HO1.out
        have hrl1 : (refE l x k ++ [x]).length ≤ k + 2 := by simp; omega
        clear HO1
        go_wp2_with (at_builtin; refine wpList_append_own _ rfl _ _ 25 rfl W0.heap.size 56 i0 (.agg #[.int .i64 0, .int .i64 0, .int .u8 0]) 3 24 Try.underlying25 hi hz0 hz1 hz2 rfl (by decide) _ _ _ rfl (World.ownsRow.alloc (w := w1) HO1'.out _) ⟨w1.heap.size, 0, none⟩ 1 1 [.int .i64 l[k].proc, .int .i64 l[k].prio, .int .u8 l[k].val] rfl rfl ?c12 ?c22 ?c32 ?c42 ?c52 ?_)
        case c12 =>
          intro j u hj
          rw [addr_add, show (⟨w1.heap.size, 0 + j, none⟩ : Addr) = ⟨(w1).heap.size, 0 + j, none⟩ from rfl, cell_of_row _ _ _ _ _ _ (heap_alloc_new (w1) _)]
          simpa using hj
        case c22 => first | exact ⟨rfl, rfl, rfl⟩ | (intro u hu; simp at hu; rcases hu with rfl | rfl | rfl <;> rfl)
        case c32 => unfold maxLen; omega
        case c42 => omega
        case c52 => first | omega | (simp; omega)
        intro v2 w2 hown2 hgrow2 _
        have HO2 := Lib.hid hown2
        have HB2 := Lib.hid ((HB1.out.alloc hw1 (.cells #[.int .i64 l[k].proc, .int .i64 l[k].prio, .int .u8 l[k].val] 56)).grown hgrow2 (by simp; omega) (fun g hg => (HO1'.out.lt g hg).1))
        have hw2 : W0.heap.size ≤ w2.heap.size := HB2.out.size
        clear hown2 hgrow2
        go_wp2
        go_roundg (l.length - (k + 1))
        case measure => omega
        case rel => exact ⟨k + 1, by omega, by omega, by go_num, by rw [HD.out], HB2.out, by rw [HR.out]; exact ownW_snoc (l := refE l x k ++ [x]) (by rw [List.length_append]; exact HO2.out)⟩
      · have hd : decide (posW l x < k) = false := decide_eq_false (by omega)
        have hpr : decide (l[k].prio < x.prio) = false := decide_eq_false (fun h => by have := (posW_step l x k hlt (by omega)).1 h; omega)
        have HD : Hid (decide (posW l x < k + 1) = false) := decide_eq_false (by omega)
        have HR := Lib.hid (refE_out l x k hlt hp)
        rw [hd]
        clear hd hp
        go_wp2_with fail
        go_quiet (fail)
        go_wp2_with (at_builtin; refine wpList_append_own _ rfl _ _ 25 rfl W0.heap.size 56 i0 (.agg #[.int .i64 0, .int .i64 0, .int .u8 0]) 3 24 Try.underlying25 hi hz0 hz1 hz2 rfl (by decide) _ _ _ rfl (World.ownsRow.alloc (w := wr.drewN nq) HO.out _) ⟨wr.heap.size, 0, none⟩ 1 1 [.int .i64 l[k].proc, .int .i64 l[k].prio, .int .u8 l[k].val] rfl rfl ?c11 ?c21 ?c31 ?c41 ?c51 ?_)
        case c11 =>
          intro j u hj
          rw [addr_add, show (⟨wr.heap.size, 0 + j, none⟩ : Addr) = ⟨(wr.drewN nq).heap.size, 0 + j, none⟩ from rfl, cell_of_row _ _ _ _ _ _ (heap_alloc_new (wr.drewN nq) _)]
          simpa using hj
        case c21 => first | exact ⟨rfl, rfl, rfl⟩ | (intro u hu; simp at hu; rcases hu with rfl | rfl | rfl <;> rfl)
        case c31 => unfold maxLen; omega
        case c41 => omega
        case c51 => first | omega | (simp; omega)
        intro v1 w1 hown1 hgrow1 _
        have HO1 := Lib.hid hown1
        have HB1 := Lib.hid (((below_drewN' HA.out nq).alloc hw1 (.cells #[.int .i64 l[k].proc, .int .i64 l[k].prio, .int .u8 l[k].val] 56)).grown hgrow1 (by simp; omega) (fun g hg => (HO.out.lt g hg).1))
        have hw1 : W0.heap.size ≤ w1.heap.size := HB1.out.size
        clear hown1 hgrow1
        go_wp2
        go_roundg (l.length - (k + 1))
        case measure => omega
        case rel => exact ⟨k + 1, by omega, by omega, by go_num, by rw [HD.out], HB1.out, by rw [HR.out]; exact ownW_snoc HO1.out⟩
    · have hltz : ¬ (k : Int) < (l.length : Int) := by omega
      obtain rfl : k = l.length := by omega
      have HE := Lib.hid (refE_end l x)
      by_cases hp : posW l x < l.length
      · have hd : decide (posW l x < l.length) = true := decide_eq_true hp
        have HP := Lib.hid hp
        rw [hd]
        clear hd hp
        go_wp2
        go_ret
        refine ⟨_, rfl, ?_, hbw⟩
        rw [HE.out, if_pos HP.out]
        exact own_mono HO.out HB0.out.size
      · have hd : decide (posW l x < l.length) = false := decide_eq_false hp
        have HP := Lib.hid hp
        rw [hd]
        clear hd hp
        go_wp2_with (at_builtin; refine wpList_append_own _ rfl _ _ 25 rfl W0.heap.size 56 i0 (.agg #[.int .i64 0, .int .i64 0, .int .u8 0]) 3 24 Try.underlying25 hi hz0 hz1 hz2 rfl (by decide) _ _ _ rfl (World.ownsRow.alloc (w := wr) HO.out _) ⟨wr.heap.size, 0, none⟩ 1 1 [.int .i64 x.proc, .int .i64 x.prio, .int .u8 x.val] rfl rfl ?c11 ?c21 ?c31 ?c41 ?c51 ?_)
        case c21 => first | exact ⟨rfl, rfl, rfl⟩ | (intro u hu; simp at hu; rcases hu with rfl | rfl | rfl <;> rfl)
        case c31 => unfold maxLen; omega
        case c41 => omega
        case c51 => first | omega | (simp; omega)
        intro v1 w1 hown1 hgrow1 _
        have HO1 := Lib.hid hown1
        have HB1 := Lib.hid ((HA.out.alloc hw1 (.cells #[.int .i64 x.proc, .int .i64 x.prio, .int .u8 x.val] 56)).grown hgrow1 (by simp; omega) (fun g hg => (HO.out.lt g hg).1))
        have hw1 : W0.heap.size ≤ w1.heap.size := HB1.out.size
        clear hown1 hgrow1
        go_wp2
        go_ret
        refine ⟨_, rfl, ?_, HB0.out.trans (HB1.out.mono HB0.out.size)⟩
        rw [HE.out, if_neg HP.out]
        exact own_mono (ownW_snoc HO1.out) HB0.out.size
end Go.Proofs.Ytglbfmcbojjglaa

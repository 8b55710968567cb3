/-
  The contracts of nacellelaw23.Few and of. Conditions: the state can be read.
-/
import Derived.Test.YtglbfmcbojjglaaRef23T
namespace Go.Proofs.Ytglbfmcbojjglaa
open Go.RowKit

def fewQ (q : List (List Int)) (l : List Wt) : Bool := !q.any (fun x => decide (200 < x.length)) && (decide (q.length ≤ 40) && decide (l.length ≤ 40))
set_option maxHeartbeats 4000000 in
set_option maxRecDepth 100000 in
theorem few23_c (vq vw : Value) (n : Int) (q : List (List Int)) (l : List Wt) (w : World) (hq : RdQ w 0 vq q) (hw : RdW w 0 vw l) (hql : q.length ≤ 9223372036854775807) (hm : ∀ x ∈ q, x.length ≤ 9223372036854775807) :
    Calls Try.prog 24 #[.agg #[vq, vw, .int .i64 n]] w fun e w' => e = .returned (.bool (fewQ q l)) ∧ Below w.heap.size w w' := by
  obtain ⟨aq, cq, rfl⟩ := hq.shape'
  obtain ⟨aw, cw, rfl, _, _, _⟩ := hw.open_
  obtain ⟨W0, hW0⟩ : ∃ W0, W0 = w.alloc (.cells #[.slice aq q.length cq, .slice aw l.length cw, .int .i64 n] 27) := ⟨_, rfl⟩
  have HB0 : Hid (Below w.heap.size w W0) := by subst hW0; exact (Below.refl _ w).alloc (Nat.le_refl _) _
  have HC0 : Hid (W0.heap[w.heap.size]? = some (.cells #[.slice aq q.length cq, .slice aw l.length cw, .int .i64 n] 27 (0, 0))) := by subst hW0; exact heap_alloc_new w _
  have HQ := Lib.hid (hq.below HB0.out)
  have HM := Lib.hid hm
  have HW0 := Lib.hid hW0
  clear hq hw hW0 hm
  go_enter Try.func24, Try.ntmps24
  go_wp2_with fail
  rw [← HW0.out]
  clear HW0
  obtain ⟨c0, c1, c2, _, _, _⟩ := threeBlk HC0.out
  have cb := blk_lt HC0.out
  go_loopg [4, 8] q.length (fun gg _ s8 wr => ∃ j : Nat, j ≤ q.length ∧ q.length - j ≤ gg ∧ s8 = .int .i64 j ∧ W0 = wr ∧ Aside (∀ x ∈ q.take j, x.length ≤ 200))
  case atStart => exact ⟨0, Nat.zero_le _, by omega, rfl, rfl, by simp [Aside]⟩
  case round =>
    obtain ⟨j, hj, hg, rfl, rfl, A⟩ := hrel
    by_cases hlt : j < q.length
    · have hltz : (j : Int) < (q.length : Int) := by omega
      obtain ⟨b, off, a', c', rfl, hqc, hbs, cj⟩ := HQ.out.cellAt j hlt
      have hqcz : (q.length : Int) ≤ (cq : Int) := by omega
      obtain ⟨x, hx⟩ : ∃ x, x = q[j] := ⟨_, rfl⟩
      have HX := Lib.hid hx
      rw [← hx] at cj
      have hxl : x.length ≤ 9223372036854775807 := by rw [hx]; exact HM.out _ (List.getElem_mem hlt)
      clear hx
      by_cases h2 : 200 < x.length
      · have h2z : (200 : Int) < (x.length : Int) := by omega
        go_wp2_with fail
        go_ret
        refine ⟨ret_bool ?_, HB0.out⟩
        have : q.any (fun x => decide (200 < x.length)) = true := List.any_eq_true.2 ⟨x, by rw [HX.out]; exact List.getElem_mem hlt, by simpa using h2⟩
        unfold fewQ
        rw [this]
        rfl
      · have h2z : ¬ (200 : Int) < (x.length : Int) := by omega
        go_wp2_with fail
        go_roundg (q.length - (j + 1))
        case measure => omega
        case rel =>
          refine ⟨j + 1, by omega, by omega, by go_num, rfl, fun y hy => ?_⟩
          rw [List.take_succ_eq_append_getElem hlt, List.mem_append, List.mem_singleton] at hy
          rcases hy with hy | rfl
          · exact A.out y hy
          · rw [← HX.out]; omega
    · have hltz : ¬ (j : Int) < (q.length : Int) := by omega
      have HA : Hid (q.any (fun x => decide (200 < x.length)) = false) := by
        show _ = _
        rw [List.any_eq_false]
        intro y hy
        have := A.out y (by rw [List.take_of_length_le (by omega)]; exact hy)
        simpa using this
      clear A
      by_cases h1 : q.length ≤ 40
      · have h1z : (q.length : Int) ≤ 40 := by omega
        by_cases h3 : l.length ≤ 40
        · have h3z : (l.length : Int) ≤ 40 := by omega
          have HF : Hid (fewQ q l = true) := by show _ = _; unfold fewQ; rw [HA.out, decide_eq_true h1, decide_eq_true h3]; rfl
          go_wp2_with fail
          go_ret
          exact ⟨ret_bool (by rw [HF.out]), HB0.out⟩
        · have h3z : ¬ (l.length : Int) ≤ 40 := by omega
          have HF : Hid (fewQ q l = false) := by show _ = _; unfold fewQ; rw [HA.out, decide_eq_true h1, decide_eq_false h3]; rfl
          go_wp2_with fail
          go_ret
          exact ⟨ret_bool (by rw [HF.out]), HB0.out⟩
      · have h1z : ¬ (q.length : Int) ≤ 40 := by omega
        have HF : Hid (fewQ q l = false) := by show _ = _; unfold fewQ; rw [HA.out, decide_eq_false h1]; rfl
        go_wp2_with fail
        go_ret
        exact ⟨ret_bool (by rw [HF.out]), HB0.out⟩

set_option maxHeartbeats 2000000 in
theorem of23_c (a b : Nat) (x y : Option Addr) (e f : Nat) (n : Int) (w : World) :
    Calls Try.prog 38 #[.agg #[.slice x a b, .slice y e f, .int .i64 n]] w fun e' w' => e' = .returned (.agg #[.slice x a b, .slice y e f, .int .i64 n]) ∧ Below w.heap.size w w' := by
  go_enter Try.func38, Try.ntmps38
  go_wp2_with fail
  refine bodyPost_ret (v := .agg #[.slice x a b, .slice y e f, .int .i64 n]) (by simp [results, Try.results38, go_sem]) rfl ?_
  exact ⟨rfl, ((Below.refl _ w).alloc (Nat.le_refl _) _).alloc (by simp) _⟩
end Go.Proofs.Ytglbfmcbojjglaa

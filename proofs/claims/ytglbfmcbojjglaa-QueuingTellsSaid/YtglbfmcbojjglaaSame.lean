/-
  The contract of nacellelaw23.Same for states that read alike: it returns true. Conditions: both can be read, at most ninety thousand elements.
-/
import Derived.Test.YtglbfmcbojjglaaAwake23
import Derived.Deep.DeepCutAuto
namespace Go.Proofs.Ytglbfmcbojjglaa
open Go.RowKit

set_option maxHeartbeats 2000000 in
set_option maxRecDepth 100000 in
theorem sameT_c (va vb ua ub : Value) (q : List (List Int)) (l : List Wt) (n : Int) (w : World) (hqa : RdQ w 0 va q) (hqb : RdQ w 0 vb q) (hla : RdW w 0 ua l) (hlb : RdW w 0 ub l) (hl : l.length ≤ 90000) (hql : q.length ≤ 90000) :
    Calls Try.prog 37 #[.agg #[va, ua, .int .i64 n], .agg #[vb, ub, .int .i64 n]] w fun e w' => e = .returned (.bool true) ∧ Below w.heap.size w w' := by
  obtain ⟨aa, ca, rfl⟩ := hqa.shape'
  obtain ⟨ab, cb, rfl⟩ := hqb.shape'
  obtain ⟨da, ea, rfl, h1, h2, h3⟩ := hla.open_
  clear h1 h2 h3
  obtain ⟨db, eb, rfl, h1, h2, h3⟩ := hlb.open_
  clear h1 h2 h3
  obtain ⟨W0, hW0⟩ : ∃ W0, W0 = (w.alloc (.cells #[.slice aa q.length ca, .slice da l.length ea, .int .i64 n] 27)).alloc (.cells #[.slice ab q.length cb, .slice db l.length eb, .int .i64 n] 27) := ⟨_, rfl⟩
  have HB0 : Hid (Below w.heap.size w W0) := by subst hW0; exact ((Below.refl _ w).alloc (Nat.le_refl _) _).alloc (by simp) _
  have HA0 : Hid (W0.heap[w.heap.size]? = some (.cells #[.slice aa q.length ca, .slice da l.length ea, .int .i64 n] 27 (0, 0))) := by subst hW0; exact (Below.heap_alloc _ _ _ (by simp)).trans (heap_alloc_new w _)
  have hC0 : W0.heap[w.heap.size + 1]? = some (.cells #[.slice ab q.length cb, .slice db l.length eb, .int .i64 n] 27 (0, 0)) := by
    subst hW0
    have := heap_alloc_new (w.alloc (.cells #[.slice aa q.length ca, .slice da l.length ea, .int .i64 n] 27)) (.cells #[.slice ab q.length cb, .slice db l.length eb, .int .i64 n] 27)
    simpa using this
  have HC0 := Lib.hid hC0
  have hwt := (waiters_c _ _ l l W0 (hla.below HB0.out) (hlb.below HB0.out) (by omega) (by omega))
  rw [show decide (l = l) = true from by simp] at hwt
  have HWT := Lib.hid hwt
  clear hwt hC0
  have HQA := Lib.hid (hqa.below HB0.out)
  have HQB := Lib.hid (hqb.below HB0.out)
  have HW0 := Lib.hid hW0
  clear hqa hqb hla hlb hW0
  go_enter Try.func37, Try.ntmps37
  go_wp2_with fail
  rw [← HW0.out]
  refine HWT.out.mono ?_
  rintro e w1 ⟨rfl, j1, rfl⟩
  obtain ⟨x0, x1, x2, _, _, _⟩ := threeBlk HA0.out
  obtain ⟨y0, y1, y2, _, _, _⟩ := threeBlk HC0.out
  have hxs := blk_lt HA0.out
  have hys := blk_lt HC0.out
  clear HWT HW0
  go_wp2_with fail
  go_loopg [5, 31] q.length (fun gg _ s31 wr => ∃ k : Nat, k ≤ q.length ∧ q.length - k ≤ gg ∧ s31 = .int .i64 k ∧ Aside (∃ j, wr = W0.drewN j))
  case atStart => exact ⟨0, Nat.zero_le _, by omega, rfl, ⟨_, rfl⟩⟩
  case round =>
    obtain ⟨k, hk, hg, rfl, A⟩ := hrel
    obtain ⟨j, rfl⟩ := A.out
    clear A
    by_cases hlt : k < q.length
    · have hltz : (k : Int) < (q.length : Int) := by omega
      obtain ⟨vs, ⟨ao, cap, hv, -, -, hvl, pa⟩, hin⟩ := HQA.out
      obtain ⟨us, ⟨bo, cap', hv', -, -, hul, pb⟩, hin'⟩ := HQB.out
      simp only [Value.slice.injEq] at hv hv'
      obtain ⟨b, off, ha, -, hbs, ca'⟩ := pa (by omega)
      obtain ⟨b', off', hb, -, hbs', cb'⟩ := pb (by omega)
      obtain rfl : aa = some ⟨b, off, none⟩ := by rw [hv.1, ha]
      obtain rfl : ab = some ⟨b', off', none⟩ := by rw [hv'.1, hb]
      have hu : vs[k]? = some vs[k] := List.getElem?_eq_getElem (by omega)
      have hu' : us[k]? = some us[k] := List.getElem?_eq_getElem (by omega)
      have hqk : q[k]? = some q[k] := List.getElem?_eq_getElem hlt
      have c0 := ca' k _ hu
      have d0 := cb' k _ hu'
      have R := hin k _ _ hu hqk
      have R' := hin' k _ _ hu' hqk
      obtain ⟨au, mu, hsu, -, -, -⟩ := R.open_
      obtain ⟨au', mu', hsu', -, -, -⟩ := R'.open_
      rw [hsu] at c0 R
      rw [hsu'] at d0 R'
      have hs1 : ∀ m, (convert 28 9 (.slice au q[k].length mu)).run Try.prog (W0.drewN m) = .ok (.string (strOfNums q[k])) (W0.drewN m) := fun m => (R.drewN m).str
      have hs2 : ∀ m, (convert 28 9 (.slice au' q[k].length mu')).run Try.prog (W0.drewN m) = .ok (.string (strOfNums q[k])) (W0.drewN m) := fun m => (R'.drewN m).str
      generalize q[k].length = nq at c0 d0 hs1 hs2
      generalize strOfNums q[k] = sq at hs1 hs2
      clear hv hv' ha hb pa pb hin hin' hvl hul ca' cb' hu hu' hqk R R' hsu hsu' HQA HQB
      go_wp2
      refine wp_region_quiet_lit (by kernel_rfl) (by kernel_rfl) ?_
      iterate 13 (first | go_big_quiet_step (fail) | quiet_step (fail))
      refine wpQuiet_nil ?_
      intro _ hw'
      obtain ⟨nr, hw''⟩ := hw'
      subst hw''
      go_wp2
      go_roundg (q.length - (k + 1))
      case measure => omega
      case rel => exact ⟨k + 1, by omega, by omega, by go_num, ⟨_, rfl⟩⟩
    · have hltz : ¬ (k : Int) < (q.length : Int) := by omega
      go_wp2
      go_ret
      exact ⟨rfl, below_drewN' HB0.out _⟩
end Go.Proofs.Ytglbfmcbojjglaa

/-
  The contract of nacellelaw23.Waiters: two waiting lists are equal. No conditions but that both can be read.
-/
import Derived.Test.YtglbfmcbojjglaaBase
namespace Go.Proofs.Ytglbfmcbojjglaa
open Go.RowKit

theorem neqW (w : World) (x y : Wt) : (binOp .neq 56 (.agg #[.int .i64 x.proc, .int .i64 x.prio, .int .u8 x.val]) (.agg #[.int .i64 y.proc, .int .i64 y.prio, .int .u8 y.val])).run Try.prog w = .ok (.bool (!(decide (x = y)))) w := by
  have hS : Try.prog.underlying 56 = some (.struct (Try.prog.fieldsOf 56)) := by kernel_rfl
  have hp : Try.prog.stoodInHeld 56 = false := by kernel_rfl
  rw [run_neq_struct, show (10000 : Nat) = 9999 + 1 from rfl, run_equalIn_agg w 9999 56 _ _ hS hp]
  simp only [Program.fieldsOf, Try.underlying56]
  go_simp
  by_cases h1 : x.proc = y.proc <;> by_cases h2 : x.prio = y.prio <;> by_cases h3 : x.val = y.val <;> simp [h1, h2, h3, Wt.ext_iff']

set_option maxHeartbeats 400000 in
theorem waiters_c (va vb : Value) (la lb : List Wt) (w : World) (ha : RdW w 0 va la) (hb : RdW w 0 vb lb) (hla : la.length ≤ 4611686018427387904) (hlb : lb.length ≤ 4611686018427387904) :
    Calls Try.prog 41 #[va, vb] w fun e w' => e = .returned (.bool (decide (la = lb))) ∧ ∃ n, w' = w.drewN n := by
  obtain ⟨ao, ca, rfl, hca, hna, pa⟩ := ha.open_
  obtain ⟨bo, cb, rfl, hcb, hnb, pb⟩ := hb.open_
  clear ha hb
  by_cases hl : la.length = lb.length
  · have hl' : ((la.length : Int) != (lb.length : Int)) = false := by simp; omega
    have hl2 : (la.length != lb.length) = false := by simp; omega
    have HL := Lib.hid hl
    clear hl
    go_enter Try.func41, Try.ntmps41
    go_wp2
    go_loopg [5, 13] la.length (fun gg _ s13 wr => ∃ k : Nat, k ≤ la.length ∧ la.length - k ≤ gg ∧ s13 = .int .i64 k ∧ Aside (∃ n, wr = w.drewN n) ∧ Aside (la.take k = lb.take k))
    case atStart => exact ⟨0, Nat.zero_le _, by omega, rfl, ⟨0, rfl⟩, by simp [Aside]⟩
    case round =>
      obtain ⟨k, hk, hg, rfl, W, A⟩ := hrel
      by_cases hlt : k < la.length
      · have hltz : (k : Int) < (la.length : Int) := by omega
        have hkb : k < lb.length := by have := HL.out; omega
        have hkz : (k : Int) < (lb.length : Int) := by omega
        obtain ⟨b, off, rfl, _, _, ca⟩ := pa (by omega)
        obtain ⟨b', off', rfl, _, _, cb⟩ := pb (by omega)
        obtain ⟨c0, c1, c2⟩ := ca k hlt
        obtain ⟨d0, d1, d2⟩ := cb k hkb
        clear pa pb ca cb
        obtain ⟨n, rfl⟩ := W.out
        have hne := fun W => neqW W la[k] lb[k]
        by_cases he : la[k] = lb[k]
        · have hdt : (!decide (la[k] = lb[k])) = false := by simp [he]
          have E := Lib.hid he
          clear he
          go_wp2
          go_quiet (fail)
          go_wp2
          go_roundg (la.length - (k + 1))
          case measure => omega
          case rel =>
            refine ⟨k + 1, by omega, by omega, by go_num, ⟨_, rfl⟩, ?_⟩
            show la.take (k + 1) = lb.take (k + 1)
            rw [List.take_succ_eq_append_getElem hlt, List.take_succ_eq_append_getElem hkb, E.out, A.out]
        · have hdt : (!decide (la[k] = lb[k])) = true := by simp [he]
          have E := Lib.hid he
          clear he
          go_wp2
          go_quiet (fail)
          go_wp2
          go_ret
          exact ⟨ret_bool (decide_eq_false (fun h => E.out (by subst h; rfl))).symm, _, World.drewN_drewN _ _ _⟩
      · have hltz : ¬ (k : Int) < (la.length : Int) := by omega
        go_wp2
        go_ret
        obtain ⟨n, rfl⟩ := W.out
        refine ⟨ret_bool (decide_eq_true ?_).symm, n, rfl⟩
        have := A.out
        rwa [List.take_of_length_le (by omega), List.take_of_length_le (by have := HL.out; omega)] at this
  · have hl' : ((la.length : Int) != (lb.length : Int)) = true := by simp; omega
    have hl2 : (la.length != lb.length) = true := by simp; omega
    go_enter Try.func41, Try.ntmps41
    go_wp2
    go_ret
    exact ⟨ret_bool (decide_eq_false fun h => hl (by rw [h])).symm, 0, rfl⟩
end Go.Proofs.Ytglbfmcbojjglaa

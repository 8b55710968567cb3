/-
  The contract of sema's method procs. Conditions: the list can be read, at most a hundred thousand elements.
-/
import Derived.Test.YtglbfmcbojjglaaSemaA
namespace Go.Proofs.Ytglbfmcbojjglaa
open Go.RowKit

theorem info_I : (Try.prog.info? 3).map (fun i => (i.zero, i.size, i.bytes)) = some (some (.int .i64 0), 1, 8) := by kernel_rfl

/-- A list of ints in memory of the call's own. -/
def OwnI (w : World) (B : Nat) (v : Value) (l : List Int) : Prop := w.ownsRow B 3 1 v l.length (l.map (Value.int .i64))

def ProcsEnd (w : World) (l : List Int) (e : Ending) (w' : World) : Prop := ∃ v, e = .returned v ∧ OwnI w' w.heap.size v l ∧ Below w.heap.size w w'

set_option maxHeartbeats 1000000 in
theorem procs_c (b o : Nat) (v : Value) (l : List Wt) (w : World) (hc : w.cell? ⟨b, o, none⟩ = some v) (h : RdW w 0 v l) (hl : l.length ≤ 100000) :
    Calls Try.prog 107 #[.pointer (some ⟨b, o, none⟩)] w (ProcsEnd w (l.map (·.proc))) := by
  obtain ⟨ao, ca, rfl, hca, hna, pa⟩ := h.open_
  obtain ⟨i0, hi, hz0, hz1, hz2⟩ := info_parts info_I
  clear h
  go_enter Try.func107, Try.ntmps107
  go_wp2
  clear hc
  go_loopg [3, 5, 11] l.length (fun gg s3 _ s11 wr => ∃ k : Nat, k ≤ l.length ∧ l.length - k ≤ gg ∧ s11 = .int .i64 k ∧ Aside (Below w.heap.size w wr ∧ OwnI wr w.heap.size s3 ((l.take k).map (·.proc))))
  case atStart => exact ⟨0, Nat.zero_le _, by omega, rfl, Below.refl _ w, World.ownsRow_nil _ _ _ _⟩
  case round =>
    obtain ⟨k, hk, hg, rfl, A⟩ := hrel
    by_cases hlt : k < l.length
    · have hltz : (k : Int) < (l.length : Int) := by omega
      obtain ⟨b', off, rfl, _, hbs, ca⟩ := pa (by omega)
      obtain ⟨c0, c1, c2⟩ := ca k hlt
      rw [← A.out.1.cell (p := ⟨b', _, none⟩) hbs] at c0 c1 c2
      clear pa ca
      have hlen : ((l.take k).map (·.proc)).length = k := by simp; omega
      have HLN := Lib.hid hlen
      clear hlen
      have hown := A.out.2
      unfold OwnI at hown
      rw [HLN.out] at hown
      have HO := Lib.hid hown
      have hw1 : w.heap.size ≤ wr.heap.size := A.out.1.size
      clear hown
      go_wp2_with (at_builtin; refine wpList_append_own _ rfl _ _ 78 rfl w.heap.size 3 i0 (.int .i64 0) 1 8 Try.underlying78 hi hz0 hz1 hz2 rfl (by decide) _ _ _ rfl ((HO.out.alloc _).alloc _) ⟨wr.heap.size + 1, 0, none⟩ 1 1 [.int .i64 l[k].proc] rfl rfl ?c1 ?c2 ?c3 ?c4 ?c5 ?_)
      case c1 =>
        intro j u hj
        match j, hj with
        | 0, hj => simp at hj; subst hj; rw [addr_add]; go_simp
      case c2 => intro u hu; simp at hu; subst hu; rfl
      case c3 => unfold maxLen; omega
      case c4 => omega
      case c5 => simp; omega
      intro v' w1 hown' hgrow _
      have HO' := Lib.hid hown'
      have HG' := Lib.hid hgrow
      clear hown' hgrow
      go_wp2
      go_roundg (l.length - (k + 1))
      case measure => omega
      case rel =>
        refine ⟨k + 1, by omega, by omega, by go_num, ((A.out.1.alloc hw1 _).alloc (by simp; omega) _).grown HG'.out (by simp; omega) (fun g hg => (HO.out.lt g hg).1), ?_⟩
        unfold OwnI
        rw [List.take_succ_eq_append_getElem hlt, List.map_append, List.length_append, HLN.out, List.map_append]
        simpa [List.map_take] using HO'.out
    · have hltz : ¬ (k : Int) < (l.length : Int) := by omega
      go_wp2
      go_ret
      refine ⟨_, rfl, ?_, A.out.1⟩
      have := A.out.2
      rwa [List.take_of_length_le (by omega)] at this
end Go.Proofs.Ytglbfmcbojjglaa

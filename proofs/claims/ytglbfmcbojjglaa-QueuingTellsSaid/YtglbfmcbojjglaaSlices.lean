/-
  Contracts of slices.Clone, slices.IndexFunc and slices.ContainsFunc at waiting lists and at bytes. Conditions: the slice can be read and has at most a million elements.
-/
import Derived.Test.YtglbfmcbojjglaaBase
namespace Go.Proofs.Ytglbfmcbojjglaa
open Go.RowKit

theorem info_W : (Try.prog.info? 56).map (fun i => (i.zero, i.size, i.bytes)) = some (some (.agg #[.int .i64 0, .int .i64 0, .int .u8 0]), 3, 24) := by kernel_rfl
theorem info_B : (Try.prog.info? 5).map (fun i => (i.zero, i.size, i.bytes)) = some (some (.int .u8 0), 1, 1) := by kernel_rfl

theorem addr_add (b off j : Nat) : (⟨b, off, none⟩ : Addr).add j = ⟨b, off + j, none⟩ := by
  unfold Addr.add
  split
  · simp_all
  · rfl

set_option maxHeartbeats 400000 in
theorem cloneW_c (v : Value) (l : List Wt) (w : World) (h : RdW w 0 v l) (hl : l.length ≤ 1000000) :
    Calls Try.prog 98 #[v] w fun e w' => ∃ v', e = .returned v' ∧ w'.ownsRow w.heap.size 56 3 v' l.length (cellsW l) ∧ Below w.heap.size w w' := by
  obtain ⟨ao, cap, rfl, hnc, hno, hxs, hp⟩ := h
  obtain ⟨i0, hi, hz0, hz1, hz2⟩ := info_parts info_W
  have q : ∀ (w : World) (a : Option Addr) (n c n' c' : Nat), (binOp .eql 25 (.slice a n c) (.slice none n' c')).run Try.prog w = .ok (.bool a.isNone) w := fun w a n c n' c' => Lib.run_eql_slice_nil w _ _ a n c n' c' Try.underlying25
  have hxs' := Lib.hid hxs
  clear hxs
  cases ao with
  | none =>
    have h0 : l = [] := List.eq_nil_of_length_eq_zero (by have := hno rfl; omega)
    subst h0
    clear hp hno
    go_enter Try.func98, Try.ntmps98
    go_wp2
    go_ret
    exact ⟨_, rfl, World.ownsRow_nil _ _ _ _, Below.refl _ _⟩
  | some ad =>
    have A : Aside (∀ j u, (cellsW l)[j]? = some u → w.cell? (ad.add j) = some u) := by
      intro j u hu
      have hlt := (List.getElem?_eq_some_iff.1 hu).1
      obtain ⟨b, off, ha, _, _, hc⟩ := hp (by rw [cellsW_length] at hlt; omega)
      cases ha
      rw [addr_add]
      exact hc j u hu
    clear hp hno
    go_enter Try.func98, Try.ntmps98
    go_wp2_with (at_builtin; refine wpList_append_own _ rfl _ _ 25 rfl w.heap.size 56 i0 (.agg #[.int .i64 0, .int .i64 0, .int .u8 0]) 3 24 Try.underlying25 hi hz0 hz1 hz2 rfl (by decide) _ _ _ rfl (World.ownsRow_made w #[] 0 (Nat.le_refl _) (Nat.zero_le _) (by simp)) ad l.length cap (cellsW l) rfl ?qc1 ?qc2 ?qc3 ?qc4 ?qc5 ?qc6 ?_)
    case qc1 => exact hxs'.out
    case qc2 =>
      intro j u hj
      exact (World.cell?_alloc_lt _ _ _ (World.block_lt_of_cell? _ _ (A.out j u hj))).trans (A.out j u hj)
    case qc3 => exact oneW l
    case qc4 => unfold maxLen; omega
    case qc5 => omega
    case qc6 => simp
    intro v' w1 hown hgrow hnil
    go_wp2
    go_ret
    exact ⟨v', rfl, by simpa using hown, ((Below.refl _ w).alloc (Nat.le_refl _) _).grown hgrow (by simp) (by intro k hk; simp [Value.ownBlock] at hk; omega)⟩

theorem enters_c {P : Program} {f : FuncId} {fn : Func} {c : Code} (hf : P.funcs[f]? = some fn) (hname : (fn.name == "runtime.NumGoroutine") = false) (hb : fn.body = some c) : ∀ args w, (callFunc f args).run P w = .ok (.enter f args) w := by
  intro args w
  have h1 : fn.name ≠ "runtime.NumGoroutine" := by simpa using hname
  simp [callFunc, hf, h1, hb, mark]

/-- A predicate on waiters: a closure that lays at most new blocks. -/
def PredW (g : Nat) (lb : Array Value) (p : Wt → Bool) (w : World) : Prop :=
  ∀ (W : World) (x : Wt), Below w.heap.size w W → Calls Try.prog g (#[.agg #[.int .i64 x.proc, .int .i64 x.prio, .int .u8 x.val]] ++ lb) W fun e w' => e = .returned (.bool (p x)) ∧ Below w.heap.size w w'

/-- The first place at which p holds, or -1. -/
def firstAt {α : Type} (p : α → Bool) (l : List α) : Int := if l.findIdx p < l.length then (l.findIdx p : Int) else -1

theorem firstAt_hit {α : Type} (p : α → Bool) (l : List α) (k : Nat) (hk : k < l.length) (h : p l[k] = true) (hb : ∀ j (_ : j < k) (hjl : j < l.length), p l[j] = false) : firstAt p l = k := by
  have : l.findIdx p = k := (List.findIdx_eq hk).2 ⟨h, fun j hj => by simpa using hb j hj (by omega)⟩
  simp [firstAt, this, hk]
theorem firstAt_miss {α : Type} (p : α → Bool) (l : List α) (hb : ∀ j (hj : j < l.length), p l[j] = false) : firstAt p l = -1 := by
  have : l.findIdx p = l.length := by
    rw [List.findIdx_eq_length]
    intro x hx
    obtain ⟨j, hj, rfl⟩ := List.getElem_of_mem hx
    exact hb j hj
  simp [firstAt, this]
theorem firstAt_any {α : Type} (p : α → Bool) (l : List α) : decide (0 ≤ firstAt p l) = l.any p := by
  unfold firstAt
  by_cases h : l.findIdx p < l.length
  · have := List.findIdx_lt_length.1 h
    simp only [h, if_true]
    rw [decide_eq_true (by omega), eq_comm, List.any_eq_true]
    exact this
  · simp only [h, if_false]
    rw [decide_eq_false (by omega), eq_comm, List.any_eq_false]
    intro x hx hpx
    exact h (List.findIdx_lt_length.2 ⟨x, hx, hpx⟩)

set_option maxHeartbeats 400000 in
theorem indexW_c (v : Value) (l : List Wt) (g : Nat) (lb : Array Value) (p : Wt → Bool) (eg : ∀ args w, (callFunc g args).run Try.prog w = .ok (.enter g args) w) (w : World) (h : RdW w 0 v l) (hl : l.length ≤ 1000000) (hp : PredW g lb p w) :
    Calls Try.prog 95 #[v, .func (.func g) #[] lb] w fun e w' => e = .returned (.int .i64 (firstAt p l)) ∧ Below w.heap.size w w' := by
  obtain ⟨ao, ca, rfl, hca, hna, pa⟩ := h.open_
  clear h
  have HP := Lib.hid hp
  clear hp
  go_enter Try.func95, Try.ntmps95
  go_wp2
  go_loopg [5, 8] l.length (fun gg _ s8 wr => ∃ k : Nat, k ≤ l.length ∧ l.length - k ≤ gg ∧ s8 = .int .i64 k ∧ Aside (Below w.heap.size w wr) ∧ Aside (∀ j (hj : j < k) (hjl : j < l.length), p l[j] = false))
  case atStart => exact ⟨0, Nat.zero_le _, by omega, rfl, Below.refl _ w, fun j hj => absurd hj (Nat.not_lt_zero _)⟩
  case round =>
    obtain ⟨k, hk, hg, rfl, BW, A⟩ := hrel
    by_cases hlt : k < l.length
    · have hltz : (k : Int) < (l.length : Int) := by omega
      obtain ⟨b, off, rfl, _, hbs, ca⟩ := pa (by omega)
      obtain ⟨c0, c1, c2⟩ := ca k hlt
      rw [← BW.out.cell (p := ⟨b, _, none⟩) hbs] at c0 c1 c2
      clear pa ca
      have hcall := HP.out wr l[k] BW.out
      cases hq : p l[k] with
      | true =>
        rw [hq] at hcall
        have HC := Lib.hid hcall
        have HQ := Lib.hid hq
        clear hcall hq
        go_wp2_with (refine HC.out.mono ?_; rintro e w' ⟨rfl, hb'⟩)
        go_ret
        exact ⟨ret_int (firstAt_hit p l k hlt HQ.out A.out).symm, hb'⟩
      | false =>
        rw [hq] at hcall
        have HC := Lib.hid hcall
        have HQ := Lib.hid hq
        clear hcall hq
        go_wp2_with (refine HC.out.mono ?_; rintro e w' ⟨rfl, hb'⟩)
        go_roundg (l.length - (k + 1))
        case measure => omega
        case rel =>
          refine ⟨k + 1, by omega, by omega, by go_num, hb', fun j hj hjl => ?_⟩
          by_cases e : j = k
          · subst e; exact HQ.out
          · exact A.out j (by omega) hjl
    · have hltz : ¬ (k : Int) < (l.length : Int) := by omega
      go_wp2
      go_ret
      exact ⟨ret_int (firstAt_miss p l (fun j hj => A.out j (by omega) hj)).symm, BW.out⟩

set_option maxHeartbeats 400000 in
theorem containsW_c (v : Value) (l : List Wt) (g : Nat) (lb : Array Value) (p : Wt → Bool) (eg : ∀ args w, (callFunc g args).run Try.prog w = .ok (.enter g args) w) (w : World) (h : RdW w 0 v l) (hl : l.length ≤ 1000000) (hp : PredW g lb p w) :
    Calls Try.prog 119 #[v, .func (.func g) #[] lb] w fun e w' => e = .returned (.bool (l.any p)) ∧ Below w.heap.size w w' := by
  have HC := Lib.hid (indexW_c v l g lb p eg w h hl hp)
  rw [← firstAt_any]
  generalize firstAt p l = q at HC ⊢
  clear h hp eg
  go_enter Try.func119, Try.ntmps119
  go_wp2_with (go_at_call 95; refine HC.out.mono ?_; rintro e w' ⟨rfl, hb'⟩)
  go_ret
  exact ⟨rfl, hb'⟩
end Go.Proofs.Ytglbfmcbojjglaa

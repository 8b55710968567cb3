/-
  The contracts of slices.IndexFunc and slices.ContainsFunc at messages, of the closures of view.valid, and of State.waits. Conditions: what is read can be read; at most a hundred thousand elements.
-/
import Derived.Test.YtglbfmcbojjglaaQueB
namespace Go.Proofs.Ytglbfmcbojjglaa
open Go.RowKit

/-- A predicate on messages: a closure that lays at most new blocks. -/
def PredQ (g : Nat) (lb : Array Value) (p : List Int → Bool) (w : World) : Prop :=
  ∀ (W : World) (u : Value) (x : List Int), Below w.heap.size w W → RdI .u8 W 0 u x → Calls Try.prog g (#[u] ++ lb) W fun e w' => e = .returned (.bool (p x)) ∧ Below w.heap.size w w'

set_option maxHeartbeats 400000 in
theorem indexQ_c (v : Value) (l : List (List Int)) (g : Nat) (lb : Array Value) (p : List Int → Bool) (eg : ∀ args w, (callFunc g args).run Try.prog w = .ok (.enter g args) w) (w : World) (h : RdQ w 0 v l) (hl : l.length ≤ 1000000) (hp : PredQ g lb p w) :
    Calls Try.prog 134 #[v, .func (.func g) #[] lb] w fun e w' => e = .returned (.int .i64 (firstAt p l)) ∧ Below w.heap.size w w' := by
  obtain ⟨vs, ⟨ao, ca, rfl, hca, hna, hvl, pa⟩, hin⟩ := h
  have HP := Lib.hid hp
  have HPA := Lib.hid pa
  have HIN := Lib.hid hin
  have HVL := Lib.hid hvl
  clear hp pa hin hvl
  go_enter Try.func134, Try.ntmps134
  go_wp2
  go_loopg [5, 8] l.length (fun gg _ s8 wr => ∃ k : Nat, k ≤ l.length ∧ l.length - k ≤ gg ∧ s8 = .int .i64 k ∧ Aside (Below w.heap.size w wr) ∧ Aside (∀ j (hj : j < k) (hjl : j < l.length), p l[j] = false))
  case atStart => exact ⟨0, Nat.zero_le _, by omega, rfl, Below.refl _ w, fun j hj => absurd hj (Nat.not_lt_zero _)⟩
  case round =>
    obtain ⟨k, hk, hg, rfl, BW, A⟩ := hrel
    by_cases hlt : k < l.length
    · have hltz : (k : Int) < (l.length : Int) := by omega
      obtain ⟨b, off, rfl, _, hbs, ca⟩ := HPA.out (by omega)
      have hkv : k < vs.length := by have := HVL.out; omega
      have hu : vs[k]? = some vs[k] := List.getElem?_eq_getElem hkv
      have hqk : l[k]? = some l[k] := List.getElem?_eq_getElem hlt
      have c0 := ca k _ hu
      have R := (HIN.out k _ _ hu hqk).below BW.out
      rw [← BW.out.cell (p := ⟨b, _, none⟩) hbs] at c0
      obtain ⟨au, mu, hsu, _, _, _⟩ := R.open_
      rw [hsu] at c0 R
      have hcall := HP.out wr _ l[k] BW.out R
      generalize hql : l[k].length = nq at c0 hcall
      clear hql
      clear ca hu hqk hsu R
      cases hq : p l[k] with
      | true =>
        rw [hq] at hcall
        have HC := Lib.hid hcall
        have HQ := Lib.hid hq
        clear hcall hq
        go_wp2_with (refine HC.out.mono ?_; rintro e w' ⟨rfl, hb'⟩)
        go_ret
        exact ⟨ret_int (firstAt_hit p l k hlt HQ.out A.out).symm, hb'⟩
      | false =>
        rw [hq] at hcall
        have HC := Lib.hid hcall
        have HQ := Lib.hid hq
        clear hcall hq
        go_wp2_with (refine HC.out.mono ?_; rintro e w' ⟨rfl, hb'⟩)
        go_roundg (l.length - (k + 1))
        case measure => omega
        case rel =>
          refine ⟨k + 1, by omega, by omega, by go_num, hb', fun j hj hjl => ?_⟩
          by_cases e : j = k
          · subst e; exact HQ.out
          · exact A.out j (by omega) hjl
    · have hltz : ¬ (k : Int) < (l.length : Int) := by omega
      go_wp2
      go_ret
      exact ⟨ret_int (firstAt_miss p l (fun j hj => A.out j (by omega) hj)).symm, BW.out⟩

set_option maxHeartbeats 400000 in
theorem containsQ_c (v : Value) (l : List (List Int)) (g : Nat) (lb : Array Value) (p : List Int → Bool) (eg : ∀ args w, (callFunc g args).run Try.prog w = .ok (.enter g args) w) (w : World) (h : RdQ w 0 v l) (hl : l.length ≤ 1000000) (hp : PredQ g lb p w) :
    Calls Try.prog 122 #[v, .func (.func g) #[] lb] w fun e w' => e = .returned (.bool (l.any p)) ∧ Below w.heap.size w w' := by
  have HC := Lib.hid (indexQ_c v l g lb p eg w h hl hp)
  rw [← firstAt_any]
  generalize firstAt p l = q at HC ⊢
  clear h hp eg
  go_enter Try.func122, Try.ntmps122
  go_wp2_with (go_at_call 134; refine HC.out.mono ?_; rintro e w' ⟨rfl, hb'⟩)
  go_ret
  exact ⟨rfl, hb'⟩

/-- A message of a length that the port does not take. -/
def badM (s : Int) (x : List Int) : Bool := decide ((x.length : Int) < 1) || decide (s < (x.length : Int))

set_option maxHeartbeats 400000 in
theorem vw1_c (u : Value) (x : List Int) (g : Nat) (s : Int) (w W : World) (hc : w.cell? ⟨g, 3, none⟩ = some (.int .i64 s)) (hg : g < w.heap.size) (hb : Below w.heap.size w W) (hu : RdI .u8 W 0 u x) :
    Calls Try.prog 121 #[u, .pointer (some ⟨g, 0, none⟩)] W fun e w' => e = .returned (.bool (badM s x)) ∧ Below w.heap.size w w' := by
  have hc' : W.cell? ⟨g, 3, none⟩ = some (.int .i64 s) := (hb.cell (p := ⟨g, 3, none⟩) hg).trans hc
  have hgW : g < W.heap.size := Nat.lt_of_lt_of_le hg hb.size
  obtain ⟨au, mu, rfl, _, _, _⟩ := hu.open_
  have HB := Lib.hid hb
  clear hb hc hu
  unfold badM
  generalize x.length = m
  by_cases h1 : (m : Int) < 1
  · rw [decide_eq_true h1]
    go_enter Try.func121, Try.ntmps121
    go_wp2
    go_ret
    exact ⟨rfl, HB.out⟩
  · rw [decide_eq_false h1, Bool.false_or]
    go_enter Try.func121, Try.ntmps121
    go_wp2
    go_ret
    exact ⟨ret_bool (by first | rfl | simp), HB.out⟩

set_option maxHeartbeats 400000 in
theorem vw2_c (x : Wt) (w W : World) (hb : Below w.heap.size w W) :
    Calls Try.prog 123 #[.agg #[.int .i64 x.proc, .int .i64 x.prio, .int .u8 x.val]] W fun e w' => e = .returned (.bool (x.val != 0)) ∧ Below w.heap.size w w' := by
  have HB := Lib.hid hb
  clear hb
  go_enter Try.func123, Try.ntmps123
  go_wp2
  go_ret
  exact ⟨rfl, HB.out.alloc HB.out.size _⟩

set_option maxHeartbeats 400000 in
theorem waits1_c (x : Wt) (g : Nat) (q : Int) (w W : World) (hc : w.cell? ⟨g, 0, none⟩ = some (.int .i64 q)) (hg : g < w.heap.size) (hb : Below w.heap.size w W) :
    Calls Try.prog 120 #[.agg #[.int .i64 x.proc, .int .i64 x.prio, .int .u8 x.val], .pointer (some ⟨g, 0, none⟩)] W fun e w' => e = .returned (.bool (decide (x.proc = q))) ∧ Below w.heap.size w w' := by
  have hc' : W.cell? ⟨g, 0, none⟩ = some (.int .i64 q) := (hb.cell (p := ⟨g, 0, none⟩) hg).trans hc
  have hgW : g < W.heap.size := Nat.lt_of_lt_of_le hg hb.size
  have HB := Lib.hid hb
  clear hb hc
  go_enter Try.func120, Try.ntmps120
  go_wp2
  go_ret
  exact ⟨ret_bool (by by_cases h : x.proc = q <;> simp [h]), HB.out.alloc HB.out.size _⟩

set_option maxHeartbeats 1000000 in
theorem waits_c (aq : Option Addr) (mq cq : Nat) (vw : Value) (l : List Wt) (n q : Int) (w : World) (h : RdW w 0 vw l) (hl : l.length ≤ 100000) :
    Calls Try.prog 92 #[.agg #[.slice aq mq cq, vw, .int .i64 n], .int .i64 q] w fun e w' => e = .returned (.bool (l.any fun x => decide (x.proc = q))) ∧ Below w.heap.size w w' := by
  obtain ⟨aw, cw, rfl, hnc, hno, _⟩ := h.open_
  generalize hmw : l.length = mw at h ⊢ hnc
  obtain ⟨W0, hW0⟩ : ∃ W0, W0 = ((w.alloc (.cells #[.slice aq mq cq, .slice aw mw cw, .int .i64 n] 27)).alloc (.cells #[.int .i64 q] 3)) := ⟨_, rfl⟩
  have hz : W0.heap.size = w.heap.size + 2 := by subst hW0; simp
  have hW0b : W0.heap[w.heap.size + 1]? = some (.cells #[.int .i64 q] 3 (0, 0)) := by
    subst hW0
    have := heap_alloc_new (w.alloc (.cells #[.slice aq mq cq, .slice aw mw cw, .int .i64 n] 27)) (.cells #[.int .i64 q] 3)
    simpa using this
  have hb0 : Below w.heap.size w W0 := by subst hW0; exact ((Below.refl _ _).alloc (Nat.le_refl _) _).alloc (by simp) _
  have hW0c : W0.cell? ⟨w.heap.size + 1, 0, none⟩ = some (.int .i64 q) := by rw [cell_of_row W0 _ _ _ _ _ hW0b]; rfl
  have HA := Lib.hid (containsW_c _ l _ #[.pointer (some ⟨w.heap.size + 1, 0, none⟩)] _ (enters_c Try.func120 (by kernel_rfl) rfl) W0 (h.below hb0) (by omega) (fun W x hW => waits1_c x (w.heap.size + 1) q W0 W hW0c (by omega) hW))
  have HB0 := Lib.hid hb0
  have HW0 := Lib.hid hW0
  have hsz : w.heap.size ≤ W0.heap.size := by omega
  clear hb0 hW0 hz hW0b hW0c h hmw
  generalize (l.any fun x => decide (x.proc = q)) = r at HA ⊢
  go_enter Try.func92, Try.ntmps92
  go_wp2_with fail
  rw [← HW0.out]
  refine HA.out.mono ?_
  rintro e w1 ⟨rfl, hb1⟩
  have HB1 := Lib.hid (HB0.out.trans (hb1.mono hsz))
  clear hb1 HA HW0 HB0
  go_wp2_with fail
  go_ret
  exact ⟨rfl, HB1.out⟩
end Go.Proofs.Ytglbfmcbojjglaa

/-
  Package board: the contracts of blackboards. Conditions: the list can be read, its processes are of type int, at most ninety thousand elements.
-/
import Derived.Test.YtglbfmcbojjglaaBuA
import Derived.Test.YtglbfmcbojjglaaSemaE
import Derived.Test.YtglbfmcbojjglaaQueE
import Derived.RegionTactic
namespace Go.Proofs.Ytglbfmcbojjglaa
open Go.RowKit

/-- P24.1 -/
def vldBd (h : Bool) (x : Int) (l : List Wt) : Bool := decide (OrdW l) && !l.any (fun y => y.val != 0) && ((h && l.length == 0) || (!h && x == 0))
/-- P24.4 -/
def showBd (h : Bool) (x : Int) (l : List Wt) (v : Int) : Bool × Int × List Wt × List Int × Int := if vldBd h x l = false then (h, x, l, [], 2) else (true, v, [], l.map (·.proc), 0)
def lookBd (h : Bool) (x : Int) (l : List Wt) (p r : Int) : List Wt × Int × Bool × Int :=
  if vldBd h x l = false ∨ mayL l p = false then (l, 0, false, 2) else if h = true then (l, x, true, 0) else (enterW l ⟨p, r, 0⟩, 0, false, 0)
def clearBd (h : Bool) (x : Int) (l : List Wt) : Bool × Int × Int := if vldBd h x l = false then (h, x, 2) else (false, 0, 0)
/-- P24.5 -/
def cancBd (h : Bool) (x : Int) (l : List Wt) (p : Int) : List Wt × Int := if vldBd h x l = false then (l, 2) else (leaveW l p, 0)

/-- The results: a blackboard, and one to three values more. -/
def RBd1 (w : World) (h : Bool) (x : Int) (l : List Wt) (y : Value) (e : Ending) (w' : World) : Prop := ∃ v, e = .returned (.tuple #[.agg #[.bool h, .int .u8 x, v], y]) ∧ TyW w' w.heap.size v l ∧ Below w.heap.size w w'
def RBd3 (w : World) (h : Bool) (x : Int) (l : List Wt) (y1 y2 y3 : Value) (e : Ending) (w' : World) : Prop := ∃ v, e = .returned (.tuple #[.agg #[.bool h, .int .u8 x, v], y1, y2, y3]) ∧ TyW w' w.heap.size v l ∧ Below w.heap.size w w'
def RBdI (w : World) (h : Bool) (x : Int) (l : List Wt) (m : List Int) (y : Value) (e : Ending) (w' : World) : Prop := ∃ v u, e = .returned (.tuple #[.agg #[.bool h, .int .u8 x, v], u, y]) ∧ TyW w' w.heap.size v l ∧ OwnI w' w.heap.size u m ∧ Below w.heap.size w w'
def RBd0 (w : World) (h : Bool) (x : Int) (l : List Wt) (e : Ending) (w' : World) : Prop := ∃ v, e = .returned (.agg #[.bool h, .int .u8 x, v]) ∧ TyW w' w.heap.size v l ∧ Below w.heap.size w w'

theorem allocBd2 (w : World) (o o' : Obj) : ((w.alloc o).alloc o').heap[w.heap.size + 1]? = some o' := by
  have := heap_alloc_new (w.alloc o) o'
  simpa using this

set_option maxHeartbeats 2000000 in
set_option maxRecDepth 100000 in
theorem validBd_c (h : Bool) (x : Int) (v : Value) (l : List Wt) (w : World) (hr : RdW w 0 v l) (hwf : WfW l) (hl : l.length ≤ 100000) :
    Calls Try.prog 88 #[.agg #[.bool h, .int .u8 x, v]] w fun e w' => e = .returned (.bool (vldBd h x l)) ∧ Below w.heap.size w w' := by
  obtain ⟨ao, ca, rfl, _, _, _⟩ := hr.open_
  obtain ⟨W1, hW1⟩ : ∃ W1, W1 = (w.alloc (.cells #[.bool h, .int .u8 x, .slice ao l.length ca] 131)).alloc (.cells #[.slice ao l.length ca] 25) := ⟨_, rfl⟩
  have B1 : Hid (Below w.heap.size w W1) := by subst hW1; exact ((Below.refl _ w).alloc (Nat.le_refl _) _).alloc (by simp) _
  have BK : Hid (W1.heap[w.heap.size]? = some (.cells #[.bool h, .int .u8 x, .slice ao l.length ca] 131 (0, 0))) := by subst hW1; exact (Below.heap_alloc _ _ _ (by simp)).trans (heap_alloc_new w _)
  have HL : Hid (Calls Try.prog 115 #[.slice (some ⟨w.heap.size + 1, 0, none⟩) 1 1] W1 fun e w' => e = .returned (.bool (decide (OrdW l))) ∧ Below W1.heap.size W1 w') := by
    have hc := lists_c (.slice (some ⟨w.heap.size + 1, 0, none⟩) 1 1) [l] W1 (by subst hW1; exact RdL.one (by simp) (hr.alloc _)) (by simp) (fun y hy => by rw [List.mem_singleton] at hy; subst hy; exact ⟨hwf, hl⟩)
    rw [show (!([l].any (fun y => !decide (OrdW y)))) = decide (OrdW l) from by simp] at hc
    exact hc
  have HBR : Hid (∀ W, Below w.heap.size w W → Calls Try.prog 116 #[.slice ao l.length ca] W fun e w' => e = .returned (.bool (!l.any (fun y => y.val != 0))) ∧ Below W.heap.size W w') := fun W hb => bare_c _ l W (hr.below hb) (by omega)
  have HW1 := Lib.hid hW1
  clear hr hwf hW1
  cases hod : decide (OrdW l) with
  | false =>
    rw [hod] at HL
    rw [show vldBd h x l = false by simp [vldBd, hod]]
    clear hod HBR
    go_enter Try.func88, Try.ntmps88
    go_wp2_with fail
    rw [← HW1.out]
    refine HL.out.mono ?_
    rintro e w2 ⟨rfl, b2⟩
    have B2 := Lib.hid (B1.out.trans (b2.mono B1.out.size))
    clear b2 HL
    go_wp2_with fail
    go_ret
    exact ⟨rfl, B2.out⟩
  | true =>
    rw [hod] at HL
    cases hbr : l.any (fun y => y.val != 0) with
    | true =>
      rw [hbr] at HBR
      rw [show vldBd h x l = false by simp [vldBd, hod, hbr]]
      clear hod hbr
      go_enter Try.func88, Try.ntmps88
      go_wp2_with fail
      rw [← HW1.out]
      refine HL.out.mono ?_
      rintro e w2 ⟨rfl, b2⟩
      have B2 := Lib.hid (B1.out.trans (b2.mono B1.out.size))
      obtain ⟨x0, x1, x2, _, _, _⟩ := threeBlk ((b2.block _ (blk_lt BK.out)).trans BK.out)
      have hx := blk_lt ((b2.block _ (blk_lt BK.out)).trans BK.out)
      clear b2 HL
      go_wp2_with fail
      refine (HBR.out _ B2.out).mono ?_
      rintro e w3 ⟨rfl, b3⟩
      have B3 := Lib.hid (B2.out.trans (b3.mono B2.out.size))
      clear b3 HBR
      go_wp2_with fail
      go_ret
      exact ⟨rfl, B3.out⟩
    | false =>
      rw [hbr] at HBR
      have HV : Hid (vldBd h x l = ((h && l.length == 0) || (!h && x == 0))) := by show _ = _; simp [vldBd, hod, hbr]
      rw [HV.out]
      clear hod hbr HV
      cases h with
      | true =>
        by_cases h0 : l.length = 0
        · have q0 : (l.length == 0) = true := by simp [h0]
          have q1 : ((l.length : Int) == 0) = true := by simp [h0]
          rw [q0]
          clear h0
          go_enter Try.func88, Try.ntmps88
          go_wp2_with fail
          rw [← HW1.out]
          refine HL.out.mono ?_
          rintro e w2 ⟨rfl, b2⟩
          have B2 := Lib.hid (B1.out.trans (b2.mono B1.out.size))
          have BK2 := Lib.hid ((b2.block _ (blk_lt BK.out)).trans BK.out)
          obtain ⟨x0, x1, x2, _, _, _⟩ := threeBlk BK2.out
          have hx := blk_lt BK2.out
          clear b2 HL
          go_wp2_with fail
          refine (HBR.out _ B2.out).mono ?_
          rintro e w3 ⟨rfl, b3⟩
          have B3 := Lib.hid (B2.out.trans (b3.mono B2.out.size))
          clear x0 x1 x2 hx
          obtain ⟨x0, x1, x2, _, _, _⟩ := threeBlk ((b3.block _ (blk_lt BK2.out)).trans BK2.out)
          have hx := blk_lt ((b3.block _ (blk_lt BK2.out)).trans BK2.out)
          clear b3 HBR
          go_wp2_with fail
          go_ret
          exact ⟨ret_bool (by first | rfl | simp), B3.out⟩
        · have q0 : (l.length == 0) = false := by simp [h0]
          have q1 : ((l.length : Int) == 0) = false := by simp [h0]
          rw [q0]
          clear h0
          go_enter Try.func88, Try.ntmps88
          go_wp2_with fail
          rw [← HW1.out]
          refine HL.out.mono ?_
          rintro e w2 ⟨rfl, b2⟩
          have B2 := Lib.hid (B1.out.trans (b2.mono B1.out.size))
          have BK2 := Lib.hid ((b2.block _ (blk_lt BK.out)).trans BK.out)
          obtain ⟨x0, x1, x2, _, _, _⟩ := threeBlk BK2.out
          have hx := blk_lt BK2.out
          clear b2 HL
          go_wp2_with fail
          refine (HBR.out _ B2.out).mono ?_
          rintro e w3 ⟨rfl, b3⟩
          have B3 := Lib.hid (B2.out.trans (b3.mono B2.out.size))
          clear x0 x1 x2 hx
          obtain ⟨x0, x1, x2, _, _, _⟩ := threeBlk ((b3.block _ (blk_lt BK2.out)).trans BK2.out)
          have hx := blk_lt ((b3.block _ (blk_lt BK2.out)).trans BK2.out)
          clear b3 HBR
          go_wp2_with fail
          go_ret
          exact ⟨ret_bool (by first | rfl | simp), B3.out⟩
      | false =>
        go_enter Try.func88, Try.ntmps88
        go_wp2_with fail
        rw [← HW1.out]
        refine HL.out.mono ?_
        rintro e w2 ⟨rfl, b2⟩
        have B2 := Lib.hid (B1.out.trans (b2.mono B1.out.size))
        have BK2 := Lib.hid ((b2.block _ (blk_lt BK.out)).trans BK.out)
        obtain ⟨x0, x1, x2, _, _, _⟩ := threeBlk BK2.out
        have hx := blk_lt BK2.out
        clear b2 HL
        go_wp2_with fail
        refine (HBR.out _ B2.out).mono ?_
        rintro e w3 ⟨rfl, b3⟩
        have B3 := Lib.hid (B2.out.trans (b3.mono B2.out.size))
        clear x0 x1 x2 hx
        obtain ⟨x0, x1, x2, _, _, _⟩ := threeBlk ((b3.block _ (blk_lt BK2.out)).trans BK2.out)
        have hx := blk_lt ((b3.block _ (blk_lt BK2.out)).trans BK2.out)
        clear b3 HBR
        go_wp2_with fail
        go_ret
        exact ⟨ret_bool (by first | rfl | simp), B3.out⟩

set_option maxHeartbeats 2000000 in
theorem ownBd_c (h : Bool) (x : Int) (v : Value) (l : List Wt) (w : World) (hr : RdW w 0 v l) (hl : l.length ≤ 100000) :
    Calls Try.prog 113 #[.agg #[.bool h, .int .u8 x, v]] w (RBd0 w h x l) := by
  obtain ⟨ao, ca, rfl, _, _, _⟩ := hr.open_
  obtain ⟨W1, hW1⟩ : ∃ W1, W1 = (w.alloc (.cells #[.bool h, .int .u8 x, .slice ao l.length ca] 131)).alloc (.cells #[.bool false, .int .u8 0, .slice none 0 0] 131) := ⟨_, rfl⟩
  have B1 : Hid (Below w.heap.size w W1) := by subst hW1; exact ((Below.refl _ w).alloc (Nat.le_refl _) _).alloc (by simp) _
  have BK : Hid (W1.heap[w.heap.size]? = some (.cells #[.bool h, .int .u8 x, .slice ao l.length ca] 131 (0, 0))) := by subst hW1; exact (Below.heap_alloc _ _ _ (by simp)).trans (heap_alloc_new w _)
  have BR : Hid (W1.heap[w.heap.size + 1]? = some (.cells #[.bool false, .int .u8 0, .slice none 0 0] 131 (0, 0))) := by
    subst hW1
    exact allocBd2 w _ _
  have HC := Lib.hid (cloneW_c _ l W1 (hr.below B1.out) (by omega))
  have hz1 : W1.heap.size = w.heap.size + 2 := by subst hW1; simp
  have HZ := Lib.hid hz1
  have HW1 := Lib.hid hW1
  clear hr hW1 hz1
  go_enter Try.func113, Try.ntmps113
  go_wp2_with fail
  rw [← HW1.out]
  refine HC.out.mono ?_
  rintro e w2 ⟨v2, rfl, ho2, b2⟩
  obtain ⟨a2, c2, rfl⟩ := own_slice ho2
  have F2 : Hid (TyW w2 W1.heap.size (.slice a2 l.length c2) l) := Ty.of_own ho2
  have TK := Lib.hid (Tag.of ((b2.block _ (blk_lt BK.out)).trans BK.out))
  have TR := Lib.hid (Tag.of ((b2.block _ (blk_lt BR.out)).trans BR.out))
  have B2 := Lib.hid (B1.out.trans (b2.mono B1.out.size))
  obtain ⟨x0, x1, x2, x3, x4, x5⟩ := threeBlk ((b2.block _ (blk_lt BK.out)).trans BK.out)
  obtain ⟨r0, r1, r2, r3, r4, r5⟩ := threeBlk ((b2.block _ (blk_lt BR.out)).trans BR.out)
  have hr := blk_lt ((b2.block _ (blk_lt BR.out)).trans BR.out)
  have hx : w.heap.size < w2.heap.size := by omega
  clear ho2 b2 HC HW1
  go_wp2_with fail
  refine bodyPost_ret (v := .agg #[.bool h, .int .u8 x, .slice a2 l.length c2]) (by simp [results, Try.results113, go_sem, r0, r1, r2]) rfl ?_
  have hz := HZ.out
  refine ⟨_, rfl, ?_, ?_⟩
  · exact Ty.mono (Ty.set3 (Ty.setT F2.out TK.out (by decide)) TR.out.set (by decide) _ _ _) (by omega)
  · exact (((B2.out.setCell (p := ⟨w.heap.size, 2, none⟩) (by show _ ≤ w.heap.size; omega) _).setCell (p := ⟨w.heap.size + 1, 0, none⟩) (by show _ ≤ w.heap.size + 1; omega) _).setCell (p := ⟨w.heap.size + 1, 1, none⟩) (by show _ ≤ w.heap.size + 1; omega) _).setCell (p := ⟨w.heap.size + 1, 2, none⟩) (by show _ ≤ w.heap.size + 1; omega) _

/-- What an operation on a blackboard keeps while it runs: the argument, the result's variable, the copy in block g. -/
structure BM (w W : World) (h0 : Bool) (x0 : Int) (v0 : Value) (g : Nat) (h : Bool) (x : Int) (v : Value) (l : List Wt) : Prop where
  arg : W.heap[w.heap.size]? = some (.cells #[.bool h0, .int .u8 x0, v0] 131 (0, 0))
  res : W.heap[w.heap.size + 1]? = some (.cells #[.bool false, .int .u8 0, .slice none 0 0] 131 (0, 0))
  ge : w.heap.size + 2 ≤ g
  obj : W.heap[g]? = some (.cells #[.bool h, .int .u8 x, v] 131 (0, 0))
  fr : TyW W (w.heap.size + 2) v l
  bel : Below w.heap.size w W
section
variable {w W W' : World} {h0 h h' : Bool} {x0 x x' : Int} {v0 v v' : Value} {g : Nat} {l l' : List Wt}
theorem BM.next (m : BM w W h0 x0 v0 g h x v l) (hb : Below W.heap.size W W') : BM w W' h0 x0 v0 g h x v l :=
  ⟨(hb.block _ (blk_lt m.arg)).trans m.arg, (hb.block _ (blk_lt m.res)).trans m.res, m.ge, (hb.block _ (blk_lt m.obj)).trans m.obj, Ty.below m.fr hb, m.bel.trans (hb.mono m.bel.size)⟩
theorem BM.drew (m : BM w W h0 x0 v0 g h x v l) : BM w W.drew h0 x0 v0 g h x v l := ⟨m.arg, m.res, m.ge, m.obj, m.fr, m.bel.drew⟩
theorem BM.set {j : Nat} {u : Value} (m : BM w W h0 x0 v0 g h x v l) (ho : (W.setCell ⟨g, j, none⟩ u).heap[g]? = some (.cells #[.bool h', .int .u8 x', v'] 131 (0, 0))) (hf : TyW W (w.heap.size + 2) v' l') : BM w (W.setCell ⟨g, j, none⟩ u) h0 x0 v0 g h' x' v' l' := by
  have hg := m.ge
  exact ⟨(Below.heap_setCell _ _ _ _ (by show w.heap.size ≠ g; omega)).trans m.arg, (Below.heap_setCell _ _ _ _ (by show w.heap.size + 1 ≠ g; omega)).trans m.res, m.ge, ho, Ty.set hf m.obj (by decide), m.bel.setCell (p := ⟨g, j, none⟩) (by show _ ≤ g; omega) u⟩
theorem BM.put0 (m : BM w W h0 x0 v0 g h x v l) (b : Bool) : BM w (W.setCell ⟨g, 0, none⟩ (.bool b)) h0 x0 v0 g b x v l := m.set (set3 m.obj _).1 m.fr
theorem BM.put1 (m : BM w W h0 x0 v0 g h x v l) (y : Int) : BM w (W.setCell ⟨g, 1, none⟩ (.int .u8 y)) h0 x0 v0 g h y v l := m.set (set3 m.obj _).2.1 m.fr
theorem BM.put2 (m : BM w W h0 x0 v0 g h x v l) (hb : Below W.heap.size W W') (ho : W'.ownsRow W.heap.size 56 3 v' l'.length (cellsW l')) : BM w (W'.setCell ⟨g, 2, none⟩ v') h0 x0 v0 g h x v' l' := by
  have hz : w.heap.size + 2 ≤ W.heap.size := by have h1 := m.ge; have h2 := blk_lt m.obj; omega
  exact (m.next hb).set (set3 (m.next hb).obj _).2.2 (Ty.mono (Ty.of_own ho) hz)
theorem BM.last (m : BM w W h0 x0 v0 g h x v l) (a b c : Value) : TyW (((W.setCell ⟨w.heap.size + 1, 0, none⟩ a).setCell ⟨w.heap.size + 1, 1, none⟩ b).setCell ⟨w.heap.size + 1, 2, none⟩ c) w.heap.size v l ∧ Below w.heap.size w (((W.setCell ⟨w.heap.size + 1, 0, none⟩ a).setCell ⟨w.heap.size + 1, 1, none⟩ b).setCell ⟨w.heap.size + 1, 2, none⟩ c) :=
  ⟨Ty.mono (Ty.set3 m.fr (Tag.of m.res) (by decide) _ _ _) (by omega), ((m.bel.setCell (p := ⟨w.heap.size + 1, 0, none⟩) (by simp) _).setCell (p := ⟨w.heap.size + 1, 1, none⟩) (by simp) _).setCell (p := ⟨w.heap.size + 1, 2, none⟩) (by simp) _⟩
theorem BM.new {W0 w1 : World} (hW0 : W0 = (w.alloc (.cells #[.bool h0, .int .u8 x0, v0] 131)).alloc (.cells #[.bool false, .int .u8 0, .slice none 0 0] 131)) (hf : TyW w1 W0.heap.size v l) (hb : Below W0.heap.size W0 w1) : BM w (w1.alloc (.cells #[.bool h, .int .u8 x, v] 131)) h0 x0 v0 w1.heap.size h x v l := by
  have hz : W0.heap.size = w.heap.size + 2 := by subst hW0; simp
  have h1 : W0.heap[w.heap.size]? = some (.cells #[.bool h0, .int .u8 x0, v0] 131 (0, 0)) := by subst hW0; exact (Below.heap_alloc _ _ _ (by simp)).trans (heap_alloc_new w _)
  have h2 : W0.heap[w.heap.size + 1]? = some (.cells #[.bool false, .int .u8 0, .slice none 0 0] 131 (0, 0)) := by subst hW0; exact allocBd2 w _ _
  have h3 : Below w.heap.size w W0 := by subst hW0; exact ((Below.refl _ w).alloc (Nat.le_refl _) _).alloc (by simp) _
  have hs := hb.size
  rw [hz] at hf
  have hbel := h3.trans (hb.mono h3.size)
  exact ⟨(Below.heap_alloc _ _ _ (by omega)).trans ((hb.block _ (by omega)).trans h1), (Below.heap_alloc _ _ _ (by omega)).trans ((hb.block _ (by omega)).trans h2), by omega, heap_alloc_new w1 _, Ty.alloc hf _, hbel.alloc hbel.size _⟩
end

set_option maxHeartbeats 4000000 in
set_option maxRecDepth 100000 in
theorem clearBd_c (h : Bool) (x : Int) (v : Value) (l : List Wt) (w : World) (hr : RdW w 0 v l) (hwf : WfW l) (hl : l.length ≤ 90000) :
    Calls Try.prog 72 #[.agg #[.bool h, .int .u8 x, v]] w (RBd1 w (clearBd h x l).1 (clearBd h x l).2.1 l (.int .i64 (clearBd h x l).2.2)) := by
  obtain ⟨ao, ca, rfl, _, _, _⟩ := hr.open_
  obtain ⟨W0, hW0⟩ : ∃ W0, W0 = (w.alloc (.cells #[.bool h, .int .u8 x, .slice ao l.length ca] 131)).alloc (.cells #[.bool false, .int .u8 0, .slice none 0 0] 131) := ⟨_, rfl⟩
  have B0 : Hid (Below w.heap.size w W0) := by subst hW0; exact ((Below.refl _ w).alloc (Nat.le_refl _) _).alloc (by simp) _
  have BK : Hid (W0.heap[w.heap.size]? = some (.cells #[.bool h, .int .u8 x, .slice ao l.length ca] 131 (0, 0))) := by subst hW0; exact (Below.heap_alloc _ _ _ (by simp)).trans (heap_alloc_new w _)
  have HW0 := Lib.hid hW0
  have HR := Lib.hid hr
  have HWF := Lib.hid hwf
  clear hr hwf hW0
  cases k1 : vldBd h x l with
  | false =>
    rw [show clearBd h x l = (h, x, 2) by simp [clearBd, k1]]
    have K1 := Lib.hid k1
    clear k1
    go_enter Try.func72, Try.ntmps72
    go_wp2_with fail
    rw [← HW0.out]
    refine (ownBd_c h x _ l W0 (HR.out.below B0.out) (by omega)).mono ?_
    rintro e w1 ⟨v1, rfl, fr1, b1⟩
    obtain ⟨a1, c1, rfl⟩ := Ty.shape fr1
    have M1 := Lib.hid (BM.new (h := h) (x := x) HW0.out fr1 b1)
    obtain ⟨p0, p1, p2, p3, p4, p5⟩ := threeBlk ((b1.block _ (blk_lt BK.out)).trans BK.out)
    have hp1 := blk_lt ((b1.block _ (blk_lt BK.out)).trans BK.out)
    clear fr1 b1
    go_wp2_with fail
    obtain ⟨W1, hW1⟩ : ∃ W1, W1 = w1.alloc (.cells #[.bool h, .int .u8 x, .slice a1 l.length c1] 131) := ⟨_, rfl⟩
    rw [← hW1] at M1 ⊢
    clear hW1 p0 p1 p2 p3 p4 p5 HW0
    have hv := validBd_c h x _ l W1 (HR.out.below M1.out.bel) HWF.out (by omega)
    rw [K1.out] at hv
    refine hv.mono ?_
    clear hv
    rintro e w2 ⟨rfl, b2⟩
    have M2 := Lib.hid (M1.out.next b2)
    clear b2 M1
    obtain ⟨p0, p1, p2, p3, p4, p5⟩ := threeBlk M2.out.arg
    obtain ⟨r0, r1, r2, r3, r4, r5⟩ := threeBlk M2.out.res
    obtain ⟨o0, o1, o2, o3, o4, o5⟩ := threeBlk M2.out.obj
    have hos := blk_lt M2.out.obj
    have has := blk_lt M2.out.arg
    have hrs := blk_lt M2.out.res
    have hge := M2.out.ge
    have hn1 : w1.heap.size ≠ w.heap.size + 1 := by omega
    have hn2 : w.heap.size + 1 ≠ w1.heap.size := by omega
    go_wp2_with fail
    refine bodyPost_ret (v := .tuple #[.agg #[.bool h, .int .u8 x, .slice a1 l.length c1], .int .i64 2]) (by simp [results, Try.results72, go_sem, r0, r1, r2]) rfl ?_
    exact ⟨_, rfl, M2.out.last _ _ _⟩
  | true =>
    rw [show clearBd h x l = (false, 0, 0) by simp [clearBd, k1]]
    have K1 := Lib.hid k1
    clear k1
    go_enter Try.func72, Try.ntmps72
    go_wp2_with fail
    rw [← HW0.out]
    refine (ownBd_c h x _ l W0 (HR.out.below B0.out) (by omega)).mono ?_
    rintro e w1 ⟨v1, rfl, fr1, b1⟩
    obtain ⟨a1, c1, rfl⟩ := Ty.shape fr1
    have M1 := Lib.hid (BM.new (h := h) (x := x) HW0.out fr1 b1)
    obtain ⟨p0, p1, p2, p3, p4, p5⟩ := threeBlk ((b1.block _ (blk_lt BK.out)).trans BK.out)
    have hp1 := blk_lt ((b1.block _ (blk_lt BK.out)).trans BK.out)
    clear fr1 b1
    go_wp2_with fail
    obtain ⟨W1, hW1⟩ : ∃ W1, W1 = w1.alloc (.cells #[.bool h, .int .u8 x, .slice a1 l.length c1] 131) := ⟨_, rfl⟩
    rw [← hW1] at M1 ⊢
    clear hW1 p0 p1 p2 p3 p4 p5 HW0
    have hv := validBd_c h x _ l W1 (HR.out.below M1.out.bel) HWF.out (by omega)
    rw [K1.out] at hv
    refine hv.mono ?_
    clear hv
    rintro e w2 ⟨rfl, b2⟩
    have M2 := Lib.hid (M1.out.next b2)
    clear b2 M1
    obtain ⟨p0, p1, p2, p3, p4, p5⟩ := threeBlk M2.out.arg
    obtain ⟨r0, r1, r2, r3, r4, r5⟩ := threeBlk M2.out.res
    obtain ⟨o0, o1, o2, o3, o4, o5⟩ := threeBlk M2.out.obj
    have hos := blk_lt M2.out.obj
    have has := blk_lt M2.out.arg
    have hrs := blk_lt M2.out.res
    have hge := M2.out.ge
    have hn1 : w1.heap.size ≠ w.heap.size + 1 := by omega
    have hn2 : w.heap.size + 1 ≠ w1.heap.size := by omega
    go_wp2_with fail
    refine bodyPost_ret (v := .tuple #[.agg #[.bool false, .int .u8 0, .slice a1 l.length c1], .int .i64 0]) (by simp [results, Try.results72, go_sem, r0, r1, r2]) rfl ?_
    exact ⟨_, rfl, ((M2.out.put0 false).put1 0).last _ _ _⟩

set_option maxHeartbeats 4000000 in
set_option maxRecDepth 100000 in
theorem cancBd_c (h : Bool) (x : Int) (p : Int) (v : Value) (l : List Wt) (w : World) (hr : RdW w 0 v l) (hwf : WfW l) (hl : l.length ≤ 90000) :
    Calls Try.prog 86 #[.agg #[.bool h, .int .u8 x, v], .int .i64 p] w (RBd1 w h x (cancBd h x l p).1 (.int .i64 (cancBd h x l p).2)) := by
  obtain ⟨ao, ca, rfl, _, _, _⟩ := hr.open_
  obtain ⟨W0, hW0⟩ : ∃ W0, W0 = (w.alloc (.cells #[.bool h, .int .u8 x, .slice ao l.length ca] 131)).alloc (.cells #[.bool false, .int .u8 0, .slice none 0 0] 131) := ⟨_, rfl⟩
  have B0 : Hid (Below w.heap.size w W0) := by subst hW0; exact ((Below.refl _ w).alloc (Nat.le_refl _) _).alloc (by simp) _
  have BK : Hid (W0.heap[w.heap.size]? = some (.cells #[.bool h, .int .u8 x, .slice ao l.length ca] 131 (0, 0))) := by subst hW0; exact (Below.heap_alloc _ _ _ (by simp)).trans (heap_alloc_new w _)
  have HW0 := Lib.hid hW0
  have HR := Lib.hid hr
  have HWF := Lib.hid hwf
  clear hr hwf hW0
  cases k1 : vldBd h x l with
  | false =>
    rw [show cancBd h x l p = (l, 2) by simp [cancBd, k1]]
    have K1 := Lib.hid k1
    clear k1
    go_enter Try.func86, Try.ntmps86
    go_wp2_with fail
    rw [← HW0.out]
    refine (ownBd_c h x _ l W0 (HR.out.below B0.out) (by omega)).mono ?_
    rintro e w1 ⟨v1, rfl, fr1, b1⟩
    obtain ⟨a1, c1, rfl⟩ := Ty.shape fr1
    have M1 := Lib.hid (BM.new (h := h) (x := x) HW0.out fr1 b1)
    obtain ⟨p0, p1, p2, p3, p4, p5⟩ := threeBlk ((b1.block _ (blk_lt BK.out)).trans BK.out)
    have hp1 := blk_lt ((b1.block _ (blk_lt BK.out)).trans BK.out)
    clear fr1 b1
    go_wp2_with fail
    obtain ⟨W1, hW1⟩ : ∃ W1, W1 = w1.alloc (.cells #[.bool h, .int .u8 x, .slice a1 l.length c1] 131) := ⟨_, rfl⟩
    rw [← hW1] at M1 ⊢
    clear hW1 p0 p1 p2 p3 p4 p5 HW0
    have hv := validBd_c h x _ l W1 (HR.out.below M1.out.bel) HWF.out (by omega)
    rw [K1.out] at hv
    refine hv.mono ?_
    clear hv
    rintro e w2 ⟨rfl, b2⟩
    have M2 := Lib.hid (M1.out.next b2)
    clear b2 M1
    obtain ⟨p0, p1, p2, p3, p4, p5⟩ := threeBlk M2.out.arg
    obtain ⟨r0, r1, r2, r3, r4, r5⟩ := threeBlk M2.out.res
    obtain ⟨o0, o1, o2, o3, o4, o5⟩ := threeBlk M2.out.obj
    have hos := blk_lt M2.out.obj
    have has := blk_lt M2.out.arg
    have hrs := blk_lt M2.out.res
    have hge := M2.out.ge
    have hn1 : w1.heap.size ≠ w.heap.size + 1 := by omega
    have hn2 : w.heap.size + 1 ≠ w1.heap.size := by omega
    go_wp2_with fail
    refine bodyPost_ret (v := .tuple #[.agg #[.bool h, .int .u8 x, .slice a1 l.length c1], .int .i64 2]) (by simp [results, Try.results86, go_sem, r0, r1, r2]) rfl ?_
    exact ⟨_, rfl, M2.out.last _ _ _⟩
  | true =>
    rw [show cancBd h x l p = (leaveW l p, 0) by simp [cancBd, k1]]
    have K1 := Lib.hid k1
    clear k1
    go_enter Try.func86, Try.ntmps86
    go_wp2_with fail
    rw [← HW0.out]
    refine (ownBd_c h x _ l W0 (HR.out.below B0.out) (by omega)).mono ?_
    rintro e w1 ⟨v1, rfl, fr1, b1⟩
    obtain ⟨a1, c1, rfl⟩ := Ty.shape fr1
    have M1 := Lib.hid (BM.new (h := h) (x := x) HW0.out fr1 b1)
    obtain ⟨p0, p1, p2, p3, p4, p5⟩ := threeBlk ((b1.block _ (blk_lt BK.out)).trans BK.out)
    have hp1 := blk_lt ((b1.block _ (blk_lt BK.out)).trans BK.out)
    clear fr1 b1
    go_wp2_with fail
    obtain ⟨W1, hW1⟩ : ∃ W1, W1 = w1.alloc (.cells #[.bool h, .int .u8 x, .slice a1 l.length c1] 131) := ⟨_, rfl⟩
    rw [← hW1] at M1 ⊢
    clear hW1 p0 p1 p2 p3 p4 p5 HW0
    have hv := validBd_c h x _ l W1 (HR.out.below M1.out.bel) HWF.out (by omega)
    rw [K1.out] at hv
    refine hv.mono ?_
    clear hv
    rintro e w2 ⟨rfl, b2⟩
    have M2 := Lib.hid (M1.out.next b2)
    clear b2 M1
    obtain ⟨p0, p1, p2, p3, p4, p5⟩ := threeBlk M2.out.arg
    obtain ⟨r0, r1, r2, r3, r4, r5⟩ := threeBlk M2.out.res
    obtain ⟨o0, o1, o2, o3, o4, o5⟩ := threeBlk M2.out.obj
    have hos := blk_lt M2.out.obj
    have has := blk_lt M2.out.arg
    have hrs := blk_lt M2.out.res
    have hge := M2.out.ge
    have hn1 : w1.heap.size ≠ w.heap.size + 1 := by omega
    have hn2 : w.heap.size + 1 ≠ w1.heap.size := by omega
    go_wp2_with fail
    refine (leaveW_c _ l p w2 M2.out.fr.rd (by omega)).mono ?_
    rintro e w3 ⟨v3, rfl, ho3, hb3⟩
    obtain ⟨a3, c3, rfl⟩ := own_slice ho3
    have M3 := Lib.hid (M2.out.put2 hb3 ho3)
    clear p0 p1 p2 p3 p4 p5 r0 r1 r2 r3 r4 r5 o0 o1 o2 o3 o4 o5 hos has hrs
    obtain ⟨r0, r1, r2, r3, r4, r5⟩ := threeBlk (M2.out.next hb3).res
    obtain ⟨o0, o1, o2, o3, o4, o5⟩ := threeBlk (M2.out.next hb3).obj
    have hos := blk_lt (M2.out.next hb3).obj
    have hrs := blk_lt (M2.out.next hb3).res
    clear ho3 hb3 M2
    generalize (leaveW l p).length = m3 at M3 ⊢
    go_wp2_with fail
    refine bodyPost_ret (v := .tuple #[.agg #[.bool h, .int .u8 x, .slice a3 m3 c3], .int .i64 0]) (by simp [results, Try.results86, go_sem, r0, r1, r2]) rfl ?_
    exact ⟨_, rfl, M3.out.last _ _ _⟩

end Go.Proofs.Ytglbfmcbojjglaa

/-
  Contracts of sema's may, enter, open and close. Conditions: the list can be read, its processes are of type int, at most a hundred thousand elements.
-/
import Derived.Test.YtglbfmcbojjglaaSemaA
namespace Go.Proofs.Ytglbfmcbojjglaa
open Go.RowKit

set_option maxHeartbeats 1000000 in
theorem may_c (b o : Nat) (v : Value) (l : List Wt) (q : Int) (w : World) (hc : w.cell? ⟨b, o, none⟩ = some v) (h : RdW w 0 v l) (hl : l.length ≤ 100000) :
    Calls Try.prog 102 #[.pointer (some ⟨b, o, none⟩), .int .i64 q] w fun e w' => e = .returned (.bool (mayL l q)) ∧ Below w.heap.size w w' := by
  have hbl : b < w.heap.size := World.block_lt_of_cell? _ _ hc
  obtain ⟨W0, hW0⟩ : ∃ W0, W0 = w.alloc (.cells #[.int .i64 q] 3) := ⟨_, rfl⟩
  have hz : W0.heap.size = w.heap.size + 1 := by subst hW0; simp
  have hW0b : W0.heap[w.heap.size]? = some (.cells #[.int .i64 q] 3 (0, 0)) := by subst hW0; exact heap_alloc_new w _
  have hb0 : Below w.heap.size w W0 := by subst hW0; exact (Below.refl _ _).alloc (Nat.le_refl _) _
  have hW0c : W0.cell? ⟨w.heap.size, 0, none⟩ = some (.int .i64 q) := by rw [cell_of_row W0 _ _ _ _ _ hW0b]; rfl
  have HA := Lib.hid (any_c b o v l _ #[.pointer (some ⟨w.heap.size, 0, none⟩)] _ (enters_c Try.func127 (by kernel_rfl) rfl) W0 ((hb0.cell (p := ⟨b, o, none⟩) hbl).trans hc) (h.below hb0) hl (fun W x hW => may1_c x w.heap.size q W0 W hW0c (by omega) hW))
  have HB0 := Lib.hid hb0
  have HW0 := Lib.hid hW0
  have hsz : w.heap.size ≤ W0.heap.size := by omega
  clear hb0 hW0 hz hW0b hW0c h
  by_cases hq : 0 ≤ q
  · have hm : Hid (mayL l q = !l.any (fun x => decide (x.proc = q))) := by show _ = _; simp [mayL, hq]
    rw [hm.out]
    clear hm
    generalize l.any (fun x => decide (x.proc = q)) = r at HA ⊢
    go_enter Try.func102, Try.ntmps102
    go_wp2_with fail
    rw [← HW0.out]
    refine HA.out.mono ?_
    rintro e w1 ⟨rfl, hb1⟩
    have HB1 := Lib.hid (HB0.out.trans (hb1.mono hsz))
    clear hb1 HA HW0 HB0
    go_wp2_with fail
    go_ret
    exact ⟨rfl, HB1.out⟩
  · have hm : Hid (mayL l q = false) := by show _ = _; simp [mayL, hq]
    rw [hm.out]
    clear hm HA
    go_enter Try.func102, Try.ntmps102
    go_wp2_with fail
    go_ret
    refine ⟨rfl, ?_⟩
    rw [← HW0.out]
    exact HB0.out

def EnterObj (w : World) (b : Nat) (t : TypeId) (c : Value) (l : List Wt) (e : Ending) (w' : World) : Prop :=
  ∃ v', e = .returned (.tuple #[]) ∧ w'.heap[b]? = some (.cells #[v', c] t (0, 0)) ∧ FrW w' w.heap.size v' l ∧ w.grownBy w' (some b)

set_option maxHeartbeats 1000000 in
theorem enterM_c (b : Nat) (t : TypeId) (v c : Value) (l : List Wt) (q r : Int) (w : World) (hc : w.heap[b]? = some (.cells #[v, c] t (0, 0))) (h : RdW w 0 v l) (hl : l.length ≤ 100000) :
    Calls Try.prog 104 #[.pointer (some ⟨b, 0, none⟩), .int .i64 q, .int .i64 r] w (EnterObj w b t c (enterW l ⟨q, r, 0⟩)) := by
  have hbl : b < w.heap.size := (Array.getElem?_eq_some_iff.1 hc).1
  have hcell : w.cell? ⟨b, 0, none⟩ = some v := by rw [cell_of_row w _ _ _ _ _ hc]; rfl
  have HE := Lib.hid (enterW_c v l ⟨q, r, 0⟩ w h hl)
  obtain ⟨ao, cap, rfl, _, _, _, _⟩ := h
  have hfin : Hid (∀ w1 v1, w1.ownsRow w.heap.size 56 3 v1 (enterW l ⟨q, r, 0⟩).length (cellsW (enterW l ⟨q, r, 0⟩)) → Below w.heap.size w w1 → w1.cell? ⟨b, 0, none⟩ = some (.slice ao l.length cap) ∧ w1.frozen? ⟨b, 0, none⟩ = false ∧
      (w1.setCell ⟨b, 0, none⟩ v1).heap[b]? = some (.cells #[v1, c] t (0, 0)) ∧ FrW (w1.setCell ⟨b, 0, none⟩ v1) w.heap.size v1 (enterW l ⟨q, r, 0⟩) ∧ w.grownBy (w1.setCell ⟨b, 0, none⟩ v1) (some b) ∧ ∃ a n cc, v1 = .slice a n cc) := by
    intro w1 v1 ho hb1
    have hc1 := (hb1.block b hbl).trans hc
    have hg1 : w1.grownBy (w1.setCell ⟨b, 0, none⟩ v1) (some b) := ⟨rfl, rfl, rfl, by simp [World.setCell], fun k _ hk => Below.heap_setCell _ _ _ _ (fun e => hk (by rw [e]))⟩
    refine ⟨(hb1.cell (p := ⟨b, 0, none⟩) hbl).trans hcell, by simp [World.frozen?, hc1], ?_, (FrW.of_own ho).far hg1 ?_, ?_, ?_⟩
    · have := heap_setCell_same w1 b 0 _ _ v1 hc1
      simpa using this
    · intro a n cc hv hn
      subst hv
      have := (ho.lt a.block rfl).1
      omega
    · exact ⟨hb1.os, hb1.tape, hb1.output, by simpa [World.setCell] using hb1.size, fun k hk hne => (Below.heap_setCell _ _ _ _ (fun e => hne (by rw [e]))).trans (hb1.block k hk)⟩
    · rcases ho.2 with ⟨rfl, _⟩ | ⟨g, cp, _, rfl, _⟩
      · exact ⟨_, _, _, rfl⟩
      · exact ⟨_, _, _, rfl⟩
  clear hc
  generalize enterW l ⟨q, r, 0⟩ = m at HE hfin ⊢
  go_enter Try.func104, Try.ntmps104
  go_wp2_with fail
  refine HE.out.mono ?_
  rintro e w1 ⟨v1, rfl, ho1, hb1⟩
  obtain ⟨k1, k2, k3, k4, k5, a1, n1, c1, rfl⟩ := hfin.out w1 v1 ho1 hb1
  have HK : Hid (_ ∧ _ ∧ _) := ⟨k3, k4, k5⟩
  clear ho1 hb1 HE hfin k3 k4 k5
  go_wp2_with fail
  go_end0
  exact ⟨_, rfl, HK.out⟩

theorem own_slice {w : World} {base : Nat} {e : TypeId} {size : Nat} {v : Value} {n : Nat} {xs : List Value} (h : w.ownsRow base e size v n xs) : ∃ a c, v = .slice a n c := by
  rcases h.2 with ⟨rfl, h0⟩ | ⟨g, cp, _, rfl, _⟩
  · exact ⟨_, _, by rw [h0]⟩
  · exact ⟨_, _, rfl⟩

/-- What 'open' leaves: an object of two cells, the list and the rest. -/
def OpenEnd (w : World) (t : TypeId) (c : Value) (l : List Wt) (e : Ending) (w' : World) : Prop :=
  ∃ g v1, e = .returned (.pointer (some ⟨g, 0, none⟩)) ∧ w.heap.size ≤ g ∧ w'.heap[g]? = some (.cells #[v1, c] t (0, 0)) ∧ FrW w' w.heap.size v1 l ∧ Below w.heap.size w w' ∧ (∀ a n cc, v1 = .slice (some a) n cc → 0 < n → a.block ≠ g)

theorem open_end {w w2 : World} {o : Obj} {v1 c : Value} {t : TypeId} {l : List Wt} (HO : Hid (w2.ownsRow (w.alloc o).drew.heap.size 56 3 v1 l.length (cellsW l))) (HB : Hid (Below (w.alloc o).drew.heap.size (w.alloc o).drew w2)) :
    OpenEnd w t c l (.returned (.pointer (some ⟨w2.heap.size, 0, none⟩))) (w2.alloc (.cells #[v1, c] t)) := by
  have hs : (w.alloc o).drew.heap.size = w.heap.size + 1 := by simp
  have hb : Below w.heap.size w w2 := ((Below.refl _ w).alloc (Nat.le_refl _) o).drew.trans (HB.out.mono (by omega))
  refine ⟨w2.heap.size, v1, rfl, hb.size, heap_alloc_new w2 _, ((FrW.of_own HO.out).mono (by omega)).alloc _, hb.alloc hb.size _, fun a n cc hv hn => ?_⟩
  subst hv
  exact Nat.ne_of_lt (HO.out.lt a.block rfl).2

set_option maxHeartbeats 1000000 in
theorem openS_c (n : Int) (v : Value) (l : List Wt) (w : World) (h : RdW w 0 v l) (hl : l.length ≤ 100000) :
    Calls Try.prog 101 #[.agg #[.int .i64 n, v]] w (OpenEnd w 192 (.int .i64 n) l) := by
  obtain ⟨ao, cap, rfl, hnc, hno, _⟩ := h.open_
  have HR := Lib.hid (h.alloc (.cells #[.int .i64 n, .slice ao l.length cap] 71)).drew
  clear h
  go_enter Try.func101, Try.ntmps101
  go_wp2_with fail
  go_region_with (go_at_call 98; refine (cloneW_c _ l _ HR.out (by omega)).mono ?_; rintro e w2 ⟨v1, rfl, hown, hb2⟩; obtain ⟨a1, c1, rfl⟩ := own_slice hown; have HO2 := Lib.hid hown; have HB2 := Lib.hid hb2; have e0 : w2.cell? ⟨w.heap.size, 0, none⟩ = some (.int .i64 n) := ((hb2.cell (p := ⟨w.heap.size, 0, none⟩) (by simp)).trans (by go_simp)); clear hown hb2)
  all_goals
    go_wp2
    go_ret
    exact open_end HO2 HB2
set_option maxHeartbeats 1000000 in
theorem openE_c (n : Bool) (v : Value) (l : List Wt) (w : World) (h : RdW w 0 v l) (hl : l.length ≤ 100000) :
    Calls Try.prog 105 #[.agg #[.bool n, v]] w (OpenEnd w 198 (.bool n) l) := by
  obtain ⟨ao, cap, rfl, hnc, hno, _⟩ := h.open_
  have HR := Lib.hid (h.alloc (.cells #[.bool n, .slice ao l.length cap] 73)).drew
  clear h
  go_enter Try.func105, Try.ntmps105
  go_wp2_with fail
  go_region_with (go_at_call 98; refine (cloneW_c _ l _ HR.out (by omega)).mono ?_; rintro e w2 ⟨v1, rfl, hown, hb2⟩; obtain ⟨a1, c1, rfl⟩ := own_slice hown; have HO2 := Lib.hid hown; have HB2 := Lib.hid hb2; have e0 : w2.cell? ⟨w.heap.size, 0, none⟩ = some (.bool n) := ((hb2.cell (p := ⟨w.heap.size, 0, none⟩) (by simp)).trans (by go_simp)); clear hown hb2)
  all_goals
    go_wp2
    go_ret
    exact open_end HO2 HB2

set_option maxHeartbeats 1000000 in
theorem closeS_c (g : Nat) (n : Int) (a : Option Addr) (m c : Nat) (w : World) (hg : w.heap[g]? = some (.cells #[.slice a m c, .int .i64 n] 192 (0, 0))) :
    Calls Try.prog 103 #[.pointer (some ⟨g, 0, none⟩)] w fun e w' => e = .returned (.agg #[.int .i64 n, .slice a m c]) ∧ Below w.heap.size w w' := by
  have hgl : g < w.heap.size := (Array.getElem?_eq_some_iff.1 hg).1
  have c0 : w.cell? ⟨g, 0, none⟩ = some (.slice a m c) := by rw [cell_of_row w _ _ _ _ _ hg]; rfl
  have c1 : w.cell? ⟨g, 1, none⟩ = some (.int .i64 n) := by rw [cell_of_row w _ _ _ _ _ hg]; rfl
  clear hg
  go_enter Try.func103, Try.ntmps103
  go_wp2_with fail
  go_region
  all_goals
    go_wp2
    refine bodyPost_ret (v := .agg #[.int .i64 n, .slice a m c]) (by simp [results, Try.results103, go_sem]) rfl ⟨rfl, ?_⟩
    exact ((Below.refl _ w).alloc (Nat.le_refl _) _).drew

set_option maxHeartbeats 1000000 in
theorem closeE_c (g : Nat) (n : Bool) (a : Option Addr) (m c : Nat) (w : World) (hg : w.heap[g]? = some (.cells #[.slice a m c, .bool n] 198 (0, 0))) :
    Calls Try.prog 106 #[.pointer (some ⟨g, 0, none⟩)] w fun e w' => e = .returned (.agg #[.bool n, .slice a m c]) ∧ Below w.heap.size w w' := by
  have hgl : g < w.heap.size := (Array.getElem?_eq_some_iff.1 hg).1
  have c0 : w.cell? ⟨g, 0, none⟩ = some (.slice a m c) := by rw [cell_of_row w _ _ _ _ _ hg]; rfl
  have c1 : w.cell? ⟨g, 1, none⟩ = some (.bool n) := by rw [cell_of_row w _ _ _ _ _ hg]; rfl
  clear hg
  go_enter Try.func106, Try.ntmps106
  go_wp2_with fail
  go_region
  all_goals
    go_wp2
    refine bodyPost_ret (v := .agg #[.bool n, .slice a m c]) (by simp [results, Try.results106, go_sem]) rfl ⟨rfl, ?_⟩
    exact ((Below.refl _ w).alloc (Nat.le_refl _) _).drew
end Go.Proofs.Ytglbfmcbojjglaa

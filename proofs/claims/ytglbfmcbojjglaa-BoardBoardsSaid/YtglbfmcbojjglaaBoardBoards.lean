/-
  BoardBoards: for every blackboard, process and byte the call returns true, and nothing that was there before has turned. No conditions but that the list can be read and holds numbers of its types.
-/
import Derived.Test.YtglbfmcbojjglaaTell
import Derived.Test.YtglbfmcbojjglaaRef24
import Derived.Test.YtglbfmcbojjglaaBdD
namespace Go.Proofs.Ytglbfmcbojjglaa
open Go.RowKit

/-- A variable that is never written again: its block and the list that it leads to. -/
structure VD (W : World) (g : Nat) (t : TypeId) (a b c : Value) (l : List Wt) : Prop where
  blk : W.heap[g]? = some (.cells #[a, b, c] t (0, 0))
  rd : RdW W 0 c l
section
variable {W W' : World} {g : Nat} {t : TypeId} {a b c : Value} {l : List Wt}
theorem VD.next (h : VD W g t a b c l) (hb : Below W.heap.size W W') : VD W' g t a b c l := ⟨(hb.block _ (blk_lt h.blk)).trans h.blk, h.rd.below hb⟩
theorem VD.alloc (h : VD W g t a b c l) (ob : Obj) : VD (W.alloc ob) g t a b c l := h.next ((Below.refl _ _).alloc (Nat.le_refl _) _)
theorem VD.new (hf : RdW W 0 c l) : VD (W.alloc (.cells #[a, b, c] t)) W.heap.size t a b c l := ⟨heap_alloc_new W _, hf.alloc _⟩
theorem VD.cells (h : VD W g t a b c l) : W.cell? ⟨g, 0, none⟩ = some a ∧ W.cell? ⟨g, 1, none⟩ = some b ∧ W.cell? ⟨g, 2, none⟩ = some c ∧ W.frozen? ⟨g, 0, none⟩ = false ∧ W.frozen? ⟨g, 1, none⟩ = false ∧ W.frozen? ⟨g, 2, none⟩ = false := threeBlk h.blk
end
theorem own_put3 {w : World} {B e s n g : Nat} {t : TypeId} {v a b c : Value} {xs : List Value} (h : w.ownsRow B e s v n xs) (hg : w.heap[g]? = some (.cells #[a, b, c] t (0, 0))) (ht : t ≠ e) (x y z : Value) :
    (((w.setCell ⟨g, 0, none⟩ x).setCell ⟨g, 1, none⟩ y).setCell ⟨g, 2, none⟩ z).ownsRow B e s v n xs ∧ (((w.setCell ⟨g, 0, none⟩ x).setCell ⟨g, 1, none⟩ y).setCell ⟨g, 2, none⟩ z).heap[g]? = some (.cells #[x, y, z] t (0, 0)) := by
  have h1 := heap_setCell_same w g 0 _ _ x hg
  have h2 := heap_setCell_same _ g 1 _ _ y h1
  have h3 := heap_setCell_same _ g 2 _ _ z h2
  simp at h1 h2 h3
  exact ⟨own_oth (own_oth (own_oth h hg ht) h1 ht) h2 ht, h3⟩
theorem showBd_len (h : Bool) (x : Int) (l : List Wt) (y : Int) : (showBd h x l y).2.2.1.length ≤ l.length ∧ (showBd h x l y).2.2.2.1.length ≤ l.length := by
  unfold showBd
  split <;> simp
theorem lookBd_len (h : Bool) (x : Int) (l : List Wt) (p r : Int) : (lookBd h x l p r).1.length ≤ l.length + 1 := by
  unfold lookBd
  split
  · simp
  · split
    · simp
    · simp [enterW_length]
theorem cancBd_len (h : Bool) (x : Int) (l : List Wt) (p : Int) : (cancBd h x l p).1.length ≤ l.length := by
  unfold cancBd
  split
  · simp
  · exact leave_length l p

set_option maxHeartbeats 8000000 in
set_option maxRecDepth 100000 in
theorem boardBoards_c (h : Bool) (x : Int) (v : Value) (l : List Wt) (p r y : Int) (w : World) (hr : RdW w 0 v l) (hwf : WfW l) (hl : l.length ≤ 9223372036854775807) :
    Calls Try.prog 20 #[.agg #[.bool h, .int .u8 x, v], .int .i64 p, .int .i64 r, .int .u8 y] w fun e w' => e = .returned (.bool true) ∧ Below w.heap.size w w' := by
  obtain ⟨ao, ca, rfl, hca, hna, hpa⟩ := hr.open_
  obtain ⟨i0, hi, hz0, hz1, hz2⟩ := info_parts info_W
  have HPA := Lib.hid hpa
  have HWF := Lib.hid hwf
  obtain ⟨W0, hW0⟩ : ∃ W0, W0 = w.alloc (.cells #[.bool h, .int .u8 x, .slice ao l.length ca] 131) := ⟨_, rfl⟩
  have BX : Hid (W0.heap[w.heap.size]? = some (.cells #[.bool h, .int .u8 x, .slice ao l.length ca] 131 (0, 0))) := by subst hW0; exact heap_alloc_new w _
  have HB0 : Hid (Below w.heap.size w W0) := by subst hW0; exact (Below.refl _ w).alloc (Nat.le_refl _) _
  have HR := Lib.hid (hr.below HB0.out)
  have hsz : w.heap.size < W0.heap.size := by subst hW0; simp
  have hpre : ∀ W : World, Below W0.heap.size W0 W → Below w.heap.size w W := fun W hb => HB0.out.trans (hb.mono HB0.out.size)
  have HPRE := Lib.hid hpre
  have HW0 := Lib.hid hW0
  clear hpa hwf hr hW0 hpre hca hna
  go_enter Try.func20, Try.ntmps20
  by_cases h40 : (40 : Int) < (l.length : Int)
  · go_wp2_with fail
    rw [← HW0.out]
    refine (awake24_c _).mono ?_
    rintro e w9 ⟨rfl, b9⟩
    have HB9 := Lib.hid (HPRE.out _ b9)
    clear b9
    go_wp2_with fail
    go_ret
    exact ⟨rfl, HB9.out⟩
  · have hl40 : l.length ≤ 40 := by omega
    go_upto_region 3 with (fail)
    rw [← HW0.out]
    obtain ⟨x0, x1, x2, x3, x4, x5⟩ := threeBlk BX.out
    go_cut [9] (fun s7 wx => ∃ g7, s7 = .pointer (some ⟨g7, 0, none⟩) ∧ ∃ a7 m7 c7, Aside (wx.heap[g7]? = some (.cells #[.bool h, .int .u8 x, .slice a7 m7 c7] 131 (0, 0)) ∧ RdW wx 0 (.slice a7 m7 c7) l ∧ Below W0.heap.size W0 wx))
    case first =>
      cases ao with
      | none =>
        have h0 : l = [] := by
          apply Classical.byContradiction
          intro hne
          obtain ⟨b, off, ha, _⟩ := HPA.out (by cases l with | nil => exact absurd rfl hne | cons _ _ => simp)
          cases ha
        subst h0
        go_region
        all_goals
          go_wp2_with fail
          go_meet
          first
            | exact ⟨_, rfl, _, _, _, alloc2 W0 _ _, ⟨_, _, rfl, Nat.zero_le _, by simp, rfl, fun hh => absurd hh (by simp)⟩, (((Below.refl _ W0).alloc (Nat.le_refl _) _).alloc (by simp) _).drew⟩
            | exact ⟨_, rfl, _, _, _, (Below.heap_alloc _ _ _ (by simp)).trans (heap_alloc_new W0 _), ⟨_, _, rfl, Nat.zero_le _, by simp, rfl, fun hh => absurd hh (by simp)⟩, (((Below.refl _ W0).alloc (Nat.le_refl _) _).alloc (by simp) _).drew⟩
      | some ad =>
        have A : Aside (∀ j u, (cellsW l)[j]? = some u → W0.cell? (ad.add j) = some u) := by
          intro j u hu
          have hlt := (List.getElem?_eq_some_iff.1 hu).1
          obtain ⟨ao, cap, hv, _, _, _, hp⟩ := HR.out
          obtain ⟨b, off, ha, _, _, hc⟩ := hp (by rw [cellsW_length] at hlt; omega)
          simp only [Value.slice.injEq] at hv
          obtain ⟨rfl, _, _⟩ := hv
          cases ha
          rw [addr_add]
          exact hc j u hu
        have HXS := Lib.hid (cellsW_length l)
        have hn1 : W0.heap.size ≠ w.heap.size := by omega
        have hn2 : W0.heap.size + 1 ≠ w.heap.size := by omega
        have hB1 : Below W0.heap.size W0 ((W0.alloc (.cells #[] 56)).drew) := ((Below.refl _ W0).alloc (Nat.le_refl _) _).drew
        have ho1 : (((W0.alloc (.cells #[] 56)).drew)).ownsRow W0.heap.size 56 3 (.slice (some ⟨W0.heap.size, 0, none⟩) 0 0) 0 [] := World.ownsRow.drew (World.ownsRow_made W0 #[] 0 (Nat.le_refl _) (Nat.zero_le _) (by simp))
        have O1 := Lib.hid ho1
        have N1 : Hid (∀ j u, (cellsW l)[j]? = some u → ((W0.alloc (.cells #[] 56)).drew).cell? (ad.add j) = some u) := fun j u hj => by
          have h0 := A.out j u hj
          exact (hB1.cell (World.block_lt_of_cell? _ _ h0)).trans h0
        have B1 := Lib.hid hB1
        clear hB1 ho1
        have hB2 : Below W0.heap.size W0 (((W0.alloc (.cells #[] 56)).alloc (.cells #[.bool false, .int .u8 0, .slice none 0 0] 131)).drew) := (((Below.refl _ W0).alloc (Nat.le_refl _) _).alloc (by simp) _).drew
        have ho2 : ((((W0.alloc (.cells #[] 56)).alloc (.cells #[.bool false, .int .u8 0, .slice none 0 0] 131)).drew)).ownsRow W0.heap.size 56 3 (.slice (some ⟨W0.heap.size, 0, none⟩) 0 0) 0 [] := World.ownsRow.drew ((World.ownsRow_made W0 #[] 0 (Nat.le_refl _) (Nat.zero_le _) (by simp)).alloc _)
        have O2 := Lib.hid ho2
        have N2 : Hid (∀ j u, (cellsW l)[j]? = some u → (((W0.alloc (.cells #[] 56)).alloc (.cells #[.bool false, .int .u8 0, .slice none 0 0] 131)).drew).cell? (ad.add j) = some u) := fun j u hj => by
          have h0 := A.out j u hj
          exact (hB2.cell (World.block_lt_of_cell? _ _ h0)).trans h0
        have B2 := Lib.hid hB2
        clear hB2 ho2
        have hB3 : Below W0.heap.size W0 (((W0.alloc (.cells #[.bool false, .int .u8 0, .slice none 0 0] 131)).alloc (.cells #[] 56)).drew) := (((Below.refl _ W0).alloc (Nat.le_refl _) _).alloc (by simp) _).drew
        have ho3 : ((((W0.alloc (.cells #[.bool false, .int .u8 0, .slice none 0 0] 131)).alloc (.cells #[] 56)).drew)).ownsRow W0.heap.size 56 3 (.slice (some ⟨W0.heap.size + 1, 0, none⟩) 0 0) 0 [] := World.ownsRow.drew (by have := World.ownsRow_made (base := W0.heap.size) (e := 56) (size := 3) (W0.alloc (.cells #[.bool false, .int .u8 0, .slice none 0 0] 131)) #[] 0 (by simp) (Nat.zero_le _) (by simp); simpa using this)
        have O3 := Lib.hid ho3
        have N3 : Hid (∀ j u, (cellsW l)[j]? = some u → (((W0.alloc (.cells #[.bool false, .int .u8 0, .slice none 0 0] 131)).alloc (.cells #[] 56)).drew).cell? (ad.add j) = some u) := fun j u hj => by
          have h0 := A.out j u hj
          exact (hB3.cell (World.block_lt_of_cell? _ _ h0)).trans h0
        have B3 := Lib.hid hB3
        clear hB3 ho3
        go_region_held3 (fun w' => w'.cell? ⟨w.heap.size, 0, none⟩ = some (.bool h) ∧ w'.cell? ⟨w.heap.size, 1, none⟩ = some (.int .u8 x) ∧ w'.cell? ⟨w.heap.size, 2, none⟩ = some (.slice (some ad) l.length ca)) (first | go_keep | (refine ⟨?_, ?_, ?_⟩ <;> assumption) | (refine ⟨?_, ?_, ?_⟩ <;> simp [*, World.cell?_setCell_far]))
          ((first
            | (refine step_append_own (w := (W0.alloc (.cells #[] 56)).drew) rfl (.tmp 45) (.tmp 47) 25 rfl W0.heap.size 56 i0 (.agg #[.int .i64 0, .int .i64 0, .int .u8 0]) 3 24 Try.underlying25 hi hz0 hz1 hz2 rfl (by decide) (.slice (some ⟨W0.heap.size, 0, none⟩) 0 0) 0 [] (by simp [Act.eval]) O1.out ad l.length ca (cellsW l) (by simp [Act.eval]) HXS.out N1.out (oneW l) (by have : maxLen = 9223372036854775807 := rfl; omega) (by omega) B1.out.size ?_; intro v5 w5 hown hgrow; rw [Nat.zero_add, List.nil_append] at hown; obtain ⟨a5, c5, rfl⟩ := own_slice hown; have HBW := Lib.hid (Below.grown B1.out hgrow B1.out.size (fun g hg => Nat.le_of_eq (Option.some.inj (show some W0.heap.size = some g from hg)))); obtain ⟨z0, z1, z2, _, _, _⟩ := threeBlk ((HBW.out.block _ hsz).trans BX.out); have hz5 : w.heap.size < w5.heap.size := Nat.lt_of_lt_of_le hsz HBW.out.size; have hn5 : w5.heap.size ≠ w.heap.size := (by omega); have HOW := Lib.hid hown; clear hown hgrow)
            | (refine step_append_own (w := ((W0.alloc (.cells #[] 56)).alloc (.cells #[.bool false, .int .u8 0, .slice none 0 0] 131)).drew) rfl (.tmp 45) (.tmp 47) 25 rfl W0.heap.size 56 i0 (.agg #[.int .i64 0, .int .i64 0, .int .u8 0]) 3 24 Try.underlying25 hi hz0 hz1 hz2 rfl (by decide) (.slice (some ⟨W0.heap.size, 0, none⟩) 0 0) 0 [] (by simp [Act.eval]) O2.out ad l.length ca (cellsW l) (by simp [Act.eval]) HXS.out N2.out (oneW l) (by have : maxLen = 9223372036854775807 := rfl; omega) (by omega) B2.out.size ?_; intro v5 w5 hown hgrow; rw [Nat.zero_add, List.nil_append] at hown; obtain ⟨a5, c5, rfl⟩ := own_slice hown; have HBW := Lib.hid (Below.grown B2.out hgrow B2.out.size (fun g hg => Nat.le_of_eq (Option.some.inj (show some W0.heap.size = some g from hg)))); obtain ⟨z0, z1, z2, _, _, _⟩ := threeBlk ((HBW.out.block _ hsz).trans BX.out); have hz5 : w.heap.size < w5.heap.size := Nat.lt_of_lt_of_le hsz HBW.out.size; have hn5 : w5.heap.size ≠ w.heap.size := (by omega); have HOW := Lib.hid hown; have hv := (hgrow.block (W0.heap.size + 1) (by simp) (by simp [Value.ownBlock])).trans (alloc2 W0 _ _); obtain ⟨q0, q1, q2, q3, q4, q5⟩ := threeBlk hv; have hq7 := blk_lt hv; have HV7 := Lib.hid hv; clear hv; clear hown hgrow)
            | (refine step_append_own (w := ((W0.alloc (.cells #[.bool false, .int .u8 0, .slice none 0 0] 131)).alloc (.cells #[] 56)).drew) rfl (.tmp 45) (.tmp 47) 25 rfl W0.heap.size 56 i0 (.agg #[.int .i64 0, .int .i64 0, .int .u8 0]) 3 24 Try.underlying25 hi hz0 hz1 hz2 rfl (by decide) (.slice (some ⟨W0.heap.size + 1, 0, none⟩) 0 0) 0 [] (by simp [Act.eval]) O3.out ad l.length ca (cellsW l) (by simp [Act.eval]) HXS.out N3.out (oneW l) (by have : maxLen = 9223372036854775807 := rfl; omega) (by omega) B3.out.size ?_; intro v5 w5 hown hgrow; rw [Nat.zero_add, List.nil_append] at hown; obtain ⟨a5, c5, rfl⟩ := own_slice hown; have HBW := Lib.hid (Below.grown B3.out hgrow B3.out.size (fun g hg => Nat.le_trans (Nat.le_succ _) (Nat.le_of_eq (Option.some.inj (show some (W0.heap.size + 1) = some g from hg))))); obtain ⟨z0, z1, z2, _, _, _⟩ := threeBlk ((HBW.out.block _ hsz).trans BX.out); have hz5 : w.heap.size < w5.heap.size := Nat.lt_of_lt_of_le hsz HBW.out.size; have hn5 : w5.heap.size ≠ w.heap.size := (by omega); have HOW := Lib.hid hown; have hv := (hgrow.block W0.heap.size (by first | (simp; done) | (simp; omega)) (by simp [Value.ownBlock])).trans ((Below.heap_alloc _ _ _ (by simp)).trans (heap_alloc_new W0 _)); obtain ⟨q0, q1, q2, q3, q4, q5⟩ := threeBlk hv; have hq7 := blk_lt hv; have HV7 := Lib.hid hv; clear hv; clear hown hgrow)))
        all_goals
          go_wp2_with fail
          go_meet
          first
            | exact ⟨_, rfl, _, _, _, heap_alloc_new w5 _, (own_rd HOW.out).alloc _, HBW.out.alloc HBW.out.size _⟩
            | exact ⟨_, rfl, _, _, _, (own_put3 HOW.out HV7.out (by decide) (.bool h) (.int .u8 x) (.slice a5 l.length c5)).2, own_rd (own_put3 HOW.out HV7.out (by decide) (.bool h) (.int .u8 x) (.slice a5 l.length c5)).1, ((HBW.out.setCell (p := ⟨W0.heap.size, 0, none⟩) (Nat.le_refl _) _).setCell (p := ⟨W0.heap.size, 1, none⟩) (Nat.le_refl _) _).setCell (p := ⟨W0.heap.size, 2, none⟩) (Nat.le_refl _) _⟩
            | exact ⟨_, rfl, _, _, _, (own_put3 HOW.out HV7.out (by decide) (.bool h) (.int .u8 x) (.slice a5 l.length c5)).2, own_rd (own_put3 HOW.out HV7.out (by decide) (.bool h) (.int .u8 x) (.slice a5 l.length c5)).1, ((HBW.out.setCell (p := ⟨W0.heap.size + 1, 0, none⟩) (Nat.le_succ _) _).setCell (p := ⟨W0.heap.size + 1, 1, none⟩) (Nat.le_succ _) _).setCell (p := ⟨W0.heap.size + 1, 2, none⟩) (Nat.le_succ _) _⟩
    case rest =>
      obtain ⟨g7, rfl, aw, mw, cw, A⟩ := hcut
      have XW0 : Hid (VD wc g7 131 (.bool h) (.int .u8 x) (.slice aw mw cw) l) := ⟨A.out.1, A.out.2.1⟩
      have XS0 : Hid (VD wc w.heap.size 131 (.bool h) (.int .u8 x) (.slice ao l.length ca) l) := ⟨(A.out.2.2.block _ hsz).trans BX.out, HR.out.below A.out.2.2⟩
      have HB0' := Lib.hid (HPRE.out _ A.out.2.2)
      clear A x0 x1 x2 x3 x4 x5
      obtain ⟨n1, k1, l1, i1, f1, hQ1⟩ : ∃ n1 k1 l1 i1 f1, showBd h x l y = (n1, k1, l1, i1, f1) := ⟨_, _, _, _, _, rfl⟩
      obtain ⟨l2, z2, y2, f2, hQ2⟩ : ∃ l2 z2 y2 f2, lookBd h x l p r = (l2, z2, y2, f2) := ⟨_, _, _, _, rfl⟩
      obtain ⟨n3, k3, f3, hQ3⟩ : ∃ n3 k3 f3, clearBd h x l = (n3, k3, f3) := ⟨_, _, _, rfl⟩
      obtain ⟨l4, f4, hQ4⟩ : ∃ l4 f4, cancBd h x l p = (l4, f4) := ⟨_, _, rfl⟩
      have hL1 : l1.length ≤ 40 := by have := (showBd_len h x l y).1; rw [hQ1] at this; simp at this; omega
      have hI1 : i1.length ≤ 40 := by have := (showBd_len h x l y).2; rw [hQ1] at this; simp at this; omega
      have hL2 : l2.length ≤ 41 := by have := lookBd_len h x l p r; rw [hQ2] at this; simp at this; omega
      have hL4 : l4.length ≤ 40 := by have := cancBd_len h x l p; rw [hQ4] at this; simp at this; omega
      have Q1 := Lib.hid hQ1
      have Q2 := Lib.hid hQ2
      have Q3 := Lib.hid hQ3
      have Q4 := Lib.hid hQ4
      clear hQ1 hQ2 hQ3 hQ4
      obtain ⟨xW0, xW1, xW2, _, _, _⟩ := XW0.out.cells
      have bW0 := blk_lt XW0.out.blk
      obtain ⟨xS0, xS1, xS2, _, _, _⟩ := XS0.out.cells
      have bS0 := blk_lt XS0.out.blk
      have XR1 := Lib.hid (VD.new (a := .bool h) (b := .int .u8 x) (t := 155) XW0.out.rd)
      have XS1 := Lib.hid (XS0.out.alloc (.cells #[.bool h, .int .u8 x, .slice aw mw cw] 155))
      have XW1 := Lib.hid (XW0.out.alloc (.cells #[.bool h, .int .u8 x, .slice aw mw cw] 155))
      have HB1' := Lib.hid (HB0'.out.alloc HB0'.out.size (.cells #[.bool h, .int .u8 x, .slice aw mw cw] 155))
      have HC1 := Lib.hid (Below.refl (wc.alloc (.cells #[.bool h, .int .u8 x, .slice aw mw cw] 155)).heap.size (wc.alloc (.cells #[.bool h, .int .u8 x, .slice aw mw cw] 155)))
      have BXS := Lib.hid XS1.out
      have BXW := Lib.hid XW1.out
      have BHB := Lib.hid HB1'.out
      clear XS0 XW0 HB0'
      go_wp2_with fail
      have h2 := showBd_c h x y _ l _ XS1.out.rd HWF.out (by omega)
      rw [Q1.out] at h2
      refine h2.mono ?_
      clear h2
      rintro e w2 ⟨v2, u2, rfl, r2, o2, b2⟩
      replace r2 := TyW.fr r2
      obtain ⟨a2, m2, c2, rfl, hm2⟩ := fr_shape r2
      have hM2 : m2 ≤ 41 := by simp only [hm2]; omega
      clear hm2
      have XA2 := Lib.hid (VD.new (a := .bool n1) (b := .int .u8 k1) (t := 131) r2.rd)
      obtain ⟨au2, mu2, cu2, rfl, hmu2⟩ := own_shape o2
      clear hmu2
      have UA2 := Lib.hid ((o2.rd.mono (Nat.zero_le _) : RdI .i64 w2 0 (.slice au2 mu2 cu2) i1).alloc (.cells #[.bool n1, .int .u8 k1, .slice a2 m2 c2] 131))
      clear o2
      have FXA2 := Lib.hid ((r2.mono HC1.out.size).alloc (.cells #[.bool n1, .int .u8 k1, .slice a2 m2 c2] 131))
      have XS2 := Lib.hid ((XS1.out.next b2).alloc (.cells #[.bool n1, .int .u8 k1, .slice a2 m2 c2] 131))
      have XW2 := Lib.hid ((XW1.out.next b2).alloc (.cells #[.bool n1, .int .u8 k1, .slice a2 m2 c2] 131))
      have XR2 := Lib.hid ((XR1.out.next b2).alloc (.cells #[.bool n1, .int .u8 k1, .slice a2 m2 c2] 131))
      have hb2 := HB1'.out.trans (b2.mono HB1'.out.size)
      have HB2' := Lib.hid (hb2.alloc hb2.size (.cells #[.bool n1, .int .u8 k1, .slice a2 m2 c2] 131))
      have hc2 := HC1.out.trans (b2.mono HC1.out.size)
      have HC2 := Lib.hid (hc2.alloc hc2.size (.cells #[.bool n1, .int .u8 k1, .slice a2 m2 c2] 131))
      obtain ⟨xXR20, xXR21, xXR22, _, _, _⟩ := (XR1.out.next b2).cells
      have bsXR2 := blk_lt (XR1.out.next b2).blk
      clear r2 b2 hb2 hc2 HB1' HC1 XS1 XW1 XR1
      go_wp2_with fail
      have h3 := show24_c h x y _ l _ XR2.out.rd (by omega)
      rw [Q1.out] at h3
      refine h3.mono ?_
      clear h3
      rintro e w3 ⟨v3, u3, rfl, r3, o3, b3⟩
      obtain ⟨a3, m3, c3, rfl, hm3⟩ := rdv_shape r3
      clear hm3
      have XB3 := Lib.hid (VD.new (a := .bool n1) (b := .int .u8 k1) (t := 155) r3)
      obtain ⟨au3, mu3, cu3, rfl, hmu3⟩ := rdi_shape o3
      clear hmu3
      have UB3 := Lib.hid ((o3 : RdI .i64 w3 0 (.slice au3 mu3 cu3) i1).alloc (.cells #[.bool n1, .int .u8 k1, .slice a3 m3 c3] 155))
      clear o3
      have XS3 := Lib.hid ((XS2.out.next b3).alloc (.cells #[.bool n1, .int .u8 k1, .slice a3 m3 c3] 155))
      have XW3 := Lib.hid ((XW2.out.next b3).alloc (.cells #[.bool n1, .int .u8 k1, .slice a3 m3 c3] 155))
      have XR3 := Lib.hid ((XR2.out.next b3).alloc (.cells #[.bool n1, .int .u8 k1, .slice a3 m3 c3] 155))
      have XA3 := Lib.hid ((XA2.out.next b3).alloc (.cells #[.bool n1, .int .u8 k1, .slice a3 m3 c3] 155))
      have FXA3 := Lib.hid ((FXA2.out.below b3).alloc (.cells #[.bool n1, .int .u8 k1, .slice a3 m3 c3] 155))
      have UA3 := Lib.hid ((UA2.out.below b3).alloc (.cells #[.bool n1, .int .u8 k1, .slice a3 m3 c3] 155))
      have hb3 := HB2'.out.trans (b3.mono HB2'.out.size)
      have HB3' := Lib.hid (hb3.alloc hb3.size (.cells #[.bool n1, .int .u8 k1, .slice a3 m3 c3] 155))
      have hc3 := HC2.out.trans (b3.mono HC2.out.size)
      have HC3 := Lib.hid (hc3.alloc hc3.size (.cells #[.bool n1, .int .u8 k1, .slice a3 m3 c3] 155))
      obtain ⟨xXS30, xXS31, xXS32, _, _, _⟩ := (XS2.out.next b3).cells
      have bsXS3 := blk_lt (XS2.out.next b3).blk
      clear r3 b3 hb3 hc3 HB2' HC2 XS2 XW2 XR2 XA2 FXA2 UA2
      go_wp2_with fail
      have h4 := lookBd_c h x p r _ l _ XS3.out.rd HWF.out (by omega)
      rw [Q2.out] at h4
      refine h4.mono ?_
      clear h4
      rintro e w4 ⟨v4, rfl, r4, b4⟩
      replace r4 := TyW.fr r4
      obtain ⟨a4, m4, c4, rfl, hm4⟩ := fr_shape r4
      have hM4 : m4 ≤ 41 := by simp only [hm4]; omega
      clear hm4
      have XC4 := Lib.hid (VD.new (a := .bool h) (b := .int .u8 x) (t := 131) r4.rd)
      have FXC4 := Lib.hid ((r4.mono HC3.out.size).alloc (.cells #[.bool h, .int .u8 x, .slice a4 m4 c4] 131))
      have XS4 := Lib.hid ((XS3.out.next b4).alloc (.cells #[.bool h, .int .u8 x, .slice a4 m4 c4] 131))
      have XW4 := Lib.hid ((XW3.out.next b4).alloc (.cells #[.bool h, .int .u8 x, .slice a4 m4 c4] 131))
      have XR4 := Lib.hid ((XR3.out.next b4).alloc (.cells #[.bool h, .int .u8 x, .slice a4 m4 c4] 131))
      have XA4 := Lib.hid ((XA3.out.next b4).alloc (.cells #[.bool h, .int .u8 x, .slice a4 m4 c4] 131))
      have XB4 := Lib.hid ((XB3.out.next b4).alloc (.cells #[.bool h, .int .u8 x, .slice a4 m4 c4] 131))
      have FXA4 := Lib.hid ((FXA3.out.below b4).alloc (.cells #[.bool h, .int .u8 x, .slice a4 m4 c4] 131))
      have UA4 := Lib.hid ((UA3.out.below b4).alloc (.cells #[.bool h, .int .u8 x, .slice a4 m4 c4] 131))
      have UB4 := Lib.hid ((UB3.out.below b4).alloc (.cells #[.bool h, .int .u8 x, .slice a4 m4 c4] 131))
      have hb4 := HB3'.out.trans (b4.mono HB3'.out.size)
      have HB4' := Lib.hid (hb4.alloc hb4.size (.cells #[.bool h, .int .u8 x, .slice a4 m4 c4] 131))
      have hc4 := HC3.out.trans (b4.mono HC3.out.size)
      have HC4 := Lib.hid (hc4.alloc hc4.size (.cells #[.bool h, .int .u8 x, .slice a4 m4 c4] 131))
      obtain ⟨xXR40, xXR41, xXR42, _, _, _⟩ := (XR3.out.next b4).cells
      have bsXR4 := blk_lt (XR3.out.next b4).blk
      clear r4 b4 hb4 hc4 HB3' HC3 XS3 XW3 XR3 XA3 XB3 FXA3 UA3 UB3
      go_wp2_with fail
      have h5 := look24_c h x p r _ l _ XR4.out.rd (by omega)
      rw [Q2.out] at h5
      refine h5.mono ?_
      clear h5
      rintro e w5 ⟨v5, rfl, r5, b5⟩
      obtain ⟨a5, m5, c5, rfl, hm5⟩ := rdv_shape r5
      clear hm5
      have XD5 := Lib.hid (VD.new (a := .bool h) (b := .int .u8 x) (t := 155) r5)
      have XS5 := Lib.hid ((XS4.out.next b5).alloc (.cells #[.bool h, .int .u8 x, .slice a5 m5 c5] 155))
      have XW5 := Lib.hid ((XW4.out.next b5).alloc (.cells #[.bool h, .int .u8 x, .slice a5 m5 c5] 155))
      have XR5 := Lib.hid ((XR4.out.next b5).alloc (.cells #[.bool h, .int .u8 x, .slice a5 m5 c5] 155))
      have XA5 := Lib.hid ((XA4.out.next b5).alloc (.cells #[.bool h, .int .u8 x, .slice a5 m5 c5] 155))
      have XB5 := Lib.hid ((XB4.out.next b5).alloc (.cells #[.bool h, .int .u8 x, .slice a5 m5 c5] 155))
      have XC5 := Lib.hid ((XC4.out.next b5).alloc (.cells #[.bool h, .int .u8 x, .slice a5 m5 c5] 155))
      have FXA5 := Lib.hid ((FXA4.out.below b5).alloc (.cells #[.bool h, .int .u8 x, .slice a5 m5 c5] 155))
      have FXC5 := Lib.hid ((FXC4.out.below b5).alloc (.cells #[.bool h, .int .u8 x, .slice a5 m5 c5] 155))
      have UA5 := Lib.hid ((UA4.out.below b5).alloc (.cells #[.bool h, .int .u8 x, .slice a5 m5 c5] 155))
      have UB5 := Lib.hid ((UB4.out.below b5).alloc (.cells #[.bool h, .int .u8 x, .slice a5 m5 c5] 155))
      have hb5 := HB4'.out.trans (b5.mono HB4'.out.size)
      have HB5' := Lib.hid (hb5.alloc hb5.size (.cells #[.bool h, .int .u8 x, .slice a5 m5 c5] 155))
      have hc5 := HC4.out.trans (b5.mono HC4.out.size)
      have HC5 := Lib.hid (hc5.alloc hc5.size (.cells #[.bool h, .int .u8 x, .slice a5 m5 c5] 155))
      obtain ⟨xXS50, xXS51, xXS52, _, _, _⟩ := (XS4.out.next b5).cells
      have bsXS5 := blk_lt (XS4.out.next b5).blk
      clear r5 b5 hb5 hc5 HB4' HC4 XS4 XW4 XR4 XA4 XB4 XC4 FXA4 FXC4 UA4 UB4
      go_wp2_with fail
      have h6 := clearBd_c h x _ l _ XS5.out.rd HWF.out (by omega)
      rw [Q3.out] at h6
      refine h6.mono ?_
      clear h6
      rintro e w6 ⟨v6, rfl, r6, b6⟩
      replace r6 := TyW.fr r6
      obtain ⟨a6, m6, c6, rfl, hm6⟩ := fr_shape r6
      have hM6 : m6 ≤ 41 := by simp only [hm6]; omega
      clear hm6
      have XE6 := Lib.hid (VD.new (a := .bool n3) (b := .int .u8 k3) (t := 131) r6.rd)
      have FXE6 := Lib.hid ((r6.mono HC5.out.size).alloc (.cells #[.bool n3, .int .u8 k3, .slice a6 m6 c6] 131))
      have XS6 := Lib.hid ((XS5.out.next b6).alloc (.cells #[.bool n3, .int .u8 k3, .slice a6 m6 c6] 131))
      have XW6 := Lib.hid ((XW5.out.next b6).alloc (.cells #[.bool n3, .int .u8 k3, .slice a6 m6 c6] 131))
      have XR6 := Lib.hid ((XR5.out.next b6).alloc (.cells #[.bool n3, .int .u8 k3, .slice a6 m6 c6] 131))
      have XA6 := Lib.hid ((XA5.out.next b6).alloc (.cells #[.bool n3, .int .u8 k3, .slice a6 m6 c6] 131))
      have XB6 := Lib.hid ((XB5.out.next b6).alloc (.cells #[.bool n3, .int .u8 k3, .slice a6 m6 c6] 131))
      have XC6 := Lib.hid ((XC5.out.next b6).alloc (.cells #[.bool n3, .int .u8 k3, .slice a6 m6 c6] 131))
      have XD6 := Lib.hid ((XD5.out.next b6).alloc (.cells #[.bool n3, .int .u8 k3, .slice a6 m6 c6] 131))
      have FXA6 := Lib.hid ((FXA5.out.below b6).alloc (.cells #[.bool n3, .int .u8 k3, .slice a6 m6 c6] 131))
      have FXC6 := Lib.hid ((FXC5.out.below b6).alloc (.cells #[.bool n3, .int .u8 k3, .slice a6 m6 c6] 131))
      have UA6 := Lib.hid ((UA5.out.below b6).alloc (.cells #[.bool n3, .int .u8 k3, .slice a6 m6 c6] 131))
      have UB6 := Lib.hid ((UB5.out.below b6).alloc (.cells #[.bool n3, .int .u8 k3, .slice a6 m6 c6] 131))
      have hb6 := HB5'.out.trans (b6.mono HB5'.out.size)
      have HB6' := Lib.hid (hb6.alloc hb6.size (.cells #[.bool n3, .int .u8 k3, .slice a6 m6 c6] 131))
      have hc6 := HC5.out.trans (b6.mono HC5.out.size)
      have HC6 := Lib.hid (hc6.alloc hc6.size (.cells #[.bool n3, .int .u8 k3, .slice a6 m6 c6] 131))
      obtain ⟨xXR60, xXR61, xXR62, _, _, _⟩ := (XR5.out.next b6).cells
      have bsXR6 := blk_lt (XR5.out.next b6).blk
      clear r6 b6 hb6 hc6 HB5' HC5 XS5 XW5 XR5 XA5 XB5 XC5 XD5 FXA5 FXC5 UA5 UB5
      go_wp2_with fail
      have h7 := clear24_c h x _ l _ XR6.out.rd (by omega)
      rw [Q3.out] at h7
      refine h7.mono ?_
      clear h7
      rintro e w7 ⟨v7, rfl, r7, b7⟩
      obtain ⟨a7, m7, c7, rfl, hm7⟩ := rdv_shape r7
      clear hm7
      have XF7 := Lib.hid (VD.new (a := .bool n3) (b := .int .u8 k3) (t := 155) r7)
      have XS7 := Lib.hid ((XS6.out.next b7).alloc (.cells #[.bool n3, .int .u8 k3, .slice a7 m7 c7] 155))
      have XW7 := Lib.hid ((XW6.out.next b7).alloc (.cells #[.bool n3, .int .u8 k3, .slice a7 m7 c7] 155))
      have XR7 := Lib.hid ((XR6.out.next b7).alloc (.cells #[.bool n3, .int .u8 k3, .slice a7 m7 c7] 155))
      have XA7 := Lib.hid ((XA6.out.next b7).alloc (.cells #[.bool n3, .int .u8 k3, .slice a7 m7 c7] 155))
      have XB7 := Lib.hid ((XB6.out.next b7).alloc (.cells #[.bool n3, .int .u8 k3, .slice a7 m7 c7] 155))
      have XC7 := Lib.hid ((XC6.out.next b7).alloc (.cells #[.bool n3, .int .u8 k3, .slice a7 m7 c7] 155))
      have XD7 := Lib.hid ((XD6.out.next b7).alloc (.cells #[.bool n3, .int .u8 k3, .slice a7 m7 c7] 155))
      have XE7 := Lib.hid ((XE6.out.next b7).alloc (.cells #[.bool n3, .int .u8 k3, .slice a7 m7 c7] 155))
      have FXA7 := Lib.hid ((FXA6.out.below b7).alloc (.cells #[.bool n3, .int .u8 k3, .slice a7 m7 c7] 155))
      have FXC7 := Lib.hid ((FXC6.out.below b7).alloc (.cells #[.bool n3, .int .u8 k3, .slice a7 m7 c7] 155))
      have FXE7 := Lib.hid ((FXE6.out.below b7).alloc (.cells #[.bool n3, .int .u8 k3, .slice a7 m7 c7] 155))
      have UA7 := Lib.hid ((UA6.out.below b7).alloc (.cells #[.bool n3, .int .u8 k3, .slice a7 m7 c7] 155))
      have UB7 := Lib.hid ((UB6.out.below b7).alloc (.cells #[.bool n3, .int .u8 k3, .slice a7 m7 c7] 155))
      have hb7 := HB6'.out.trans (b7.mono HB6'.out.size)
      have HB7' := Lib.hid (hb7.alloc hb7.size (.cells #[.bool n3, .int .u8 k3, .slice a7 m7 c7] 155))
      have hc7 := HC6.out.trans (b7.mono HC6.out.size)
      have HC7 := Lib.hid (hc7.alloc hc7.size (.cells #[.bool n3, .int .u8 k3, .slice a7 m7 c7] 155))
      obtain ⟨xXS70, xXS71, xXS72, _, _, _⟩ := (XS6.out.next b7).cells
      have bsXS7 := blk_lt (XS6.out.next b7).blk
      clear r7 b7 hb7 hc7 HB6' HC6 XS6 XW6 XR6 XA6 XB6 XC6 XD6 XE6 FXA6 FXC6 FXE6 UA6 UB6
      go_wp2_with fail
      have h8 := cancBd_c h x p _ l _ XS7.out.rd HWF.out (by omega)
      rw [Q4.out] at h8
      refine h8.mono ?_
      clear h8
      rintro e w8 ⟨v8, rfl, r8, b8⟩
      replace r8 := TyW.fr r8
      obtain ⟨a8, m8, c8, rfl, hm8⟩ := fr_shape r8
      have hM8 : m8 ≤ 41 := by simp only [hm8]; omega
      clear hm8
      have XK8 := Lib.hid (VD.new (a := .bool h) (b := .int .u8 x) (t := 131) r8.rd)
      have FXK8 := Lib.hid ((r8.mono HC7.out.size).alloc (.cells #[.bool h, .int .u8 x, .slice a8 m8 c8] 131))
      have XS8 := Lib.hid ((XS7.out.next b8).alloc (.cells #[.bool h, .int .u8 x, .slice a8 m8 c8] 131))
      have XW8 := Lib.hid ((XW7.out.next b8).alloc (.cells #[.bool h, .int .u8 x, .slice a8 m8 c8] 131))
      have XR8 := Lib.hid ((XR7.out.next b8).alloc (.cells #[.bool h, .int .u8 x, .slice a8 m8 c8] 131))
      have XA8 := Lib.hid ((XA7.out.next b8).alloc (.cells #[.bool h, .int .u8 x, .slice a8 m8 c8] 131))
      have XB8 := Lib.hid ((XB7.out.next b8).alloc (.cells #[.bool h, .int .u8 x, .slice a8 m8 c8] 131))
      have XC8 := Lib.hid ((XC7.out.next b8).alloc (.cells #[.bool h, .int .u8 x, .slice a8 m8 c8] 131))
      have XD8 := Lib.hid ((XD7.out.next b8).alloc (.cells #[.bool h, .int .u8 x, .slice a8 m8 c8] 131))
      have XE8 := Lib.hid ((XE7.out.next b8).alloc (.cells #[.bool h, .int .u8 x, .slice a8 m8 c8] 131))
      have XF8 := Lib.hid ((XF7.out.next b8).alloc (.cells #[.bool h, .int .u8 x, .slice a8 m8 c8] 131))
      have FXA8 := Lib.hid ((FXA7.out.below b8).alloc (.cells #[.bool h, .int .u8 x, .slice a8 m8 c8] 131))
      have FXC8 := Lib.hid ((FXC7.out.below b8).alloc (.cells #[.bool h, .int .u8 x, .slice a8 m8 c8] 131))
      have FXE8 := Lib.hid ((FXE7.out.below b8).alloc (.cells #[.bool h, .int .u8 x, .slice a8 m8 c8] 131))
      have UA8 := Lib.hid ((UA7.out.below b8).alloc (.cells #[.bool h, .int .u8 x, .slice a8 m8 c8] 131))
      have UB8 := Lib.hid ((UB7.out.below b8).alloc (.cells #[.bool h, .int .u8 x, .slice a8 m8 c8] 131))
      have hb8 := HB7'.out.trans (b8.mono HB7'.out.size)
      have HB8' := Lib.hid (hb8.alloc hb8.size (.cells #[.bool h, .int .u8 x, .slice a8 m8 c8] 131))
      have hc8 := HC7.out.trans (b8.mono HC7.out.size)
      have HC8 := Lib.hid (hc8.alloc hc8.size (.cells #[.bool h, .int .u8 x, .slice a8 m8 c8] 131))
      obtain ⟨xXR80, xXR81, xXR82, _, _, _⟩ := (XR7.out.next b8).cells
      have bsXR8 := blk_lt (XR7.out.next b8).blk
      clear r8 b8 hb8 hc8 HB7' HC7 XS7 XW7 XR7 XA7 XB7 XC7 XD7 XE7 XF7 FXA7 FXC7 FXE7 UA7 UB7
      go_wp2_with fail
      have h9 := canc24_c h x p _ l _ XR8.out.rd (by omega)
      rw [Q4.out] at h9
      refine h9.mono ?_
      clear h9
      rintro e w9 ⟨v9, rfl, r9, b9⟩
      obtain ⟨a9, m9, c9, rfl, hm9⟩ := rdv_shape r9
      clear hm9
      have XM9 := Lib.hid (VD.new (a := .bool h) (b := .int .u8 x) (t := 155) r9)
      have XS9 := Lib.hid ((XS8.out.next b9).alloc (.cells #[.bool h, .int .u8 x, .slice a9 m9 c9] 155))
      have XW9 := Lib.hid ((XW8.out.next b9).alloc (.cells #[.bool h, .int .u8 x, .slice a9 m9 c9] 155))
      have XR9 := Lib.hid ((XR8.out.next b9).alloc (.cells #[.bool h, .int .u8 x, .slice a9 m9 c9] 155))
      have XA9 := Lib.hid ((XA8.out.next b9).alloc (.cells #[.bool h, .int .u8 x, .slice a9 m9 c9] 155))
      have XB9 := Lib.hid ((XB8.out.next b9).alloc (.cells #[.bool h, .int .u8 x, .slice a9 m9 c9] 155))
      have XC9 := Lib.hid ((XC8.out.next b9).alloc (.cells #[.bool h, .int .u8 x, .slice a9 m9 c9] 155))
      have XD9 := Lib.hid ((XD8.out.next b9).alloc (.cells #[.bool h, .int .u8 x, .slice a9 m9 c9] 155))
      have XE9 := Lib.hid ((XE8.out.next b9).alloc (.cells #[.bool h, .int .u8 x, .slice a9 m9 c9] 155))
      have XF9 := Lib.hid ((XF8.out.next b9).alloc (.cells #[.bool h, .int .u8 x, .slice a9 m9 c9] 155))
      have XK9 := Lib.hid ((XK8.out.next b9).alloc (.cells #[.bool h, .int .u8 x, .slice a9 m9 c9] 155))
      have FXA9 := Lib.hid ((FXA8.out.below b9).alloc (.cells #[.bool h, .int .u8 x, .slice a9 m9 c9] 155))
      have FXC9 := Lib.hid ((FXC8.out.below b9).alloc (.cells #[.bool h, .int .u8 x, .slice a9 m9 c9] 155))
      have FXE9 := Lib.hid ((FXE8.out.below b9).alloc (.cells #[.bool h, .int .u8 x, .slice a9 m9 c9] 155))
      have FXK9 := Lib.hid ((FXK8.out.below b9).alloc (.cells #[.bool h, .int .u8 x, .slice a9 m9 c9] 155))
      have UA9 := Lib.hid ((UA8.out.below b9).alloc (.cells #[.bool h, .int .u8 x, .slice a9 m9 c9] 155))
      have UB9 := Lib.hid ((UB8.out.below b9).alloc (.cells #[.bool h, .int .u8 x, .slice a9 m9 c9] 155))
      have hb9 := HB8'.out.trans (b9.mono HB8'.out.size)
      have HB9' := Lib.hid (hb9.alloc hb9.size (.cells #[.bool h, .int .u8 x, .slice a9 m9 c9] 155))
      have hc9 := HC8.out.trans (b9.mono HC8.out.size)
      have HC9 := Lib.hid (hc9.alloc hc9.size (.cells #[.bool h, .int .u8 x, .slice a9 m9 c9] 155))
      obtain ⟨xXS90, xXS91, xXS92, _, _, _⟩ := (XS8.out.next b9).cells
      have bsXS9 := blk_lt (XS8.out.next b9).blk
      clear r9 b9 hb9 hc9 HB8' HC8 XS8 XW8 XR8 XA8 XB8 XC8 XD8 XE8 XF8 XK8 FXA8 FXC8 FXE8 FXK8 UA8 UB8
      go_upto_region 13 with (fail)
      obtain ⟨WZ, hWZ⟩ : ∃ WZ, WZ = w9.alloc (.cells #[.bool h, .int .u8 x, .slice a9 m9 c9] 155) := ⟨_, rfl⟩
      rw [← hWZ] at XS9 XW9 XR9 XA9 XB9 XC9 XD9 XE9 XF9 XK9 XM9 FXA9 FXC9 FXE9 FXK9 UA9 UB9 HB9' HC9 ⊢
      clear hWZ
      have uXS0 := fun p : BelW WZ => (XS9.out.next p.h).cells.1
      have uXS1 := fun p : BelW WZ => (XS9.out.next p.h).cells.2.1
      have uXS2 := fun p : BelW WZ => (XS9.out.next p.h).cells.2.2.1
      have uXS3 := fun p : BelW WZ => blk_lt (XS9.out.next p.h).blk
      have uXR0 := fun p : BelW WZ => (XR9.out.next p.h).cells.1
      have uXR1 := fun p : BelW WZ => (XR9.out.next p.h).cells.2.1
      have uXR2 := fun p : BelW WZ => (XR9.out.next p.h).cells.2.2.1
      have uXR3 := fun p : BelW WZ => blk_lt (XR9.out.next p.h).blk
      have uXA0 := fun p : BelW WZ => (XA9.out.next p.h).cells.1
      have uXA1 := fun p : BelW WZ => (XA9.out.next p.h).cells.2.1
      have uXA2 := fun p : BelW WZ => (XA9.out.next p.h).cells.2.2.1
      have uXA3 := fun p : BelW WZ => blk_lt (XA9.out.next p.h).blk
      have uXB0 := fun p : BelW WZ => (XB9.out.next p.h).cells.1
      have uXB1 := fun p : BelW WZ => (XB9.out.next p.h).cells.2.1
      have uXB2 := fun p : BelW WZ => (XB9.out.next p.h).cells.2.2.1
      have uXB3 := fun p : BelW WZ => blk_lt (XB9.out.next p.h).blk
      have uXC0 := fun p : BelW WZ => (XC9.out.next p.h).cells.1
      have uXC1 := fun p : BelW WZ => (XC9.out.next p.h).cells.2.1
      have uXC2 := fun p : BelW WZ => (XC9.out.next p.h).cells.2.2.1
      have uXC3 := fun p : BelW WZ => blk_lt (XC9.out.next p.h).blk
      have uXD0 := fun p : BelW WZ => (XD9.out.next p.h).cells.1
      have uXD1 := fun p : BelW WZ => (XD9.out.next p.h).cells.2.1
      have uXD2 := fun p : BelW WZ => (XD9.out.next p.h).cells.2.2.1
      have uXD3 := fun p : BelW WZ => blk_lt (XD9.out.next p.h).blk
      have uXE0 := fun p : BelW WZ => (XE9.out.next p.h).cells.1
      have uXE1 := fun p : BelW WZ => (XE9.out.next p.h).cells.2.1
      have uXE2 := fun p : BelW WZ => (XE9.out.next p.h).cells.2.2.1
      have uXE3 := fun p : BelW WZ => blk_lt (XE9.out.next p.h).blk
      have uXF0 := fun p : BelW WZ => (XF9.out.next p.h).cells.1
      have uXF1 := fun p : BelW WZ => (XF9.out.next p.h).cells.2.1
      have uXF2 := fun p : BelW WZ => (XF9.out.next p.h).cells.2.2.1
      have uXF3 := fun p : BelW WZ => blk_lt (XF9.out.next p.h).blk
      have uXK0 := fun p : BelW WZ => (XK9.out.next p.h).cells.1
      have uXK1 := fun p : BelW WZ => (XK9.out.next p.h).cells.2.1
      have uXK2 := fun p : BelW WZ => (XK9.out.next p.h).cells.2.2.1
      have uXK3 := fun p : BelW WZ => blk_lt (XK9.out.next p.h).blk
      have uXM0 := fun p : BelW WZ => (XM9.out.next p.h).cells.1
      have uXM1 := fun p : BelW WZ => (XM9.out.next p.h).cells.2.1
      have uXM2 := fun p : BelW WZ => (XM9.out.next p.h).cells.2.2.1
      have uXM3 := fun p : BelW WZ => blk_lt (XM9.out.next p.h).blk
      have HV1 : Hid (∀ p : BelW WZ, Calls Try.prog 88 #[.agg #[.bool h, .int .u8 x, .slice ao l.length ca]] p.W fun e w'' => e = .returned (.bool (vldBd h x l)) ∧ ∃ q : BelW WZ, w'' = q.W) := fun p => Calls.bel_of (validBd_c h x _ l p.W (XS9.out.next p.h).rd HWF.out (by omega))
      have HV2 : Hid (∀ p : BelW WZ, Calls Try.prog 89 #[.agg #[.bool h, .int .u8 x, .slice aw mw cw]] p.W fun e w'' => e = .returned (.bool (vldBd h x l)) ∧ ∃ q : BelW WZ, w'' = q.W) := fun p => Calls.bel_of (validBd24_c h x _ l p.W (XR9.out.next p.h).rd (by omega))
      have HIN : Hid (∀ p : BelW WZ, Calls Try.prog 67 #[.slice au2 mu2 cu2, .slice au3 mu3 cu3] p.W fun e w'' => e = .returned (.bool true) ∧ ∃ q : BelW WZ, w'' = q.W) := fun p => by
        have hc := ints_c _ _ i1 i1 p.W (UA9.out.below p.h) (UB9.out.below p.h) (by omega) (by omega)
        rw [show decide (i1 = i1) = true from by simp] at hc
        exact Calls.bel_of (hc.mono fun e w' ⟨he, k, hk⟩ => ⟨he, by rw [hk]; exact below_drewN' (Below.refl _ _) k⟩)
      have HS1 : Hid (∀ p : BelW WZ, Calls Try.prog 73 #[.agg #[.bool n1, .int .u8 k1, .slice a2 m2 c2], .agg #[.bool n1, .int .u8 k1, .slice a3 m3 c3]] p.W fun e w'' => e = .returned (.bool true) ∧ ∃ q : BelW WZ, w'' = q.W) := fun p => Calls.bel_of (sameBd_c n1 k1 _ _ l1 p.W (XA9.out.next p.h).rd (XB9.out.next p.h).rd (by omega))
      have HS2 : Hid (∀ p : BelW WZ, Calls Try.prog 73 #[.agg #[.bool h, .int .u8 x, .slice a4 m4 c4], .agg #[.bool h, .int .u8 x, .slice a5 m5 c5]] p.W fun e w'' => e = .returned (.bool true) ∧ ∃ q : BelW WZ, w'' = q.W) := fun p => Calls.bel_of (sameBd_c h x _ _ l2 p.W (XC9.out.next p.h).rd (XD9.out.next p.h).rd (by omega))
      have HS3 : Hid (∀ p : BelW WZ, Calls Try.prog 73 #[.agg #[.bool n3, .int .u8 k3, .slice a6 m6 c6], .agg #[.bool n3, .int .u8 k3, .slice a7 m7 c7]] p.W fun e w'' => e = .returned (.bool true) ∧ ∃ q : BelW WZ, w'' = q.W) := fun p => Calls.bel_of (sameBd_c n3 k3 _ _ l p.W (XE9.out.next p.h).rd (XF9.out.next p.h).rd (by omega))
      have HS4 : Hid (∀ p : BelW WZ, Calls Try.prog 73 #[.agg #[.bool h, .int .u8 x, .slice a8 m8 c8], .agg #[.bool h, .int .u8 x, .slice a9 m9 c9]] p.W fun e w'' => e = .returned (.bool true) ∧ ∃ q : BelW WZ, w'' = q.W) := fun p => Calls.bel_of (sameBd_c h x _ _ l4 p.W (XK9.out.next p.h).rd (XM9.out.next p.h).rd (by omega))
      generalize vldBd h x l = vb at HV1 HV2
      refine wp_region_quiet_bel (by kernel_rfl) (by kernel_rfl) ?_
      iterate 65 (first | go_big_quiet_step (first | (go_at_call 88; exact HV1.out _) | (go_at_call 89; exact HV2.out _) | (go_at_call 67; exact HIN.out _) | (go_at_call_of 73 (Value.slice a2 m2 c2); exact HS1.out _) | (go_at_call_of 73 (Value.slice a4 m4 c4); exact HS2.out _) | (go_at_call_of 73 (Value.slice a6 m6 c6); exact HS3.out _) | (go_at_call_of 73 (Value.slice a8 m8 c8); exact HS4.out _)) | quiet_step (first | (go_at_call 88; exact HV1.out _) | (go_at_call 89; exact HV2.out _) | (go_at_call 67; exact HIN.out _) | (go_at_call_of 73 (Value.slice a2 m2 c2); exact HS1.out _) | (go_at_call_of 73 (Value.slice a4 m4 c4); exact HS2.out _) | (go_at_call_of 73 (Value.slice a6 m6 c6); exact HS3.out _) | (go_at_call_of 73 (Value.slice a8 m8 c8); exact HS4.out _)))
      refine wpQuiet_nil ?_
      intro _ hw'
      obtain ⟨pz, hw''⟩ := hw'
      subst hw''
      clear uXS0 uXS1 uXS2 uXS3 uXR0 uXR1 uXR2 uXR3 uXA0 uXA1 uXA2 uXA3 uXB0 uXB1 uXB2 uXB3 uXC0 uXC1 uXC2 uXC3 uXD0 uXD1 uXD2 uXD3 uXE0 uXE1 uXE2 uXE3 uXF0 uXF1 uXF2 uXF3 uXK0 uXK1 uXK2 uXK3 uXM0 uXM1 uXM2 uXM3 HV1 HV2 HIN HS1 HS2 HS3 HS4
      obtain ⟨WY, hWY⟩ : ∃ WY, WY = pz.W := ⟨_, rfl⟩
      have b8 : Below WZ.heap.size WZ WY := by rw [hWY]; exact pz.h
      rw [← hWY]
      clear hWY pz
      obtain ⟨yXA0, yXA1, yXA2, _, _, _⟩ := (XA9.out.next b8).cells
      have ybXA := blk_lt (XA9.out.next b8).blk
      obtain ⟨yXC0, yXC1, yXC2, _, _, _⟩ := (XC9.out.next b8).cells
      have ybXC := blk_lt (XC9.out.next b8).blk
      obtain ⟨yXE0, yXE1, yXE2, _, _, _⟩ := (XE9.out.next b8).cells
      have ybXE := blk_lt (XE9.out.next b8).blk
      obtain ⟨yXK0, yXK1, yXK2, _, _, _⟩ := (XK9.out.next b8).cells
      have ybXK := blk_lt (XK9.out.next b8).blk
      have HCY := Lib.hid (HC9.out.trans (b8.mono HC9.out.size))
      have TLY : Hid (TL (wc.alloc (.cells #[.bool h, .int .u8 x, .slice aw mw cw] 155)) (WY.alloc (.cells #[.bool n1, .int .u8 k1, .slice a2 m2 c2, .bool h, .int .u8 x, .slice a4 m4 c4, .bool n3, .int .u8 k3, .slice a6 m6 c6, .bool h, .int .u8 x, .slice a8 m8 c8] 131)) WY.heap.size 131 #[.bool n1, .int .u8 k1, .slice a2 m2 c2, .bool h, .int .u8 x, .slice a4 m4 c4, .bool n3, .int .u8 k3, .slice a6 m6 c6, .bool h, .int .u8 x, .slice a8 m8 c8] [(.slice a2 m2 c2, m2), (.slice a4 m4 c4, m4), (.slice a6 m6 c6, m6), (.slice a8 m8 c8, m8)]) := TL.new HCY.out (fun p hp => by
        simp only [List.mem_cons, List.not_mem_nil, or_false] at hp
        rcases hp with rfl | rfl | rfl | rfl
        · exact TurnW.of' (FXA9.out.below b8)
        · exact TurnW.of' (FXC9.out.below b8)
        · exact TurnW.of' (FXE9.out.below b8)
        · exact TurnW.of' (FXK9.out.below b8))
      clear b8 HCY XS9 XW9 XR9 XA9 XB9 XC9 XD9 XE9 XF9 XK9 XM9 FXA9 FXC9 FXE9 FXK9 UA9 UB9 HB9' HC9
      go_wp2_with fail
      go_loopg [34, 35, 182, 189] 4 (fun gg _ _ sk _ wr => ∃ k : Nat, k ≤ 4 ∧ 4 - k ≤ gg ∧ sk = .int .i64 k ∧ Aside (TL (wc.alloc (.cells #[.bool h, .int .u8 x, .slice aw mw cw] 155)) wr WY.heap.size 131 #[.bool n1, .int .u8 k1, .slice a2 m2 c2, .bool h, .int .u8 x, .slice a4 m4 c4, .bool n3, .int .u8 k3, .slice a6 m6 c6, .bool h, .int .u8 x, .slice a8 m8 c8] [(.slice a2 m2 c2, m2), (.slice a4 m4 c4, m4), (.slice a6 m6 c6, m6), (.slice a8 m8 c8, m8)]))
      case atStart => exact ⟨0, Nat.zero_le _, by omega, rfl, TLY.out⟩
      case round =>
        obtain ⟨k, hk, hg, rfl, A⟩ := hrel
        obtain ⟨wo, rfl⟩ : ∃ wo : World, wo = wr := ⟨_, rfl⟩
        have T0 := Lib.hid A.out
        clear TLY A
        by_cases hlt : k < 4
        · have hltz : (k : Int) < 4 := by omega
          obtain ⟨z, z1, a, m, c, e0, e1, e2, hmem, hmm⟩ : ∃ (z : Bool) (z1 : Int) (a : Option Addr) (m c : Nat), (#[.bool n1, .int .u8 k1, .slice a2 m2 c2, .bool h, .int .u8 x, .slice a4 m4 c4, .bool n3, .int .u8 k3, .slice a6 m6 c6, .bool h, .int .u8 x, .slice a8 m8 c8] : Array Value)[k * 3]? = some (.bool z) ∧ (#[.bool n1, .int .u8 k1, .slice a2 m2 c2, .bool h, .int .u8 x, .slice a4 m4 c4, .bool n3, .int .u8 k3, .slice a6 m6 c6, .bool h, .int .u8 x, .slice a8 m8 c8] : Array Value)[k * 3 + 1]? = some (.int .u8 z1) ∧ (#[.bool n1, .int .u8 k1, .slice a2 m2 c2, .bool h, .int .u8 x, .slice a4 m4 c4, .bool n3, .int .u8 k3, .slice a6 m6 c6, .bool h, .int .u8 x, .slice a8 m8 c8] : Array Value)[k * 3 + 2]? = some (.slice a m c) ∧ ((Value.slice a m c, m) ∈ ([(.slice a2 m2 c2, m2), (.slice a4 m4 c4, m4), (.slice a6 m6 c6, m6), (.slice a8 m8 c8, m8)] : List (Value × Nat))) ∧ m ≤ 41 := by
            match k, hlt with
            | 0, _ => exact ⟨_, _, _, _, _, rfl, rfl, rfl, by simp, hM2⟩
            | 1, _ => exact ⟨_, _, _, _, _, rfl, rfl, rfl, by simp, hM4⟩
            | 2, _ => exact ⟨_, _, _, _, _, rfl, rfl, rfl, by simp, hM6⟩
            | 3, _ => exact ⟨_, _, _, _, _, rfl, rfl, rfl, by simp, hM8⟩
          have y0 := T0.out.cell _ _ e0
          have y1 := T0.out.cell _ _ e1
          have y2 := T0.out.cell _ _ e2
          have yb := blk_lt T0.out.blk
          have TA := Lib.hid (T0.out.alloc (.cells #[.bool z, .int .u8 z1, .slice a m c] 131))
          have VA := Lib.hid (heap_alloc_new wo (.cells #[.bool z, .int .u8 z1, .slice a m c] 131))
          have HM := Lib.hid hmem
          clear e0 e1 e2 hmem T0
          go_wp2_with fail
          go_loopg [35, 189] m (fun gg _ sj wi => ∃ j : Nat, j ≤ m ∧ m - j ≤ gg ∧ sj = .int .i64 j ∧ Aside (TL (wc.alloc (.cells #[.bool h, .int .u8 x, .slice aw mw cw] 155)) wi WY.heap.size 131 #[.bool n1, .int .u8 k1, .slice a2 m2 c2, .bool h, .int .u8 x, .slice a4 m4 c4, .bool n3, .int .u8 k3, .slice a6 m6 c6, .bool h, .int .u8 x, .slice a8 m8 c8] [(.slice a2 m2 c2, m2), (.slice a4 m4 c4, m4), (.slice a6 m6 c6, m6), (.slice a8 m8 c8, m8)] ∧ wi.heap[wo.heap.size]? = some (.cells #[.bool z, .int .u8 z1, .slice a m c] 131 (0, 0))))
          case atStart => exact ⟨0, Nat.zero_le _, by omega, rfl, TA.out, VA.out⟩
          case round =>
            obtain ⟨j, hj, hgj, rfl, A⟩ := hrel
            obtain ⟨hT, hV⟩ := A.out
            clear TA VA A y0 y1 y2
            by_cases hjt : j < m
            · have hjz : (j : Int) < (m : Int) := by omega
              obtain ⟨x0, x1, x2, _, _, _⟩ := threeBlk hV
              have xb := blk_lt hV
              obtain ⟨b, off, z', rfl, hBb, hCb, hbs, y, hfz⟩ := (hT.tn _ HM.out).at j hjt
              have hne : wo.heap.size ≠ b := by omega
              have HN : Hid (∀ z'' : Int, TL (wc.alloc (.cells #[.bool h, .int .u8 x, .slice aw mw cw] 155)) (wr.setCell ⟨b, off + j * 3, none⟩ (.int .i64 z'')) WY.heap.size 131 #[.bool n1, .int .u8 k1, .slice a2 m2 c2, .bool h, .int .u8 x, .slice a4 m4 c4, .bool n3, .int .u8 k3, .slice a6 m6 c6, .bool h, .int .u8 x, .slice a8 m8 c8] [(.slice a2 m2 c2, m2), (.slice a4 m4 c4, m4), (.slice a6 m6 c6, m6), (.slice a8 m8 c8, m8)] ∧ (wr.setCell ⟨b, off + j * 3, none⟩ (.int .i64 z'')).heap[wo.heap.size]? = some (.cells #[.bool z, .int .u8 z1, .slice (some ⟨b, off, none⟩) m c] 131 (0, 0))) := fun z'' => ⟨hT.set hBb hCb y z'', blk_set hV hne⟩
              clear hT hV
              go_wp2_with fail
              go_roundg (m - (j + 1))
              case measure => omega
              case rel => exact ⟨j + 1, by omega, by omega, by go_num, HN.out _⟩
            · have hjz : ¬ (j : Int) < (m : Int) := by omega
              have T1 := Lib.hid hT
              clear hT hV
              go_wp2_with fail
              go_roundg (4 - (k + 1))
              case measure => omega
              case rel => exact ⟨k + 1, by omega, by omega, by go_num, T1.out⟩
        · have hltz : ¬ (k : Int) < 4 := by omega
          have hbe := T0.out.bel
          have XSe := Lib.hid (BXS.out.next hbe)
          have XWe := Lib.hid (BXW.out.next hbe)
          have HBe := Lib.hid (BHB.out.trans (hbe.mono BHB.out.size))
          obtain ⟨x0, x1, x2, _, _, _⟩ := XSe.out.cells
          have xb0 := blk_lt XSe.out.blk
          obtain ⟨x3, x4, x5, _, _, _⟩ := XWe.out.cells
          have xb1 := blk_lt XWe.out.blk
          clear T0 hbe
          go_wp2_with fail
          refine (sameBd_c h x _ _ l wo XSe.out.rd XWe.out.rd (by omega)).mono ?_
          rintro e we ⟨rfl, be⟩
          have HBf := Lib.hid (HBe.out.trans (be.mono HBe.out.size))
          clear be XSe XWe HBe x0 x1 x2 x3 x4 x5
          go_wp2_with fail
          refine (awake24_c _).mono ?_
          rintro e wf ⟨rfl, bf⟩
          have HBg := Lib.hid (HBf.out.trans (bf.mono HBf.out.size))
          clear bf
          go_wp2_with fail
          go_ret
          exact ⟨rfl, HBg.out⟩
end Go.Proofs.Ytglbfmcbojjglaa

/-
  The contracts of State.own, slices.IndexFunc and slices.ContainsFunc at messages, State.waits. Conditions: what is read can be read; at most a hundred thousand elements.
-/
import Derived.Test.YtglbfmcbojjglaaQueA
import Derived.Deep.DeepCutAuto
namespace Go.Proofs.Ytglbfmcbojjglaa
open Go.RowKit

theorem Sl.low {w : World} {B sz n g o : Nat} {v u : Value} {xs : List Value} (h : Sl w B sz v n xs) (hg : g < B) : Sl (w.setCell ⟨g, o, none⟩ u) B sz v n xs := by
  obtain ⟨ao, cap, hv, hnc, hno, hl, hp⟩ := h
  refine ⟨ao, cap, hv, hnc, hno, hl, fun h0 => ?_⟩
  obtain ⟨b, off, ha, hB, hb, hc⟩ := hp h0
  exact ⟨b, off, ha, hB, by simpa [World.setCell] using hb, fun j u hu => (World.cell?_of_block (Below.heap_setCell _ _ _ _ (by show b ≠ g; omega))).trans (hc j u hu)⟩
theorem grown_set (w : World) (g o : Nat) (u : Value) : w.grownBy (w.setCell ⟨g, o, none⟩ u) (some g) := ⟨rfl, rfl, rfl, by simp [World.setCell], fun k _ hk => Below.heap_setCell _ _ _ _ (fun e => hk (by rw [e]))⟩
theorem own_low {w : World} {B e s n g o : Nat} {v u : Value} {xs : List Value} (h : w.ownsRow B e s v n xs) (hg : g < B) : (w.setCell ⟨g, o, none⟩ u).ownsRow B e s v n xs := by
  refine h.kept (grown_set w g o u) ?_
  cases hv : v.ownBlock with
  | none => exact .inl rfl
  | some k => exact .inr (by have := (h.lt k hv).1; simp; omega)
/-- A block of another type is written. -/
theorem own_oth {w : World} {B e s n g o t : Nat} {v u : Value} {xs : List Value} {cs : Array Value} {fz : Nat × Nat} (h : w.ownsRow B e s v n xs) (hg : w.heap[g]? = some (.cells cs t fz)) (ht : t ≠ e) : (w.setCell ⟨g, o, none⟩ u).ownsRow B e s v n xs := by
  refine h.kept (grown_set w g o u) ?_
  rcases h.2 with ⟨rfl, _⟩ | ⟨g', cap', cur', rfl, _, hg', _⟩
  · exact .inl rfl
  · right
    intro e1
    simp only [Value.ownBlock, Option.some.injEq] at e1
    subst e1
    rw [hg] at hg'
    simp only [Option.some.injEq, Obj.cells.injEq] at hg'
    exact ht hg'.2.1
section
variable {w : World} {B g o : Nat} {v u : Value} {q : List (List Int)}
theorem RdQ.low (h : RdQ w B v q) (hg : g < B) : RdQ (w.setCell ⟨g, o, none⟩ u) B v q := by
  obtain ⟨vs, h1, h2⟩ := h
  exact ⟨vs, h1.low hg, fun i u x hu hx => (h2 i u x hu hx).low hg⟩
theorem OwnQ.low (h : OwnQ w B v q) (hg : g < B) : OwnQ (w.setCell ⟨g, o, none⟩ u) B v q := by
  obtain ⟨vs, h1, h2⟩ := h
  exact ⟨vs, own_low h1 hg, fun i u x hu hx => own_low (h2 i u x hu hx) hg⟩
theorem OwnQ.oth {t : Nat} {cs : Array Value} {fz : Nat × Nat} (h : OwnQ w B v q) (hg : w.heap[g]? = some (.cells cs t fz)) (ht : t ≠ 28) (ht' : t ≠ 5) : OwnQ (w.setCell ⟨g, o, none⟩ u) B v q := by
  obtain ⟨vs, h1, h2⟩ := h
  exact ⟨vs, own_oth h1 hg ht, fun i u x hu hx => own_oth (h2 i u x hu hx) hg ht'⟩
end

theorem below_un {a w : World} (h : Below a.drew.heap.size a.drew w) : Below a.heap.size a w := ⟨h.os, h.tape, h.output, h.size, h.block⟩

def OwnEnd (w : World) (q : List (List Int)) (l : List Wt) (n : Int) (e : Ending) (w' : World) : Prop :=
  ∃ vq vw, e = .returned (.agg #[vq, vw, .int .i64 n]) ∧ OwnQ w' w.heap.size vq q ∧ FrW w' w.heap.size vw l ∧ Below w.heap.size w w'

theorem threeBlk {W : World} {g : Nat} {x y z : Value} {t : TypeId} (h : W.heap[g]? = some (.cells #[x, y, z] t (0, 0))) :
    W.cell? ⟨g, 0, none⟩ = some x ∧ W.cell? ⟨g, 1, none⟩ = some y ∧ W.cell? ⟨g, 2, none⟩ = some z ∧ W.frozen? ⟨g, 0, none⟩ = false ∧ W.frozen? ⟨g, 1, none⟩ = false ∧ W.frozen? ⟨g, 2, none⟩ = false := by
  refine ⟨?_, ?_, ?_, ?_, ?_, ?_⟩
  · rw [cell_of_row _ _ _ _ _ _ h]; rfl
  · rw [cell_of_row _ _ _ _ _ _ h]; rfl
  · rw [cell_of_row _ _ _ _ _ _ h]; rfl
  · simp [World.frozen?, h]
  · simp [World.frozen?, h]
  · simp [World.frozen?, h]

set_option maxHeartbeats 2000000 in
theorem ownQ_c (vq vw : Value) (q : List (List Int)) (l : List Wt) (n : Int) (w : World) (hq : RdQ w 0 vq q) (hw : RdW w 0 vw l) (hl : l.length ≤ 100000) (hql : q.length ≤ 100000) (hm : ∀ x ∈ q, x.length ≤ 1000000) :
    Calls Try.prog 90 #[.agg #[vq, vw, .int .i64 n]] w (OwnEnd w q l n) := by
  obtain ⟨aq, mq, cq, rfl, hmq⟩ := hq.shape
  clear hmq
  obtain ⟨aw, cw, rfl, hnc, hno, hpw⟩ := hw.open_
  clear hpw
  generalize hmw : l.length = mw at hw ⊢ hnc
  have hmw' := Lib.hid hmw
  clear hmw hnc hno
  obtain ⟨W0, hW0⟩ : ∃ W0, W0 = ((w.alloc (.cells #[.slice aq mq cq, .slice aw mw cw, .int .i64 n] 27)).alloc (.cells #[.slice none 0 0, .slice none 0 0, .int .i64 0] 27)) := ⟨_, rfl⟩
  have HRQ : Hid (RdQ W0 0 (.slice aq mq cq) q) := by subst hW0; exact (hq.alloc _).alloc _
  have HRW : Hid (RdW W0 0 (.slice aw mw cw) l) := by subst hW0; exact (hw.alloc _).alloc _
  have hz0 : W0.heap.size = w.heap.size + 2 := by subst hW0; simp
  have hA0 : W0.heap[w.heap.size]? = some (.cells #[.slice aq mq cq, .slice aw mw cw, .int .i64 n] 27 (0, 0)) := by subst hW0; exact (Below.heap_alloc _ _ _ (by simp)).trans (heap_alloc_new w _)
  have hR0 : W0.heap[w.heap.size + 1]? = some (.cells #[.slice none 0 0, .slice none 0 0, .int .i64 0] 27 (0, 0)) := by
    subst hW0
    have := heap_alloc_new (w.alloc (.cells #[.slice aq mq cq, .slice aw mw cw, .int .i64 n] 27)) (.cells #[.slice none 0 0, .slice none 0 0, .int .i64 0] 27)
    simpa using this
  have HB0 : Hid (Below w.heap.size w W0) := by subst hW0; exact ((Below.refl _ w).alloc (Nat.le_refl _) _).alloc (by simp) _
  have HA0 := Lib.hid hA0
  have HR0 := Lib.hid hR0
  obtain ⟨p0, p1, p2, p3, p4, p5⟩ := threeBlk hA0
  have HM := Lib.hid hm
  clear hq hw hA0 hR0 hm
  go_enter Try.func90, Try.ntmps90
  go_upto_region 1 with (fail)
  rw [← hW0]
  clear hW0
  go_region_with (first
    | (go_at_call 118; (refine (each_c _ q _ (by exact HRQ.out) (by omega) HM.out).mono ?_; rintro e w2 ⟨v2, rfl, ho2, hb2⟩; obtain ⟨a2, m2, c2, rfl, hm2⟩ := ho2.rd.shape; clear hm2; have HO2 := Lib.hid ho2; replace hb2 : Below W0.heap.size W0 w2 := (by first | exact hb2 | exact below_un hb2); have HB2 := Lib.hid hb2; obtain ⟨x20, x21, x22, x23, x24, x25⟩ := threeBlk ((hb2.block _ (by omega)).trans HA0.out); have hs2 : W0.heap.size ≤ w2.heap.size := hb2.size; clear ho2 hb2))
    | (go_at_call 98; (refine (cloneW_c _ l _ (by exact HRW.out.below HB2.out) (by omega)).mono ?_; rintro e w3 ⟨v3, rfl, ho3, hb3⟩; obtain ⟨a3, c3, rfl⟩ := own_slice ho3; have HO3 := Lib.hid ho3; replace hb3 : Below w2.heap.size w2 w3 := (by first | exact hb3 | exact below_un hb3); have HB3 := Lib.hid hb3; obtain ⟨x30, x31, x32, x33, x34, x35⟩ := threeBlk ((hb3.block _ (by omega)).trans ((HB2.out.block _ (by omega)).trans HA0.out)); have hs3 : w2.heap.size ≤ w3.heap.size := hb3.size; obtain ⟨r30, r31, r32, r33, r34, r35⟩ := threeBlk ((hb3.block _ (by omega)).trans ((HB2.out.block _ (by omega)).trans HR0.out)); clear ho3 hb3)))
  all_goals
    go_wp2
    refine bodyPost_ret (v := .agg #[.slice a2 m2 c2, .slice a3 l.length c3, .int .i64 n]) (by simp [results, Try.results90, go_sem, r30, r31, r32]) rfl ?_
    have h2 : OwnQ w2 W0.heap.size (.slice a2 m2 c2) q := HO2.out
    have h3 : FrW w3 w2.heap.size (.slice a3 l.length c3) l := FrW.of_own HO3.out
    have h2' := h2.below HB3.out
    have hB : Below w.heap.size w w3 := HB0.out.trans ((HB2.out.trans (HB3.out.mono hs2)).mono (by omega))
    refine ⟨_, _, rfl, ?_, ?_, ?_⟩
    · exact (((((h2'.low (by omega)).low (by omega)).low (by omega)).low (by omega)).low (by omega)).mono (by omega)
    · exact (((((h3.low (by omega)).low (by omega)).low (by omega)).low (by omega)).low (by omega)).mono (by omega)
    · exact ((((hB.setCell (p := ⟨w.heap.size, 0, none⟩) (by show _ ≤ w.heap.size; omega) _).setCell (p := ⟨w.heap.size, 1, none⟩) (by show _ ≤ w.heap.size; omega) _).setCell (p := ⟨w.heap.size + 1, 0, none⟩) (by show _ ≤ w.heap.size + 1; omega) _).setCell (p := ⟨w.heap.size + 1, 1, none⟩) (by show _ ≤ w.heap.size + 1; omega) _).setCell (p := ⟨w.heap.size + 1, 2, none⟩) (by show _ ≤ w.heap.size + 1; omega) _
end Go.Proofs.Ytglbfmcbojjglaa

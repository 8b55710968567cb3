/-
  Plain facts for BoardConserves: what an operation on a valid buffer does. No conditions.
-/
import Derived.Test.YtglbfmcbojjglaaPlainI
import Derived.Test.YtglbfmcbojjglaaPlainD
import Derived.Test.YtglbfmcbojjglaaPlainE
namespace Go.Proofs.Ytglbfmcbojjglaa
open Go.RowKit

theorem vldBu_iff {n : Int} {d : List Int} {p g : List Wt} : vldBu n d p g = true ↔ (1 ≤ n ∧ n ≤ 16 ∧ (d.length : Int) ≤ n ∧ OrdW p ∧ OrdW g ∧ (p = [] ∨ (d.length : Int) = n) ∧ (g = [] ∨ d = []) ∧ ∀ x ∈ g, x.val = 0) := by
  unfold vldBu
  simp only [Bool.and_eq_true, decide_eq_true_eq, Bool.or_eq_true, beq_iff_eq, Bool.not_eq_true', List.any_eq_false, bne_iff_ne, ne_eq, Decidable.not_not, List.length_eq_zero_iff]
  constructor
  · rintro ⟨⟨⟨⟨⟨⟨a, b⟩, c⟩, d1, d2⟩, e⟩, f⟩, h⟩; exact ⟨a, b, c, d1, d2, e, f, h⟩
  · rintro ⟨a, b, c, d1, d2, e, f, h⟩; exact ⟨⟨⟨⟨⟨⟨a, b⟩, c⟩, d1, d2⟩, e⟩, f⟩, h⟩

theorem mayB_iff {p g : List Wt} {q : Int} (hq : 0 ≤ q) : mayB p g q = true ↔ (∀ x ∈ p, x.proc ≠ q) ∧ ∀ x ∈ g, x.proc ≠ q := by
  unfold mayB
  simp only [decide_eq_true hq, Bool.true_and, Bool.not_eq_true', List.any_eq_false, List.mem_append, decide_eq_true_eq]
  exact ⟨fun h => ⟨fun x hx => h x (.inl hx), fun x hx => h x (.inr hx)⟩, fun h x hx => hx.elim (h.1 x) (h.2 x)⟩

theorem OrdW.tail {x : Wt} {m : List Wt} (h : OrdW (x :: m)) : OrdW m ∧ 0 ≤ x.proc := ⟨h.drop 1, h.1 x (by simp)⟩

theorem put_ways {n : Int} {d : List Int} {p g : List Wt} {q : Int} (r v : Int) (hv : vldBu n d p g = true) (hq : 0 ≤ q) :
    (putBu n d p g q r v = (d, p, g, false, -1, 2)) ∨
    (∃ x m, d = [] ∧ p = [] ∧ g = x :: m ∧ 0 ≤ x.proc ∧ putBu n d p g q r v = (d, p, m, true, x.proc, 0) ∧ vldBu n d p m = true) ∨
    (g = [] ∧ p = [] ∧ putBu n d p g q r v = (d ++ [v], p, g, true, -1, 0) ∧ vldBu n (d ++ [v]) p g = true) ∨
    (g = [] ∧ (∀ x ∈ p, x.proc ≠ q) ∧ putBu n d p g q r v = (d, enterW p ⟨q, r, v⟩, g, false, -1, 0) ∧ vldBu n d (enterW p ⟨q, r, v⟩) g = true) := by
  cases hm : mayB p g q
  · exact .inl (put_bad (by rw [hm, Bool.and_false]))
  · have hb : (vldBu n d p g && mayB p g q) = true := by rw [hv, hm]; rfl
    obtain ⟨h1, h2, h3, h4, h5, h6, h7, h8⟩ := vldBu_iff.1 hv
    obtain ⟨m1, m2⟩ := (mayB_iff hq).1 hm
    cases g with
    | cons x m =>
      obtain rfl : d = [] := h7.resolve_left (by simp)
      obtain rfl : p = [] := h6.resolve_right (by simp; omega)
      exact .inr (.inl ⟨x, m, rfl, rfl, rfl, h5.tail.2, put_wake hb rfl, vldBu_iff.2 ⟨h1, h2, h3, h4, h5.tail.1, .inl rfl, .inr rfl, fun y hy => h8 y (by simp [hy])⟩⟩)
    | nil =>
      by_cases hl : (d.length : Int) < n
      · obtain rfl : p = [] := h6.resolve_right (by omega)
        exact .inr (.inr (.inl ⟨rfl, rfl, put_store hb rfl hl, vldBu_iff.2 ⟨h1, h2, by simp; omega, h4, h5, .inl rfl, .inl rfl, by simp⟩⟩))
      · exact .inr (.inr (.inr ⟨rfl, m1, put_wait hb rfl hl, vldBu_iff.2 ⟨h1, h2, h3, h4.enter hq m1, h5, .inr (by omega), .inl rfl, by simp⟩⟩))

theorem get_ways {n : Int} {d : List Int} {p g : List Wt} {q : Int} (r : Int) (hv : vldBu n d p g = true) (hq : 0 ≤ q) :
    (getBu n d p g q r = (d, p, g, 0, false, -1, 2)) ∨
    (d = [] ∧ p = [] ∧ getBu n d p g q r = (d, p, enterW g ⟨q, r, 0⟩, 0, false, -1, 0) ∧ vldBu n d p (enterW g ⟨q, r, 0⟩) = true) ∨
    (∃ y t x m, d = y :: t ∧ p = x :: m ∧ 0 ≤ x.proc ∧ getBu n d p g q r = (t ++ [x.val], m, g, y, true, x.proc, 0) ∧ vldBu n (t ++ [x.val]) m g = true) ∨
    (∃ y t, d = y :: t ∧ p = [] ∧ getBu n d p g q r = (t, p, g, y, true, -1, 0) ∧ vldBu n t p g = true) := by
  cases hm : mayB p g q
  · exact .inl (get_bad (by rw [hm, Bool.and_false]))
  · have hb : (vldBu n d p g && mayB p g q) = true := by rw [hv, hm]; rfl
    obtain ⟨h1, h2, h3, h4, h5, h6, h7, h8⟩ := vldBu_iff.1 hv
    obtain ⟨m1, m2⟩ := (mayB_iff hq).1 hm
    cases d with
    | nil =>
      obtain rfl : p = [] := h6.resolve_right (by simp; omega)
      refine .inr (.inl ⟨rfl, rfl, get_wait hb rfl, vldBu_iff.2 ⟨h1, h2, h3, h4, h5.enter hq m2, .inl rfl, .inr rfl, fun y hy => ?_⟩⟩)
      rcases enterW_mem.1 hy with rfl | hy
      · rfl
      · exact h8 y hy
    | cons y t =>
      obtain rfl : g = [] := h7.resolve_right (by simp)
      simp only [List.length_cons] at h3 h6
      cases p with
      | cons x m =>
        have h6' := h6.resolve_left (by simp)
        exact .inr (.inr (.inl ⟨y, t, x, m, rfl, rfl, h4.tail.2, get_wake hb rfl rfl, vldBu_iff.2 ⟨h1, h2, by simp; omega, h4.tail.1, h5, .inr (by simp; omega), .inl rfl, by simp⟩⟩))
      | nil => exact .inr (.inr (.inr ⟨y, t, rfl, rfl, get_take hb rfl rfl, vldBu_iff.2 ⟨h1, h2, by omega, h4, h5, .inl rfl, .inl rfl, by simp⟩⟩))

theorem canc_ways {n : Int} {d : List Int} {p g : List Wt} (q : Int) (hv : vldBu n d p g = true) :
    cancBu n d p g q = (leaveW p q, leaveW g q, 0) ∧ vldBu n d (leaveW p q) (leaveW g q) = true := by
  obtain ⟨h1, h2, h3, h4, h5, h6, h7, h8⟩ := vldBu_iff.1 hv
  refine ⟨by simp [cancBu, hv], vldBu_iff.2 ⟨h1, h2, h3, h4.leave q, h5.leave q, ?_, ?_, fun y hy => h8 y (leave_mem.1 hy).1⟩⟩
  · rcases h6 with rfl | h6
    · exact .inl rfl
    · exact .inr h6
  · rcases h7 with rfl | h7
    · exact .inl rfl
    · exact .inr h7

theorem leave_count {l : List Wt} {q : Int} (h : l.Pairwise (fun a b => a.proc ≠ b.proc)) : (leaveW l q).length + (if l.any (fun x => decide (x.proc = q)) then 1 else 0) = l.length := by
  cases ha : l.any (fun x => decide (x.proc = q))
  · have hn : ∀ x ∈ l, x.proc ≠ q := fun x hx e => by
      have := List.any_eq_false.1 ha x hx
      simp [e] at this
    have : leaveW l q = l := by
      unfold leaveW
      rw [List.filter_eq_self]
      intro x hx
      simpa using hn x hx
    simp [this]
  · obtain ⟨x, hx, hq⟩ := List.any_eq_true.1 ha
    obtain ⟨k, hk, rfl⟩ := List.getElem_of_mem hx
    have h1 := leave_one h hk (of_decide_eq_true hq)
    simp only [if_true]
    omega
end Go.Proofs.Ytglbfmcbojjglaa

/-
  Plain facts for QueuingFifo: what an operation on a valid state does. No conditions.
-/
import Derived.Test.YtglbfmcbojjglaaPlainG
import Derived.Test.YtglbfmcbojjglaaPlainJ
namespace Go.Proofs.Ytglbfmcbojjglaa
open Go.RowKit

theorem vldQ_iff {k s d r : Int} {q : List (List Int)} {l : List Wt} {n : Int} : vldQ k s d r q l n = true ↔ (badP k s d r = false ∧ (q.length : Int) ≤ d ∧ (q = [] ∨ l = []) ∧ 0 ≤ n ∧ n ≤ 1073741824 ∧ OrdW l ∧ (∀ x ∈ q, badM s x = false) ∧ ∀ x ∈ l, x.val = 0) := by
  unfold vldQ badS
  simp only [Bool.and_eq_true, Bool.not_eq_true', Bool.or_eq_false_iff, decide_eq_false_iff_not, Bool.and_eq_false_iff, List.any_eq_false, bne_iff_ne, ne_eq, Decidable.not_not, Int.not_lt]
  constructor
  · rintro ⟨⟨⟨a, ⟨⟨⟨b, c⟩, e⟩, f⟩, g⟩, h⟩, i⟩
    refine ⟨a, b, ?_, e, f, by simpa using g, fun x hx => by simpa using h x hx, i⟩
    rcases c with c | c
    · left; exact List.eq_nil_of_length_eq_zero (by omega)
    · right; exact List.eq_nil_of_length_eq_zero (by omega)
  · rintro ⟨a, b, c, e, f, g, h, i⟩
    refine ⟨⟨⟨a, ⟨⟨⟨b, ?_⟩, e⟩, f⟩, by simpa using g⟩, fun x hx => by simpa using h x hx⟩, i⟩
    rcases c with rfl | rfl
    · left; simp
    · right; simp
theorem vldQ_d {k s d r : Int} {q : List (List Int)} {l : List Wt} {n : Int} (h : vldQ k s d r q l n = true) : q.length ≤ 16 ∧ ∀ x ∈ q, x.length ≤ 64 := by
  obtain ⟨h1, h2, _, _, _, _, h7, _⟩ := vldQ_iff.1 h
  have hb : d ≤ 16 ∧ s ≤ 64 := by
    simp only [badP, Bool.or_eq_false_iff, decide_eq_false_iff_not] at h1
    omega
  refine ⟨by omega, fun x hx => ?_⟩
  have := h7 x hx
  simp only [badM, Bool.or_eq_false_iff, decide_eq_false_iff_not] at this
  omega
theorem send_ways {k s d r : Int} {q : List (List Int)} {l : List Wt} {n : Int} (hv : vldQ k s d r q l n = true) (hn : n ≤ 1000) (x : List Int) :
    (sendQ k s d r q l n x = (q, l, n, -1, 2)) ∨ (sendQ k s d r q l n x = (q, l, n, -1, 3)) ∨
    (∃ y m, l = y :: m ∧ q = [] ∧ 0 ≤ y.proc ∧ sendQ k s d r q l n x = (q, m, n, y.proc, 0) ∧ vldQ k s d r q m n = true) ∨
    (l = [] ∧ sendQ k s d r q l n x = (q, l, n + 1, -1, 4) ∧ vldQ k s d r q l (n + 1) = true) ∨
    (l = [] ∧ sendQ k s d r q l n x = (q ++ [x], l, n, -1, 0) ∧ vldQ k s d r (q ++ [x]) l n = true) := by
  obtain ⟨h1, h2, h3, h4, h5, h6, h7, h8⟩ := vldQ_iff.1 hv
  by_cases hx : x = []
  · exact .inl (by simp [sendQ, hx])
  · by_cases hs : s < (x.length : Int)
    · exact .inr (.inl (by simp [sendQ, hv, hx, hs]))
    · cases l with
      | cons y m =>
        obtain rfl : q = [] := h3.resolve_right (by simp)
        exact .inr (.inr (.inl ⟨y, m, rfl, rfl, h6.tail.2, by simp [sendQ, hv, hx, hs], vldQ_iff.2 ⟨h1, h2, .inl rfl, h4, h5, h6.tail.1, h7, fun z hz => h8 z (by simp [hz])⟩⟩))
      | nil =>
        by_cases hq : (q.length : Int) = d
        · exact .inr (.inr (.inr (.inl ⟨rfl, by simp [sendQ, hv, hx, hs, hq, show n < 1073741824 by omega], vldQ_iff.2 ⟨h1, h2, .inr rfl, by omega, by omega, h6, h7, h8⟩⟩)))
        · refine .inr (.inr (.inr (.inr ⟨rfl, by simp [sendQ, hv, hx, hs, hq], vldQ_iff.2 ⟨h1, by simp; omega, .inr rfl, h4, h5, h6, fun z hz => ?_, h8⟩⟩)))
          rw [List.mem_append, List.mem_singleton] at hz
          rcases hz with hz | rfl
          · exact h7 z hz
          · have h0 : 0 < z.length := List.length_pos_iff.2 hx
            simp only [badM, Bool.or_eq_false_iff, decide_eq_false_iff_not]
            omega
theorem recv_ways {k s d r : Int} {q : List (List Int)} {l : List Wt} {n : Int} (hv : vldQ k s d r q l n = true) {p : Int} (hp : 0 ≤ p) (u : Int) :
    (recvQ k s d r q l n p u = (q, l, [], false, 2)) ∨ (∃ x t, q = x :: t ∧ recvQ k s d r q l n p u = (t, l, x, true, 0) ∧ vldQ k s d r t l n = true) ∨
    (q = [] ∧ recvQ k s d r q l n p u = (q, enterW l ⟨p, u, 0⟩, [], false, 0) ∧ vldQ k s d r q (enterW l ⟨p, u, 0⟩) n = true) := by
  obtain ⟨h1, h2, h3, h4, h5, h6, h7, h8⟩ := vldQ_iff.1 hv
  cases hm : mayL l p
  · exact .inl (by simp [recvQ, hm])
  · cases q with
    | cons x t =>
      simp only [List.length_cons] at h2
      exact .inr (.inl ⟨x, t, rfl, by simp [recvQ, hv, hm], vldQ_iff.2 ⟨h1, by omega, .inr (h3.resolve_left (by simp)), h4, h5, h6, fun z hz => h7 z (by simp [hz]), h8⟩⟩)
    | nil =>
      have hno : ∀ y ∈ l, y.proc ≠ p := fun y hy e => (mayL_iff hp).1 hm ⟨y, hy, e⟩
      refine .inr (.inr ⟨rfl, by simp [recvQ, hv, hm], vldQ_iff.2 ⟨h1, h2, .inl rfl, h4, h5, h6.enter hp hno, h7, fun z hz => ?_⟩⟩)
      rcases enterW_mem.1 hz with rfl | hz
      · rfl
      · exact h8 z hz
theorem take_ways {k s d r : Int} {q : List (List Int)} {l : List Wt} {n : Int} (hv : vldQ k s d r q l n = true) :
    (∃ x t, q = x :: t ∧ takeQ k s d r q l n = (t, x, 0) ∧ vldQ k s d r t l n = true) ∨ (q = [] ∧ takeQ k s d r q l n = (q, [], 6)) := by
  obtain ⟨h1, h2, h3, h4, h5, h6, h7, h8⟩ := vldQ_iff.1 hv
  cases q with
  | cons x t =>
    simp only [List.length_cons] at h2
    exact .inl ⟨x, t, rfl, by simp [takeQ, hv], vldQ_iff.2 ⟨h1, by omega, .inr (h3.resolve_left (by simp)), h4, h5, h6, fun z hz => h7 z (by simp [hz]), h8⟩⟩
  | nil => exact .inr ⟨rfl, by simp [takeQ, hv]⟩
theorem cancQ_ways {k s d r : Int} {q : List (List Int)} {l : List Wt} {n : Int} (hv : vldQ k s d r q l n = true) (p : Int) : cancQ k s d r q l n p = (leaveW l p, 0) ∧ vldQ k s d r q (leaveW l p) n = true := by
  obtain ⟨h1, h2, h3, h4, h5, h6, h7, h8⟩ := vldQ_iff.1 hv
  refine ⟨by simp [cancQ, hv], vldQ_iff.2 ⟨h1, h2, ?_, h4, h5, h6.leave p, h7, fun z hz => h8 z (leave_mem.1 hz).1⟩⟩
  rcases h3 with rfl | rfl
  · exact .inl rfl
  · exact .inr rfl
end Go.Proofs.Ytglbfmcbojjglaa

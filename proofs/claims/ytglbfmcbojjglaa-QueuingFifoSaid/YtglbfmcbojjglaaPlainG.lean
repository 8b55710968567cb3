/-
  Plain facts for QueuingWrong and QueuingBounds. No conditions.
-/
import Derived.Test.YtglbfmcbojjglaaPlainF
namespace Go.Proofs.Ytglbfmcbojjglaa

theorem vldQ_q {k s d r : Int} (h : vldQ k s d r [] [] 0 = true) {q : List (List Int)} {n : Int} (hq : (q.length : Int) ≤ d) (hm : ∀ x ∈ q, 1 ≤ x.length ∧ (x.length : Int) ≤ s) (h0 : 0 ≤ n) (h1 : n ≤ 1073741824) : vldQ k s d r q [] n = true := by
  obtain ⟨_, _, h3, _, h5⟩ := vldQ_port h
  have ha : q.any (badM s) = false := by
    rw [List.any_eq_false]
    intro x hx
    have := hm x hx
    simp [badM]
    omega
  have hs : badS d n q.length 0 (decide (OrdW [])) = false := by
    have : OrdW [] := OrdW.nil
    simp [badS, this]
    omega
  simp only [vldQ, List.length_nil, List.any_nil, h5, hs, ha]
  rfl

theorem send_bad {k s d r n : Int} {q : List (List Int)} {l : List Wt} (h : vldQ k s d r q l n = false) (x : List Int) : sendQ k s d r q l n x = (q, l, n, -1, 2) := by simp [sendQ, h]
theorem recv_bad {k s d r n : Int} {q : List (List Int)} {l : List Wt} (h : vldQ k s d r q l n = false) (p u : Int) : recvQ k s d r q l n p u = (q, l, [], false, 2) := by simp [recvQ, h]
theorem take_bad {k s d r n : Int} {q : List (List Int)} {l : List Wt} (h : vldQ k s d r q l n = false) : takeQ k s d r q l n = (q, [], 2) := by simp [takeQ, h]
theorem canc_bad {k s d r n : Int} {q : List (List Int)} {l : List Wt} (h : vldQ k s d r q l n = false) (p : Int) : cancQ k s d r q l n p = (l, 2) := by simp [cancQ, h]
theorem recv_neg {k s d r n : Int} {q : List (List Int)} (u : Int) : recvQ k s d r q [] n (-1) u = (q, [], [], false, 2) := by simp [recvQ, mayL]

/-- A message is stored. -/
theorem send_in {k s d r n : Int} {q : List (List Int)} {x : List Int} (h : vldQ k s d r q [] n = true) (h1 : x ≠ []) (h2 : (x.length : Int) ≤ s) (h3 : (q.length : Int) ≠ d) : sendQ k s d r q [] n x = (q ++ [x], [], n, -1, 0) := by
  have h2' : ¬ s < (x.length : Int) := by omega
  simp [sendQ, h, h1, h2', h3]
theorem send_long {k s d r n : Int} {q : List (List Int)} {l : List Wt} {x : List Int} (h : vldQ k s d r q l n = true) (h1 : x ≠ []) (h2 : s < (x.length : Int)) : sendQ k s d r q l n x = (q, l, n, -1, 3) := by
  simp [sendQ, h, h1, h2]
theorem send_full {k s d r n : Int} {q : List (List Int)} {x : List Int} (h : vldQ k s d r q [] n = true) (h1 : x ≠ []) (h2 : (x.length : Int) ≤ s) (h3 : (q.length : Int) = d) (hn : n < 1073741824) : sendQ k s d r q [] n x = (q, [], n + 1, -1, 4) := by
  have h2' : ¬ s < (x.length : Int) := by omega
  simp [sendQ, h, h1, h2', h3, hn]

theorem send_five {k s d r : Int} (h : vldQ k s d r [] [] 0 = true) : sendQ k s d r [] [] 0 [5] = ([[5]], [], 0, -1, 0) := by
  obtain ⟨h1, _, h3, _, _⟩ := vldQ_port h
  exact send_in h (by simp) (by simpa using h1) (by simp; omega)

theorem wr0 (s d r : Int) : vldQ 1 s d r [[5]] [] 0 = false := by simp [vldQ, badP]
theorem wr1 (k d r : Int) : vldQ k 65 d r [[5]] [] 0 = false := by simp [vldQ, badP]
theorem wr2 (k s r : Int) : vldQ k s 0 r [[5]] [] 0 = false := by simp [vldQ, badP]
theorem wr3 (k s d : Int) : vldQ k s d 1 [[5]] [] 0 = false := by simp [vldQ, badP]
theorem wr4 (k s d r : Int) : vldQ k s d r [[5]] [⟨0, 0, 0⟩] 0 = false := by simp [vldQ, badS]
theorem wr5 (k s d r : Int) : vldQ k s d r [[]] [] 0 = false := by simp [vldQ, badM]
theorem wr6 (k s d r : Int) : vldQ k s d r [[5]] [] (-1) = false := by simp [vldQ, badS]
theorem wr7 (k s d r : Int) : vldQ k s d r [] [⟨1, 0, 0⟩, ⟨1, 0, 0⟩] 0 = false := by
  have : decide (OrdW [⟨1, 0, 0⟩, ⟨1, 0, 0⟩]) = false := by decide
  simp [vldQ, badS, this]
theorem wr8 (k s d r : Int) : vldQ k s d r [] [⟨1, 0, 1⟩] 0 = false := by simp [vldQ]

/-- The messages of QueuingBounds: the j-th has 1 + j % s zeros. -/
def qz (s : Nat) (i : Nat) : List (List Int) := (List.range i).map (fun j => List.replicate (1 + j % s) 0)
theorem qz_length (s i : Nat) : (qz s i).length = i := by simp [qz]
theorem qz_succ (s i : Nat) : qz s (i + 1) = qz s i ++ [List.replicate (1 + i % s) 0] := by simp [qz, List.range_succ]
theorem qz_el {s i : Nat} (hs : 1 ≤ s) {x : List Int} (hx : x ∈ qz s i) : 1 ≤ x.length ∧ (x.length : Int) ≤ s := by
  simp only [qz, List.mem_map, List.mem_range] at hx
  obtain ⟨j, _, rfl⟩ := hx
  have := Nat.mod_lt j (show 0 < s by omega)
  simp
  omega
theorem qz_head (s i : Nat) : qz s (i + 1) = [0] :: (qz s (i + 1)).tail := by
  simp [qz, List.range_succ_eq_map]
theorem vldQ_qz {k d r : Int} {s : Nat} (h : vldQ k s d r [] [] 0 = true) {i : Nat} (hi : (i : Int) ≤ d) {n : Int} (h0 : 0 ≤ n) (h1 : n ≤ 1073741824) : vldQ k s d r (qz s i) [] n = true :=
  vldQ_q h (by rw [qz_length]; exact hi) (fun x hx => qz_el (by have := (vldQ_port h).1; omega) hx) h0 h1
theorem send_qz {k d r : Int} {s : Nat} (h : vldQ k s d r [] [] 0 = true) {i : Nat} (hi : (i : Int) < d) : sendQ k s d r (qz s i) [] 0 (List.replicate (1 + i % s) 0) = (qz s (i + 1), [], 0, -1, 0) := by
  have hs := (vldQ_port h).1
  have hm := Nat.mod_lt i (show 0 < s by omega)
  rw [send_in (vldQ_qz h (by omega) (by omega) (by omega)) (by simp) (by simp; omega) (by rw [qz_length]; omega), qz_succ]
theorem send_qz_full {k r : Int} {s d : Nat} (h : vldQ k s d r [] [] 0 = true) {n : Int} (h0 : 0 ≤ n) (h1 : n < 1000) : sendQ k s d r (qz s d) [] n (List.replicate s 0) = (qz s d, [], n + 1, -1, 4) := by
  have hs := (vldQ_port h).1
  exact send_full (vldQ_qz h (by omega) (by omega) (by omega)) (by intro e; have := congrArg List.length e; simp at this; omega) (by simp) (by rw [qz_length]) (by omega)
theorem take_qz {k r : Int} {s d : Nat} (h : vldQ k s d r [] [] 0 = true) {n : Int} (h0 : 0 ≤ n) (h1 : n < 1000) : takeQ k s d r (qz s d) [] n = ((qz s d).tail, [0], 0) := by
  have hd := (vldQ_port h).2.2.1
  obtain ⟨e, rfl⟩ : ∃ e, d = e + 1 := ⟨d - 1, by omega⟩
  unfold takeQ
  rw [vldQ_qz h (by omega) (by omega) (by omega), qz_head]
  simp
theorem qz_tail_el {s d : Nat} (hs : 1 ≤ s) {x : List Int} (hx : x ∈ (qz s d).tail) : 1 ≤ x.length ∧ (x.length : Int) ≤ s := qz_el hs (List.mem_of_mem_tail hx)
theorem send_tail {k r : Int} {s d : Nat} (h : vldQ k s d r [] [] 0 = true) {n : Int} (h0 : 0 ≤ n) (h1 : n < 1000) : sendQ k s d r (qz s d).tail [] n (List.replicate s 0) = ((qz s d).tail ++ [List.replicate s 0], [], n, -1, 0) := by
  have hs := (vldQ_port h).1
  have hd := (vldQ_port h).2.2.1
  exact send_in (vldQ_q h (by rw [List.length_tail, qz_length]; omega) (fun x hx => qz_tail_el (by omega) hx) (by omega) (by omega)) (by intro e; have := congrArg List.length e; simp at this; omega) (by simp) (by rw [List.length_tail, qz_length]; omega)
theorem send_again {k r : Int} {s d : Nat} (h : vldQ k s d r [] [] 0 = true) {n : Int} (h0 : 0 ≤ n) (h1 : n < 1000) : sendQ k s d r ((qz s d).tail ++ [List.replicate s 0]) [] n (List.replicate s 0) = ((qz s d).tail ++ [List.replicate s 0], [], n + 1, -1, 4) := by
  have hs := (vldQ_port h).1
  have hd := (vldQ_port h).2.2.1
  have hl : (((qz s d).tail ++ [List.replicate s (0 : Int)]).length : Int) = d := by rw [List.length_append, List.length_tail, qz_length]; simp; omega
  refine send_full (vldQ_q h (by omega) (fun x hx => ?_) (by omega) (by omega)) (by intro e; have := congrArg List.length e; simp at this; omega) (by simp) hl (by omega)
  rw [List.mem_append, List.mem_singleton] at hx
  rcases hx with hx | rfl
  · exact qz_tail_el (by omega) hx
  · simp; omega
end Go.Proofs.Ytglbfmcbojjglaa

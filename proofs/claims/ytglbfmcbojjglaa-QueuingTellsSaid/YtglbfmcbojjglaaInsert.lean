/-
  The contract of slices.Insert at waiting lists: one element goes into a row of the caller's own. Conditions: the place lies inside the list; at most a million elements.
-/
import Derived.Test.YtglbfmcbojjglaaRows3
import Derived.Test.YtglbfmcbojjglaaSlices
namespace Go.Proofs.Ytglbfmcbojjglaa
open Go.RowKit

def insW (l : List Wt) (i : Nat) (x : Wt) : List Wt := l.take i ++ x :: l.drop i

theorem insW_cells (l : List Wt) (i : Nat) (x : Wt) : cellsW (insW l i x) = (cellsW l).take (i * 3) ++ (encW x ++ (cellsW l).drop (i * 3)) := by
  rw [insW, cellsW_append, cellsW_cons, cellsW_take, cellsW_drop]
theorem insW_length (l : List Wt) (i : Nat) (x : Wt) (hi : i ≤ l.length) : (insW l i x).length = l.length + 1 := by
  simp [insW]; omega

theorem size_W : (Try.prog.info? 56).map (·.size) = some 3 := by
  obtain ⟨i0, hi, _, h1, _⟩ := info_parts info_W
  rw [hi]; simp [h1]

set_option maxHeartbeats 1000000 in
/-- In place: there is room, the place is ahead of the end. -/
theorem insert_shift (g vb n cap i : Nat) (cur : List Value) (x : Wt) (w : World) (hi : i < n) (hroom : n + 1 ≤ cap) (hn : n ≤ 1000000) (hcap : cap ≤ maxLen) (hne : vb ≠ g)
    (hg : w.heap[g]? = some (.cells cur.toArray 56 (0, 0))) (hcs : cur.length = cap * 3) (h1 : ∀ u ∈ cur.take (n * 3), u.oneCell' = true)
    (hv : w.heap[vb]? = some (.cells (encW x).toArray 56 (0, 0))) :
    Calls Try.prog 97 #[.slice (some ⟨g, 0, none⟩) n cap, .int .i64 i, .slice (some ⟨vb, 0, none⟩) 1 1] w fun e w' =>
      e = .returned (.slice (some ⟨g, 0, none⟩) (n + 1) cap) ∧
      w'.heap[g]? = some (.cells (splice (splice cur ((i + 1) * 3) ((cur.take (n * 3)).drop (i * 3))) (i * 3) (encW x)).toArray 56 (0, 0)) ∧ w.grownBy w' (some g) := by
  have hlenx : (encW x).length = 3 := rfl
  obtain ⟨X, hX⟩ : ∃ X, X = encW x := ⟨_, rfl⟩
  rw [← hX] at hv hlenx ⊢
  have h1x : ∀ u ∈ X, u.oneCell' = true := by subst hX; intro u hu; simp [encW] at hu; rcases hu with rfl | rfl | rfl <;> rfl
  clear hX
  have hcap' : cap ≤ 9223372036854775807 := by simpa [maxLen] using hcap
  obtain ⟨cs, hcsd⟩ : ∃ cs, cs = (cur.take (n * 3)).drop (i * 3) := ⟨_, rfl⟩
  have hcl : cs.length = (n - i) * 3 := by subst hcsd; simp; omega
  have hc1 : ∀ u ∈ cs, u.oneCell' = true := by subst hcsd; intro u hu; exact h1 u (List.mem_of_mem_drop hu)
  have hcc : ∀ j v, cs[j]? = some v → w.cell? ⟨g, i * 3 + j, none⟩ = some v := by
    intro j v hj
    subst hcsd
    rw [List.getElem?_drop, List.getElem?_take] at hj
    split at hj
    · rw [cell_of_row w g _ _ _ _ hg]; simpa using hj
    · cases hj
  rw [← hcsd]
  clear hcsd h1
  have hov : ∀ lb cb, (callFunc 124 #[.slice (some ⟨vb, 0, none⟩) 1 1, .slice (some ⟨g, (i + 1) * 3, none⟩) lb cb]).run Try.prog w = .ok (.value (.bool false)) w := fun lb cb => by
    rw [run_callFunc_extern Try.func124 (by kernel_rfl) (by kernel_rfl) (by kernel_rfl) (e := Extern.SlicesOverlaps.overlaps #[25, 25] #[4]) (by kernel_rfl),
      Lib.run_overlaps_apart w 25 4 56 Try.underlying25 3 Try.sizeOf56 ⟨vb, 0, none⟩ ⟨g, (i + 1) * 3, none⟩ 1 1 lb cb hne 56 56 3 (cap * 3) (by simp [World.shape?, hv, hlenx]) (by simp [World.shape?, hg, hcs]) (by omega) (by simp [World.frozen?, hv]) (by simp [World.frozen?, hv])]
    rfl
  have hcp1 : ∀ ty dc sc, (Builtin.copy_ #[25, 25] ty #[.slice (some ⟨g, (i + 1) * 3, none⟩) (n - i) dc, .slice (some ⟨g, i * 3, none⟩) (n + 1 - i) sc]).run Try.prog w.drew = .ok (goInt (n - i)) (w.drew.setRow g (splice cur ((i + 1) * 3) cs).toArray) := fun ty dc sc => by
    rw [run_copyN w.drew _ _ ty 56 3 g ((i + 1) * 3) (n - i) dc ⟨g, i * 3, none⟩ (n + 1 - i) sc cur _ cs Try.underlying25 size_W hg (by rw [hcl]; simp only [Nat.min_def]; split <;> omega)
      (fun j v hj => by rw [addr_add]; exact hcc j v hj) (by omega) hc1]
    congr 2
    simp only [Nat.min_def]; split <;> omega
  have hg1 : (w.drew.setRow g (splice cur ((i + 1) * 3) cs).toArray).heap[g]? = some (.cells (splice cur ((i + 1) * 3) cs).toArray 56 (0, 0)) := setRow_heap w.drew g _ _ _ _ hg
  have hv1 : (w.drew.setRow g (splice cur ((i + 1) * 3) cs).toArray).heap[vb]? = some (.cells X.toArray 56 (0, 0)) := (setRow_other w.drew g vb _ hne).trans hv
  have hb1 : w.grownBy (w.drew.setRow g (splice cur ((i + 1) * 3) cs).toArray) (some g) := ⟨rfl, rfl, rfl, by simp [World.setRow], fun k _ hk => setRow_other w.drew g k _ (fun e => hk (by rw [e]))⟩
  have hl1 : (splice cur ((i + 1) * 3) cs).length = cur.length := length_splice _ _ _ (by omega)
  obtain ⟨W1, hW1⟩ : ∃ W1, W1 = w.drew.setRow g (splice cur ((i + 1) * 3) cs).toArray := ⟨_, rfl⟩
  obtain ⟨C1, hC1⟩ : ∃ C1, C1 = splice cur ((i + 1) * 3) cs := ⟨_, rfl⟩
  rw [← hW1] at hcp1 hg1 hv1 hb1
  rw [← hC1] at hg1 hl1 ⊢
  clear hW1 hC1
  have hcp2 : ∀ ty dc, (Builtin.copy_ #[25, 25] ty #[.slice (some ⟨g, i * 3, none⟩) (n + 1 - i) dc, .slice (some ⟨vb, 0, none⟩) 1 1]).run Try.prog W1 = .ok (goInt 1) (W1.setRow g (splice C1 (i * 3) X).toArray) := fun ty dc => by
    rw [run_copyN W1 _ _ ty 56 3 g (i * 3) (n + 1 - i) dc ⟨vb, 0, none⟩ 1 1 C1 _ X Try.underlying25 size_W hg1 (by rw [hlenx]; simp only [Nat.min_def]; split <;> omega)
      (fun j v hj => by rw [addr_add, cell_of_row W1 vb _ _ _ _ hv1]; simpa using hj) (by omega) h1x]
    congr 2
    simp only [Nat.min_def]; split <;> omega
  have hfin : (W1.setRow g (splice C1 (i * 3) X).toArray).heap[g]? = some (.cells (splice C1 (i * 3) X).toArray 56 (0, 0)) := setRow_heap W1 g _ _ _ _ hg1
  have hfb : w.grownBy (W1.setRow g (splice C1 (i * 3) X).toArray) (some g) := ⟨hb1.os, hb1.tape, hb1.output, by simpa [World.setRow] using hb1.size, fun k hk hne => (setRow_other W1 g k _ (fun e => hne (by rw [e]))).trans (hb1.block k hk hne)⟩
  have HF := Lib.hid hfin
  have HB := Lib.hid hfb
  clear hfin hfb hg hv hg1 hv1 hb1 hcc hc1 h1x hcs hcl hl1 hlenx hcap
  have hne0 : ((i : Int) == (n : Int)) = false := by simp; omega
  have hle : ¬ ((cap : Int) < (n : Int) + 1) := by omega
  have hci : ¬ (cap = i + 1) := by omega
  have hci2 : ¬ (cap = i) := by omega
  have htn : ((i : Int) + 1).toNat = i + 1 := by omega
  have hw1 : IntKind.i64.wrap ((i : Int) + 1) = (i : Int) + 1 := by rw [IntKind.wrap_i64]; omega
  have hb1 : (0 : Int) ≤ (i : Int) + 1 := by omega
  have hin : i ≤ n := by omega
  have hb3 : (i : Int) ≤ (n : Int) + 1 := by omega
  go_enter Try.func97, Try.ntmps97
  go_wp2_with (simp only [hov])
  go_region
  go_wp2
  go_ret
  exact ⟨rfl, HF.out, HB.out⟩

theorem zeros_W (m : Nat) : (Builtin.zeroCells (Value.cells (.agg #[.int .i64 0, .int .i64 0, .int .u8 0])) m).toList.length = m * 3 := by
  rw [Array.length_toList, size_zeroCells]
  rfl

set_option maxHeartbeats 1000000 in
/-- No room: a new row. -/
theorem insert_grow (g vb n cap i : Nat) (cur : List Value) (x : Wt) (w : World) (hi : i < n) (hnc : n ≤ cap) (hroom : cap < n + 1) (hn : n ≤ 1000000)
    (hg : w.heap[g]? = some (.cells cur.toArray 56 (0, 0))) (hcs : cur.length = cap * 3) (h1 : ∀ u ∈ cur.take (n * 3), u.oneCell' = true)
    (hv : w.heap[vb]? = some (.cells (encW x).toArray 56 (0, 0))) :
    Calls Try.prog 97 #[.slice (some ⟨g, 0, none⟩) n cap, .int .i64 i, .slice (some ⟨vb, 0, none⟩) 1 1] w fun e w' =>
      ∃ (newCap : Nat) (R : List Value), e = .returned (.slice (some ⟨w.heap.size, 0, none⟩) (n + 1) newCap) ∧ n + 1 ≤ newCap ∧ newCap ≤ maxLen ∧ R.length = newCap * 3 ∧ R.take ((n + 1) * 3) = cur.take (i * 3) ++ (encW x ++ (cur.take (n * 3)).drop (i * 3)) ∧
      w'.heap[w.heap.size]? = some (.cells R.toArray 56 (0, 0)) ∧ w.grownBy w' none := by
  obtain rfl : n = cap := by omega
  clear hnc hroom
  have hgl : g < w.heap.size := (Array.getElem?_eq_some_iff.1 hg).1
  have hvl : vb < w.heap.size := (Array.getElem?_eq_some_iff.1 hv).1
  have hlenx : (encW x).length = 3 := rfl
  obtain ⟨X, hX⟩ : ∃ X, X = encW x := ⟨_, rfl⟩
  rw [← hX] at hv hlenx ⊢
  have h1x : ∀ u ∈ X, u.oneCell' = true := by subst hX; intro u hu; simp [encW] at hu; rcases hu with rfl | rfl | rfl <;> rfl
  clear hX
  obtain ⟨i0, hi0, hz0, hz1, hz2⟩ := info_parts info_W
  obtain ⟨A1, hA1⟩ : ∃ A1, A1 = cur.take (i * 3) := ⟨_, rfl⟩
  have hA1l : A1.length = i * 3 := by subst hA1; simp; omega
  have hA1c : ∀ j v, A1[j]? = some v → w.cell? ⟨g, 0 + j, none⟩ = some v := by
    intro j v hj
    subst hA1
    rw [List.getElem?_take] at hj
    split at hj
    · rw [cell_of_row w g _ _ _ _ hg]; simpa using hj
    · cases hj
  obtain ⟨A2, hA2⟩ : ∃ A2, A2 = (cur.take (n * 3)).drop (i * 3) := ⟨_, rfl⟩
  have hA2l : A2.length = (n - i) * 3 := by subst hA2; simp; omega
  have hA21 : ∀ u ∈ A2, u.oneCell' = true := by subst hA2; intro u hu; exact h1 u (List.mem_of_mem_drop hu)
  have hA2c : ∀ j v, A2[j]? = some v → w.cell? ⟨g, i * 3 + j, none⟩ = some v := by
    intro j v hj
    subst hA2
    rw [List.getElem?_drop, List.getElem?_take] at hj
    split at hj
    · rw [cell_of_row w g _ _ _ _ hg]; simpa using hj
    · cases hj
  rw [← hA1, ← hA2]
  clear hA1 hA2 h1
  have hap := fun ty => run_append_zeros (P := Try.prog) w 25 3 ty 56 i0 _ .i64 .i64 Try.underlying25 Try.underlying3 hi0 hz0 (by omega) ⟨g, 0, none⟩ i n (n + 1 - i) ((n : Int) + 1 - (i : Int)) (by omega) (by omega) A1 (by rw [hz1]; exact hA1l) (fun j v hj => by rw [addr_add]; exact hA1c j v hj) (by omega) (by omega) (by rw [hz2]; omega)
  have hge := grownCap_ge w (i + (n + 1 - i)) n 56
  have hle := grownCap_le_maxLen w (i + (n + 1 - i)) n 56 (by unfold maxLen; omega)
  generalize grownCap w (i + (n + 1 - i)) n 56 = nc at hap hge hle
  have hzl := zeros_W (n + 1 - i)
  have hzl2 := zeros_W (nc - (i + (n + 1 - i)))
  obtain ⟨Z, hZ⟩ : ∃ Z, Z = (Builtin.zeroCells (Value.cells (.agg #[.int .i64 0, .int .i64 0, .int .u8 0])) (n + 1 - i)).toList ++ (Builtin.zeroCells (Value.cells (.agg #[.int .i64 0, .int .i64 0, .int .u8 0])) (nc - (i + (n + 1 - i)))).toList := ⟨_, rfl⟩
  rw [← hZ] at hap
  have hZl : Z.length = (nc - i) * 3 := by rw [hZ, List.length_append, hzl, hzl2]; omega
  clear hZ hzl hzl2
  have e1 : i + (n + 1 - i) = n + 1 := by omega
  rw [e1] at hap hge
  obtain ⟨W0, hW0⟩ : ∃ W0, W0 = w.drew.alloc (.cells (A1 ++ Z).toArray 56) := ⟨_, rfl⟩
  have hg0 : W0.heap[w.heap.size]? = some (.cells (A1 ++ Z).toArray 56 (0, 0)) := by subst hW0; exact heap_alloc_new w.drew _
  have hb0 : w.grownBy W0 none := by subst hW0; exact ⟨rfl, rfl, rfl, by simp, fun k hk _ => Below.heap_alloc w.drew _ k hk⟩
  rw [← hW0] at hap
  clear hW0
  have hR0 : (A1 ++ Z).length = nc * 3 := by rw [List.length_append, hA1l, hZl]; omega
  obtain ⟨R0, hR0e⟩ : ∃ R0, R0 = A1 ++ Z := ⟨_, rfl⟩
  rw [← hR0e] at hg0 hR0
  -- the first copy
  have hcp1 : ∀ ty dc, (Builtin.copy_ #[25, 25] ty #[.slice (some ⟨w.heap.size, i * 3, none⟩) (n + 1 - i) dc, .slice (some ⟨vb, 0, none⟩) 1 1]).run Try.prog W0 = .ok (goInt ((1 : Nat) : Int)) (W0.setRow w.heap.size (splice R0 (i * 3) X).toArray) := fun ty dc => by
    rw [run_copyN W0 _ _ ty 56 3 w.heap.size (i * 3) (n + 1 - i) dc ⟨vb, 0, none⟩ 1 1 R0 _ X Try.underlying25 size_W hg0 (by rw [hlenx]; simp only [Nat.min_def]; split <;> omega)
      (fun j v hj => by rw [addr_add, hb0.cell (by rw [cell_of_row w vb _ _ _ _ hv]; simpa using hj) (by simp)]) (by omega) h1x, show Nat.min 1 (n + 1 - i) = 1 by simp only [Nat.min_def]; split <;> omega]
  have hg1 : (W0.setRow w.heap.size (splice R0 (i * 3) X).toArray).heap[w.heap.size]? = some (.cells (splice R0 (i * 3) X).toArray 56 (0, 0)) := setRow_heap W0 _ _ _ _ _ hg0
  have hb1 : w.grownBy (W0.setRow w.heap.size (splice R0 (i * 3) X).toArray) none := ⟨hb0.os, hb0.tape, hb0.output, by simpa [World.setRow] using hb0.size, fun k hk hne => (setRow_other W0 _ k _ (by omega)).trans (hb0.block k hk hne)⟩
  have hl1 : (splice R0 (i * 3) X).length = R0.length := length_splice _ _ _ (by omega)
  obtain ⟨W1, hW1⟩ : ∃ W1, W1 = W0.setRow w.heap.size (splice R0 (i * 3) X).toArray := ⟨_, rfl⟩
  obtain ⟨R1, hR1⟩ : ∃ R1, R1 = splice R0 (i * 3) X := ⟨_, rfl⟩
  rw [← hW1] at hcp1 hg1 hb1
  rw [← hR1] at hg1 hl1
  clear hW1
  have hcp2 : ∀ ty dc sc, (Builtin.copy_ #[25, 25] ty #[.slice (some ⟨w.heap.size, (i + 1) * 3, none⟩) (n - i) dc, .slice (some ⟨g, i * 3, none⟩) (n - i) sc]).run Try.prog W1.drew = .ok (goInt ((n - i : Nat) : Int)) (W1.drew.setRow w.heap.size (splice R1 ((i + 1) * 3) A2).toArray) := fun ty dc sc => by
    rw [run_copyN W1.drew _ _ ty 56 3 w.heap.size ((i + 1) * 3) (n - i) dc ⟨g, i * 3, none⟩ (n - i) sc R1 _ A2 Try.underlying25 size_W hg1 (by rw [hA2l]; simp only [Nat.min_def]; split <;> omega)
      (fun j v hj => by rw [addr_add]; exact hb1.cell (hA2c j v hj) (by simp)) (by omega) hA21, show Nat.min (n - i) (n - i) = n - i by simp only [Nat.min_def]; split <;> omega]
  have hg2 : (W1.drew.setRow w.heap.size (splice R1 ((i + 1) * 3) A2).toArray).heap[w.heap.size]? = some (.cells (splice R1 ((i + 1) * 3) A2).toArray 56 (0, 0)) := setRow_heap W1.drew _ _ _ _ _ hg1
  have hb2 : w.grownBy (W1.drew.setRow w.heap.size (splice R1 ((i + 1) * 3) A2).toArray) none := ⟨hb1.os, hb1.tape, hb1.output, by simpa [World.setRow] using hb1.size, fun k hk hne => (setRow_other W1.drew _ k _ (by omega)).trans (hb1.block k hk hne)⟩
  have hfl : (splice R1 ((i + 1) * 3) A2).length = nc * 3 := by rw [length_splice _ _ _ (by omega)]; omega
  have hft : (splice R1 ((i + 1) * 3) A2).take ((n + 1) * 3) = A1 ++ (X ++ A2) := by
    subst hR1 hR0e
    have e2 : splice (A1 ++ Z) (i * 3) X = A1 ++ (X ++ Z.drop 3) := by
      unfold splice
      rw [← hA1l, List.take_left, List.drop_append, hlenx]
      simp
    rw [e2]
    have e3 : (A1 ++ (X ++ Z.drop 3)) = (A1 ++ X) ++ Z.drop 3 := by simp
    have e4 : (i + 1) * 3 = (A1 ++ X).length := by rw [List.length_append, hA1l, hlenx]; omega
    unfold splice
    rw [e3, e4, List.take_left]
    have e5 : (n + 1) * 3 = ((A1 ++ X) ++ A2).length := by rw [List.length_append, ← e4, hA2l]; omega
    rw [← List.append_assoc, e5, List.take_left, List.append_assoc]
  have HF := Lib.hid (And.intro hge (And.intro hle (And.intro hfl (And.intro hft (And.intro hg2 hb2)))))
  clear hge hle hfl hft hg2 hb2 hg hv hg0 hg1 hb0 hb1 hA1c hA2c hA21 h1x hcs hl1 hlenx hA1l hA2l hZl hR0 hR0e hR1 hi0 hz0 hz1 hz2
  have hne0 : ((i : Int) == (n : Int)) = false := by simp; omega
  have hci : ¬ (n = i) := by omega
  have hci2 : ¬ (nc = i) := by have := HF.out.1; omega
  have hci3 : ¬ (nc = i + 1) := by have := HF.out.1; omega
  have hbn : n + 1 ≤ nc := HF.out.1
  have htn : ((i : Int) + 1).toNat = i + 1 := by omega
  have hw1 : IntKind.i64.wrap ((i : Int) + 1) = (i : Int) + 1 := by rw [IntKind.wrap_i64]; omega
  have hb1 : (0 : Int) ≤ (i : Int) + 1 := by omega
  have hin : i ≤ n := by omega
  have hb3 : (i : Int) ≤ (n : Int) + 1 := by omega
  have hb4 : (i : Int) ≤ (n : Int) := by omega
  go_enter Try.func97, Try.ntmps97
  go_wp2_with (at_builtin; refine Lib.wpList_append_run _ rfl _ _ 25 3 rfl _ _ rfl rfl _ _ (hap _) ?_)
  go_region
  go_wp2
  go_ret
  exact ⟨nc, _, rfl, HF.out⟩

set_option maxHeartbeats 1000000 in
set_option maxRecDepth 100000 in
/-- At the end: an append. -/
theorem insert_end (base : Nat) (v : Value) (l : List Wt) (vb : Nat) (x : Wt) (w : World) (hown : w.ownsRow base 56 3 v l.length (cellsW l)) (hbase : base ≤ w.heap.size) (hn : l.length ≤ 1000000)
    (hv : w.heap[vb]? = some (.cells (encW x).toArray 56 (0, 0))) :
    Calls Try.prog 97 #[v, .int .i64 l.length, .slice (some ⟨vb, 0, none⟩) 1 1] w fun e w' =>
      ∃ v', e = .returned v' ∧ w'.ownsRow base 56 3 v' (l.length + 1) (cellsW l ++ encW x) ∧ w.grownBy w' v.ownBlock := by
  obtain ⟨i0, hi, hz0, hz1, hz2⟩ := info_parts info_W
  have hsh : ∃ ao cap, v = .slice ao l.length cap ∧ l.length ≤ cap := by
    rcases hown.2 with ⟨rfl, h0⟩ | ⟨g, cap, cur, rfl, _, _, hnc, _⟩
    · exact ⟨none, 0, by rw [h0], by omega⟩
    · exact ⟨_, _, rfl, hnc⟩
  obtain ⟨ao, cap, rfl, hnc⟩ := hsh
  have hcc : cap = l.length ∨ ¬ cap = l.length := by omega
  have HO := Lib.hid hown
  have HV : Hid (∀ j u, (encW x)[j]? = some u → w.cell? ((⟨vb, 0, none⟩ : Addr).add j) = some u) := fun j u hu => by
    rw [addr_add, cell_of_row w vb _ _ _ _ hv]; simpa using hu
  have H1 : Hid (∀ u ∈ encW x, u.oneCell' = true) := by intro u hu; simp [encW] at hu; rcases hu with rfl | rfl | rfl <;> rfl
  clear hown hv
  have hle : (l.length : Int) ≤ (l.length : Int) := Int.le_refl _
  rcases hcc with rfl | hcc
  all_goals
    go_enter Try.func97, Try.ntmps97
    go_wp2_with (at_builtin; refine wpList_append_own _ rfl _ _ 25 rfl base 56 i0 (.agg #[.int .i64 0, .int .i64 0, .int .u8 0]) 3 24 Try.underlying25 hi hz0 hz1 hz2 rfl (by decide) _ _ _ rfl HO.out ⟨vb, 0, none⟩ 1 1 (encW x) rfl rfl HV.out H1.out (by unfold maxLen; omega) (by omega) hbase ?_; intro v' w1 hown1 hgrow1 _)
    go_ret
    exact ⟨_, rfl, by assumption, by assumption⟩

theorem shift_take (C D X : List Value) (i n : Nat) (hX : X.length = 3) (hD : D.length = (n - i) * 3) (hl : (n + 1) * 3 ≤ C.length) (hi : i ≤ n) :
    (splice (splice C ((i + 1) * 3) D) (i * 3) X).take ((n + 1) * 3) = C.take (i * 3) ++ (X ++ D) := by
  have ha : (C.take ((i + 1) * 3)).length = (i + 1) * 3 := by rw [List.length_take]; omega
  have h1 : (splice C ((i + 1) * 3) D).take (i * 3) = C.take (i * 3) := by
    unfold splice
    rw [List.take_append_of_le_length (by omega), List.take_take, Nat.min_eq_left (by omega)]
  have h2 : (splice C ((i + 1) * 3) D).drop (i * 3 + X.length) = D ++ C.drop ((i + 1) * 3 + D.length) := by
    unfold splice
    rw [show i * 3 + X.length = (C.take ((i + 1) * 3)).length by omega, List.drop_left]
  have h3 : splice (splice C ((i + 1) * 3) D) (i * 3) X = C.take (i * 3) ++ (X ++ D) ++ C.drop ((i + 1) * 3 + D.length) := by
    rw [splice, h1, h2]; simp
  rw [h3, show (n + 1) * 3 = (C.take (i * 3) ++ (X ++ D)).length by rw [List.length_append, List.length_append, hD, hX, List.length_take]; omega, List.take_left]

/-- THE CONTRACT: one element goes into a row of the caller's own. -/
theorem insertW_c (base : Nat) (v : Value) (l : List Wt) (vb i : Nat) (x : Wt) (w : World) (hown : w.ownsRow base 56 3 v l.length (cellsW l)) (hbase : base ≤ w.heap.size) (hn : l.length ≤ 1000000) (hi : i ≤ l.length)
    (hv : w.heap[vb]? = some (.cells (encW x).toArray 56 (0, 0))) (hne : v.ownBlock ≠ some vb) :
    Calls Try.prog 97 #[v, .int .i64 i, .slice (some ⟨vb, 0, none⟩) 1 1] w fun e w' =>
      ∃ v', e = .returned v' ∧ w'.ownsRow base 56 3 v' (insW l i x).length (cellsW (insW l i x)) ∧ w.grownBy w' v.ownBlock := by
  rw [insW_length l i x hi]
  by_cases hil : i = l.length
  · subst hil
    refine (insert_end base v l vb x w hown hbase hn hv).mono ?_
    rintro e w' ⟨v', rfl, ho, hg⟩
    refine ⟨v', rfl, ?_, hg⟩
    have : cellsW (insW l l.length x) = cellsW l ++ encW x := by simp [insW, cellsW_append, cellsW_cons, cellsW_nil]
    rw [this]; exact ho
  · rcases hown.2 with ⟨rfl, h0⟩ | ⟨g, cap, cur, rfl, hbg, hg, hnc, hcm, hcs, htake⟩
    · omega
    · have h1 : ∀ u ∈ cur.toList.take (l.length * 3), u.oneCell' = true := by rw [htake]; exact oneW l
      have hgl : g < w.heap.size := (Array.getElem?_eq_some_iff.1 hg).1
      have hxl : (encW x).length = 3 := rfl
      have hcl := cellsW_length l
      have hins := insW_cells l i x
      have hil2 := insW_length l i x hi
      have himl := cellsW_length (insW l i x)
      by_cases hroom : l.length + 1 ≤ cap
      · refine (insert_shift g vb l.length cap i cur.toList x w (by omega) hroom hn hcm (fun e => hne (by simp [Value.ownBlock, e])) (by simpa using hg) (by simpa using hcs) h1 hv).mono ?_
        rintro e w' ⟨rfl, hg', hgr⟩
        refine ⟨_, rfl, ⟨by rw [himl, hil2], .inr ⟨g, cap, _, rfl, hbg, hg', hroom, hcm, ?_, ?_⟩⟩, hgr⟩
        · rw [htake]
          simp only [List.size_toArray]
          rw [length_splice _ _ _ (by rw [length_splice _ _ _ (by simp [hcl]; omega)]; simp; omega), length_splice _ _ _ (by simp [hcl]; omega)]
          simpa using hcs
        · rw [htake, hins]
          have hcur : cur.toList.length = cap * 3 := by simpa using hcs
          have hdl : ((cellsW l).drop (i * 3)).length = (l.length - i) * 3 := by rw [List.length_drop, hcl]; omega
          have htk : cur.toList.take (i * 3) = (cellsW l).take (i * 3) := by rw [← htake, List.take_take, Nat.min_eq_left (by omega)]
          have := shift_take cur.toList ((cellsW l).drop (i * 3)) (encW x) i l.length hxl hdl (by omega) hi
          rw [htk] at this
          exact this
      · refine (insert_grow g vb l.length cap i cur.toList x w (by omega) hnc (by omega) hn (by simpa using hg) (by simpa using hcs) h1 hv).mono ?_
        rintro e w' ⟨nc, R, rfl, hge, hle, hRl, hRt, hg', hgr⟩
        refine ⟨_, rfl, ⟨by rw [himl, hil2], .inr ⟨w.heap.size, nc, _, rfl, hbase, hg', hge, hle, by simpa using hRl, ?_⟩⟩, ⟨hgr.os, hgr.tape, hgr.output, hgr.size, fun k hk _ => hgr.block k hk (by simp)⟩⟩
        rw [htake] at hRt
        show R.take _ = _
        rw [hRt, hins, ← htake, List.take_take, Nat.min_eq_left (by omega)]
end Go.Proofs.Ytglbfmcbojjglaa

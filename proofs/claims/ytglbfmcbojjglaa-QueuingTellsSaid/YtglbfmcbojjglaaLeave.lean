/-
  The contracts of slices.DeleteFunc at waiting lists and of queuing.Leave. Conditions: the list can be read and has at most a hundred thousand elements.
-/
import Derived.Test.YtglbfmcbojjglaaEnter
namespace Go.Proofs.Ytglbfmcbojjglaa
open Go.RowKit

/-- A predicate that reads below block B alone. -/
def PredB (g : Nat) (lb : Array Value) (p : Wt → Bool) (B : Nat) (w : World) : Prop :=
  ∀ (W : World) (x : Wt), Below B w W → Calls Try.prog g (#[.agg #[.int .i64 x.proc, .int .i64 x.prio, .int .u8 x.val]] ++ lb) W fun e w' => e = .returned (.bool (p x)) ∧ Below W.heap.size W w'

theorem PredB.predW {g : Nat} {lb : Array Value} {p : Wt → Bool} {B : Nat} {w : World} (h : PredB g lb p B w) (hB : B ≤ w.heap.size) : PredW g lb p w := fun W x hW =>
  (h W x (hW.mono hB)).mono fun _ _ ⟨he, hb⟩ => ⟨he, hW.trans (hb.mono hW.size)⟩

theorem cells_set (R : List Wt) (S : List Value) (i : Nat) (x : Wt) (hi : i < R.length) :
    ((((cellsW R ++ S).toArray.setIfInBounds (i * 3) (.int .i64 x.proc)).setIfInBounds (i * 3 + 1) (.int .i64 x.prio)).setIfInBounds (i * 3 + 2) (.int .u8 x.val)) = (cellsW (R.set i x) ++ S).toArray := by
  have hR : R = R.take i ++ R[i] :: R.drop (i + 1) := by rw [← List.drop_eq_getElem_cons hi, List.take_append_drop]
  have hs : R.set i x = R.take i ++ x :: R.drop (i + 1) := by
    rw [List.set_eq_take_append_cons_drop, if_pos hi]
  have ht : (cellsW (R.take i)).length = i * 3 := by rw [cellsW_length, List.length_take]; omega
  rw [hs]
  conv => lhs; rw [hR]
  rw [cellsW_append, cellsW_cons, cellsW_append, cellsW_cons]
  generalize cellsW (R.take i) = A at *
  generalize cellsW (R.drop (i + 1)) = D
  simp only [List.setIfInBounds_toArray, encW]
  congr 1
  rw [← ht]
  simp

theorem run_clearW (w : World) (ty : TypeId) (g o n c : Nat) (cur : List Value) (hg : w.heap[g]? = some (.cells cur.toArray 56 (0, 0))) (hn : 0 < n) (hfit : o + n * 3 ≤ cur.length) :
    ∃ Z : List Value, Z.length = n * 3 ∧ (Builtin.clear_ #[25] ty #[.slice (some ⟨g, o, none⟩) n c]).run Try.prog w = .ok (.tuple #[]) (w.setRow g (splice cur o Z).toArray) := by
  obtain ⟨i0, hi0, hz0, hz1, hz2⟩ := info_parts info_W
  refine ⟨(Builtin.zeroCells (Value.cells (.agg #[.int .i64 0, .int .i64 0, .int .u8 0])) n).toList, zeros_W n, ?_⟩
  have hl := zeros_W n
  have h1 : ∀ v ∈ (Builtin.zeroCells (Value.cells (.agg #[.int .i64 0, .int .i64 0, .int .u8 0])) n).toList, v.oneCell' = true := by
    intro v hv
    simp only [Builtin.zeroCells, Array.toList_map, List.mem_map] at hv
    obtain ⟨j, _, rfl⟩ := hv
    have : j % (Value.cells (.agg #[.int .i64 0, .int .i64 0, .int .u8 0])).size < 3 := Nat.mod_lt _ (by decide)
    generalize j % (Value.cells (.agg #[.int .i64 0, .int .i64 0, .int .u8 0])).size = m at this
    match m, this with
    | 0, _ => rfl
    | 1, _ => rfl
    | 2, _ => rfl
  have hst := run_storeCells_at Try.prog g o 56 _ 0 cur.toArray w hg (by rw [hl]; simpa using hfit) h1
  cases n with
  | zero => omega
  | succ n =>
    simp only [Nat.add_zero] at hst
    simp [Builtin.clear_, run_underlying Try.underlying25, zeroValue, typeInfo, hi0, hz0, hst, splice]

def DelEnd (B b cap len : Nat) (m : List Wt) (w : World) (e : Ending) (w' : World) : Prop :=
  ∃ R : List Value, e = .returned (.slice (some ⟨b, 0, none⟩) m.length cap) ∧ w'.heap[b]? = some (.cells R.toArray 56 (0, 0)) ∧ R.length = len ∧ R.take (m.length * 3) = cellsW m ∧ Below B w w'

set_option maxHeartbeats 1000000 in
theorem deleteW_hit (g lb) (p : Wt → Bool) (eg : ∀ args w, (callFunc g args).run Try.prog w = .ok (.enter g args) w) (b cap B : Nat) (l : List Wt) (S : List Value) (w : World)
    (hg : w.heap[b]? = some (.cells (cellsW l ++ S).toArray 56 (0, 0))) (hBb : B ≤ b) (hBw : B ≤ w.heap.size) (hcap : l.length ≤ cap) (hl : l.length ≤ 100000) (hp : PredB g lb p B w) (hany : l.any p = true) :
    Calls Try.prog 99 #[.slice (some ⟨b, 0, none⟩) l.length cap, .func (.func g) #[] lb] w fun e w' =>
      DelEnd B b cap (cellsW l ++ S).length (l.filter (fun x => !p x)) w e w' := by
  have hbw : b < w.heap.size := (Array.getElem?_eq_some_iff.1 hg).1
  have hrd : RdW w 0 (.slice (some ⟨b, 0, none⟩) l.length cap) l := by
    refine ⟨_, cap, rfl, hcap, (by intro h; cases h), cellsW_length l, fun _ => ⟨b, 0, rfl, Nat.zero_le _, hbw, fun j u hu => ?_⟩⟩
    rw [cell_of_row w b _ _ _ _ hg]
    have hj := (List.getElem?_eq_some_iff.1 hu).1
    simp only [Nat.zero_add, List.getElem?_toArray]
    rw [List.getElem?_append_left hj]; exact hu
  have hidx := Lib.hid (indexW_c _ l g lb p eg w hrd (by omega) (hp.predW hBw))
  obtain ⟨k, hk, hpk, hbk⟩ : ∃ k, ∃ hk : k < l.length, p l[k] = true ∧ ∀ j (_ : j < k) (hjl : j < l.length), p l[j] = false := by
    refine ⟨l.findIdx p, ?_, ?_, ?_⟩
    · rw [List.findIdx_lt_length]; simpa using hany
    · exact List.findIdx_getElem
    · intro j hj hjl; simpa using List.not_of_lt_findIdx hj
  have hf : firstAt p l = (k : Int) := firstAt_hit p l k hk hpk hbk
  rw [hf] at hidx
  clear hf hany hrd
  have HP := Lib.hid hp
  have HG := Lib.hid hg
  have HK : Hid (p l[k] = true ∧ ∀ j (_ : j < k) (hjl : j < l.length), p l[j] = false) := ⟨hpk, hbk⟩
  clear hp hg hpk hbk
  have hk1 : ((k : Int) == -1) = false := by simp
  go_enter Try.func99, Try.ntmps99
  go_wp2_with fail
  refine hidx.out.mono ?_
  rintro e w1 ⟨rfl, hb1⟩
  have HB1 := Lib.hid hb1
  clear hb1 hidx
  go_wp2_with fail
  go_loopg [5, 6, 7] l.length (fun gg s5 s6 _ wr => ∃ (i j : Nat) (R : List Wt), s5 = .int .i64 i ∧ s6 = .int .i64 j ∧ j ≤ l.length ∧ i < j ∧ l.length - j ≤ gg ∧
    Aside (wr.heap[b]? = some (.cells (cellsW R ++ S).toArray 56 (0, 0)) ∧ R.length = l.length ∧ R.take i = (l.take j).filter (fun x => !p x) ∧ R.drop j = l.drop j ∧ Below B w wr))
  case atStart =>
    refine ⟨k, k + 1, l, rfl, by go_num, by omega, by omega, by omega, (HB1.out.block b hbw).trans HG.out, rfl, ?_, rfl, HB1.out.mono hBw⟩
    rw [List.take_succ_eq_append_getElem hk, List.filter_append]
    have h0 : [l[k]].filter (fun x => !p x) = [] := by simp [HK.out.1]
    rw [h0, List.append_nil, eq_comm, List.filter_eq_self]
    intro a ha
    obtain ⟨j, hj, rfl⟩ := List.getElem_of_mem ha
    rw [List.getElem_take]
    simp only [List.length_take] at hj
    simp [HK.out.2 j (by omega) (by omega)]
  case round =>
    obtain ⟨i, j, R, rfl, rfl, hj, hij, hgg, A⟩ := hrel
    obtain ⟨hgr, hRl, hRt, hRd, hBr⟩ := A.out
    have hbr : b < wr.heap.size := (Array.getElem?_eq_some_iff.1 hgr).1
    by_cases hlt : j < l.length
    · have hltz : (j : Int) < (l.length : Int) := by omega
      have hjR : R[j]'(by omega) = l[j] := by
        have := congrArg (fun t => t[0]?) hRd
        simp only [List.getElem?_drop, Nat.add_zero] at this
        rw [List.getElem?_eq_getElem (by omega), List.getElem?_eq_getElem hlt] at this
        exact Option.some.inj this
      have hcc : ∀ m u, m < 3 → (encW l[j])[m]? = some u → wr.cell? ⟨b, j * 3 + m, none⟩ = some u := fun m u hm hu => by
        rw [cell_of_row wr b _ _ _ _ hgr]
        simp only [List.getElem?_toArray]
        rw [List.getElem?_append_left (by rw [cellsW_length]; omega), cellsW_get R j m (by omega) hm, hjR]
        exact hu
      have c0 : wr.cell? ⟨b, j * 3, none⟩ = some (.int .i64 l[j].proc) := hcc 0 _ (by omega) rfl
      have c1 : wr.cell? ⟨b, j * 3 + 1, none⟩ = some (.int .i64 l[j].prio) := hcc 1 _ (by omega) rfl
      have c2 : wr.cell? ⟨b, j * 3 + 2, none⟩ = some (.int .u8 l[j].val) := hcc 2 _ (by omega) rfl
      have hcall := HP.out (wr.alloc (.cells #[.int .i64 l[j].proc, .int .i64 l[j].prio, .int .u8 l[j].val] 56)) l[j] (hBr.alloc (Nat.le_trans hBw hBr.size) _)
      have HR : Hid (wr.heap[b]? = some (.cells (cellsW R ++ S).toArray 56 (0, 0)) ∧ R.length = l.length ∧ R.take i = (l.take j).filter (fun x => !p x) ∧ R.drop j = l.drop j ∧ Below B w wr) := ⟨hgr, hRl, hRt, hRd, hBr⟩
      clear hcc hgr hRl hRt hRd hBr hjR A
      have htk : Hid (l.take (j + 1) = l.take j ++ [l[j]]) := List.take_succ_eq_append_getElem hlt
      have hdr : Hid (R.drop (j + 1) = l.drop (j + 1)) := by
        have := congrArg (fun t => t.drop 1) HR.out.2.2.2.1
        rw [List.drop_drop, List.drop_drop] at this
        exact this
      generalize l[j] = y at c0 c1 c2 hcall htk
      cases hq : p y with
      | true =>
        rw [hq] at hcall
        have HC := Lib.hid hcall
        have HQ := Lib.hid hq
        clear hcall hq
        go_wp2_with (refine HC.out.mono ?_; rintro e w2 ⟨rfl, hb2⟩; have HB2 := Lib.hid hb2; clear hb2)
        go_roundg (l.length - (j + 1))
        case measure => omega
        case rel =>
          obtain ⟨hgr, hRl, hRt, hRd, hBr⟩ := HR.out
          have hB2 : Below wr.heap.size wr w2 := ((Below.refl _ wr).alloc (Nat.le_refl _) _).trans (HB2.out.mono (by simp))
          refine ⟨i, j + 1, R, rfl, by go_num, by omega, by omega, by omega, (hB2.block b hbr).trans hgr, hRl, ?_, hdr.out, hBr.trans (hB2.mono (Nat.le_trans hBw hBr.size))⟩
          rw [htk.out, List.filter_append, hRt]
          simp [HQ.out]
      | false =>
        rw [hq] at hcall
        have HC := Lib.hid hcall
        have HQ := Lib.hid hq
        clear hcall hq
        have hiR : i < R.length := by have := HR.out.2.1; omega
        have hile : (i : Int) < (l.length : Int) := by omega
        have hwb : Hid (∀ w2, Below (wr.alloc (.cells #[.int .i64 y.proc, .int .i64 y.prio, .int .u8 y.val] 56)).heap.size (wr.alloc (.cells #[.int .i64 y.proc, .int .i64 y.prio, .int .u8 y.val] 56)) w2 →
            w2.heap[wr.heap.size]? = some (.cells #[.int .i64 y.proc, .int .i64 y.prio, .int .u8 y.val] 56 (0, 0)) ∧ w2.heap[b]? = some (.cells (cellsW R ++ S).toArray 56 (0, 0)) ∧
            ∀ m, m < 3 → (∃ u, w2.cell? ⟨b, i * 3 + m, none⟩ = some u) ∧ w2.frozen? ⟨b, i * 3 + m, none⟩ = false) := fun w2 hb2 => by
          have h1 := (hb2.block wr.heap.size (by simp)).trans (heap_alloc_new wr _)
          have h2 := (hb2.block b (by simp; omega)).trans ((Below.heap_alloc wr _ b hbr).trans HR.out.1)
          refine ⟨h1, h2, fun m hm => ⟨?_, ?_⟩⟩
          · rw [cell_of_row w2 b _ _ _ _ h2]
            have : i * 3 + m < (cellsW R ++ S).length := by rw [List.length_append, cellsW_length]; omega
            exact ⟨_, by rw [List.getElem?_toArray, List.getElem?_eq_getElem this]⟩
          · simp [World.frozen?, h2]
        go_wp2_with (refine HC.out.mono ?_; rintro e w2 ⟨rfl, hb2⟩; obtain ⟨q1, q2, q3⟩ := hwb.out w2 hb2; have e0 : w2.cell? ⟨wr.heap.size, 0, none⟩ = some (.int .i64 y.proc) := (by rw [cell_of_row w2 _ _ _ _ _ q1]; rfl); have e1 : w2.cell? ⟨wr.heap.size, 1, none⟩ = some (.int .i64 y.prio) := (by rw [cell_of_row w2 _ _ _ _ _ q1]; rfl); have e2 : w2.cell? ⟨wr.heap.size, 2, none⟩ = some (.int .u8 y.val) := (by rw [cell_of_row w2 _ _ _ _ _ q1]; rfl); obtain ⟨⟨u0, f0⟩, g0⟩ := q3 0 (by omega); obtain ⟨⟨u1, f1⟩, g1⟩ := q3 1 (by omega); obtain ⟨⟨u2, f2⟩, g2⟩ := q3 2 (by omega); rw [Nat.add_zero] at f0 g0; have HB2 := Lib.hid hb2; have HQ2 := Lib.hid q2; clear hb2 q1 q2 q3)
        go_roundg (l.length - (j + 1))
        case measure => omega
        case rel =>
          obtain ⟨hgr, hRl, hRt, hRd, hBr⟩ := HR.out
          have hB2 : Below wr.heap.size wr w2 := ((Below.refl _ wr).alloc (Nat.le_refl _) _).trans (HB2.out.mono (by simp))
          have hB3 : Below B w w2 := hBr.trans (hB2.mono (Nat.le_trans hBw hBr.size))
          refine ⟨i + 1, j + 1, R.set i y, by go_num, by go_num, by omega, by omega, by omega, ?_, by simpa using hRl, ?_, ?_, ?_⟩
          · rw [← cells_set R S i y hiR]
            exact heap_setCell_same _ _ _ _ _ _ (heap_setCell_same _ _ _ _ _ _ (heap_setCell_same _ _ _ _ _ _ HQ2.out))
          · rw [htk.out, List.filter_append, ← hRt]
            have : [y].filter (fun x => !p x) = [y] := by simp [HQ.out]
            rw [this, List.take_succ_eq_append_getElem (by simpa using hiR), List.getElem_set_self, List.take_set_of_le (Nat.le_refl _)]
          · rw [List.drop_set_of_lt (by omega)]; exact hdr.out
          · exact ((hB3.setCell (p := ⟨b, _, none⟩) hBb _).setCell (p := ⟨b, _, none⟩) hBb _).setCell (p := ⟨b, _, none⟩) hBb _
    · have hltz : ¬ (j : Int) < (l.length : Int) := by omega
      obtain rfl : j = l.length := by omega
      rw [List.take_length] at hRt
      have hil : i ≤ l.length := by omega
      have hci : ¬ (cap = i) := by omega
      obtain ⟨Z, hZl, hcl⟩ := run_clearW wr 0 b (i * 3) (l.length - i) (cap - i) (cellsW R ++ S) hgr (by omega) (by rw [List.length_append, cellsW_length]; omega)
      have hlen : i = (l.filter (fun x => !p x)).length := by
        have := congrArg List.length hRt
        rw [List.length_take] at this
        omega
      have HF : Hid ((wr.setRow b (splice (cellsW R ++ S) (i * 3) Z).toArray).heap[b]? = some (.cells (splice (cellsW R ++ S) (i * 3) Z).toArray 56 (0, 0)) ∧ (splice (cellsW R ++ S) (i * 3) Z).length = (cellsW l ++ S).length ∧
          (splice (cellsW R ++ S) (i * 3) Z).take (i * 3) = cellsW (l.filter (fun x => !p x)) ∧ Below B w (wr.setRow b (splice (cellsW R ++ S) (i * 3) Z).toArray)) := by
        refine ⟨setRow_heap wr b _ _ _ _ hgr, ?_, ?_, below_setRow hBr hBb _⟩
        · rw [length_splice _ _ _ (by rw [hZl, List.length_append, cellsW_length]; omega), List.length_append, List.length_append, cellsW_length, cellsW_length, hRl]
        · rw [← hRt, ← cellsW_take]
          unfold splice
          have e1 : ((cellsW R ++ S).take (i * 3)).length = i * 3 := by rw [List.length_take, List.length_append, cellsW_length]; omega
          rw [List.take_append_of_le_length (by omega), List.take_take, Nat.min_self, List.take_append_of_le_length (by rw [cellsW_length]; omega)]
      have HL := Lib.hid hlen
      clear hlen hRt hRd hgr hRl hBr hZl A
      go_wp2
      go_ret
      refine ⟨splice (cellsW R ++ S) (i * 3) Z, ?_, HF.out.1, HF.out.2.1.trans List.length_append, ?_, HF.out.2.2.2⟩
      · rw [← HL.out]; rfl
      · rw [← HL.out]; exact HF.out.2.2.1

set_option maxHeartbeats 1000000 in
theorem deleteW_miss (g lb) (p : Wt → Bool) (eg : ∀ args w, (callFunc g args).run Try.prog w = .ok (.enter g args) w) (v : Value) (l : List Wt) (w : World) (h : RdW w 0 v l) (hl : l.length ≤ 100000) (hp : PredW g lb p w) (hany : l.any p = false) :
    Calls Try.prog 99 #[v, .func (.func g) #[] lb] w fun e w' => e = .returned v ∧ Below w.heap.size w w' := by
  have hidx := Lib.hid (indexW_c v l g lb p eg w h (by omega) hp)
  have hf : firstAt p l = -1 := firstAt_miss p l (fun j hj => by rw [List.any_eq_false] at hany; simpa using hany l[j] (List.getElem_mem hj))
  rw [hf] at hidx
  clear hf h hp hany
  go_enter Try.func99, Try.ntmps99
  go_wp2_with fail
  refine hidx.out.mono ?_
  rintro e w1 ⟨rfl, hb1⟩
  have HB1 := Lib.hid hb1
  clear hb1 hidx
  go_wp2_with fail
  go_ret
  exact ⟨rfl, HB1.out⟩

/-- P23.1: without the process. -/
def leaveW (l : List Wt) (proc : Int) : List Wt := l.filter fun x => !decide (x.proc = proc)

set_option maxHeartbeats 400000 in
theorem leave1_c (x : Wt) (g : Nat) (q : Int) (B : Nat) (w W : World) (hc : w.cell? ⟨g, 0, none⟩ = some (.int .i64 q)) (hg : g < B) (hb : Below B w W) :
    Calls Try.prog 100 #[.agg #[.int .i64 x.proc, .int .i64 x.prio, .int .u8 x.val], .pointer (some ⟨g, 0, none⟩)] W fun e w' => e = .returned (.bool (decide (x.proc = q))) ∧ Below W.heap.size W w' := by
  have hc' : W.cell? ⟨g, 0, none⟩ = some (.int .i64 q) := (hb.cell (p := ⟨g, 0, none⟩) hg).trans hc
  have hgW : g < W.heap.size := World.block_lt_of_cell? _ _ hc'
  clear hb hc
  go_enter Try.func100, Try.ntmps100
  go_wp2
  go_ret
  exact ⟨ret_bool (by by_cases h : x.proc = q <;> simp [h]), (Below.refl _ W).alloc (Nat.le_refl _) _⟩

set_option maxHeartbeats 1000000 in
theorem leaveW_c (v : Value) (l : List Wt) (q : Int) (w : World) (h : RdW w 0 v l) (hl : l.length ≤ 100000) :
    Calls Try.prog 40 #[v, .int .i64 q] w fun e w' => EnterEnd w (leaveW l q) e w' := by
  obtain ⟨W0, hW0⟩ : ∃ W0, W0 = w.alloc (.cells #[.int .i64 q] 3) := ⟨_, rfl⟩
  have hz : W0.heap.size = w.heap.size + 1 := by subst hW0; simp
  have hW0b : W0.heap[w.heap.size]? = some (.cells #[.int .i64 q] 3 (0, 0)) := by subst hW0; exact heap_alloc_new w _
  have hb0 : Below w.heap.size w W0 := by subst hW0; exact (Below.refl _ _).alloc (Nat.le_refl _) _
  have hW0c : W0.cell? ⟨w.heap.size, 0, none⟩ = some (.int .i64 q) := by rw [cell_of_row W0 _ _ _ _ _ hW0b]; rfl
  have h0 : RdW W0 0 v l := h.below hb0
  have hclone := Lib.hid (cloneW_c v l W0 h0 (by omega))
  -- the call of DeleteFunc, in whatever world the clone has left
  have hdel : Hid (∀ w1 v1, w1.ownsRow W0.heap.size 56 3 v1 l.length (cellsW l) → Below W0.heap.size W0 w1 →
      Calls Try.prog 99 #[v1, .func (.func 100) #[] #[.pointer (some ⟨w.heap.size, 0, none⟩)]] w1 fun e w' => EnterEnd w (leaveW l q) e w') := by
    intro w1 v1 hown hb1
    have hc1 : w1.cell? ⟨w.heap.size, 0, none⟩ = some (.int .i64 q) := (hb1.cell (p := ⟨w.heap.size, 0, none⟩) (show w.heap.size < W0.heap.size by omega)).trans hW0c
    have hpb : PredB 100 #[.pointer (some ⟨w.heap.size, 0, none⟩)] (fun x => decide (x.proc = q)) W0.heap.size w1 := fun W x hW => leave1_c x w.heap.size q W0.heap.size w1 W hc1 (by omega) hW
    have eg := enters_c Try.func100 (by kernel_rfl) rfl
    have hb01 : Below w.heap.size w w1 := hb0.trans (hb1.mono (by omega))
    cases hany : l.any (fun x => decide (x.proc = q)) with
    | false =>
      refine (deleteW_miss _ _ _ eg v1 l w1 (Sl.mono (Sl.of_own hown) (Nat.zero_le _)) hl (hpb.predW hb1.size) hany).mono ?_
      rintro e w' ⟨rfl, hb2⟩
      have hle : leaveW l q = l := by
        rw [leaveW, List.filter_eq_self]
        intro a ha
        rw [List.any_eq_false] at hany
        simpa using hany a ha
      rw [hle]
      refine ⟨v1, rfl, own_mono (hown.kept (row := none) ⟨hb2.os, hb2.tape, hb2.output, hb2.size, fun k hk _ => hb2.block k hk⟩ ?_) (by omega), hb01.trans (hb2.mono hb01.size)⟩
      cases v1.ownBlock <;> simp
    | true =>
      rcases hown.2 with ⟨rfl, hn0⟩ | ⟨g, cap, cur, rfl, hbg, hg, hnc, hcm, hcs, htake⟩
      · have : l = [] := List.eq_nil_of_length_eq_zero hn0
        subst this
        simp at hany
      · have hcur : cur = (cellsW l ++ cur.toList.drop (l.length * 3)).toArray := by
          rw [← htake, List.take_append_drop]
        rw [hcur] at hg
        refine (deleteW_hit _ _ _ eg g cap W0.heap.size l (cur.toList.drop (l.length * 3)) w1 hg hbg hb1.size hnc hl hpb hany).mono ?_
        rintro e w' ⟨R, rfl, hg', hRl, hRt, hb2⟩
        refine ⟨_, rfl, ⟨by rw [cellsW_length], .inr ⟨g, cap, R.toArray, rfl, by omega, hg', ?_, hcm, ?_, hRt⟩⟩, hb01.trans (hb2.mono (by omega))⟩
        · exact Nat.le_trans (List.length_filter_le _ _) hnc
        · rw [List.size_toArray, hRl, ← hcs]
          conv => rhs; rw [hcur]
          simp
  have HW0 := Lib.hid hW0
  clear hW0 h h0 hb0 hW0b hW0c hz
  go_enter Try.func40, Try.ntmps40
  go_wp2_with fail
  rw [← HW0.out]
  refine hclone.out.mono ?_
  rintro e w1 ⟨v1, rfl, hown, hb1⟩
  have HD := Lib.hid (hdel.out w1 v1 hown hb1)
  clear hown hb1 hdel hclone HW0
  go_wp2_with fail
  refine HD.out.mono ?_
  rintro e w2 ⟨v2, rfl, ho2, hb2⟩
  have HO2 := Lib.hid ho2
  have HB2 := Lib.hid hb2
  clear ho2 hb2
  go_wp2_with fail
  go_ret
  exact ⟨_, rfl, HO2.out, HB2.out⟩
end Go.Proofs.Ytglbfmcbojjglaa

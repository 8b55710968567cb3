/-
  A law's own variables in memory; the contracts of nacellelaw24.Ints, nacellelaw25.SameSema and SameEvent. Conditions: what is compared can be read.
-/
import Derived.Test.YtglbfmcbojjglaaSignal
import Derived.Test.YtglbfmcbojjglaaWl
namespace Go.Proofs.Ytglbfmcbojjglaa
open Go.RowKit

/-- A variable of two cells (block g) that holds x and a waiting list; all variables lie below block B, all lists from B on. -/
structure LS (W : World) (B g : Nat) (t : TypeId) (x y : Value) (l : List Wt) : Prop where
  blk : W.heap[g]? = some (.cells #[x, y] t (0, 0))
  lt : g < B
  fr : FrW W B y l

section
variable {W W' : World} {B g g' o : Nat} {t : TypeId} {x y x' y' u : Value} {l l' : List Wt}
theorem LS.next (h : LS W B g t x y l) (hb : Below W.heap.size W W') : LS W' B g t x y l := ⟨(hb.block _ (blk_lt h.blk)).trans h.blk, h.lt, h.fr.below hb⟩
theorem LS.drew (h : LS W B g t x y l) : LS W.drew B g t x y l := ⟨h.blk, h.lt, h.fr⟩
theorem LS.drewN (h : LS W B g t x y l) (n : Nat) : LS (W.drewN n) B g t x y l := ⟨h.blk, h.lt, h.fr⟩
theorem LS.alloc (h : LS W B g t x y l) (ob : Obj) : LS (W.alloc ob) B g t x y l := h.next ((Below.refl _ _).alloc (Nat.le_refl _) _)
theorem LS.oth (h : LS W B g t x y l) (hne : g' ≠ g) (hlt : g' < B) : LS (W.setCell ⟨g', o, none⟩ u) B g t x y l :=
  ⟨(Below.heap_setCell _ _ _ _ (by exact fun e => hne e.symm)).trans h.blk, h.lt, h.fr.low hlt⟩
theorem LS.put (h : LS W B g t x y l) (hf : FrW W B y' l') : LS ((W.setCell ⟨g, 0, none⟩ x').setCell ⟨g, 1, none⟩ y') B g t x' y' l' := by
  refine ⟨?_, h.lt, (hf.low h.lt).low h.lt⟩
  have h1 := heap_setCell_same W g 0 _ _ x' h.blk
  have h2 := heap_setCell_same _ g 1 _ _ y' h1
  simpa using h2
theorem LS.cells (h : LS W B g t x y l) : W.cell? ⟨g, 0, none⟩ = some x ∧ W.cell? ⟨g, 1, none⟩ = some y ∧ W.frozen? ⟨g, 0, none⟩ = false ∧ W.frozen? ⟨g, 1, none⟩ = false := twoBlk h.blk
end

/-- A variable in straight code: the list may lie anywhere but in the variable's own block. -/
structure LV (W : World) (g : Nat) (t : TypeId) (x y : Value) (l : List Wt) : Prop where
  blk : W.heap[g]? = some (.cells #[x, y] t (0, 0))
  fr : FrW W 0 y l
  ap : ∀ a n c, y = .slice (some a) n c → 0 < n → a.block ≠ g

theorem fr_ge {W : World} {B : Nat} {y : Value} {l : List Wt} (h : FrW W B y l) {a : Addr} {n c : Nat} (hy : y = .slice (some a) n c) (hn : 0 < n) : B ≤ a.block ∧ a.block < W.heap.size := by
  obtain ⟨ao, cap, hv', _, _, _, hp⟩ := h.1
  subst hy
  simp only [Value.slice.injEq] at hv'
  obtain ⟨hao, hn', _⟩ := hv'
  obtain ⟨b, off, ha, hB, hbs, _⟩ := hp (by omega)
  rw [ha] at hao
  simp only [Option.some.injEq] at hao
  subst hao
  exact ⟨hB, hbs⟩

section
variable {W W' : World} {B g : Nat} {t : TypeId} {x y x' y' : Value} {l l' : List Wt}
theorem LV.next (h : LV W g t x y l) (hb : Below W.heap.size W W') : LV W' g t x y l := ⟨(hb.block _ (blk_lt h.blk)).trans h.blk, h.fr.below hb, h.ap⟩
theorem LV.drewN (h : LV W g t x y l) (n : Nat) : LV (W.drewN n) g t x y l := ⟨h.blk, h.fr, h.ap⟩
theorem LV.new (hf : FrW W B y l) : LV (W.alloc (.cells #[x, y] t)) W.heap.size t x y l :=
  ⟨heap_alloc_new W _, (hf.mono (Nat.zero_le _)).alloc _, fun _ _ _ hy hn => Nat.ne_of_lt (fr_ge hf hy hn).2⟩
theorem LV.put (h : LV W g t x y l) (hf : FrW W B y' l') (hB : g < B) (x' : Value) : LV ((W.setCell ⟨g, 0, none⟩ x').setCell ⟨g, 1, none⟩ y') g t x' y' l' := by
  refine ⟨?_, ((hf.low hB).low hB).mono (Nat.zero_le _), fun _ _ _ hy hn => ?_⟩
  · have h1 := heap_setCell_same W g 0 _ _ x' h.blk
    have h2 := heap_setCell_same _ g 1 _ _ y' h1
    simpa using h2
  · have := (fr_ge hf hy hn).1
    omega
theorem LV.cells (h : LV W g t x y l) : W.cell? ⟨g, 0, none⟩ = some x ∧ W.cell? ⟨g, 1, none⟩ = some y ∧ W.frozen? ⟨g, 0, none⟩ = false ∧ W.frozen? ⟨g, 1, none⟩ = false := twoBlk h.blk
end
theorem fr_shape {w : World} {B : Nat} {v : Value} {l : List Wt} (h : FrW w B v l) : ∃ a m c, v = .slice a m c ∧ m = l.length := by
  obtain ⟨a, c, hv⟩ := fr_slice h
  exact ⟨a, _, c, hv, rfl⟩
theorem own_shape {w : World} {B : Nat} {v : Value} {l : List Int} (h : OwnI w B v l) : ∃ a m c, v = .slice a m c ∧ m = l.length := by
  obtain ⟨a, c, hv⟩ := own_slice h
  exact ⟨a, _, c, hv, rfl⟩

/-- A slice of integers of one cell each. -/
def RdI (k : IntKind) (w : World) (B : Nat) (v : Value) (l : List Int) : Prop := Sl w B 1 v l.length (l.map (Value.int k))
theorem RdI.below {k : IntKind} {w w' : World} {B : Nat} {v : Value} {l : List Int} (h : RdI k w B v l) (hb : Below w.heap.size w w') : RdI k w' B v l := Sl.below h hb
theorem RdI.open_ {k : IntKind} {w : World} {B : Nat} {v : Value} {l : List Int} (h : RdI k w B v l) : ∃ (ao : Option Addr) (cap : Nat), v = .slice ao l.length cap ∧ l.length ≤ cap ∧ (ao = none → cap = 0) ∧
    (0 < l.length → ∃ b off, ao = some ⟨b, off, none⟩ ∧ B ≤ b ∧ b < w.heap.size ∧ ∀ j (hj : j < l.length), w.cell? ⟨b, off + j, none⟩ = some (.int k l[j])) := by
  obtain ⟨ao, cap, hv, hnc, hno, _, hp⟩ := h
  refine ⟨ao, cap, hv, hnc, hno, fun h0 => ?_⟩
  obtain ⟨b, off, ha, hB, hb, hc⟩ := hp h0
  exact ⟨b, off, ha, hB, hb, fun j hj => hc j _ (by simp [hj])⟩
theorem addr_of_cell {w : World} {x : Addr} {v : Value} (h : w.cell? x = some v) : x = ⟨x.block, x.off, none⟩ := by
  obtain ⟨b, o, s⟩ := x
  unfold World.cell? at h
  split at h
  · split at h
    · cases h
    · rename_i hs
      cases s with
      | none => rfl
      | some q => simp at hs
  · cases h
theorem rdI_of_row {k : IntKind} {w : World} {x : Addr} {len cap : Nat} {zs : List Int} (hl : len ≤ cap) (hz : zs.length = cap) (hc : ∀ i, i < zs.length → w.cell? (x.add i) = some (.int k (zs.getD i 0))) :
    RdI k w 0 (.slice (some x) len cap) (zs.take len) := by
  have hlen : (zs.take len).length = len := by simp; omega
  refine ⟨some x, cap, by rw [hlen], by omega, (by intro h; cases h), by simp, fun h0 => ?_⟩
  have h1 := hc 0 (by omega)
  have h2 : x.add 0 = x := by simp [Addr.add]
  rw [h2] at h1
  refine ⟨x.block, x.off, by rw [addr_of_cell h1], Nat.zero_le _, World.block_lt_of_cell? _ _ h1, fun j u hu => ?_⟩
  rw [List.getElem?_map, Option.map_eq_some_iff] at hu
  obtain ⟨z, hz1, rfl⟩ := hu
  rw [List.getElem?_take] at hz1
  split at hz1
  · have h3 := hc j (by omega)
    rw [addr_of_cell h1] at h3
    rw [show (⟨x.block, x.off, none⟩ : Addr).add j = ⟨x.block, x.off + j, none⟩ from addr_add _ _ _] at h3
    rw [h3, List.getD, hz1]
    rfl
  · cases hz1
theorem RdI.nil (k : IntKind) (w : World) (B : Nat) : RdI k w B (.slice none 0 0) [] := Sl.nil w B 1
theorem OwnI.rd {w : World} {B : Nat} {v : Value} {l : List Int} (h : OwnI w B v l) : RdI .i64 w B v l := by
  have := Sl.of_own h
  exact this
theorem RdI.mono {k : IntKind} {w : World} {B B' : Nat} {v : Value} {l : List Int} (h : RdI k w B v l) (hB : B' ≤ B) : RdI k w B' v l := Sl.mono h hB

theorem RdI.low {k : IntKind} {w : World} {B g o : Nat} {v u : Value} {l : List Int} (h : RdI k w B v l) (hg : g < B) : RdI k (w.setCell ⟨g, o, none⟩ u) B v l := by
  obtain ⟨ao, cap, hv, hnc, hno, hl, hp⟩ := h
  refine ⟨ao, cap, hv, hnc, hno, hl, fun h0 => ?_⟩
  obtain ⟨b, off, ha, hB, hb, hc⟩ := hp h0
  exact ⟨b, off, ha, hB, by simpa [World.setCell] using hb, fun j u hu => (World.cell?_of_block (Below.heap_setCell _ _ _ _ (by show b ≠ g; omega))).trans (hc j u hu)⟩
theorem RdI.drewN {k : IntKind} {w : World} {B : Nat} {v : Value} {l : List Int} (h : RdI k w B v l) (n : Nat) : RdI k (w.drewN n) B v l := h
theorem RdI.alloc {k : IntKind} {w : World} {B : Nat} {v : Value} {l : List Int} (h : RdI k w B v l) (o : Obj) : RdI k (w.alloc o) B v l := Sl.alloc h o
theorem RdI.one {k : IntKind} (w : World) (t : TypeId) (n : Int) : RdI k (w.alloc (.cells #[.int k n] t)) 0 (.slice (some ⟨w.heap.size, 0, none⟩) 1 1) [n] := by
  refine ⟨_, _, rfl, Nat.le_refl _, (by intro h; cases h), rfl, fun _ => ⟨_, _, rfl, Nat.zero_le _, by simp, fun j u hu => ?_⟩⟩
  rw [cell_of_row _ _ _ _ _ _ (heap_alloc_new w _)]
  simpa using hu

set_option maxHeartbeats 400000 in
theorem ints_c (va vb : Value) (la lb : List Int) (w : World) (ha : RdI .i64 w 0 va la) (hb : RdI .i64 w 0 vb lb) (hla : la.length ≤ 1000000) (hlb : lb.length ≤ 1000000) :
    Calls Try.prog 67 #[va, vb] w fun e w' => e = .returned (.bool (decide (la = lb))) ∧ ∃ n, w' = w.drewN n := by
  obtain ⟨ao, ca, rfl, hca, hna, pa⟩ := ha.open_
  obtain ⟨bo, cb, rfl, hcb, hnb, pb⟩ := hb.open_
  clear ha hb
  by_cases hl : la.length = lb.length
  · have hl' : ((la.length : Int) != (lb.length : Int)) = false := by simp; omega
    have hl2 : (la.length != lb.length) = false := by simp; omega
    have HL := Lib.hid hl
    clear hl
    go_enter Try.func67, Try.ntmps67
    go_wp2
    go_loopg [5, 13] la.length (fun gg _ s13 wr => ∃ k : Nat, k ≤ la.length ∧ la.length - k ≤ gg ∧ s13 = .int .i64 k ∧ Aside (∃ n, wr = w.drewN n) ∧ Aside (la.take k = lb.take k))
    case atStart => exact ⟨0, Nat.zero_le _, by omega, rfl, ⟨0, rfl⟩, by simp [Aside]⟩
    case round =>
      obtain ⟨k, hk, hg, rfl, W, A⟩ := hrel
      by_cases hlt : k < la.length
      · have hltz : (k : Int) < (la.length : Int) := by omega
        have hkb : k < lb.length := by have := HL.out; omega
        have hkz : (k : Int) < (lb.length : Int) := by omega
        obtain ⟨b, off, rfl, _, _, ca⟩ := pa (by omega)
        obtain ⟨b', off', rfl, _, _, cb⟩ := pb (by omega)
        have c0 := ca k hlt
        have d0 := cb k hkb
        clear pa pb ca cb
        obtain ⟨n, rfl⟩ := W.out
        by_cases he : la[k] = lb[k]
        · have hdt : (la[k] != lb[k]) = false := by simp [he]
          have E := Lib.hid he
          clear he
          go_wp2
          go_quiet (fail)
          go_wp2
          go_roundg (la.length - (k + 1))
          case measure => omega
          case rel =>
            refine ⟨k + 1, by omega, by omega, by go_num, ⟨_, rfl⟩, ?_⟩
            show la.take (k + 1) = lb.take (k + 1)
            rw [List.take_succ_eq_append_getElem hlt, List.take_succ_eq_append_getElem hkb, E.out, A.out]
        · have hdt : (la[k] != lb[k]) = true := by simp [he]
          have E := Lib.hid he
          clear he
          go_wp2
          go_quiet (fail)
          go_wp2
          go_ret
          exact ⟨ret_bool (decide_eq_false (fun h => E.out (by subst h; rfl))).symm, _, World.drewN_drewN _ _ _⟩
      · have hltz : ¬ (k : Int) < (la.length : Int) := by omega
        go_wp2
        go_ret
        obtain ⟨n, rfl⟩ := W.out
        refine ⟨ret_bool (decide_eq_true ?_).symm, n, rfl⟩
        have := A.out
        rwa [List.take_of_length_le (by omega), List.take_of_length_le (by have := HL.out; omega)] at this
  · have hl' : ((la.length : Int) != (lb.length : Int)) = true := by simp; omega
    have hl2 : (la.length != lb.length) = true := by simp; omega
    go_enter Try.func67, Try.ntmps67
    go_wp2
    go_ret
    exact ⟨ret_bool (decide_eq_false fun h => hl (by rw [h])).symm, 0, rfl⟩

set_option maxHeartbeats 400000 in
theorem sameS_c (n m : Int) (va vb : Value) (la lb : List Wt) (w : World) (ha : RdW w 0 va la) (hb : RdW w 0 vb lb) (hla : la.length ≤ 100000) (hlb : lb.length ≤ 100000) :
    Calls Try.prog 59 #[.agg #[.int .i64 n, va], .agg #[.int .i64 m, vb]] w fun e w' => e = .returned (.bool (decide (n = m ∧ la = lb))) ∧ Below w.heap.size w w' := by
  obtain ⟨W0, hW0⟩ : ∃ W0, W0 = ((w.alloc (.cells #[.int .i64 n, va] 71)).alloc (.cells #[.int .i64 m, vb] 71)) := ⟨_, rfl⟩
  have hA : RdW W0 0 va la := by subst hW0; exact (ha.alloc _).alloc _
  have hB : RdW W0 0 vb lb := by subst hW0; exact (hb.alloc _).alloc _
  have hb0 : Below w.heap.size w W0 := by subst hW0; exact ((Below.refl _ w).alloc (Nat.le_refl _) _).alloc (by simp) _
  have HC := Lib.hid (waiters_c va vb la lb W0 hA hB (by omega) (by omega))
  obtain ⟨ao, ca, rfl, _, _, _⟩ := ha.open_
  obtain ⟨bo, cb, rfl, _, _, _⟩ := hb.open_
  have HW0 := Lib.hid hW0
  have HB0 := Lib.hid hb0
  clear hA hB hW0 hb0 ha hb
  by_cases hn : n = m
  · have hd : Hid (decide (n = m ∧ la = lb) = decide (la = lb)) := by show _ = _; simp [hn]
    rw [hd.out]
    have hq : (n == m) = true := by simp [hn]
    clear hd hn
    generalize decide (la = lb) = q at HC ⊢
    go_enter Try.func59, Try.ntmps59
    go_wp2_with fail
    rw [← HW0.out]
    refine HC.out.mono ?_
    rintro e w1 ⟨rfl, k, rfl⟩
    clear HC HW0
    go_wp2_with fail
    go_ret
    exact ⟨rfl, below_drewN' HB0.out _⟩
  · have hd : Hid (decide (n = m ∧ la = lb) = false) := by show _ = _; simp [hn]
    rw [hd.out]
    have hq : (n == m) = false := by simp [hn]
    clear hd hn HC
    go_enter Try.func59, Try.ntmps59
    go_wp2_with fail
    go_ret
    refine ⟨rfl, ?_⟩
    rw [← HW0.out]
    exact HB0.out

set_option maxHeartbeats 400000 in
theorem sameE_c (n m : Bool) (va vb : Value) (la lb : List Wt) (w : World) (ha : RdW w 0 va la) (hb : RdW w 0 vb lb) (hla : la.length ≤ 100000) (hlb : lb.length ≤ 100000) :
    Calls Try.prog 52 #[.agg #[.bool n, va], .agg #[.bool m, vb]] w fun e w' => e = .returned (.bool (decide (n = m ∧ la = lb))) ∧ Below w.heap.size w w' := by
  obtain ⟨W0, hW0⟩ : ∃ W0, W0 = ((w.alloc (.cells #[.bool n, va] 73)).alloc (.cells #[.bool m, vb] 73)) := ⟨_, rfl⟩
  have hA : RdW W0 0 va la := by subst hW0; exact (ha.alloc _).alloc _
  have hB : RdW W0 0 vb lb := by subst hW0; exact (hb.alloc _).alloc _
  have hb0 : Below w.heap.size w W0 := by subst hW0; exact ((Below.refl _ w).alloc (Nat.le_refl _) _).alloc (by simp) _
  have HC := Lib.hid (waiters_c va vb la lb W0 hA hB (by omega) (by omega))
  obtain ⟨ao, ca, rfl, _, _, _⟩ := ha.open_
  obtain ⟨bo, cb, rfl, _, _, _⟩ := hb.open_
  have HW0 := Lib.hid hW0
  have HB0 := Lib.hid hb0
  clear hA hB hW0 hb0 ha hb
  by_cases hn : n = m
  · have hd : Hid (decide (n = m ∧ la = lb) = decide (la = lb)) := by show _ = _; simp [hn]
    rw [hd.out]
    have hq : (n == m) = true := by simp [hn]
    clear hd hn
    generalize decide (la = lb) = q at HC ⊢
    go_enter Try.func52, Try.ntmps52
    go_wp2_with fail
    rw [← HW0.out]
    refine HC.out.mono ?_
    rintro e w1 ⟨rfl, k, rfl⟩
    clear HC HW0
    go_wp2_with fail
    go_ret
    exact ⟨rfl, below_drewN' HB0.out _⟩
  · have hd : Hid (decide (n = m ∧ la = lb) = false) := by show _ = _; simp [hn]
    rw [hd.out]
    have hq : (n == m) = false := by simp [hn]
    clear hd hn HC
    go_enter Try.func52, Try.ntmps52
    go_wp2_with fail
    go_ret
    refine ⟨rfl, ?_⟩
    rw [← HW0.out]
    exact HB0.out

end Go.Proofs.Ytglbfmcbojjglaa

/-
  Words for buffers: rows of one element type in memory of the call's own, from any place on; the contracts of board.first and Buffer.store. Conditions: at most ninety thousand elements.
-/
import Derived.Test.YtglbfmcbojjglaaBdA
import Derived.Test.YtglbfmcbojjglaaQueE
import Derived.ArgAppend
namespace Go.Proofs.Ytglbfmcbojjglaa
open Go.RowKit

/-- A slice value that reads as n elements in a block of type t from block B on, its capacity all there. -/
def Ty (w : World) (B : Nat) (t : TypeId) (sz : Nat) (v : Value) (n : Nat) (xs : List Value) : Prop :=
  ∃ (ao : Option Addr) (cap : Nat), v = .slice ao n cap ∧ n ≤ cap ∧ xs.length = n * sz ∧ (ao = none → cap = 0) ∧
    (0 < cap → ∃ (b off : Nat) (cs : Array Value), ao = some ⟨b, off, none⟩ ∧ B ≤ b ∧ w.heap[b]? = some (.cells cs t (0, 0)) ∧ off + cap * sz ≤ cs.size ∧ ∀ j u, xs[j]? = some u → cs[off + j]? = some u)

section
variable {w w' : World} {B B' sz n : Nat} {t : TypeId} {v : Value} {xs : List Value}
theorem Ty.keep (h : Ty w B t sz v n xs) (hk : ∀ (b : Nat) (cs : Array Value), w.heap[b]? = some (Obj.cells cs t (0, 0)) → w'.heap[b]? = some (Obj.cells cs t (0, 0))) : Ty w' B t sz v n xs := by
  obtain ⟨ao, cap, hv, h1, h2, h3, hp⟩ := h
  refine ⟨ao, cap, hv, h1, h2, h3, fun h0 => ?_⟩
  obtain ⟨b, off, cs, ha, hB, hb, hc, hx⟩ := hp h0
  exact ⟨b, off, cs, ha, hB, hk b cs hb, hc, hx⟩
theorem Ty.below (h : Ty w B t sz v n xs) (hb : Below w.heap.size w w') : Ty w' B t sz v n xs := h.keep fun _ _ hc => (hb.block _ (blk_lt hc)).trans hc
theorem Ty.alloc (h : Ty w B t sz v n xs) (o : Obj) : Ty (w.alloc o) B t sz v n xs := h.below ((Below.refl _ _).alloc (Nat.le_refl _) _)
theorem Ty.drew (h : Ty w B t sz v n xs) : Ty w.drew B t sz v n xs := h
theorem Ty.set {g o t' : Nat} {cs : Array Value} {fz : Nat × Nat} {u : Value} (h : Ty w B t sz v n xs) (hg : w.heap[g]? = some (.cells cs t' fz)) (ht : t' ≠ t) : Ty (w.setCell ⟨g, o, none⟩ u) B t sz v n xs := h.keep fun b cs' hc => by
  refine (Below.heap_setCell _ _ _ _ ?_).trans hc
  show b ≠ g
  rintro rfl
  rw [hg] at hc
  simp only [Option.some.injEq, Obj.cells.injEq] at hc
  exact ht hc.2.1
theorem Ty.grown {g t' : Nat} {cs : Array Value} {fz : Nat × Nat} (h : Ty w B t sz v n xs) (hw : w.grownBy w' (some g)) (hg : w.heap[g]? = some (.cells cs t' fz)) (ht : t' ≠ t) : Ty w' B t sz v n xs := h.keep fun b cs' hc => by
  refine (hw.block b (blk_lt hc) ?_).trans hc
  intro e
  simp only [Option.some.injEq] at e
  subst e
  rw [hg] at hc
  simp only [Option.some.injEq, Obj.cells.injEq] at hc
  exact ht hc.2.1
theorem Ty.mono (h : Ty w B t sz v n xs) (hB : B' ≤ B) : Ty w B' t sz v n xs := by
  obtain ⟨ao, cap, hv, h1, h2, h3, hp⟩ := h
  refine ⟨ao, cap, hv, h1, h2, h3, fun h0 => ?_⟩
  obtain ⟨b, off, cs, ha, hb, r⟩ := hp h0
  exact ⟨b, off, cs, ha, by omega, r⟩
theorem Ty.sl (h : Ty w B t sz v n xs) : Sl w B sz v n xs := by
  obtain ⟨ao, cap, hv, h1, h2, h3, hp⟩ := h
  refine ⟨ao, cap, hv, h1, h3, h2, fun h0 => ?_⟩
  obtain ⟨b, off, cs, ha, hB, hb, hc, hx⟩ := hp (by omega)
  exact ⟨b, off, ha, hB, blk_lt hb, fun j u hu => (cell_of_row w _ _ _ _ _ hb).trans (hx j u hu)⟩
theorem Ty.of_own (h : w.ownsRow B t sz v n xs) : Ty w B t sz v n xs := by
  rcases h.2 with ⟨rfl, rfl⟩ | ⟨g, cap, cur, rfl, hbg, hg, hnc, _, hcs, htake⟩
  · exact ⟨none, 0, rfl, Nat.le_refl _, h.1, fun _ => rfl, fun h0 => absurd h0 (by omega)⟩
  · refine ⟨_, cap, rfl, hnc, h.1, by simp, fun _ => ⟨g, 0, cur, rfl, hbg, hg, by omega, fun j u hu => ?_⟩⟩
    have h2 : cur.toList[j]? = some u := by
      rw [← htake, List.getElem?_take] at hu
      split at hu
      · exact hu
      · cases hu
    rw [Nat.zero_add, ← Array.getElem?_toList]
    exact h2
theorem Ty.nil (w : World) (B : Nat) (t : TypeId) (sz : Nat) : Ty w B t sz (.slice none 0 0) 0 [] := ⟨none, 0, rfl, Nat.le_refl _, by simp, fun _ => rfl, fun h => absurd h (by omega)⟩
theorem Ty.shape (h : Ty w B t sz v n xs) : ∃ a c, v = .slice a n c := by
  obtain ⟨a, c, hv, _⟩ := h
  exact ⟨a, c, hv⟩
theorem Ty.tail {b off c : Nat} (h : Ty w B t sz (.slice (some ⟨b, off, none⟩) n c) n xs) (hn : 1 ≤ n) : Ty w B t sz (.slice (if c = 1 then some ⟨b, off, none⟩ else some ⟨b, off + sz, none⟩) (n - 1) (c - 1)) (n - 1) (xs.drop sz) := by
  obtain ⟨ao, cap, hv, h1, h2, h3, hp⟩ := h
  simp only [Value.slice.injEq] at hv
  obtain ⟨rfl, _, rfl⟩ := hv
  obtain ⟨m, rfl⟩ : ∃ m, n = m + 1 := ⟨n - 1, by omega⟩
  refine ⟨_, _, rfl, by omega, ?_, (by intro e; split at e <;> cases e), fun h0 => ?_⟩
  · rw [List.length_drop, h2, Nat.add_mul]; simp
  obtain ⟨b', off', cs, ha, hB, hb, hc, hx⟩ := hp (by omega)
  simp only [Option.some.injEq, Addr.mk.injEq, and_true] at ha
  obtain ⟨rfl, rfl⟩ := ha
  refine ⟨b, off + sz, cs, by rw [if_neg (by omega)], hB, hb, ?_, fun j u hu => ?_⟩
  · have : (c - 1) * sz + sz = c * sz := by
      obtain ⟨e, rfl⟩ : ∃ e, c = e + 1 := ⟨c - 1, by omega⟩
      simp [Nat.add_mul]
    omega
  · rw [List.getElem?_drop] at hu
    have := hx _ _ hu
    rwa [← Nat.add_assoc] at this
end

/-- The type of a block. -/
def Tag (W : World) (g : Nat) (t : TypeId) : Prop := ∃ cs : Array Value, W.heap[g]? = some (.cells cs t (0, 0))
theorem Tag.of {W : World} {g : Nat} {t : TypeId} {cs : Array Value} (h : W.heap[g]? = some (.cells cs t (0, 0))) : Tag W g t := ⟨cs, h⟩
theorem Tag.set {W : World} {g g' o : Nat} {t : TypeId} {u : Value} (h : Tag W g t) : Tag (W.setCell ⟨g', o, none⟩ u) g t := by
  obtain ⟨cs, h⟩ := h
  by_cases e : g = g'
  · subst e
    exact ⟨_, heap_setCell_same W g o _ _ u h⟩
  · exact ⟨cs, (Below.heap_setCell _ _ _ _ e).trans h⟩
theorem Ty.setT {w : World} {B sz n g o : Nat} {t t' : TypeId} {v u : Value} {xs : List Value} (h : Ty w B t sz v n xs) (hg : Tag w g t') (ht : t' ≠ t) : Ty (w.setCell ⟨g, o, none⟩ u) B t sz v n xs := by
  obtain ⟨cs, hg⟩ := hg
  exact h.set hg ht
theorem Ty.set3 {w : World} {B sz n g : Nat} {t t' : TypeId} {v : Value} {xs : List Value} (h : Ty w B t sz v n xs) (hg : Tag w g t') (ht : t' ≠ t) (a b c : Value) : Ty (((w.setCell ⟨g, 0, none⟩ a).setCell ⟨g, 1, none⟩ b).setCell ⟨g, 2, none⟩ c) B t sz v n xs :=
  ((h.setT hg ht).setT hg.set ht).setT hg.set.set ht

/-- Waiting lists and bytes of that kind. -/
def TyW (w : World) (B : Nat) (v : Value) (l : List Wt) : Prop := Ty w B 56 3 v l.length (cellsW l)
def TyB (w : World) (B : Nat) (v : Value) (l : List Int) : Prop := Ty w B 5 1 v l.length (l.map (Value.int .u8))
section
variable {w w' : World} {B B' : Nat} {v : Value} {l : List Wt} {d : List Int}
theorem TyW.fr (h : TyW w B v l) : FrW w B v l := by
  refine ⟨Ty.sl h, fun a n c hv hn j => ?_⟩
  obtain ⟨ao, cap, hv', h1, h2, h3, hp⟩ := h
  subst hv
  simp only [Value.slice.injEq] at hv'
  obtain ⟨rfl, rfl, rfl⟩ := hv'
  obtain ⟨b, off, cs, ha, _, hb, _⟩ := hp (by omega)
  cases ha
  simp [World.frozen?, hb]
theorem TyW.rd (h : TyW w B v l) : RdW w 0 v l := h.fr.rd
theorem TyB.rd (h : TyB w B v d) : RdI .u8 w 0 v d := Sl.mono (Ty.sl h) (Nat.zero_le _)
theorem TyW.tail {b off c : Nat} {x : Wt} {m : List Wt} (h : TyW w B (.slice (some ⟨b, off, none⟩) l.length c) l) (hl : l = x :: m) : TyW w B (.slice (if c = 1 then some ⟨b, off, none⟩ else some ⟨b, off + 3, none⟩) (l.length - 1) (c - 1)) m := by
  subst hl
  have := Ty.tail h (by simp)
  rw [show (cellsW (x :: m)).drop 3 = cellsW m from rfl] at this
  exact this
theorem TyB.tail {b off c : Nat} {x : Int} {m : List Int} (h : TyB w B (.slice (some ⟨b, off, none⟩) d.length c) d) (hl : d = x :: m) : TyB w B (.slice (if c = 1 then some ⟨b, off, none⟩ else some ⟨b, off + 1, none⟩) (d.length - 1) (c - 1)) m := by
  subst hl
  have := Ty.tail h (by simp)
  exact this
end

/-- What board.first leaves. -/
def FirstEnd (w : World) (gb o : Nat) (cs : Array Value) (B : Nat) (l : List Wt) (e : Ending) (w' : World) : Prop :=
  match l with
  | [] => e = .returned (.tuple #[.agg #[.int .i64 (-1), .int .i64 0, .int .u8 0], .bool false]) ∧ Below w.heap.size w w'
  | x :: m => ∃ v', e = .returned (.tuple #[.agg #[.int .i64 x.proc, .int .i64 x.prio, .int .u8 x.val], .bool true]) ∧ w'.heap[gb]? = some (.cells (cs.setIfInBounds o v') 206 (0, 0)) ∧ TyW w' B v' m ∧ w.grownBy w' (some gb)

set_option maxHeartbeats 1000000 in
theorem first_nil (gb o : Nat) (cs : Array Value) (B : Nat) (v : Value) (w : World) (hg : w.heap[gb]? = some (.cells cs 206 (0, 0))) (hc : cs[o]? = some v) (h : TyW w B v []) :
    Calls Try.prog 111 #[.pointer (some ⟨gb, o, none⟩)] w (FirstEnd w gb o cs B []) := by
  obtain ⟨a, c, rfl⟩ := Ty.shape h
  have y0 : w.cell? ⟨gb, o, none⟩ = some (.slice a ([] : List Wt).length c) := (cell_of_row w _ _ _ _ _ hg).trans hc
  have hlt := blk_lt hg
  simp only [List.length_nil] at y0
  clear h hc hg
  go_enter Try.func111, Try.ntmps111
  go_wp2_with fail
  refine bodyPost_ret (v := .tuple #[.agg #[.int .i64 (-1), .int .i64 0, .int .u8 0], .bool false]) (by simp [results, Try.results111, go_sem]) rfl ?_
  exact ⟨rfl, (Below.refl _ w).alloc (Nat.le_refl _) _⟩

theorem TyW.head {w : World} {B : Nat} {v : Value} {x : Wt} {m l : List Wt} (h : TyW w B v l) (hl : l = x :: m) : ∃ b off c, v = .slice (some ⟨b, off, none⟩) l.length c ∧ 1 ≤ l.length ∧ l.length ≤ c ∧ b < w.heap.size ∧ w.cell? ⟨b, off, none⟩ = some (.int .i64 x.proc) ∧ w.cell? ⟨b, off + 1, none⟩ = some (.int .i64 x.prio) ∧ w.cell? ⟨b, off + 2, none⟩ = some (.int .u8 x.val) ∧ ∃ cs, w.heap[b]? = some (.cells cs 56 (0, 0)) := by
  subst hl
  obtain ⟨ao, cap, hv, h1, h2, h3, hp⟩ := h
  obtain ⟨b, off, cs, rfl, hB, hb, hc, hx⟩ := hp (by simp at h1; omega)
  refine ⟨b, off, cap, hv, by simp, h1, blk_lt hb, ?_, ?_, ?_, cs, hb⟩
  · rw [cell_of_row w _ _ _ _ _ hb]; exact hx 0 _ rfl
  · rw [cell_of_row w _ _ _ _ _ hb]; exact hx 1 _ rfl
  · rw [cell_of_row w _ _ _ _ _ hb]; exact hx 2 _ rfl

theorem TyW.tail1 {w : World} {B b off c : Nat} {x : Wt} {m l : List Wt} (h : TyW w B (.slice (some ⟨b, off, none⟩) l.length c) l) (hl : l = x :: m) (hc : c = 1) : TyW w B (.slice (some ⟨b, off, none⟩) (l.length - 1) 0) m := by
  have := h.tail hl
  rw [if_pos hc, hc] at this
  exact this
theorem TyW.tail2 {w : World} {B b off c : Nat} {x : Wt} {m l : List Wt} (h : TyW w B (.slice (some ⟨b, off, none⟩) l.length c) l) (hl : l = x :: m) (hc : ¬ c = 1) : TyW w B (.slice (some ⟨b, off + 3, none⟩) (l.length - 1) (c - 1)) m := by
  have := h.tail hl
  rw [if_neg hc] at this
  exact this
theorem TyB.tail1 {w : World} {B b off c : Nat} {x : Int} {m l : List Int} (h : TyB w B (.slice (some ⟨b, off, none⟩) l.length c) l) (hl : l = x :: m) (hc : c = 1) : TyB w B (.slice (some ⟨b, off, none⟩) (l.length - 1) 0) m := by
  have := h.tail hl
  rw [if_pos hc, hc] at this
  exact this
theorem TyB.tail2 {w : World} {B b off c : Nat} {x : Int} {m l : List Int} (h : TyB w B (.slice (some ⟨b, off, none⟩) l.length c) l) (hl : l = x :: m) (hc : ¬ c = 1) : TyB w B (.slice (some ⟨b, off + 1, none⟩) (l.length - 1) (c - 1)) m := by
  have := h.tail hl
  rw [if_neg hc] at this
  exact this
theorem heap_alloc_size (w : World) (o : Obj) : (w.alloc o).heap.size = w.heap.size + 1 := by simp
theorem first_end {w : World} {gb o B : Nat} {cs : Array Value} {x : Wt} {m : List Wt} {v' : Value} (X Y : Obj) (hg : w.heap[gb]? = some (.cells cs 206 (0, 0))) (ht : TyW w B v' m) :
    FirstEnd w gb o cs B (x :: m) (.returned (.tuple #[.agg #[.int .i64 x.proc, .int .i64 x.prio, .int .u8 x.val], .bool true])) (((w.setCell ⟨gb, o, none⟩ v').alloc X).alloc Y) := by
  have h1 := heap_setCell_same w gb o _ _ v' hg
  have hlt := blk_lt h1
  refine ⟨v', rfl, ?_, ?_, ?_⟩
  · exact (Below.heap_alloc _ _ _ (by rw [heap_alloc_size]; exact Nat.lt_succ_of_lt hlt)).trans ((Below.heap_alloc _ _ _ hlt).trans h1)
  · exact Ty.alloc (Ty.alloc (Ty.set ht hg (by decide)) _) _
  · refine ⟨rfl, rfl, rfl, by simp [World.setCell]; omega, fun k hk hne => ?_⟩
    have hk' : k < (w.setCell ⟨gb, o, none⟩ v').heap.size := by simpa [World.setCell] using hk
    exact (Below.heap_alloc _ _ _ (by rw [heap_alloc_size]; exact Nat.lt_succ_of_lt hk')).trans ((Below.heap_alloc _ _ _ hk').trans (Below.heap_setCell _ _ _ _ (fun e => hne (by rw [e]))))

set_option maxHeartbeats 1000000 in
theorem first_cons (gb o : Nat) (cs : Array Value) (B : Nat) (v : Value) (x : Wt) (m : List Wt) (w : World) (hg : w.heap[gb]? = some (.cells cs 206 (0, 0))) (hc : cs[o]? = some v) (h : TyW w B v (x :: m)) :
    Calls Try.prog 111 #[.pointer (some ⟨gb, o, none⟩)] w (FirstEnd w gb o cs B (x :: m)) := by
  obtain ⟨l, hl⟩ : ∃ l, l = x :: m := ⟨_, rfl⟩
  rw [← hl] at h
  obtain ⟨b, off, c, rfl, hl1, hlc, hbs, y0, y1, y2, cb, hcb⟩ := h.head hl
  have z0 : w.cell? ⟨gb, o, none⟩ = some (.slice (some ⟨b, off, none⟩) l.length c) := (cell_of_row w _ _ _ _ _ hg).trans hc
  have z1 : w.frozen? ⟨gb, o, none⟩ = false := by simp [World.frozen?, hg]
  have hlt := blk_lt hg
  have HG := Lib.hid hg
  have HT := Lib.hid h
  have HLE := Lib.hid hl
  have hn1 : gb ≠ w.heap.size := by omega
  have hn2 : gb ≠ w.heap.size + 1 := by omega
  have hne : (l.length == 0) = false := by rw [beq_eq_false_iff_ne]; omega
  have hne' : ((l.length : Int) == 0) = false := by rw [beq_eq_false_iff_ne]; omega
  have hz1 : (1 : Int) ≤ (l.length : Int) := by omega
  have hz2 : (l.length : Int) ≤ (c : Int) := by omega
  have hz3 : (0 : Int) < (l.length : Int) := by omega
  clear h hc hg hl hcb
  go_enter Try.func111, Try.ntmps111
  go_wp2_with fail
  all_goals
    refine bodyPost_ret (v := .tuple #[.agg #[.int .i64 x.proc, .int .i64 x.prio, .int .u8 x.val], .bool true]) (by simp [results, Try.results111, go_sem]) rfl ?_
    first
      | exact first_end _ _ HG.out (HT.out.tail1 HLE.out (by assumption))
      | exact first_end _ _ HG.out (HT.out.tail2 HLE.out (by assumption))

theorem info_B2 : ∃ i0, Try.prog.info? 5 = some i0 ∧ i0.zero = some (.int .u8 0) ∧ i0.size = 1 ∧ i0.bytes = 1 := by
  obtain ⟨i0, hi, hz0, hz1, hz2⟩ := info_parts info_B
  exact ⟨i0, hi, hz0, hz1, hz2⟩

/-- One byte more, in place or in a new row. -/
theorem TyB.append {W : World} {B : Nat} {v : Value} {d : List Int} {x : Int} {g : Nat} (h : TyB W B v d) (hB : B ≤ W.heap.size) (hd : d.length ≤ 90000) (hg : W.heap[g]? = some (.cells #[.int .u8 x] 5 (0, 0))) (ty : TypeId) :
    ∃ v' w' row, (Builtin.append_ #[28, 28] ty #[v, .slice (some ⟨g, 0, none⟩) 1 1]).run Try.prog W = .ok v' w' ∧ TyB w' B v' (d ++ [x]) ∧ W.grownBy w' row ∧ ∀ b, row = some b → B ≤ b ∧ ∃ cs, W.heap[b]? = some (.cells cs 5 (0, 0)) := by
  obtain ⟨i0, hi, hz0, hz1, hz2⟩ := info_B2
  obtain ⟨ao, cap, hv, h1, h2, h3, hp⟩ := h
  have hnews : ∀ j u, ([Value.int .u8 x] : List Value)[j]? = some u → W.cell? ((⟨g, 0, none⟩ : Addr).add j) = some u := by
    intro j u hu
    match j, hu with
    | 0, hu =>
      simp at hu
      subst hu
      rw [addr_add, cell_of_row W _ _ _ _ _ hg]
      rfl
  subst hv
  by_cases hr : d.length + 1 ≤ cap
  · obtain ⟨b, off, cs, rfl, hbB, hb, hcc, hx⟩ := hp (by omega)
    have hrun := run_append_room_cells (P := Try.prog) W 28 ty 5 i0 Try.underlying28 hi b off d.length cap ⟨g, 0, none⟩ 1 1 [.int .u8 x] (by rw [hz1]; rfl) hnews (by intro u hu; simp at hu; subst hu; rfl) hr
      (by
        intro j hj
        simp at hj
        subst hj
        rw [hz1, cell_of_row W _ _ _ _ _ hb]
        simp
        omega) (by intro j hj; simp [World.frozen?, hb])
    rw [hz1] at hrun
    refine ⟨_, _, some b, hrun, ?_, ?_, ?_⟩
    · have h4 := heap_setCell_same W b (off + d.length * 1) _ _ (.int .u8 x) hb
      refine ⟨_, cap, by rw [List.length_append]; rfl, by rw [List.length_append]; exact hr, by simp, by simp, fun _ => ⟨b, off, _, rfl, hbB, h4, by simpa using hcc, fun j u hj => ?_⟩⟩
      rw [Array.getElem?_setIfInBounds]
      by_cases hjd : j < d.length
      · rw [if_neg (by omega)]
        refine hx j u ?_
        rw [List.map_append, List.getElem?_append_left (by simpa using hjd)] at hj
        exact hj
      · have hje : j = d.length := by
          have := (List.getElem?_eq_some_iff.1 hj).1
          simp at this
          omega
        subst hje
        rw [if_pos (by omega), if_pos (by omega)]
        rw [List.map_append, List.getElem?_append_right (by simp)] at hj
        simpa using hj
    · exact grown_set W b _ _
    · intro b' hb'
      simp only [Option.some.injEq] at hb'
      subst hb'
      exact ⟨hbB, cs, hb⟩
  · have hlen : (d ++ [x]).length = d.length + 1 := by simp
    have hmx : d.length + 1 ≤ maxLen := by unfold maxLen; omega
    cases ao with
    | none =>
      have hc0 := h3 rfl
      have hd0 : d = [] := List.eq_nil_of_length_eq_zero (by omega)
      subst hd0
      subst hc0
      obtain ⟨v', w', hrun, ho, hgr, _⟩ := run_append_own (P := Try.prog) W W.heap.size 28 ty 5 i0 (.int .u8 0) 1 1 Try.underlying28 hi hz0 hz1 hz2 rfl (by decide) (.slice none 0 0) 0 [] (World.ownsRow_nil _ _ _ _) ⟨g, 0, none⟩ 1 1 [.int .u8 x] rfl hnews (by intro u hu; simp at hu; subst hu; rfl) (by unfold maxLen; omega) (by omega) (Nat.le_refl _)
      refine ⟨v', w', none, hrun, ?_, hgr, by simp⟩
      exact Ty.mono (Ty.of_own ho) hB
    | some ad =>
      have holds : ∀ j u, (d.map (Value.int .u8))[j]? = some u → W.cell? (ad.add j) = some u := fun j u hj => by
        have hjl := (List.getElem?_eq_some_iff.1 hj).1
        simp at hjl
        obtain ⟨b, off, cs, ha, _, hb, _, hx⟩ := hp (by omega)
        cases ha
        rw [addr_add, cell_of_row W _ _ _ _ _ hb]
        exact hx j u hj
      obtain ⟨v', w', hrun, ho, hgr⟩ := run_append_arg_grows (P := Try.prog) W 28 ty 5 i0 (.int .u8 0) 1 1 Try.underlying28 hi hz0 hz1 hz2 rfl (by decide) ad d.length cap (d.map (Value.int .u8)) (by simp) holds ⟨g, 0, none⟩ 1 1 [.int .u8 x] rfl hnews (by omega) hmx (by omega)
      refine ⟨v', w', none, hrun, ?_, hgr, by simp⟩
      have h5 := Ty.mono (Ty.of_own ho) hB
      unfold TyB
      rw [hlen, List.map_append]
      exact h5

/-- What Buffer.store leaves: all blocks but the buffer's and those of bytes are as they were. -/
def StoreEnd (w : World) (gb : Nat) (n : Int) (vp vg : Value) (B : Nat) (d : List Int) (e : Ending) (w' : World) : Prop :=
  ∃ v', e = .returned (.tuple #[]) ∧ w'.heap[gb]? = some (.cells #[.int .i64 n, v', vp, vg] 206 (0, 0)) ∧ TyB w' B v' d ∧ Below B w w' ∧ w.heap.size ≤ w'.heap.size ∧
    ∀ (k : Nat) (cs : Array Value) (t : TypeId) (fz : Nat × Nat), k ≠ gb → w.heap[k]? = some (.cells cs t fz) → t ≠ 5 → w'.heap[k]? = some (.cells cs t fz)

theorem fourBlk {W : World} {g : Nat} {a b c d : Value} {t : TypeId} (h : W.heap[g]? = some (.cells #[a, b, c, d] t (0, 0))) :
    W.cell? ⟨g, 0, none⟩ = some a ∧ W.cell? ⟨g, 1, none⟩ = some b ∧ W.cell? ⟨g, 2, none⟩ = some c ∧ W.cell? ⟨g, 3, none⟩ = some d ∧ W.frozen? ⟨g, 0, none⟩ = false ∧ W.frozen? ⟨g, 1, none⟩ = false ∧ W.frozen? ⟨g, 2, none⟩ = false ∧ W.frozen? ⟨g, 3, none⟩ = false := by
  refine ⟨?_, ?_, ?_, ?_, ?_, ?_, ?_, ?_⟩
  · rw [cell_of_row _ _ _ _ _ _ h]; rfl
  · rw [cell_of_row _ _ _ _ _ _ h]; rfl
  · rw [cell_of_row _ _ _ _ _ _ h]; rfl
  · rw [cell_of_row _ _ _ _ _ _ h]; rfl
  all_goals simp [World.frozen?, h]
theorem set4 {W : World} {g : Nat} {a b c d : Value} {t : TypeId} (h : W.heap[g]? = some (.cells #[a, b, c, d] t (0, 0))) (x : Value) :
    (W.setCell ⟨g, 0, none⟩ x).heap[g]? = some (.cells #[x, b, c, d] t (0, 0)) ∧ (W.setCell ⟨g, 1, none⟩ x).heap[g]? = some (.cells #[a, x, c, d] t (0, 0)) ∧ (W.setCell ⟨g, 2, none⟩ x).heap[g]? = some (.cells #[a, b, x, d] t (0, 0)) ∧ (W.setCell ⟨g, 3, none⟩ x).heap[g]? = some (.cells #[a, b, c, x] t (0, 0)) := by
  refine ⟨?_, ?_, ?_, ?_⟩
  · have := heap_setCell_same W g 0 _ _ x h; simpa using this
  · have := heap_setCell_same W g 1 _ _ x h; simpa using this
  · have := heap_setCell_same W g 2 _ _ x h; simpa using this
  · have := heap_setCell_same W g 3 _ _ x h; simpa using this

set_option maxHeartbeats 1000000 in
theorem store_c (gb : Nat) (n x : Int) (v vp vg : Value) (B : Nat) (d : List Int) (w : World) (hg : w.heap[gb]? = some (.cells #[.int .i64 n, v, vp, vg] 206 (0, 0))) (h : TyB w B v d) (hB : B ≤ gb) (hd : d.length ≤ 90000) :
    Calls Try.prog 112 #[.pointer (some ⟨gb, 0, none⟩), .int .u8 x] w (StoreEnd w gb n vp vg B (d ++ [x])) := by
  have hlt := blk_lt hg
  obtain ⟨v', w', row, hrun, ht, hgr, hrow⟩ := TyB.append (g := w.heap.size) (x := x) (Ty.alloc h (.cells #[.int .u8 x] 5)) (by simp; omega) hd (heap_alloc_new w _) 28
  have hgA : (w.alloc (.cells #[.int .u8 x] 5)).heap[gb]? = some (.cells #[.int .i64 n, v, vp, vg] 206 (0, 0)) := (Below.heap_alloc _ _ _ hlt).trans hg
  have hoth : ∀ (k : Nat) (cs : Array Value) (t : TypeId) (fz : Nat × Nat), w.heap[k]? = some (.cells cs t fz) → t ≠ 5 → w'.heap[k]? = some (.cells cs t fz) := fun k cs t fz hk htne => by
    have hkl := blk_lt hk
    refine (hgr.block k (by simp; omega) (fun e => ?_)).trans ((Below.heap_alloc _ _ _ hkl).trans hk)
    obtain ⟨_, cs', hb'⟩ := hrow k e.symm
    rw [(Below.heap_alloc _ _ _ hkl).trans hk] at hb'
    simp only [Option.some.injEq, Obj.cells.injEq] at hb'
    exact htne hb'.2.1
  have hg' := hoth gb _ _ _ hg (by decide)
  have hsz : w.heap.size < w'.heap.size := by have := hgr.size; simp at this; omega
  have hbel : Below B w w' := (((Below.refl B w).alloc (by omega) (.cells #[.int .u8 x] 5))).grown hgr (by simp; omega) (fun b hb => (hrow b hb).1)
  obtain ⟨a1, c1, rfl⟩ := Ty.shape h
  obtain ⟨y0, y1, y2, y3, _, _, _, _⟩ := fourBlk hg
  obtain ⟨z0, z1, z2, z3, z4, z5, z6, z7⟩ := fourBlk hg'
  obtain ⟨a2, c2, hv2⟩ := Ty.shape ht
  subst hv2
  have hlt' : gb < w'.heap.size := by omega
  have HEND : Hid (StoreEnd w gb n vp vg B (d ++ [x]) (.returned (.tuple #[])) (w'.setCell ⟨gb, 1, none⟩ (.slice a2 (d ++ [x]).length c2))) := by
    refine ⟨_, rfl, (set4 hg' _).2.1, Ty.set ht hg' (by decide), hbel.setCell (p := ⟨gb, 1, none⟩) hB _, by simp [World.setCell]; omega, fun k cs t fz hk hh htne => (Below.heap_setCell _ _ _ _ hk).trans (hoth k cs t fz hh htne)⟩
  have HRUN := Lib.hid hrun
  clear hg h hg' hgA hoth hgr hrow hbel ht hrun
  generalize (d ++ [x]).length = m2 at HEND HRUN
  generalize d.length = m1 at y1 HRUN
  go_enter Try.func112, Try.ntmps112
  go_wp2_with (at_builtin; refine Lib.wpList_append_run _ rfl _ _ _ _ rfl _ _ rfl rfl _ _ HRUN.out ?_)
  refine bodyPost_ret (v := .tuple #[]) (by simp [results, Try.results112, go_sem]) rfl ?_
  exact HEND.out
end Go.Proofs.Ytglbfmcbojjglaa

/-
  Package board: the contracts of lists, bare, waits, and of the functions of package slices that they call. Conditions: what is read can be read; at most ninety thousand elements.
-/
import Derived.Test.YtglbfmcbojjglaaQueB
import Derived.Test.YtglbfmcbojjglaaSemaA
import Derived.Lib.AppendZeros
import Derived.OwnWalk
import Derived.Laws.AppendOwnNone
namespace Go.Proofs.Ytglbfmcbojjglaa
open Go.RowKit

/-- A slice of slices that reads as a list of waiting lists. -/
def RdL (w : World) (B : Nat) (v : Value) (ls : List (List Wt)) : Prop :=
  ∃ vs : List Value, Sl w B 1 v ls.length vs ∧ ∀ (i : Nat) u x, vs[i]? = some u → ls[i]? = some x → RdW w B u x
section
variable {w w' : World} {B B' : Nat} {v : Value} {ls : List (List Wt)}
theorem RdL.below (h : RdL w B v ls) (hb : Below w.heap.size w w') : RdL w' B v ls := by
  obtain ⟨vs, h1, h2⟩ := h
  exact ⟨vs, h1.below hb, fun i u x hu hx => (h2 i u x hu hx).below hb⟩
theorem RdL.shape (h : RdL w B v ls) : ∃ a c, v = .slice a ls.length c := by
  obtain ⟨vs, ⟨a, c, hv, _⟩, _⟩ := h
  exact ⟨a, c, hv⟩
theorem RdL.one {t : TypeId} {u : Value} {x : List Wt} {g : Nat} (hg : w.heap.size = g) (h : RdW w 0 u x) : RdL (w.alloc (.cells #[u] t)) 0 (.slice (some ⟨g, 0, none⟩) 1 1) [x] := by
  subst hg
  refine ⟨[u], ⟨_, _, rfl, Nat.le_refl _, by simp, rfl, fun _ => ⟨w.heap.size, 0, rfl, Nat.zero_le _, by simp, fun j y hj => ?_⟩⟩, fun i y z hy hz => ?_⟩
  · have hh := heap_alloc_new w (.cells #[u] t)
    simp only [World.cell?, hh]
    simpa using hj
  · cases i with
    | zero => simp at hy hz; subst hy; subst hz; exact h.alloc _
    | succ i => simp at hy
theorem RdL.two {t : TypeId} {u u' : Value} {x x' : List Wt} {g : Nat} (hg : w.heap.size = g) (h : RdW w 0 u x) (h' : RdW w 0 u' x') : RdL (w.alloc (.cells #[u, u'] t)) 0 (.slice (some ⟨g, 0, none⟩) 2 2) [x, x'] := by
  subst hg
  refine ⟨[u, u'], ⟨_, _, rfl, Nat.le_refl _, by simp, rfl, fun _ => ⟨w.heap.size, 0, rfl, Nat.zero_le _, by simp, fun j y hj => ?_⟩⟩, fun i y z hy hz => ?_⟩
  · have hh := heap_alloc_new w (.cells #[u, u'] t)
    simp only [World.cell?, hh]
    simpa using hj
  · match i, hy, hz with
    | 0, hy, hz => simp at hy hz; subst hy; subst hz; exact h.alloc _
    | 1, hy, hz => simp at hy hz; subst hy; subst hz; exact h'.alloc _
    | i + 2, hy, hz => simp at hy
end

/-- A predicate on lists: a closure that lays at most new blocks. -/
def PredL (g : Nat) (lb : Array Value) (p : List Wt → Bool) (w : World) (Q : List Wt → Prop) : Prop :=
  ∀ (W : World) (u : Value) (x : List Wt), Below w.heap.size w W → RdW W 0 u x → Q x → Calls Try.prog g (#[u] ++ lb) W fun e w' => e = .returned (.bool (p x)) ∧ Below w.heap.size w w'

set_option maxHeartbeats 400000 in
theorem indexL_c (v : Value) (l : List (List Wt)) (g : Nat) (lb : Array Value) (p : List Wt → Bool) (eg : ∀ args w, (callFunc g args).run Try.prog w = .ok (.enter g args) w) (w : World) (h : RdL w 0 v l) (hl : l.length ≤ 1000000) (Q : List Wt → Prop) (hQ : ∀ x ∈ l, Q x) (hp : PredL g lb p w Q) :
    Calls Try.prog 137 #[v, .func (.func g) #[] lb] w fun e w' => e = .returned (.int .i64 (firstAt p l)) ∧ Below w.heap.size w w' := by
  obtain ⟨vs, ⟨ao, ca, rfl, hca, hna, hvl, pa⟩, hin⟩ := h
  have HP := Lib.hid hp
  have HQ := Lib.hid hQ
  have HPA := Lib.hid pa
  have HIN := Lib.hid hin
  have HVL := Lib.hid hvl
  clear hp pa hin hvl hQ
  go_enter Try.func137, Try.ntmps137
  go_wp2
  go_loopg [5, 8] l.length (fun gg _ s8 wr => ∃ k : Nat, k ≤ l.length ∧ l.length - k ≤ gg ∧ s8 = .int .i64 k ∧ Aside (Below w.heap.size w wr) ∧ Aside (∀ j (hj : j < k) (hjl : j < l.length), p l[j] = false))
  case atStart => exact ⟨0, Nat.zero_le _, by omega, rfl, Below.refl _ w, fun j hj => absurd hj (Nat.not_lt_zero _)⟩
  case round =>
    obtain ⟨k, hk, hg, rfl, BW, A⟩ := hrel
    by_cases hlt : k < l.length
    · have hltz : (k : Int) < (l.length : Int) := by omega
      obtain ⟨b, off, rfl, _, hbs, ca⟩ := HPA.out (by omega)
      have hkv : k < vs.length := by have := HVL.out; omega
      have hu : vs[k]? = some vs[k] := List.getElem?_eq_getElem hkv
      have hqk : l[k]? = some l[k] := List.getElem?_eq_getElem hlt
      have c0 := ca k _ hu
      have R := (HIN.out k _ _ hu hqk).below BW.out
      rw [← BW.out.cell (p := ⟨b, _, none⟩) hbs] at c0
      obtain ⟨au, mu, hsu, _, _, _⟩ := R.open_
      rw [hsu] at c0 R
      have hcall := HP.out wr _ l[k] BW.out R (HQ.out _ (List.getElem_mem hlt))
      generalize hql : l[k].length = nq at c0 hcall
      clear hql
      clear ca hu hqk hsu R
      cases hq : p l[k] with
      | true =>
        rw [hq] at hcall
        have HC := Lib.hid hcall
        have HQQ := Lib.hid hq
        clear hcall hq
        go_wp2_with (refine HC.out.mono ?_; rintro e w' ⟨rfl, hb'⟩)
        go_ret
        exact ⟨ret_int (firstAt_hit p l k hlt HQQ.out A.out).symm, hb'⟩
      | false =>
        rw [hq] at hcall
        have HC := Lib.hid hcall
        have HQQ := Lib.hid hq
        clear hcall hq
        go_wp2_with (refine HC.out.mono ?_; rintro e w' ⟨rfl, hb'⟩)
        go_roundg (l.length - (k + 1))
        case measure => omega
        case rel =>
          refine ⟨k + 1, by omega, by omega, by go_num, hb', fun j hj hjl => ?_⟩
          by_cases e : j = k
          · subst e; exact HQQ.out
          · exact A.out j (by omega) hjl
    · have hltz : ¬ (k : Int) < (l.length : Int) := by omega
      go_wp2
      go_ret
      exact ⟨ret_int (firstAt_miss p l (fun j hj => A.out j (by omega) hj)).symm, BW.out⟩

set_option maxHeartbeats 400000 in
theorem containsL_c (v : Value) (l : List (List Wt)) (g : Nat) (lb : Array Value) (p : List Wt → Bool) (eg : ∀ args w, (callFunc g args).run Try.prog w = .ok (.enter g args) w) (w : World) (h : RdL w 0 v l) (hl : l.length ≤ 1000000) (Q : List Wt → Prop) (hQ : ∀ x ∈ l, Q x) (hp : PredL g lb p w Q) :
    Calls Try.prog 131 #[v, .func (.func g) #[] lb] w fun e w' => e = .returned (.bool (l.any p)) ∧ Below w.heap.size w w' := by
  have HC := Lib.hid (indexL_c v l g lb p eg w h hl Q hQ hp)
  rw [← firstAt_any]
  generalize firstAt p l = q at HC ⊢
  clear h hp eg hQ
  go_enter Try.func131, Try.ntmps131
  go_wp2_with (go_at_call 137; refine HC.out.mono ?_; rintro e w' ⟨rfl, hb'⟩)
  go_ret
  exact ⟨rfl, hb'⟩


set_option maxHeartbeats 400000 in
theorem lists1_c (u : Value) (x : List Wt) (w W : World) (hb : Below w.heap.size w W) (h : RdW W 0 u x) (hq : WfW x ∧ x.length ≤ 100000) :
    Calls Try.prog 132 #[u] W fun e w' => e = .returned (.bool (!decide (OrdW x))) ∧ Below w.heap.size w w' := by
  have HC := Lib.hid (orderedW_c u x W h hq.1 hq.2)
  have HB := Lib.hid hb
  generalize decide (OrdW x) = od at HC ⊢
  obtain ⟨a, c, rfl, _⟩ := h.open_
  clear hb h
  go_enter Try.func132, Try.ntmps132
  go_wp2_with fail
  refine HC.out.mono ?_
  rintro e w1 ⟨rfl, b1⟩
  have HB1 := Lib.hid (HB.out.trans (b1.mono HB.out.size))
  clear b1
  go_wp2_with fail
  go_ret
  exact ⟨rfl, HB1.out⟩

set_option maxHeartbeats 400000 in
theorem lists_c (v : Value) (ls : List (List Wt)) (w : World) (h : RdL w 0 v ls) (hl : ls.length ≤ 1000000) (hq : ∀ x ∈ ls, WfW x ∧ x.length ≤ 100000) :
    Calls Try.prog 115 #[v] w fun e w' => e = .returned (.bool (!ls.any (fun x => !decide (OrdW x)))) ∧ Below w.heap.size w w' := by
  have HC := Lib.hid (containsL_c v ls 132 #[] (fun x => !decide (OrdW x)) (enters_c Try.func132 (by kernel_rfl) rfl) w h hl (fun x => WfW x ∧ x.length ≤ 100000) hq (fun W u x hb hr hx => lists1_c u x w W hb hr hx))
  generalize ls.any (fun x => !decide (OrdW x)) = od at HC ⊢
  obtain ⟨a, c, rfl⟩ := h.shape
  clear h hq
  go_enter Try.func115, Try.ntmps115
  go_wp2_with fail
  refine HC.out.mono ?_
  rintro e w1 ⟨rfl, b1⟩
  have HB1 := Lib.hid b1
  clear b1
  go_wp2_with fail
  go_ret
  exact ⟨rfl, HB1.out⟩

set_option maxHeartbeats 400000 in
theorem bare1_c (x : Wt) (w W : World) (hb : Below w.heap.size w W) :
    Calls Try.prog 133 #[.agg #[.int .i64 x.proc, .int .i64 x.prio, .int .u8 x.val]] W fun e w' => e = .returned (.bool (x.val != 0)) ∧ Below w.heap.size w w' := by
  have HB := Lib.hid hb
  clear hb
  go_enter Try.func133, Try.ntmps133
  go_wp2
  go_ret
  exact ⟨rfl, HB.out.alloc HB.out.size _⟩

set_option maxHeartbeats 400000 in
theorem bare_c (v : Value) (l : List Wt) (w : World) (h : RdW w 0 v l) (hl : l.length ≤ 1000000) :
    Calls Try.prog 116 #[v] w fun e w' => e = .returned (.bool (!l.any (fun x => x.val != 0))) ∧ Below w.heap.size w w' := by
  have HC := Lib.hid (containsW_c v l 133 #[] (fun x => x.val != 0) (enters_c Try.func133 (by kernel_rfl) rfl) w h hl (fun W x hb => bare1_c x w W hb))
  generalize l.any (fun x => x.val != 0) = od at HC ⊢
  obtain ⟨a, c, rfl, _⟩ := h.open_
  clear h
  go_enter Try.func116, Try.ntmps116
  go_wp2_with fail
  refine HC.out.mono ?_
  rintro e w1 ⟨rfl, b1⟩
  have HB1 := Lib.hid b1
  clear b1
  go_wp2_with fail
  go_ret
  exact ⟨rfl, HB1.out⟩

set_option maxHeartbeats 400000 in
/-- Grow of nothing: an own row without elements. -/
theorem grow_c (n : Nat) (w : World) (hn : n ≤ 1000000) :
    Calls Try.prog 136 #[.slice none 0 0, .int .i64 n] w (EnterEnd w []) := by
  obtain ⟨i0, hi, hz0, hz1, hz2⟩ := info_parts info_W
  by_cases h0 : n = 0
  · subst h0
    go_enter Try.func136, Try.ntmps136
    go_wp2_with fail
    go_ret
    exact ⟨_, rfl, World.ownsRow_nil _ _ _ _, Below.refl _ w⟩
  · have hpos : (0 : Int) < (n : Int) := by omega
    have hpos' : 0 < n := by omega
    have hrun : ∀ ty, (Builtin.append_ #[25, 3] ty #[.slice none 0 0, .int .i64 n]).run Try.prog w = _ := fun ty => Lib.run_append_nil_zeros w 25 3 ty 56 i0 (.agg #[.int .i64 0, .int .i64 0, .int .u8 0]) .i64 .i64 Try.underlying25 Try.underlying3 hi hz0 n hpos' (by rw [hz1]; decide) (by omega) (by rw [hz2]; omega)
    have hge := grownCap_ge w n 0 56
    have HB : Hid (∀ o, Below w.heap.size w (w.drew.alloc o)) := fun o => ((Below.refl _ w).drew).alloc (Nat.le_refl _) o
    have HO : Hid (∀ c, n ≤ c → c ≤ maxLen → (w.drew.alloc (.cells (Builtin.zeroCells (Value.cells (.agg #[.int .i64 0, .int .i64 0, .int .u8 0])) n ++ Builtin.zeroCells (Value.cells (.agg #[.int .i64 0, .int .i64 0, .int .u8 0])) (c - n)) 56)).ownsRow w.heap.size 56 3 (.slice (some ⟨w.heap.size, 0, none⟩) 0 c) 0 []) := fun c hc hm => World.ownsRow_made w.drew _ c (Nat.le_refl _) hm (by rw [Array.size_append, size_zeroCells, size_zeroCells]; show n * 3 + (c - n) * 3 = c * 3; omega)
    have hcm := grownCap_le_maxLen w n 0 56 (by unfold maxLen; omega)
    have HCM := Lib.hid hcm
    clear hi hz0 hz1 hz2 hcm
    generalize grownCap w n 0 56 = cp at hrun hge HCM
    have hcz : (0 : Int) ≤ (cp : Int) := by omega
    go_enter Try.func136, Try.ntmps136
    go_wp2_with (at_builtin; refine Lib.wpList_append_run _ rfl _ _ _ _ rfl _ _ rfl rfl _ _ (hrun _) ?_)
    go_ret
    exact ⟨_, rfl, HO.out _ hge HCM.out, HB.out _⟩

/-- The lists one after another. -/
def flatL (ls : List (List Wt)) : List Wt := ls.flatten
theorem flat_nil : flatL [] = [] := rfl
theorem flat_one (x : List Wt) : flatL [x] = x := by simp [flatL]
theorem flat_two (x y : List Wt) : flatL [x, y] = x ++ y := by simp [flatL]
theorem flat_step (ls : List (List Wt)) (k : Nat) (hk : k < ls.length) : flatL (ls.take (k + 1)) = flatL (ls.take k) ++ ls[k] := by
  unfold flatL
  rw [List.take_succ_eq_append_getElem hk, List.flatten_append]
  simp
theorem flat_le (ls : List (List Wt)) (k : Nat) : (flatL (ls.take k)).length ≤ (flatL ls).length := by
  unfold flatL
  conv => rhs; rw [← List.take_append_drop k ls, List.flatten_append, List.length_append]
  omega

set_option maxHeartbeats 1000000 in
set_option maxRecDepth 100000 in
theorem concat_c (v : Value) (ls : List (List Wt)) (w : World) (h : RdL w 0 v ls) (hl : ls.length ≤ 1000000) (hf : (flatL ls).length ≤ 100000) :
    Calls Try.prog 129 #[v] w (EnterEnd w (flatL ls)) := by
  obtain ⟨i0, hi, hz0, hz1, hz2⟩ := info_parts info_W
  obtain ⟨vs, ⟨ao, ca, rfl, hca, hna, hvl, pa⟩, hin⟩ := h
  have HPA := Lib.hid pa
  have HIN := Lib.hid hin
  have HVL := Lib.hid hvl
  have hcell : Hid (∀ k (hk : k < ls.length), ∃ b off a c, ao = some ⟨b, off, none⟩ ∧ b < w.heap.size ∧ w.cell? ⟨b, off + k, none⟩ = some (.slice a ls[k].length c) ∧ RdW w 0 (.slice a ls[k].length c) ls[k]) := fun k hk => by
    obtain ⟨b, off, h1, _, h2, h3⟩ := HPA.out (by omega)
    have hkv : k < vs.length := by have := HVL.out; omega
    have hu : vs[k]? = some vs[k] := List.getElem?_eq_getElem hkv
    have hR := HIN.out k _ _ hu (List.getElem?_eq_getElem hk)
    have h4 := h3 k _ hu
    obtain ⟨a, c, he, _⟩ := hR.open_
    rw [he] at h4 hR
    exact ⟨b, off, a, c, h1, h2, h4, hR⟩
  clear pa hin hvl HPA HIN HVL
  go_enter Try.func129, Try.ntmps129
  go_wp2
  go_loopg [3, 5, 11] ls.length (fun gg s3 _ s11 wr => ∃ k : Nat, k ≤ ls.length ∧ ls.length - k ≤ gg ∧ s11 = .int .i64 k ∧ s3 = .int .i64 ((flatL (ls.take k)).length : Nat) ∧ wr = w)
  case atStart => exact ⟨0, Nat.zero_le _, by omega, rfl, rfl, rfl⟩
  case round =>
    obtain ⟨k, hk, hg, rfl, rfl, hwr⟩ := hrel
    obtain rfl : w = wr := hwr.symm
    clear hwr
    have hle := flat_le ls k
    by_cases hlt : k < ls.length
    · have hltz : (k : Int) < (ls.length : Int) := by omega
      obtain ⟨b, off, a, c, rfl, hbs, y0, _⟩ := hcell.out k hlt
      have HST := Lib.hid (congrArg List.length (flat_step ls k hlt))
      have hle2 := flat_le ls (k + 1)
      have hsum : (flatL (ls.take k)).length + ls[k].length ≤ 100000 := by have := HST.out; rw [List.length_append] at this; omega
      generalize hA : (flatL (ls.take k)).length = A at hle hsum HST ⊢
      generalize hC : ls[k].length = C at y0 hsum HST
      have HEND : Hid ((((flatL (ls.take (k + 1))).length : Nat) : Int) = (A : Int) + (C : Int)) := by show _ = _; have := HST.out; rw [List.length_append] at this; omega
      clear hA hC HST hle2
      go_wp2
      go_roundg (ls.length - (k + 1))
      case measure => omega
      case rel => exact ⟨k + 1, by omega, by omega, by go_num, by rw [HEND.out], rfl⟩
    · have hltz : ¬ (k : Int) < (ls.length : Int) := by omega
      obtain rfl : k = ls.length := by omega
      rw [List.take_length] at hle ⊢
      go_wp2_with fail
      refine (grow_c _ _ (by omega)).mono ?_
      rintro e w1 ⟨v1, rfl, ho1, b1⟩
      have HO1 := Lib.hid ho1
      have HB1 := Lib.hid b1
      obtain ⟨a1, c1, rfl⟩ := own_slice ho1
      clear ho1 b1
      go_wp2_with fail
      go_loopg [6, 8, 27] ls.length (fun gg s6 _ s27 wr => ∃ k : Nat, k ≤ ls.length ∧ ls.length - k ≤ gg ∧ s27 = .int .i64 k ∧ Aside (wr.ownsRow w.heap.size 56 3 s6 (flatL (ls.take k)).length (cellsW (flatL (ls.take k))) ∧ Below w.heap.size w wr))
      case atStart => exact ⟨0, Nat.zero_le _, by omega, rfl, HO1.out, HB1.out⟩
      case round =>
        obtain ⟨k, hk2, hg2, rfl, A⟩ := hrel
        clear HO1 HB1
        obtain ⟨hown, hB⟩ := A.out
        clear A
        have hle2 := flat_le ls k
        obtain ⟨a6, c6, hs6⟩ := own_slice hown
        subst hs6
        by_cases hlt : k < ls.length
        · have hltz : (k : Int) < (ls.length : Int) := by omega
          obtain ⟨b, off, a, c, rfl, hbs, y0, hR⟩ := hcell.out k hlt
          rw [← hB.cell (p := ⟨b, _, none⟩) hbs] at y0
          have hbr : b < wr.heap.size := Nat.lt_of_lt_of_le hbs hB.size
          have RB := hR.below hB
          have HST := Lib.hid (flat_step ls k hlt)
          have hsum : (flatL (ls.take k)).length + ls[k].length ≤ 100000 := by have h1 := flat_le ls (k + 1); rw [HST.out, List.length_append] at h1; omega
          have HEND : Hid (∀ (v' : Value) (w' : World), w'.ownsRow w.heap.size 56 3 v' ((flatL (ls.take k)).length + ls[k].length) (cellsW (flatL (ls.take k)) ++ cellsW ls[k]) → w'.ownsRow w.heap.size 56 3 v' (flatL (ls.take (k + 1))).length (cellsW (flatL (ls.take (k + 1))))) := fun v' w' h => by rw [HST.out, List.length_append, cellsW_append]; exact h
          have HOW := Lib.hid hown
          have HBW := Lib.hid hB
          obtain ⟨ao', cap', hv', _, hn', hl', hp'⟩ := RB
          simp only [Value.slice.injEq] at hv'
          obtain ⟨rfl, _, rfl⟩ := hv'
          cases a with
          | none =>
            have h0 : ls[k].length = 0 := by
              apply Classical.byContradiction
              intro hne
              obtain ⟨_, _, ha, _⟩ := hp' (by omega)
              cases ha
            have hc0 := hn' rfl
            rw [h0, hc0] at y0
            have HZ : Hid (ls[k] = []) := List.eq_nil_of_length_eq_zero h0
            have HEND2 : Hid (wr.ownsRow w.heap.size 56 3 (.slice a6 (flatL (ls.take k)).length c6) (flatL (ls.take (k + 1))).length (cellsW (flatL (ls.take (k + 1))))) := HEND.out _ _ (by rw [HZ.out]; simpa [cellsW_nil] using HOW.out)
            clear hown hB h0 hc0 hp' hn' hl' hR HST HEND
            go_wp2_with (at_builtin; refine wpList_append_own_none rfl _ _ 25 rfl w.heap.size 56 i0 3 Try.underlying25 hi _ _ _ rfl HOW.out rfl ?_)
            go_roundg (ls.length - (k + 1))
            case measure => omega
            case rel => exact ⟨k + 1, by omega, by omega, by go_num, HEND2.out, HBW.out⟩
          | some ad =>
            have A : Aside (∀ j u, (cellsW ls[k])[j]? = some u → wr.cell? (ad.add j) = some u) := by
              intro j u hu
              have hlt' := (List.getElem?_eq_some_iff.1 hu).1
              obtain ⟨b2, off2, ha, _, _, hc⟩ := hp' (by rw [cellsW_length] at hlt'; omega)
              cases ha
              rw [addr_add]
              exact hc j u hu
            have HXS := Lib.hid (cellsW_length ls[k])
            clear hown hB hp' hn' hl' hR HST
            go_wp2_with (at_builtin; refine wpList_append_own _ rfl _ _ 25 rfl w.heap.size 56 i0 (.agg #[.int .i64 0, .int .i64 0, .int .u8 0]) 3 24 Try.underlying25 hi hz0 hz1 hz2 rfl (by decide) _ _ _ rfl HOW.out ad ls[k].length c (cellsW ls[k]) rfl ?qc1 ?qc2 ?qc3 ?qc4 ?qc5 ?qc6 ?_)
            case qc1 => exact HXS.out
            case qc2 => exact A.out
            case qc3 => exact oneW _
            case qc4 => unfold maxLen; omega
            case qc5 => omega
            case qc6 => exact HBW.out.size
            intro v' w1 hown hgrow hnil
            have HN := Lib.hid (HEND.out _ _ hown)
            have HBN := Lib.hid (Below.grown HBW.out hgrow HBW.out.size (fun g hg => (HOW.out.lt g hg).1))
            clear hown hgrow hnil
            go_wp2_with fail
            go_roundg (ls.length - (k + 1))
            case measure => omega
            case rel => exact ⟨k + 1, by omega, by omega, by go_num, HN.out, HBN.out⟩
        · have hltz : ¬ (k : Int) < (ls.length : Int) := by omega
          obtain rfl : k = ls.length := by omega
          rw [List.take_length] at hown ⊢
          have HOW := Lib.hid hown
          have HBW := Lib.hid hB
          clear hown hB
          go_wp2_with fail
          go_ret
          exact ⟨_, rfl, HOW.out, HBW.out⟩

set_option maxHeartbeats 400000 in
theorem bwaits1_c (x : Wt) (g : Nat) (q : Int) (w W : World) (hc : w.cell? ⟨g, 0, none⟩ = some (.int .i64 q)) (hg : g < w.heap.size) (hb : Below w.heap.size w W) :
    Calls Try.prog 130 #[.agg #[.int .i64 x.proc, .int .i64 x.prio, .int .u8 x.val], .pointer (some ⟨g, 0, none⟩)] W fun e w' => e = .returned (.bool (decide (x.proc = q))) ∧ Below w.heap.size w w' := by
  have hc' : W.cell? ⟨g, 0, none⟩ = some (.int .i64 q) := (hb.cell (p := ⟨g, 0, none⟩) hg).trans hc
  have hgW : g < W.heap.size := Nat.lt_of_lt_of_le hg hb.size
  have HB := Lib.hid hb
  clear hb hc
  go_enter Try.func130, Try.ntmps130
  go_wp2
  go_ret
  exact ⟨ret_bool (by by_cases h : x.proc = q <;> simp [h]), HB.out.alloc HB.out.size _⟩

set_option maxHeartbeats 400000 in
theorem bwaits_c (q : Int) (v : Value) (ls : List (List Wt)) (w : World) (h : RdL w 0 v ls) (hl : ls.length ≤ 1000000) (hf : (flatL ls).length ≤ 100000) :
    Calls Try.prog 114 #[.int .i64 q, v] w fun e w' => e = .returned (.bool ((flatL ls).any fun x => decide (x.proc = q))) ∧ Below w.heap.size w w' := by
  obtain ⟨W0, hW0⟩ : ∃ W0, W0 = w.alloc (.cells #[.int .i64 q] 3) := ⟨_, rfl⟩
  have hb0 : Below w.heap.size w W0 := by subst hW0; exact (Below.refl _ w).alloc (Nat.le_refl _) _
  have hblk : W0.heap[w.heap.size]? = some (.cells #[.int .i64 q] 3 (0, 0)) := by subst hW0; exact heap_alloc_new w _
  have HC := Lib.hid (concat_c v ls W0 (h.below hb0) hl hf)
  obtain ⟨od, hod⟩ : ∃ od, od = ((flatL ls).any fun x => decide (x.proc = q)) := ⟨_, rfl⟩
  rw [← hod]
  have HOD := Lib.hid hod
  clear hod
  obtain ⟨a, c, rfl⟩ := h.shape
  have HB0 := Lib.hid hb0
  have HBLK := Lib.hid hblk
  have HW0 := Lib.hid hW0
  clear h hb0 hblk hW0
  go_enter Try.func114, Try.ntmps114
  go_wp2_with fail
  rw [← HW0.out]
  refine HC.out.mono ?_
  rintro e w1 ⟨v1, rfl, ho1, b1⟩
  have hblk1 := (b1.block _ (blk_lt HBLK.out)).trans HBLK.out
  have hc1 : w1.cell? ⟨w.heap.size, 0, none⟩ = some (.int .i64 q) := by rw [cell_of_row w1 _ _ _ _ _ hblk1]; rfl
  have hd := (containsW_c v1 (flatL ls) 130 #[.pointer (some ⟨w.heap.size, 0, none⟩)] (fun x => decide (x.proc = q)) (enters_c Try.func130 (by kernel_rfl) rfl) w1 (RdW.mono (B := W0.heap.size) (Sl.of_own ho1) (Nat.zero_le _)) (by omega) (fun W x hb => bwaits1_c x _ q w1 W hc1 (blk_lt hblk1) hb))
  have HB1 := Lib.hid (HB0.out.trans (b1.mono HB0.out.size))
  obtain ⟨a1, c1, rfl⟩ := own_slice ho1
  rw [← HOD.out] at hd
  have HD := Lib.hid hd
  clear hd
  clear ho1 b1 hblk1 hc1 HC
  go_wp2_with fail
  refine HD.out.mono ?_
  rintro e w2 ⟨rfl, b2⟩
  have HB2 := Lib.hid (HB1.out.trans (b2.mono HB1.out.size))
  clear b2
  go_wp2_with fail
  go_ret
  exact ⟨rfl, HB2.out⟩
end Go.Proofs.Ytglbfmcbojjglaa

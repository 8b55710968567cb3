/-
  Contracts of the inner methods of package sema: any, valid, may, enter, procs on a list behind a pointer. Conditions: the list can be read, its processes are of type int, at most a hundred thousand elements.
-/
import Derived.Test.YtglbfmcbojjglaaLeave
import Derived.Test.YtglbfmcbojjglaaOrdered
namespace Go.Proofs.Ytglbfmcbojjglaa
open Go.RowKit

/-- A slice of waiters that lies in blocks from B on, none of its cells frozen. -/
def FrW (w : World) (B : Nat) (v : Value) (l : List Wt) : Prop :=
  RdW w B v l ∧ ∀ a n c, v = .slice (some a) n c → 0 < n → ∀ j, w.frozen? ⟨a.block, j, none⟩ = false

section
variable {w w' : World} {B B' : Nat} {v : Value} {l : List Wt}
theorem FrW.below (h : FrW w B v l) (hb : Below w.heap.size w w') : FrW w' B v l := by
  refine ⟨h.1.below hb, fun a n c hv hn j => ?_⟩
  obtain ⟨ao, cap, hv', _, _, _, hp⟩ := h.1
  subst hv
  simp only [Value.slice.injEq] at hv'
  obtain ⟨hao, hn', _⟩ := hv'
  obtain ⟨b, off, ha, _, hbs, _⟩ := hp (by omega)
  rw [ha] at hao
  simp only [Option.some.injEq] at hao
  subst hao
  rw [hb.frozen (p := ⟨b, j, none⟩) hbs]
  exact h.2 _ n c rfl hn j
theorem FrW.mono (h : FrW w B v l) (hB : B' ≤ B) : FrW w B' v l := ⟨h.1.mono hB, h.2⟩
theorem FrW.rd (h : FrW w B v l) : RdW w 0 v l := h.1.mono (Nat.zero_le _)
theorem FrW.drew (h : FrW w B v l) : FrW w.drew B v l := h
theorem FrW.drewN (h : FrW w B v l) (k : Nat) : FrW (w.drewN k) B v l := h
theorem FrW.alloc (h : FrW w B v l) (o : Obj) : FrW (w.alloc o) B v l := h.below ((Below.refl _ _).alloc (Nat.le_refl _) _)
theorem FrW.of_own (h : w.ownsRow B 56 3 v l.length (cellsW l)) : FrW w B v l := by
  refine ⟨Sl.of_own h, fun a n c hv hn j => ?_⟩
  rcases h.2 with ⟨rfl, _⟩ | ⟨g, cap, cur, rfl, _, hg, _⟩
  · cases hv
  · simp only [Value.slice.injEq, Option.some.injEq] at hv
    obtain ⟨rfl, _⟩ := hv
    simp [World.frozen?, hg]
theorem FrW.nil (w : World) (B : Nat) : FrW w B (.slice none 0 0) [] := ⟨Sl.nil w B 3, fun a n c hv _ => by cases hv⟩
/-- Cells elsewhere may be written: only block g turns. -/
theorem FrW.far {g : Nat} (h : FrW w B v l) (hg : w.grownBy w' (some g)) (hne : ∀ a n c, v = .slice (some a) n c → 0 < n → a.block ≠ g) : FrW w' B v l := by
  obtain ⟨⟨ao, cap, hv', h1, h2, h3, hp⟩, hf⟩ := h
  subst hv'
  refine ⟨⟨ao, cap, rfl, h1, h2, h3, fun h0 => ?_⟩, fun a n c hv hn j => ?_⟩
  · obtain ⟨b, off, ha, hB, hbs, hc⟩ := hp h0
    subst ha
    have := hne _ _ _ rfl h0
    exact ⟨b, off, rfl, hB, Nat.lt_of_lt_of_le hbs hg.size, fun j u hu => hg.cell (hc j u hu) (by simp; exact this)⟩
  · have hv2 := hv
    simp only [Value.slice.injEq] at hv
    obtain ⟨rfl, rfl, rfl⟩ := hv
    obtain ⟨b, off, ha, hB, hbs, _⟩ := hp hn
    simp only [Option.some.injEq] at ha
    subst ha
    have := hne _ _ _ rfl hn
    rw [World.frozen?_of_block (hg.block b hbs (by simp; exact this))]
    exact hf _ _ _ rfl hn j
end

set_option maxHeartbeats 400000 in
theorem any_c (b o : Nat) (v : Value) (l : List Wt) (g : Nat) (lb : Array Value) (p : Wt → Bool) (eg : ∀ args w, (callFunc g args).run Try.prog w = .ok (.enter g args) w) (w : World) (hc : w.cell? ⟨b, o, none⟩ = some v) (h : RdW w 0 v l) (hl : l.length ≤ 100000) (hp : PredW g lb p w) :
    Calls Try.prog 126 #[.pointer (some ⟨b, o, none⟩), .func (.func g) #[] lb] w fun e w' => e = .returned (.bool (l.any p)) ∧ Below w.heap.size w w' := by
  have HC := Lib.hid (containsW_c v l g lb p eg w h (by omega) hp)
  obtain ⟨ao, cap, rfl, _, _, _, _⟩ := h
  clear hp eg
  generalize l.any p = q at HC ⊢
  go_enter Try.func126, Try.ntmps126
  go_wp2_with fail
  refine HC.out.mono ?_
  rintro e w1 ⟨rfl, hb1⟩
  have HB := Lib.hid hb1
  clear hb1
  go_wp2_with fail
  go_ret
  exact ⟨rfl, HB.out⟩

set_option maxHeartbeats 400000 in
theorem valid1_c (x : Wt) (w W : World) (hb : Below w.heap.size w W) :
    Calls Try.prog 128 #[.agg #[.int .i64 x.proc, .int .i64 x.prio, .int .u8 x.val]] W fun e w' => e = .returned (.bool (x.val != 0)) ∧ Below w.heap.size w w' := by
  have HB := Lib.hid hb
  clear hb
  go_enter Try.func128, Try.ntmps128
  go_wp2
  go_ret
  exact ⟨rfl, HB.out.alloc HB.out.size _⟩

set_option maxHeartbeats 400000 in
theorem may1_c (x : Wt) (g : Nat) (q : Int) (w W : World) (hc : w.cell? ⟨g, 0, none⟩ = some (.int .i64 q)) (hg : g < w.heap.size) (hb : Below w.heap.size w W) :
    Calls Try.prog 127 #[.agg #[.int .i64 x.proc, .int .i64 x.prio, .int .u8 x.val], .pointer (some ⟨g, 0, none⟩)] W fun e w' => e = .returned (.bool (decide (x.proc = q))) ∧ Below w.heap.size w w' := by
  have hc' : W.cell? ⟨g, 0, none⟩ = some (.int .i64 q) := (hb.cell (p := ⟨g, 0, none⟩) hg).trans hc
  have hgW : g < W.heap.size := Nat.lt_of_lt_of_le hg hb.size
  have HB := Lib.hid hb
  clear hb hc
  go_enter Try.func127, Try.ntmps127
  go_wp2
  go_ret
  exact ⟨ret_bool (by by_cases h : x.proc = q <;> simp [h]), HB.out.alloc HB.out.size _⟩

/-- The list is ordered, holds no bytes, and is empty unless processes may wait. -/
def vldL (l : List Wt) (may : Bool) : Bool := decide (OrdW l) && !l.any (fun x => x.val != 0) && (may || l.length == 0)
/-- A process may act. -/
def mayL (l : List Wt) (q : Int) : Bool := decide (0 ≤ q) && !l.any (fun x => decide (x.proc = q))

set_option maxHeartbeats 1000000 in
theorem valid_c (b o : Nat) (v : Value) (l : List Wt) (m : Bool) (w : World) (hc : w.cell? ⟨b, o, none⟩ = some v) (h : RdW w 0 v l) (hwf : WfW l) (hl : l.length ≤ 100000) :
    Calls Try.prog 108 #[.pointer (some ⟨b, o, none⟩), .bool m] w fun e w' => e = .returned (.bool (vldL l m)) ∧ Below w.heap.size w w' := by
  have HO := Lib.hid (orderedW_c v l w h hwf hl)
  have hbl : b < w.heap.size := World.block_lt_of_cell? _ _ hc
  have HA : Hid (∀ w1, Below w.heap.size w w1 → Calls Try.prog 126 #[.pointer (some ⟨b, o, none⟩), .func (.func 128) #[] #[]] w1 fun e w' => e = .returned (.bool (l.any (fun x => x.val != 0))) ∧ Below w1.heap.size w1 w') := fun w1 hb1 =>
    any_c b o v l _ #[] _ (enters_c Try.func128 (by kernel_rfl) rfl) w1 ((hb1.cell (p := ⟨b, o, none⟩) hbl).trans hc) (h.below hb1) hl (fun W x hW => valid1_c x w1 W hW)
  obtain ⟨ao, cap, rfl, _, _, _, _⟩ := h
  clear hwf
  cases hO : decide (OrdW l) with
  | false =>
    rw [hO] at HO
    have hv : vldL l m = false := by simp [vldL, hO]
    rw [hv]
    clear hO hv HA
    go_enter Try.func108, Try.ntmps108
    go_wp2_with fail
    refine HO.out.mono ?_
    rintro e w1 ⟨rfl, hb1⟩
    have HB := Lib.hid hb1
    clear hb1 HO
    go_wp2_with fail
    go_ret
    exact ⟨rfl, HB.out⟩
  | true =>
    rw [hO] at HO
    have hv : Hid (vldL l m = (!l.any (fun x => x.val != 0) && (m || l.length == 0))) := by show _ = _; simp [vldL, hO]
    rw [hv.out]
    clear hO hv
    generalize l.any (fun x => x.val != 0) = q at HA ⊢
    have hlen : ((l.length : Int) == 0) = (l.length == 0) := by rw [Bool.eq_iff_iff]; simp
    have HL := Lib.hid hlen
    clear hlen
    have hcase : ∀ w1, Below w.heap.size w w1 → w1.cell? ⟨b, o, none⟩ = some (.slice ao l.length cap) := fun w1 hb1 => (hb1.cell (p := ⟨b, o, none⟩) hbl).trans hc
    have HCC := Lib.hid hcase
    clear hcase
    cases q <;> cases m
    all_goals
      go_enter Try.func108, Try.ntmps108
      go_wp2_with fail
      refine HO.out.mono ?_
      rintro e w1 ⟨rfl, hb1⟩
      have HB := Lib.hid hb1
      clear hb1 HO
      go_wp2_with fail
      refine (HA.out w1 HB.out).mono ?_
      rintro e w2 ⟨rfl, hb2⟩
      have HB2 := Lib.hid (HB.out.trans (hb2.mono HB.out.size))
      have hcc := HCC.out w2 HB2.out
      clear hb2 HA HCC HB
      go_wp2_with fail
      go_ret
      exact ⟨ret_bool (by first | rfl | (rw [← HL.out]; rfl)), HB2.out⟩
end Go.Proofs.Ytglbfmcbojjglaa

/-
  Two appends of messages in a region that draws: a copy of a queue, then one message more. Conditions: at most ninety thousand messages.
-/
import Derived.Test.YtglbfmcbojjglaaRef23S
import Derived.Test.YtglbfmcbojjglaaBuA
namespace Go.Proofs.Ytglbfmcbojjglaa
open Go.RowKit

theorem ownQ_empty {W : World} {g B : Nat} {t : TypeId} {sz : Nat} (hg : W.heap[g]? = some (.cells #[] t (0, 0))) (hB : B ≤ g) : W.ownsRow B t sz (.slice (some ⟨g, 0, none⟩) 0 0) 0 [] :=
  ⟨by simp, .inr ⟨g, 0, #[], rfl, hB, hg, by simp, by simp, by simp, by simp⟩⟩
theorem slOne {w : World} {B n : Nat} {v : Value} {q : List (List Int)} {vs : List Value} (h : Sl w B 1 v n vs) (hr : ∀ (i : Nat) u x, vs[i]? = some u → q[i]? = some x → RdI .u8 w 0 u x) (hq : q.length = n) : ∀ u ∈ vs, u.oneCell' = true := by
  intro u hu
  obtain ⟨i, hi, rfl⟩ := List.getElem_of_mem hu
  have hl : vs.length = n := by obtain ⟨_, _, _, _, _, h3, _⟩ := h; omega
  obtain ⟨a, c, hv, _⟩ := (hr i vs[i] (q[i]'(by omega)) (List.getElem?_eq_getElem hi) (List.getElem?_eq_getElem (by omega))).open_
  rw [hv]
  rfl
/-- The row of a queue lies in a block of its own type. -/
def TgQ (w : World) (v : Value) : Prop := ∀ a n c, v = .slice (some a) n c → 0 < n → Tag w a.block 28
theorem tag_lt {w : World} {g : Nat} {t : TypeId} (h : Tag w g t) : g < w.heap.size := by obtain ⟨cs, h⟩ := h; exact blk_lt h
theorem TgQ.below {w w' : World} {v : Value} (h : TgQ w v) (hb : Below w.heap.size w w') : TgQ w' v := fun a n c hv hn => by
  obtain ⟨cs, hc⟩ := h a n c hv hn
  exact ⟨cs, (hb.block _ (blk_lt hc)).trans hc⟩
theorem TgQ.alloc {w : World} {v : Value} (h : TgQ w v) (ob : Obj) : TgQ (w.alloc ob) v := h.below ((Below.refl _ _).alloc (Nat.le_refl _) _)
theorem TgQ.set {w : World} {v u : Value} {g o : Nat} (h : TgQ w v) : TgQ (w.setCell ⟨g, o, none⟩ u) v := fun a n c hv hn => (h a n c hv hn).set
theorem TgQ.own {w : World} {B n s : Nat} {v : Value} {xs : List Value} (h : w.ownsRow B 28 s v n xs) : TgQ w v := fun a m c hv hm => by
  rcases h.2 with ⟨rfl, _⟩ | ⟨g, cap, cur, rfl, _, hg, _⟩
  · cases hv
  · simp only [Value.slice.injEq, Option.some.injEq] at hv
    obtain ⟨rfl, _⟩ := hv
    exact ⟨cur, hg⟩
/-- The first append: the copy. -/
theorem twoQ1 {W W' : World} {g : Nat} {v : Value} {n : Nat} {vs : List Value} (hb : Below W.heap.size W W') (hg : W'.heap[g]? = some (.cells #[] 28 (0, 0))) (hB : W.heap.size ≤ g) (hr : Sl W' 0 1 v n vs) (h1 : ∀ u ∈ vs, u.oneCell' = true) (hn : n ≤ 90000) (ty : TypeId) :
    ∃ a c w', (Builtin.append_ #[24, 24] ty #[.slice (some ⟨g, 0, none⟩) 0 0, v]).run Try.prog W' = .ok (.slice a n c) w' ∧ w'.ownsRow W.heap.size 28 1 (.slice a n c) n vs ∧ Below W.heap.size W w' ∧ ∀ j ob, j ≠ g → W'.heap[j]? = some ob → w'.heap[j]? = some ob := by
  obtain ⟨i0, hi, hz0, hz1, hz2⟩ := info_parts info_BS
  have ho := ownQ_empty (sz := 1) hg hB
  have hgl := blk_lt hg
  obtain ⟨ao, cap, rfl, hnc, hna, hl, hp⟩ := hr
  have fin : ∀ {v' : Value} {w' : World}, W'.grownBy w' (some g) → Below W.heap.size W w' ∧ ∀ j ob, j ≠ g → W'.heap[j]? = some ob → w'.heap[j]? = some ob := fun {v' w'} hgr => by
    refine ⟨⟨hgr.os.trans hb.os, hgr.tape.trans hb.tape, hgr.output.trans hb.output, Nat.le_trans hb.size hgr.size, fun k hk => ?_⟩, fun j ob hj ho' => ?_⟩
    · exact (hgr.block k (Nat.lt_of_lt_of_le hk hb.size) (by intro e; simp only [Option.some.injEq] at e; omega)).trans (hb.block k hk)
    · exact (hgr.block j (by apply Classical.byContradiction; intro hge; rw [Array.getElem?_eq_none (by omega)] at ho'; cases ho') (by intro e; simp only [Option.some.injEq] at e; exact hj e)).trans ho'
  cases ao with
  | none =>
    have hc0 : cap = 0 := hna rfl
    have hn0 : n = 0 := by omega
    subst hc0 hn0
    have hx : vs = [] := List.eq_nil_of_length_eq_zero (by simpa using hl)
    subst hx
    have hgr : W'.grownBy W' (some g) := ⟨rfl, rfl, rfl, Nat.le_refl _, fun _ _ _ => rfl⟩
    obtain ⟨f1, f2⟩ := fin (v' := .slice none 0 0) hgr
    exact ⟨some ⟨g, 0, none⟩, 0, W', by simp [Builtin.append_, go_sem], ho, f1, f2⟩
  | some ad =>
    by_cases h0 : n = 0
    · subst h0
      have hx : vs = [] := List.eq_nil_of_length_eq_zero (by simpa using hl)
      subst hx
      obtain ⟨v', w', r1, r2, r3, _⟩ := run_append_own (P := Try.prog) W' W.heap.size 24 ty 28 i0 (.slice none 0 0) 1 24 Try.underlying24 hi hz0 hz1 hz2 rfl (by decide) _ 0 [] ho ad 0 cap [] rfl (by simp) (by simp) (by unfold maxLen; omega) (by omega) (by omega)
      obtain ⟨a, c, rfl⟩ := own_slice r2
      obtain ⟨f1, f2⟩ := fin (v' := .slice none 0 0) r3
      exact ⟨a, c, w', r1, r2, f1, f2⟩
    · obtain ⟨b, off, ha, _, _, hc⟩ := hp (by omega)
      cases ha
      obtain ⟨v', w', r1, r2, r3, _⟩ := run_append_own (P := Try.prog) W' W.heap.size 24 ty 28 i0 (.slice none 0 0) 1 24 Try.underlying24 hi hz0 hz1 hz2 rfl (by decide) _ 0 [] ho ⟨b, off, none⟩ n cap vs (by omega) (fun j u hu => by rw [addr_add]; exact hc j u hu) h1 (by unfold maxLen; omega) (by omega) (by omega)
      rw [Nat.zero_add, List.nil_append] at r2
      obtain ⟨a, c, rfl⟩ := own_slice r2
      obtain ⟨f1, f2⟩ := fin (v' := .slice none 0 0) r3
      exact ⟨a, c, w', r1, r2, f1, f2⟩
/-- The second append: one message more. -/
theorem twoQ2 {W W' : World} {g n : Nat} {v vx : Value} {vs : List Value} (hb : Below W.heap.size W W') (ho : W'.ownsRow W.heap.size 28 1 v n vs) (hx1 : vx.oneCell' = true) (hg : W'.heap[g]? = some (.cells #[vx] 28 (0, 0))) (hn : n ≤ 90000) (ty : TypeId) :
    ∃ a c w', (Builtin.append_ #[24, 24] ty #[v, .slice (some ⟨g, 0, none⟩) 1 1]).run Try.prog W' = .ok (.slice a (n + 1) c) w' ∧ Sl w' W.heap.size 1 (.slice a (n + 1) c) (n + 1) (vs ++ [vx]) ∧ Below W.heap.size W w' ∧ TgQ w' (.slice a (n + 1) c) := by
  obtain ⟨i0, hi, hz0, hz1, hz2⟩ := info_parts info_BS
  obtain ⟨v', w', r1, r2, r3, _⟩ := run_append_own (P := Try.prog) W' W.heap.size 24 ty 28 i0 (.slice none 0 0) 1 24 Try.underlying24 hi hz0 hz1 hz2 rfl (by decide) v n vs ho ⟨g, 0, none⟩ 1 1 [vx] rfl
    (by
      intro j u hu
      match j, hu with
      | 0, hu =>
        simp at hu
        subst hu
        rw [addr_add, cell_of_row W' _ _ _ _ _ hg]
        rfl) (by intro u hu; simp at hu; subst hu; exact hx1) (by unfold maxLen; omega) (by omega) hb.size
  obtain ⟨a, c, rfl⟩ := own_slice r2
  refine ⟨a, c, w', r1, Sl.of_own r2, ⟨r3.os.trans hb.os, r3.tape.trans hb.tape, r3.output.trans hb.output, Nat.le_trans hb.size r3.size, fun k hk => ?_⟩, TgQ.own r2⟩
  exact (r3.block k (Nat.lt_of_lt_of_le hk hb.size) (fun e => by have := (ho.lt k e.symm).1; omega)).trans (hb.block k hk)
/-- What the longer queue reads as behind the stores into the result. -/
theorem twoQfin {w W : World} {B n : Nat} {v vx : Value} {vs : List Value} {q : List (List Int)} {x : List Int} (h : Sl W B 1 v (n + 1) (vs ++ [vx])) (hB : w.heap.size + 1 + 1 < B) (hb : Below w.heap.size w W) (hn : q.length = n) (hvl : vs.length = n) (hr : ∀ (i : Nat) u y, vs[i]? = some u → q[i]? = some y → RdI .u8 w 0 u y) (hx : RdI .u8 w 0 vx x) (hT : TgQ W v) (a b c : Value) : RdQ (fin3 w W a b c) 0 v (q ++ [x]) ∧ TgQ (fin3 w W a b c) v := by
  refine ⟨⟨vs ++ [vx], ?_, fun i u y hu hy => ?_⟩, hT.set.set.set⟩
  · rw [List.length_append, hn]
    exact Sl.mono (((Sl.low h hB).low hB).low hB) (Nat.zero_le _)
  · have hf := below_fin3 hb a b c
    by_cases hi : i < n
    · rw [List.getElem?_append_left (by omega)] at hu hy
      exact (hr i u y hu hy).below hf
    · rw [List.getElem?_append_right (by omega)] at hu hy
      have h1 := (List.getElem?_eq_some_iff.1 hu).1
      simp at h1
      have hi0 : i - vs.length = 0 := by omega
      have hi1 : i - q.length = 0 := by omega
      rw [hi0] at hu
      rw [hi1] at hy
      simp at hu hy
      subst hu hy
      exact hx.below hf
end Go.Proofs.Ytglbfmcbojjglaa

/-
  The contract of sema.Signal. Conditions: the list can be read, its processes are of type int, at most ninety thousand elements.
-/
import Derived.Test.YtglbfmcbojjglaaSemaE
namespace Go.Proofs.Ytglbfmcbojjglaa
open Go.RowKit

/-- P25.2 -/
def signalS (n : Int) (l : List Wt) : Int × List Wt × Int × Int :=
  if vldS n l = false then (n, l, -1, 2) else match l with
    | x :: m => (n, m, x.proc, 0)
    | [] => if n = 255 then (n, [], -1, 4) else (n + 1, [], -1, 0)

theorem FrW.tail {w : World} {B b off m d : Nat} {x : Wt} {l k : List Wt} (h : FrW w B (.slice (some ⟨b, off, none⟩) m d) k) (hk : k = x :: l) : FrW w B (.slice (if d = 1 then some ⟨b, off, none⟩ else some ⟨b, off + 3, none⟩) (m - 1) (d - 1)) l := by
  subst hk
  obtain ⟨⟨ao, cap, hv, h1, h2, h3, hp⟩, hf⟩ := h
  simp only [Value.slice.injEq, List.length_cons] at hv
  obtain ⟨rfl, rfl, rfl⟩ := hv
  simp only [List.length_cons] at h1 h3 hp hf
  obtain ⟨b', off', ha, hB, hbs, hc⟩ := hp (by omega)
  simp only [Option.some.injEq, Addr.mk.injEq, and_true] at ha
  obtain ⟨rfl, rfl⟩ := ha
  rw [Nat.add_sub_cancel]
  refine ⟨⟨_, _, rfl, by omega, ?_, cellsW_length l, fun h0 => ?_⟩, ?_⟩
  · intro h; split at h <;> cases h
  · rw [if_neg (by omega)]
    refine ⟨b, off + 3, rfl, hB, hbs, fun j u hu => ?_⟩
    have := hc (3 + j) u (by rw [cellsW_cons, List.getElem?_append_right (by rw [encW_length]; omega), encW_length]; simpa using hu)
    rwa [← Nat.add_assoc] at this
  · intro a n c hv hn j
    simp only [Value.slice.injEq] at hv
    obtain ⟨h4, h5, h6⟩ := hv
    have : a.block = b := by split at h4 <;> (simp only [Option.some.injEq] at h4; subst h4; rfl)
    rw [this]
    exact hf ⟨b, off, none⟩ _ _ rfl (by omega) j

theorem FrW.head {w : World} {B m d : Nat} {a : Option Addr} {x : Wt} {l k : List Wt} (h : FrW w B (.slice a m d) k) (hk : k = x :: l) : m = l.length + 1 ∧ 1 ≤ d ∧ ∃ b off, a = some ⟨b, off, none⟩ ∧ B ≤ b ∧ b < w.heap.size ∧
    w.cell? ⟨b, off, none⟩ = some (.int .i64 x.proc) ∧ w.cell? ⟨b, off + 1, none⟩ = some (.int .i64 x.prio) ∧ w.cell? ⟨b, off + 2, none⟩ = some (.int .u8 x.val) := by
  subst hk
  obtain ⟨⟨ao, cap, hv, h1, h2, h3, hp⟩, hf⟩ := h
  simp only [Value.slice.injEq, List.length_cons] at hv
  obtain ⟨rfl, rfl, rfl⟩ := hv
  simp only [List.length_cons] at h1 hp
  obtain ⟨b', off', rfl, hB, hbs, hc⟩ := hp (by omega)
  exact ⟨rfl, by omega, b', off', rfl, hB, hbs, hc 0 _ rfl, hc 1 _ rfl, hc 2 _ rfl⟩

set_option maxHeartbeats 2000000 in
set_option maxRecDepth 100000 in
theorem signalS_c (n : Int) (v : Value) (l : List Wt) (w : World) (h : RdW w 0 v l) (hwf : WfW l) (hl : l.length ≤ 90000) :
    Calls Try.prog 49 #[.agg #[.int .i64 n, v]] w (Ret3 w (.int .i64 (signalS n l).1) (signalS n l).2.1 (.int .i64 (signalS n l).2.2.1) (.int .i64 (signalS n l).2.2.2)) := by
  obtain ⟨ao, cap, rfl, hnc, hno, _⟩ := h.open_
  obtain ⟨W0, hW0⟩ : ∃ W0, W0 = ((w.alloc (.cells #[.int .i64 n, .slice ao l.length cap] 71)).alloc (.cells #[.int .i64 0, .slice none 0 0] 71)) := ⟨_, rfl⟩
  have hR0 : RdW W0 0 (.slice ao l.length cap) l := by subst hW0; exact (h.alloc _).alloc _
  have HOp := Lib.hid (openS_c n _ l W0 hR0 (by omega))
  have HW0 := Lib.hid hW0
  have HR0 := Lib.hid hR0
  have HWF := Lib.hid hwf
  clear h hW0 hR0 hwf
  have hway : (vldS n l = false ∧ signalS n l = (n, l, -1, 2)) ∨ (vldS n l = true ∧ ∃ x m, l = x :: m ∧ signalS n l = (n, m, x.proc, 0)) ∨ (vldS n l = true ∧ l = [] ∧ n = 255 ∧ signalS n l = (n, l, -1, 4)) ∨
      (vldS n l = true ∧ l = [] ∧ n ≠ 255 ∧ signalS n l = (n + 1, l, -1, 0)) := by
    unfold signalS
    cases h1 : vldS n l
    · simp
    · cases l with
      | cons x m => exact .inr (.inl ⟨rfl, x, m, rfl, rfl⟩)
      | nil => by_cases h3 : n = 255 <;> simp [h3]
  rcases hway with ⟨k1, k2⟩ | ⟨k1, x, m, kl, k2⟩ | ⟨k1, kl, rfl, k2⟩ | ⟨k1, kl, k3, k2⟩
  · rw [k2]
    clear k2
    have K1 := Lib.hid k1
    clear k1
    go_enter Try.func49, Try.ntmps49
    go_wp2_with fail
    rw [← HW0.out]
    refine HOp.out.mono ?_
    rintro e w1 ⟨g, v1, rfl, hg1, hg2, hfr, hb1, hap⟩
    have M1 := Lib.hid (Mid.open_ HW0.out hg1 hg2 hfr hb1 hap)
    obtain ⟨a1, d1, rfl⟩ := fr_slice hfr
    have HR1 := Lib.hid (HR0.out.below hb1)
    obtain ⟨x0, x1, _, _⟩ := twoBlk M1.out.arg
    clear hg1 hg2 hfr hb1 hap HOp HR0 HW0
    go_wp2_with fail
    have hv := validS_c n _ l w1 HR1.out HWF.out (by omega)
    rw [K1.out] at hv
    refine hv.mono ?_
    clear hv
    rintro e w2 ⟨rfl, hb2⟩
    have M2 := Lib.hid (M1.out.next hb2)
    obtain ⟨o0, o1, o2, o3⟩ := twoBlk M2.out.obj
    have os := blk_lt M2.out.obj
    clear hb2 M1 x0 x1 HR1 HWF
    go_wp2_with fail
    refine (closeS_c g n a1 _ d1 _ (M2.out).obj).mono ?_
    rintro e w3 ⟨rfl, hb3⟩
    have M3 := Lib.hid ((M2.out).next hb3)
    obtain ⟨y0, y1, y2, y3⟩ := twoBlk M3.out.res
    have ys := blk_lt M3.out.res
    clear hb3 o0 o1 o2 o3
    go_wp2_with fail
    refine bodyPost_ret (v := .tuple #[.agg #[.int .i64 n, .slice a1 l.length d1], .int .i64 (-1), .int .i64 2]) (by simp [results, Try.results49, go_sem, y0, y1]) rfl ?_
    exact ⟨_, rfl, M3.out.last _ _⟩
  · rw [k2]
    clear k2
    have K1 := Lib.hid k1
    clear k1
    have KL := Lib.hid kl
    have hpos : 0 < l.length := by rw [kl]; simp
    have hposz : (0 : Int) < (l.length : Int) := by omega
    clear kl
    go_enter Try.func49, Try.ntmps49
    go_wp2_with fail
    rw [← HW0.out]
    refine HOp.out.mono ?_
    rintro e w1 ⟨g, v1, rfl, hg1, hg2, hfr, hb1, hap⟩
    have M1 := Lib.hid (Mid.open_ HW0.out hg1 hg2 hfr hb1 hap)
    obtain ⟨a1, d1, rfl⟩ := fr_slice hfr
    have HR1 := Lib.hid (HR0.out.below hb1)
    obtain ⟨x0, x1, _, _⟩ := twoBlk M1.out.arg
    clear hg1 hg2 hfr hb1 hap HOp HR0 HW0
    go_wp2_with fail
    have hv := validS_c n _ l w1 HR1.out HWF.out (by omega)
    rw [K1.out] at hv
    refine hv.mono ?_
    clear hv
    rintro e w2 ⟨rfl, hb2⟩
    have M2 := Lib.hid (M1.out.next hb2)
    obtain ⟨o0, o1, o2, o3⟩ := twoBlk M2.out.obj
    have os := blk_lt M2.out.obj
    clear hb2 M1 x0 x1 HR1 HWF
    obtain ⟨hlen, hd1, b, off, rfl, hBb, hbs, c0, c1, c2⟩ := M2.out.fr.head KL.out
    have hbg := M2.out.apart _ _ _ rfl (by omega)
    have hgb : Hid (b ≠ g) := hbg
    clear hbg hlen
    have T2 := Lib.hid (M2.out.fr.tail KL.out)
    have htab : Hid (∀ (v' : Value), FrW w2 (w.heap.size + 2) v' m → (∀ a n cc, v' = .slice (some a) n cc → 0 < n → a.block ≠ g) → Mid w (((w2.setCell ⟨g, 0, none⟩ v').alloc (.cells #[.int .i64 x.proc, .int .i64 x.prio, .int .u8 x.val] 56)).drew) 71 192 (.int .i64 n) (.int .i64 0) (.slice ao l.length cap) g v' (.int .i64 n) m ∧
        ((w2.setCell ⟨g, 0, none⟩ v').alloc (.cells #[.int .i64 x.proc, .int .i64 x.prio, .int .u8 x.val] 56)).drew.heap[w2.heap.size]? = some (.cells #[.int .i64 x.proc, .int .i64 x.prio, .int .u8 x.val] 56 (0, 0))) := by
      intro v' hf ha
      have h1 := (M2.out.put0 v' hf ha).next ((Below.refl _ _).alloc (Nat.le_refl _) (.cells #[.int .i64 x.proc, .int .i64 x.prio, .int .u8 x.val] 56))
      refine ⟨⟨h1.arg, h1.res, h1.ge, h1.obj, h1.fr, h1.below.drew, h1.apart⟩, ?_⟩
      have := heap_alloc_new (w2.setCell ⟨g, 0, none⟩ v') (.cells #[.int .i64 x.proc, .int .i64 x.prio, .int .u8 x.val] 56)
      rw [show (w2.setCell ⟨g, 0, none⟩ v').heap.size = w2.heap.size by simp [World.setCell]] at this
      exact this
    have hnn : ¬ (w2.heap.size = w.heap.size + 1) := by have := blk_lt M2.out.res; omega
    have hnn2 : ¬ (w.heap.size + 1 = w2.heap.size) := fun e => hnn e.symm
    by_cases hd : d1 = 1
    · subst hd
      have MT := Lib.hid (htab.out (.slice (some ⟨b, off, none⟩) (l.length - 1) 0) (by have := T2.out; rwa [if_pos rfl] at this) (by intro a n cc hv _; simp only [Value.slice.injEq, Option.some.injEq] at hv; rw [← hv.1]; exact hgb.out))
      clear htab T2 M2
      go_wp2_with fail
      go_region_with (go_at_call 103; refine (closeS_c g n _ _ _ _ MT.out.1.obj).mono ?_; rintro e w3 ⟨rfl, hb3⟩; have M3 := Lib.hid (MT.out.1.next hb3); obtain ⟨y0, y1, y2, y3⟩ := twoBlk M3.out.res; have ys := blk_lt M3.out.res; have hX := (hb3.block _ (blk_lt MT.out.2)).trans MT.out.2; have e0 : w3.cell? ⟨w2.heap.size, 0, none⟩ = some (.int .i64 x.proc) := (by rw [cell_of_row w3 _ _ _ _ _ hX]; rfl); clear hb3 hX)
      all_goals
        go_wp2_with fail
        refine bodyPost_ret (v := .tuple #[.agg #[.int .i64 n, .slice (some ⟨b, off, none⟩) (l.length - 1) 0], .int .i64 x.proc, .int .i64 0]) (by simp [results, Try.results49, go_sem, y0, y1]) rfl ?_
        exact ⟨_, rfl, M3.out.last _ _⟩
    · skip
      have MT := Lib.hid (htab.out (.slice (some ⟨b, off + 3, none⟩) (l.length - 1) (d1 - 1)) (by have := T2.out; rwa [if_neg hd] at this) (by intro a n cc hv _; simp only [Value.slice.injEq, Option.some.injEq] at hv; rw [← hv.1]; exact hgb.out))
      clear htab T2 M2
      go_wp2_with fail
      go_region_with (go_at_call 103; refine (closeS_c g n _ _ _ _ MT.out.1.obj).mono ?_; rintro e w3 ⟨rfl, hb3⟩; have M3 := Lib.hid (MT.out.1.next hb3); obtain ⟨y0, y1, y2, y3⟩ := twoBlk M3.out.res; have ys := blk_lt M3.out.res; have hX := (hb3.block _ (blk_lt MT.out.2)).trans MT.out.2; have e0 : w3.cell? ⟨w2.heap.size, 0, none⟩ = some (.int .i64 x.proc) := (by rw [cell_of_row w3 _ _ _ _ _ hX]; rfl); clear hb3 hX)
      all_goals
        go_wp2_with fail
        refine bodyPost_ret (v := .tuple #[.agg #[.int .i64 n, .slice (some ⟨b, off + 3, none⟩) (l.length - 1) (d1 - 1)], .int .i64 x.proc, .int .i64 0]) (by simp [results, Try.results49, go_sem, y0, y1]) rfl ?_
        exact ⟨_, rfl, M3.out.last _ _⟩
  · rw [k2]
    clear k2
    have K1 := Lib.hid k1
    clear k1
    have hz : ¬ (0 < l.length) := by rw [kl]; simp
    have hzz : ¬ ((0 : Int) < (l.length : Int)) := by omega
    clear kl
    go_enter Try.func49, Try.ntmps49
    go_wp2_with fail
    rw [← HW0.out]
    refine HOp.out.mono ?_
    rintro e w1 ⟨g, v1, rfl, hg1, hg2, hfr, hb1, hap⟩
    have M1 := Lib.hid (Mid.open_ HW0.out hg1 hg2 hfr hb1 hap)
    obtain ⟨a1, d1, rfl⟩ := fr_slice hfr
    have HR1 := Lib.hid (HR0.out.below hb1)
    obtain ⟨x0, x1, _, _⟩ := twoBlk M1.out.arg
    clear hg1 hg2 hfr hb1 hap HOp HR0 HW0
    go_wp2_with fail
    have hv := validS_c 255 _ l w1 HR1.out HWF.out (by omega)
    rw [K1.out] at hv
    refine hv.mono ?_
    clear hv
    rintro e w2 ⟨rfl, hb2⟩
    have M2 := Lib.hid (M1.out.next hb2)
    obtain ⟨o0, o1, o2, o3⟩ := twoBlk M2.out.obj
    have os := blk_lt M2.out.obj
    clear hb2 M1 x0 x1 HR1 HWF
    go_wp2_with fail
    refine (closeS_c g 255 a1 _ d1 _ (M2.out).obj).mono ?_
    rintro e w3 ⟨rfl, hb3⟩
    have M3 := Lib.hid ((M2.out).next hb3)
    obtain ⟨y0, y1, y2, y3⟩ := twoBlk M3.out.res
    have ys := blk_lt M3.out.res
    clear hb3 o0 o1 o2 o3
    go_wp2_with fail
    refine bodyPost_ret (v := .tuple #[.agg #[.int .i64 255, .slice a1 l.length d1], .int .i64 (-1), .int .i64 4]) (by simp [results, Try.results49, go_sem, y0, y1]) rfl ?_
    exact ⟨_, rfl, M3.out.last _ _⟩
  · rw [k2]
    clear k2
    have K1 := Lib.hid k1
    clear k1
    have hnb := vldS_bd K1.out
    have hn0 : 0 ≤ n := hnb.1
    have hn1 : n ≤ 255 := hnb.2
    clear hnb
    have hne : (n == 255) = false := by simp; exact k3
    have hlt : n < 255 := by omega
    clear k3
    have hz : ¬ (0 < l.length) := by rw [kl]; simp
    have hzz : ¬ ((0 : Int) < (l.length : Int)) := by omega
    clear kl
    go_enter Try.func49, Try.ntmps49
    go_wp2_with fail
    rw [← HW0.out]
    refine HOp.out.mono ?_
    rintro e w1 ⟨g, v1, rfl, hg1, hg2, hfr, hb1, hap⟩
    have M1 := Lib.hid (Mid.open_ HW0.out hg1 hg2 hfr hb1 hap)
    obtain ⟨a1, d1, rfl⟩ := fr_slice hfr
    have HR1 := Lib.hid (HR0.out.below hb1)
    obtain ⟨x0, x1, _, _⟩ := twoBlk M1.out.arg
    clear hg1 hg2 hfr hb1 hap HOp HR0 HW0
    go_wp2_with fail
    have hv := validS_c n _ l w1 HR1.out HWF.out (by omega)
    rw [K1.out] at hv
    refine hv.mono ?_
    clear hv
    rintro e w2 ⟨rfl, hb2⟩
    have M2 := Lib.hid (M1.out.next hb2)
    obtain ⟨o0, o1, o2, o3⟩ := twoBlk M2.out.obj
    have os := blk_lt M2.out.obj
    clear hb2 M1 x0 x1 HR1 HWF
    go_wp2_with fail
    refine (closeS_c g (n + 1) a1 _ d1 _ (M2.out.put1 (.int .i64 (n + 1))).obj).mono ?_
    rintro e w3 ⟨rfl, hb3⟩
    have M3 := Lib.hid ((M2.out.put1 (.int .i64 (n + 1))).next hb3)
    obtain ⟨y0, y1, y2, y3⟩ := twoBlk M3.out.res
    have ys := blk_lt M3.out.res
    clear hb3 o0 o1 o2 o3
    go_wp2_with fail
    refine bodyPost_ret (v := .tuple #[.agg #[.int .i64 (n + 1), .slice a1 l.length d1], .int .i64 (-1), .int .i64 0]) (by simp [results, Try.results49, go_sem, y0, y1]) rfl ?_
    exact ⟨_, rfl, M3.out.last _ _⟩

end Go.Proofs.Ytglbfmcbojjglaa

/-
  QueuingLists: for every list and process the call returns true, and nothing that was there before has turned. No conditions but that the list can be read and holds numbers of its types.
-/
import Derived.Test.YtglbfmcbojjglaaAwake23
import Derived.Test.YtglbfmcbojjglaaRefOrd
import Derived.Deep.DeepCutAuto
namespace Go.Proofs.Ytglbfmcbojjglaa
open Go.RowKit

/-- One element's process is another. -/
theorem cellsW_setProc (l : List Wt) (i : Nat) (hi : i < l.length) (z : Int) : cellsW (l.set i ⟨z, l[i].prio, l[i].val⟩) = (cellsW l).set (i * 3) (.int .i64 z) := by
  induction l generalizing i with
  | nil => simp at hi
  | cons x l ih =>
    cases i with
    | zero => simp [cellsW_cons, encW]
    | succ i =>
      have h1 : (i + 1) * 3 = (encW x).length + i * 3 := by rw [encW_length]; omega
      simp only [List.set_cons_succ, List.getElem_cons_succ, cellsW_cons]
      rw [ih i (by simpa using hi), h1, List.set_append_right _ _ (Nat.le_add_right _ _), Nat.add_sub_cancel_left]
theorem FrW.setProc {w : World} {B b off n c : Nat} {l : List Wt} (h : FrW w B (.slice (some ⟨b, off, none⟩) n c) l) (i : Nat) (hi : i < l.length) (z : Int) : FrW (w.setCell ⟨b, off + i * 3, none⟩ (.int .i64 z)) B (.slice (some ⟨b, off, none⟩) n c) (l.set i ⟨z, l[i].prio, l[i].val⟩) := by
  obtain ⟨⟨ao, cap, hv, h1, h2, h3, hp⟩, hf⟩ := h
  simp only [Value.slice.injEq] at hv
  obtain ⟨rfl, rfl, rfl⟩ := hv
  obtain ⟨b', off', ha, hB, hbs, hc⟩ := hp (by omega)
  simp only [Option.some.injEq, Addr.mk.injEq, and_true] at ha
  obtain ⟨rfl, rfl⟩ := ha
  have hcl := cellsW_length l
  have hset := cellsW_setProc l i hi z
  have hci := hc (i * 3) _ (by have := cellsW_get l i 0 hi (by omega); simpa [encW] using this)
  have hobj : ∃ cs t fz, w.heap[b]? = some (.cells cs t fz) := by
    unfold World.cell? at hci
    split at hci
    · exact ⟨_, _, _, by assumption⟩
    · cases hci
  obtain ⟨cs, t, fz, hobj⟩ := hobj
  refine ⟨⟨_, _, by rw [List.length_set], by rw [List.length_set]; exact h1, h2, by rw [cellsW_length], fun _ => ⟨b, off, rfl, hB, by simpa [World.setCell] using hbs, fun j u hu => ?_⟩⟩, fun a n c hv hn j => ?_⟩
  · rw [hset, List.getElem?_set] at hu
    by_cases hj : i * 3 = j
    · subst hj
      rw [if_pos rfl, if_pos (by rw [hcl]; omega)] at hu
      simp only [Option.some.injEq] at hu
      subst hu
      exact World.cell?_setCell_same _ _ _ hci
    · rw [if_neg hj] at hu
      have hne : (⟨b, off + i * 3, none⟩ : Addr) ≠ ⟨b, off + j, none⟩ := by intro e; simp only [Addr.mk.injEq] at e; omega
      rw [World.cell?_setCell_other _ _ _ _ hne]
      exact hc j u hu
  · simp only [Value.slice.injEq, Option.some.injEq] at hv
    obtain ⟨rfl, _, _⟩ := hv
    have := hf ⟨b, off, none⟩ _ _ rfl (by omega) j
    rw [World.frozen?_setCell]
    exact this

/-- What the two rows are while their elements are turned: lists of the length that they had. -/
def SomeW (w : World) (B : Nat) (v : Value) (n : Nat) : Prop := ∃ l : List Wt, l.length = n ∧ FrW w B v l

set_option maxHeartbeats 1500000 in
set_option maxRecDepth 100000 in
theorem queuingLists_c (v : Value) (l : List Wt) (x : Wt) (w : World) (h : RdW w 0 v l) (hwf : WfW l) (hl : l.length ≤ 9223372036854775807) :
    Calls Try.prog 4 #[v, .agg #[.int .i64 x.proc, .int .i64 x.prio, .int .u8 x.val]] w fun e w' => e = .returned (.bool true) ∧ Below w.heap.size w w' := by
  obtain ⟨ao, ca, rfl, hca, hna, hpa⟩ := h.open_
  obtain ⟨i0, hi, hz0, hz1, hz2⟩ := info_parts info_W
  have HPA := Lib.hid hpa
  have HWF := Lib.hid hwf
  obtain ⟨W0, hW0⟩ : ∃ W0, W0 = w.alloc (.cells #[.int .i64 x.proc, .int .i64 x.prio, .int .u8 x.val] 56) := ⟨_, rfl⟩
  have BX : Hid (W0.heap[w.heap.size]? = some (.cells #[.int .i64 x.proc, .int .i64 x.prio, .int .u8 x.val] 56 (0, 0))) := by subst hW0; exact heap_alloc_new w _
  have HB0 : Hid (Below w.heap.size w W0) := by subst hW0; exact (Below.refl _ w).alloc (Nat.le_refl _) _
  have HR := Lib.hid (h.below HB0.out)
  have hsz : w.heap.size < W0.heap.size := by subst hW0; simp
  have hpre : ∀ W : World, Below W0.heap.size W0 W → Below w.heap.size w W := fun W hb => HB0.out.trans (hb.mono HB0.out.size)
  have HPRE := Lib.hid hpre
  have HNA := Lib.hid hna
  have HW0 := Lib.hid hW0
  clear hpa hwf h hW0 hpre hca hna
  go_enter Try.func4, Try.ntmps4
  by_cases h40 : (40 : Int) < (l.length : Int)
  · go_wp2_with fail
    rw [← HW0.out]
    refine (awake23_c _).mono ?_
    rintro e w9 ⟨rfl, b9⟩
    have HB9 := Lib.hid (HPRE.out _ b9)
    clear b9
    go_wp2_with fail
    go_ret
    exact ⟨rfl, HB9.out⟩
  · have hl40 : l.length ≤ 40 := by omega
    go_upto_region 3 with (fail)
    rw [← HW0.out]
    go_cut [5] (fun s5 wx => ∃ a5 m5 c5, s5 = .slice a5 m5 c5 ∧ Aside (Below W0.heap.size W0 wx ∧ RdW wx 0 (.slice a5 m5 c5) l))
    case first =>
      cases ao with
      | none =>
        have h0 : l = [] := by
          apply Classical.byContradiction
          intro hne
          obtain ⟨b, off, ha, _⟩ := HPA.out (by cases l with | nil => exact absurd rfl hne | cons _ _ => simp)
          cases ha
        have H0 := Lib.hid h0
        subst h0
        go_wp2_with fail
        go_meet
        exact ⟨_, _, _, rfl, (Below.refl _ W0).alloc (Nat.le_refl _) _, ⟨_, _, rfl, Nat.le_refl _, by simp, rfl, fun h => absurd h (by simp)⟩⟩
      | some ad =>
        have A : Aside (∀ j u, (cellsW l)[j]? = some u → W0.cell? (ad.add j) = some u) := by
          intro j u hu
          have hlt := (List.getElem?_eq_some_iff.1 hu).1
          obtain ⟨ao, cap, hv, _, _, _, hp⟩ := HR.out
          obtain ⟨b, off, ha, _, _, hc⟩ := hp (by rw [cellsW_length] at hlt; omega)
          simp only [Value.slice.injEq] at hv
          obtain ⟨rfl, _, _⟩ := hv
          cases ha
          rw [addr_add]
          exact hc j u hu
        have HXS := Lib.hid (cellsW_length l)
        go_wp2_with (at_builtin; refine wpList_append_own _ rfl _ _ 25 rfl W0.heap.size 56 i0 (.agg #[.int .i64 0, .int .i64 0, .int .u8 0]) 3 24 Try.underlying25 hi hz0 hz1 hz2 rfl (by decide) _ _ _ rfl (World.ownsRow_made W0 #[] 0 (Nat.le_refl _) (Nat.zero_le _) (by simp)) ad l.length ca (cellsW l) rfl ?qc1 ?qc2 ?qc3 ?qc4 ?qc5 ?qc6 ?_)
        case qc1 => exact HXS.out
        case qc2 =>
          intro j u hj
          exact (World.cell?_alloc_lt _ _ _ (World.block_lt_of_cell? _ _ (A.out j u hj))).trans (A.out j u hj)
        case qc3 => exact oneW l
        case qc4 => unfold maxLen; omega
        case qc5 => omega
        intro v' w1 hown hgrow hnil
        obtain ⟨a5, c5, rfl⟩ := own_slice hown
        have HRW : Hid (RdW w1 0 (.slice a5 l.length c5) l) := by
          show RdW _ _ _ _
          have := Sl.of_own hown
          exact (RdW.mono (B := W0.heap.size) this (Nat.zero_le _))
        have HBW := Lib.hid (((Below.refl _ W0).alloc (Nat.le_refl _) (.cells #[] 56)).grown hgrow (by simp) (by intro k hk; simp [Value.ownBlock] at hk; omega))
        clear hown hgrow hnil
        go_wp2_with fail
        go_meet
        exact ⟨_, _, _, rfl, HBW.out, HRW.out⟩
    case rest =>
      obtain ⟨a5, m5, c5, rfl, A⟩ := hcut
      obtain ⟨wz, rfl⟩ : ∃ wz : World, wz = wc := ⟨_, rfl⟩
      have HBc := Lib.hid A.out.1
      have RWAS := Lib.hid A.out.2
      have RL := Lib.hid (HR.out.below A.out.1)
      clear A HNA HPA
      obtain ⟨x0, x1, x2⟩ := boxX ((HBc.out.block _ hsz).trans BX.out)
      have hsc : w.heap.size < wz.heap.size := Nat.lt_of_lt_of_le hsz HBc.out.size
      have hE41 : (enterW l x).length ≤ 41 := by rw [enterW_length]; omega
      have hL40 : (leaveW l x.proc).length ≤ 40 := Nat.le_trans (leave_length l x.proc) hl40
      go_upto_region 4 with (fail)
      go_cut [6, 7] (fun s6 s7 wx => ∃ a6 c6 a7 c7, s6 = .slice a6 (enterW l x).length c6 ∧ s7 = .slice a7 (leaveW l x.proc).length c7 ∧ ∃ w2 : World, Aside (Below wz.heap.size wz wx ∧ wz.heap.size ≤ w2.heap.size ∧ FrW wx wz.heap.size (.slice a6 (enterW l x).length c6) (enterW l x) ∧ FrW wx w2.heap.size (.slice a7 (leaveW l x.proc).length c7) (leaveW l x.proc) ∧ ∀ a, a6 = some a → a.block < w2.heap.size))
      case first =>
        go_region_with (first
          | (go_at_call 39; refine (enterW_c _ l x _ (by exact RL.out) (by omega)).mono ?_; rintro e w2 ⟨v2, rfl, ho2, b2⟩; replace b2 : Below wz.heap.size wz w2 := (by first | exact b2 | exact below_un b2); replace ho2 : w2.ownsRow wz.heap.size 56 3 v2 (enterW l x).length (cellsW (enterW l x)) := ho2; obtain ⟨a6, c6, rfl⟩ := own_slice ho2; have FE := Lib.hid (FrW.of_own ho2); have LT2 : Hid (∀ a, a6 = some a → a.block < w2.heap.size) := (fun a ha => (ho2.lt a.block (by rw [ha]; rfl)).2); have HB2 := Lib.hid b2; have RL2 := Lib.hid (RL.out.below b2); obtain ⟨z0, z1, z2⟩ := boxX ((b2.block _ hsc).trans ((HBc.out.block _ hsz).trans BX.out)); have hs2 : w.heap.size < w2.heap.size := Nat.lt_of_lt_of_le hsc b2.size; clear ho2 b2)
          | (go_at_call 40; refine (leaveW_c _ l x.proc _ (by exact RL2.out) (by omega)).mono ?_; rintro e w3 ⟨v3, rfl, ho3, b3⟩; replace b3 : Below w2.heap.size w2 w3 := (by first | exact b3 | exact below_un b3); replace ho3 : w3.ownsRow w2.heap.size 56 3 v3 (leaveW l x.proc).length (cellsW (leaveW l x.proc)) := ho3; obtain ⟨a7, c7, rfl⟩ := own_slice ho3; have FL := Lib.hid (FrW.of_own ho3); have FE3 := Lib.hid (FE.out.below b3); have HB3 := Lib.hid (HB2.out.trans (b3.mono HB2.out.size)); clear ho3 b3))
        all_goals
          go_wp2_with fail
          go_meet
          exact ⟨_, _, _, _, rfl, rfl, w2, HB3.out, HB2.out.size, FE3.out, FL.out, LT2.out⟩
      case rest =>
        obtain ⟨a6, c6, a7, c7, rfl, rfl, w2, A⟩ := hcut
        obtain ⟨hA1, hA2, hA3, hA4, hA5⟩ := A.out
        have HD := Lib.hid hA1
        have FE := Lib.hid hA3
        have FL := Lib.hid hA4
        have LT2 := Lib.hid hA5
        have hw2 := hA2
        clear A hA1 hA2 hA3 hA4 hA5 x0 x1 x2
        have HD0 := Lib.hid (HBc.out.trans (HD.out.mono HBc.out.size))
        have RL0 := Lib.hid (RL.out.below HD.out)
        obtain ⟨x0, x1, x2⟩ := boxX ((HD0.out.block _ hsz).trans BX.out)
        have hsd : w.heap.size < wc.heap.size := Nat.lt_of_lt_of_le hsz HD0.out.size
        go_wp2_with fail
        refine (refEnter_c _ l x _ RL0.out (by omega)).mono ?_
        rintro e w4 ⟨v4, rfl, ho4, b4⟩
        obtain ⟨a4, c4, rfl⟩ := own_slice ho4
        have R4 := Lib.hid (FrW.of_own ho4).rd
        have E4 := Lib.hid (HD.out.trans (b4.mono HD.out.size))
        have FE4 := Lib.hid (FE.out.below b4)
        have FL4 := Lib.hid (FL.out.below b4)
        clear ho4 b4 FE FL x0 x1 x2 hsd
        go_wp2_with fail
        refine (waiters_c _ _ (enterW l x) (enterW l x) _ (FE4.out.mono (Nat.zero_le _)).rd R4.out (by omega) (by omega)).mono ?_
        rintro e w5 ⟨rfl, j5, rfl⟩
        rw [show decide ((enterW l x) = (enterW l x)) = true from by simp]
        have E5 := Lib.hid (below_drewN' E4.out j5)
        have FE5 := Lib.hid (FE4.out.drewN j5)
        have FL5 := Lib.hid (FL4.out.drewN j5)
        have Z5 := Lib.hid (HBc.out.trans (E5.out.mono HBc.out.size))
        have RL5 := Lib.hid (RL.out.below E5.out)
        clear R4 E4 FE4 FL4
        obtain ⟨W5, hW5⟩ : ∃ W5, W5 = w4.drewN j5 := ⟨_, rfl⟩
        rw [← hW5] at E5 FE5 FL5 Z5 RL5 ⊢
        clear hW5
        obtain ⟨x0, x1, x2⟩ := boxX ((Z5.out.block _ hsz).trans BX.out)
        have hs5 : w.heap.size < W5.heap.size := Nat.lt_of_lt_of_le hsz Z5.out.size
        go_wp2_with fail
        refine (refLeave_c _ l x.proc _ RL5.out (by omega)).mono ?_
        rintro e w6 ⟨v6, rfl, ho6, b6⟩
        obtain ⟨a6', c6', rfl⟩ := own_slice ho6
        have R6 := Lib.hid (FrW.of_own ho6).rd
        have E6 := Lib.hid (E5.out.trans (b6.mono E5.out.size))
        have FE6 := Lib.hid (FE5.out.below b6)
        have FL6 := Lib.hid (FL5.out.below b6)
        have RL6 := Lib.hid (RL5.out.below b6)
        clear ho6 b6 E5 FE5 FL5 Z5 RL5 x0 x1 x2 hs5
        go_wp2_with fail
        refine (waiters_c _ _ (leaveW l x.proc) (leaveW l x.proc) _ (FL6.out.mono (Nat.zero_le _)).rd R6.out (by omega) (by omega)).mono ?_
        rintro e w7 ⟨rfl, j7, rfl⟩
        rw [show decide ((leaveW l x.proc) = (leaveW l x.proc)) = true from by simp]
        have E7 := Lib.hid (below_drewN' E6.out j7)
        have FE7 := Lib.hid (FE6.out.drewN j7)
        have FL7 := Lib.hid (FL6.out.drewN j7)
        have RL7 := Lib.hid (RL6.out.drewN j7)
        clear R6 E6 FE6 FL6 RL6
        go_wp2_with fail
        refine (orderedW_c _ l _ RL7.out HWF.out (by omega)).mono ?_
        rintro e w8 ⟨rfl, b8⟩
        have E8 := Lib.hid (E7.out.trans (b8.mono E7.out.size))
        have FE8 := Lib.hid (FE7.out.below b8)
        have FL8 := Lib.hid (FL7.out.below b8)
        have RL8 := Lib.hid (RL7.out.below b8)
        clear b8 E7 FE7 FL7 RL7
        go_wp2_with fail
        refine (refOrdered_c _ l _ RL8.out (by omega)).mono ?_
        rintro e w9 ⟨rfl, b9⟩
        have E9 := Lib.hid (E8.out.trans (b9.mono E8.out.size))
        have FE9 := Lib.hid (FE8.out.below b9)
        have FL9 := Lib.hid (FL8.out.below b9)
        clear b9 E8 FE8 FL8 RL8
        generalize decide (OrdW l) = od
        have hod : (od == od) = true := by simp
        go_wp2_with fail
        go_loopg [9, 47] (enterW l x).length (fun gg _ s47 wr => ∃ k : Nat, k ≤ (enterW l x).length ∧ (enterW l x).length - k ≤ gg ∧ s47 = .int .i64 k ∧ Aside (Below wz.heap.size wz wr ∧ SomeW wr wz.heap.size (.slice a6 (enterW l x).length c6) (enterW l x).length ∧ SomeW wr w2.heap.size (.slice a7 (leaveW l x.proc).length c7) (leaveW l x.proc).length))
        case atStart => exact ⟨0, Nat.zero_le _, by omega, rfl, E9.out, ⟨_, rfl, FE9.out⟩, ⟨_, rfl, FL9.out⟩⟩
        case round =>
          obtain ⟨k, hk, hg, rfl, A⟩ := hrel
          clear E9 FE9 FL9
          obtain ⟨hB, ⟨la, hla, hfa⟩, lb, hlb, hfb⟩ := A.out
          clear A
          by_cases hlt : k < (enterW l x).length
          · have hltz : (k : Int) < ((enterW l x).length : Int) := by omega
            obtain ⟨ao', cc', hv, _, _, pp⟩ := hfa.1.open_
            obtain ⟨b, off, ha, hBb, hbs, ca'⟩ := pp (by omega)
            obtain ⟨y0, y1, y2⟩ := ca' k (by omega)
            obtain rfl : a6 = some ⟨b, off, none⟩ := by simp only [Value.slice.injEq] at hv; rw [hv.1, ha]
            have hfz : wr.frozen? ⟨b, off + k * 3, none⟩ = false := hfa.2 _ _ _ rfl (by omega) _
            have hb2 : b < w2.heap.size := LT2.out _ rfl
            have hkl : k < la.length := by omega
            have HN : Hid (∀ z : Int, Below wz.heap.size wz (wr.setCell ⟨b, off + k * 3, none⟩ (.int .i64 z)) ∧ SomeW (wr.setCell ⟨b, off + k * 3, none⟩ (.int .i64 z)) wz.heap.size (.slice (some ⟨b, off, none⟩) (enterW l x).length c6) (enterW l x).length ∧ SomeW (wr.setCell ⟨b, off + k * 3, none⟩ (.int .i64 z)) w2.heap.size (.slice a7 (leaveW l x.proc).length c7) (leaveW l x.proc).length) := fun z =>
              ⟨hB.setCell (p := ⟨b, off + k * 3, none⟩) (by show _ ≤ b; exact hBb) _, ⟨_, by rw [List.length_set]; exact hla, hfa.setProc k hkl z⟩, ⟨lb, hlb, hfb.low hb2⟩⟩
            generalize la[k].proc = pk at y0
            clear hv ha pp ca' hfa hfb hB hla hlb y1 y2
            go_wp2_with fail
            go_roundg ((enterW l x).length - (k + 1))
            case measure => omega
            case rel => exact ⟨k + 1, by omega, by omega, by go_num, HN.out _⟩
          · have hltz : ¬ (k : Int) < ((enterW l x).length : Int) := by omega
            have HB1 := Lib.hid hB
            have SB1 : Hid (SomeW wr w2.heap.size (.slice a7 (leaveW l x.proc).length c7) (leaveW l x.proc).length) := ⟨lb, hlb, hfb⟩
            clear hB hfa hfb hla hlb hlt
            go_wp2_with fail
            go_loopg [10, 61] (leaveW l x.proc).length (fun gg _ s61 wr => ∃ k : Nat, k ≤ (leaveW l x.proc).length ∧ (leaveW l x.proc).length - k ≤ gg ∧ s61 = .int .i64 k ∧ Aside (Below wz.heap.size wz wr ∧ SomeW wr w2.heap.size (.slice a7 (leaveW l x.proc).length c7) (leaveW l x.proc).length))
            case atStart => exact ⟨0, Nat.zero_le _, by omega, rfl, HB1.out, SB1.out⟩
            case round =>
              obtain ⟨k, hk, hg, rfl, A⟩ := hrel
              clear HB1 SB1
              obtain ⟨hB, lb, hlb, hfb⟩ := A.out
              clear A
              by_cases hlt : k < (leaveW l x.proc).length
              · have hltz : (k : Int) < ((leaveW l x.proc).length : Int) := by omega
                obtain ⟨ao', cc', hv, _, _, pp⟩ := hfb.1.open_
                obtain ⟨b, off, ha, hBb, hbs, ca'⟩ := pp (by omega)
                obtain ⟨y0, y1, y2⟩ := ca' k (by omega)
                obtain rfl : a7 = some ⟨b, off, none⟩ := by simp only [Value.slice.injEq] at hv; rw [hv.1, ha]
                have hfz : wr.frozen? ⟨b, off + k * 3, none⟩ = false := hfb.2 _ _ _ rfl (by omega) _
                have hkl : k < lb.length := by omega
                have HN : Hid (∀ z : Int, Below wz.heap.size wz (wr.setCell ⟨b, off + k * 3, none⟩ (.int .i64 z)) ∧ SomeW (wr.setCell ⟨b, off + k * 3, none⟩ (.int .i64 z)) w2.heap.size (.slice (some ⟨b, off, none⟩) (leaveW l x.proc).length c7) (leaveW l x.proc).length) := fun z =>
                  ⟨hB.setCell (p := ⟨b, off + k * 3, none⟩) (by show _ ≤ b; omega) _, ⟨_, by rw [List.length_set]; exact hlb, hfb.setProc k hkl z⟩⟩
                generalize lb[k].proc = pk at y0
                clear hv ha pp ca' hfb hB hlb y1 y2
                go_wp2_with fail
                go_roundg ((leaveW l x.proc).length - (k + 1))
                case measure => omega
                case rel => exact ⟨k + 1, by omega, by omega, by go_num, HN.out _⟩
              · have hltz : ¬ (k : Int) < ((leaveW l x.proc).length : Int) := by omega
                have HB2 := Lib.hid hB
                have RA := Lib.hid (RL.out.below hB)
                have RB := Lib.hid (RWAS.out.below hB)
                clear hB hfb hlb hlt
                go_wp2_with fail
                refine (waiters_c _ _ l l _ RA.out RB.out (by omega) (by omega)).mono ?_
                rintro e wa ⟨rfl, ja, rfl⟩
                rw [show decide (l = l) = true from by simp]
                have HB3 := Lib.hid (below_drewN' HB2.out ja)
                clear RA RB HB2
                go_wp2_with fail
                refine (awake23_c _).mono ?_
                rintro e wb ⟨rfl, bb⟩
                have HB4 := Lib.hid (HPRE.out _ (HBc.out.trans ((HB3.out.trans (bb.mono HB3.out.size)).mono HBc.out.size)))
                clear bb
                go_wp2_with fail
                go_ret
                exact ⟨rfl, HB4.out⟩
end Go.Proofs.Ytglbfmcbojjglaa

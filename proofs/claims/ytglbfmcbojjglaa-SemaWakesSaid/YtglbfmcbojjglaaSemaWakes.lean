/-
  SemaWakes: for every list of priorities the call returns true, and nothing that was there before has turned. No conditions but that the list can be read.
-/
import Derived.Test.YtglbfmcbojjglaaAwake25
import Derived.Test.YtglbfmcbojjglaaPlainA
import Derived.Deep.DeepCutAuto
namespace Go.Proofs.Ytglbfmcbojjglaa
open Go.RowKit

set_option maxHeartbeats 4000000 in
set_option maxRecDepth 100000 in
theorem semaWakes_c (v : Value) (zs : List Int) (w : World) (h : RdI .u8 w 0 v zs) (hz : ∀ z ∈ zs, 0 ≤ z ∧ z ≤ 255) (hl : zs.length ≤ 9223372036854775807) :
    Calls Try.prog 10 #[v] w fun e w' => e = .returned (.bool true) ∧ Below w.heap.size w w' := by
  obtain ⟨ao, ca, rfl, hca, hna, pa⟩ := h.open_
  clear h
  go_enter Try.func10, Try.ntmps10
  go_upto_region 1 with (fail)
  go_cut [0] (fun s0 wx => ∃ n : Nat, s0 = .slice ao n ca ∧ n ≤ 10 ∧ n ≤ zs.length ∧ w = wx)
  case first =>
    by_cases h10 : zs.length ≤ 10
    · have hi : (zs.length : Int) ≤ 10 := by omega
      go_wp2
      go_meet
      exact ⟨zs.length, rfl, h10, Nat.le_refl _, rfl⟩
    · have hi : ¬ (zs.length : Int) ≤ 10 := by omega
      go_wp2
      go_meet
      exact ⟨10, rfl, Nat.le_refl _, by omega, rfl⟩
  case rest =>
    obtain ⟨n, rfl, hn1, hn2, rfl⟩ := hcut
    have hcell : Hid (∀ k (hk : k < n), ∃ b off, ao = some ⟨b, off, none⟩ ∧ b < w.heap.size ∧ w.cell? ⟨b, off + k, none⟩ = some (.int .u8 (zs.getD k 0)) ∧ 0 ≤ zs.getD k 0 ∧ zs.getD k 0 ≤ 255) := fun k hk => by
      obtain ⟨b, off, h1, _, h3, h4⟩ := pa (by omega)
      have h5 : zs.getD k 0 = zs[k]'(by omega) := by simp [List.getD, List.getElem?_eq_getElem (show k < zs.length by omega)]
      rw [h5]
      exact ⟨b, off, h1, h3, h4 k (by omega), hz _ (List.getElem_mem _)⟩
    clear pa hz
    go_wp2
    go_loopg [33] n (fun gg s33 wr => ∃ k : Nat, k ≤ n ∧ n - k ≤ gg ∧ s33 = .int .i64 k ∧ Aside (Below w.heap.size w wr ∧ ∃ y1 y2, LS wr (w.heap.size + 2) w.heap.size 71 (.int .i64 0) y1 (lst zs k) ∧ LS wr (w.heap.size + 2) (w.heap.size + 1) 73 (.bool false) y2 (lst zs k)))
    case atStart =>
      refine ⟨0, Nat.zero_le _, by omega, rfl, ((Below.refl _ w).alloc (Nat.le_refl _) _).alloc (by simp) _, _, _, ⟨?_, by omega, FrW.nil _ _⟩, ⟨?_, by omega, FrW.nil _ _⟩⟩
      · rw [Below.heap_alloc _ _ _ (by simp)]; exact heap_alloc_new w _
      · have := heap_alloc_new (w.alloc (.cells #[.int .i64 0, .slice none 0 0] 71)) (.cells #[.bool false, .slice none 0 0] 73)
        simpa using this
    case round =>
      obtain ⟨k, hk, hg, rfl, A⟩ := hrel
      obtain ⟨hB, y1, y2, L1, L2⟩ := A.out
      have G := good_lst zs k
      by_cases hlt : k < n
      · have hltz : (k : Int) < (n : Int) := by omega
        obtain ⟨b, off, rfl, hbs, c0, hp0, hp1⟩ := hcell.out k hlt
        rw [← hB.cell (p := ⟨b, _, none⟩) hbs] at c0
        have HS := Lib.hid L1
        have HE := Lib.hid L2
        have HB := Lib.hid hB
        obtain ⟨a1, m1, d1, rfl, hm1⟩ := fr_shape L1.fr
        obtain ⟨a2, m2, d2, rfl, hm2⟩ := fr_shape L2.fr
        obtain ⟨x0, x1, x2, x3⟩ := L1.cells
        obtain ⟨z0, z1, z2, z3⟩ := L2.cells
        have xs := blk_lt L1.blk
        have zs' := blk_lt L2.blk
        have hwt := Lib.hid (waitS_c 0 k (zs.getD k 0) _ (lst zs k) wr L1.fr.rd (G.wf (by omega)) (by rw [G.len]; omega))
        rw [wait_lst] at hwt
        have hgw : Hid (WfW (lst zs k) ∧ (lst zs k).length ≤ 90000) := ⟨G.wf (by omega), by rw [G.len]; omega⟩
        clear L1 L2 hB A hm1 hm2 G
        generalize hpk : zs.getD k 0 = pk at c0 hp0 hp1 hwt
        have HPK := Lib.hid hpk
        clear hpk
        go_wp2_with fail
        refine hwt.out.mono ?_
        rintro e w1 ⟨v1, rfl, f1, b1⟩
        obtain ⟨a3, m3, d3, rfl, hm3⟩ := fr_shape f1
        have HS1 := Lib.hid (HS.out.next b1)
        have HE1 := Lib.hid ((HE.out.next b1).alloc (.cells #[.int .i64 0, .slice a3 m3 d3] 71))
        clear x0 x1 x2 x3 z0 z1 z2 z3 hwt hm3
        obtain ⟨z0, z1, z2, z3⟩ := (HE.out.next b1).cells
        have zs1 := blk_lt (HE.out.next b1).blk
        go_wp2_with fail
        have hun := untilE_c false k (zs.getD k 0) _ (lst zs k) _ HE1.out.fr.rd hgw.out.1 hgw.out.2
        rw [until_lst, HPK.out] at hun
        refine hun.mono ?_
        clear hun z0 z1 z2 z3 zs1
        rintro e w2 ⟨v2, rfl, f2, b2⟩
        obtain ⟨a4, m4, d4, rfl, hm4⟩ := fr_shape f2
        have hT : w2.heap[w1.heap.size]? = some (.cells #[.int .i64 0, .slice a3 m3 d3] 71 (0, 0)) := (b2.block _ (by simp)).trans (heap_alloc_new w1 _)
        have HS2 := Lib.hid ((HS1.out.alloc (.cells #[.int .i64 0, .slice a3 m3 d3] 71)).next b2)
        have HE2 := Lib.hid (HE1.out.next b2)
        have F1 := Lib.hid ((f1.alloc (.cells #[.int .i64 0, .slice a3 m3 d3] 71)).below b2)
        have F2 := Lib.hid f2
        obtain ⟨t0, t1, _, _⟩ := twoBlk hT
        have ts := blk_lt hT
        obtain ⟨x0, x1, x2, x3⟩ := HS2.out.cells
        obtain ⟨z0, z1, z2, z3⟩ := HE2.out.cells
        have xs2 := blk_lt HS2.out.blk
        have zs2 := blk_lt HE2.out.blk
        have hb1 : Below w.heap.size w w1 := HB.out.trans (b1.mono HB.out.size)
        have hb2 := (hb1.alloc hb1.size (.cells #[.int .i64 0, .slice a3 m3 d3] 71))
        have HB2 := Lib.hid (hb2.trans (b2.mono hb2.size))
        have hw1s : w.heap.size + 2 ≤ wr.heap.size := by omega
        have hne1 : ¬ (w.heap.size = w2.heap.size) := by omega
        have hne2 : ¬ (w.heap.size + 1 = w2.heap.size) := by omega
        have hne3 : ¬ (w1.heap.size = w2.heap.size) := by omega
        have hw1w : wr.heap.size ≤ w1.heap.size := b1.size
        clear b1 b2 f1 f2 hT hm4 hb1 hb2 HE HS HS1 HE1
        go_wp2_with fail
        go_region
        go_wp2
        go_roundg (n - (k + 1))
        case measure => omega
        case rel =>
          refine ⟨k + 1, by omega, by omega, by go_num, ?_⟩
          have Fa : FrW w2 (w.heap.size + 2) (.slice a3 m3 d3) (lst zs (k + 1)) := F1.out.mono (by omega)
          have Fb : FrW w2 (w.heap.size + 2) (.slice a4 m4 d4) (lst zs (k + 1)) := F2.out.mono (by simp; omega)
          refine ⟨(((((HB2.out.setCell (p := ⟨w.heap.size, 0, none⟩) (Nat.le_refl _) _).setCell (p := ⟨w.heap.size, 1, none⟩) (Nat.le_refl _) _).setCell (p := ⟨w.heap.size + 1, 0, none⟩) (Nat.le_succ _) _).setCell (p := ⟨w.heap.size + 1, 1, none⟩) (Nat.le_succ _) _).alloc (by simp [World.setCell]; omega) _).drew, .slice a3 m3 d3, .slice a4 m4 d4, ?_, ?_⟩
          · exact ((((HS2.out.put Fa).oth (by omega) (by omega)).oth (by omega) (by omega)).alloc _).drew
          · exact ((((HE2.out.oth (by omega) (by omega)).oth (by omega) (by omega)).put ((Fb.low (by omega)).low (by omega))).alloc _).drew
      · have hltz : ¬ (k : Int) < (n : Int) := by omega
        obtain rfl : k = n := by omega
        clear hlt hg
        have HS := Lib.hid L1
        have HB := Lib.hid hB
        have HG := Lib.hid G
        obtain ⟨a2, m2, d2, rfl, hm2⟩ := fr_shape L2.fr
        obtain ⟨z0, z1, z2, z3⟩ := L2.cells
        have HE := Lib.hid L2
        have zz := blk_lt L2.blk
        have hrs := Lib.hid (raiseE_c false _ (lst zs k) wr L2.fr.rd (G.wf (by omega)) (by rw [G.len]; omega))
        rw [raise_lst] at hrs
        have hpl : Hid (((lst zs k).map (·.proc)).length = k) := by show _ = _; rw [List.length_map, G.len]
        clear L1 L2 hB A hm2 G
        go_wp2_with fail
        refine hrs.out.mono ?_
        rintro e w1 ⟨v1, u1, rfl, f1, i1, b1⟩
        obtain ⟨a3, m3, d3, rfl, hm3⟩ := fr_shape f1
        obtain ⟨k3, n3, e3, rfl, hn3⟩ := own_shape i1
        rw [hpl.out] at hn3
        obtain rfl : m3 = 0 := hm3
        obtain rfl : k = n3 := hn3.symm
        clear hn3
        have HS1 := Lib.hid (((HS.out.next b1).oth (g' := w.heap.size + 1) (o := 0) (u := .bool true) (by omega) (by omega)).oth (g' := w.heap.size + 1) (o := 1) (u := .slice a3 0 d3) (by omega) (by omega))
        have I1 := Lib.hid (((i1.rd.low (g := w.heap.size + 1) (o := 0) (u := .bool true) zz).low (g := w.heap.size + 1) (o := 1) (u := .slice a3 0 d3) zz).mono (show w.heap.size + 2 ≤ _ by omega))
        have hb1 : Below w.heap.size w w1 := HB.out.trans (b1.mono HB.out.size)
        have HB1 := Lib.hid ((hb1.setCell (p := ⟨w.heap.size + 1, 0, none⟩) (Nat.le_succ _) (.bool true)).setCell (p := ⟨w.heap.size + 1, 1, none⟩) (Nat.le_succ _) (.slice a3 0 d3))
        clear z0 z1 z2 z3 hrs
        obtain ⟨z0, z1, z2, z3⟩ := (HE.out.next b1).cells
        have zz1 := blk_lt (HE.out.next b1).blk
        clear HE HS HB b1 i1 hb1 f1
        go_wp2_with fail
        go_loopg [15, 99] k (fun gg s15 s99 wr => ∃ j : Nat, j ≤ k ∧ k - j ≤ gg ∧ s99 = .int .i64 j ∧ (∃ q : Int, s15 = .int .i64 q ∧ Aside ((j = 0 → q = -1) ∧ ∀ (h0 : 0 < j) (h1 : j - 1 < (lst zs k).length), q = (lst zs k)[j - 1].proc)) ∧
          Aside (Below w.heap.size w wr ∧ RdI .i64 wr (w.heap.size + 2) (.slice k3 k e3) ((lst zs k).map (·.proc)) ∧ ∃ y1, LS wr (w.heap.size + 2) w.heap.size 71 (.int .i64 0) y1 ((lst zs k).drop j)))
        case atStart =>
          exact ⟨0, Nat.zero_le _, by omega, rfl, ⟨-1, rfl, fun _ => rfl, fun h0 => absurd h0 (by omega)⟩, HB1.out, I1.out, _, HS1.out⟩
        case round =>
          obtain ⟨j, hj, hg, rfl, ⟨q, rfl, Aq⟩, A⟩ := hrel
          obtain ⟨hB, hI, y1, L1⟩ := A.out
          by_cases hlt : j < k
          · have hltz : (j : Int) < (k : Int) := by omega
            have hjl : j < (lst zs k).length := by rw [HG.out.len]; exact hlt
            have hel := HG.out.el _ (List.getElem_mem hjl)
            obtain ⟨b, off, rfl, hbs, _⟩ := hcell.out j (by omega)
            obtain ⟨ko, kc, hkv, _, _, pk⟩ := hI.open_
            simp only [Value.slice.injEq] at hkv
            have hk1 := hkv.1
            have hk2 := hkv.2.2
            clear hkv
            subst hk1 hk2
            obtain ⟨b3, off3, rfl, _, hb3s, hcs⟩ := pk (by rw [hpl.out]; omega)
            have c3 := hcs j (by rw [hpl.out]; exact hlt)
            rw [List.getElem_map] at c3
            obtain ⟨a5, m5, d5, rfl, hm5⟩ := fr_shape L1.fr
            obtain ⟨x0, x1, x2, x3⟩ := L1.cells
            have hsg := signalS_c 0 _ ((lst zs k).drop j) wr L1.fr.rd ((HG.out.wf (by omega)).drop j) (by rw [List.length_drop, HG.out.len]; omega)
            rw [signal_drop HG.out j hjl] at hsg
            obtain ⟨pj, hpj⟩ : ∃ pj : Nat, (lst zs k)[j].proc = (pj : Int) := ⟨_, (Int.toNat_of_nonneg hel.2.1).symm⟩
            simp only [hpj] at c3 hsg
            have hpjk : pj < k := by have := hel.2.2.1; omega
            obtain ⟨_, _, hbo, _, cj, hpj0, hpj1⟩ := hcell.out pj hpjk
            simp only [Option.some.injEq, Addr.mk.injEq, and_true] at hbo
            obtain ⟨rfl, rfl⟩ := hbo
            have HPJ := Lib.hid hpj
            have HSG := Lib.hid hsg
            have HS := Lib.hid L1
            have HB := Lib.hid hB
            have HI := Lib.hid hI
            have xs := blk_lt L1.blk
            have hb0 : ((pj : Int) != (pj : Int)) = false := by simp
            have hb1 : decide ((pj : Int) < 0) = false := decide_eq_false (by omega)
            have hb2 : decide ((k : Int) ≤ (pj : Int)) = false := decide_eq_false (by omega)
            clear hpj hsg L1 hB hI A pk hcs hm5 hel
            by_cases h0 : j = 0
            · obtain rfl : q = -1 := Aq.out.1 h0
              clear Aq
              have H0 := Lib.hid h0
              clear h0
              go_wp2_with fail
              refine HSG.out.mono ?_
              rintro e w2 ⟨v2, rfl, f2, b2⟩
              obtain ⟨a6, m6, d6, rfl, hm6⟩ := fr_shape f2
              have HS2 := Lib.hid (HS.out.next b2)
              have F2 := Lib.hid f2
              have HB2 := Lib.hid (HB.out.trans (b2.mono HB.out.size))
              have HI2 := Lib.hid (HI.out.below b2)
              clear x0 x1 x2 x3
              obtain ⟨x0, x1, x2, x3⟩ := HS2.out.cells
              have xs2 := blk_lt HS2.out.blk
              have hs2 : wr.heap.size ≤ w2.heap.size := b2.size
              clear f2 b2 hm6 HS HI HB HSG
              go_wp2_with fail
              refine wp_region_quiet_lit (by kernel_rfl) (by kernel_rfl) ?_
              iterate 48 (first | go_big_quiet_step (fail) | quiet_step (fail))
              refine wpQuiet_nil ?_
              intro _ hw'
              obtain ⟨nq, hw''⟩ := hw'
              subst hw''
              go_wp2_with fail
              go_region
              go_wp2
              go_roundg (k - (j + 1))
              case measure => omega
              case rel =>
                refine ⟨j + 1, by omega, by omega, by go_num, ⟨pj, rfl, fun h0 => absurd h0 (by omega), fun _ h1 => HPJ.out.symm⟩, ?_⟩
                exact ⟨((below_drewN' (HB2.out.alloc HB2.out.size _) _).setCell (p := ⟨w.heap.size, 0, none⟩) (Nat.le_refl _) _).setCell (p := ⟨w.heap.size, 1, none⟩) (Nat.le_refl _) _, (((HI2.out.alloc _).drewN _).low (by omega)).low (by omega), _, ((HS2.out.alloc _).drewN _).put (((F2.out.mono (by omega)).alloc _).drewN _)⟩
            · have hj0 : 0 < j := by omega
              have hj1 : j - 1 < (lst zs k).length := by omega
              have hq := Aq.out.2 hj0 hj1
              have helq := HG.out.el _ (List.getElem_mem hj1)
              obtain ⟨pq, hpq⟩ : ∃ pq : Nat, (lst zs k)[j - 1].proc = (pq : Int) := ⟨_, (Int.toNat_of_nonneg helq.2.1).symm⟩
              rw [hpq] at hq
              subst hq
              have hpqk : pq < k := by have := helq.2.2.1; omega
              obtain ⟨_, _, hbo, _, cq, _, _⟩ := hcell.out pq hpqk
              simp only [Option.some.injEq, Addr.mk.injEq, and_true] at hbo
              obtain ⟨rfl, rfl⟩ := hbo
              have hnx := HG.out.next (j - 1) (by omega)
              simp only [show j - 1 + 1 = j from by omega, hpq, HPJ.out, Int.toNat_natCast] at hnx
              have hd0 : decide ((0 : Int) ≤ (pq : Int)) = true := decide_eq_true (by omega)
              have hd1 : decide (zs.getD pq 0 < zs.getD pj 0) = false := decide_eq_false hnx.1
              have hq0 : (0 : Int) ≤ (pq : Int) := by omega
              have hqk : (pq : Int) < (k : Int) := by omega
              have hjk : (pj : Int) < (k : Int) := by omega
              have HNX := Lib.hid hnx.2
              clear hnx Aq helq h0 hpq hj1
              generalize zs.getD pq 0 = zq at cq hd1 HNX
              generalize zs.getD pj 0 = zj at cj hd1 HNX hpj0 hpj1
              by_cases heq : zq = zj
              · have he1 : (zq == zj) = true := by simp [heq]
                have he2 : decide ((pj : Int) ≤ (pq : Int)) = false := decide_eq_false (by have := HNX.out heq; omega)
                have he3 : decide (pj ≤ pq) = false := decide_eq_false (by have := HNX.out heq; omega)
                clear heq HNX
                go_wp2_with fail
                refine HSG.out.mono ?_
                rintro e w2 ⟨v2, rfl, f2, b2⟩
                obtain ⟨a6, m6, d6, rfl, hm6⟩ := fr_shape f2
                have HS2 := Lib.hid (HS.out.next b2)
                have F2 := Lib.hid f2
                have HB2 := Lib.hid (HB.out.trans (b2.mono HB.out.size))
                have HI2 := Lib.hid (HI.out.below b2)
                have cj2 : w2.cell? ⟨b, off + pj, none⟩ = some (.int .u8 zj) := (HB2.out.cell (p := ⟨b, _, none⟩) hbs).trans cj
                have cq2 : w2.cell? ⟨b, off + pq, none⟩ = some (.int .u8 zq) := (HB2.out.cell (p := ⟨b, _, none⟩) hbs).trans cq
                have hbw : b < w2.heap.size := Nat.lt_of_lt_of_le hbs HB2.out.size
                clear x0 x1 x2 x3
                obtain ⟨x0, x1, x2, x3⟩ := HS2.out.cells
                have xs2 := blk_lt HS2.out.blk
                have hs2 : wr.heap.size ≤ w2.heap.size := b2.size
                clear f2 b2 hm6 HS HI HB HSG
                go_wp2_with fail
                refine wp_region_quiet_lit (by kernel_rfl) (by kernel_rfl) ?_
                iterate 48 (first | go_big_quiet_step (fail) | quiet_step (fail))
                refine wpQuiet_nil ?_
                intro _ hw'
                obtain ⟨nq, hw''⟩ := hw'
                subst hw''
                go_wp2_with fail
                go_region
                go_wp2
                go_roundg (k - (j + 1))
                case measure => omega
                case rel =>
                  refine ⟨j + 1, by omega, by omega, by go_num, ⟨pj, rfl, fun h0 => absurd h0 (by omega), fun _ h1 => HPJ.out.symm⟩, ?_⟩
                  exact ⟨((below_drewN' (HB2.out.alloc HB2.out.size _) _).setCell (p := ⟨w.heap.size, 0, none⟩) (Nat.le_refl _) _).setCell (p := ⟨w.heap.size, 1, none⟩) (Nat.le_refl _) _, (((HI2.out.alloc _).drewN _).low (by omega)).low (by omega), _, ((HS2.out.alloc _).drewN _).put (((F2.out.mono (by omega)).alloc _).drewN _)⟩
              · have he1 : (zq == zj) = false := by simp [heq]
                clear heq HNX
                go_wp2_with fail
                refine HSG.out.mono ?_
                rintro e w2 ⟨v2, rfl, f2, b2⟩
                obtain ⟨a6, m6, d6, rfl, hm6⟩ := fr_shape f2
                have HS2 := Lib.hid (HS.out.next b2)
                have F2 := Lib.hid f2
                have HB2 := Lib.hid (HB.out.trans (b2.mono HB.out.size))
                have HI2 := Lib.hid (HI.out.below b2)
                have cj2 : w2.cell? ⟨b, off + pj, none⟩ = some (.int .u8 zj) := (HB2.out.cell (p := ⟨b, _, none⟩) hbs).trans cj
                have cq2 : w2.cell? ⟨b, off + pq, none⟩ = some (.int .u8 zq) := (HB2.out.cell (p := ⟨b, _, none⟩) hbs).trans cq
                have hbw : b < w2.heap.size := Nat.lt_of_lt_of_le hbs HB2.out.size
                clear x0 x1 x2 x3
                obtain ⟨x0, x1, x2, x3⟩ := HS2.out.cells
                have xs2 := blk_lt HS2.out.blk
                have hs2 : wr.heap.size ≤ w2.heap.size := b2.size
                clear f2 b2 hm6 HS HI HB HSG
                go_wp2_with fail
                refine wp_region_quiet_lit (by kernel_rfl) (by kernel_rfl) ?_
                iterate 48 (first | go_big_quiet_step (fail) | quiet_step (fail))
                refine wpQuiet_nil ?_
                intro _ hw'
                obtain ⟨nq, hw''⟩ := hw'
                subst hw''
                go_wp2_with fail
                go_region
                go_wp2
                go_roundg (k - (j + 1))
                case measure => omega
                case rel =>
                  refine ⟨j + 1, by omega, by omega, by go_num, ⟨pj, rfl, fun h0 => absurd h0 (by omega), fun _ h1 => HPJ.out.symm⟩, ?_⟩
                  exact ⟨((below_drewN' (HB2.out.alloc HB2.out.size _) _).setCell (p := ⟨w.heap.size, 0, none⟩) (Nat.le_refl _) _).setCell (p := ⟨w.heap.size, 1, none⟩) (Nat.le_refl _) _, (((HI2.out.alloc _).drewN _).low (by omega)).low (by omega), _, ((HS2.out.alloc _).drewN _).put (((F2.out.mono (by omega)).alloc _).drewN _)⟩
          · have hltz : ¬ (j : Int) < (k : Int) := by omega
            obtain rfl : j = k := by omega
            have hnil : (lst zs j).drop j = [] := List.drop_eq_nil_of_le (by rw [HG.out.len]; exact Nat.le_refl _)
            rw [hnil] at L1
            obtain ⟨a5, m5, d5, rfl, hm5⟩ := fr_shape L1.fr
            obtain ⟨x0, x1, x2, x3⟩ := L1.cells
            have HS := Lib.hid L1
            have HB := Lib.hid hB
            clear L1 hB hI A Aq hnil hlt hm5
            go_wp2_with fail
            have h6 := signalS_c 0 _ [] wr HS.out.fr.rd (by unfold WfW; decide) (by simp)
            rw [aw6] at h6
            refine h6.mono ?_
            clear h6
            rintro e w2 ⟨v2, rfl, f2, b2⟩
            obtain ⟨a6, m6, d6, rfl, hm6⟩ := fr_shape f2
            have hb2 := HB.out.trans (b2.mono HB.out.size)
            have HB2 := Lib.hid (hb2.alloc hb2.size (.cells #[.int .i64 1, .slice a6 m6 d6] 71))
            clear f2 b2 hb2 hm6 x0 x1 x2 x3
            go_wp2_with fail
            refine (awake25_c _).mono ?_
            rintro e w3 ⟨rfl, b3⟩
            have HB3 := Lib.hid (HB2.out.trans (b3.mono HB2.out.size))
            clear b3
            go_wp2_with fail
            go_ret
            exact ⟨rfl, HB3.out⟩
end Go.Proofs.Ytglbfmcbojjglaa

/-
  Lists of messages in memory; the contracts of slices.Clone at bytes, queuing.each and State.own. Conditions: what is copied can be read; at most a hundred thousand messages, each of at most a million bytes.
-/
import Derived.Test.YtglbfmcbojjglaaLawA
namespace Go.Proofs.Ytglbfmcbojjglaa
open Go.RowKit

theorem info_BS : (Try.prog.info? 28).map (fun i => (i.zero, i.size, i.bytes)) = some (some (.slice none 0 0), 1, 24) := by kernel_rfl

/-- A list of bytes in memory of the call's own. -/
def OwnB (w : World) (B : Nat) (v : Value) (l : List Int) : Prop := w.ownsRow B 5 1 v l.length (l.map (Value.int .u8))
/-- A slice of slices that reads as a list of messages. -/
def RdQ (w : World) (B : Nat) (v : Value) (q : List (List Int)) : Prop :=
  ∃ vs : List Value, Sl w B 1 v q.length vs ∧ ∀ (i : Nat) u x, vs[i]? = some u → q[i]? = some x → RdI .u8 w B u x
/-- The same in memory of the call's own. -/
def OwnQ (w : World) (B : Nat) (v : Value) (q : List (List Int)) : Prop :=
  ∃ vs : List Value, w.ownsRow B 28 1 v q.length vs ∧ ∀ (i : Nat) u x, vs[i]? = some u → q[i]? = some x → OwnB w B u x

theorem own_ne {w : World} {B B' e e' s s' n n' : Nat} {v v' : Value} {xs xs' : List Value} (h : w.ownsRow B e s v n xs) (h' : w.ownsRow B' e' s' v' n' xs') (hne : e ≠ e') : v'.ownBlock = none ∨ v'.ownBlock ≠ v.ownBlock := by
  rcases h'.2 with ⟨rfl, _⟩ | ⟨g', cap', cur', rfl, _, hg', _⟩
  · exact .inl rfl
  · right
    rcases h.2 with ⟨rfl, _⟩ | ⟨g, cap, cur, rfl, _, hg, _⟩
    · simp [Value.ownBlock]
    · intro e1
      simp only [Value.ownBlock, Option.some.injEq] at e1
      subst e1
      rw [hg] at hg'
      simp only [Option.some.injEq, Obj.cells.injEq] at hg'
      exact hne hg'.2.1

theorem grown_of_below {w w' : World} (h : Below w.heap.size w w') : w.grownBy w' none := ⟨h.os, h.tape, h.output, h.size, fun k hk _ => h.block k hk⟩
theorem own_below {w w' : World} {B e s n : Nat} {v : Value} {xs : List Value} (h : w.ownsRow B e s v n xs) (hb : Below w.heap.size w w') : w'.ownsRow B e s v n xs := by
  refine h.kept (grown_of_below hb) ?_
  cases hv : v.ownBlock with
  | none => exact .inl rfl
  | some k => exact .inr (by simp)

section
variable {w w' : World} {B B' : Nat} {v : Value} {q : List (List Int)} {l : List Int}
theorem OwnB.rd (h : OwnB w B v l) : RdI .u8 w B v l := Sl.of_own h
theorem OwnB.below (h : OwnB w B v l) (hb : Below w.heap.size w w') : OwnB w' B v l := own_below h hb
theorem OwnB.mono (h : OwnB w B v l) (hB : B' ≤ B) : OwnB w B' v l := own_mono h hB
theorem RdQ.below (h : RdQ w B v q) (hb : Below w.heap.size w w') : RdQ w' B v q := by
  obtain ⟨vs, h1, h2⟩ := h
  exact ⟨vs, h1.below hb, fun i u x hu hx => (h2 i u x hu hx).below hb⟩
theorem RdQ.mono (h : RdQ w B v q) (hB : B' ≤ B) : RdQ w B' v q := by
  obtain ⟨vs, h1, h2⟩ := h
  exact ⟨vs, h1.mono hB, fun i u x hu hx => (h2 i u x hu hx).mono hB⟩
theorem RdQ.drew (h : RdQ w B v q) : RdQ w.drew B v q := h
theorem RdQ.drewN (h : RdQ w B v q) (k : Nat) : RdQ (w.drewN k) B v q := h
theorem RdQ.alloc (h : RdQ w B v q) (o : Obj) : RdQ (w.alloc o) B v q := h.below ((Below.refl _ _).alloc (Nat.le_refl _) _)
theorem RdQ.nil (w : World) (B : Nat) : RdQ w B (.slice none 0 0) [] := ⟨[], Sl.nil w B 1, fun i u x hu => by simp at hu⟩
theorem RdQ.shape (h : RdQ w B v q) : ∃ a m c, v = .slice a m c ∧ m = q.length := by
  obtain ⟨vs, ⟨ao, cap, hv, _⟩, _⟩ := h
  exact ⟨ao, _, cap, hv, rfl⟩
theorem OwnQ.rd (h : OwnQ w B v q) : RdQ w B v q := by
  obtain ⟨vs, h1, h2⟩ := h
  exact ⟨vs, Sl.of_own h1, fun i u x hu hx => (h2 i u x hu hx).rd⟩
theorem OwnQ.below (h : OwnQ w B v q) (hb : Below w.heap.size w w') : OwnQ w' B v q := by
  obtain ⟨vs, h1, h2⟩ := h
  exact ⟨vs, own_below h1 hb, fun i u x hu hx => (h2 i u x hu hx).below hb⟩
theorem OwnQ.mono (h : OwnQ w B v q) (hB : B' ≤ B) : OwnQ w B' v q := by
  obtain ⟨vs, h1, h2⟩ := h
  exact ⟨vs, own_mono h1 hB, fun i u x hu hx => (h2 i u x hu hx).mono hB⟩
theorem OwnQ.nil (w : World) (B : Nat) : OwnQ w B (.slice none 0 0) [] := ⟨[], World.ownsRow_nil _ _ _ _, fun i u x hu => by simp at hu⟩
/-- One message more. -/
theorem OwnQ.snoc {vs : List Value} {u v' : Value} {x : List Int} (h : w.ownsRow B 28 1 v q.length vs) (hin : ∀ (i : Nat) u x, vs[i]? = some u → q[i]? = some x → OwnB w B u x) (hu : OwnB w B u x)
    (hg : w.grownBy w' v.ownBlock) (h' : w'.ownsRow B 28 1 v' (q.length + 1) (vs ++ [u])) : OwnQ w' B v' (q ++ [x]) := by
  have hvl : vs.length = q.length := by have := h.1; omega
  refine ⟨vs ++ [u], by simpa using h', fun i u' x' hu' hx' => ?_⟩
  by_cases hi : i < q.length
  · rw [List.getElem?_append_left (by omega)] at hu' hx'
    exact World.ownsRow.kept (hin i u' x' hu' hx') hg (own_ne h (hin i u' x' hu' hx') (by decide))
  · rw [List.getElem?_append_right (by omega)] at hu' hx'
    have hi0 : i = q.length := by
      have := (List.getElem?_eq_some_iff.1 hx').1
      simp at this
      omega
    subst hi0
    rw [hvl] at hu'
    simp only [Nat.sub_self, List.getElem?_cons_zero, Option.some.injEq] at hu' hx'
    subst hu' hx'
    exact World.ownsRow.kept hu hg (own_ne h hu (by decide))
end

def EndB (w : World) (l : List Int) (e : Ending) (w' : World) : Prop := ∃ v, e = .returned v ∧ OwnB w' w.heap.size v l ∧ Below w.heap.size w w'

set_option maxHeartbeats 400000 in
theorem cloneB_c (v : Value) (l : List Int) (w : World) (h : RdI .u8 w 0 v l) (hl : l.length ≤ 1000000) :
    Calls Try.prog 91 #[v] w (EndB w l) := by
  obtain ⟨ao, cap, rfl, hnc, hno, hxs, hp⟩ := h
  obtain ⟨i0, hi, hz0, hz1, hz2⟩ := info_parts info_B
  have q : ∀ (w : World) (a : Option Addr) (n c n' c' : Nat), (binOp .eql 28 (.slice a n c) (.slice none n' c')).run Try.prog w = .ok (.bool a.isNone) w := fun w a n c n' c' => Lib.run_eql_slice_nil w _ _ a n c n' c' Try.underlying28
  have hxs' := Lib.hid hxs
  clear hxs
  cases ao with
  | none =>
    have h0 : l = [] := List.eq_nil_of_length_eq_zero (by have := hno rfl; omega)
    subst h0
    clear hp hno
    go_enter Try.func91, Try.ntmps91
    go_wp2
    go_ret
    exact ⟨_, rfl, World.ownsRow_nil _ _ _ _, Below.refl _ _⟩
  | some ad =>
    have A : Aside (∀ j u, (l.map (Value.int .u8))[j]? = some u → w.cell? (ad.add j) = some u) := by
      intro j u hu
      have hlt := (List.getElem?_eq_some_iff.1 hu).1
      obtain ⟨b, off, ha, _, _, hc⟩ := hp (by rw [List.length_map] at hlt; omega)
      cases ha
      rw [addr_add]
      exact hc j u hu
    clear hp hno
    go_enter Try.func91, Try.ntmps91
    go_wp2_with (at_builtin; refine wpList_append_own _ rfl _ _ 28 rfl w.heap.size 5 i0 (.int .u8 0) 1 1 Try.underlying28 hi hz0 hz1 hz2 rfl (by decide) _ _ _ rfl (World.ownsRow_made w #[] 0 (Nat.le_refl _) (Nat.zero_le _) (by simp)) ad l.length cap (l.map (Value.int .u8)) rfl ?qc1 ?qc2 ?qc3 ?qc4 ?qc5 ?qc6 ?_)
    case qc1 => exact hxs'.out
    case qc2 =>
      intro j u hj
      exact (World.cell?_alloc_lt _ _ _ (World.block_lt_of_cell? _ _ (A.out j u hj))).trans (A.out j u hj)
    case qc3 => intro u hu; rw [List.mem_map] at hu; obtain ⟨z, _, rfl⟩ := hu; rfl
    case qc4 => unfold maxLen; omega
    case qc5 => omega
    case qc6 => simp
    intro v' w1 hown hgrow hnil
    go_wp2
    go_ret
    exact ⟨v', rfl, by simpa [OwnB] using hown, ((Below.refl _ w).alloc (Nat.le_refl _) _).grown hgrow (by simp) (by intro k hk; simp [Value.ownBlock] at hk; omega)⟩

def EndQ (w : World) (q : List (List Int)) (e : Ending) (w' : World) : Prop := ∃ v, e = .returned v ∧ OwnQ w' w.heap.size v q ∧ Below w.heap.size w w'

set_option maxHeartbeats 1000000 in
theorem each_c (v : Value) (q : List (List Int)) (w : World) (h : RdQ w 0 v q) (hl : q.length ≤ 100000) (hm : ∀ x ∈ q, x.length ≤ 1000000) :
    Calls Try.prog 118 #[v, .func (.func 91) #[] #[]] w (EndQ w q) := by
  obtain ⟨vs, ⟨ao, ca, rfl, hca, hna, hvl, pa⟩, hin⟩ := h
  obtain ⟨i0, hi, hz0, hz1, hz2⟩ := info_parts info_BS
  have HPA := Lib.hid pa
  have HIN := Lib.hid hin
  have HVL := Lib.hid hvl
  have HM := Lib.hid hm
  clear pa hin hvl hm
  go_enter Try.func118, Try.ntmps118
  go_wp2
  go_loopg [5, 7, 10] q.length (fun gg s5 _ s10 wr => ∃ k : Nat, k ≤ q.length ∧ q.length - k ≤ gg ∧ s10 = .int .i64 k ∧ Aside (Below w.heap.size w wr ∧ OwnQ wr w.heap.size s5 (q.take k)))
  case atStart => exact ⟨0, Nat.zero_le _, by omega, rfl, Below.refl _ w, OwnQ.nil _ _⟩
  case round =>
    obtain ⟨k, hk, hg, rfl, A⟩ := hrel
    by_cases hlt : k < q.length
    · have hltz : (k : Int) < (q.length : Int) := by omega
      obtain ⟨b, off, rfl, _, hbs, ca⟩ := HPA.out (by omega)
      have hkv : k < vs.length := by have := HVL.out; omega
      have hu : vs[k]? = some vs[k] := List.getElem?_eq_getElem hkv
      have hqk : q[k]? = some q[k] := List.getElem?_eq_getElem hlt
      have c0 := ca k _ hu
      have R := (HIN.out k _ _ hu hqk).below (A.out.1.mono (by omega : w.heap.size ≤ w.heap.size))
      rw [← A.out.1.cell (p := ⟨b, _, none⟩) hbs] at c0
      obtain ⟨au, mu, hsu, _, _, _⟩ := R.open_
      rw [hsu] at c0 R
      have HR := Lib.hid R
      have hlk := Lib.hid (HM.out _ (List.getElem_mem hlt))
      have hbw : b < wr.heap.size := Nat.lt_of_lt_of_le hbs A.out.1.size
      clear ca hu hqk hsu R
      generalize hql : q[k].length = nq at c0 HR
      clear hql
      go_wp2_with fail
      refine (cloneB_c _ q[k] _ HR.out hlk.out).mono ?_
      rintro e w2 ⟨u2, rfl, ho2, hb2⟩
      obtain ⟨a2, c2, rfl⟩ := own_slice ho2
      have hB2 := A.out.1.trans (hb2.mono A.out.1.size)
      obtain ⟨ws, ho, hwin⟩ := A.out.2.below hb2
      have hlen : (q.take k).length = k := by simp; omega
      rw [hlen] at ho
      have HO := Lib.hid ho
      have HW := Lib.hid hwin
      have HU := Lib.hid (ho2.mono A.out.1.size)
      have HB2 := Lib.hid hB2
      have hw1 : w.heap.size ≤ w2.heap.size := hB2.size
      have HLN := Lib.hid hlen
      generalize hqn : q[k].length = nq2 at HU ⊢
      have HQN := Lib.hid hqn
      clear ho hwin ho2 hb2 hB2 hlen hqn
      go_wp2_with (at_builtin; refine wpList_append_own _ rfl _ _ 24 rfl w.heap.size 28 i0 (.slice none 0 0) 1 24 Try.underlying24 hi hz0 hz1 hz2 rfl (by decide) _ _ _ rfl (HO.out.alloc _) ⟨w2.heap.size, 0, none⟩ 1 1 [.slice a2 nq2 c2] rfl rfl ?c1 ?c2 ?c3 ?c4 ?c5 ?_)
      case c1 =>
        intro j u hj
        match j, hj with
        | 0, hj => simp at hj; subst hj; rw [addr_add]; go_simp
      case c2 => intro u hu; simp at hu; subst hu; rfl
      case c3 => unfold maxLen; omega
      case c4 => omega
      case c5 => simp; omega
      intro v' w3 hown' hgrow _
      have HO' := Lib.hid hown'
      have HG' := Lib.hid hgrow
      clear hown' hgrow
      go_wp2
      go_roundg (q.length - (k + 1))
      case measure => omega
      case rel =>
        refine ⟨k + 1, by omega, by omega, by go_num, (HB2.out.alloc hw1 _).grown HG'.out (by simp; omega) (fun g hg => (HO.out.lt g hg).1), ?_⟩
        rw [List.take_succ_eq_append_getElem hlt]
        refine OwnQ.snoc (q := q.take k) (vs := ws) (u := .slice a2 nq2 c2) ?_ (fun i u x hu hx => (HW.out i u x hu hx).below ((Below.refl _ _).alloc (Nat.le_refl _) _)) (HU.out.below ((Below.refl _ _).alloc (Nat.le_refl _) _)) HG'.out ?_
        · rw [HLN.out]; exact HO.out.alloc _
        · rw [HLN.out]; exact HO'.out
    · have hltz : ¬ (k : Int) < (q.length : Int) := by omega
      go_wp2
      go_ret
      refine ⟨_, rfl, ?_, A.out.1⟩
      have := A.out.2
      rwa [List.take_of_length_le (by omega)] at this
end Go.Proofs.Ytglbfmcbojjglaa

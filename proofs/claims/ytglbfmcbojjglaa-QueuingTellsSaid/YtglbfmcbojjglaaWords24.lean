/-
  Regions that draw their order and whose operations make memory but turn nothing that is there: each operation is shown once, whatever the order. No conditions.
  Regions that draw their order and whose operations make memory: the form for use, each operation's value told by a predicate of its own. No conditions.
  append([]T{}, x...): a copy; nothing that was there turns. No conditions but the sizes.
  Words for rows of bytes and of waiters whose elements are turned in place. No conditions.
-/
import Derived.StillTail
import Derived.Below
import Derived.Tactics
import Derived.Tactics2
import Derived.KernelRfl
import Derived.RowKit
import Derived.Test.YtglbfmcbojjglaaBuA
namespace Go.Proofs.Ytglbfmcbojjglaa
open Go.RowKit

/-- What an operation hands back in the world w, its operands read through ρ. -/
def givesUpon (P : Program) (post : Value → World → Prop) : Result Next → Prop
  | .ok (.value v) w' => post v w'
  | .ok .skip w' => post undef w'
  | .ok (.enter f args) w' => Calls P f args w' (fun e w'' => ∃ v, e = .returned v ∧ post v w'')
  | _ => False
def gives (P : Program) (o : Oper) (a : Act) (w : World) (post : Value → World → Prop) : Prop := givesUpon P post ((execOp a.eval o).run P w)

theorem gives_wp {P : Program} {o : Oper} {a b : Act} {w : World} {post : Value → World → Prop} {K : Act → World → Prop} {Q : Exit → Act → World → Prop}
    (he : execOp b.eval o = execOp a.eval o) (h : gives P o a w post) (hK : ∀ v w', post v w' → K (b.put o.dst v) w') : o.wp P b w K Q := by
  unfold gives at h
  rw [← he] at h
  unfold Oper.wp
  generalize (execOp b.eval o).run P w = r at *
  cases r with
  | ok n w' =>
    cases n <;> simp only [givesUpon] at h <;> simp only [Oper.upon]
    case value u => exact hK _ _ h
    case skip => exact hK _ _ h
    case enter f args =>
      exact h.mono fun e w'' ⟨v, he, hw''⟩ => by subst he; exact hK _ _ hw''
  | halt x w' => simp only [givesUpon] at h

def dstOf (ops : Array Oper) (i : Nat) : Option Tmp := (ops[i]?).bind (·.dst)

/-- The frame behind the first n operations, those that are listed. -/
def putsL (ops : Array Oper) (listed : Array Bool) (vs : Nat → Value) (a : Act) : Nat → Act
  | 0 => a
  | k + 1 => if listed.getD k false then (putsL ops listed vs a k).put (dstOf ops k) (vs k) else putsL ops listed vs a k
/-- .. all of them. -/
def putAll (ops : Array Oper) (vs : Nat → Value) (a : Act) : Nat → Act
  | 0 => a
  | k + 1 => (putAll ops vs a k).put (dstOf ops k) (vs k)

section
variable {ops : Array Oper} {listed : Array Bool} {vs : Nat → Value} {a : Act}
theorem putsL_all : ∀ n, (∀ i, i < n → listed.getD i false = true) → putsL ops listed vs a n = putAll ops vs a n
  | 0, _ => rfl
  | n + 1, h => by
    simp only [putsL, putAll, h n (Nat.lt_succ_self n), if_true]
    rw [putsL_all n (fun i hi => h i (by omega))]
theorem putsL_congr {listed' : Array Bool} {vs' : Nat → Value} : ∀ n, (∀ i, i < n → listed'.getD i false = listed.getD i false) → (∀ i, i < n → listed.getD i false = true → vs' i = vs i) → putsL ops listed' vs' a n = putsL ops listed vs a n
  | 0, _, _ => rfl
  | n + 1, h, h2 => by
    simp only [putsL, h n (Nat.lt_succ_self n)]
    rw [putsL_congr n (fun i hi => h i (by omega)) (fun i hi => h2 i (by omega))]
    split
    · rename_i hl; rw [h2 n (Nat.lt_succ_self n) hl]
    · rfl

theorem getD_setT {l : Array Bool} {i j : Nat} (hi : i < l.size) : (l.setIfInBounds i true).getD j false = if j = i then true else l.getD j false := by
  by_cases h : j = i
  · subst h; simp [Array.getD, hi]
  · rw [if_neg h, getD_set_ne false (fun e => h e.symm)]

theorem putsL_set {n i : Nat} {v : Value} (hin : i < n) (hs : i < listed.size) (hun : listed.getD i false = false) (hd : ∀ j k, j < n → k < n → j ≠ k → ∀ t, dstOf ops j = some t → dstOf ops k ≠ some t) :
    putsL ops (listed.setIfInBounds i true) (fun j => if j = i then v else vs j) a n = (putsL ops listed vs a n).put (dstOf ops i) v := by
  induction n with
  | zero => omega
  | succ n ih =>
    by_cases hni : n = i
    · subst hni
      simp only [putsL, getD_setT hs, if_true, hun, Bool.false_eq_true, if_false]
      rw [putsL_congr (listed := listed) (vs := vs) n (fun j hj => by rw [getD_setT hs, if_neg (by omega)]) (fun j hj _ => by rw [if_neg (by omega)])]
    · have ih' := ih (by omega) (fun j k hj hk => hd j k (by omega) (by omega))
      simp only [putsL, getD_setT hs, if_neg hni]
      rw [ih']
      split
      · exact (Act.put_comm _ _ _ (fun d h1 => hd n i (by omega) (by omega) hni d h1)).symm
      · rfl

theorem putsL_size : ∀ n, (putsL ops listed vs a n).tmps.size = a.tmps.size
  | 0 => rfl
  | n + 1 => by
    simp only [putsL]
    split
    · cases hd : dstOf ops n <;> simp [Act.put, putsL_size n]
    · exact putsL_size n

theorem put_tmp_same {b : Act} {t : Tmp} {v : Value} (ht : t < b.tmps.size) : (b.put (some t) v).eval (.tmp t) = v := by
  simp [Act.eval, Act.put, ht]
theorem put_tmp_ne {b : Act} {d : Option Tmp} {t : Tmp} {v : Value} (h : d ≠ some t) : (b.put d v).eval (.tmp t) = b.eval (.tmp t) :=
  Act.eval_put fun d' hd e => h (by rw [hd]; injection e with e; rw [e])

/-- A temporary that no listed one writes. -/
theorem putsL_other {t : Tmp} : ∀ n, (∀ j, j < n → listed.getD j false = true → dstOf ops j ≠ some t) → (putsL ops listed vs a n).eval (.tmp t) = a.eval (.tmp t)
  | 0, _ => rfl
  | n + 1, h => by
    simp only [putsL]
    split
    · rename_i hl
      rw [put_tmp_ne (h n (Nat.lt_succ_self n) hl)]
      exact putsL_other n (fun j hj => h j (by omega))
    · exact putsL_other n (fun j hj => h j (by omega))
/-- The temporary of a listed one. -/
theorem putsL_at {t : Tmp} {i n : Nat} (hin : i < n) (hl : listed.getD i false = true) (ht : dstOf ops i = some t) (hts : t < a.tmps.size) (hd : ∀ j k, j < n → k < n → j ≠ k → ∀ t, dstOf ops j = some t → dstOf ops k ≠ some t) :
    (putsL ops listed vs a n).eval (.tmp t) = vs i := by
  induction n with
  | zero => omega
  | succ n ih =>
    simp only [putsL]
    by_cases hni : n = i
    · subst hni
      rw [if_pos hl, ht, put_tmp_same (by rw [putsL_size]; exact hts)]
    · have ih' := ih (by omega) (fun j k hj hk => hd j k (by omega) (by omega))
      split
      · rw [put_tmp_ne (hd i n (by omega) (by omega) (fun e => hni e.symm) t ht)]
        exact ih'
      · exact ih'
theorem putAll_eq (n : Nat) : ∃ l : Array Bool, (∀ i, i < n → l.getD i false = true) ∧ putAll ops vs a n = putsL ops l vs a n :=
  ⟨Array.replicate n true, fun i hi => by simp [Array.getD, hi], (putsL_all n (fun i hi => by simp [Array.getD, hi])).symm⟩
end

/-- Does number i wait for number j? -/
def waitsB (ops : Array Oper) (i j : Nat) : Bool := ((ops[i]?).map fun o => o.after.any fun e => Region.binds .any e && e.on == j).getD false

/-- The form of the first n operations: no guards; each writes a temporary of its own (below m); each reads only what it waits for, and waits only for earlier ones. -/
def headB (ops : Array Oper) (n m : Nat) : Bool :=
  decide (n ≤ ops.size) && Region.noSelect ops &&
  (List.range n).all (fun i => match ops[i]? with
    | none => false
    | some o => o.guard.isNone && o.after.all (fun e => !Region.binds .any e || decide (e.on < i)) && (match o.dst with | some t => decide (t < m) | none => true) &&
      (List.range n).all (fun j => j == i || (match dstOf ops j with | none => true | some t => dstOf ops i != some t && (!((o.looksAt ops).contains t) || waitsB ops i j))) &&
      (match o.dst with | some t => !((o.looksAt ops).contains t) | none => true))
/-- The rest goes in order, behind all of those. -/
def restB (ops : Array Oper) (n : Nat) : Bool :=
  (decide (n = ops.size) || (decide (n < ops.size) && Region.sinkB .any ops n && Region.chainB .any ops n)) &&
  Region.seqB .any ops (ops.size - n) n ((Array.replicate n true) ++ (Array.replicate (ops.size - n) false))

section
variable {ops : Array Oper} {n m : Nat}
structure HeadOf (ops : Array Oper) (n m i : Nat) (o : Oper) : Prop where
  at_ : ops[i]? = some o
  noGuard : o.guard = none
  back : ∀ e ∈ o.after, Region.binds .any e = true → e.on < i
  low : ∀ t, o.dst = some t → t < m
  apart : ∀ j, j < n → j ≠ i → ∀ t, dstOf ops j = some t → dstOf ops i ≠ some t ∧ (t ∈ o.looksAt ops → waitsB ops i j = true)
  own : ∀ t, o.dst = some t → t ∉ o.looksAt ops
theorem headB_spec (h : headB ops n m = true) : n ≤ ops.size ∧ Region.noSelect ops = true ∧ ∀ i, i < n → ∃ o, HeadOf ops n m i o := by
  simp only [headB, Bool.and_eq_true, decide_eq_true_eq, List.all_eq_true, List.mem_range] at h
  obtain ⟨⟨h1, h2⟩, h3⟩ := h
  refine ⟨h1, h2, fun i hi => ?_⟩
  have h4 := h3 i hi
  cases ho : ops[i]? with
  | none => simp [ho] at h4
  | some o =>
    simp only [ho, Bool.and_eq_true, List.all_eq_true, List.mem_range] at h4
    obtain ⟨⟨⟨⟨g1, g2⟩, g3⟩, g4⟩, g5⟩ := h4
    refine ⟨o, ho, by simpa using g1, fun e he hb => ?_, fun t ht => ?_, fun j hj hne t ht => ?_, fun t ht => ?_⟩
    · have := (Array.all_eq_true_iff_forall_mem.1 g2) e he
      simpa [hb] using this
    · simpa [ht] using g3
    · have := g4 j hj
      simp only [Bool.or_eq_true, beq_iff_eq, hne, false_or, ht, Bool.and_eq_true, bne_iff_ne, ne_eq, Bool.not_eq_true'] at this
      refine ⟨this.1, fun hm => ?_⟩
      rcases this.2 with h5 | h5
      · simp [hm] at h5
      · exact h5
    · simpa [ht] using g5

/-- How many of the first n have not come up. -/
def unl (listed : Array Bool) : Nat → Nat
  | 0 => 0
  | n + 1 => unl listed n + if listed.getD n false then 0 else 1
theorem unl_zero {listed : Array Bool} : ∀ {n}, unl listed n = 0 → ∀ i, i < n → listed.getD i false = true
  | n + 1, h, i, hi => by
    simp only [unl] at h
    by_cases e : i = n
    · subst e
      cases hl : listed.getD i false
      · rw [hl] at h; simp at h
      · rfl
    · exact unl_zero (n := n) (by omega) i (by omega)
theorem unl_pos {listed : Array Bool} : ∀ {n}, 0 < unl listed n → ∃ i, i < n ∧ listed.getD i false = false ∧ ∀ j, j < i → listed.getD j false = true
  | n + 1, h => by
    by_cases h0 : 0 < unl listed n
    · obtain ⟨i, h1, h2, h3⟩ := unl_pos h0
      exact ⟨i, by omega, h2, h3⟩
    · have h0' : unl listed n = 0 := by omega
      simp only [unl, h0'] at h
      refine ⟨n, Nat.lt_succ_self n, ?_, unl_zero h0'⟩
      cases hl : listed.getD n false
      · rfl
      · rw [hl] at h; simp at h
theorem unl_same {listed : Array Bool} {i : Nat} (hs : i < listed.size) : ∀ {n}, n ≤ i → unl (listed.setIfInBounds i true) n = unl listed n
  | 0, _ => rfl
  | n + 1, h => by
    simp only [unl]
    rw [unl_same hs (by omega), getD_setT hs, if_neg (show ¬ n = i by omega)]
theorem unl_set {listed : Array Bool} {i : Nat} (hs : i < listed.size) (hun : listed.getD i false = false) : ∀ {n}, i < n → unl (listed.setIfInBounds i true) n + 1 = unl listed n
  | n + 1, h => by
    simp only [unl]
    by_cases e : n = i
    · subst e
      rw [unl_same hs (Nat.le_refl _), getD_setT hs, if_pos rfl, hun]
      simp
    · have := unl_set hs hun (n := n) (by omega)
      rw [getD_setT hs, if_neg e]
      omega

theorem waitsB_iff {i j : Nat} {o : Oper} (ho : ops[i]? = some o) : waitsB ops i j = true ↔ ∃ e ∈ o.after, Region.binds .any e = true ∧ e.on = j := by
  simp only [waitsB, ho, Option.map_some, Option.getD_some, Array.any_eq_true', Bool.and_eq_true, beq_iff_eq]
end

section
variable {P : Program} {id : Nat} {l : List Oper} {Q : Exit → Act → World → Prop} {a : Act} {w : World}
theorem mono_any {n : Nat} (hh : headB l.toArray n a.tmps.size = true) (hr : restB l.toArray n = true)
    (V : Nat → (Nat → Value) → World → Prop)
    (hdep : ∀ i vs vs' w', i < n → (∀ j, j = i ∨ waitsB l.toArray i j = true → vs j = vs' j) → V i vs w' → V i vs' w')
    (hV : ∀ i vs w' w'', i < n → V i vs w' → Below w'.heap.size w' w'' → V i vs w'')
    (hstep : ∀ i o, l[i]? = some o → i < n → ∀ vs w', Below w.heap.size w w' → (∀ j, j < n → waitsB l.toArray i j = true → V j vs w') → gives P o (putAll l.toArray vs a n) w' (fun v w'' => Below w'.heap.size w' w'' ∧ V i (fun j => if j = i then v else vs j) w''))
    (hend : ∀ vs w', Below w.heap.size w w' → (∀ i, i < n → V i vs w') → wpList P l.toArray Q (l.drop n) (putAll l.toArray vs a n) w') :
    ∀ (k : Nat) (listed : Array Bool) (b : Act) (w' : World), unl listed n = k → HeadInv .any l.toArray n listed →
      (∃ vs, b = putsL l.toArray listed vs a n ∧ Below w.heap.size w w' ∧ ∀ i, i < n → listed.getD i false = true → V i vs w') → wpAny P .any l.toArray Q (k + (l.toArray.size - n)) listed b w' := by
  obtain ⟨hn, hsel, hhead⟩ := headB_spec hh
  have hd : ∀ j k, j < n → k < n → j ≠ k → ∀ t, dstOf l.toArray j = some t → dstOf l.toArray k ≠ some t := fun j k hj hk hne t ht => by
    obtain ⟨o, H⟩ := hhead k hk
    exact (H.apart j hj hne t ht).1
  simp only [restB, Bool.and_eq_true, Bool.or_eq_true, decide_eq_true_eq] at hr
  obtain ⟨hr1, hr2⟩ := hr
  intro k
  induction k with
  | zero =>
    rintro listed b w' hu inv ⟨vs, rfl, hb, hvs⟩
    have hall := unl_zero hu
    have hlist : listed = Array.replicate n true ++ Array.replicate (l.toArray.size - n) false := by
      apply Array.ext
      · simp only [Array.size_append, Array.size_replicate, inv.size]; omega
      · intro i h1 h2
        have hsz := inv.size
        by_cases hi : i < n
        · have := hall i hi
          simp only [Array.getD, h1, dif_pos] at this
          rw [Array.getElem_append_left (by simpa using hi)]
          simpa using this
        · have := inv.tail i (by omega) (by omega)
          simp only [Array.getD, h1, dif_pos] at this
          rw [Array.getElem_append_right (by simpa using hi)]
          simpa using this
    have hdl : (l.drop n).length = l.toArray.size - n := by simp
    have := wpAny_of_seq (P := P) (md := .any) (ops := l.toArray) (Q' := Q) (l.drop n) n listed (putAll l.toArray vs a n) w' (fun j => by simp [List.getElem?_drop]) (by rw [hdl, hlist]; exact hr2) (hend vs w' hb (fun i hi => hvs i hi (hall i hi)))
    rw [hdl] at this
    rw [Nat.zero_add, putsL_all n hall]
    exact this
  | succ k ih =>
    rintro listed b w' hu inv ⟨vs, rfl, hb, hvs⟩
    obtain ⟨i0, hi0, hun0, hmin⟩ := unl_pos (listed := listed) (n := n) (by omega)
    have hsz := inv.size
    have hun0' : listed.getD i0 true = false := getD_in (by omega) hun0
    have hready : i0 ∈ Region.ready .any l.toArray listed := by
      obtain ⟨o, H⟩ := hhead i0 hi0
      exact mem_ready.2 ⟨hun0', o, H.at_, fun e he hbd => hmin e.on (H.back e he hbd)⟩
    rw [show k + 1 + (l.toArray.size - n) = (k + (l.toArray.size - n)) + 1 by omega]
    refine ⟨fun h => (by rw [h] at hready; cases hready), fun i hi => ?_⟩
    obtain ⟨hiun, o', ho', hall⟩ := mem_ready.1 hi
    have hin : i < n := by
      rcases Nat.lt_or_ge i n with h | h
      · exact h
      · rcases hr1 with e | ⟨⟨e, hs⟩, hc⟩
        · have := (Array.getElem?_eq_some_iff.1 ho').1
          omega
        · exact absurd hi (tail_waits hs hc e inv _ i0 rfl hi0 hun0' i h)
    obtain ⟨o, H⟩ := hhead i hin
    obtain rfl : o = o' := Option.some.inj (H.at_.symm.trans ho')
    have hlt : i < listed.size := by have := (Array.getElem?_eq_some_iff.1 ho').1; omega
    have hiun' : listed.getD i false = false := getD_both hiun
    have hdone : ∀ j, waitsB l.toArray i j = true → listed.getD j false = true := fun j hj => by
      obtain ⟨e, he, hbd, rfl⟩ := (waitsB_iff H.at_).1 hj
      exact hall e he hbd
    have hwant : Region.wanted o (yielded l.toArray (putsL l.toArray listed vs a n).tmps) = true := by simp [Region.wanted, H.noGuard]
    have heq : execOp (putsL l.toArray listed vs a n).eval o = execOp (putAll l.toArray vs a n).eval o := by
      refine execOp_congr o (fun cs bb => Region.noSelect_spec hsel i o cs bb H.at_) (fun x hx => ?_)
      cases x with
      | tmp t =>
        have hlook : t ∈ o.looksAt l.toArray := by
          unfold Oper.looksAt
          exact List.mem_append_left _ (List.mem_filterMap.2 ⟨.tmp t, by simpa using hx, rfl⟩)
        obtain ⟨la, hla, hpa⟩ := putAll_eq (ops := l.toArray) (vs := vs) (a := a) n
        rw [hpa]
        by_cases hex : ∃ j, j < n ∧ dstOf l.toArray j = some t
        · obtain ⟨j, hj, hjt⟩ := hex
          have hji : j ≠ i := by
            rintro rfl
            have : o.dst = some t := by simpa [dstOf, H.at_] using hjt
            exact H.own t this hlook
          have hts : t < a.tmps.size := by
            obtain ⟨oj, Hj⟩ := hhead j hj
            exact Hj.low t (by simpa [dstOf, Hj.at_] using hjt)
          rw [putsL_at hj (hdone j ((H.apart j hj hji t hjt).2 hlook)) hjt hts hd, putsL_at hj (hla j hj) hjt hts hd]
        · have hno : ∀ j, j < n → dstOf l.toArray j ≠ some t := fun j hj e => hex ⟨j, hj, e⟩
          rw [putsL_other n (fun j hj _ => hno j hj), putsL_other n (fun j hj _ => hno j hj)]
      | const v => rfl
      | global g => rfl
      | func f => rfl
    have hst := hstep i o (by simpa using H.at_) hin vs w' hb (fun j hj hw => hvs j hj (hdone j hw))
    unfold wpOp
    simp only [ho', hwant, if_true]
    refine .inl (gives_wp heq hst fun v w'' hp => ih _ _ _ ?_ (inv.set hi hin) ⟨fun j => if j = i then v else vs j, ?_, hb.trans (hp.1.mono hb.size), fun j hj hl => ?_⟩)
    · have := unl_set hlt hiun' (n := n) hin
      omega
    · have hdi : dstOf l.toArray i = o.dst := by simp [dstOf, ho']
      rw [putsL_set hin hlt hiun' hd, hdi]
    · by_cases e : j = i
      · subst e; exact hp.2
      · rw [getD_setT hlt, if_neg e] at hl
        refine hV j _ w' w'' hj (hdep j vs _ w' hj (fun q hq => ?_) (hvs j hj hl)) hp.1
        have hqi : q ≠ i := by
          rcases hq with rfl | hq
          · exact e
          · rintro rfl
            obtain ⟨oj, Hj⟩ := hhead j hj
            obtain ⟨ed, he, hbd, hon⟩ := (waitsB_iff Hj.at_).1 hq
            have := inv.closed j oj Hj.at_ hl ed he hbd
            rw [hon, hiun'] at this
            cases this
        rw [if_neg hqi]

/-- Each of the first n operations shown once, in whatever world 'all that was there is as it was'; the rest in order. -/
theorem wp_region_mono (n : Nat) (hm : P.follows .mixedOrders = true) (hh : headB l.toArray n a.tmps.size = true) (hr : restB l.toArray n = true)
    (V : Nat → (Nat → Value) → World → Prop)
    (hdep : ∀ i vs vs' w', i < n → (∀ j, j = i ∨ waitsB l.toArray i j = true → vs j = vs' j) → V i vs w' → V i vs' w')
    (hV : ∀ i vs w' w'', i < n → V i vs w' → Below w'.heap.size w' w'' → V i vs w'')
    (hstep : ∀ i o, l[i]? = some o → i < n → ∀ vs w', Below w.heap.size w w' → (∀ j, j < n → waitsB l.toArray i j = true → V j vs w') → gives P o (putAll l.toArray vs a n) w' (fun v w'' => Below w'.heap.size w' w'' ∧ V i (fun j => if j = i then v else vs j) w''))
    (hend : ∀ vs w', Below w.heap.size w w' → (∀ i, i < n → V i vs w') → wpList P l.toArray Q (l.drop n) (putAll l.toArray vs a n) w') :
    (Code.region id l.toArray true).wp P Q a w := by
  have hn := (headB_spec hh).1
  have hf : ∀ i : Nat, (Array.replicate l.toArray.size false).getD i false = false := fun i => getD_replicate_false _ _
  have hu : unl (Array.replicate l.toArray.size false) n = n := by
    clear hh hr hdep hV hstep hend hn
    induction n with
    | zero => rfl
    | succ n ih =>
      unfold unl
      rw [hf, ih]
      simp
  have inv0 : HeadInv .any l.toArray n (Array.replicate l.toArray.size false) :=
    ⟨by simp, fun j oj _ hl => (by rw [hf] at hl; cases hl), fun t _ ht => getD_in (by simpa using ht) (getD_replicate_false _ _)⟩
  refine wp_region_any hm ?_
  have := mono_any (P := P) (Q := Q) (w := w) hh hr V hdep hV hstep hend n (Array.replicate l.toArray.size false) a { w with drawn := w.drawn + 1 } hu inv0 ⟨fun _ => undef, ?_, (Below.refl _ w).drew, fun i _ hl => (by rw [hf] at hl; cases hl)⟩
  · rw [show n + (l.toArray.size - n) = l.toArray.size by omega] at this
    exact this
  · clear hu inv0 hh hr hdep hV hstep hend hn
    induction n with
    | zero => rfl
    | succ n ih =>
      unfold putsL
      rw [hf]
      simpa using ih
end
end Go.Proofs.Ytglbfmcbojjglaa

namespace Go.Proofs.Ytglbfmcbojjglaa
open Go.RowKit

/-- No one of the first n writes temporary t. -/
def outB (ops : Array Oper) (n t : Nat) : Bool := (List.range n).all fun j => dstOf ops j != some t

/-- What is to be shown of number i: A reads as the frame, w' has all that was there in w. -/
def StepAt (P : Program) (l : List Oper) (n : Nat) (V : Nat → Value → World → Prop) (a : Act) (w : World) (i : Nat) : Prop :=
  ∀ o, l[i]? = some o → ∀ (vs : Nat → Value) (A : Act) (w' : World), Below w.heap.size w w' →
    (∀ j t, waitsB l.toArray i j = true → dstOf l.toArray j = some t → A.eval (.tmp t) = vs j) → (∀ t, outB l.toArray n t = true → A.eval (.tmp t) = a.eval (.tmp t)) →
    (∀ j, waitsB l.toArray i j = true → V j (vs j) w') → gives P o A w' (fun v w'' => Below w'.heap.size w' w'' ∧ V i v w'')

theorem wp_region_monoV {P : Program} {id : Nat} {l : List Oper} {Q : Exit → Act → World → Prop} {a : Act} {w : World} (n : Nat) (V : Nat → Value → World → Prop) (hm : P.follows .mixedOrders = true) (hh : headB l.toArray n a.tmps.size = true) (hr : restB l.toArray n = true)
    (hV : ∀ i v w' w'', V i v w' → Below w'.heap.size w' w'' → V i v w'') (hstep : ∀ i, i < n → StepAt P l n V a w i)
    (hend : ∀ vs w', Below w.heap.size w w' → (∀ i, i < n → V i (vs i) w') → wpList P l.toArray Q (l.drop n) (putAll l.toArray vs a n) w') :
    (Code.region id l.toArray true).wp P Q a w := by
  obtain ⟨hn, hsel, hhead⟩ := headB_spec hh
  have hd : ∀ j k, j < n → k < n → j ≠ k → ∀ t, dstOf l.toArray j = some t → dstOf l.toArray k ≠ some t := fun j k hj hk hne t ht => by
    obtain ⟨o, H⟩ := hhead k hk
    exact (H.apart j hj hne t ht).1
  refine wp_region_mono n hm hh hr (fun i vs w' => V i (vs i) w') (fun i vs vs' w' _ h hv => by rw [← h i (.inl rfl)]; exact hv) (fun i vs w' w'' _ hv hb => hV i _ _ _ hv hb) (fun i o ho hi vs w' hb hdeps => ?_) hend
  obtain ⟨o', H⟩ := hhead i hi
  have hlt : ∀ j, waitsB l.toArray i j = true → j < n := fun j hj => by
    obtain ⟨e, he, hbd, rfl⟩ := (waitsB_iff H.at_).1 hj
    exact Nat.lt_trans (H.back e he hbd) hi
  obtain ⟨la, hla, hpa⟩ := putAll_eq (ops := l.toArray) (vs := vs) (a := a) n
  have hs := hstep i hi o ho vs (putAll l.toArray vs a n) w' hb (fun j t hj ht => by
    have hjn := hlt j hj
    have hts : t < a.tmps.size := by
      obtain ⟨oj, Hj⟩ := hhead j hjn
      exact Hj.low t (by simpa [dstOf, Hj.at_] using ht)
    rw [hpa]
    exact putsL_at hjn (hla j hjn) ht hts hd) (fun t ht => by
    rw [hpa]
    refine putsL_other n (fun j hj _ e => ?_)
    have := List.all_eq_true.1 ht j (List.mem_range.2 hj)
    simp [e] at this) (fun j hj => hdeps j (hlt j hj) hj)
  unfold gives at hs ⊢
  generalize (execOp (putAll l.toArray vs a n).eval o).run P w' = r at hs ⊢
  cases r with
  | ok m w1 =>
    cases m <;> simp only [givesUpon] at hs ⊢ <;> first | exact hs.elim | skip
    case value v => exact ⟨hs.1, by simpa using hs.2⟩
    case skip => exact ⟨hs.1, by simpa using hs.2⟩
    case enter f args => exact hs.mono fun e w2 ⟨v, he, h1, h2⟩ => ⟨v, he, h1, by simpa using h2⟩
  | halt x w1 => simp only [givesUpon] at hs
theorem gives_of {P : Program} {o : Oper} {a : Act} {w w' : World} {v : Value} {post : Value → World → Prop} (h : (execOp a.eval o).run P w = .ok (.value v) w') (hp : post v w') : gives P o a w post := by
  unfold gives
  rw [h]
  exact hp
theorem gives_call {P : Program} {o : Oper} {a : Act} {w w' : World} {f : FuncId} {args : Array Value} {post : Value → World → Prop} (h : (execOp a.eval o).run P w = .ok (.enter f args) w') (hp : Calls P f args w' (fun e w'' => ∃ v, e = .returned v ∧ post v w'')) : gives P o a w post := by
  unfold gives
  rw [h]
  exact hp
theorem gives_append {P : Program} {o : Oper} {a : Act} {w w' : World} {v : Value} {post : Value → World → Prop} (s x : Operand) (t : TypeId) (hop : o.op = .call { callee := .builtin .append, args := #[s, x], argTypes := #[t, t] }) (vs vx : Value) (hs : a.eval s = vs) (hx : a.eval x = vx)
    (hr : (Builtin.append_ #[t, t] o.type #[vs, vx]).run P w = .ok v w') (hp : post v w') : gives P o a w post := by
  refine gives_of (v := v) (w' := w') ?_ hp
  simp only [execOp, hop, resolve, invoke, builtin, Sem.run_bind, Sem.run_pure, Result.andThen_ok, List.map_toArray, List.map_cons, List.map_nil, hs, hx, hr]
/-- The frame behind the operations whose temporaries are ds. -/
def putDs : List (Option Tmp) → Nat → (Nat → Value) → Act → Act
  | [], _, _, a => a
  | d :: ds, i, vs, a => putDs ds (i + 1) vs (a.put d (vs i))
theorem putDs_snoc (vs : Nat → Value) (x : Option Tmp) : ∀ (ds : List (Option Tmp)) (i : Nat) (a : Act), putDs (ds ++ [x]) i vs a = (putDs ds i vs a).put x (vs (i + ds.length))
  | [], i, a => rfl
  | d :: ds, i, a => by
    show putDs (ds ++ [x]) (i + 1) vs (a.put d (vs i)) = _
    rw [putDs_snoc vs x ds (i + 1) _]
    show _ = (putDs ds (i + 1) vs (a.put d (vs i))).put x (vs (i + (ds.length + 1)))
    rw [show i + 1 + ds.length = i + (ds.length + 1) by omega]
theorem putAll_ds (ops : Array Oper) (vs : Nat → Value) (a : Act) : ∀ n, putAll ops vs a n = putDs ((List.range n).map (dstOf ops)) 0 vs a
  | 0 => rfl
  | n + 1 => by
    rw [List.range_succ, List.map_append, List.map_cons, List.map_nil, putDs_snoc, ← putAll_ds ops vs a n]
    simp [putAll]
/-- The same, the temporaries of the first operations given. -/
theorem wp_region_monoD {P : Program} {id : Nat} {l : List Oper} {Q : Exit → Act → World → Prop} {a : Act} {w : World} (n : Nat) (V : Nat → Value → World → Prop) (ds : List (Option Tmp)) (hm : P.follows .mixedOrders = true) (hh : headB l.toArray n a.tmps.size = true) (hr : restB l.toArray n = true) (hds : (List.range n).map (dstOf l.toArray) = ds)
    (hV : ∀ i v w' w'', V i v w' → Below w'.heap.size w' w'' → V i v w'') (hstep : ∀ i, i < n → StepAt P l n V a w i)
    (hend : ∀ vs w', Below w.heap.size w w' → (∀ i, i < n → V i (vs i) w') → wpList P l.toArray Q (l.drop n) (putDs ds 0 vs a) w') :
    (Code.region id l.toArray true).wp P Q a w :=
  wp_region_monoV n V hm hh hr hV hstep (fun vs w' hb hv => by rw [putAll_ds, hds]; exact hend vs w' hb hv)
end Go.Proofs.Ytglbfmcbojjglaa

namespace Go.Proofs.Ytglbfmcbojjglaa
open Go.RowKit

theorem copyE_run {W : World} {B g : Nat} {t e : TypeId} {i : TypeInfo} {z : Value} {size bytes : Nat} (ht : Try.prog.underlying t = some (.slice e)) (hi : Try.prog.info? e = some i) (hz : i.zero = some z) (hsize : i.size = size) (hby : i.bytes = bytes) (hzs : z.cells.size = size)
    {v : Value} {n : Nat} {xs : List Value} (hr : Sl W 0 size v n xs) (hB : B ≤ W.heap.size) (hn : n ≤ 90000) (hb : bytes ≤ 1000) :
    ∃ a c w', (∀ ty, (Builtin.append_ #[t, t] ty #[.slice (some ⟨g, 0, none⟩) 0 0, v]).run Try.prog W = .ok (.slice a n c) w') ∧ Ty w' B e size (.slice a n c) n xs ∧ Below W.heap.size W w' := by
  obtain ⟨ao, cap, rfl, h1, h2, h3, hp⟩ := hr
  by_cases h0 : n = 0
  · subst h0
    have hx : xs = [] := List.eq_nil_of_length_eq_zero (by simpa using h3)
    subst hx
    refine ⟨some ⟨g, 0, none⟩, 0, W, fun ty => ?_, ⟨_, 0, rfl, Nat.le_refl _, by simp, by simp, fun h => absurd h (by omega)⟩, Below.refl _ _⟩
    cases ao <;> simp [Builtin.append_, run_underlying ht, sizeOf, typeInfo, hi, Builtin.lenOf, Builtin.firstCells, loadCells, loadCellsFrom, storeCells]
  · obtain ⟨b, off, rfl, _, hbs, hc⟩ := hp (by omega)
    have hnews : ∀ j u, xs[j]? = some u → W.cell? ((⟨b, off, none⟩ : Addr).add j) = some u := fun j u hu => by rw [addr_add]; exact hc j u hu
    have hrun := fun ty => run_append_grow (P := Try.prog) W t ty e i z ht hi hz ⟨g, 0, none⟩ 0 0 [] (by simp) (by simp) ⟨b, off, none⟩ n cap xs (by rw [hsize]; exact h3) hnews (by omega) (by omega) (growslice_fits (by omega) (by rw [hby, Nat.zero_add]; exact Nat.le_trans (Nat.mul_le_mul hn hb) (by decide)))
    simp only [Nat.zero_add, Array.empty_append] at hrun
    have hge := grownCap_ge W n 0 e
    obtain ⟨gc, hgc⟩ : ∃ gc, gc = grownCap W n 0 e := ⟨_, rfl⟩
    rw [← hgc] at hrun hge
    clear hgc
    refine ⟨_, _, _, hrun, ?_, ((Below.refl _ W).drew).alloc (Nat.le_refl _) _⟩
    refine ⟨_, _, rfl, hge, h3, by simp, fun _ => ⟨W.heap.size, 0, _, rfl, hB, heap_alloc_new W.drew _, ?_, fun j u hj => ?_⟩⟩
    · simp only [Array.size_append, List.size_toArray, size_zeroCells, hzs, h3]
      rw [← Nat.add_mul, show n + (gc - n) = gc by omega, Nat.zero_add]
      exact Nat.le_refl _
    · have hlt := (List.getElem?_eq_some_iff.1 hj).1
      rw [Nat.zero_add, Array.getElem?_append_left (by simpa using hlt)]
      simpa using hj
theorem copyB_bel {W : World} {B g : Nat} {v : Value} {d : List Int} (hr : RdI .u8 W 0 v d) (hB : B ≤ W.heap.size) (hd : d.length ≤ 90000) :
    ∃ a c w', (∀ ty, (Builtin.append_ #[28, 28] ty #[.slice (some ⟨g, 0, none⟩) 0 0, v]).run Try.prog W = .ok (.slice a d.length c) w') ∧ TyB w' B (.slice a d.length c) d ∧ Below W.heap.size W w' := by
  obtain ⟨i0, hi, hz0, hz1, hz2⟩ := info_B2
  exact copyE_run Try.underlying28 hi hz0 hz1 hz2 rfl hr hB hd (by decide)
theorem copyW_bel {W : World} {B g : Nat} {v : Value} {l : List Wt} (hr : RdW W 0 v l) (hB : B ≤ W.heap.size) (hl : l.length ≤ 90000) :
    ∃ a c w', (∀ ty, (Builtin.append_ #[25, 25] ty #[.slice (some ⟨g, 0, none⟩) 0 0, v]).run Try.prog W = .ok (.slice a l.length c) w') ∧ TyW w' B (.slice a l.length c) l ∧ Below W.heap.size W w' := by
  obtain ⟨i0, hi, hz0, hz1, hz2⟩ := info_parts info_W
  exact copyE_run Try.underlying25 hi hz0 hz1 hz2 rfl hr hB hl (by decide)
end Go.Proofs.Ytglbfmcbojjglaa

namespace Go.Proofs.Ytglbfmcbojjglaa
open Go.RowKit

def kdT (t : TypeId) : IntKind := if t = 5 then .u8 else .i64
def szT (t : TypeId) : Nat := if t = 5 then 1 else 3
/-- What is left of a row in a block of type t while its elements' first numbers are turned. -/
def TurnG (t : TypeId) (w : World) (B C : Nat) (v : Value) (n : Nat) : Prop :=
  ∃ (a : Option Addr) (c : Nat), v = .slice a n c ∧ (0 < n → ∃ b off, a = some ⟨b, off, none⟩ ∧ B ≤ b ∧ b < C ∧ Tag w b t ∧ ∀ k, k < n → ∃ z, w.cell? ⟨b, off + k * szT t, none⟩ = some (.int (kdT t) z))
section
variable {w w' : World} {B B' C n : Nat} {t : TypeId} {v : Value}
theorem Tag.next {g : Nat} (h : Tag w g t) (hb : Below w.heap.size w w') : Tag w' g t := by
  obtain ⟨cs, hc⟩ := h
  exact ⟨cs, (hb.block _ (blk_lt hc)).trans hc⟩
theorem TurnG.of {xs : List Value} (h : Ty w B t (szT t) v n xs) (hk : ∀ k, k < n → ∃ z, xs[k * szT t]? = some (.int (kdT t) z)) : TurnG t w B w.heap.size v n := by
  obtain ⟨a, c, hv, h1, h2, h3, hp⟩ := h
  refine ⟨a, c, hv, fun h0 => ?_⟩
  obtain ⟨b, off, cs, ha, hB, hb, _, hx⟩ := hp (by omega)
  refine ⟨b, off, ha, hB, blk_lt hb, ⟨cs, hb⟩, fun k hk' => ?_⟩
  obtain ⟨z, hz⟩ := hk k hk'
  exact ⟨z, by rw [cell_of_row _ _ _ _ _ _ hb]; exact hx _ _ hz⟩
theorem TurnG.ofW {l : List Wt} (h : TyW w B v l) : TurnG 56 w B w.heap.size v l.length := by
  refine TurnG.of (t := 56) h (fun k hk => ⟨l[k].proc, ?_⟩)
  exact (cellsW_get l k 0 hk (by decide)).trans rfl
theorem TurnG.ofB {l : List Int} (h : TyB w B v l) : TurnG 5 w B w.heap.size v l.length := by
  refine TurnG.of (t := 5) h (fun k hk => ⟨l[k], ?_⟩)
  show (l.map (Value.int .u8))[k * 1]? = some (.int .u8 l[k])
  simp [hk]
theorem TurnG.mono (h : TurnG t w B C v n) (hB : B' ≤ B) : TurnG t w B' C v n := by
  obtain ⟨a, c, hv, hp⟩ := h
  refine ⟨a, c, hv, fun h0 => ?_⟩
  obtain ⟨b, off, ha, hb, r⟩ := hp h0
  exact ⟨b, off, ha, by omega, r⟩
theorem TurnG.next (h : TurnG t w B C v n) (hb : Below w.heap.size w w') : TurnG t w' B C v n := by
  obtain ⟨a, c, hv, hp⟩ := h
  refine ⟨a, c, hv, fun h0 => ?_⟩
  obtain ⟨b, off, ha, hB, hC, ht, hc⟩ := hp h0
  obtain ⟨cs, hcs⟩ := ht
  refine ⟨b, off, ha, hB, hC, Tag.next ⟨cs, hcs⟩ hb, fun k hk => ?_⟩
  obtain ⟨z, hz⟩ := hc k hk
  exact ⟨z, (hb.cell (p := ⟨b, _, none⟩) (blk_lt hcs)).trans hz⟩
theorem TurnG.up {C' : Nat} (h : TurnG t w B C v n) (hC : C ≤ C') : TurnG t w B C' v n := by
  obtain ⟨a, c, hv, hp⟩ := h
  refine ⟨a, c, hv, fun h0 => ?_⟩
  obtain ⟨b, off, ha, hB, h1, r⟩ := hp h0
  exact ⟨b, off, ha, hB, by omega, r⟩
theorem TurnG.set {t0 : TypeId} {b0 o : Nat} {u : Value} (h : TurnG t w B C v n) (ht0 : Tag w b0 t0) (hp : w.cell? ⟨b0, o, none⟩ = some u) (z : Int) : TurnG t (w.setCell ⟨b0, o, none⟩ (.int (kdT t0) z)) B C v n := by
  obtain ⟨a, c, hv, hp'⟩ := h
  refine ⟨a, c, hv, fun h0 => ?_⟩
  obtain ⟨b, off, ha, hB, hC, ht, hc⟩ := hp' h0
  refine ⟨b, off, ha, hB, hC, ht.set, fun k hk => ?_⟩
  by_cases he : (⟨b0, o, none⟩ : Addr) = ⟨b, off + k * szT t, none⟩
  · have hbb : b0 = b := by injection he
    subst hbb
    obtain ⟨cs, h1⟩ := ht
    obtain ⟨cs', h2⟩ := ht0
    rw [h1] at h2
    simp only [Option.some.injEq, Obj.cells.injEq] at h2
    rw [← h2.2.1, he]
    rw [he] at hp
    exact ⟨z, World.cell?_setCell_same _ _ _ hp⟩
  · obtain ⟨z', hz'⟩ := hc k hk
    exact ⟨z', by rw [World.cell?_setCell_other _ _ _ _ he]; exact hz'⟩
/-- The k-th: its cell, and what it lies in. -/
theorem TurnG.at {a : Option Addr} {m c : Nat} (h : TurnG t w B C (.slice a m c) n) (k : Nat) (hk : k < n) : ∃ b off z, a = some ⟨b, off, none⟩ ∧ B ≤ b ∧ b < C ∧ b < w.heap.size ∧ Tag w b t ∧ w.cell? ⟨b, off + k * szT t, none⟩ = some (.int (kdT t) z) ∧ w.frozen? ⟨b, off + k * szT t, none⟩ = false := by
  obtain ⟨a', c', hv, hp⟩ := h
  simp only [Value.slice.injEq] at hv
  obtain ⟨rfl, rfl, rfl⟩ := hv
  obtain ⟨b, off, ha, hB, hC, ⟨cs, hcs⟩, hc⟩ := hp (by omega)
  obtain ⟨z, hz⟩ := hc k hk
  exact ⟨b, off, z, ha, hB, hC, blk_lt hcs, ⟨cs, hcs⟩, hz, by simp [World.frozen?, hcs]⟩
end
/-- The row of block g that leads to the rows vs, while these are turned; all that was there in W0 is as it was. -/
structure TG (W0 w : World) (g : Nat) (t : TypeId) (row : Array Value) (vs : List (TypeId × Value × Nat)) : Prop where
  blk : w.heap[g]? = some (.cells row t (0, 0))
  bel : Below W0.heap.size W0 w
  ge : W0.heap.size ≤ g
  tn : ∀ p ∈ vs, TurnG p.1 w W0.heap.size g p.2.1 p.2.2
section
variable {W0 w w' : World} {g : Nat} {t : TypeId} {row : Array Value} {vs : List (TypeId × Value × Nat)}
theorem TG.next (h : TG W0 w g t row vs) (hb : Below w.heap.size w w') : TG W0 w' g t row vs :=
  ⟨(hb.block _ (blk_lt h.blk)).trans h.blk, h.bel.trans (hb.mono h.bel.size), h.ge, fun p hp => (h.tn p hp).next hb⟩
theorem TG.alloc (h : TG W0 w g t row vs) (o : Obj) : TG W0 (w.alloc o) g t row vs := h.next ((Below.refl _ _).alloc (Nat.le_refl _) _)
theorem TG.set {b o : Nat} {t0 : TypeId} {u : Value} (h : TG W0 w g t row vs) (hb : W0.heap.size ≤ b) (hg : b < g) (ht0 : Tag w b t0) (hc : w.cell? ⟨b, o, none⟩ = some u) (z : Int) : TG W0 (w.setCell ⟨b, o, none⟩ (.int (kdT t0) z)) g t row vs :=
  ⟨(Below.heap_setCell _ _ _ _ (by show g ≠ b; omega)).trans h.blk, h.bel.setCell (p := ⟨b, o, none⟩) hb _, h.ge, fun p hp => (h.tn p hp).set ht0 hc z⟩
theorem TG.new {w1 : World} (hb : Below W0.heap.size W0 w1) (ht : ∀ p ∈ vs, TurnG p.1 w1 W0.heap.size w1.heap.size p.2.1 p.2.2) : TG W0 (w1.alloc (.cells row t)) w1.heap.size t row vs :=
  ⟨heap_alloc_new w1 _, hb.alloc hb.size _, hb.size, fun p hp => (ht p hp).next ((Below.refl _ _).alloc (Nat.le_refl _) _)⟩
theorem TG.cell (h : TG W0 w g t row vs) (j : Nat) (x : Value) (hx : row[j]? = some x) : w.cell? ⟨g, j, none⟩ = some x := by
  rw [cell_of_row w _ _ _ _ _ h.blk]
  exact hx
end
end Go.Proofs.Ytglbfmcbojjglaa

/-
  Regions that draw their order, the general form: each operation shown once, under an invariant of the world and a relation of its own between the world ahead of it and behind it. No conditions.
-/
import Derived.Test.YtglbfmcbojjglaaWords24
namespace Go.Proofs.Ytglbfmcbojjglaa
open Go.RowKit

section
variable {P : Program} {id : Nat} {l : List Oper} {Q : Exit → Act → World → Prop} {a : Act} {w : World}
theorem monoS_any {n : Nat} (hnn : n = l.toArray.size) (hh : headB l.toArray n a.tmps.size = true)
    (I : World → Prop) (S : Nat → World → World → Prop) (V : Nat → (Nat → Value) → World → Prop)
    (hdep : ∀ i vs vs' w', i < n → (∀ j, j = i ∨ waitsB l.toArray i j = true → vs j = vs' j) → V i vs w' → V i vs' w')
    (hI : ∀ i w' w'', i < n → I w' → S i w' w'' → I w'')
    (hV : ∀ i j vs w' w'', i < n → j < n → j ≠ i → I w' → V j vs w' → S i w' w'' → V j vs w'')
    (hstep : ∀ i o, l[i]? = some o → i < n → ∀ vs w', I w' → (∀ j, j < n → waitsB l.toArray i j = true → V j vs w') → gives P o (putAll l.toArray vs a n) w' (fun v w'' => S i w' w'' ∧ V i (fun j => if j = i then v else vs j) w''))
    (hend : ∀ vs w', I w' → (∀ i, i < n → V i vs w') → Q .normal (putAll l.toArray vs a n) w') :
    ∀ (k : Nat) (listed : Array Bool) (b : Act) (w' : World), unl listed n = k → HeadInv .any l.toArray n listed →
      (∃ vs, b = putsL l.toArray listed vs a n ∧ I w' ∧ ∀ i, i < n → listed.getD i false = true → V i vs w') → wpAny P .any l.toArray Q k listed b w' := by
  obtain ⟨hn, hsel, hhead⟩ := headB_spec hh
  have hd : ∀ j k, j < n → k < n → j ≠ k → ∀ t, dstOf l.toArray j = some t → dstOf l.toArray k ≠ some t := fun j k hj hk hne t ht => by
    obtain ⟨o, H⟩ := hhead k hk
    exact (H.apart j hj hne t ht).1
  intro k
  induction k with
  | zero =>
    rintro listed b w' hu inv ⟨vs, rfl, hb, hvs⟩
    have hall := unl_zero hu
    rw [putsL_all n hall]
    refine ⟨?_, hend vs w' hb (fun i hi => hvs i hi (hall i hi))⟩
    apply List.eq_nil_iff_forall_not_mem.2
    intro i hi
    obtain ⟨hun, o, ho, _⟩ := mem_ready.1 hi
    have hlt := (Array.getElem?_eq_some_iff.1 ho).1
    have h1 := hall i (by omega)
    rw [getD_both hun] at h1
    cases h1
  | succ k ih =>
    rintro listed b w' hu inv ⟨vs, rfl, hb, hvs⟩
    obtain ⟨i0, hi0, hun0, hmin⟩ := unl_pos (listed := listed) (n := n) (by omega)
    have hsz := inv.size
    have hun0' : listed.getD i0 true = false := getD_in (by omega) hun0
    have hready : i0 ∈ Region.ready .any l.toArray listed := by
      obtain ⟨o, H⟩ := hhead i0 hi0
      exact mem_ready.2 ⟨hun0', o, H.at_, fun e he hbd => hmin e.on (H.back e he hbd)⟩
    refine ⟨fun h => (by rw [h] at hready; cases hready), fun i hi => ?_⟩
    obtain ⟨hiun, o', ho', hall⟩ := mem_ready.1 hi
    have hin : i < n := by have := (Array.getElem?_eq_some_iff.1 ho').1; omega
    obtain ⟨o, H⟩ := hhead i hin
    obtain rfl : o = o' := Option.some.inj (H.at_.symm.trans ho')
    have hlt : i < listed.size := by have := (Array.getElem?_eq_some_iff.1 ho').1; omega
    have hiun' : listed.getD i false = false := getD_both hiun
    have hdone : ∀ j, waitsB l.toArray i j = true → listed.getD j false = true := fun j hj => by
      obtain ⟨e, he, hbd, rfl⟩ := (waitsB_iff H.at_).1 hj
      exact hall e he hbd
    have hwant : Region.wanted o (yielded l.toArray (putsL l.toArray listed vs a n).tmps) = true := by simp [Region.wanted, H.noGuard]
    have heq : execOp (putsL l.toArray listed vs a n).eval o = execOp (putAll l.toArray vs a n).eval o := by
      refine execOp_congr o (fun cs bb => Region.noSelect_spec hsel i o cs bb H.at_) (fun x hx => ?_)
      cases x with
      | tmp t =>
        have hlook : t ∈ o.looksAt l.toArray := by
          unfold Oper.looksAt
          exact List.mem_append_left _ (List.mem_filterMap.2 ⟨.tmp t, by simpa using hx, rfl⟩)
        obtain ⟨la, hla, hpa⟩ := putAll_eq (ops := l.toArray) (vs := vs) (a := a) n
        rw [hpa]
        by_cases hex : ∃ j, j < n ∧ dstOf l.toArray j = some t
        · obtain ⟨j, hj, hjt⟩ := hex
          have hji : j ≠ i := by
            rintro rfl
            have : o.dst = some t := by simpa [dstOf, H.at_] using hjt
            exact H.own t this hlook
          have hts : t < a.tmps.size := by
            obtain ⟨oj, Hj⟩ := hhead j hj
            exact Hj.low t (by simpa [dstOf, Hj.at_] using hjt)
          rw [putsL_at hj (hdone j ((H.apart j hj hji t hjt).2 hlook)) hjt hts hd, putsL_at hj (hla j hj) hjt hts hd]
        · have hno : ∀ j, j < n → dstOf l.toArray j ≠ some t := fun j hj e => hex ⟨j, hj, e⟩
          rw [putsL_other n (fun j hj _ => hno j hj), putsL_other n (fun j hj _ => hno j hj)]
      | const v => rfl
      | global g => rfl
      | func f => rfl
    have hst := hstep i o (by simpa using H.at_) hin vs w' hb (fun j hj hw => hvs j hj (hdone j hw))
    unfold wpOp
    simp only [ho', hwant, if_true]
    refine .inl (gives_wp heq hst fun v w'' hp => ih _ _ _ ?_ (inv.set hi hin) ⟨fun j => if j = i then v else vs j, ?_, hI i w' w'' hin hb hp.1, fun j hj hl => ?_⟩)
    · have := unl_set hlt hiun' (n := n) hin
      omega
    · have hdi : dstOf l.toArray i = o.dst := by simp [dstOf, ho']
      rw [putsL_set hin hlt hiun' hd, hdi]
    · by_cases e : j = i
      · subst e; exact hp.2
      · rw [getD_setT hlt, if_neg e] at hl
        refine hV i j _ w' w'' hin hj e hb (hdep j vs _ w' hj (fun q hq => ?_) (hvs j hj hl)) hp.1
        have hqi : q ≠ i := by
          rcases hq with rfl | hq
          · exact e
          · rintro rfl
            obtain ⟨oj, Hj⟩ := hhead j hj
            obtain ⟨ed, he, hbd, hon⟩ := (waitsB_iff Hj.at_).1 hq
            have := inv.closed j oj Hj.at_ hl ed he hbd
            rw [hon, hiun'] at this
            cases this
        rw [if_neg hqi]

/-- What is to be shown of number i. -/
def StepS (P : Program) (l : List Oper) (n : Nat) (I : World → Prop) (S : Nat → World → World → Prop) (V : Nat → (Nat → Value) → World → Prop) (a : Act) (i : Nat) : Prop :=
  ∀ o, l[i]? = some o → ∀ (vs : Nat → Value) (A : Act) (w' : World), I w' →
    (∀ j t, waitsB l.toArray i j = true → dstOf l.toArray j = some t → A.eval (.tmp t) = vs j) → (∀ t, outB l.toArray n t = true → A.eval (.tmp t) = a.eval (.tmp t)) →
    (∀ j, waitsB l.toArray i j = true → V j vs w') → gives P o A w' (fun v w'' => S i w' w'' ∧ V i (fun j => if j = i then v else vs j) w'')
theorem wp_region_monoS (n : Nat) (I : World → Prop) (S : Nat → World → World → Prop) (V : Nat → (Nat → Value) → World → Prop) (ds : List (Option Tmp)) (hm : P.follows .mixedOrders = true) (hnn : n = l.toArray.size) (hh : headB l.toArray n a.tmps.size = true) (hds : (List.range n).map (dstOf l.toArray) = ds)
    (hdep : ∀ i vs vs' w', i < n → (∀ j, j = i ∨ waitsB l.toArray i j = true → vs j = vs' j) → V i vs w' → V i vs' w')
    (hI : ∀ i w' w'', i < n → I w' → S i w' w'' → I w'')
    (hV : ∀ i j vs w' w'', i < n → j < n → j ≠ i → I w' → V j vs w' → S i w' w'' → V j vs w'')
    (h0 : I { w with drawn := w.drawn + 1 }) (hstep : ∀ i, i < n → StepS P l n I S V a i)
    (hend : ∀ vs w', I w' → (∀ i, i < n → V i vs w') → Q .normal (putDs ds 0 vs a) w') :
    (Code.region id l.toArray true).wp P Q a w := by
  obtain ⟨hn, hsel, hhead⟩ := headB_spec hh
  have hd : ∀ j k, j < n → k < n → j ≠ k → ∀ t, dstOf l.toArray j = some t → dstOf l.toArray k ≠ some t := fun j k hj hk hne t ht => by
    obtain ⟨o, H⟩ := hhead k hk
    exact (H.apart j hj hne t ht).1
  have hf : ∀ i : Nat, (Array.replicate l.toArray.size false).getD i false = false := fun i => getD_replicate_false _ _
  have hu : ∀ m, unl (Array.replicate l.toArray.size false) m = m := fun m => by
    induction m with
    | zero => rfl
    | succ m ih =>
      unfold unl
      rw [hf, ih]
      simp
  have inv0 : HeadInv .any l.toArray n (Array.replicate l.toArray.size false) :=
    ⟨by simp, fun j oj _ hl => (by rw [hf] at hl; cases hl), fun t _ ht => getD_in (by simpa using ht) (getD_replicate_false _ _)⟩
  have hp0 : ∀ m, a = putsL l.toArray (Array.replicate l.toArray.size false) (fun _ => undef) a m := fun m => by
    induction m with
    | zero => rfl
    | succ m ih =>
      unfold putsL
      rw [hf]
      simpa using ih
  refine wp_region_any hm ?_
  have := monoS_any (P := P) (Q := Q) (a := a) hnn hh I S V hdep hI hV (fun i o ho hi vs w' hb hdeps => ?_) (fun vs w' hb hv => by rw [putAll_ds, hds]; exact hend vs w' hb hv) n (Array.replicate l.toArray.size false) a { w with drawn := w.drawn + 1 } (hu n) inv0 ⟨fun _ => undef, hp0 n, h0, fun i _ hl => (by rw [hf] at hl; cases hl)⟩
  · rw [hnn] at this
    exact this
  · obtain ⟨o', H⟩ := hhead i hi
    have hlt : ∀ j, waitsB l.toArray i j = true → j < n := fun j hj => by
      obtain ⟨e, he, hbd, rfl⟩ := (waitsB_iff H.at_).1 hj
      exact Nat.lt_trans (H.back e he hbd) hi
    obtain ⟨la, hla, hpa⟩ := putAll_eq (ops := l.toArray) (vs := vs) (a := a) n
    exact hstep i hi o ho vs (putAll l.toArray vs a n) w' hb (fun j t hj ht => by
      have hjn := hlt j hj
      have hts : t < a.tmps.size := by
        obtain ⟨oj, Hj⟩ := hhead j hjn
        exact Hj.low t (by simpa [dstOf, Hj.at_] using ht)
      rw [hpa]
      exact putsL_at hjn (hla j hjn) ht hts hd) (fun t ht => by
      rw [hpa]
      refine putsL_other n (fun j hj _ e => ?_)
      have := List.all_eq_true.1 ht j (List.mem_range.2 hj)
      simp [e] at this) (fun j hj => hdeps j (hlt j hj) hj)
end
end Go.Proofs.Ytglbfmcbojjglaa

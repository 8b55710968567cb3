/-
  Regions that draw their order, of operations that make memory and one store into a variable of two slices and an int: each operation shown once. No conditions.
-/
import Derived.Test.YtglbfmcbojjglaaMono3
import Derived.Test.YtglbfmcbojjglaaAwake23
namespace Go.Proofs.Ytglbfmcbojjglaa
open Go.RowKit

theorem putM_some (t : Array Value) (d : List Deferred) (k : Tmp) (v : Value) : (⟨t, d⟩ : Act).put (some k) v = ⟨t.setIfInBounds k v, d⟩ := rfl
theorem putM_none (t : Array Value) (d : List Deferred) (v : Value) : (⟨t, d⟩ : Act).put none v = ⟨t, d⟩ := rfl
/-- A variable of two slices and an int. -/
def Var3 (w : World) (k : Nat) (T : TypeId) : Prop := ∃ a n c a' n' c' z, w.heap[k]? = some (.cells #[.slice a n c, .slice a' n' c', .int .i64 z] T (0, 0))
def Agg3 (v : Value) (x y z : Value) : Prop := v = .agg #[x, y, z] ∧ ∃ a n c a' n' c' u, x = .slice a n c ∧ y = .slice a' n' c' ∧ z = .int .i64 u
theorem Var3.next {w w' : World} {k : Nat} {T : TypeId} (h : Var3 w k T) (hb : Below w.heap.size w w') : Var3 w' k T := by
  obtain ⟨a, n, c, a', n', c', z, h⟩ := h
  exact ⟨a, n, c, a', n', c', z, (hb.block _ (blk_lt h)).trans h⟩
theorem Var3.put {w : World} {k : Nat} {T : TypeId} {v x y z : Value} (h : Var3 w k T) (hv : Agg3 v x y z) : (put3 w k x y z).heap[k]? = some (.cells #[x, y, z] T (0, 0)) ∧ Var3 (put3 w k x y z) k T := by
  obtain ⟨a, n, c, a', n', c', u, h⟩ := h
  obtain ⟨_, a1, n1, c1, a2, n2, c2, u2, rfl, rfl, rfl⟩ := hv
  have := put3_blk (x := .slice a1 n1 c1) (y := .slice a2 n2 c2) (z := .int .i64 u2) h
  exact ⟨this, _, _, _, _, _, _, _, this⟩
section
variable {P : Program} {id : Nat} {l : List Oper} {Q : Exit → Act → World → Prop} {a : Act} {w : World}
theorem gives_mono {o : Oper} {post post' : Value → World → Prop} (h : gives P o a w post) (hpp : ∀ v w', post v w' → post' v w') : gives P o a w post' := by
  unfold gives at *
  generalize (execOp a.eval o).run P w = r at *
  cases r with
  | ok n w' =>
    cases n <;> simp only [givesUpon] at h ⊢
    case value u => exact hpp _ _ h
    case skip => exact hpp _ _ h
    case enter f args => exact h.mono fun e w'' ⟨v, he, hw''⟩ => ⟨v, he, hpp _ _ hw''⟩
  | _ => simp only [givesUpon] at h
/-- What the store leaves. -/
def StP (w : World) (T : TypeId) (w' w'' : World) : Prop := ∃ k v x y z, w.heap.size ≤ k ∧ Var3 w' k T ∧ Agg3 v x y z ∧ w'' = put3 w' k x y z
def VarAt (B : Nat) (T : TypeId) (p q : Value) (w' : World) : Prop := ∃ k x y z, p = .pointer (some ⟨k, 0, none⟩) ∧ B ≤ k ∧ Agg3 q x y z ∧ w'.heap[k]? = some (.cells #[x, y, z] T (0, 0))
def StepX (P : Program) (l : List Oper) (n s : Nat) (V : Nat → Value → World → Prop) (a : Act) (w : World) (i : Nat) : Prop :=
  ∀ o, l[i]? = some o → ∀ (vs : Nat → Value) (A : Act) (w' : World), Below w.heap.size w w' →
    (∀ j t, waitsB l.toArray i j = true → dstOf l.toArray j = some t → A.eval (.tmp t) = vs j) → (∀ t, outB l.toArray n t = true → A.eval (.tmp t) = a.eval (.tmp t)) →
    (∀ j, waitsB l.toArray i j = true → j ≠ s → V j (vs j) w') → gives P o A w' (fun v w'' => Below w'.heap.size w' w'' ∧ V i v w'')
theorem wp_region_monoP (n s ip iv : Nat) (T : TypeId) (V : Nat → Value → World → Prop) (ds : List (Option Tmp)) (tp tv : Tmp) (hm : P.follows .mixedOrders = true) (hnn : n = l.toArray.size) (hh : headB l.toArray n a.tmps.size = true) (hds : (List.range n).map (dstOf l.toArray) = ds)
    (hw1 : waitsB l.toArray s ip = true) (hw2 : waitsB l.toArray s iv = true) (hd1 : dstOf l.toArray ip = some tp) (hd2 : dstOf l.toArray iv = some tv) (hs1 : ip ≠ s) (hs2 : iv ≠ s)
    (hV : ∀ i v w' w'', i ≠ s → V i v w' → Below w'.heap.size w' w'' → V i v w'')
    (hP : ∀ i v w' k q x y z, i ≠ s → V i v w' → w.heap.size ≤ k → Var3 w' k T → Agg3 q x y z → V i v (put3 w' k x y z))
    (hp : ∀ v w', V ip v w' → ∃ k, v = .pointer (some ⟨k, 0, none⟩) ∧ w.heap.size ≤ k ∧ Var3 w' k T)
    (hv : ∀ v w', V iv v w' → ∃ x y z, Agg3 v x y z)
    (hstore : ∀ o, l[s]? = some o → ∀ (A : Act) (w' : World) (k : Nat) (v x y z : Value), A.eval (.tmp tp) = .pointer (some ⟨k, 0, none⟩) → A.eval (.tmp tv) = v → Var3 w' k T → Agg3 v x y z → (execOp A.eval o).run P w' = .ok .skip (put3 w' k x y z))
    (hstep : ∀ i, i < n → i ≠ s → StepX P l n s V a w i)
    (hend : ∀ vs w', Below w.heap.size w w' → (∀ i, i < n → i ≠ s → V i (vs i) w') → VarAt w.heap.size T (vs ip) (vs iv) w' → wpList P l.toArray Q [] (putDs ds 0 vs a) w') :
    (Code.region id l.toArray true).wp P Q a w := by
  have hsn : s < n := by
    rw [hnn]
    apply Classical.byContradiction
    intro hge
    have : l.toArray[s]? = none := Array.getElem?_eq_none (by omega)
    simp [waitsB, this] at hw1
  obtain ⟨hn, hsel, hhead⟩ := headB_spec hh
  have hlt : ∀ i j, i < n → waitsB l.toArray i j = true → j < n := fun i j hi hj => by
    obtain ⟨o', H⟩ := hhead i hi
    obtain ⟨e, he, hbd, rfl⟩ := (waitsB_iff H.at_).1 hj
    exact Nat.lt_trans (H.back e he hbd) hi
  have hip := hlt s ip hsn hw1
  have hiv := hlt s iv hsn hw2
  refine wp_region_monoS n (fun w' => Below w.heap.size w w') (fun i w' w'' => if i = s then StP w T w' w'' else Below w'.heap.size w' w'') (fun i vs w' => if i = s then VarAt w.heap.size T (vs ip) (vs iv) w' else V i (vs i) w') ds hm hnn hh hds ?_ ?_ ?_ ?_ ?_ ?_
  · intro i vs vs' w' hi hj h
    by_cases e : i = s
    · subst e
      rw [if_pos rfl] at h ⊢
      rw [← hj ip (.inr hw1), ← hj iv (.inr hw2)]
      exact h
    · rw [if_neg e] at h ⊢
      rw [← hj i (.inl rfl)]
      exact h
  · intro i w' w'' hi hb h
    by_cases e : i = s
    · simp only [if_pos e] at h
      obtain ⟨k, v, x, y, z, hk, _, _, rfl⟩ := h
      exact put3_below hb hk _ _ _
    · simp only [if_neg e] at h
      exact hb.trans (h.mono hb.size)
  · intro i j vs w' w'' hi hj hne hb hvj h
    by_cases ei : i = s
    · rw [if_pos ei] at h
      have ej : j ≠ s := by rw [← ei]; exact hne
      rw [if_neg ej] at hvj ⊢
      obtain ⟨k, v, x, y, z, hk, hvar, hag, rfl⟩ := h
      exact hP j _ _ _ _ _ _ _ ej hvj hk hvar hag
    · rw [if_neg ei] at h
      by_cases ej : j = s
      · rw [if_pos ej] at hvj ⊢
        obtain ⟨k, x, y, z, h1, h2, h3, h4⟩ := hvj
        exact ⟨k, x, y, z, h1, h2, h3, (h.block _ (blk_lt h4)).trans h4⟩
      · rw [if_neg ej] at hvj ⊢
        exact hV j _ _ _ ej hvj h
  · exact (Below.refl _ w).drew
  · intro i hi
    by_cases e : i = s
    · subst e
      intro o ho vs A w' hb hA1 hA2 hdeps
      have hdp : V ip (vs ip) w' := by have h := hdeps ip hw1; simpa only [if_neg hs1] using h
      have hdv : V iv (vs iv) w' := by have h := hdeps iv hw2; simpa only [if_neg hs2] using h
      obtain ⟨k, hk1, hk2, hk3⟩ := hp _ _ hdp
      obtain ⟨x, y, z, hag⟩ := hv _ _ hdv
      have hrun := hstore o ho A w' k (vs iv) x y z ((hA1 ip tp hw1 hd1).trans hk1) (hA1 iv tv hw2 hd2) hk3 hag
      unfold gives
      rw [hrun]
      simp only [givesUpon, if_true, if_neg hs1, if_neg hs2]
      exact ⟨⟨k, _, x, y, z, hk2, hk3, hag, rfl⟩, ⟨k, x, y, z, hk1, hk2, hag, (hk3.put hag).1⟩⟩
    · intro o ho vs A w' hb hA1 hA2 hdeps
      have hst := hstep i hi e o ho vs A w' hb hA1 hA2 (fun j hj hjs => by
        have := hdeps j hj
        simpa only [if_neg hjs] using this)
      refine gives_mono hst fun v w'' h => ?_
      simpa only [if_neg e, if_true] using h
  · intro vs w' hb hvs
    have h0 : VarAt w.heap.size T (vs ip) (vs iv) w' := by have h := hvs s hsn; simpa only [if_true] using h
    exact hend vs w' hb (fun i hi hne => by have := hvs i hi; simpa only [if_neg hne] using this) h0
end
end Go.Proofs.Ytglbfmcbojjglaa

/-
  What queuing's operations keep in memory while they run. No conditions.
-/
import Derived.Test.YtglbfmcbojjglaaQueD
namespace Go.Proofs.Ytglbfmcbojjglaa
open Go.RowKit

theorem RdQ.head {w : World} {B m d : Nat} {a : Option Addr} {x : List Int} {t k : List (List Int)} (h : RdQ w B (.slice a m d) k) (hk : k = x :: t) : m = t.length + 1 ∧ 1 ≤ d ∧ ∃ b off u, a = some ⟨b, off, none⟩ ∧ B ≤ b ∧ b < w.heap.size ∧ w.cell? ⟨b, off, none⟩ = some u ∧ RdI .u8 w B u x := by
  subst hk
  obtain ⟨vs, ⟨ao, cap, hv, h1, h2, h3, hp⟩, hi⟩ := h
  simp only [Value.slice.injEq, List.length_cons] at hv
  obtain ⟨rfl, rfl, rfl⟩ := hv
  simp only [List.length_cons] at h1 h3 hp
  obtain ⟨b, off, rfl, hB, hbs, hc⟩ := hp (by omega)
  match vs, h3 with
  | u :: us, _ => exact ⟨rfl, by omega, b, off, u, rfl, hB, hbs, hc 0 _ rfl, hi 0 _ _ rfl rfl⟩
theorem RdQ.tail {w : World} {B b off m d : Nat} {x : List Int} {t k : List (List Int)} (h : RdQ w B (.slice (some ⟨b, off, none⟩) m d) k) (hk : k = x :: t) : RdQ w B (.slice (if d = 1 then some ⟨b, off, none⟩ else some ⟨b, off + 1, none⟩) (m - 1) (d - 1)) t := by
  subst hk
  obtain ⟨vs, ⟨ao, cap, hv, h1, h2, h3, hp⟩, hi⟩ := h
  simp only [Value.slice.injEq, List.length_cons] at hv
  obtain ⟨rfl, rfl, rfl⟩ := hv
  simp only [List.length_cons] at h1 h3 hp
  obtain ⟨b', off', ha, hB, hbs, hc⟩ := hp (by omega)
  simp only [Option.some.injEq, Addr.mk.injEq, and_true] at ha
  obtain ⟨rfl, rfl⟩ := ha
  rw [Nat.add_sub_cancel]
  match vs, h3 with
  | u :: us, h3 =>
    refine ⟨us, ⟨_, _, rfl, by omega, ?_, by simp at h3; omega, fun h0 => ?_⟩, fun i u' x' hu' hx' => hi (i + 1) u' x' hu' hx'⟩
    · intro h; split at h <;> cases h
    · rw [if_neg (by omega)]
      refine ⟨b, off + 1, rfl, hB, hbs, fun j v hj => ?_⟩
      have := hc (j + 1) v hj
      rw [show off + 1 + j = off + (j + 1) by omega]
      exact this

/-- A state in memory, between two steps of an operation: the port, the state that came in, the result's variable, the variable 'out'. -/
structure QM (w W : World) (nm : ByteArray) (k : Int) (o : Bool) (s d r : Int) (vq0 vw0 : Value) (n0 : Int) (g : Nat) (vq vw : Value) (n : Int) (q : List (List Int)) (l : List Wt) : Prop where
  prt : W.heap[w.heap.size]? = some (.cells #[.string nm, .int .u8 k, .bool o, .int .i64 s, .int .i64 d, .int .i64 r] 23 (0, 0))
  arg : W.heap[w.heap.size + 1]? = some (.cells #[vq0, vw0, .int .i64 n0] 27 (0, 0))
  res : W.heap[w.heap.size + 1 + 1]? = some (.cells #[.slice none 0 0, .slice none 0 0, .int .i64 0] 27 (0, 0))
  ge : w.heap.size + 3 ≤ g
  obj : W.heap[g]? = some (.cells #[vq, vw, .int .i64 n] 27 (0, 0))
  oq : OwnQ W (w.heap.size + 3) vq q
  fr : FrW W (w.heap.size + 3) vw l
  ap : ∀ a m c, vw = .slice (some a) m c → 0 < m → a.block ≠ g
  bel : Below w.heap.size w W

/-- The three variables laid at the start. -/
def W3 (w : World) (nm : ByteArray) (k : Int) (o : Bool) (s d r : Int) (vq vw : Value) (n : Int) : World :=
  ((w.alloc (.cells #[.string nm, .int .u8 k, .bool o, .int .i64 s, .int .i64 d, .int .i64 r] 23)).alloc (.cells #[vq, vw, .int .i64 n] 27)).alloc (.cells #[.slice none 0 0, .slice none 0 0, .int .i64 0] 27)

section
variable {w W W' : World} {nm : ByteArray} {k : Int} {o : Bool} {s d r : Int} {vq0 vw0 : Value} {n0 : Int} {g : Nat} {vq vw : Value} {n : Int} {q : List (List Int)} {l : List Wt}
theorem w3_size : (W3 w nm k o s d r vq vw n).heap.size = w.heap.size + 3 := by simp [W3]
theorem w3_below : Below w.heap.size w (W3 w nm k o s d r vq vw n) := (((Below.refl _ w).alloc (Nat.le_refl _) _).alloc (by simp) _).alloc (by simp; omega) _
theorem w3_prt : (W3 w nm k o s d r vq vw n).heap[w.heap.size]? = some (.cells #[.string nm, .int .u8 k, .bool o, .int .i64 s, .int .i64 d, .int .i64 r] 23 (0, 0)) :=
  (Below.heap_alloc _ _ _ (by simp; omega)).trans ((Below.heap_alloc _ _ _ (by simp)).trans (heap_alloc_new w _))
theorem w3_arg : (W3 w nm k o s d r vq vw n).heap[w.heap.size + 1]? = some (.cells #[vq, vw, .int .i64 n] 27 (0, 0)) := by
  refine (Below.heap_alloc _ _ _ (by simp)).trans ?_
  have := heap_alloc_new (w.alloc (.cells #[.string nm, .int .u8 k, .bool o, .int .i64 s, .int .i64 d, .int .i64 r] 23)) (.cells #[vq, vw, .int .i64 n] 27)
  simpa using this
theorem w3_res : (W3 w nm k o s d r vq vw n).heap[w.heap.size + 1 + 1]? = some (.cells #[.slice none 0 0, .slice none 0 0, .int .i64 0] 27 (0, 0)) := by
  have := heap_alloc_new ((w.alloc (.cells #[.string nm, .int .u8 k, .bool o, .int .i64 s, .int .i64 d, .int .i64 r] 23)).alloc (.cells #[vq, vw, .int .i64 n] 27)) (.cells #[.slice none 0 0, .slice none 0 0, .int .i64 0] 27)
  simpa [W3] using this
theorem sixBlk {W : World} {g : Nat} {a b c d e f : Value} {t : TypeId} (h : W.heap[g]? = some (.cells #[a, b, c, d, e, f] t (0, 0))) :
    W.cell? ⟨g, 0, none⟩ = some a ∧ W.cell? ⟨g, 1, none⟩ = some b ∧ W.cell? ⟨g, 2, none⟩ = some c ∧ W.cell? ⟨g, 3, none⟩ = some d ∧ W.cell? ⟨g, 4, none⟩ = some e ∧ W.cell? ⟨g, 5, none⟩ = some f := by
  refine ⟨?_, ?_, ?_, ?_, ?_, ?_⟩ <;> (rw [cell_of_row _ _ _ _ _ _ h]; rfl)
theorem QM.next (h : QM w W nm k o s d r vq0 vw0 n0 g vq vw n q l) (hb : Below W.heap.size W W') : QM w W' nm k o s d r vq0 vw0 n0 g vq vw n q l :=
  ⟨(hb.block _ (blk_lt h.prt)).trans h.prt, (hb.block _ (blk_lt h.arg)).trans h.arg, (hb.block _ (blk_lt h.res)).trans h.res, h.ge, (hb.block _ (blk_lt h.obj)).trans h.obj, h.oq.below hb, h.fr.below hb, h.ap, h.bel.trans (hb.mono h.bel.size)⟩
theorem QM.new {w1 : World} (oq : OwnQ w1 (W3 w nm k o s d r vq0 vw0 n0).heap.size vq q) (fr : FrW w1 (W3 w nm k o s d r vq0 vw0 n0).heap.size vw l) (hb : Below (W3 w nm k o s d r vq0 vw0 n0).heap.size (W3 w nm k o s d r vq0 vw0 n0) w1) :
    QM w (w1.alloc (.cells #[vq, vw, .int .i64 n] 27)) nm k o s d r vq0 vw0 n0 w1.heap.size vq vw n q l := by
  have hz := w3_size (w := w) (nm := nm) (k := k) (o := o) (s := s) (d := d) (r := r) (vq := vq0) (vw := vw0) (n := n0)
  have hB1 := (w3_below (w := w) (nm := nm) (k := k) (o := o) (s := s) (d := d) (r := r) (vq := vq0) (vw := vw0) (n := n0)).trans (hb.mono (by omega))
  have hs := hb.size
  have ha : Below w1.heap.size w1 (w1.alloc (.cells #[vq, vw, .int .i64 n] 27)) := (Below.refl _ _).alloc (Nat.le_refl _) _
  rw [hz] at oq fr
  refine ⟨(Below.heap_alloc _ _ _ (by omega)).trans ((hb.block _ (by omega)).trans w3_prt), (Below.heap_alloc _ _ _ (by omega)).trans ((hb.block _ (by omega)).trans w3_arg), (Below.heap_alloc _ _ _ (by omega)).trans ((hb.block _ (by omega)).trans w3_res), by omega, heap_alloc_new w1 _, oq.below ha, fr.below ha, fun a m c hv hm => Nat.ne_of_lt (fr_ge fr hv hm).2, hB1.alloc hB1.size _⟩
theorem set3 {W : World} {g : Nat} {a b c : Value} {t : TypeId} (h : W.heap[g]? = some (.cells #[a, b, c] t (0, 0))) (x : Value) :
    (W.setCell ⟨g, 0, none⟩ x).heap[g]? = some (.cells #[x, b, c] t (0, 0)) ∧ (W.setCell ⟨g, 1, none⟩ x).heap[g]? = some (.cells #[a, x, c] t (0, 0)) ∧ (W.setCell ⟨g, 2, none⟩ x).heap[g]? = some (.cells #[a, b, x] t (0, 0)) := by
  have h1 := heap_setCell_same W g 0 _ _ x h
  have h2 := heap_setCell_same W g 1 _ _ x h
  have h3 := heap_setCell_same W g 2 _ _ x h
  simp at h1 h2 h3
  exact ⟨h1, h2, h3⟩
theorem QM.set {W' : World} {u : Value} {j : Nat} {vq' vw' : Value} {n' : Int} {q' : List (List Int)} {l' : List Wt} (h : QM w W nm k o s d r vq0 vw0 n0 g vq vw n q l) (hW : W' = W.setCell ⟨g, j, none⟩ u) (ho : W'.heap[g]? = some (.cells #[vq', vw', .int .i64 n'] 27 (0, 0)))
    (hq : OwnQ W' (w.heap.size + 3) vq' q') (hf : FrW W' (w.heap.size + 3) vw' l') (ha : ∀ a m c, vw' = .slice (some a) m c → 0 < m → a.block ≠ g) : QM w W' nm k o s d r vq0 vw0 n0 g vq' vw' n' q' l' := by
  have hge := h.ge
  subst hW
  exact ⟨(Below.heap_setCell _ _ _ _ (by show w.heap.size ≠ g; omega)).trans h.prt, (Below.heap_setCell _ _ _ _ (by show w.heap.size + 1 ≠ g; omega)).trans h.arg, (Below.heap_setCell _ _ _ _ (by show w.heap.size + 1 + 1 ≠ g; omega)).trans h.res, hge, ho, hq, hf, ha, h.bel.setCell (p := ⟨g, j, none⟩) (by show _ ≤ g; omega) u⟩
theorem frW_set {j : Nat} {u : Value} (h : FrW W (w.heap.size + 3) vw l) (ha : ∀ a m c, vw = .slice (some a) m c → 0 < m → a.block ≠ g) : FrW (W.setCell ⟨g, j, none⟩ u) (w.heap.size + 3) vw l := h.far (grown_set W g j u) ha
theorem QM.putW {u : Value} {l' : List Wt} (h : QM w W nm k o s d r vq0 vw0 n0 g vq vw n q l) (hf : FrW W (w.heap.size + 3) u l') (ha : ∀ a m c, u = .slice (some a) m c → 0 < m → a.block ≠ g) : QM w (W.setCell ⟨g, 1, none⟩ u) nm k o s d r vq0 vw0 n0 g vq u n q l' :=
  h.set rfl (set3 h.obj u).2.1 (h.oq.oth h.obj (by decide) (by decide)) (frW_set hf ha) ha
theorem QM.putN (h : QM w W nm k o s d r vq0 vw0 n0 g vq vw n q l) (n' : Int) : QM w (W.setCell ⟨g, 2, none⟩ (.int .i64 n')) nm k o s d r vq0 vw0 n0 g vq vw n' q l :=
  h.set rfl (set3 h.obj _).2.2 (h.oq.oth h.obj (by decide) (by decide)) (frW_set h.fr h.ap) h.ap
theorem QM.putQ {u : Value} {q' : List (List Int)} (h : QM w W nm k o s d r vq0 vw0 n0 g vq vw n q l) (hq : OwnQ W (w.heap.size + 3) u q') : QM w (W.setCell ⟨g, 0, none⟩ u) nm k o s d r vq0 vw0 n0 g u vw n q' l :=
  h.set rfl (set3 h.obj u).1 (hq.oth h.obj (by decide) (by decide)) (frW_set h.fr h.ap) h.ap
/-- The result's variable is written: the end. -/
def fin3 (w W : World) (x y z : Value) : World := ((W.setCell ⟨w.heap.size + 1 + 1, 0, none⟩ x).setCell ⟨w.heap.size + 1 + 1, 1, none⟩ y).setCell ⟨w.heap.size + 1 + 1, 2, none⟩ z
theorem below_fin3 (h : Below w.heap.size w W) (x y z : Value) : Below w.heap.size w (fin3 w W x y z) :=
  ((h.setCell (p := ⟨w.heap.size + 1 + 1, 0, none⟩) (by show _ ≤ w.heap.size + 1 + 1; omega) x).setCell (p := ⟨w.heap.size + 1 + 1, 1, none⟩) (by show _ ≤ w.heap.size + 1 + 1; omega) y).setCell (p := ⟨w.heap.size + 1 + 1, 2, none⟩) (by show _ ≤ w.heap.size + 1 + 1; omega) z
theorem QM.last (h : QM w W nm k o s d r vq0 vw0 n0 g vq vw n q l) (x y z : Value) : RdQ (fin3 w W x y z) w.heap.size vq q ∧ FrW (fin3 w W x y z) w.heap.size vw l ∧ Below w.heap.size w (fin3 w W x y z) :=
  ⟨(((h.oq.rd.low (by omega)).low (by omega)).low (by omega)).mono (by omega), (((h.fr.low (by omega)).low (by omega)).low (by omega)).mono (by omega), below_fin3 h.bel x y z⟩
end

/-- The results: a state, and two values more. -/
def RetQ (w : World) (q : List (List Int)) (l : List Wt) (n : Int) (x y : Value) (e : Ending) (w' : World) : Prop :=
  ∃ vq vw, e = .returned (.tuple #[.agg #[vq, vw, .int .i64 n], x, y]) ∧ RdQ w' w.heap.size vq q ∧ FrW w' w.heap.size vw l ∧ Below w.heap.size w w'
def RetQ1 (w : World) (q : List (List Int)) (l : List Wt) (n : Int) (y : Value) (e : Ending) (w' : World) : Prop :=
  ∃ vq vw, e = .returned (.tuple #[.agg #[vq, vw, .int .i64 n], y]) ∧ RdQ w' w.heap.size vq q ∧ FrW w' w.heap.size vw l ∧ Below w.heap.size w w'
/-- A state, a message, an error. -/
def RetT (w : World) (q : List (List Int)) (l : List Wt) (n : Int) (x : List Int) (y : Value) (e : Ending) (w' : World) : Prop :=
  ∃ vq vw vx, e = .returned (.tuple #[.agg #[vq, vw, .int .i64 n], vx, y]) ∧ RdQ w' w.heap.size vq q ∧ FrW w' w.heap.size vw l ∧ RdI .u8 w' w.heap.size vx x ∧ Below w.heap.size w w'
/-- A state, a message, whether there is one, an error. -/
def RetC (w : World) (q : List (List Int)) (l : List Wt) (n : Int) (x : List Int) (z y : Value) (e : Ending) (w' : World) : Prop :=
  ∃ vq vw vx, e = .returned (.tuple #[.agg #[vq, vw, .int .i64 n], vx, z, y]) ∧ RdQ w' w.heap.size vq q ∧ FrW w' w.heap.size vw l ∧ RdI .u8 w' w.heap.size vx x ∧ Below w.heap.size w w'

/-- P23.2 -/
def sendQ (k s d r : Int) (q : List (List Int)) (l : List Wt) (n : Int) (x : List Int) : List (List Int) × List Wt × Int × Int × Int :=
  if vldQ k s d r q l n = false ∨ x = [] then (q, l, n, -1, 2) else if s < (x.length : Int) then (q, l, n, -1, 3) else match l with
    | y :: m => (q, m, n, y.proc, 0)
    | [] => if (q.length : Int) = d then (q, [], if n < 1073741824 then n + 1 else 1073741824, -1, 4) else (q ++ [x], [], n, -1, 0)
/-- P23.3 -/
def takeQ (k s d r : Int) (q : List (List Int)) (l : List Wt) (n : Int) : List (List Int) × List Int × Int :=
  if vldQ k s d r q l n = false then (q, [], 2) else match q with
    | x :: t => (t, x, 0)
    | [] => ([], [], 6)
def recvQ (k s d r : Int) (q : List (List Int)) (l : List Wt) (n p u : Int) : List (List Int) × List Wt × List Int × Bool × Int :=
  if vldQ k s d r q l n = false ∨ mayL l p = false then (q, l, [], false, 2) else match q with
    | x :: t => (t, l, x, true, 0)
    | [] => ([], enterW l ⟨p, u, 0⟩, [], false, 0)
/-- P23.4 -/
def cancQ (k s d r : Int) (q : List (List Int)) (l : List Wt) (n p : Int) : List Wt × Int := if vldQ k s d r q l n = false then (l, 2) else (leaveW l p, 0)
end Go.Proofs.Ytglbfmcbojjglaa

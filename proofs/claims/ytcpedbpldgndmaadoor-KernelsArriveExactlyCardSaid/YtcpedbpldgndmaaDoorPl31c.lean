/-
  What arrives in an interval: the weights of the ticks, and how equal neighbours are joined.
-/
import Derived.Test.YtcpedbpldgndmaaDoorPl31b
set_option linter.unusedSimpArgs false
set_option linter.unusedVariables false
set_option maxRecDepth 100000
set_option maxHeartbeats 1600000
namespace Go.Proofs.YtcpedbpldgndmaaDoor
/-- The first tick from which something may arrive, how many there are, and the weight of one. -/
def aS (l : List Int) (f : Nat) : Nat := f + 1 - l.length
def aN (l : List Int) (f u : Nat) : Nat := if f < u then u - aS l f else 0
def aw (l : List Int) (f u tick : Nat) : Int := tk l (min l.length (u - tick)) - tk l (min l.length (f - tick))
/-- A part: from, to, weight. -/
abbrev Wp := Nat × Nat × Int
instance : Inhabited Wp := ⟨(0, 0, 0)⟩
def pw (P : List Wp) (k : Nat) : Wp := P.getD k default
theorem pw_in {P : List Wp} {k : Nat} (h : k < P.length) : pw P k = P[k] := by
 unfold pw
 rw [List.getD_eq_getElem?_getD, List.getElem?_eq_getElem h]
 rfl
/-- Whether a tick's weight is joined to the last part. -/
def arJ (P : List Wp) (last : Int) (tick : Nat) (w : Int) : Prop := 0 < P.length ∧ (pw P (P.length - 1)).2.1 = tick ∧ last = w
instance (P : List Wp) (last : Int) (tick : Nat) (w : Int) : Decidable (arJ P last tick w) := by unfold arJ; exact inferInstance
def arS (P : List Wp) (last : Int) (tick : Nat) (w : Int) : List Wp :=
 if w = 0 then P else if arJ P last tick w then P.set (P.length - 1) ((pw P (P.length - 1)).1, tick + 1, (pw P (P.length - 1)).2.2) else P ++ [(tick, tick + 1, w)]
def aR (l : List Int) (f u : Nat) : Nat → List Wp × Int
 | 0 => ([], 0)
 | k + 1 => (arS (aR l f u k).1 (aR l f u k).2 (aS l f + k) (aw l f u (aS l f + k)), aw l f u (aS l f + k))
theorem arS_len (P : List Wp) (last : Int) (tick : Nat) (w : Int) : (arS P last tick w).length ≤ P.length + 1 := by
 unfold arS
 split
 ·omega
 ·split
  ·rw [List.length_set]
   omega
  ·rw [List.length_append]
   exact Nat.le_refl _
theorem aR_len (l : List Int) (f u : Nat) : ∀ k, (aR l f u k).1.length ≤ k
 | 0 => Nat.le_refl 0
 | k + 1 => by
  have h1 := arS_len (aR l f u k).1 (aR l f u k).2 (aS l f + k) (aw l f u (aS l f + k));have h2 := aR_len l f u k
  show (arS _ _ _ _).length ≤ k + 1
  omega
theorem tk_mono {l : List Int} (h : ∀ k, 0 ≤ wt l k) {i j : Nat} (hij : i ≤ j) : tk l i ≤ tk l j := by
 obtain ⟨d, rfl⟩ : ∃ d, j = i + d := ⟨j - i, by omega⟩;clear hij
 induction d with
 | zero => exact Int.le_refl _
 | succ d ih =>
  have := h (i + d);rw [← Nat.add_assoc, tk_succ]
  omega
theorem aw_bd {l : List Int} (h : Kok l) {f u : Nat} (hfu : f ≤ u) (tick : Nat) : 0 ≤ aw l f u tick ∧ aw l f u tick ≤ 999999999999999 := by
 unfold aw
 have h1 : tk l (min l.length (f - tick)) ≤ tk l (min l.length (u - tick)) := tk_mono h.pos (by omega);have h2 : tk l (min l.length (u - tick)) ≤ tot l := tk_mono h.pos (by omega);have h3 : tk l 0 ≤ tk l (min l.length (f - tick)) := tk_mono h.pos (by omega);have h4 : tk l 0 = 0 := rfl;have h5 := h.le
 unfold far at h5
 omega
/-- The same, weight by weight. -/
theorem aw_sum {l : List Int} {f u tick : Nat} (hfu : f ≤ u) : ∀ n, smI n (fun i => if f ≤ tick + i ∧ tick + i < u then wt l i else 0) = tk l (min n (u - tick)) - tk l (min n (f - tick))
 | 0 => by
  rw [Nat.zero_min, Nat.zero_min, Int.sub_self]
  rfl
 | n + 1 => by
  show smI n _ + (if f ≤ tick + n ∧ tick + n < u then wt l n else 0) = _
  rw [aw_sum hfu n]
  by_cases h1 : f ≤ tick + n
  ·by_cases h2 : tick + n < u
   ·rw [if_pos ⟨h1, h2⟩, show min (n + 1) (u - tick) = n + 1 by omega, show min n (u - tick) = n by omega, show min (n + 1) (f - tick) = f - tick by omega, show min n (f - tick) = f - tick by omega, tk_succ]
    omega
   ·rw [if_neg (by omega), show min (n + 1) (u - tick) = u - tick by omega, show min n (u - tick) = u - tick by omega, show min (n + 1) (f - tick) = f - tick by omega, show min n (f - tick) = f - tick by omega, Int.add_zero]
  ·rw [if_neg (by omega), show min (n + 1) (u - tick) = n + 1 by omega, show min n (u - tick) = n by omega, show min (n + 1) (f - tick) = n + 1 by omega, show min n (f - tick) = n by omega, Int.add_zero, Int.sub_self, Int.sub_self]
end Go.Proofs.YtcpedbpldgndmaaDoor

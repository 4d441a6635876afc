/-
  Layer 31: what the reference's Arrive reckons, in plain words.
-/
import Derived.Test.YtcpedbpldgndmaaGreatDoorPl31c
set_option linter.unusedSimpArgs false
set_option linter.unusedVariables false
set_option maxRecDepth 100000
set_option maxHeartbeats 1600000
namespace Go.Proofs.YtcpedbpldgndmaaGreatDoor
open Go.RowKit
/-- A tick's weight is joined to the last part. -/
def arX (P : List Wp) (tick : Nat) (x : Int) : Prop := 0 < P.length ∧ (pw P (P.length - 1)).2.1 = tick ∧ (pw P (P.length - 1)).2.2 = x
instance (P : List Wp) (tick : Nat) (x : Int) : Decidable (arX P tick x) := by unfold arX; exact inferInstance
def arW (P : List Wp) (tick : Nat) (x : Int) : List Wp :=
 if x = 0 then P else if arX P tick x then P.set (P.length - 1) ((pw P (P.length - 1)).1, tick + 1, (pw P (P.length - 1)).2.2) else P ++ [(tick, tick + 1, x)]
def bR (l : List Int) (f u s0 : Nat) : Nat → List Wp
 | 0 => []
 | k + 1 => arW (bR l f u s0 k) (s0 + k) (aw l f u (s0 + k))
theorem arW_len (P : List Wp) (tick : Nat) (x : Int) : (arW P tick x).length ≤ P.length + 1 := by
 unfold arW
 split
 ·omega
 ·split
  ·rw [List.length_set]
   omega
  ·rw [List.length_append]
   exact Nat.le_refl _
theorem bR_len (l : List Int) (f u s0 : Nat) : ∀ k, (bR l f u s0 k).length ≤ k
 | 0 => Nat.le_refl 0
 | k + 1 => by
  have h1 := arW_len (bR l f u s0 k) (s0 + k) (aw l f u (s0 + k));have h2 := bR_len l f u s0 k
  show (arW _ _ _).length ≤ k + 1
  omega
theorem pw_last (P : List Wp) (x : Wp) : pw (P ++ [x]) ((P ++ [x]).length - 1) = x := by
 rw [List.length_append, List.length_singleton, Nat.add_sub_cancel]
 unfold pw
 simp
theorem pw_setl {P : List Wp} (h : 0 < P.length) (x : Wp) : pw (P.set (P.length - 1) x) ((P.set (P.length - 1) x).length - 1) = x := by
 rw [List.length_set]
 unfold pw
 rw [List.getD_eq_getElem?_getD, List.getElem?_set_self (by omega)]
 rfl
/-- The last part ends at this tick at the latest; if it does, its weight is the last one. -/
def arI (R : List Wp × Int) (tick : Nat) : Prop := 0 < R.1.length → (pw R.1 (R.1.length - 1)).2.1 ≤ tick ∧ ((pw R.1 (R.1.length - 1)).2.1 = tick → (pw R.1 (R.1.length - 1)).2.2 = R.2)
theorem arI_step {P : List Wp} {la x : Int} {tick : Nat} (h : arI (P, la) tick) : arI (arS P la tick x, x) (tick + 1) ∧ arS P la tick x = arW P tick x := by
 unfold arS arW
 by_cases h0 : x = 0
 ·rw [if_pos h0, if_pos h0]
  refine ⟨fun hl => ?_, rfl⟩;have h1 := h hl;simp only at h1 ⊢;exact ⟨by omega, fun h9 => by omega⟩
 ·rw [if_neg h0, if_neg h0]
  have hj : arJ P la tick x ↔ arX P tick x := by
   unfold arJ arX
   constructor
   ·rintro ⟨a, b, c⟩
    exact ⟨a, b, ((h a).2 b).trans c⟩
   ·rintro ⟨a, b, c⟩
    exact ⟨a, b, ((h a).2 b).symm.trans c⟩
  by_cases h1 : arX P tick x
  ·rw [if_pos (hj.2 h1), if_pos h1]
   refine ⟨fun hl => ?_, rfl⟩
   simp only
   rw [pw_setl h1.1];exact ⟨Nat.le_refl _, fun _ => h1.2.2⟩
  ·rw [if_neg (fun h9 => h1 (hj.1 h9)), if_neg h1]
   refine ⟨fun hl => ?_, rfl⟩
   simp only
   rw [pw_last];exact ⟨Nat.le_refl _, fun _ => rfl⟩
theorem aR_inv (l : List Int) (f u : Nat) : ∀ k, arI (aR l f u k) (aS l f + k)
 | 0 => fun h => absurd h (by show ¬ 0 < 0; omega)
 | k + 1 => (arI_step (P := (aR l f u k).1) (la := (aR l f u k).2) (aR_inv l f u k)).1
theorem aR_arW (l : List Int) (f u k : Nat) : (aR l f u (k + 1)).1 = arW (aR l f u k).1 (aS l f + k) (aw l f u (aS l f + k)) := (arI_step (P := (aR l f u k).1) (la := (aR l f u k).2) (aR_inv l f u k)).2
theorem aw_low {l : List Int} {f u tick : Nat} (h1 : tick + l.length ≤ f) (hfu : f ≤ u) : aw l f u tick = 0 := by
 unfold aw
 rw [Nat.min_eq_left (by omega), Nat.min_eq_left (by omega)]
 omega
theorem aw_same (l : List Int) (f tick : Nat) : aw l f f tick = 0 := by
 unfold aw
 omega
theorem bR_none {l : List Int} {f u s0 : Nat} : ∀ k, (∀ j, j < k → aw l f u (s0 + j) = 0) → bR l f u s0 k = []
 | 0, _ => rfl
 | k + 1, h => by
  show arW (bR l f u s0 k) _ _ = []
  rw [h k (by omega), bR_none k (fun j hj => h j (by omega))]
  rfl
theorem bR_from {l : List Int} {f u s0 d : Nat} (hd : s0 + d = aS l f) (h : ∀ j, j < d → aw l f u (s0 + j) = 0) : ∀ k, bR l f u s0 (d + k) = (aR l f u k).1
 | 0 => bR_none d h
 | k + 1 => by
  rw [aR_arW, ← bR_from hd h k]
  show arW (bR l f u s0 (d + k)) (s0 + (d + k)) (aw l f u (s0 + (d + k))) = _
  rw [show s0 + (d + k) = aS l f + k by omega]
theorem bR_all {l : List Int} (hl : l.length ≤ 400) (h1 : 1 ≤ l.length) {f u : Nat} (hfu : f ≤ u) : bR l f u (f - 400) (u - (f - 400)) = (aR l f u (aN l f u)).1 := by
 unfold aN
 by_cases h : f < u
 ·rw [if_pos h]
  have h2 : aS l f ≤ u := by unfold aS; omega
  have h3 : f - 400 ≤ aS l f := by unfold aS; omega
  rw [show u - (f - 400) = (aS l f - (f - 400)) + (u - aS l f) by omega];refine bR_from (by omega) (fun j hj => aw_low ?_ hfu) _
  unfold aS at hj
  omega
 ·rw [if_neg h]
  obtain rfl : f = u := by omega
  exact bR_none _ fun j _ => aw_same l f _
/-- The sum over a window of the weights. -/
def wsm (l : List Int) (f u tick i : Nat) : Int := smI i fun j => if f ≤ tick + j ∧ tick + j < u then wt l j else 0
theorem wsm_succ (l : List Int) (f u tick i : Nat) : wsm l f u tick (i + 1) = wsm l f u tick i + if f ≤ tick + i ∧ tick + i < u then wt l i else 0 := rfl
theorem wsm_bd {l : List Int} (h : Kok l) (f u tick : Nat) {i : Nat} (hi : i ≤ l.length) : 0 ≤ wsm l f u tick i ∧ wsm l f u tick i ≤ 999999999999999 := by
 have h1 : 0 ≤ wsm l f u tick i := smI_nonneg fun j _ => by
  split
  ·exact h.pos j
  ·exact Int.le_refl _
 have h2 : wsm l f u tick i ≤ tk l i := smI_mono fun j _ => by
  split
  ·exact Int.le_refl _
  ·exact h.pos j
 have h3 := tk_le h hi;have h4 := h.le
 unfold far at h4
 exact ⟨h1, by omega⟩
theorem wsm_all {l : List Int} {f u tick : Nat} (hfu : f ≤ u) : wsm l f u tick l.length = aw l f u tick := aw_sum hfu _
end Go.Proofs.YtcpedbpldgndmaaGreatDoor

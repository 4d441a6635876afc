/-
  The order of rational numbers and the integer next below, in plain Lean.
-/
import Derived.Test.YtchhlgcakjjncaaDoorQr
set_option linter.unusedSimpArgs false
set_option linter.unusedVariables false
set_option maxRecDepth 100000
set_option maxHeartbeats 1600000
namespace Go.Proofs.YtchhlgcakjjncaaDoor

theorem cmpR_lt {x y : Rat} : cmpR x y = -1 ↔ x < y := by
  unfold cmpR
  split
  · rename_i h
    subst h
    simp [Rat.lt_irrefl]
  · split
    · rename_i h
      simp [h]
    · rename_i h
      simp [h]
theorem cmpR_eq {x y : Rat} : cmpR x y = 0 ↔ x = y := by
  unfold cmpR
  split
  · rename_i h
    simp [h]
  · split <;> simp_all
theorem cmpR_gt {x y : Rat} : cmpR x y = 1 ↔ y < x := by
  unfold cmpR
  split
  · rename_i h
    subst h
    simp [Rat.lt_irrefl]
  · split
    · rename_i h
      simp
      grind
    · rename_i h1 h2
      simp
      grind
theorem cmpR_bd (x y : Rat) : -1 ≤ cmpR x y ∧ cmpR x y ≤ 1 := by
  unfold cmpR
  split
  · omega
  · split <;> omega
theorem cmpR_le {x y : Rat} : cmpR x y ≤ 0 ↔ x ≤ y := by
  have h1 := cmpR_gt (x := x) (y := y)
  have h2 := cmpR_bd x y
  rw [← Rat.not_lt, ← h1]
  omega
theorem cmpR_ge {x y : Rat} : 0 ≤ cmpR x y ↔ y ≤ x := by
  have h1 := cmpR_lt (x := x) (y := y)
  have h2 := cmpR_bd x y
  rw [← Rat.not_lt, ← h1]
  omega
theorem cmpR_neg (x y : Rat) : cmpR y x = -cmpR x y := by
  have b1 := cmpR_bd x y
  have h1 := cmpR_lt (x := x) (y := y)
  have h2 := cmpR_gt (x := x) (y := y)
  have h3 := cmpR_lt (x := y) (y := x)
  have h4 := cmpR_gt (x := y) (y := x)
  have b2 := cmpR_bd y x
  rw [← h1] at h4
  rw [← h2] at h3
  omega
theorem cmpR_of {x y x' y' : Rat} (h1 : x < y ↔ x' < y') (h2 : y < x ↔ y' < x') : cmpR x y = cmpR x' y' := by
  have b1 := cmpR_bd x y
  have b2 := cmpR_bd x' y'
  have k1 := cmpR_lt (x := x) (y := y)
  have k2 := cmpR_gt (x := x) (y := y)
  have k3 := cmpR_lt (x := x') (y := y')
  have k4 := cmpR_gt (x := x') (y := y')
  rw [h1, ← k3] at k1
  rw [h2, ← k4] at k2
  omega
theorem cmpR_add (x y z : Rat) : cmpR (x + z) (y + z) = cmpR x y := cmpR_of (by grind) (by grind)
theorem rtri (x y : Rat) : x < y ∨ x = y ∨ y < x := by
  rcases Rat.le_total (a := x) (b := y) with h | h
  · rcases Rat.le_iff_lt_or_eq.1 h with h | h
    · exact .inl h
    · exact .inr (.inl h)
  · rcases Rat.le_iff_lt_or_eq.1 h with h | h
    · exact .inr (.inr h)
    · exact .inr (.inl h.symm)
theorem cmpR_mul (x y z : Rat) : cmpR (x * z) (y * z) = cmpR x y * cmpR z 0 := by
  rcases rtri z 0 with h | h | h
  · rw [cmpR_lt.2 h, cmpR_neg y x]
    have hz : 0 < -z := by grind
    have e1 : ∀ u v : Rat, u < v → v * z < u * z := fun u v huv => by
      have := Rat.mul_lt_mul_of_pos_right huv hz
      grind
    have : cmpR (x * z) (y * z) = cmpR y x := cmpR_of ⟨fun h9 => by
      rcases rtri y x with h8 | h8 | h8
      · exact h8
      · subst h8; exact absurd h9 (Rat.lt_irrefl)
      · exact absurd (e1 _ _ h8) (by grind), e1 _ _⟩ ⟨fun h9 => by
      rcases rtri x y with h8 | h8 | h8
      · exact h8
      · subst h8; exact absurd h9 (Rat.lt_irrefl)
      · exact absurd (e1 _ _ h8) (by grind), e1 _ _⟩
    rw [this]
    omega
  · subst h
    rw [Rat.mul_zero, Rat.mul_zero, cmpR_eq.2 rfl]
    simp
  · rw [cmpR_gt.2 h, Int.mul_one]
    exact cmpR_of (Rat.mul_lt_mul_right h) (Rat.mul_lt_mul_right h)
theorem minR_le {x y : Rat} (h : cmpR x y ≤ 0) : minR x y = x := if_pos h
theorem minR_gt {x y : Rat} (h : 0 < cmpR x y) : minR x y = y := if_neg (by omega)
theorem maxR_le {x y : Rat} (h : cmpR x y ≤ 0) : maxR x y = y := by
  unfold maxR
  split
  · exact cmpR_eq.1 (by omega)
  · rfl
theorem maxR_gt {x y : Rat} (h : 0 < cmpR x y) : maxR x y = x := if_pos (by omega)
theorem flr_le (x : Rat) : (flr x : Rat) ≤ x := by
  rw [Rat.le_iff, Rat.num_intCast, Rat.den_intCast]
  unfold flr
  have := Int.ediv_mul_le x.num (b := (x.den : Int)) (by have := x.den_nz; omega)
  omega
theorem lt_flr (x : Rat) : x < (flr x : Rat) + 1 := by
  have h1 : (flr x : Rat) + 1 = ((flr x + 1 : Int) : Rat) := by rw [Rat.intCast_add]; rfl
  rw [h1, Rat.lt_iff, Rat.num_intCast, Rat.den_intCast]
  unfold flr
  have hd : (0 : Int) < (x.den : Int) := by have := x.den_nz; omega
  have := Int.lt_ediv_add_one_mul_self x.num hd
  omega
/-- It is the only one. -/
theorem flr_only {x : Rat} {n : Int} (h1 : (n : Rat) ≤ x) (h2 : x < (n : Rat) + 1) : flr x = n := by
  have a1 := flr_le x
  have a2 := lt_flr x
  have b1 : ((flr x : Int) : Rat) < ((n + 1 : Int) : Rat) := by
    rw [Rat.intCast_add]
    show _ < (n : Rat) + 1
    grind
  have b2 : ((n : Int) : Rat) < ((flr x + 1 : Int) : Rat) := by
    rw [Rat.intCast_add]
    show _ < (flr x : Rat) + 1
    grind
  have b1 := Rat.intCast_lt_intCast.1 b1
  have b2 := Rat.intCast_lt_intCast.1 b2
  omega
theorem flr_neg_int {x : Rat} (h : (flr x : Rat) = x) : flr (-x) = -flr x := flr_only (by rw [Rat.intCast_neg, h]; exact Rat.le_refl) (by rw [Rat.intCast_neg, h]; grind)
theorem flr_neg_frac {x : Rat} (h : (flr x : Rat) ≠ x) : flr (-x) = -flr x - 1 := by
  have h1 := flr_le x
  have h2 := lt_flr x
  have e : ((-flr x - 1 : Int) : Rat) = -(flr x : Rat) - 1 := by rw [Rat.intCast_sub, Rat.intCast_neg]; rfl
  refine flr_only ?_ ?_ <;> rw [e] <;> grind
theorem floE_cases (x : Rat) : (floE x = 0 ∧ floN x = flr x ∧ -999999999999999 ≤ flr x ∧ flr x ≤ 999999999999999) ∨ (floE x = 3 ∧ floN x = 0) := by
  unfold floE floN
  by_cases h : (flr x).natAbs ≤ 999999999999999
  · rw [if_pos h, if_pos h]
    exact .inl ⟨rfl, rfl, by omega, by omega⟩
  · rw [if_neg h, if_neg h]
    exact .inr ⟨rfl, rfl⟩
theorem insB_of {n : Int} (h1 : -999999999999999 ≤ n) (h2 : n ≤ 999999999999999) : insB n = true := decide_eq_true ⟨h1, h2⟩
end Go.Proofs.YtchhlgcakjjncaaDoor

/-
  The order of rational numbers and the integer next below, in plain Lean.
-/
import Derived.Test.YtchhlgcakjjncaaGreatDoorQr
set_option linter.unusedSimpArgs false
set_option linter.unusedVariables false
set_option maxRecDepth 100000
set_option maxHeartbeats 1600000
namespace Go.Proofs.YtchhlgcakjjncaaGreatDoor
theorem cmpR_lt {x y : Rat} : cmpR x y = -1 ↔ x < y := by
  unfold cmpR
  split
  · rename_i h
    subst h
    simp [Rat.lt_irrefl]
  · split
    · rename_i h
      simp [h]
    · rename_i h
      simp [h]
theorem cmpR_eq {x y : Rat} : cmpR x y = 0 ↔ x = y := by
  unfold cmpR
  split
  · rename_i h
    simp [h]
  · split <;> simp_all
theorem cmpR_gt {x y : Rat} : cmpR x y = 1 ↔ y < x := by
  unfold cmpR
  split
  · rename_i h
    subst h
    simp [Rat.lt_irrefl]
  · split
    · rename_i h
      simp
      grind
    · rename_i h1 h2
      simp
      grind
theorem cmpR_bd (x y : Rat) : -1 ≤ cmpR x y ∧ cmpR x y ≤ 1 := by
  unfold cmpR
  split
  · omega
  · split <;> omega
theorem cmpR_ge {x y : Rat} : 0 ≤ cmpR x y ↔ y ≤ x := by
  have h1 := cmpR_lt (x := x) (y := y)
  have h2 := cmpR_bd x y
  rw [← Rat.not_lt, ← h1]
  omega
theorem rtri (x y : Rat) : x < y ∨ x = y ∨ y < x := by
  rcases Rat.le_total (a := x) (b := y) with h | h
  · rcases Rat.le_iff_lt_or_eq.1 h with h | h
    · exact .inl h
    · exact .inr (.inl h)
  · rcases Rat.le_iff_lt_or_eq.1 h with h | h
    · exact .inr (.inr h)
    · exact .inr (.inl h.symm)
theorem insB_of {n : Int} (h1 : -999999999999999 ≤ n) (h2 : n ≤ 999999999999999) : insB n = true := decide_eq_true ⟨h1, h2⟩
end Go.Proofs.YtchhlgcakjjncaaGreatDoor

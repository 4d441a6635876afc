/-
  Numbers and texts of the examples, in plain Lean.
-/
import Derived.Test.YtchhlgcakjjncaaDoorPl05e
set_option linter.unusedSimpArgs false
set_option linter.unusedVariables false
set_option maxRecDepth 100000
set_option maxHeartbeats 1600000
namespace Go.Proofs.YtchhlgcakjjncaaDoor

theorem vd_32 : vd true [3] [2] = true := by decide +kernel
theorem rq_32 : rq true [3] [2] = (((6 : Int) : Rat) / ((-4 : Int) : Rat)) := by decide +kernel
theorem vd_24 : vd false [2] [4] = false := by decide +kernel
theorem rq_24 : rq false [2] [4] = 0 := vd_not vd_24
theorem rq_t0 : rq true [] [] = 0 := vd_not (by decide)
theorem rtx_00 : rtx 0 = [48] := by decide +kernel
theorem rtx_300 : rtx (((300 : Int) : Rat) / ((-7 : Int) : Rat)) = [45, 51, 48, 48, 47, 55] := by decide +kernel
theorem nt_24 : ∀ y, rtx y ≠ [50, 47, 52] := by
  intro y h
  have h1 := (told_by h (D := 4) (by
    show denOk [50, 47, 52] 4
    unfold denOk
    rw [if_neg (by decide)]
    exact ⟨by decide +kernel, by decide +kernel, by decide⟩)).2
  rw [← h1] at h
  exact absurd h (by decide +kernel)
theorem nt_31 : ∀ y, rtx y ≠ [51, 47, 49] := by
  intro y h
  have h1 := (told_by h (D := 1) (by
    show denOk [51, 47, 49] 1
    unfold denOk
    rw [if_neg (by decide)]
    exact ⟨by decide +kernel, by decide +kernel, by decide⟩)).2
  rw [← h1] at h
  exact absurd h (by decide +kernel)
theorem nt_m0 : ∀ y, rtx y ≠ [45, 48] := by
  intro y h
  have h1 := (told_by h (D := 1) (by
    show denOk [48] 1
    unfold denOk
    rw [if_pos (by decide)])).2
  rw [← h1] at h
  exact absurd h (by decide +kernel)
end Go.Proofs.YtchhlgcakjjncaaDoor

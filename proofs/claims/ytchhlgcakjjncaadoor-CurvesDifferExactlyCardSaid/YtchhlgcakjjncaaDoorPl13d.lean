/-
  Plain law of curves: the stages at which two curves differ.
-/
import Derived.Test.YtchhlgcakjjncaaDoorPl13
set_option linter.unusedSimpArgs false
set_option linter.unusedVariables false
set_option maxRecDepth 100000
set_option maxHeartbeats 1600000
namespace Go.Proofs.YtchhlgcakjjncaaDoor
/-- One more stage: the last interval grows, or a new one begins. -/
def dfS (o : List (Int × Int)) (s : Int) : List (Int × Int) :=
  match o.getLast? with
  | none => [(s, s)]
  | some x => if x.2 = s - 1 then o.dropLast ++ [(x.1, s)] else o ++ [(s, s)]
/-- The intervals of the first stages. -/
def dfl (L M : List Kn) : Nat → List (Int × Int)
  | 0 => []
  | k + 1 => if flowAt L (-1000 + (k : Int)) = flowAt M (-1000 + (k : Int)) then dfl L M k else dfS (dfl L M k) (-1000 + (k : Int))
theorem dfS_len (o : List (Int × Int)) (s : Int) : (dfS o s).length ≤ o.length + 1 := by
  unfold dfS
  split
  · simp
  · split
    · simp
    · simp
theorem dfl_len (L M : List Kn) : ∀ k, (dfl L M k).length ≤ k
  | 0 => Nat.le_refl _
  | k + 1 => by
    have h1 := dfl_len L M k
    unfold dfl
    split
    · omega
    · have h2 := dfS_len (dfl L M k) (-1000 + (k : Int))
      omega
theorem dfS_nil (s : Int) : dfS [] s = [(s, s)] := rfl
theorem dfS_grow (o : List (Int × Int)) (x : Int × Int) {s : Int} (h : x.2 = s - 1) : dfS (o ++ [x]) s = o ++ [(x.1, s)] := by
  unfold dfS
  simp [h]
theorem dfS_new (o : List (Int × Int)) (x : Int × Int) {s : Int} (h : x.2 ≠ s - 1) : dfS (o ++ [x]) s = o ++ [x] ++ [(s, s)] := by
  unfold dfS
  simp [h]
end Go.Proofs.YtchhlgcakjjncaaDoor

/-
  Finite sums of rational numbers, and products of finite sequences.
-/
import Derived.Test.YtffgfkcljcollaaDoorMA
set_option linter.unusedSimpArgs false
set_option linter.unusedVariables false
set_option maxRecDepth 100000
set_option maxHeartbeats 1600000
namespace Go.Proofs.YtffgfkcljcollaaDoor
/-- The sum of the first n values. -/
def sm : Nat → (Nat → Rat) → Rat
 | 0, _ => 0
 | n + 1, f => sm n f + f n
theorem sm_zero (f : Nat → Rat) : sm 0 f = 0 := rfl
theorem sm_succ (n : Nat) (f : Nat → Rat) : sm (n + 1) f = sm n f + f n := rfl
theorem sm_congr {f g : Nat → Rat} : ∀ {n : Nat}, (∀ i, i < n → f i = g i) → sm n f = sm n g
 | 0, _ => rfl
 | n + 1, h => by rw [sm_succ, sm_succ, sm_congr (n := n) (fun i hi => h i (by omega)), h n (by omega)]
theorem sm_nil : ∀ (n : Nat), sm n (fun _ => 0) = 0
 | 0 => rfl
 | n + 1 => by rw [sm_succ, sm_nil n, Rat.add_zero]
theorem sm_none {f : Nat → Rat} {n : Nat} (h : ∀ i, i < n → f i = 0) : sm n f = 0 := (sm_congr (g := fun _ => 0) h).trans (sm_nil n)
/-- From the other end. -/
theorem sm_front (f : Nat → Rat) : ∀ (n : Nat), sm (n + 1) f = f 0 + sm n (fun i => f (i + 1))
 | 0 => by
  rw [sm_succ, sm_zero, sm_zero, Rat.zero_add, Rat.add_zero]
 | n + 1 => by
  rw [sm_succ, sm_front f n, sm_succ]
  grind
theorem sm_rev : ∀ (n : Nat) (f : Nat → Rat), sm n (fun i => f (n - 1 - i)) = sm n f
 | 0, _ => rfl
 | n + 1, f => by
  rw [sm_front]
  have h : sm n (fun i => f (n + 1 - 1 - (i + 1))) = sm n f := by
   rw [← sm_rev n f]
   exact sm_congr fun i hi => by
    show f (n + 1 - 1 - (i + 1)) = f (n - 1 - i)
    rw [show n + 1 - 1 - (i + 1) = n - 1 - i by omega]
  rw [h, sm_succ]
  show f n + sm n f = sm n f + f n
  exact Rat.add_comm _ _
theorem sm_split (f : Nat → Rat) (n : Nat) : ∀ (m : Nat), sm (n + m) f = sm n f + sm m (fun i => f (n + i))
 | 0 => by rw [sm_zero, Rat.add_zero]; rfl
 | m + 1 => by
  rw [← Nat.add_assoc, sm_succ, sm_split f n m, sm_succ]
  grind
/-- The product of two sequences (which are 0 from some place on, or not). -/
def cv (a b : Nat → Rat) (t : Nat) : Rat := sm (t + 1) fun i => a i * b (t - i)
end Go.Proofs.YtffgfkcljcollaaDoor

/-
  Finite sums of rational numbers, and products of finite sequences.
-/
import Derived.Test.YtcpedbpldgndmaaDoorMA
set_option linter.unusedSimpArgs false
set_option linter.unusedVariables false
set_option maxRecDepth 100000
set_option maxHeartbeats 1600000
namespace Go.Proofs.YtcpedbpldgndmaaDoor
/-- The sum of the first n values. -/
def sm : Nat → (Nat → Rat) → Rat
 | 0, _ => 0
 | n + 1, f => sm n f + f n
theorem sm_zero (f : Nat → Rat) : sm 0 f = 0 := rfl
theorem sm_succ (n : Nat) (f : Nat → Rat) : sm (n + 1) f = sm n f + f n := rfl
theorem sm_congr {f g : Nat → Rat} : ∀ {n : Nat}, (∀ i, i < n → f i = g i) → sm n f = sm n g
 | 0, _ => rfl
 | n + 1, h => by rw [sm_succ, sm_succ, sm_congr (n := n) (fun i hi => h i (by omega)), h n (by omega)]
theorem sm_nil : ∀ (n : Nat), sm n (fun _ => 0) = 0
 | 0 => rfl
 | n + 1 => by rw [sm_succ, sm_nil n, Rat.add_zero]
theorem sm_none {f : Nat → Rat} {n : Nat} (h : ∀ i, i < n → f i = 0) : sm n f = 0 := (sm_congr (g := fun _ => 0) h).trans (sm_nil n)
theorem sm_add (f g : Nat → Rat) : ∀ (n : Nat), sm n (fun i => f i + g i) = sm n f + sm n g
 | 0 => by rw [sm_zero, sm_zero, sm_zero, Rat.add_zero]
 | n + 1 => by
  rw [sm_succ, sm_succ, sm_succ, sm_add f g n]
  grind
theorem sm_mul (a : Rat) (f : Nat → Rat) : ∀ (n : Nat), sm n (fun i => a * f i) = a * sm n f
 | 0 => by rw [sm_zero, sm_zero, Rat.mul_zero]
 | n + 1 => by
  rw [sm_succ, sm_succ, sm_mul a f n]
  grind
theorem sm_mulr (a : Rat) (f : Nat → Rat) (n : Nat) : sm n (fun i => f i * a) = sm n f * a := by
 rw [sm_congr (g := fun i => a * f i) (fun i _ => Rat.mul_comm _ _), sm_mul, Rat.mul_comm]
/-- Two sums, one in the other. -/
theorem sm_swap (f : Nat → Nat → Rat) (m : Nat) : ∀ (n : Nat), sm n (fun i => sm m (fun j => f i j)) = sm m (fun j => sm n (fun i => f i j))
 | 0 => by
  rw [sm_zero]
  symm
  exact sm_none fun i _ => rfl
 | n + 1 => by
  rw [sm_succ, sm_swap f m n, ← sm_add]
  rfl
theorem sm_more {f : Nat → Rat} {n m : Nat} (hnm : n ≤ m) (h : ∀ i, n ≤ i → i < m → f i = 0) : sm m f = sm n f := by
 induction m with
 | zero => rw [show n = 0 by omega]
 | succ m ih =>
  rcases Nat.lt_or_ge n (m + 1) with h1 | h1
  ·rw [sm_succ, ih (by omega) (fun i h2 h3 => h i h2 (by omega)), h m (by omega) (by omega), Rat.add_zero]
  ·rw [show n = m + 1 by omega]
theorem sm_split (f : Nat → Rat) (n : Nat) : ∀ (m : Nat), sm (n + m) f = sm n f + sm m (fun i => f (n + i))
 | 0 => by rw [sm_zero, Rat.add_zero]; rfl
 | m + 1 => by
  rw [← Nat.add_assoc, sm_succ, sm_split f n m, sm_succ]
  grind
theorem sm_one {f : Nat → Rat} {n k : Nat} (hk : k < n) (h : ∀ i, i < n → i ≠ k → f i = 0) : sm n f = f k := by
 induction n with
 | zero => omega
 | succ n ih =>
  rw [sm_succ]
  rcases Nat.lt_or_ge k n with h1 | h1
  ·rw [ih h1 (fun i hi hne => h i (by omega) hne), h n (by omega) (by omega), Rat.add_zero]
  ·rw [show k = n by omega, sm_none (fun i hi => h i (by omega) (by omega)), Rat.zero_add]
/-- The product of two sequences (which are 0 from some place on, or not). -/
def cv (a b : Nat → Rat) (t : Nat) : Rat := sm (t + 1) fun i => a i * b (t - i)
/-- The same as a sum over all pairs. -/
theorem cv_pairs (a b : Nat → Rat) {n m : Nat} (hn : ∀ i, n ≤ i → a i = 0) (hm : ∀ i, m ≤ i → b i = 0) (t : Nat) : cv a b t = sm n fun i => sm m fun j => if i + j = t then a i * b j else 0 := by
 have key : ∀ i, (sm m fun j => if i + j = t then a i * b j else 0) = if i ≤ t then a i * b (t - i) else 0 := fun i => by
  by_cases hi : i ≤ t
  ·rw [if_pos hi]
   rcases Nat.lt_or_ge (t - i) m with h1 | h1
   ·rw [sm_one (k := t - i) h1 (fun j hj hne => if_neg (by omega)), if_pos (by omega)]
   ·rw [sm_none (fun j hj => if_neg (by omega)), hm _ h1, Rat.mul_zero]
  ·rw [if_neg hi]
   exact sm_none fun j hj => if_neg (by omega)
 rw [sm_congr fun i _ => key i]
 unfold cv
 rcases Nat.lt_or_ge n (t + 1) with h1 | h1
 ·rw [sm_more (n := n) (by omega) (fun i h2 h3 => by rw [hn i h2, Rat.zero_mul])]
  exact sm_congr fun i hi => by rw [if_pos (by omega)]
 ·rw [sm_more (f := fun i => if i ≤ t then a i * b (t - i) else 0) (n := t + 1) h1 (fun i h2 h3 => if_neg (by omega))]
  exact sm_congr fun i hi => by rw [if_pos (by omega)]
theorem cv_zero (a b : Nat → Rat) {n m : Nat} (hn : ∀ i, n ≤ i → a i = 0) (hm : ∀ i, m ≤ i → b i = 0) {t : Nat} (ht : n + m ≤ t + 1) : cv a b t = 0 := by
 unfold cv
 refine sm_none fun i hi => ?_
 rcases Nat.lt_or_ge i n with h1 | h1
 ·rw [hm (t - i) (by omega), Rat.mul_zero]
 ·rw [hn i h1, Rat.zero_mul]
/-- The whole sum of a product. -/
theorem cv_sum (a b : Nat → Rat) {n m N : Nat} (hn : ∀ i, n ≤ i → a i = 0) (hm : ∀ i, m ≤ i → b i = 0) (hN : n + m ≤ N + 1) (f : Nat → Rat) : sm N (fun t => f t * cv a b t) = sm n fun i => sm m fun j => f (i + j) * (a i * b j) := by
 have h1 : ∀ t, f t * cv a b t = sm n fun i => sm m fun j => if i + j = t then f (i + j) * (a i * b j) else 0 := fun t => by
  rw [cv_pairs a b hn hm, ← sm_mul];refine sm_congr fun i _ => ?_;rw [← sm_mul];refine sm_congr fun j _ => ?_
  split
  ·rename_i h
   rw [h]
  ·exact Rat.mul_zero _
 rw [sm_congr fun t _ => h1 t, sm_swap];refine sm_congr fun i hi => ?_;rw [sm_swap];refine sm_congr fun j hj => ?_;rw [sm_one (k := i + j) (by omega) (fun t _ hne => if_neg (fun h => hne h.symm)), if_pos rfl]
end Go.Proofs.YtcpedbpldgndmaaDoor

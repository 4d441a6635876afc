/-
  Rating curves in plain Lean: the flow at a stage.
-/
import Derived.Test.YtchhlgcakjjncaaGreatDoorPl05o
set_option linter.unusedSimpArgs false
set_option linter.unusedVariables false
set_option maxRecDepth 100000
set_option maxHeartbeats 1600000
namespace Go.Proofs.YtchhlgcakjjncaaGreatDoor
/-- A point of a curve: its stage and its flow. -/
abbrev Kn := Int × Rat
def stg (l : List Kn) (k : Nat) : Int := (l.getD k (0, 0)).1
def flw (l : List Kn) (k : Nat) : Rat := (l.getD k (0, 0)).2
/-- A curve without an error. -/
structure Crv (l : List Kn) : Prop where
  pos : 0 < l.length
  few : l.length ≤ 16
  asc : ∀ k, k + 1 < l.length → stg l k < stg l (k + 1) ∧ flw l k ≤ flw l (k + 1)
  nn : ∀ k, k < l.length → 0 ≤ flw l k
  rng : ∀ k, k < l.length → -1000 ≤ stg l k ∧ stg l k ≤ 2000
theorem Crv.lt {l : List Kn} (h : Crv l) : ∀ {i j : Nat}, i < j → j < l.length → stg l i < stg l j ∧ flw l i ≤ flw l j := by
  intro i j hij
  induction j with
  | zero => omega
  | succ j ih =>
    intro hj
    have h1 := h.asc j hj
    rcases Nat.lt_or_ge i j with h2 | h2
    · have h3 := ih h2 (by omega)
      exact ⟨by omega, Rat.le_trans h3.2 h1.2⟩
    · obtain rfl : i = j := by omega
      exact h1
theorem Crv.le {l : List Kn} (h : Crv l) {i j : Nat} (hij : i ≤ j) (hj : j < l.length) : stg l i ≤ stg l j ∧ flw l i ≤ flw l j := by
  rcases Nat.lt_or_ge i j with h1 | h1
  · have := h.lt h1 hj
    exact ⟨by omega, this.2⟩
  · obtain rfl : i = j := by omega
    exact ⟨Int.le_refl _, Rat.le_refl⟩
/-- How many points lie at a stage or below. -/
def cnt (l : List Kn) (s : Int) : Nat := (l.takeWhile fun p => decide (p.1 ≤ s)).length
theorem cnt_le (l : List Kn) (s : Int) : cnt l s ≤ l.length := (List.takeWhile_sublist _).length_le
theorem cnt_low : ∀ (l : List Kn) (s : Int) (k : Nat), k < cnt l s → stg l k ≤ s
  | [], s, k, h => by simp [cnt] at h
  | p :: l, s, k, h => by
    unfold cnt at h
    rw [List.takeWhile_cons] at h
    split at h
    · rename_i h1
      cases k with
      | zero => simpa [stg] using h1
      | succ k =>
        have := cnt_low l s k (by unfold cnt; simpa using h)
        simpa [stg] using this
    · simp at h
theorem cnt_at : ∀ (l : List Kn) (s : Int), cnt l s < l.length → s < stg l (cnt l s)
  | [], s, h => by simp at h
  | p :: l, s, h => by
    unfold cnt at h ⊢
    rw [List.takeWhile_cons] at h ⊢
    split
    · rename_i h1
      rw [if_pos h1] at h
      have := cnt_at l s (by unfold cnt; simpa using h)
      unfold cnt at this
      simpa [stg] using this
    · rename_i h1
      have : ¬ p.1 ≤ s := by simpa using h1
      show s < p.1
      omega
theorem cnt_high {l : List Kn} (h : Crv l) {s : Int} {k : Nat} (hk : cnt l s ≤ k) (hl : k < l.length) : s < stg l k := by
  have h1 := cnt_at l s (by omega)
  have h2 := (h.le hk hl).1
  omega
theorem cnt_only {l : List Kn} (h : Crv l) {s : Int} {c : Nat} (hc : c ≤ l.length) (h1 : ∀ k, k < c → stg l k ≤ s) (h2 : c < l.length → s < stg l c) : cnt l s = c := by
  rcases Nat.lt_trichotomy (cnt l s) c with h3 | h3 | h3
  · have a := cnt_at l s (by omega)
    have b := h1 _ h3
    omega
  · exact h3
  · have hl := cnt_le l s
    have a := cnt_low l s c h3
    have b := h2 (by omega)
    omega
/-- Between two points. -/
def lin (a : Int) (x : Rat) (b : Int) (y : Rat) (s : Int) : Rat := x + ((s - a : Int) : Rat) / ((b - a : Int) : Rat) * (y - x)
def flowAt (l : List Kn) (s : Int) : Rat :=
  if cnt l s = 0 then 0 else if cnt l s = l.length then flw l (cnt l s - 1) else lin (stg l (cnt l s - 1)) (flw l (cnt l s - 1)) (stg l (cnt l s)) (flw l (cnt l s)) s
theorem cast_pos {n : Int} (h : 0 < n) : (0 : Rat) < (n : Rat) := by
  have := Rat.intCast_lt_intCast (a := 0) (b := n) |>.2 h
  simpa using this
theorem lin_mul {a b : Int} (x y : Rat) (s : Int) (h : a < b) : ((b - a : Int) : Rat) * lin a x b y s = ((b - s : Int) : Rat) * x + ((s - a : Int) : Rat) * y := by
  unfold lin
  have h1 : ((b - a : Int) : Rat) ≠ 0 := Rat.ne_of_gt (cast_pos (by omega))
  have h2 : ((b - s : Int) : Rat) = ((b - a : Int) : Rat) - ((s - a : Int) : Rat) := by
    rw [← Rat.intCast_sub]
    congr 1
    omega
  rw [h2]
  generalize ((b - a : Int) : Rat) = d at *
  generalize ((s - a : Int) : Rat) = e at *
  grind
theorem lin_mono {a b : Int} {x y : Rat} {s t : Int} (h : a < b) (hxy : x ≤ y) (hst : s ≤ t) : lin a x b y s ≤ lin a x b y t := by
  unfold lin
  have h1 := cast_pos (n := b - a) (by omega)
  have h2 := Rat.intCast_le_intCast (a := s - a) (b := t - a) |>.2 (by omega)
  have h3 : 0 ≤ (((b - a : Int) : Rat))⁻¹ := by
    have := Rat.inv_pos.2 h1
    exact Rat.le_of_lt this
  have h4 := Rat.mul_le_mul_of_nonneg_right h2 h3
  have h5 : 0 ≤ y - x := by grind
  have h6 := Rat.mul_le_mul_of_nonneg_right h4 h5
  rw [Rat.div_def, Rat.div_def]
  grind
theorem lin_left (a : Int) (x : Rat) (b : Int) (y : Rat) : lin a x b y a = x := by
  unfold lin
  rw [Int.sub_self]
  show x + (0 : Rat) / _ * _ = x
  rw [Rat.div_def, Rat.zero_mul, Rat.zero_mul, Rat.add_zero]
theorem lin_right {a b : Int} (x y : Rat) (h : a < b) : lin a x b y b = y := by
  have h1 := lin_mul x y b h
  rw [Int.sub_self] at h1
  have h2 : ((b - a : Int) : Rat) ≠ 0 := Rat.ne_of_gt (cast_pos (by omega))
  have h3 : ((0 : Int) : Rat) = 0 := rfl
  rw [h3] at h1
  generalize ((b - a : Int) : Rat) = d at *
  grind
theorem cnt_mono {l : List Kn} {s t : Int} (hst : s ≤ t) : cnt l s ≤ cnt l t := by
  rcases Nat.lt_or_ge (cnt l t) (cnt l s) with h1 | h1
  · have a := cnt_low l s _ h1
    have b := cnt_at l t (by have := cnt_le l s; omega)
    omega
  · exact h1
section
variable {l : List Kn} (h : Crv l)
include h
theorem flow_low {s : Int} (hc : 0 < cnt l s) : flw l (cnt l s - 1) ≤ flowAt l s := by
  unfold flowAt
  rw [if_neg (by omega)]
  split
  · exact Rat.le_refl
  · rename_i h1
    have hl := cnt_le l s
    have h2 := h.lt (i := cnt l s - 1) (j := cnt l s) (by omega) (by omega)
    have h3 := cnt_low l s (cnt l s - 1) (by omega)
    have h4 := lin_mono (a := stg l (cnt l s - 1)) (b := stg l (cnt l s)) (s := stg l (cnt l s - 1)) (t := s) h2.1 h2.2 h3
    rwa [lin_left] at h4
theorem flow_high {s : Int} (hc : cnt l s < l.length) : flowAt l s ≤ flw l (cnt l s) := by
  unfold flowAt
  split
  · rename_i h1
    exact h.nn _ hc
  · rename_i h1
    rw [if_neg (by omega)]
    have h2 := h.lt (i := cnt l s - 1) (j := cnt l s) (by omega) hc
    have h3 := cnt_at l s hc
    have h4 := lin_mono (a := stg l (cnt l s - 1)) (b := stg l (cnt l s)) (s := s) (t := stg l (cnt l s)) h2.1 h2.2 (by omega)
    rwa [lin_right _ _ h2.1] at h4
theorem flow_mono {s t : Int} (hst : s ≤ t) : flowAt l s ≤ flowAt l t := by
  have hm := cnt_mono (l := l) hst
  have hlt := cnt_le l t
  rcases Nat.lt_or_ge (cnt l s) (cnt l t) with h1 | h1
  · refine Rat.le_trans (flow_high h (by omega)) (Rat.le_trans ?_ (flow_low h (by omega)))
    exact (h.le (i := cnt l s) (j := cnt l t - 1) (by omega) (by omega)).2
  · have he : cnt l s = cnt l t := by omega
    unfold flowAt
    rw [he]
    split
    · exact Rat.le_refl
    · split
      · exact Rat.le_refl
      · have h2 := h.lt (i := cnt l t - 1) (j := cnt l t) (by omega) (by omega)
        exact lin_mono h2.1 h2.2 hst
theorem flow_top {s : Int} (hs : stg l (l.length - 1) ≤ s) : flowAt l s = flw l (l.length - 1) := by
  have hp := h.pos
  have hc : cnt l s = l.length := cnt_only h (Nat.le_refl _) (fun k hk => by have := (h.le (i := k) (j := l.length - 1) (by omega) (by omega)).1; omega) (fun hl => by omega)
  unfold flowAt
  rw [hc, if_neg (by omega), if_pos rfl]
theorem flow_before {s : Int} (hs : s < stg l 0) : flowAt l s = 0 := by
  have hc : cnt l s = 0 := cnt_only h (by omega) (fun k hk => by omega) (fun _ => hs)
  unfold flowAt
  rw [if_pos hc]
end
end Go.Proofs.YtchhlgcakjjncaaGreatDoor

/-
  Division digit by digit: what the loops keep.
-/
import Derived.Test.YtglnabciomlmmaaDoorNpm
import Derived.Test.YtglnabciomlmmaaDoorNti
namespace Go.Proofs.YtglnabciomlmmaaDoor

theorem lw_drop1 {l : List UInt32} {j : Nat} (h : j < l.length) : lw (l.drop j) = (l.getD j 0).toNat + 4294967296 * lw (l.drop (j + 1)) := by
  rw [List.drop_eq_getElem_cons h, lw_cons]
  simp [List.getD, h]
theorem lw_take_lt (l : List UInt32) (k : Nat) : lw (l.take k) < 4294967296 ^ k := by
  have h1 := lw_lt (l.take k)
  have h2 : (l.take k).length ≤ k := List.length_take_le _ _
  exact Nat.lt_of_lt_of_le h1 (Nat.pow_le_pow_right (by omega) h2)
theorem lw_at (l : List UInt32) {k : Nat} (h : k ≤ l.length) : lw l = lw (l.take k) + 4294967296 ^ k * lw (l.drop k) := by
  have h1 := lw_split l k
  have h2 : (l.take k).length = k := by rw [List.length_take]; omega
  rw [h2] at h1
  exact h1
/-- The divisor's two highest digits. -/
theorem top2 {l : List UInt32} {n : Nat} (hl : l.length = n) (hn : 2 ≤ n) : lw l = ((l.getD (n - 1) 0).toNat * 4294967296 + (l.getD (n - 2) 0).toNat) * 4294967296 ^ (n - 2) + lw (l.take (n - 2)) := by
  have h1 := lw_at l (k := n - 2) (by omega)
  have h2 := lw_drop1 (l := l) (j := n - 2) (by omega)
  have h3 := lw_drop1 (l := l) (j := n - 1) (by omega)
  rw [show n - 2 + 1 = n - 1 by omega] at h2
  rw [show n - 1 + 1 = n by omega, List.drop_eq_nil_of_le (show l.length ≤ n by omega), lw_nil] at h3
  rw [h2, h3] at h1
  rw [h1, Nat.mul_comm (4294967296 ^ (n - 2)), Nat.mul_zero, Nat.add_zero, Nat.add_comm (lw _), Nat.mul_comm 4294967296, Nat.add_comm ((l.getD (n - 2) 0).toNat)]
/-- The rest's three highest digits at a place. -/
theorem top3 {S : List UInt32} {n V : Nat} (hl : n + 1 ≤ S.length) (hn : 2 ≤ n) (hV : V ≤ 4294967296 ^ n) (hlt : lw S < V * 4294967296) :
    lw S = (((S.getD n 0).toNat * 4294967296 + (S.getD (n - 1) 0).toNat) * 4294967296 + (S.getD (n - 2) 0).toNat) * 4294967296 ^ (n - 2) + lw (S.take (n - 2)) ∧ lw (S.take (n + 1)) = lw S := by
  have h0 := lw_at S (k := n + 1) hl
  have h1 : lw (S.drop (n + 1)) = 0 := by
    rcases Nat.eq_zero_or_pos (lw (S.drop (n + 1))) with h | h
    · exact h
    · exfalso
      have h2 : 4294967296 ^ (n + 1) ≤ 4294967296 ^ (n + 1) * lw (S.drop (n + 1)) := Nat.le_mul_of_pos_right _ h
      have h3 : V * 4294967296 ≤ 4294967296 ^ n * 4294967296 := Nat.mul_le_mul_right _ hV
      rw [← Nat.pow_succ] at h3
      omega
  have ht : lw (S.take (n + 1)) = lw S := by rw [h0, h1]; omega
  refine ⟨?_, ht⟩
  have a1 := lw_at S (k := n - 2) (by omega)
  have a2 := lw_drop1 (l := S) (j := n - 2) (by omega)
  have a3 := lw_drop1 (l := S) (j := n - 1) (by omega)
  have a4 := lw_drop1 (l := S) (j := n) (by omega)
  rw [show n - 2 + 1 = n - 1 by omega] at a2
  rw [show n - 1 + 1 = n by omega] at a3
  rw [h1, Nat.mul_zero, Nat.add_zero] at a4
  rw [a2, a3, a4] at a1
  generalize (S.getD n 0).toNat = p at *
  generalize (S.getD (n - 1) 0).toNat = q at *
  generalize (S.getD (n - 2) 0).toNat = r at *
  rw [a1, Nat.mul_comm (4294967296 ^ (n - 2)), Nat.add_comm (lw _)]
  congr 2
  omega
/-- The normalized divisor. -/
theorem norm_div {y n b t : Nat} (hn : n = (ld y).length) (h2 : 2 ≤ n) (hb : b ≤ 31) (ht : t = ((ld y).getD (n - 1) 0).toNat) (h31 : 2147483648 ≤ t * 2 ^ b) (h32 : t * 2 ^ b < 4294967296) :
    (ld (y * 2 ^ b)).length = n ∧ 2147483648 * 4294967296 ^ (n - 1) ≤ y * 2 ^ b ∧ y * 2 ^ b < 4294967296 ^ n := by
  have hl := lw_ld y
  have h1 := lw_at (ld y) (k := n - 1) (by omega)
  have h3 := lw_drop1 (l := ld y) (j := n - 1) (by omega)
  rw [show n - 1 + 1 = n by omega, List.drop_eq_nil_of_le (show (ld y).length ≤ n by omega), lw_nil, ← ht, Nat.mul_zero, Nat.add_zero] at h3
  rw [hl, h3] at h1
  have h4 := lw_take_lt (ld y) (n - 1)
  have hpow : 4294967296 ^ n = 4294967296 ^ (n - 1) * 4294967296 := by rw [← Nat.pow_succ]; congr 1; omega
  generalize lw ((ld y).take (n - 1)) = r at h1 h4
  obtain ⟨E, hEd⟩ : ∃ E, E = 4294967296 ^ (n - 1) := ⟨_, rfl⟩
  rw [← hEd] at h1 h4 hpow ⊢
  have hlow : 2147483648 * E ≤ y * 2 ^ b := by
    have : E * t * 2 ^ b ≤ y * 2 ^ b := Nat.mul_le_mul_right _ (by omega)
    have e1 : E * t * 2 ^ b = t * 2 ^ b * E := by rw [Nat.mul_assoc, Nat.mul_comm]
    have e2 : 2147483648 * E ≤ t * 2 ^ b * E := Nat.mul_le_mul_right _ h31
    omega
  have hhigh : y * 2 ^ b < 4294967296 ^ n := by
    have hp : 0 < 2 ^ b := Nat.pow_pos (by omega)
    have hd : 4294967296 = 2 ^ (32 - b) * 2 ^ b := by rw [← Nat.pow_add, show 32 - b + b = 32 by omega]
    have ht2 : t < 2 ^ (32 - b) := by
      rw [hd] at h32
      exact Nat.lt_of_mul_lt_mul_right h32
    have e1 : (t + 1) * 2 ^ b ≤ 4294967296 := by
      rw [hd]
      exact Nat.mul_le_mul_right _ ht2
    have e2 : y * 2 ^ b < (E * (t + 1)) * 2 ^ b := by
      refine Nat.mul_lt_mul_of_pos_right ?_ hp
      rw [Nat.mul_add, Nat.mul_one]
      omega
    have e3 : (E * (t + 1)) * 2 ^ b = E * ((t + 1) * 2 ^ b) := Nat.mul_assoc _ _ _
    have e4 : E * ((t + 1) * 2 ^ b) ≤ E * 4294967296 := Nat.mul_le_mul_left _ e1
    rw [hpow]
    exact Nat.lt_of_lt_of_le e2 (Nat.le_trans (Nat.le_of_eq e3) e4)
  refine ⟨?_, hlow, hhigh⟩
  have u1 := ld_len hhigh
  have hE : 0 < 2147483648 := by omega
  have u2 : n - 1 < (ld (y * 2 ^ b)).length := by
    refine le_ld_len ?_
    rw [← hEd]
    omega
  omega
/-- The rest with the digits at a place written anew. -/
def rp (R : List UInt32) (j n m : Nat) : List UInt32 := R.take j ++ ((ld m ++ List.replicate (n + 1 - (ld m).length) 0) ++ R.drop (j + (n + 1)))
theorem rp_len {R : List UInt32} {j n m : Nat} (h : j + n + 1 ≤ R.length) (hm : (ld m).length ≤ n + 1) : (rp R j n m).length = R.length := by
  unfold rp
  simp only [List.length_append, List.length_take, List.length_drop, List.length_replicate]
  omega
theorem rp_lw {R : List UInt32} {j n m P : Nat} (h : j + n + 1 ≤ R.length) (hm : (ld m).length ≤ n + 1) (hP : lw (R.drop j) = P) (hz : lw (R.drop (j + (n + 1))) = 0) : lw (rp R j n m) = lw (R.take j) + 4294967296 ^ j * m := by
  unfold rp
  have e : (R.take j).length = j := by rw [List.length_take]; omega
  rw [lw_append, e, lw_append, hz, lw_append, lw_ld, zeros_lw]
  simp
/-- One digit of the quotient. -/
theorem digit_step {R Q : List UInt32} {V X j n g : Nat} (hR : j + n + 1 ≤ R.length) (hX : V * 4294967296 ^ (j + 1) * lw (Q.drop (j + 1)) + lw R = X) (hP : lw (R.drop j) < V * 4294967296) (hV0 : 0 < V) (hVn : V ≤ 4294967296 ^ n) (hV2 : (ld V).length ≤ n) (hz : lw (R.drop (j + (n + 1))) = 0)
    (hQ : j < Q.length) (hg : g = lw (R.drop j) / V) (hg2 : g < 4294967296) :
    V * 4294967296 ^ j * lw ((Q.set j (UInt32.ofNat g)).drop j) + lw (rp R j n (lw (R.drop j) % V)) = X ∧ lw (rp R j n (lw (R.drop j) % V)) < V * 4294967296 ^ j ∧ (ld (lw (R.drop j) % V)).length ≤ n := by
  have hmod : lw (R.drop j) % V < V := Nat.mod_lt _ hV0
  have hml : (ld (lw (R.drop j) % V)).length ≤ n := Nat.le_trans (ld_mono (Nat.le_of_lt hmod)) hV2
  have h1 := rp_lw (m := lw (R.drop j) % V) hR (by omega) rfl hz
  have h2 := lw_at R (k := j) (by omega)
  have h3 : lw ((Q.set j (UInt32.ofNat g)).drop j) = g + 4294967296 * lw (Q.drop (j + 1)) := by
    rw [List.drop_eq_getElem_cons (by rw [List.length_set]; exact hQ), lw_cons, List.getElem_set_self, List.drop_set_of_lt (by omega), u32n, Nat.mod_eq_of_lt hg2]
  have h4 := lw_take_lt R j
  have h5 := Nat.mod_add_div (lw (R.drop j)) V
  rw [← hg] at h5
  rw [h1, h3]
  generalize lw (R.drop j) % V = r at *
  generalize lw (R.drop j) = P at *
  generalize lw (R.take j) = T at *
  generalize lw (Q.drop (j + 1)) = q at *
  rw [Nat.pow_succ] at hX
  generalize 4294967296 ^ j = E at *
  refine ⟨?_, ?_, hml⟩
  · rw [← hX, h2, ← h5]
    have e1 : V * E * (g + 4294967296 * q) = V * E * g + V * E * (4294967296 * q) := Nat.mul_add _ _ _
    have e2 : V * (E * 4294967296) * q = V * E * (4294967296 * q) := by rw [← Nat.mul_assoc V E, Nat.mul_assoc (V * E)]
    have e3 : E * (r + V * g) = E * r + V * E * g := by rw [Nat.mul_add, ← Nat.mul_assoc, Nat.mul_comm E V]
    rw [e1, e2, e3]
    omega
  · have e1 : E * (r + 1) ≤ E * V := Nat.mul_le_mul_left _ hmod
    rw [Nat.mul_add, Nat.mul_comm E V] at e1
    omega
/-- A digit of the quotient that is 0. -/
theorem digit_zero {R Q : List UInt32} {V X j : Nat} (hR : j ≤ R.length) (hX : V * 4294967296 ^ (j + 1) * lw (Q.drop (j + 1)) + lw R = X) (hP : lw (R.drop j) < V) (hQ : Q.getD j 0 = 0) :
    V * 4294967296 ^ j * lw (Q.drop j) + lw R = X ∧ lw R < V * 4294967296 ^ j := by
  have h2 := lw_at R (k := j) hR
  have h4 := lw_take_lt R j
  have h3 : lw (Q.drop j) = 4294967296 * lw (Q.drop (j + 1)) := by
    rcases Nat.lt_or_ge j Q.length with h | h
    · rw [lw_drop1 h, hQ]
      simp
    · rw [List.drop_eq_nil_of_le h, List.drop_eq_nil_of_le (by omega : Q.length ≤ j + 1), lw_nil]
  rw [h3]
  generalize lw (R.drop j) = P at *
  generalize lw (R.take j) = T at *
  generalize lw (Q.drop (j + 1)) = q at *
  rw [Nat.pow_succ] at hX
  generalize 4294967296 ^ j = E at *
  constructor
  · rw [← hX]
    have e2 : V * (E * 4294967296) * q = V * E * (4294967296 * q) := by rw [← Nat.mul_assoc V E, Nat.mul_assoc (V * E)]
    rw [e2]
  · rw [h2]
    have e1 : E * (P + 1) ≤ E * V := Nat.mul_le_mul_left _ hP
    rw [Nat.mul_add, Nat.mul_comm E V] at e1
    omega
/-- What is above a place. -/
theorem above_lt {R : List UInt32} {V j : Nat} (hR : j + 1 ≤ R.length) (h : lw R < V * 4294967296 ^ (j + 1)) : lw (R.drop j) < V * 4294967296 := by
  have h2 := lw_at R (k := j) (by omega)
  rw [Nat.pow_succ] at h
  have hE : 0 < 4294967296 ^ j := Nat.pow_pos (by omega)
  generalize 4294967296 ^ j = E at *
  generalize lw (R.drop j) = P at *
  rcases Nat.lt_or_ge P (V * 4294967296) with h' | h'
  · exact h'
  · exfalso
    have e1 : E * (V * 4294967296) ≤ E * P := Nat.mul_le_mul_left _ h'
    have e2 : E * (V * 4294967296) = V * (E * 4294967296) := by rw [Nat.mul_left_comm]
    omega
theorem above_zero {R : List UInt32} {V j n : Nat} (hR : j + (n + 1) ≤ R.length) (hV : V ≤ 4294967296 ^ n) (h : lw (R.drop j) < V * 4294967296) : lw (R.drop (j + (n + 1))) = 0 := by
  have h0 := lw_at (R.drop j) (k := n + 1) (by rw [List.length_drop]; omega)
  rw [List.drop_drop] at h0
  rcases Nat.eq_zero_or_pos (lw (R.drop (j + (n + 1)))) with h1 | h1
  · exact h1
  · exfalso
    have h2 : 4294967296 ^ (n + 1) ≤ 4294967296 ^ (n + 1) * lw (R.drop (j + (n + 1))) := Nat.le_mul_of_pos_right _ h1
    have h3 : V * 4294967296 ≤ 4294967296 ^ n * 4294967296 := Nat.mul_le_mul_right _ hV
    rw [← Nat.pow_succ] at h3
    omega
/-- The result. -/
theorem div_end {x y b V X q r : Nat} (hV : V = y * 2 ^ b) (hX : X = x * 2 ^ b) (h : V * q + r = X) (hr : r < V) (hy : 0 < y) : q = x / y ∧ r / 2 ^ b = x % y := by
  have hp : 0 < 2 ^ b := Nat.pow_pos (by omega)
  have hq : q = X / V := by
    rw [← h]
    rw [Nat.mul_add_div (by omega), Nat.div_eq_of_lt hr, Nat.add_zero]
  have hr2 : r = X % V := by
    rw [← h, Nat.mul_add_mod, Nat.mod_eq_of_lt hr]
  constructor
  · rw [hq, hX, hV, Nat.mul_div_mul_right _ _ hp]
  · rw [hr2, hX, hV, Nat.mul_mod_mul_right, Nat.mul_div_cancel _ hp]
end Go.Proofs.YtglnabciomlmmaaDoor

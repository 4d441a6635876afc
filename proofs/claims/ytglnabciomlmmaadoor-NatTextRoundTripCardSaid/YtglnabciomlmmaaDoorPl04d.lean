/-
  Division digit by digit: a guess of a digit of the quotient.
-/
import Derived.Test.YtglnabciomlmmaaDoorPl04
namespace Go.Proofs.YtglnabciomlmmaaDoor
theorem guess_ge {B V P E vt vr top pr : Nat} (hV : V = vt * E + vr) (hP : P = top * E + pr) (hpr : pr < E) (hlt : P < V * B) (hvt : 0 < vt) : P / V ≤ min (top / vt) (B - 1) := by
  have hV0 : 0 < V := by
    have : 0 < E := by omega
    have := Nat.mul_pos hvt this
    omega
  have h1 : P / V < B := (Nat.div_lt_iff_lt_mul hV0).2 (by rw [Nat.mul_comm]; exact hlt)
  refine Nat.le_min.2 ⟨?_, by omega⟩
  rw [Nat.le_div_iff_mul_le hvt]
  have h2 : P / V * V ≤ P := Nat.div_mul_le_self P V
  have h3 : P / V * vt * E ≤ P := by
    refine Nat.le_trans ?_ h2
    rw [Nat.mul_assoc]
    exact Nat.mul_le_mul_left _ (by omega)
  rcases Nat.lt_or_ge top (P / V * vt) with hc | hc
  · exfalso
    have : (top + 1) * E ≤ P / V * vt * E := Nat.mul_le_mul_right _ hc
    rw [Nat.add_mul] at this
    omega
  · exact hc
/-- A guess that is too great by two words stays not too small when it goes down. -/
theorem guess_dec {B V P F vt v2 top p2 vr pr g left : Nat} (hV : V = (vt * B + v2) * F + vr) (hP : P = (top * B + p2) * F + pr) (hpr : pr < F) (hg : P / V ≤ g) (hl : left + g * vt = top) (hgt : left * B + p2 < g * v2) : P / V ≤ g - 1 := by
  rcases Nat.lt_or_ge (P / V) g with h | h
  · omega
  · exfalso
    have he : P / V = g := by omega
    have h2 : P / V * V ≤ P := Nat.div_mul_le_self P V
    rw [he, hV] at h2
    have h3 : g * ((vt * B + v2) * F) ≤ P := Nat.le_trans (Nat.mul_le_mul_left _ (by omega)) h2
    rw [← Nat.mul_assoc] at h3
    have h4 : top * B + p2 + 1 ≤ g * (vt * B + v2) := by
      rw [← hl, Nat.add_mul, Nat.mul_add, Nat.mul_assoc g vt B]
      omega
    have h5 : (top * B + p2 + 1) * F ≤ g * (vt * B + v2) * F := Nat.mul_le_mul_right _ h4
    rw [Nat.add_mul] at h5
    omega
theorem guess_eq {V P g : Nat} (hV : 0 < V) (hg : P / V ≤ g) (hle : V * g ≤ P) : g = P / V := by
  have : g ≤ P / V := (Nat.le_div_iff_mul_le hV).2 (by rw [Nat.mul_comm]; exact hle)
  omega
theorem guess_less {V P g : Nat} (hV : 0 < V) (hg : P / V ≤ g) (hlt : P < V * g) : P / V ≤ g - 1 ∧ V * g = V * (g - 1) + V ∧ 0 < g := by
  have : P / V < g := (Nat.div_lt_iff_lt_mul hV).2 (by rw [Nat.mul_comm]; exact hlt)
  generalize P / V = q at *
  refine ⟨by omega, ?_, by omega⟩
  obtain ⟨k, rfl⟩ : ∃ k, g = k + 1 := ⟨g - 1, by omega⟩
  rw [Nat.add_sub_cancel, Nat.mul_add]
  omega
end Go.Proofs.YtglnabciomlmmaaDoor

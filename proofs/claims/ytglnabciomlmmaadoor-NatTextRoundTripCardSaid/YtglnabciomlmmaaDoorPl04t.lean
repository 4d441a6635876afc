/-
  Decimal digits, in plain Lean.
-/
import Derived.Test.YtglnabciomlmmaaDoorPl04
namespace Go.Proofs.YtglnabciomlmmaaDoor

/-- The decimal digits of a number, the lowest first; its text; the number that digits stand for. -/
def txd (n : Nat) : List UInt8 := (dg 10 n).map fun d => UInt8.ofNat (48 + d)
def txt (n : Nat) : List UInt8 := if n = 0 then [48] else (txd n).reverse
def dval (s : List UInt8) : Nat := s.foldl (fun x c => 10 * x + (c.toNat - 48)) 0
def isd (s : List UInt8) : Bool := s.all fun c => decide (48 ≤ c.toNat ∧ c.toNat ≤ 57)
/-- Whether a string is a number's text. -/
def pok (s : List UInt8) : Bool := !(s.isEmpty || (s.getD 0 0).toNat == 48 && s != [48]) && isd s

theorem dg_cons {B n : Nat} (hB : 1 < B) (hn : 0 < n) : dg B n = n % B :: dg B (n / B) := by
  have h1 : lvN B (n % B :: dg B (n / B)) = n := by
    show n % B + B * lvN B (dg B (n / B)) = n
    rw [dg_lv hB]
    exact Nat.mod_add_div n B
  have h2 := dg_of hB (l := n % B :: dg B (n / B)) (by
    intro d hd
    rcases List.mem_cons.1 hd with h | h
    · rw [h]; exact Nat.mod_lt _ (by omega)
    · exact dg_digits hB h) (by
    intro d hd
    rcases Nat.eq_zero_or_pos (n / B) with h0 | h0
    · rw [h0, dg_zero, List.getLast?_singleton] at hd
      injection hd with hd
      have := Nat.mod_add_div n B
      rw [h0] at this
      omega
    · have hne : dg B (n / B) ≠ [] := fun h => by rw [dg_nil hB] at h; omega
      rw [List.getLast?_cons_of_ne_nil hne] at hd
      exact dg_top hB _ d hd)
  rw [h1] at h2
  exact h2
theorem txd_zero : txd 0 = [] := rfl
theorem txd_step {n : Nat} (hn : 0 < n) : txd n = UInt8.ofNat (48 + n % 10) :: txd (n / 10) := by
  unfold txd
  rw [dg_cons (by omega) hn, List.map_cons]
theorem txd_nil {n : Nat} : txd n = [] ↔ n = 0 := by
  unfold txd
  rw [List.map_eq_nil_iff, dg_nil (by omega)]
theorem txd_len {n k : Nat} (h : n < 10 ^ k) : (txd n).length ≤ k := by
  unfold txd
  rw [List.length_map]
  exact dg_len (by omega) h
theorem txd_of_bytes {n k : Nat} (h : n < 256 ^ k) : (txd n).length ≤ 3 * k := by
  refine txd_len (Nat.lt_of_lt_of_le h ?_)
  rw [Nat.pow_mul]
  exact Nat.pow_le_pow_left (by decide) k
theorem dval_nil : dval [] = 0 := rfl
theorem dval_snoc (l : List UInt8) (c : UInt8) : dval (l ++ [c]) = 10 * dval l + (c.toNat - 48) := by
  unfold dval
  rw [List.foldl_append]
  rfl
theorem isd_nil : isd [] = true := rfl
theorem isd_snoc (l : List UInt8) (c : UInt8) : isd (l ++ [c]) = (isd l && decide (48 ≤ c.toNat ∧ c.toNat ≤ 57)) := by
  unfold isd
  rw [List.all_append]
  simp
theorem isd_take {l : List UInt8} (k : Nat) (h : isd l = true) : isd (l.take k) = true := by
  unfold isd at *
  rw [List.all_eq_true] at *
  intro x hx
  exact h x (List.mem_of_mem_take hx)
theorem dval_lt_from : ∀ (l : List UInt8) (x : Nat), isd l = true → l.foldl (fun x c => 10 * x + (c.toNat - 48)) x < (x + 1) * 10 ^ l.length
  | [], x, _ => by simp
  | c :: l, x, h => by
    unfold isd at h
    rw [List.all_cons, Bool.and_eq_true, decide_eq_true_eq] at h
    have h1 := dval_lt_from l (10 * x + (c.toNat - 48)) h.2
    have h2 : 10 * x + (c.toNat - 48) + 1 ≤ (x + 1) * 10 := by omega
    have h3 := Nat.mul_le_mul_right (10 ^ l.length) h2
    rw [List.foldl_cons, List.length_cons, Nat.pow_succ, Nat.mul_comm (10 ^ l.length) 10, ← Nat.mul_assoc]
    exact Nat.lt_of_lt_of_le h1 h3
theorem dval_lt (l : List UInt8) (h : isd l = true) : dval l < 10 ^ l.length := by
  have := dval_lt_from l 0 h
  rwa [Nat.zero_add, Nat.one_mul] at this
theorem dval_take_succ (l : List UInt8) {k : Nat} (h : k < l.length) : dval (l.take (k + 1)) = 10 * dval (l.take k) + ((l.getD k 0).toNat - 48) := by
  have : l.take (k + 1) = l.take k ++ [l.getD k 0] := by
    rw [← List.take_append_getElem h]
    simp [List.getD, h]
  rw [this, dval_snoc]
theorem isd_take_succ (l : List UInt8) {k : Nat} (h : k < l.length) : isd (l.take (k + 1)) = (isd (l.take k) && decide (48 ≤ (l.getD k 0).toNat ∧ (l.getD k 0).toNat ≤ 57)) := by
  have : l.take (k + 1) = l.take k ++ [l.getD k 0] := by
    rw [← List.take_append_getElem h]
    simp [List.getD, h]
  rw [this, isd_snoc]
theorem dval_ld {l : List UInt8} (h : isd l = true) : (ld (dval l)).length ≤ l.length := by
  refine ld_len (Nat.lt_of_lt_of_le (dval_lt l h) ?_)
  exact Nat.pow_le_pow_left (by decide) _
end Go.Proofs.YtglnabciomlmmaaDoor

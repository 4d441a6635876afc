/-
  Rational numbers as triples of a sign and two strings, in plain Lean.
-/
import Derived.Test.YtcpedbpldgndmaaDoorMC
import Derived.Test.YtcpedbpldgndmaaDoorME
set_option linter.unusedSimpArgs false
set_option linter.unusedVariables false
namespace Go.Proofs.YtcpedbpldgndmaaDoor
def sg (neg : Bool) (p : Nat) : Int := if neg then -(p : Int) else (p : Int)
theorem sg_abs (neg : Bool) (p : Nat) : (sg neg p).natAbs = p := by cases neg <;> simp [sg]
theorem sg_neg (neg : Bool) {p : Nat} (h : 0 < p) : decide (sg neg p < 0) = neg := by
 cases neg
 ·simp [sg]
 ·simp [sg]; omega
theorem sg_zero (neg : Bool) {p : Nat} : sg neg p = 0 ↔ p = 0 := by cases neg <;> simp [sg]
theorem low_num (neg : Bool) (p : Nat) {d : Nat} (hd : 0 < d) : (mkRat (sg neg p) d).num = sg neg (p / Nat.gcd p d) := by
 rw [Rat.num_mkRat, if_neg (by omega), sg_abs, Nat.gcd_comm]
 cases neg
 ·simp [sg]
 ·simp only [sg, if_true]
  rw [Int.neg_ediv_of_dvd (Int.natCast_dvd_natCast.2 (Nat.gcd_dvd_left p d))]
  simp
theorem low_den (neg : Bool) (p : Nat) {d : Nat} (hd : 0 < d) : (mkRat (sg neg p) d).den = d / Nat.gcd p d := by
 rw [Rat.den_mkRat, if_neg (by omega), sg_abs, Nat.gcd_comm]
theorem gcd_div_pos {p d : Nat} (hp : 0 < p) : 0 < p / Nat.gcd p d := Nat.div_pos (Nat.le_of_dvd hp (Nat.gcd_dvd_left p d)) (Nat.gcd_pos_of_pos_left d hp)
theorem sg_mul (m n : Bool) (p q : Nat) : sg m p * sg n q = sg (m != n) (p * q) := by
 cases m <;> cases n <;> simp [sg, Int.neg_mul, Int.mul_neg]
theorem sg_add_same (m : Bool) (p q : Nat) : sg m p + sg m q = sg m (p + q) := by
 cases m <;> simp [sg]; omega
theorem sg_add_ge {m n : Bool} (h : m ≠ n) {p q : Nat} (hq : q ≤ p) : sg m p + sg n q = sg m (p - q) := by
 cases m <;> cases n <;> simp [sg] at * <;> omega
theorem sg_add_lt {m n : Bool} (h : m ≠ n) {p q : Nat} (hq : p < q) : sg m p + sg n q = sg n (q - p) := by
 cases m <;> cases n <;> simp [sg] at * <;> omega
theorem sg_not (m : Bool) (p : Nat) : sg (!m) p = - sg m p := by cases m <;> simp [sg]
theorem add_fr (m n : Bool) (p q : Nat) {d e : Nat} (hd : 0 < d) (he : 0 < e) : mkRat (sg m p) d + mkRat (sg n q) e = mkRat (sg m (p * e) + sg n (q * d)) (d * e) := by
 rw [Rat.mkRat_add_mkRat _ _ (by omega) (by omega)]
 have h1 : sg m p * (e : Int) = sg m (p * e) := by cases m <;> simp [sg, Int.neg_mul]
 have h2 : sg n q * (d : Int) = sg n (q * d) := by cases n <;> simp [sg, Int.neg_mul]
 rw [h1, h2]
theorem mul_fr (m n : Bool) (p q d e : Nat) : mkRat (sg m p) d * mkRat (sg n q) e = mkRat (sg (m != n) (p * q)) (d * e) := by
 rw [Rat.mkRat_mul_mkRat, sg_mul]
theorem neg_fr (m : Bool) (p d : Nat) : - mkRat (sg m p) d = mkRat (sg (!m) p) d := by rw [Rat.neg_mkRat, sg_not]
theorem inv_fr (m : Bool) {p d : Nat} (hp : 0 < p) (hd : 0 < d) : (mkRat (sg m p) d)⁻¹ = mkRat (sg m d) p := by
 have h0 : mkRat (sg m p) d ≠ 0 := by
  intro h;rw [Rat.mkRat_eq_zero (by omega), sg_zero] at h
  omega
 have h1 : mkRat (sg m d) p * mkRat (sg m p) d = 1 := by
  rw [mul_fr, show (m != m) = false by cases m <;> rfl]
  show mkRat ((d * p : Nat) : Int) (p * d) = 1
  rw [Nat.mul_comm p d];have : (d * p) ≠ 0 := Nat.mul_ne_zero (by omega) (by omega);have h9 : mkRat ((d * p : Nat) : Int) (d * p) = mkRat 1 1 := (Rat.mkRat_eq_iff this (by decide)).2 (by simp);rw [h9]
  rfl
 have h2 := congrArg (· * (mkRat (sg m p) d)⁻¹) h1;simp only [Rat.mul_assoc, Rat.mul_inv_cancel _ h0, Rat.mul_one, Rat.one_mul] at h2;exact h2.symm
/-- A number's three parts. -/
def rN (x : Rat) : Bool := decide (x.num < 0)
def rP (x : Rat) : List UInt8 := be x.num.natAbs
def rD (x : Rat) : List UInt8 := if x.num = 0 then [] else be x.den
/-- Whether three parts are a number; and the number (0 if they are none). -/
def vd (n : Bool) (p q : List UInt8) : Bool := if p = [] ∨ q = [] then (!n && p == [] && q == []) else (cn p && cn q && Nat.gcd (val p) (val q) == 1)
def rq (n : Bool) (p q : List UInt8) : Rat := if vd n p q = true then mkRat (sg n (val p)) (val q) else 0
theorem be_one : be 1 = [1] := (by rw [show (1 : Nat) = val [1] from rfl]; exact be_of (by decide))
theorem cn_val {p : List UInt8} (h : cn p = true) : be (val p) = p := by
 unfold cn at h
 exact beq_iff_eq.1 h
theorem cn_be9 (x : Nat) : cn (be x) = true := by
 unfold cn
 rw [val_be];exact beq_self_eq_true _
theorem num_sg (x : Rat) : x.num = sg (rN x) x.num.natAbs := by
 unfold rN sg
 by_cases h : x.num < 0
 ·rw [decide_eq_true h, if_pos rfl]
  omega
 ·rw [decide_eq_false h, if_neg (by decide)]
  omega
theorem rb_mk (x : Rat) : mkRat (sg (rN x) x.num.natAbs) x.den = x := by
 rw [← num_sg];exact Rat.mkRat_self x
theorem vd_zero : vd false [] [] = true := by decide
theorem rq_zero : rq false [] [] = 0 := by
 unfold rq
 rw [if_pos vd_zero]
 rfl
theorem vd_rb (x : Rat) : vd (rN x) (rP x) (rD x) = true := by
 unfold vd rN rP rD
 by_cases h : x.num = 0
 ·rw [h]
  rfl
 ·have h1 : be x.num.natAbs ≠ [] := fun h1 => h (by rw [be_nil] at h1; omega)
  have h2 : be x.den ≠ [] := fun h1 => x.den_nz (by rw [be_nil] at h1; exact h1)
  rw [if_neg h, if_neg (by rintro (h3 | h3); exact h1 h3; exact h2 h3), cn_be9, cn_be9, val_be, val_be];have := x.reduced
  unfold Nat.Coprime at this
  rw [this]
  rfl
theorem rq_rb (x : Rat) : rq (rN x) (rP x) (rD x) = x := by
 unfold rq
 rw [if_pos (vd_rb x)]
 unfold rP rD
 by_cases h : x.num = 0
 ·rw [if_pos h, h]
  have : x = 0 := by
   have := Rat.mkRat_self x;rw [h] at this;rw [← this]
   simp
  rw [this]
  rfl
 ·rw [if_neg h, val_be, val_be]
  exact rb_mk x
theorem vd_eq {n : Bool} {p q : List UInt8} (h : vd n p q = true) : rN (rq n p q) = n ∧ rP (rq n p q) = p ∧ rD (rq n p q) = q ∧ (p ≠ [] → be (rq n p q).den = q) := by
 unfold rq
 rw [if_pos h]
 unfold vd at h
 split at h
 ·rename_i h1
  simp only [Bool.and_eq_true, Bool.not_eq_true', beq_iff_eq] at h;obtain ⟨⟨rfl, rfl⟩, rfl⟩ := h;exact ⟨rfl, rfl, rfl, fun h => absurd rfl h⟩
 ·rename_i h1
  simp only [Bool.and_eq_true, beq_iff_eq] at h;obtain ⟨⟨hp, hq⟩, hg⟩ := h
  have hp0 : p ≠ [] := fun h => h1 (.inl h)
  have hq0 : q ≠ [] := fun h => h1 (.inr h)
  have vp : 0 < val p := Nat.pos_of_ne_zero fun h => hp0 (by rw [← cn_val hp, h]; rfl)
  have vq : 0 < val q := Nat.pos_of_ne_zero fun h => hq0 (by rw [← cn_val hq, h]; rfl)
  have e1 := low_num n (val p) vq;have e2 := low_den n (val p) vq;rw [hg, Nat.div_one] at e1 e2
  have hne : (mkRat (sg n (val p)) (val q)).num ≠ 0 := by rw [e1, ne_eq, sg_zero]; omega
  unfold rN rP rD
  rw [if_neg hne, e1, e2, sg_neg n vp, sg_abs, cn_val hp, cn_val hq];exact ⟨rfl, rfl, rfl, fun _ => rfl⟩
theorem vd_not {n : Bool} {p q : List UInt8} (h : vd n p q = false) : rq n p q = 0 := by
 unfold rq
 rw [if_neg (by rw [h]; exact Bool.false_ne_true)]
theorem rb_inj {x y : Rat} (h1 : rN x = rN y) (h2 : rP x = rP y) (h3 : rD x = rD y) : x = y := by
 rw [← rq_rb x, ← rq_rb y, h1, h2, h3]
/-- A fraction in lowest terms. -/
theorem low_parts (n : Bool) {p d : Nat} (hp : 0 < p) (hd : 0 < d) : rN (mkRat (sg n p) d) = n ∧ rP (mkRat (sg n p) d) = be (p / Nat.gcd p d) ∧ rD (mkRat (sg n p) d) = be (d / Nat.gcd p d) := by
 have hg := gcd_div_pos (d := d) hp
 have hne : (mkRat (sg n p) d).num ≠ 0 := by rw [low_num n p hd, ne_eq, sg_zero]; omega
 unfold rN rP rD
 rw [if_neg hne, low_num n p hd, low_den n p hd, sg_neg n hg, sg_abs];exact ⟨rfl, rfl, rfl⟩
theorem low_zero (n : Bool) (d : Nat) : mkRat (sg n 0) d = 0 := by
 cases n <;> simp [sg]
theorem parts_zero : rN 0 = false ∧ rP 0 = [] ∧ rD 0 = [] := ⟨rfl, rfl, rfl⟩
end Go.Proofs.YtcpedbpldgndmaaDoor

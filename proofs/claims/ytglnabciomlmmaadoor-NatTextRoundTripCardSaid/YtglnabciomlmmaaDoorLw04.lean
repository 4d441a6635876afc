/-
  Words for the laws of numbers.
-/
import Derived.Test.YtglnabciomlmmaaDoorS04
namespace Go.Proofs.YtglnabciomlmmaaDoor
open Go.RowKit

theorem be_addL {x y m n : Nat} (hx : (be x).length ≤ m) (hy : (be y).length ≤ n) : (be (x + y)).length ≤ max m n + 1 := by
  refine be_len ?_
  have h1 := Nat.lt_of_lt_of_le (lt_be_len x) (Nat.pow_le_pow_right (n := 256) (by omega) (Nat.le_trans hx (Nat.le_max_left m n)))
  have h2 := Nat.lt_of_lt_of_le (lt_be_len y) (Nat.pow_le_pow_right (n := 256) (by omega) (Nat.le_trans hy (Nat.le_max_right m n)))
  rw [Nat.pow_succ]
  omega
theorem be_mulL {x y m n : Nat} (hx : (be x).length ≤ m) (hy : (be y).length ≤ n) : (be (x * y)).length ≤ m + n := by
  refine be_len ?_
  have h1 := Nat.lt_of_lt_of_le (lt_be_len x) (Nat.pow_le_pow_right (n := 256) (by omega) hx)
  have h2 := Nat.lt_of_lt_of_le (lt_be_len y) (Nat.pow_le_pow_right (n := 256) (by omega) hy)
  rw [Nat.pow_add]
  exact Nat.mul_lt_mul'' h1 h2
theorem be_leL {x y n : Nat} (h : x ≤ y) (hy : (be y).length ≤ n) : (be x).length ≤ n := Nat.le_trans (be_mono h) hy
theorem be_valL {a : List UInt8} {n : Nat} (h : a.length ≤ n) : (be (val a)).length ≤ n := Nat.le_trans (be_val_len a) h
theorem be_litL {k n : Nat} (h : k < 256 ^ n) : (be k).length ≤ n := be_len h
/-- A difference, or none. -/
def subS (x y : Nat) : List UInt8 := if x < y then [] else be (x - y)
def subE (x y : Nat) : Int := if x < y then 3 else 0
theorem subS_ge {x y : Nat} (h : y ≤ x) : subS x y = be (x - y) := by unfold subS; rw [if_neg (by omega)]
theorem subE_ge {x y : Nat} (h : y ≤ x) : subE x y = 0 := by unfold subE; rw [if_neg (by omega)]
theorem subS_lt {x y : Nat} (h : x < y) : subS x y = [] := by unfold subS; rw [if_pos h]
theorem subE_lt {x y : Nat} (h : x < y) : subE x y = 3 := by unfold subE; rw [if_pos h]
/-- A quotient and a remainder, or none. -/
def dvQ (x y : Nat) : List UInt8 := if y = 0 then [] else be (x / y)
def dvR (x y : Nat) : List UInt8 := if y = 0 then [] else be (x % y)
def dvE (x y : Nat) : Int := if y = 0 then 1 else 0
theorem dvQ_p {x y : Nat} (h : 0 < y) : dvQ x y = be (x / y) := by unfold dvQ; rw [if_neg (by omega)]
theorem dvR_p {x y : Nat} (h : 0 < y) : dvR x y = be (x % y) := by unfold dvR; rw [if_neg (by omega)]
theorem dvE_p {x y : Nat} (h : 0 < y) : dvE x y = 0 := by unfold dvE; rw [if_neg (by omega)]
def intS (n : Int) : List UInt8 := if n < 0 then [] else be n.toNat
def intE (n : Int) : Int := if n < 0 then 3 else 0
def valN (x : Nat) : Int := if x < 9223372036854775808 then x else 0
def valE (x : Nat) : Int := if x < 9223372036854775808 then 0 else 3
def parS (s : List UInt8) : List UInt8 := if pok s = true then be (dval s) else []
def parE (s : List UInt8) : Int := if pok s = true then 0 else 27
theorem parV_eq (s : List UInt8) : parV s = .tuple #[.string ⟨(parS s).toArray⟩, .int .i64 (parE s)] := by unfold parV parS parE; split <;> rfl
theorem rparV_eq (s : List UInt8) : rparV s = .agg #[.string ⟨(parS s).toArray⟩, .int .i64 (parE s)] := by unfold rparV parS parE; split <;> rfl
section
variable (a b : List UInt8) (w : World)
theorem nsubA (ha : a.length ≤ 4194300) (hb0 : b.length ≤ 4194300) : Calls Tryd.prog 10 #[.string ⟨a.toArray⟩, .string ⟨b.toArray⟩] w fun e w' => e = .returned (.tuple #[.string ⟨(subS (val a) (val b)).toArray⟩, .int .i64 (subE (val a) (val b))]) ∧ Since w w' := by
  rcases Nat.lt_or_ge (val a) (val b) with h | h
  · rw [subS_lt h, subE_lt h]
    exact nsubE a b w (by omega) (by omega) h
  · rw [subS_ge h, subE_ge h]
    exact nsubC a b w (by omega) (by omega) h
theorem rsubA (ha : a.length ≤ 4194300) (hb0 : b.length ≤ 4194300) : Calls Tryd.prog 12 #[.string ⟨a.toArray⟩, .string ⟨b.toArray⟩] w fun e w' => e = .returned (.agg #[.string ⟨(subS (val a) (val b)).toArray⟩, .int .i64 (subE (val a) (val b))]) ∧ Since w w' := by
  rcases Nat.lt_or_ge (val a) (val b) with h | h
  · rw [subS_lt h, subE_lt h]
    exact rsubE a b w (by omega) (by omega) h
  · rw [subS_ge h, subE_ge h]
    exact rsubC a b w (by omega) (by omega) h
theorem ndivA (ha : a.length ≤ 4194300) (hb0 : b.length ≤ 4194300) : Calls Tryd.prog 11 #[.string ⟨a.toArray⟩, .string ⟨b.toArray⟩] w fun e w' => e = .returned (.tuple #[.string ⟨(dvQ (val a) (val b)).toArray⟩, .string ⟨(dvR (val a) (val b)).toArray⟩, .int .i64 (dvE (val a) (val b))]) ∧ Since w w' := by
  rcases Nat.eq_zero_or_pos (val b) with h | h
  · unfold dvQ dvR dvE
    rw [if_pos h, if_pos h, if_pos h]
    exact ndivE a b w (by omega) (by omega) h
  · rw [dvQ_p h, dvR_p h, dvE_p h]
    exact ndivC a b w (by omega) (by omega) h
theorem rdivA (ha : a.length ≤ 4194300) (hb0 : b.length ≤ 4194300) : Calls Tryd.prog 13 #[.string ⟨a.toArray⟩, .string ⟨b.toArray⟩] w fun e w' => e = .returned (.agg #[.string ⟨(dvQ (val a) (val b)).toArray⟩, .string ⟨(dvR (val a) (val b)).toArray⟩, .int .i64 (dvE (val a) (val b))]) ∧ Since w w' := by
  rcases Nat.eq_zero_or_pos (val b) with h | h
  · unfold dvQ dvR dvE
    rw [if_pos h, if_pos h, if_pos h]
    exact rdivE a b w (by omega) (by omega) h
  · rw [dvQ_p h, dvR_p h, dvE_p h]
    exact rdivC a b w (by omega) (by omega) h
theorem nintA (n : Int) (h2 : n < 9223372036854775808) : Calls Tryd.prog 26 #[.int .i64 n] w fun e w' => e = .returned (.tuple #[.string ⟨(intS n).toArray⟩, .int .i64 (intE n)]) ∧ Since w w' := by
  unfold intS intE
  by_cases h : n < 0
  · rw [if_pos h, if_pos h]
    exact nintE n w h
  · rw [if_neg h, if_neg h]
    have := nintC n.toNat w (by omega)
    rw [show ((n.toNat : Nat) : Int) = n by omega] at this
    exact this
theorem rintA (n : Int) (h2 : n < 9223372036854775808) : Calls Tryd.prog 29 #[.int .i64 n] w fun e w' => e = .returned (.agg #[.string ⟨(intS n).toArray⟩, .int .i64 (intE n)]) ∧ Since w w' := by
  unfold intS intE
  by_cases h : n < 0
  · rw [if_pos h, if_pos h]
    exact rintE n w h
  · rw [if_neg h, if_neg h]
    have := rintC n.toNat w (by omega)
    rw [show ((n.toNat : Nat) : Int) = n by omega] at this
    exact this
theorem nvalA (ha : a.length ≤ 4194300) : Calls Tryd.prog 27 #[.string ⟨a.toArray⟩] w fun e w' => e = .returned (.tuple #[.int .i64 (valN (val a)), .int .i64 (valE (val a))]) ∧ Since w w' := by
  unfold valN valE
  by_cases h : val a < 9223372036854775808
  · rw [if_pos h, if_pos h]
    exact nvalC a w (by omega) h
  · rw [if_neg h, if_neg h]
    exact nvalE a w (by omega) (by omega)
theorem rvalA (ha : a.length ≤ 4194300) : Calls Tryd.prog 30 #[.string ⟨a.toArray⟩] w fun e w' => e = .returned (.agg #[.int .i64 (valN (val a)), .int .i64 (valE (val a))]) ∧ Since w w' := by
  unfold valN valE
  by_cases h : val a < 9223372036854775808
  · rw [if_pos h, if_pos h]
    exact rvalueC a w (by omega) h
  · rw [if_neg h, if_neg h]
    exact rvalE a w (by omega) (by omega)
end
theorem load_err (b k : Nat) (X : World) (v : Value) (h : X.cell? ⟨b, k, none⟩ = some v) : (loadVar 23 ⟨b, k, none⟩).run Tryd.prog X = .ok v X := by
  go_simp
end Go.Proofs.YtglnabciomlmmaaDoor

/-
  Order, rounding and texts of rational numbers, in plain Lean.
-/
import Derived.Test.YtchhlgcakjjncaaDoorPl05
set_option linter.unusedSimpArgs false
set_option linter.unusedVariables false
namespace Go.Proofs.YtchhlgcakjjncaaDoor

/-- -1, 0, 1. -/
def cmpR (x y : Rat) : Int := if x = y then 0 else if x < y then -1 else 1
theorem mk_neg (m : Bool) {p d : Nat} (hp : 0 < p) (hd : 0 < d) : mkRat (sg m p) d < 0 ↔ m = true := by
  rw [Rat.lt_iff, low_num m p hd]
  have hg := gcd_div_pos (d := d) hp
  have h0 : (0 : Rat).num = 0 := rfl
  have h1 : (0 : Rat).den = 1 := rfl
  rw [h0, h1]
  generalize p / Nat.gcd p d = q at hg
  cases m
  · simp [sg]
  · simp [sg]; omega
theorem sub_neg {x y : Rat} : x - y < 0 ↔ x < y := by
  rw [Rat.sub_eq_add_neg]
  constructor
  · intro h
    have := Rat.add_lt_add_right (c := y) |>.2 h
    rwa [Rat.add_assoc, Rat.neg_add_cancel, Rat.add_zero, Rat.zero_add] at this
  · intro h
    have := Rat.add_lt_add_right (c := -y) |>.2 h
    rwa [Rat.add_neg_cancel] at this
theorem sub_zero_iff {x y : Rat} : x - y = 0 ↔ x = y := by
  rw [Rat.sub_eq_add_neg]
  constructor
  · intro h
    have := congrArg (· + y) h
    simp only [Rat.add_assoc, Rat.neg_add_cancel, Rat.add_zero, Rat.zero_add] at this
    exact this
  · intro h
    rw [h, Rat.add_neg_cancel]
/-- The integer that is next below. -/
def flr (x : Rat) : Int := x.num / (x.den : Int)
theorem flr_pos {p d : Nat} : ((p : Int) / (d : Int)) = ((p / d : Nat) : Int) := (Int.natCast_ediv p d).symm
theorem flr_neg {p d : Nat} (hd : 0 < d) : (-(p : Int) / (d : Int)) = -((if p % d = 0 then p / d else p / d + 1 : Nat) : Int) := by
  rw [Int.neg_ediv]
  have hs : (d : Int).sign = 1 := Int.sign_eq_one_of_pos (by omega)
  by_cases h : p % d = 0
  · rw [if_pos h, if_pos (Int.natCast_dvd_natCast.2 (Nat.dvd_of_mod_eq_zero h)), flr_pos]
    omega
  · rw [if_neg h, if_neg (fun h1 => h (Nat.mod_eq_zero_of_dvd (Int.natCast_dvd_natCast.1 h1))), flr_pos, hs]
    omega
/-- The size of the integer next below, and its sign. -/
def flq (n : Bool) (p d : Nat) : Nat := if n = true ∧ ¬ p % d = 0 then p / d + 1 else p / d
theorem flr_eq (x : Rat) : flr x = sg (rN x) (flq (rN x) x.num.natAbs x.den) := by
  unfold flr flq
  have hd := Nat.pos_of_ne_zero x.den_nz
  conv => lhs; rw [num_sg x]
  generalize x.num.natAbs = p
  rcases rN x with _ | _
  · rw [if_neg (by simp)]
    exact flr_pos
  · unfold sg
    rw [if_pos rfl, if_pos rfl, flr_neg hd]
    by_cases h : p % x.den = 0
    · rw [if_pos h, if_neg (by simp [h])]
    · rw [if_neg h, if_pos ⟨rfl, h⟩]
/-- A number's text. -/
def rtx (x : Rat) : List UInt8 := (if rN x = true then [45] else []) ++ (txt x.num.natAbs ++ (if x.den = 1 then [] else 47 :: txt x.den))
end Go.Proofs.YtchhlgcakjjncaaDoor

/-
  Order, rounding and texts of rational numbers, in plain Lean.
-/
import Derived.Test.YtcpedbpldgndmaaDoorPl05
set_option linter.unusedSimpArgs false
set_option linter.unusedVariables false
namespace Go.Proofs.YtcpedbpldgndmaaDoor
/-- -1, 0, 1. -/
def cmpR (x y : Rat) : Int := if x = y then 0 else if x < y then -1 else 1
theorem mk_neg (m : Bool) {p d : Nat} (hp : 0 < p) (hd : 0 < d) : mkRat (sg m p) d < 0 ↔ m = true := by
 rw [Rat.lt_iff, low_num m p hd];have hg := gcd_div_pos (d := d) hp;have h0 : (0 : Rat).num = 0 := rfl;have h1 : (0 : Rat).den = 1 := rfl;rw [h0, h1];generalize p / Nat.gcd p d = q at hg
 cases m
 ·simp [sg]
 ·simp [sg]; omega
theorem sub_neg {x y : Rat} : x - y < 0 ↔ x < y := by
 rw [Rat.sub_eq_add_neg]
 constructor
 ·intro h
  have := Rat.add_lt_add_right (c := y) |>.2 h
  rwa [Rat.add_assoc, Rat.neg_add_cancel, Rat.add_zero, Rat.zero_add] at this
 ·intro h
  have := Rat.add_lt_add_right (c := -y) |>.2 h
  rwa [Rat.add_neg_cancel] at this
theorem sub_zero_iff {x y : Rat} : x - y = 0 ↔ x = y := by
 rw [Rat.sub_eq_add_neg]
 constructor
 ·intro h
  have := congrArg (· + y) h;simp only [Rat.add_assoc, Rat.neg_add_cancel, Rat.add_zero, Rat.zero_add] at this;exact this
 ·intro h
  rw [h, Rat.add_neg_cancel]
end Go.Proofs.YtcpedbpldgndmaaDoor

/-
  Package rat at the level of rational numbers.
-/
import Derived.Test.YtcpedbpldgndmaaGreatDoorQsu
set_option linter.unusedSimpArgs false
set_option linter.unusedVariables false
set_option maxRecDepth 100000
set_option maxHeartbeats 1600000
namespace Go.Proofs.YtcpedbpldgndmaaGreatDoor
open Go.RowKit
/-- Parts of at most so many bytes. -/
def tz (p q : List UInt8) (B : Nat) : Prop := p.length ≤ B ∧ q.length ≤ B
theorem tz.mono {p q : List UInt8} {B B' : Nat} (h : tz p q B) (hb : B ≤ B') : tz p q B' := ⟨Nat.le_trans h.1 hb, Nat.le_trans h.2 hb⟩
theorem tzR {x : Rat} {B : Nat} (h : szR x B) {B' : Nat} (hb : B ≤ B') : tz (rP x) (rD x) B' := ⟨Nat.le_trans h.rP hb, Nat.le_trans h.rD hb⟩
theorem szR_tz {n : Bool} {p q : List UInt8} {x : Rat} {B : Nat} (hx : rq n p q = x) (h : tz p q B) (h1 : 1 ≤ B := by omega) : szR x B := hx ▸ szR_of n p q h.1 h.2 h1
theorem szR_inv {x : Rat} {B : Nat} (hx : szR x B) : szR x⁻¹ B := by
 by_cases h : x = 0
 ·subst h
  rw [Rat.inv_zero];exact hx
 ·have hd := Nat.pos_of_ne_zero x.den_nz
  have hq : 0 < x.num.natAbs := Nat.pos_of_ne_zero fun h9 => h ((num_zero x).1 h9)
  have key := inv_fr (rN x) hq hd;rw [rb_mk] at key;rw [key];exact isF_sz (X := default) ⟨_, _, x.num.natAbs, rfl, hq, rfl, hx.2, hx.1⟩
theorem szR_div {x y : Rat} {B B' : Nat} (hx : szR x B) (hy : szR y B') : szR (x / y) (B + B') := by
 rw [Rat.div_def];exact szR_mul hx (szR_inv hy)
theorem szR_int {n : Int} (h : insB n = true) : szR (n : Rat) 7 := by
 have := insB_t h;refine ⟨?_, ?_⟩
 ·rw [Rat.num_intCast]
  exact be_len (by omega)
 ·rw [Rat.den_intCast, be_one]
  decide
theorem addG (n : Bool) (p q : List UInt8) (n' : Bool) (p' q' : List UInt8) {x : Rat} (hx : rq n p q = x) {y : Rat} (hy : rq n' p' q' = y) (w : World) (h : tz p q 1000000) (h' : tz p' q' 1000000) : Calls Tryz.prog 32 #[rtv n p q, rtv n' p' q'] w fun e w' => e = .returned (rbv (x + y)) ∧ Since w w' := by
 subst hx hy;exact addQ n p q n' p' q' w h.1 h.2 h'.1 h'.2
theorem mulG (n : Bool) (p q : List UInt8) (n' : Bool) (p' q' : List UInt8) {x : Rat} (hx : rq n p q = x) {y : Rat} (hy : rq n' p' q' = y) (w : World) (h : tz p q 1000000) (h' : tz p' q' 1000000) : Calls Tryz.prog 33 #[rtv n p q, rtv n' p' q'] w fun e w' => e = .returned (rbv (x * y)) ∧ Since w w' := by
 subst hx hy;exact mulQ n p q n' p' q' w h.1 h.2 h'.1 h'.2
theorem validG (n : Bool) (p q : List UInt8) (w : World) (h : tz p q 1000000) : Calls Tryz.prog 42 #[rtv n p q] w fun e w' => e = .returned (.bool (vd n p q)) ∧ Since w w' := rvalidQ n p q w (Nat.le_trans h.1 (by omega)) (Nat.le_trans h.2 (by omega))
end Go.Proofs.YtcpedbpldgndmaaGreatDoor

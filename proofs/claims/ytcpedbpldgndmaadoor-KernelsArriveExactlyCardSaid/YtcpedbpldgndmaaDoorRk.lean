/-
  Numbers of examples, slices of numbers.
-/
import Derived.Test.YtcpedbpldgndmaaDoorL5a
import Derived.Test.YtcpedbpldgndmaaDoorMI
import Derived.Test.YtcpedbpldgndmaaDoorQsu
set_option linter.unusedSimpArgs false
set_option linter.unusedVariables false
set_option maxRecDepth 100000
set_option maxHeartbeats 1600000
namespace Go.Proofs.YtcpedbpldgndmaaDoor
open Go.RowKit
/-- Parts of at most so many bytes. -/
def tz (p q : List UInt8) (B : Nat) : Prop := p.length ≤ B ∧ q.length ≤ B
theorem tz.mono {p q : List UInt8} {B B' : Nat} (h : tz p q B) (hb : B ≤ B') : tz p q B' := ⟨Nat.le_trans h.1 hb, Nat.le_trans h.2 hb⟩
theorem tz_nil {B : Nat} : tz [] [] B := ⟨Nat.zero_le _, Nat.zero_le _⟩
theorem tzR {x : Rat} {B : Nat} (h : szR x B) {B' : Nat} (hb : B ≤ B') : tz (rP x) (rD x) B' := ⟨Nat.le_trans h.rP hb, Nat.le_trans h.rD hb⟩
theorem szR_tz {n : Bool} {p q : List UInt8} {x : Rat} {B : Nat} (hx : rq n p q = x) (h : tz p q B) (h1 : 1 ≤ B := by omega) : szR x B := hx ▸ szR_of n p q h.1 h.2 h1
theorem szR_inv {x : Rat} {B : Nat} (hx : szR x B) : szR x⁻¹ B := by
 by_cases h : x = 0
 ·subst h
  rw [Rat.inv_zero];exact hx
 ·have hd := Nat.pos_of_ne_zero x.den_nz
  have hq : 0 < x.num.natAbs := Nat.pos_of_ne_zero fun h9 => h ((num_zero x).1 h9)
  have key := inv_fr (rN x) hq hd;rw [rb_mk] at key;rw [key];exact isF_sz (X := default) ⟨_, _, x.num.natAbs, rfl, hq, rfl, hx.2, hx.1⟩
theorem szR_div {x y : Rat} {B B' : Nat} (hx : szR x B) (hy : szR y B') : szR (x / y) (B + B') := by
 rw [Rat.div_def];exact szR_mul hx (szR_inv hy)
theorem szR_int {n : Int} (h : insB n = true) : szR (n : Rat) 7 := by
 have := insB_t h;refine ⟨?_, ?_⟩
 ·rw [Rat.num_intCast]
  exact be_len (by omega)
 ·rw [Rat.den_intCast, be_one]
  decide
theorem addG (n : Bool) (p q : List UInt8) (n' : Bool) (p' q' : List UInt8) {x : Rat} (hx : rq n p q = x) {y : Rat} (hy : rq n' p' q' = y) (w : World) (h : tz p q 1000000) (h' : tz p' q' 1000000) : Calls Tryd.prog 15 #[rtv n p q, rtv n' p' q'] w fun e w' => e = .returned (rbv (x + y)) ∧ Since w w' := by
 subst hx hy;exact addQ n p q n' p' q' w h.1 h.2 h'.1 h'.2
theorem mulG (n : Bool) (p q : List UInt8) (n' : Bool) (p' q' : List UInt8) {x : Rat} (hx : rq n p q = x) {y : Rat} (hy : rq n' p' q' = y) (w : World) (h : tz p q 1000000) (h' : tz p' q' 1000000) : Calls Tryd.prog 23 #[rtv n p q, rtv n' p' q'] w fun e w' => e = .returned (rbv (x * y)) ∧ Since w w' := by
 subst hx hy;exact mulQ n p q n' p' q' w h.1 h.2 h'.1 h'.2
theorem rcmpG (n : Bool) (p q : List UInt8) (n' : Bool) (p' q' : List UInt8) {x : Rat} (hx : rq n p q = x) {y : Rat} (hy : rq n' p' q' = y) (w : World) (h : tz p q 1000000) (h' : tz p' q' 1000000) : Calls Tryd.prog 26 #[rtv n p q, rtv n' p' q'] w fun e w' => e = .returned (.int .i64 (cmpR x y)) ∧ Since w w' := by
 subst hx hy;exact cmpQ n p q n' p' q' w h.1 h.2 h'.1 h'.2
theorem validG (n : Bool) (p q : List UInt8) (w : World) (h : tz p q 1000000) : Calls Tryd.prog 17 #[rtv n p q] w fun e w' => e = .returned (.bool (vd n p q)) ∧ Since w w' := rvalidQ n p q w (Nat.le_trans h.1 (by omega)) (Nat.le_trans h.2 (by omega))
end Go.Proofs.YtcpedbpldgndmaaDoor
namespace Go.Proofs.YtcpedbpldgndmaaDoor
open Go.RowKit
/-- A quotient of integers, an integer: as they stand in the examples. -/
def rk (m n : Int) : Rat := (m : Rat) / (n : Rat)
def ri (n : Int) : Rat := (n : Rat)
theorem szR_rk (m n : Int) (hm : insB m = true) (hn : insB n = true) : szR (rk m n) 14 := szR_div (szR_int hm) (szR_int hn)
/-- A slice of numbers that reads as a list. -/
def Rl (l : List Tr) (v : Value) (X : World) : Prop := Rd X 3 v l.length (fl trc l)
theorem Rl.lasts (l : List Tr) : Lasts (Rl l) := fun _ _ _ h hS => Rd.below h hS
abbrev tr (x : Rat) : Tr := (rN x, rP x, rD x)
theorem rb_lit {x : Rat} {n : Bool} {p q : List UInt8} (hv : vd n p q = true) (hx : rq n p q = x) : (rN x == n && rP x == p && rD x == q) = true := by
 obtain ⟨h1, h2, h3, _⟩ := vd_eq hv;rw [← hx, h1, h2, h3]
 simp
/-- A load of a struct that lies within a greater one. -/
theorem exec_inr {P : Program} {f : Operand → Value} {o : Oper} (T : TypeId) (x : Operand) (ho : o.op = .load T x) (g k : Nat) (xs : List Value) (hx : f x = .pointer (some ⟨g, k, none⟩)) {d : TypeDesc} (hu : P.underlying T = some d)
  (hag : (match d with | .struct _ | .array _ _ => true | _ => false) = true) {t : TypeId} {cs : List Value} (X : World) (hB : Blk X g t cs) (hs : (cs.drop k).take xs.length = xs) (hi : (P.info? T).map (·.size) = some xs.length) : (execOp f o).run P X = .ok (.value (.agg xs.toArray)) X := by
 have hc : Cl X g k xs := fun j u hj => by
  refine hB.cell ?_;have hl : j < xs.length := (List.getElem?_eq_some_iff.1 hj).1;rw [← hs, List.getElem?_take_of_lt hl, List.getElem?_drop] at hj;exact hj
 unfold execOp
 simp only [ho, hx, Instr.loadAt, Instr.sureAddr, Sem.run_bind, Sem.run_pure, Result.andThen_ok, run_loadVar_cl T d g k xs hc hu hag hi]
end Go.Proofs.YtcpedbpldgndmaaDoor

/-
  Numbers of examples, slices of numbers.
-/
import Derived.Test.YtffgfkcljcollaaDoorMI
import Derived.Test.YtffgfkcljcollaaDoorQsu
import Derived.Test.YtffgfkcljcollaaDoorMH
set_option linter.unusedSimpArgs false
set_option linter.unusedVariables false
set_option maxRecDepth 100000
set_option maxHeartbeats 1600000
namespace Go.Proofs.YtffgfkcljcollaaDoor
open Go.RowKit
/-- Parts of at most so many bytes. -/
def tz (p q : List UInt8) (B : Nat) : Prop := p.length ≤ B ∧ q.length ≤ B
theorem tz.mono {p q : List UInt8} {B B' : Nat} (h : tz p q B) (hb : B ≤ B') : tz p q B' := ⟨Nat.le_trans h.1 hb, Nat.le_trans h.2 hb⟩
theorem tz_nil {B : Nat} : tz [] [] B := ⟨Nat.zero_le _, Nat.zero_le _⟩
theorem tzR {x : Rat} {B : Nat} (h : szR x B) {B' : Nat} (hb : B ≤ B') : tz (rP x) (rD x) B' := ⟨Nat.le_trans h.rP hb, Nat.le_trans h.rD hb⟩
theorem szR_tz {n : Bool} {p q : List UInt8} {x : Rat} {B : Nat} (hx : rq n p q = x) (h : tz p q B) (h1 : 1 ≤ B := by omega) : szR x B := hx ▸ szR_of n p q h.1 h.2 h1
theorem szR_sub {x y : Rat} {B B' : Nat} (hx : szR x B) (hy : szR y B') : szR (x - y) (B + B' + 1) := by
 rw [Rat.sub_eq_add_neg];exact szR_add hx (szR_neg hy)
theorem szR_int {n : Int} (h : insB n = true) : szR (n : Rat) 7 := by
 have := insB_t h;refine ⟨?_, ?_⟩
 ·rw [Rat.num_intCast]
  exact be_len (by omega)
 ·rw [Rat.den_intCast, be_one]
  decide
theorem addG (n : Bool) (p q : List UInt8) (n' : Bool) (p' q' : List UInt8) {x : Rat} (hx : rq n p q = x) {y : Rat} (hy : rq n' p' q' = y) (w : World) (h : tz p q 1000000) (h' : tz p' q' 1000000) : Calls Tryd.prog 15 #[rtv n p q, rtv n' p' q'] w fun e w' => e = .returned (rbv (x + y)) ∧ Since w w' := by
 subst hx hy;exact addQ n p q n' p' q' w h.1 h.2 h'.1 h'.2
theorem subG (n : Bool) (p q : List UInt8) (n' : Bool) (p' q' : List UInt8) {x : Rat} (hx : rq n p q = x) {y : Rat} (hy : rq n' p' q' = y) (w : World) (h : tz p q 1000000) (h' : tz p' q' 1000000) : Calls Tryd.prog 14 #[rtv n p q, rtv n' p' q'] w fun e w' => e = .returned (rbv (x - y)) ∧ Since w w' := by
 subst hx hy;exact subQ n p q n' p' q' w h.1 h.2 h'.1 h'.2
theorem rcmpG (n : Bool) (p q : List UInt8) (n' : Bool) (p' q' : List UInt8) {x : Rat} (hx : rq n p q = x) {y : Rat} (hy : rq n' p' q' = y) (w : World) (h : tz p q 1000000) (h' : tz p' q' 1000000) : Calls Tryd.prog 37 #[rtv n p q, rtv n' p' q'] w fun e w' => e = .returned (.int .i64 (cmpR x y)) ∧ Since w w' := by
 subst hx hy;exact cmpQ n p q n' p' q' w h.1 h.2 h'.1 h'.2
theorem negG (n : Bool) (p q : List UInt8) {x : Rat} (hx : rq n p q = x) (w : World) (h : tz p q 1000000) : Calls Tryd.prog 18 #[rtv n p q] w fun e w' => e = .returned (rbv (-x)) ∧ Since w w' := by
 subst hx;exact negQ n p q w h.1 h.2
theorem validG (n : Bool) (p q : List UInt8) (w : World) (h : tz p q 1000000) : Calls Tryd.prog 38 #[rtv n p q] w fun e w' => e = .returned (.bool (vd n p q)) ∧ Since w w' := rvalidQ n p q w (Nat.le_trans h.1 (by omega)) (Nat.le_trans h.2 (by omega))
end Go.Proofs.YtffgfkcljcollaaDoor
namespace Go.Proofs.YtffgfkcljcollaaDoor
open Go.RowKit
theorem run_ne_rat (w : World) (n n' : Bool) (p q p' q' : List UInt8) : (binOp .neq 30 (rtv n p q) (rtv n' p' q')).run Tryd.prog w = .ok (.bool (!(n == n' && p == p' && q == q'))) w := by
 have h1 : (p == p') = decide (p = p') := by rw [Bool.eq_iff_iff]; simp
 have h2 : (q == q') = decide (q = q') := by rw [Bool.eq_iff_iff]; simp
 rw [h1, h2]
 go_simp
 by_cases e1 : n = n' <;> by_cases e2 : p = p' <;> by_cases e3 : q = q' <;> simp [e1, e2, e3]
theorem exec_eqr {f : Operand → Value} {o : Oper} (x y : Operand) (ho : o.op = .binOp .eql 30 x y 30) (n : Bool) (p q : List UInt8) (n' : Bool) (p' q' : List UInt8) (hx : f x = rtv n p q) (hy : f y = rtv n' p' q') (b : Bool) (hb : (n == n' && p == p' && q == q') = b) (X : World) : (execOp f o).run Tryd.prog X = .ok (.value (.bool b)) X :=
 exec_cmp_agg .eql _ _ x y ho _ _ hx hy eqm_rat _ X ((run_eq_rat X n n' p q p' q').trans (by rw [hb]))
theorem exec_ner {f : Operand → Value} {o : Oper} (x y : Operand) (ho : o.op = .binOp .neq 30 x y 30) (n : Bool) (p q : List UInt8) (n' : Bool) (p' q' : List UInt8) (hx : f x = rtv n p q) (hy : f y = rtv n' p' q') (b : Bool) (hb : (n == n' && p == p' && q == q') = !b) (X : World) : (execOp f o).run Tryd.prog X = .ok (.value (.bool b)) X :=
 exec_cmp_agg .neq _ _ x y ho _ _ hx hy eqm_rat _ X ((run_ne_rat X n n' p q p' q').trans (by rw [hb, Bool.not_not]))
theorem rb_eq {x y : Rat} (b : Bool) (h : x = y ↔ b = true) : (rN x == rN y && rP x == rP y && rD x == rD y) = b := by
 rw [Bool.eq_iff_iff, ← h];simp only [Bool.and_eq_true, beq_iff_eq];exact ⟨fun ⟨⟨h1, h2⟩, h3⟩ => rb_inj h1 h2 h3, fun h => by rw [h]; exact ⟨⟨rfl, rfl⟩, rfl⟩⟩
theorem rb_eqt {x y : Rat} (h : x = y) : (rN x == rN y && rP x == rP y && rD x == rD y) = true := rb_eq true ⟨fun _ => rfl, fun _ => h⟩
/-- Whether the parts have at most so many bytes. -/
def few (p q : List UInt8) (m : Nat) : Bool := decide (p.length ≤ m) && decide (q.length ≤ m)
end Go.Proofs.YtffgfkcljcollaaDoor
namespace Go.Proofs.YtffgfkcljcollaaDoor
open Go.RowKit
/-- A quotient of integers, an integer: as they stand in the examples. -/
def rk (m n : Int) : Rat := (m : Rat) / (n : Rat)
def ri (n : Int) : Rat := (n : Rat)
/-- A slice of numbers that reads as a list. -/
def Rl (l : List Tr) (v : Value) (X : World) : Prop := Rd X 3 v l.length (fl trc l)
theorem Rl.lasts (l : List Tr) : Lasts (Rl l) := fun _ _ _ h hS => Rd.below h hS
abbrev tr (x : Rat) : Tr := (rN x, rP x, rD x)
/-- A load of a struct that lies within a greater one. -/
theorem exec_inr {P : Program} {f : Operand → Value} {o : Oper} (T : TypeId) (x : Operand) (ho : o.op = .load T x) (g k : Nat) (xs : List Value) (hx : f x = .pointer (some ⟨g, k, none⟩)) {d : TypeDesc} (hu : P.underlying T = some d)
  (hag : (match d with | .struct _ | .array _ _ => true | _ => false) = true) {t : TypeId} {cs : List Value} (X : World) (hB : Blk X g t cs) (hs : (cs.drop k).take xs.length = xs) (hi : (P.info? T).map (·.size) = some xs.length) : (execOp f o).run P X = .ok (.value (.agg xs.toArray)) X := by
 have hc : Cl X g k xs := fun j u hj => by
  refine hB.cell ?_;have hl : j < xs.length := (List.getElem?_eq_some_iff.1 hj).1;rw [← hs, List.getElem?_take_of_lt hl, List.getElem?_drop] at hj;exact hj
 unfold execOp
 simp only [ho, hx, Instr.loadAt, Instr.sureAddr, Sem.run_bind, Sem.run_pure, Result.andThen_ok, run_loadVar_cl T d g k xs hc hu hag hi]
end Go.Proofs.YtffgfkcljcollaaDoor

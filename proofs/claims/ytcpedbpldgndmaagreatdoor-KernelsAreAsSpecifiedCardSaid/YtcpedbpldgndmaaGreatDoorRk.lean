/-
  Numbers of examples, slices of numbers.
-/
import Derived.Test.YtcpedbpldgndmaaGreatDoorL5a
import Derived.Test.YtcpedbpldgndmaaGreatDoorQr
import Derived.Test.YtcpedbpldgndmaaGreatDoorMI
set_option linter.unusedSimpArgs false
set_option linter.unusedVariables false
set_option maxRecDepth 100000
set_option maxHeartbeats 1600000
namespace Go.Proofs.YtcpedbpldgndmaaGreatDoor
open Go.RowKit
/-- A quotient of integers, an integer: as they stand in the examples. -/
def rk (m n : Int) : Rat := (m : Rat) / (n : Rat)
def ri (n : Int) : Rat := (n : Rat)
theorem szR_rk (m n : Int) (hm : insB m = true) (hn : insB n = true) : szR (rk m n) 14 := szR_div (szR_int hm) (szR_int hn)
/-- A slice of numbers that reads as a list. -/
def Rl (l : List Tr) (v : Value) (X : World) : Prop := Rd X 3 v l.length (fl trc l)
theorem Rl.lasts (l : List Tr) : Lasts (Rl l) := fun _ _ _ h hS => Rd.below h hS
abbrev tr (x : Rat) : Tr := (rN x, rP x, rD x)
/-- A load of a struct that lies within a greater one. -/
theorem exec_inr {P : Program} {f : Operand → Value} {o : Oper} (T : TypeId) (x : Operand) (ho : o.op = .load T x) (g k : Nat) (xs : List Value) (hx : f x = .pointer (some ⟨g, k, none⟩)) {d : TypeDesc} (hu : P.underlying T = some d)
  (hag : (match d with | .struct _ | .array _ _ => true | _ => false) = true) {t : TypeId} {cs : List Value} (X : World) (hB : Blk X g t cs) (hs : (cs.drop k).take xs.length = xs) (hi : (P.info? T).map (·.size) = some xs.length) : (execOp f o).run P X = .ok (.value (.agg xs.toArray)) X := by
 have hc : Cl X g k xs := fun j u hj => by
  refine hB.cell ?_;have hl : j < xs.length := (List.getElem?_eq_some_iff.1 hj).1;rw [← hs, List.getElem?_take_of_lt hl, List.getElem?_drop] at hj;exact hj
 unfold execOp
 simp only [ho, hx, Instr.loadAt, Instr.sureAddr, Sem.run_bind, Sem.run_pure, Result.andThen_ok, run_loadVar_cl T d g k xs hc hu hag hi]
end Go.Proofs.YtcpedbpldgndmaaGreatDoor

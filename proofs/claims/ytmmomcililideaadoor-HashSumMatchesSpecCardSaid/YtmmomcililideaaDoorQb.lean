/-
  Drawn regions whose operations read and whose callees make new memory alone: one walk in the order of the text.
-/
import Derived.Test.YtmmomcililideaaDoorBlk2
import Derived.BigQuiet
set_option linter.unusedSimpArgs false
set_option linter.unusedVariables false
namespace Go.Proofs.YtmmomcililideaaDoor
open Go.RowKit

/-- What has become of a world: new blocks alone. -/
def Since (w w' : World) : Prop := Below w.heap.size w w'
theorem Since.next {w X w' : World} (h : Since w X) (hb : Below X.heap.size X w') : Since w w' := Below.trans h (Below.mono hb h.size)
theorem Since.next_eq {w X w' : World} (h : Since w X) (hb : X = w') : Since w w' := hb ▸ h
theorem Since.nextN {w X w' : World} (h : Since w X) (hb : ∃ k, w' = X.drewN k) : Since w w' := by
  obtain ⟨k, rfl⟩ := hb
  exact bel_drewN h k
section
variable {P : Program} {ops : Array Oper} {w : World} {Q : Act → Prop} {a : Act} {o : Oper} {rest : List Oper}
theorem wp_region_qb {id : Nat} {Q : Exit → Act → World → Prop} {l : List Oper} (hm : P.follows .mixedOrders = true) (hB : Region.lexB .any l.toArray = true)
    (h : wpQuiet P l.toArray (Since w) (fun a' => ∀ w', Since w w' → Q .normal a' w') l a) : (Code.region id l.toArray true).wp P Q a w :=
  wp_region_quiet (C := Since w) hm hB ((Below.refl w.heap.size w).drew) (by simpa using h)
/-- A call. -/
theorem qb_call (hw : Region.wanted o (yielded ops a.tmps) = true) (f : FuncId) (xs : List Operand) (ts : Array TypeId) (ho : o.op = .call { callee := .value (.func f), args := xs.toArray, argTypes := ts }) (v : Value) (args : List Value) (he : xs.map a.eval = args) (hf : ∀ X : World, (callFunc f args.toArray).run P X = .ok (.enter f args.toArray) X)
    (hc : ∀ X, Since w X → Calls P f args.toArray X fun e X' => e = .returned v ∧ Since w X') (h : wpQuiet P ops (Since w) Q rest (a.put o.dst v)) : wpQuiet P ops (Since w) Q (o :: rest) a := by
  refine wpQuiet_step fun K hK => ?_
  rw [if_pos hw]
  refine ⟨v, fun X hX => ?_, hK _ h⟩
  have hc := hc X hX
  have he2 : xs.toArray.map a.eval = args.toArray := by rw [List.map_toArray, he]
  unfold Oper.quietAt execOp
  rw [ho]
  go_simp
/-- A load of a whole struct or array. -/
theorem qb_load (hw : Region.wanted o (yielded ops a.tmps) = true) (ty : TypeId) (x : Operand) (ho : o.op = .load ty x) (b off : Nat) (hx : a.eval x = .pointer (some ⟨b, off, none⟩)) (d : TypeDesc) (hu : P.underlying ty = some d)
    (hd : (match d with | .struct _ | .array _ _ => true | _ => false) = true) (xs : List Value) (hb : b < w.heap.size) (hc : Cl w b off xs) (hi : (P.info? ty).map (·.size) = some xs.length)
    (h : wpQuiet P ops (Since w) Q rest (a.put o.dst (.agg xs.toArray))) : wpQuiet P ops (Since w) Q (o :: rest) a := by
  refine wpQuiet_step fun K hK => ?_
  rw [if_pos hw]
  refine ⟨.agg xs.toArray, fun X hX => ?_, hK _ h⟩
  unfold Oper.quietAt execOp
  have hcX : Cl X b off xs := hc.below hX hb
  simp only [ho, hx, Instr.loadAt, Instr.sureAddr, Sem.run_bind, Sem.run_pure, Result.andThen_ok, run_loadVar_cl ty d b off xs hcX hu hd hi]
  exact ⟨rfl, rfl⟩
/-- An operation of one value, by its own run. -/
theorem qb_val (hw : Region.wanted o (yielded ops a.tmps) = true) (v : Value) (hq : ∀ X : World, Since w X → (execOp a.eval o).run P X = .ok (.value v) X)
    (h : wpQuiet P ops (Since w) Q rest (a.put o.dst v)) : wpQuiet P ops (Since w) Q (o :: rest) a := by
  refine wpQuiet_step fun K hK => ?_
  rw [if_pos hw]
  refine ⟨v, fun X hX => ?_, hK _ h⟩
  unfold Oper.quietAt
  rw [hq X hX]
  exact ⟨rfl, rfl⟩
end
end Go.Proofs.YtmmomcililideaaDoor

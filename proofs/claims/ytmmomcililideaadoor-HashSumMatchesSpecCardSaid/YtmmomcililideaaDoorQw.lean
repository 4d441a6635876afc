/-
  Words in drawn regions: one operation each.
-/
import Derived.Test.YtmmomcililideaaDoorQb
import Derived.Test.YtmmomcililideaaDoorWk02a
set_option linter.unusedSimpArgs false
set_option linter.unusedVariables false
namespace Go.Proofs.YtmmomcililideaaDoor
open Go.RowKit Go.BigFrame

section
variable {ops : Array Oper} {w : World} {Q : Act → Prop} {a : Act} {o : Oper} {rest : List Oper}
theorem qb_move (hw : Region.wanted o (yielded ops a.tmps) = true) (x : Operand) (ho : o.op = .move x) (v : Value) (hx : a.eval x = v) (h : wpQuiet Tryd.prog ops (Since w) Q rest (a.put o.dst v)) : wpQuiet Tryd.prog ops (Since w) Q (o :: rest) a :=
  qb_val hw v (fun X _ => by rw [run_move x ho, hx]) h
theorem qb_assign (hw : Region.wanted o (yielded ops a.tmps) = true) (x : Operand) (ho : o.op = .assign x) (v : Value) (hx : a.eval x = v) (h : wpQuiet Tryd.prog ops (Since w) Q rest (a.put o.dst v)) : wpQuiet Tryd.prog ops (Since w) Q (o :: rest) a :=
  qb_val hw v (fun X _ => by rw [run_assign x ho, hx]) h
/-- A load of one cell. -/
theorem qb_cell (hw : Region.wanted o (yielded ops a.tmps) = true) (ty : TypeId) (x : Operand) (ho : o.op = .load ty x) (b k : Nat) (hx : a.eval x = .pointer (some ⟨b, k, none⟩)) (v : Value) (hc : w.cell? ⟨b, k, none⟩ = some v)
    (hr : ∀ X : World, X.cell? ⟨b, k, none⟩ = some v → (loadVar ty ⟨b, k, none⟩).run Tryd.prog X = .ok v X) (h : wpQuiet Tryd.prog ops (Since w) Q rest (a.put o.dst v)) : wpQuiet Tryd.prog ops (Since w) Q (o :: rest) a := by
  refine qb_val hw v (fun X hX => ?_) h
  have hcX : X.cell? ⟨b, k, none⟩ = some v := (Below.cell hX (p := ⟨b, k, none⟩) (World.block_lt_of_cell? _ _ hc)).trans hc
  unfold execOp
  simp only [ho, hx, Instr.loadAt, Instr.sureAddr, Sem.run_bind, Sem.run_pure, Result.andThen_ok, hr X hcX]
theorem load_u32 (b k : Nat) (v : Value) (X : World) (h : X.cell? ⟨b, k, none⟩ = some v) : (loadVar 29 ⟨b, k, none⟩).run Tryd.prog X = .ok v X := by
  go_simp
theorem qb_bin (hw : Region.wanted o (yielded ops a.tmps) = true) (op : BinOp) (t t' : TypeId) (x y : Operand) (ho : o.op = .binOp op t x y t') (u v r : Value) (hx : a.eval x = u) (hy : a.eval y = v) (hg : ∀ X : World, (Go.eqGuard op t x y u v).run Tryd.prog X = .ok () X)
    (hr : ∀ X : World, (binOp op t u v).run Tryd.prog X = .ok r X) (h : wpQuiet Tryd.prog ops (Since w) Q rest (a.put o.dst r)) : wpQuiet Tryd.prog ops (Since w) Q (o :: rest) a := by
  refine qb_val hw r (fun X _ => ?_) h
  unfold execOp
  simp only [ho, hx, hy, Sem.run_bind, hg X, Result.andThen_ok, hr X, Sem.run_pure]
theorem qb_idx (hw : Region.wanted o (yielded ops a.tmps) = true) (t : TypeId) (p i : Operand) (ho : o.op = .indexAddr t p i) (u v r : Value) (hp : a.eval p = u) (hi : a.eval i = v) (hr : ∀ X : World, (Instr.indexAt t u v).run Tryd.prog X = .ok r X)
    (h : wpQuiet Tryd.prog ops (Since w) Q rest (a.put o.dst r)) : wpQuiet Tryd.prog ops (Since w) Q (o :: rest) a := by
  refine qb_val hw r (fun X _ => ?_) h
  unfold execOp
  simp only [ho, hp, hi, Sem.run_bind, Result.andThen_ok, hr X, Sem.run_pure]
end
theorem ix8 (g k : Nat) (hk : k < 8) (X : World) : (Instr.indexAt 30 (.pointer (some ⟨g, 0, none⟩)) (.int .i64 (k : Int))).run Tryd.prog X = .ok (.pointer (some ⟨g, k, none⟩)) X := by
  have q5 : (0 : Int) ≤ (k : Int) := by omega
  have q6 : (k : Int) < 8 := by omega
  have et : ((k : Int)).toNat = k := by omega
  go_simp
theorem ix64 (g k : Nat) (hk : k < 64) (X : World) : (Instr.indexAt 63 (.pointer (some ⟨g, 0, none⟩)) (.int .i64 (k : Int))).run Tryd.prog X = .ok (.pointer (some ⟨g, k, none⟩)) X := by
  have q5 : (0 : Int) ≤ (k : Int) := by omega
  have q6 : (k : Int) < 64 := by omega
  have et : ((k : Int)).toNat = k := by omega
  go_simp
theorem not32q (x : UInt32) : bits .xor .u32 (un x : Int) 4294967295 = (un (~~~x) : Int) := by
  have e : (4294967295 : Int) = (un (4294967295 : UInt32) : Int) := by decide +kernel
  rw [e, xor32]
  have h : x ^^^ 4294967295 = ~~~x := by
    apply UInt32.toBitVec_inj.1
    simp only [UInt32.toBitVec_xor, UInt32.toBitVec_not]
    rw [BitVec.not_def, BitVec.xor_comm]
    rfl
  rw [h]
theorem badd (x y : UInt32) (X : World) : (binOp .add 29 (.int .u32 (un x : Int)) (.int .u32 (un y : Int))).run Tryd.prog X = .ok (.int .u32 (un (x + y) : Int)) X := by
  have := add32w
  have := add32
  go_simp
theorem bxor (x y : UInt32) (X : World) : (binOp .xor 29 (.int .u32 (un x : Int)) (.int .u32 (un y : Int))).run Tryd.prog X = .ok (.int .u32 (un (x ^^^ y) : Int)) X := by
  have := xor32
  go_simp
theorem not32b (x : UInt32) (X : World) : (binOp .xor 29 (.int .u32 (un x : Int)) (.int .u32 4294967295)).run Tryd.prog X = .ok (.int .u32 (un (~~~x) : Int)) X := by
  have := not32q
  go_simp
theorem band (x y : UInt32) (X : World) : (binOp .and 29 (.int .u32 (un x : Int)) (.int .u32 (un y : Int))).run Tryd.prog X = .ok (.int .u32 (un (x &&& y) : Int)) X := by
  have := and32
  go_simp
end Go.Proofs.YtmmomcililideaaDoor

/-
  Operations on integers of any kind, one at a time.
-/
import Derived.Test.YtglnabciomlmmaaDoorLxi
namespace Go.Proofs.YtglnabciomlmmaaDoor
open Go.RowKit

section
variable {P : Program} {f : Operand → Value} {o : Oper}
theorem exec_addk (t t' : TypeId) (x y : Operand) (ho : o.op = .binOp .add t x y t') (k : IntKind) (m n r : Int) (hx : f x = .int k m) (hy : f y = .int k n) (hr : k.wrap (m + n) = r) (w : World) : (execOp f o).run P w = .ok (.value (.int k r)) w := by
  refine exec_bin ho hx hy (by rfl) ?_
  simp [binOp, Op.intArith, hr]
theorem exec_subk (t t' : TypeId) (x y : Operand) (ho : o.op = .binOp .sub t x y t') (k : IntKind) (m n r : Int) (hx : f x = .int k m) (hy : f y = .int k n) (hr : k.wrap (m - n) = r) (w : World) : (execOp f o).run P w = .ok (.value (.int k r)) w := by
  refine exec_bin ho hx hy (by rfl) ?_
  simp [binOp, Op.intArith, hr]
theorem exec_mulk (t t' : TypeId) (x y : Operand) (ho : o.op = .binOp .mul t x y t') (k : IntKind) (m n r : Int) (hx : f x = .int k m) (hy : f y = .int k n) (hr : k.wrap (m * n) = r) (w : World) : (execOp f o).run P w = .ok (.value (.int k r)) w := by
  refine exec_bin ho hx hy (by rfl) ?_
  simp [binOp, Op.intArith, hr]
theorem exec_shl (t t' : TypeId) (x y : Operand) (ho : o.op = .binOp .shl t x y t') (k yk : IntKind) (m r : Int) (s : Nat) (hx : f x = .int k m) {z : Int} (hy : f y = .int yk z) (hz : z = (s : Int)) (hs : s ≤ k.bits) (hr : k.wrap (m * 2 ^ s) = r) (w : World) : (execOp f o).run P w = .ok (.value (.int k r)) w := by
  subst hz
  refine exec_bin ho hx hy (by rfl) ?_
  have h1 : ¬ ((s : Int) < 0) := by omega
  have h2 : min s k.bits = s := by omega
  simp [binOp, Op.shift, h2, hr]
  intro h9
  omega
theorem exec_shr (t t' : TypeId) (x y : Operand) (ho : o.op = .binOp .shr t x y t') (k yk : IntKind) (m r : Int) (s : Nat) (hx : f x = .int k m) {z : Int} (hy : f y = .int yk z) (hz : z = (s : Int)) (hs : s ≤ k.bits) (hr : m / 2 ^ s = r) (w : World) : (execOp f o).run P w = .ok (.value (.int k r)) w := by
  subst hz
  refine exec_bin ho hx hy (by rfl) ?_
  have h2 : min s k.bits = s := by omega
  have h3 : m.fdiv (2 ^ s) = r := by rw [← hr, Int.fdiv_eq_ediv_of_nonneg]; exact Int.le_of_lt (Int.pow_pos (by omega))
  simp [binOp, Op.shift, h2, h3]
  intro h9
  omega
theorem exec_or (t t' : TypeId) (x y : Operand) (ho : o.op = .binOp .or t x y t') (k : IntKind) (m n r : Int) (hx : f x = .int k m) (hy : f y = .int k n) (hr : k.wrap ((BitVec.ofInt k.bits m ||| BitVec.ofInt k.bits n).toNat : Int) = r) (w : World) : (execOp f o).run P w = .ok (.value (.int k r)) w := by
  refine exec_bin ho hx hy (by rfl) ?_
  have e : binOp .or t (.int k m) (.int k n) = Op.intBits .or k m n := by simp [binOp]
  rw [e]
  exact congrArg (fun z => Result.ok (Value.int k z) w) hr
end
theorem w64 {z : Int} (h1 : 0 ≤ z) (h2 : z < 18446744073709551616) : IntKind.u64.wrap z = z := by rw [IntKind.wrap_u64]; omega
theorem w32 {z : Int} (h1 : 0 ≤ z) (h2 : z < 4294967296) : IntKind.u32.wrap z = z := by rw [IntKind.wrap_u32]; omega
theorem w8 {z : Int} (h1 : 0 ≤ z) (h2 : z < 256) : IntKind.u8.wrap z = z := by rw [IntKind.wrap_u8]; omega
/-- 'hi<<s | lo'. -/
theorem or_add (a b s : Nat) (hb : b < 2 ^ s) : a * 2 ^ s ||| b = a * 2 ^ s + b := by
  rw [Nat.mul_comm, Nat.two_pow_add_eq_or_of_lt hb]
theorem or32 (a b s : Nat) (hb : b < 2 ^ s) (h : a * 2 ^ s + b < 4294967296) : IntKind.u32.wrap ((BitVec.ofInt IntKind.u32.bits ((a * 2 ^ s : Nat) : Int) ||| BitVec.ofInt IntKind.u32.bits (b : Int)).toNat : Int) = ((a * 2 ^ s + b : Nat) : Int) := by
  have e : IntKind.u32.bits = 32 := rfl
  rw [e, BitVec.toNat_or, BitVec.ofInt_natCast, BitVec.ofInt_natCast, BitVec.toNat_ofNat, BitVec.toNat_ofNat, Nat.mod_eq_of_lt (by omega), Nat.mod_eq_of_lt (by omega), or_add a b s hb]
  exact w32 (by omega) (by omega)
theorem or64 (a b s : Nat) (hb : b < 2 ^ s) (h : a * 2 ^ s + b < 18446744073709551616) : IntKind.u64.wrap ((BitVec.ofInt IntKind.u64.bits ((a * 2 ^ s : Nat) : Int) ||| BitVec.ofInt IntKind.u64.bits (b : Int)).toNat : Int) = ((a * 2 ^ s + b : Nat) : Int) := by
  have e : IntKind.u64.bits = 64 := rfl
  rw [e, BitVec.toNat_or, BitVec.ofInt_natCast, BitVec.ofInt_natCast, BitVec.toNat_ofNat, BitVec.toNat_ofNat, Nat.mod_eq_of_lt (by omega), Nat.mod_eq_of_lt (by omega), or_add a b s hb]
  exact w64 (by omega) (by omega)
end Go.Proofs.YtglnabciomlmmaaDoor

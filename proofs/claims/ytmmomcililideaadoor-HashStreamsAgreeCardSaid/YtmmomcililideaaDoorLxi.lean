/-
  Operations on integers, bools and lengths, one at a time: what each comes to.
-/
import Derived.Test.YtmmomcililideaaDoorLxw
import Derived.IntWalk
set_option linter.unusedSimpArgs false
set_option linter.unusedVariables false
namespace Go.Proofs.YtmmomcililideaaDoor
open Go.RowKit

section
variable {P : Program} {f : Operand → Value} {o : Oper}
theorem exec_bin {op : BinOp} {t t' : TypeId} {x y : Operand} (ho : o.op = .binOp op t x y t') {u v r : Value} (hx : f x = u) (hy : f y = v) {w : World} (hg : (Go.eqGuard op t x y u v).run P w = .ok () w) (hr : (binOp op t u v).run P w = .ok r w) :
    (execOp f o).run P w = .ok (.value r) w := by
  unfold execOp
  simp only [ho, hx, hy, Sem.run_bind, hg, Result.andThen_ok, hr, Sem.run_pure]
theorem exec_add (t t' : TypeId) (x y : Operand) (ho : o.op = .binOp .add t x y t') (m n r : Int) (hx : f x = .int .i64 m) (hy : f y = .int .i64 n) (hr : m + n = r) (h1 : -9223372036854775808 ≤ r) (h2 : r ≤ 9223372036854775807) (w : World) : (execOp f o).run P w = .ok (.value (.int .i64 r)) w := by
  refine exec_bin ho hx hy (by rfl) ?_
  show (Op.intArith .add .i64 m n).run P w = _
  have h : IntKind.i64.wrap (m + n) = r := by rw [hr]; exact IntWalk.i64_in _ ⟨h1, h2⟩
  simp [Op.intArith, h]
theorem exec_sub (t t' : TypeId) (x y : Operand) (ho : o.op = .binOp .sub t x y t') (m n r : Int) (hx : f x = .int .i64 m) (hy : f y = .int .i64 n) (hr : m - n = r) (h1 : -9223372036854775808 ≤ r) (h2 : r ≤ 9223372036854775807) (w : World) : (execOp f o).run P w = .ok (.value (.int .i64 r)) w := by
  refine exec_bin ho hx hy (by rfl) ?_
  show (Op.intArith .sub .i64 m n).run P w = _
  have h : IntKind.i64.wrap (m - n) = r := by rw [hr]; exact IntWalk.i64_in _ ⟨h1, h2⟩
  simp [Op.intArith, h]
theorem exec_mul (t t' : TypeId) (x y : Operand) (ho : o.op = .binOp .mul t x y t') (m n r : Int) (hx : f x = .int .i64 m) (hy : f y = .int .i64 n) (hr : m * n = r) (h1 : -9223372036854775808 ≤ r) (h2 : r ≤ 9223372036854775807) (w : World) : (execOp f o).run P w = .ok (.value (.int .i64 r)) w := by
  refine exec_bin ho hx hy (by rfl) ?_
  show (Op.intArith .mul .i64 m n).run P w = _
  have h : IntKind.i64.wrap (m * n) = r := by rw [hr]; exact IntWalk.i64_in _ ⟨h1, h2⟩
  simp [Op.intArith, h]
theorem exec_eqi (t t' : TypeId) (x y : Operand) (ho : o.op = .binOp .eql t x y t') (k : IntKind) (m n : Int) (hx : f x = .int k m) (hy : f y = .int k n) (b : Bool) (hb : decide (m = n) = b) (w : World) : (execOp f o).run P w = .ok (.value (.bool b)) w := by
  refine exec_bin ho hx hy (by rfl) ?_
  simp [binOp, Op.intCmp, ← hb, BEq.beq]
theorem exec_nei (t t' : TypeId) (x y : Operand) (ho : o.op = .binOp .neq t x y t') (k : IntKind) (m n : Int) (hx : f x = .int k m) (hy : f y = .int k n) (b : Bool) (hb : decide (m = n) = !b) (w : World) : (execOp f o).run P w = .ok (.value (.bool b)) w := by
  refine exec_bin ho hx hy (by rfl) ?_
  have : b = !decide (m = n) := by rw [hb, Bool.not_not]
  simp [binOp, Op.intCmp, this, bne, BEq.beq]
theorem exec_lss (t t' : TypeId) (x y : Operand) (ho : o.op = .binOp .lss t x y t') (k : IntKind) (m n : Int) (hx : f x = .int k m) (hy : f y = .int k n) (b : Bool) (hb : decide (m < n) = b) (w : World) : (execOp f o).run P w = .ok (.value (.bool b)) w := by
  refine exec_bin ho hx hy (by rfl) ?_
  simp [binOp, Op.intCmp, ← hb]
theorem exec_leq (t t' : TypeId) (x y : Operand) (ho : o.op = .binOp .leq t x y t') (k : IntKind) (m n : Int) (hx : f x = .int k m) (hy : f y = .int k n) (b : Bool) (hb : decide (m ≤ n) = b) (w : World) : (execOp f o).run P w = .ok (.value (.bool b)) w := by
  refine exec_bin ho hx hy (by rfl) ?_
  simp [binOp, Op.intCmp, ← hb]
theorem exec_gtr (t t' : TypeId) (x y : Operand) (ho : o.op = .binOp .gtr t x y t') (k : IntKind) (m n : Int) (hx : f x = .int k m) (hy : f y = .int k n) (b : Bool) (hb : decide (n < m) = b) (w : World) : (execOp f o).run P w = .ok (.value (.bool b)) w := by
  refine exec_bin ho hx hy (by rfl) ?_
  simp [binOp, Op.intCmp, ← hb]
theorem exec_geq (t t' : TypeId) (x y : Operand) (ho : o.op = .binOp .geq t x y t') (k : IntKind) (m n : Int) (hx : f x = .int k m) (hy : f y = .int k n) (b : Bool) (hb : decide (n ≤ m) = b) (w : World) : (execOp f o).run P w = .ok (.value (.bool b)) w := by
  refine exec_bin ho hx hy (by rfl) ?_
  simp [binOp, Op.intCmp, ← hb]
theorem exec_not (t : TypeId) (x : Operand) (ho : o.op = .unOp .not t x) (b : Bool) (hx : f x = .bool b) (w : World) : (execOp f o).run P w = .ok (.value (.bool (!b))) w := by
  unfold execOp
  simp only [ho, hx]
  rfl
/-- A conversion between kinds of integers. -/
theorem exec_cnv (src dst : TypeId) (k k' : IntKind) (hs : P.underlying src = some (.int k)) (hd : P.underlying dst = some (.int k')) (x : Operand) (ho : o.op = .convert src dst x) (n r : Int) (hx : f x = .int k n) (hr : k'.wrap n = r) (w : World) : (execOp f o).run P w = .ok (.value (.int k' r)) w := by
  unfold execOp
  simp only [ho, hx]
  simp [convert, run_underlying hs, run_underlying hd, Conv.intToInt, hr]
/-- The same to int, of a number that it holds. -/
theorem exec_i64 (src dst : TypeId) (k : IntKind) (hs : P.underlying src = some (.int k)) (hd : P.underlying dst = some (.int .i64)) (x : Operand) (ho : o.op = .convert src dst x) (n : Int) (hx : f x = .int k n) (h1 : -9223372036854775808 ≤ n) (h2 : n ≤ 9223372036854775807) (w : World) : (execOp f o).run P w = .ok (.value (.int .i64 n)) w :=
  exec_cnv src dst k .i64 hs hd x ho n n hx (IntWalk.i64_in _ ⟨h1, h2⟩) w
theorem exec_bi {b : Builtin} {xs : Array Operand} {ts : Array TypeId} (ho : o.op = .call { callee := .builtin b, args := xs, argTypes := ts }) : execOp f o = builtin b ts o.type (xs.map fun | .const _ => true | _ => false) (xs.map f) := by
  obtain ⟨dst, op, type, pos, after, guard⟩ := o
  simp only at ho
  subst ho
  rfl
/-- 'min', 'max' of two integers. -/
theorem exec_min {ts : Array TypeId} (x y : Operand) (ho : o.op = .call { callee := .builtin .min, args := #[x, y], argTypes := ts }) (k : IntKind) (m n r : Int) (hx : f x = .int k m) (hy : f y = .int k n) (hr : min m n = r) (w : World) : (execOp f o).run P w = .ok (.value (.int k r)) w := by
  rw [exec_bi ho, BigFrame.builtin_min]
  have h : (if n < m then n else m) = r := by rw [← hr]; split <;> omega
  simp [Builtin.min_, Builtin.min2, hx, hy, h]
theorem exec_max {ts : Array TypeId} (x y : Operand) (ho : o.op = .call { callee := .builtin .max, args := #[x, y], argTypes := ts }) (k : IntKind) (m n r : Int) (hx : f x = .int k m) (hy : f y = .int k n) (hr : max m n = r) (w : World) : (execOp f o).run P w = .ok (.value (.int k r)) w := by
  rw [exec_bi ho, BigFrame.builtin_max]
  have h : (if m < n then n else m) = r := by rw [← hr]; split <;> omega
  have h2 : (if n > m then n else m) = r := h
  simp [Builtin.max_, Builtin.max2, hx, hy, h]
/-- 'len' of a string and of a slice. -/
theorem exec_lens {t : TypeId} (hu : P.underlying t = some .string) (x : Operand) (ho : o.op = .call { callee := .builtin .len, args := #[x], argTypes := #[t] }) (l : List UInt8) (hx : f x = .string ⟨l.toArray⟩) (n : Int) (hn : (l.length : Int) = n) (w : World) : (execOp f o).run P w = .ok (.value (.int .i64 n)) w := by
  rw [exec_bi ho, BigFrame.builtin_len]
  have hs : (⟨l.toArray⟩ : ByteArray).size = l.length := by simp [ByteArray.size]
  simp [Builtin.len_, run_underlying hu, hx, goInt, hs, hn]
theorem exec_lenv {t e : TypeId} (hu : P.underlying t = some (.slice e)) (x : Operand) (ho : o.op = .call { callee := .builtin .len, args := #[x], argTypes := #[t] }) (A : Option Addr) (m c : Nat) (hx : f x = .slice A m c) (n : Int) (hn : (m : Int) = n) (w : World) : (execOp f o).run P w = .ok (.value (.int .i64 n)) w := by
  rw [exec_bi ho, BigFrame.builtin_len]
  simp [Builtin.len_, run_underlying hu, hx, goInt, hn]
/-- '/' and '%' of numbers that are not negative. -/
theorem exec_rem (t t' : TypeId) (x y : Operand) (ho : o.op = .binOp .rem t x y t') (k : IntKind) (m n r : Int) (hx : f x = .int k m) (hy : f y = .int k n) (hm : 0 ≤ m) (hn : 0 < n) (hr : m % n = r) (w : World) : (execOp f o).run P w = .ok (.value (.int k r)) w := by
  refine exec_bin ho hx hy (by rfl) ?_
  have h : m.tmod n = r := by rw [← hr]; exact Int.tmod_eq_emod_of_nonneg hm
  have h0 : n ≠ 0 := by omega
  simp [binOp, Op.intDiv, h, h0]
theorem exec_quo (t t' : TypeId) (x y : Operand) (ho : o.op = .binOp .quo t x y t') (k : IntKind) (m n r : Int) (hx : f x = .int k m) (hy : f y = .int k n) (hm : 0 ≤ m) (hn : 0 < n) (hr : m / n = r) (hw : k.wrap r = r) (w : World) : (execOp f o).run P w = .ok (.value (.int k r)) w := by
  refine exec_bin ho hx hy (by rfl) ?_
  have h : m.tdiv n = r := by rw [← hr]; exact Int.tdiv_eq_ediv_of_nonneg hm
  have h0 : n ≠ 0 := by omega
  simp [binOp, Op.intDiv, h, h0, hw]
theorem addr_add (b off k : Nat) : (⟨b, off, none⟩ : Addr).add k = ⟨b, off + k, none⟩ := by
  unfold Addr.add
  split <;> simp_all
/-- The address of a slice's element. -/
theorem exec_ixv {t e : TypeId} (hu : P.underlying t = some (.slice e)) {sz : Nat} (hs : (P.info? e).map (·.size) = some sz) (x i : Operand) (ho : o.op = .indexAddr t x i) (b off n c k : Nat) (hk : k < n) (hx : f x = .slice (some ⟨b, off, none⟩) n c) {z : Int} (hi : f i = .int .i64 z) (hz : z = (k : Int)) (w : World) :
    (execOp f o).run P w = .ok (.value (.pointer (some ⟨b, off + k * sz, none⟩))) w := by
  subst hz
  unfold execOp
  simp only [ho, hx, hi]
  cases hq : P.info? e with
  | none => simp [hq] at hs
  | some i =>
    have hs1 : i.size = sz := by simpa [hq] using hs
    have h1 : (0 : Int) ≤ (k : Int) ∧ (k : Int) < (n : Int) := ⟨by omega, by omega⟩
    simp [Instr.indexAt, asIntOf, run_underlying hu, sizeOf, typeInfo, hq, hs1, h1, addr_add]
    intro h9
    omega
/-- A load of one cell, by the type's own law. -/
theorem exec_ld (t : TypeId) (x : Operand) (ho : o.op = .load t x) (b k : Nat) (hx : f x = .pointer (some ⟨b, k, none⟩)) (v : Value) (w : World) (hc : w.cell? ⟨b, k, none⟩ = some v) (hr : ∀ (X : World) (u : Value), X.cell? ⟨b, k, none⟩ = some u → (loadVar t ⟨b, k, none⟩).run P X = .ok u X) : (execOp f o).run P w = .ok (.value v) w := by
  have h := hr w v hc
  unfold execOp
  simp only [ho, hx, Instr.loadAt, Instr.sureAddr, Sem.run_bind, Sem.run_pure, Result.andThen_ok, h]
theorem addr_zero (a : Addr) : a.add 0 = a := by
  unfold Addr.add
  split <;> simp_all
/-- 's[:k]' of a slice. -/
theorem exec_pre {t e : TypeId} (hu : P.underlying t = some (.slice e)) {sz : Nat} (hs : (P.info? e).map (·.size) = some sz) (x hi : Operand) (ho : o.op = .slice t x none (some hi) none) (A : Option Addr) (n c k : Nat) (hk : k ≤ c) (hx : f x = .slice A n c) {z : Int} (hh : f hi = .int .i64 z) (hz : z = (k : Int)) (w : World) :
    (execOp f o).run P w = .ok (.value (.slice A k c)) w := by
  subst hz
  unfold execOp
  simp only [ho, hx, hh, Option.map]
  cases hq : P.info? e with
  | none => simp [hq] at hs
  | some i =>
    have hs1 : i.size = sz := by simpa [hq] using hs
    have h1 : (0 : Int) ≤ (k : Int) ∧ (k : Int) ≤ (c : Int) := ⟨by omega, by omega⟩
    have hm : A.map (fun a : Addr => a.add 0) = A := by cases A <;> simp [addr_zero]
    simp [Instr.sliceAt, Instr.slice, Instr.sliceBounds, Instr.sliceBound, asIntOf, run_underlying hu, sizeOf, typeInfo, hq, h1, hm]
    intro h9
    omega
/-- '+' of strings. -/
theorem exec_cat (t t' : TypeId) (x y : Operand) (ho : o.op = .binOp .add t x y t') (l m : List UInt8) (hx : f x = .string ⟨l.toArray⟩) (hy : f y = .string ⟨m.toArray⟩) (hl : l.length + m.length ≤ 9223372036854775807) (w : World) :
    (execOp f o).run P w = .ok (.value (.string ⟨(l ++ m).toArray⟩)) w := by
  have hcat := ByteArray.mk_append_mk l m
  refine exec_bin ho hx hy (by rfl) ?_
  have h1 : (⟨l.toArray⟩ : ByteArray).size = l.length := by simp [ByteArray.size]
  have h2 : (⟨m.toArray⟩ : ByteArray).size = m.length := by simp [ByteArray.size]
  have h3 : ¬ 9223372036854775807 < l.length + m.length := by omega
  go_simp
end
end Go.Proofs.YtmmomcililideaaDoor

/-
  curve: points are compared.
-/
import Derived.Test.YtchhlgcakjjncaaDoorCw
set_option linter.unusedSimpArgs false
set_option linter.unusedVariables false
set_option maxRecDepth 100000
set_option maxHeartbeats 1600000
namespace Go.Proofs.YtchhlgcakjjncaaDoor
open Go.RowKit
theorem eqm_pt : Tryd.prog.eqGuardType Tryd.prog.depth 54 = false := by kernel_rfl
theorem run_ne_pt (w : World) (x y : Pt) : (binOp .neq 54 (.agg (ptc x).toArray) (.agg (ptc y).toArray)).run Tryd.prog w = .ok (.bool (decide (x ≠ y))) w := by
  obtain ⟨s, n, p, q⟩ := x
  obtain ⟨s', n', p', q'⟩ := y
  unfold ptc
  go_simp
  by_cases e0 : s = s' <;> by_cases e1 : n = n' <;> by_cases e2 : p = p' <;> by_cases e3 : q = q' <;> simp [e0, e1, e2, e3]
theorem exec_nep {f : Operand → Value} {o : Oper} (a b : Operand) (ho : o.op = .binOp .neq 54 a b 54) (x y : Pt) (hx : f a = .agg (ptc x).toArray) (hy : f b = .agg (ptc y).toArray) (c : Bool) (hc : decide (x ≠ y) = c) (X : World) : (execOp f o).run Tryd.prog X = .ok (.value (.bool c)) X :=
  exec_cmp_agg .neq _ _ a b ho _ _ hx hy eqm_pt _ X ((run_ne_pt X x y).trans (by rw [hc]))
end Go.Proofs.YtchhlgcakjjncaaDoor

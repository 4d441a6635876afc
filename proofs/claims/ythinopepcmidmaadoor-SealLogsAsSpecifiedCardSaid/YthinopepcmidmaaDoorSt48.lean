/-
  Law 48: short, told.
-/
import Derived.Test.YthinopepcmidmaaDoorS48
import Derived.Test.YthinopepcmidmaaDoorOq48
set_option linter.unusedSimpArgs false
set_option linter.unusedVariables false
set_option maxRecDepth 100000
set_option maxHeartbeats 1600000
namespace Go.Proofs.YthinopepcmidmaaDoor
open Go.RowKit
/-- A log and that it is one. -/
def Tld (l : List Sl) (v : Value) (X : World) : Prop := ∃ u, v = .tuple #[u, .bool true] ∧ Slv l u X
theorem Tld.lasts (l : List Sl) : Lasts (Tld l) := fun _ _ _ ⟨u, h1, h2⟩ hS => ⟨u, h1, Slv.lasts _ _ _ _ h2 hS⟩
theorem Tld.ext {l : List Sl} {P : Program} {f : Operand → Value} {o : Oper} (x : Operand) (ho : o.op = .extract x 0) {v : Value} (hx : f x = v) {X : World} (h : Tld l v X) : ∃ u X', (execOp f o).run P X = .ok (.value u) X' ∧ Slv l u X' ∧ Since X X' := by
  obtain ⟨u, rfl, h1⟩ := h
  refine ⟨_, X, ?_, h1, Below.refl _ _⟩
  unfold execOp
  simp only [ho, hx]
  go_simp
theorem Tld.is {l : List Sl} {P : Program} {f : Operand → Value} {o : Oper} (x : Operand) (ho : o.op = .extract x 1) {v : Value} (hx : f x = v) {X : World} (h : Tld l v X) : (execOp f o).run P X = .ok (.value (.bool true)) X := by
  obtain ⟨u, rfl, h1⟩ := h
  unfold execOp
  simp only [ho, hx]
  go_simp
end Go.Proofs.YthinopepcmidmaaDoor

/-
  Law 48: SealNamesBind.
-/
import Derived.Test.YthinopepcmidmaaDoorLt48
set_option linter.unusedSimpArgs false
set_option linter.unusedVariables false
set_option maxRecDepth 100000
set_option maxHeartbeats 1600000
namespace Go.Proofs.YthinopepcmidmaaDoor
open Go.RowKit
theorem load_sl_a (b k : Nat) (X : World) (v : Value) (h : X.cell? ⟨b, k, none⟩ = some v) : (loadVar 30 ⟨b, k, none⟩).run Tryd.prog X = .ok v X := by
  go_simp
end Go.Proofs.YthinopepcmidmaaDoor

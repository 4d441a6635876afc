/-
  Law 48: words for what is told.
-/
import Derived.Test.YthinopepcmidmaaDoorSt48
set_option linter.unusedSimpArgs false
set_option linter.unusedVariables false
set_option maxRecDepth 100000
set_option maxHeartbeats 1600000
namespace Go.Proofs.YthinopepcmidmaaDoor
open Go.RowKit
theorem slv_of {log : List Sl} {A : Option Addr} {n c : Nat} {X : World} (hl : log.length = n) (h : Rd X 37 (.slice A n c) n (fl slc log)) : Slv log (.slice A n c) X := by
  subst hl
  exact ⟨_, _, rfl, h⟩
theorem rck_pos {r : List (List UInt8)} (h : rckE r = 0) : 1 ≤ r.length := by
  unfold rckE at h
  split at h
  · cases h
  · omega
end Go.Proofs.YthinopepcmidmaaDoor

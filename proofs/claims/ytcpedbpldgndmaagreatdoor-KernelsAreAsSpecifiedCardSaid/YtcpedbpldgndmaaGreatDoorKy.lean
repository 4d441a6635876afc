/-
  law 31: Few, trimmed, moment.
-/
import Derived.Test.YtcpedbpldgndmaaGreatDoorKx
set_option linter.unusedSimpArgs false
set_option linter.unusedVariables false
set_option maxRecDepth 100000
set_option maxHeartbeats 1600000
namespace Go.Proofs.YtcpedbpldgndmaaGreatDoor
open Go.RowKit
/-- How many numbers are left without the zeros at the end. -/
def tl (l : List Rat) : Nat → Nat
 | 0 => 0
 | k + 1 => if yq l k = 0 then tl l k else k + 1
theorem Rq.at {l : List Rat} {v : Value} {w : World} (h : Rq l v w) : ∃ A n c, v = .slice A n c ∧ l.length = n ∧ n ≤ c ∧ n ≤ 9223372036854775807 ∧ c ≤ maxLen ∧ Rd w 3 (.slice A n c) n (fl trc (l.map tr)) := by
 have h9 : Rd w 3 v (l.map tr).length (fl trc (l.map tr)) := h;have h8 := h9;obtain ⟨hl, A, c, h2, hc, hm, hx⟩ := h9;subst h2;rw [List.length_map] at hc h8 ⊢;refine ⟨A, l.length, c, rfl, rfl, hc, ?_, hm, h8⟩
 unfold maxLen at hm
 omega
end Go.Proofs.YtcpedbpldgndmaaGreatDoor

/-
  Drawn regions with a store of a whole struct among other operations.
-/
import Derived.Test.YtcpedbpldgndmaaDoorQpk
set_option linter.unusedSimpArgs false
set_option linter.unusedVariables false
set_option maxRecDepth 100000
set_option maxHeartbeats 1600000
namespace Go.Proofs.YtcpedbpldgndmaaDoor
open Go.RowKit
theorem Turns.of_since {g : Nat} {t : TypeId} {xs ys : List Value} {X Y : World} (h : Since X Y) : Turns g t xs ys X Y :=
 ⟨⟨h.os, h.tape, h.output, h.size, fun k hk _ => h.block k hk⟩, fun hx => .inl (hx.bel h), fun hy => hy.bel h⟩
section
variable {P : Program} {l : List Oper} {ops : Array Oper} {w : World} {Q : Act → World → Prop} {pre : Nat → Nat → Bool} {a : Act} {k : Nat} {o : Oper} {rest : List (Nat × Oper × Spec)} {Fs : List (Nat × (World → Prop))}
end
end Go.Proofs.YtcpedbpldgndmaaDoor

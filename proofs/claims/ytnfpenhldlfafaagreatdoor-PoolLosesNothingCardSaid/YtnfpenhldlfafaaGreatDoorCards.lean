/-
  DERIVED. GIVEN WITH THE SEED: THE CARDS: each row of YtnfpenhldlfafaaGreatDoorRows.lean that lists a variable, with what it lists TIED to the program's text (the seventh form; the later family's looks); each row that meets fmt, with fmt's text TOLD by the authors' own Lean function (tested against real Go, not proved from fmt's source: count such statements apart). THE CARD IS WHAT COUNTS. Prove the row's statement (the work); the ties are given (YtnfpenhldlfafaaGreatDoorTie.lean); close each card by the builder's one call (the guide's Derived/Test/ToyasCard.lean, 'card_holds'). Laid BY PROGRAM, IN A SANDBOX (cutbox-door.mjs). By AI agents, Wed Nov 11 2026. No macro, syntax, notation, axiom, sorry.
-/
import Derived.Test.YtnfpenhldlfafaaGreatDoorRows
import GoSem.ClaimSeven
namespace Go.Proofs.YtnfpenhldlfafaaGreatDoor
namespace Rows

/-- THE TIED CARD OF 'rivermarklaw41.PoolsAreAsSpecified'. -/
def poolsAreAsSpecifiedCard : Claim7 := { stood := { row := poolsAreAsSpecifiedRow, standIns := [], harness := (true, "489aa6b6c22affda2728b074628d92d97623558a4f5bfeb5ffb2cd34c286e647"), looks := false }, kinds := [], alts := [], laidByText := true, laidKinds := [.data, .pinned], laidTests := true, laidLooks := .later }
def PoolsAreAsSpecifiedCardSaid : Prop := Claim7.holds Tryz.pinned (.plain (OpenSpec.ofChange poolsAreAsSpecifiedSpec)) poolsAreAsSpecifiedCard

/-- THE TIED CARD OF 'rivermarklaw41.PoolLosesNothing'. -/
def poolLosesNothingCard : Claim7 := { stood := { row := poolLosesNothingRow, standIns := [], harness := (true, "489aa6b6c22affda2728b074628d92d97623558a4f5bfeb5ffb2cd34c286e647"), looks := false }, kinds := [], alts := [], laidByText := true, laidKinds := [.data, .pinned], laidTests := true, laidLooks := .later }
def PoolLosesNothingCardSaid : Prop := Claim7.holds Tryz.pinned (.plain (OpenSpec.ofChange poolLosesNothingSpec)) poolLosesNothingCard

/-- THE SECOND FORM's CARD OF 'rivermarklaw41.PoolsAreAsSpecified'. -/
def poolsAreAsSpecifiedUptoCard : Claim7 := { stood := { row := poolsAreAsSpecifiedUptoRow, standIns := [], harness := (true, "489aa6b6c22affda2728b074628d92d97623558a4f5bfeb5ffb2cd34c286e647"), looks := false }, kinds := [], alts := [], laidByText := true, laidKinds := [.data, .pinned], laidTests := true, laidLooks := .later }
def PoolsAreAsSpecifiedUptoCardSaid : Prop := Claim7.holds Tryz.pinned (.plain (OpenSpec.upto poolsAreAsSpecifiedSpec)) poolsAreAsSpecifiedUptoCard

/-- THE SECOND FORM's CARD OF 'rivermarklaw41.PoolLosesNothing'. -/
def poolLosesNothingUptoCard : Claim7 := { stood := { row := poolLosesNothingUptoRow, standIns := [], harness := (true, "489aa6b6c22affda2728b074628d92d97623558a4f5bfeb5ffb2cd34c286e647"), looks := false }, kinds := [], alts := [], laidByText := true, laidKinds := [.data, .pinned], laidTests := true, laidLooks := .later }
def PoolLosesNothingUptoCardSaid : Prop := Claim7.holds Tryz.pinned (.plain (OpenSpec.upto poolLosesNothingSpec)) poolLosesNothingUptoCard
end Rows
end Go.Proofs.YtnfpenhldlfafaaGreatDoor

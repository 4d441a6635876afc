/-
  DERIVED. GIVEN WITH THE SEED: THE CARDS: each row of YtffgfkcljcollaaGreatDoorRows.lean that lists a variable, with what it lists TIED to the program's text (the seventh form; the later family's looks); each row that meets fmt, with fmt's text TOLD by the authors' own Lean function (tested against real Go, not proved from fmt's source: count such statements apart). THE CARD IS WHAT COUNTS. Prove the row's statement (the work); the ties are given (YtffgfkcljcollaaGreatDoorTie.lean); close each card by the builder's one call (the guide's Derived/Test/ToyasCard.lean, 'card_holds'). Laid BY PROGRAM, IN A SANDBOX (cutbox-door.mjs). By AI agents, Wed Nov 11 2026. No macro, syntax, notation, axiom, sorry.
-/
import Derived.Test.YtffgfkcljcollaaGreatDoorRows
import GoSem.ClaimSeven
namespace Go.Proofs.YtffgfkcljcollaaGreatDoor
namespace Rows

/-- THE TIED CARD OF 'rivermarklaw44.AccountsAreAsSpecified'. -/
def accountsAreAsSpecifiedCard : Claim7 := { stood := { row := accountsAreAsSpecifiedRow, standIns := [], harness := (true, "3bb4508e268802cf8f664b457108f643a90f49ca46a69831cf57c5a0542bbd9d"), looks := false }, kinds := [], alts := [], laidByText := true, laidKinds := [.data, .pinned], laidTests := true, laidLooks := .later }
def AccountsAreAsSpecifiedCardSaid : Prop := Claim7.holds Tryz.pinned (.plain (OpenSpec.ofChange accountsAreAsSpecifiedSpec)) accountsAreAsSpecifiedCard

/-- THE SECOND FORM's CARD OF 'rivermarklaw44.AccountsAreAsSpecified'. -/
def accountsAreAsSpecifiedUptoCard : Claim7 := { stood := { row := accountsAreAsSpecifiedUptoRow, standIns := [], harness := (true, "3bb4508e268802cf8f664b457108f643a90f49ca46a69831cf57c5a0542bbd9d"), looks := false }, kinds := [], alts := [], laidByText := true, laidKinds := [.data, .pinned], laidTests := true, laidLooks := .later }
def AccountsAreAsSpecifiedUptoCardSaid : Prop := Claim7.holds Tryz.pinned (.plain (OpenSpec.upto accountsAreAsSpecifiedSpec)) accountsAreAsSpecifiedUptoCard
end Rows
end Go.Proofs.YtffgfkcljcollaaGreatDoor

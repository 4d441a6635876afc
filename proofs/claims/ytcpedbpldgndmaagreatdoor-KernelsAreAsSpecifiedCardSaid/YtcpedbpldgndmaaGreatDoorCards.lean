/-
  DERIVED. GIVEN WITH THE SEED: THE CARDS: each row of YtcpedbpldgndmaaGreatDoorRows.lean that lists a variable, with what it lists TIED to the program's text (the seventh form; the later family's looks); each row that meets fmt, with fmt's text TOLD by the authors' own Lean function (tested against real Go, not proved from fmt's source: count such statements apart). THE CARD IS WHAT COUNTS. Prove the row's statement (the work); the ties are given (YtcpedbpldgndmaaGreatDoorTie.lean); close each card by the builder's one call (the guide's Derived/Test/ToyasCard.lean, 'card_holds'). Laid BY PROGRAM, IN A SANDBOX (cutbox-door.mjs). By AI agents, Wed Nov 11 2026. No macro, syntax, notation, axiom, sorry.
-/
import Derived.Test.YtcpedbpldgndmaaGreatDoorRows
import GoSem.ClaimSeven
namespace Go.Proofs.YtcpedbpldgndmaaGreatDoor
namespace Rows

/-- THE TIED CARD OF 'rivermarklaw31.KernelsAreAsSpecified'. -/
def kernelsAreAsSpecifiedCard : Claim7 := { stood := { row := kernelsAreAsSpecifiedRow, standIns := [], harness := (true, "a23e84705606ec0ecfcd0e78450b1ffc1290f22a854ec31b25495467da1aee36"), looks := false }, kinds := [], alts := [], laidByText := true, laidKinds := [.data, .pinned], laidTests := true, laidLooks := .later }
def KernelsAreAsSpecifiedCardSaid : Prop := Claim7.holds Tryz.pinned (.plain (OpenSpec.ofChange kernelsAreAsSpecifiedSpec)) kernelsAreAsSpecifiedCard

/-- THE TIED CARD OF 'rivermarklaw31.KernelsComposeAsSpecified'. -/
def kernelsComposeAsSpecifiedCard : Claim7 := { stood := { row := kernelsComposeAsSpecifiedRow, standIns := [], harness := (true, "a23e84705606ec0ecfcd0e78450b1ffc1290f22a854ec31b25495467da1aee36"), looks := false }, kinds := [], alts := [], laidByText := true, laidKinds := [.data, .pinned], laidTests := true, laidLooks := .later }
def KernelsComposeAsSpecifiedCardSaid : Prop := Claim7.holds Tryz.pinned (.plain (OpenSpec.ofChange kernelsComposeAsSpecifiedSpec)) kernelsComposeAsSpecifiedCard

/-- THE SECOND FORM's CARD OF 'rivermarklaw31.KernelsAreAsSpecified'. -/
def kernelsAreAsSpecifiedUptoCard : Claim7 := { stood := { row := kernelsAreAsSpecifiedUptoRow, standIns := [], harness := (true, "a23e84705606ec0ecfcd0e78450b1ffc1290f22a854ec31b25495467da1aee36"), looks := false }, kinds := [], alts := [], laidByText := true, laidKinds := [.data, .pinned], laidTests := true, laidLooks := .later }
def KernelsAreAsSpecifiedUptoCardSaid : Prop := Claim7.holds Tryz.pinned (.plain (OpenSpec.upto kernelsAreAsSpecifiedSpec)) kernelsAreAsSpecifiedUptoCard

/-- THE SECOND FORM's CARD OF 'rivermarklaw31.KernelsComposeAsSpecified'. -/
def kernelsComposeAsSpecifiedUptoCard : Claim7 := { stood := { row := kernelsComposeAsSpecifiedUptoRow, standIns := [], harness := (true, "a23e84705606ec0ecfcd0e78450b1ffc1290f22a854ec31b25495467da1aee36"), looks := false }, kinds := [], alts := [], laidByText := true, laidKinds := [.data, .pinned], laidTests := true, laidLooks := .later }
def KernelsComposeAsSpecifiedUptoCardSaid : Prop := Claim7.holds Tryz.pinned (.plain (OpenSpec.upto kernelsComposeAsSpecifiedSpec)) kernelsComposeAsSpecifiedUptoCard
end Rows
end Go.Proofs.YtcpedbpldgndmaaGreatDoor

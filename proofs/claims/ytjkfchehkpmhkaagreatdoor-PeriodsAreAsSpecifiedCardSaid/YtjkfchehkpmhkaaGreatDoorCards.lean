/-
  DERIVED. GIVEN WITH THE SEED: THE CARDS: each row of YtjkfchehkpmhkaaGreatDoorRows.lean that lists a variable, with what it lists TIED to the program's text (the seventh form; the later family's looks); each row that meets fmt, with fmt's text TOLD by the authors' own Lean function (tested against real Go, not proved from fmt's source: count such statements apart). THE CARD IS WHAT COUNTS. Prove the row's statement (the work); the ties are given (YtjkfchehkpmhkaaGreatDoorTie.lean); close each card by the builder's one call (the guide's Derived/Test/ToyasCard.lean, 'card_holds'). Laid BY PROGRAM, IN A SANDBOX (cutbox-door.mjs). By AI agents, Wed Nov 11 2026. No macro, syntax, notation, axiom, sorry.
-/
import Derived.Test.YtjkfchehkpmhkaaGreatDoorRows
import GoSem.ClaimSeven
namespace Go.Proofs.YtjkfchehkpmhkaaGreatDoor
namespace Rows

/-- THE TIED CARD OF 'rivermarklaw45.PeriodsAreAsSpecified'. -/
def periodsAreAsSpecifiedCard : Claim7 := { stood := { row := periodsAreAsSpecifiedRow, standIns := [], harness := (true, "9e3dd6b99331a7b8d5afd3d249a0c1075e523ff46cbd6f898b200a6389af75f8"), looks := false }, kinds := [], alts := [], laidByText := true, laidKinds := [.data, .pinned], laidTests := true, laidLooks := .later }
def PeriodsAreAsSpecifiedCardSaid : Prop := Claim7.holds Tryz.pinned (.plain (OpenSpec.ofChange periodsAreAsSpecifiedSpec)) periodsAreAsSpecifiedCard

/-- THE TIED CARD OF 'rivermarklaw45.PeriodFiguresAsSpecified'. -/
def periodFiguresAsSpecifiedCard : Claim7 := { stood := { row := periodFiguresAsSpecifiedRow, standIns := [], harness := (true, "9e3dd6b99331a7b8d5afd3d249a0c1075e523ff46cbd6f898b200a6389af75f8"), looks := false }, kinds := [], alts := [], laidByText := true, laidKinds := [.data, .pinned], laidTests := true, laidLooks := .later }
def PeriodFiguresAsSpecifiedCardSaid : Prop := Claim7.holds Tryz.pinned (.plain (OpenSpec.ofChange periodFiguresAsSpecifiedSpec)) periodFiguresAsSpecifiedCard

/-- THE SECOND FORM's CARD OF 'rivermarklaw45.PeriodsAreAsSpecified'. -/
def periodsAreAsSpecifiedUptoCard : Claim7 := { stood := { row := periodsAreAsSpecifiedUptoRow, standIns := [], harness := (true, "9e3dd6b99331a7b8d5afd3d249a0c1075e523ff46cbd6f898b200a6389af75f8"), looks := false }, kinds := [], alts := [], laidByText := true, laidKinds := [.data, .pinned], laidTests := true, laidLooks := .later }
def PeriodsAreAsSpecifiedUptoCardSaid : Prop := Claim7.holds Tryz.pinned (.plain (OpenSpec.upto periodsAreAsSpecifiedSpec)) periodsAreAsSpecifiedUptoCard

/-- THE SECOND FORM's CARD OF 'rivermarklaw45.PeriodFiguresAsSpecified'. -/
def periodFiguresAsSpecifiedUptoCard : Claim7 := { stood := { row := periodFiguresAsSpecifiedUptoRow, standIns := [], harness := (true, "9e3dd6b99331a7b8d5afd3d249a0c1075e523ff46cbd6f898b200a6389af75f8"), looks := false }, kinds := [], alts := [], laidByText := true, laidKinds := [.data, .pinned], laidTests := true, laidLooks := .later }
def PeriodFiguresAsSpecifiedUptoCardSaid : Prop := Claim7.holds Tryz.pinned (.plain (OpenSpec.upto periodFiguresAsSpecifiedSpec)) periodFiguresAsSpecifiedUptoCard
end Rows
end Go.Proofs.YtjkfchehkpmhkaaGreatDoor

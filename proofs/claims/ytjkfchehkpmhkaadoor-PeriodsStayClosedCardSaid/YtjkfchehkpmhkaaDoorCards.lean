/-
  DERIVED. GIVEN WITH THE SEED: THE CARDS: each row of YtjkfchehkpmhkaaDoorRows.lean that lists a variable, with what it lists TIED to the program's text (the seventh form; the later family's looks); each row that meets fmt, with fmt's text TOLD by the authors' own Lean function (tested against real Go, not proved from fmt's source: count such statements apart). THE CARD IS WHAT COUNTS. Prove the row's statement (the work); the ties are given (YtjkfchehkpmhkaaDoorTie.lean); close each card by the builder's one call (the guide's Derived/Test/ToyasCard.lean, 'card_holds'). Laid BY PROGRAM, IN A SANDBOX (cutbox-door.mjs). By AI agents, Wed Nov 11 2026. No macro, syntax, notation, axiom, sorry.
-/
import Derived.Test.YtjkfchehkpmhkaaDoorRows
import GoSem.ClaimSeven
namespace Go.Proofs.YtjkfchehkpmhkaaDoor
namespace Rows

/-- THE TIED CARD OF 'rivermarklaw45.PeriodsForgetNothing'. -/
def periodsForgetNothingCard : Claim7 := { stood := { row := periodsForgetNothingRow, standIns := [], harness := (true, "e5f359354a0d2f42823b5818a098fbeb2300f941a17d719b301e67218a8b5dc5"), looks := false }, kinds := [], alts := [], laidByText := true, laidKinds := [.data, .pinned], laidTests := true, laidLooks := .later }
def PeriodsForgetNothingCardSaid : Prop := Claim7.holds Tryd.pinned (.plain (OpenSpec.ofChange periodsForgetNothingSpec)) periodsForgetNothingCard

/-- THE TIED CARD OF 'rivermarklaw45.PeriodsBalance'. -/
def periodsBalanceCard : Claim7 := { stood := { row := periodsBalanceRow, standIns := [], harness := (true, "e5f359354a0d2f42823b5818a098fbeb2300f941a17d719b301e67218a8b5dc5"), looks := false }, kinds := [], alts := [], laidByText := true, laidKinds := [.data, .pinned], laidTests := true, laidLooks := .later }
def PeriodsBalanceCardSaid : Prop := Claim7.holds Tryd.pinned (.plain (OpenSpec.ofChange periodsBalanceSpec)) periodsBalanceCard

/-- THE TIED CARD OF 'rivermarklaw45.PeriodsStayClosed'. -/
def periodsStayClosedCard : Claim7 := { stood := { row := periodsStayClosedRow, standIns := [], harness := (true, "e5f359354a0d2f42823b5818a098fbeb2300f941a17d719b301e67218a8b5dc5"), looks := false }, kinds := [], alts := [], laidByText := true, laidKinds := [.data, .pinned], laidTests := true, laidLooks := .later }
def PeriodsStayClosedCardSaid : Prop := Claim7.holds Tryd.pinned (.plain (OpenSpec.ofChange periodsStayClosedSpec)) periodsStayClosedCard

/-- THE SECOND FORM's CARD OF 'rivermarklaw45.PeriodsForgetNothing'. -/
def periodsForgetNothingUptoCard : Claim7 := { stood := { row := periodsForgetNothingUptoRow, standIns := [], harness := (true, "e5f359354a0d2f42823b5818a098fbeb2300f941a17d719b301e67218a8b5dc5"), looks := false }, kinds := [], alts := [], laidByText := true, laidKinds := [.data, .pinned], laidTests := true, laidLooks := .later }
def PeriodsForgetNothingUptoCardSaid : Prop := Claim7.holds Tryd.pinned (.plain (OpenSpec.upto periodsForgetNothingSpec)) periodsForgetNothingUptoCard

/-- THE SECOND FORM's CARD OF 'rivermarklaw45.PeriodsBalance'. -/
def periodsBalanceUptoCard : Claim7 := { stood := { row := periodsBalanceUptoRow, standIns := [], harness := (true, "e5f359354a0d2f42823b5818a098fbeb2300f941a17d719b301e67218a8b5dc5"), looks := false }, kinds := [], alts := [], laidByText := true, laidKinds := [.data, .pinned], laidTests := true, laidLooks := .later }
def PeriodsBalanceUptoCardSaid : Prop := Claim7.holds Tryd.pinned (.plain (OpenSpec.upto periodsBalanceSpec)) periodsBalanceUptoCard

/-- THE SECOND FORM's CARD OF 'rivermarklaw45.PeriodsStayClosed'. -/
def periodsStayClosedUptoCard : Claim7 := { stood := { row := periodsStayClosedUptoRow, standIns := [], harness := (true, "e5f359354a0d2f42823b5818a098fbeb2300f941a17d719b301e67218a8b5dc5"), looks := false }, kinds := [], alts := [], laidByText := true, laidKinds := [.data, .pinned], laidTests := true, laidLooks := .later }
def PeriodsStayClosedUptoCardSaid : Prop := Claim7.holds Tryd.pinned (.plain (OpenSpec.upto periodsStayClosedSpec)) periodsStayClosedUptoCard
end Rows
end Go.Proofs.YtjkfchehkpmhkaaDoor

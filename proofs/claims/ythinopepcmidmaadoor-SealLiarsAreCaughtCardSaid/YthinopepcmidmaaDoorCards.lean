/-
  DERIVED. GIVEN WITH THE SEED: THE CARDS: each row of YthinopepcmidmaaDoorRows.lean that lists a variable, with what it lists TIED to the program's text (the seventh form; the later family's looks); each row that meets fmt, with fmt's text TOLD by the authors' own Lean function (tested against real Go, not proved from fmt's source: count such statements apart). THE CARD IS WHAT COUNTS. Prove the row's statement (the work); the ties are given (YthinopepcmidmaaDoorTie.lean); close each card by the builder's one call (the guide's Derived/Test/ToyasCard.lean, 'card_holds'). Laid BY PROGRAM, IN A SANDBOX (cutbox-door.mjs). By AI agents, Wed Nov 11 2026. No macro, syntax, notation, axiom, sorry.
-/
import Derived.Test.YthinopepcmidmaaDoorRows
import GoSem.ClaimSeven
namespace Go.Proofs.YthinopepcmidmaaDoor
namespace Rows

/-- THE TIED CARD OF 'rivermarklaw48.SealsAsSpecified'. -/
def sealsAsSpecifiedCard : Claim7 := { stood := { row := sealsAsSpecifiedRow, standIns := [], harness := (true, "88d207c1301178cbc46fa454d6c6498ed6c882db801598e1b85e19e566e7cdcc"), looks := false }, kinds := [], alts := [], laidByText := true, laidKinds := [.data, .data], laidTests := true, laidLooks := .later }
def SealsAsSpecifiedCardSaid : Prop := Claim7.holds Tryd.pinned (.plain (OpenSpec.ofChange sealsAsSpecifiedSpec)) sealsAsSpecifiedCard

/-- THE TIED CARD OF 'rivermarklaw48.SealLogsAsSpecified'. -/
def sealLogsAsSpecifiedCard : Claim7 := { stood := { row := sealLogsAsSpecifiedRow, standIns := [], harness := (true, "88d207c1301178cbc46fa454d6c6498ed6c882db801598e1b85e19e566e7cdcc"), looks := false }, kinds := [], alts := [], laidByText := true, laidKinds := [.data, .data], laidTests := true, laidLooks := .later }
def SealLogsAsSpecifiedCardSaid : Prop := Claim7.holds Tryd.pinned (.plain (OpenSpec.ofChange sealLogsAsSpecifiedSpec)) sealLogsAsSpecifiedCard

/-- THE TIED CARD OF 'rivermarklaw48.SealHonestIsSafe'. -/
def sealHonestIsSafeCard : Claim7 := { stood := { row := sealHonestIsSafeRow, standIns := [], harness := (true, "88d207c1301178cbc46fa454d6c6498ed6c882db801598e1b85e19e566e7cdcc"), looks := false }, kinds := [], alts := [], laidByText := true, laidKinds := [.data], laidTests := true, laidLooks := .later }
def SealHonestIsSafeCardSaid : Prop := Claim7.holds Tryd.pinned (.plain (OpenSpec.ofChange sealHonestIsSafeSpec)) sealHonestIsSafeCard

/-- THE TIED CARD OF 'rivermarklaw48.SealLiarsAreCaught'. -/
def sealLiarsAreCaughtCard : Claim7 := { stood := { row := sealLiarsAreCaughtRow, standIns := [], harness := (true, "88d207c1301178cbc46fa454d6c6498ed6c882db801598e1b85e19e566e7cdcc"), looks := false }, kinds := [], alts := [], laidByText := true, laidKinds := [.data], laidTests := true, laidLooks := .later }
def SealLiarsAreCaughtCardSaid : Prop := Claim7.holds Tryd.pinned (.plain (OpenSpec.ofChange sealLiarsAreCaughtSpec)) sealLiarsAreCaughtCard

/-- THE TIED CARD OF 'rivermarklaw48.SealNamesBind'. -/
def sealNamesBindCard : Claim7 := { stood := { row := sealNamesBindRow, standIns := [], harness := (true, "88d207c1301178cbc46fa454d6c6498ed6c882db801598e1b85e19e566e7cdcc"), looks := false }, kinds := [], alts := [], laidByText := true, laidKinds := [.data], laidTests := true, laidLooks := .later }
def SealNamesBindCardSaid : Prop := Claim7.holds Tryd.pinned (.plain (OpenSpec.ofChange sealNamesBindSpec)) sealNamesBindCard

/-- THE TIED CARD OF 'rivermarklaw48.SealNeedsTheSecret'. -/
def sealNeedsTheSecretCard : Claim7 := { stood := { row := sealNeedsTheSecretRow, standIns := [], harness := (true, "88d207c1301178cbc46fa454d6c6498ed6c882db801598e1b85e19e566e7cdcc"), looks := false }, kinds := [], alts := [], laidByText := true, laidKinds := [.data], laidTests := true, laidLooks := .later }
def SealNeedsTheSecretCardSaid : Prop := Claim7.holds Tryd.pinned (.plain (OpenSpec.ofChange sealNeedsTheSecretSpec)) sealNeedsTheSecretCard

/-- THE SECOND FORM's CARD OF 'rivermarklaw48.SealsAsSpecified'. -/
def sealsAsSpecifiedUptoCard : Claim7 := { stood := { row := sealsAsSpecifiedUptoRow, standIns := [], harness := (true, "88d207c1301178cbc46fa454d6c6498ed6c882db801598e1b85e19e566e7cdcc"), looks := false }, kinds := [], alts := [], laidByText := true, laidKinds := [.data, .data], laidTests := true, laidLooks := .later }
def SealsAsSpecifiedUptoCardSaid : Prop := Claim7.holds Tryd.pinned (.plain (OpenSpec.upto sealsAsSpecifiedSpec)) sealsAsSpecifiedUptoCard

/-- THE SECOND FORM's CARD OF 'rivermarklaw48.SealLogsAsSpecified'. -/
def sealLogsAsSpecifiedUptoCard : Claim7 := { stood := { row := sealLogsAsSpecifiedUptoRow, standIns := [], harness := (true, "88d207c1301178cbc46fa454d6c6498ed6c882db801598e1b85e19e566e7cdcc"), looks := false }, kinds := [], alts := [], laidByText := true, laidKinds := [.data, .data], laidTests := true, laidLooks := .later }
def SealLogsAsSpecifiedUptoCardSaid : Prop := Claim7.holds Tryd.pinned (.plain (OpenSpec.upto sealLogsAsSpecifiedSpec)) sealLogsAsSpecifiedUptoCard

/-- THE SECOND FORM's CARD OF 'rivermarklaw48.SealHonestIsSafe'. -/
def sealHonestIsSafeUptoCard : Claim7 := { stood := { row := sealHonestIsSafeUptoRow, standIns := [], harness := (true, "88d207c1301178cbc46fa454d6c6498ed6c882db801598e1b85e19e566e7cdcc"), looks := false }, kinds := [], alts := [], laidByText := true, laidKinds := [.data], laidTests := true, laidLooks := .later }
def SealHonestIsSafeUptoCardSaid : Prop := Claim7.holds Tryd.pinned (.plain (OpenSpec.upto sealHonestIsSafeSpec)) sealHonestIsSafeUptoCard

/-- THE SECOND FORM's CARD OF 'rivermarklaw48.SealLiarsAreCaught'. -/
def sealLiarsAreCaughtUptoCard : Claim7 := { stood := { row := sealLiarsAreCaughtUptoRow, standIns := [], harness := (true, "88d207c1301178cbc46fa454d6c6498ed6c882db801598e1b85e19e566e7cdcc"), looks := false }, kinds := [], alts := [], laidByText := true, laidKinds := [.data], laidTests := true, laidLooks := .later }
def SealLiarsAreCaughtUptoCardSaid : Prop := Claim7.holds Tryd.pinned (.plain (OpenSpec.upto sealLiarsAreCaughtSpec)) sealLiarsAreCaughtUptoCard

/-- THE SECOND FORM's CARD OF 'rivermarklaw48.SealNamesBind'. -/
def sealNamesBindUptoCard : Claim7 := { stood := { row := sealNamesBindUptoRow, standIns := [], harness := (true, "88d207c1301178cbc46fa454d6c6498ed6c882db801598e1b85e19e566e7cdcc"), looks := false }, kinds := [], alts := [], laidByText := true, laidKinds := [.data], laidTests := true, laidLooks := .later }
def SealNamesBindUptoCardSaid : Prop := Claim7.holds Tryd.pinned (.plain (OpenSpec.upto sealNamesBindSpec)) sealNamesBindUptoCard

/-- THE SECOND FORM's CARD OF 'rivermarklaw48.SealNeedsTheSecret'. -/
def sealNeedsTheSecretUptoCard : Claim7 := { stood := { row := sealNeedsTheSecretUptoRow, standIns := [], harness := (true, "88d207c1301178cbc46fa454d6c6498ed6c882db801598e1b85e19e566e7cdcc"), looks := false }, kinds := [], alts := [], laidByText := true, laidKinds := [.data], laidTests := true, laidLooks := .later }
def SealNeedsTheSecretUptoCardSaid : Prop := Claim7.holds Tryd.pinned (.plain (OpenSpec.upto sealNeedsTheSecretSpec)) sealNeedsTheSecretUptoCard
end Rows
end Go.Proofs.YthinopepcmidmaaDoor

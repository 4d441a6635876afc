/-
  DERIVED. GIVEN WITH THE SEED: THE CARDS: each row of YtchhlgcakjjncaaGreatDoorRows.lean that lists a variable, with what it lists TIED to the program's text (the seventh form; the later family's looks); each row that meets fmt, with fmt's text TOLD by the authors' own Lean function (tested against real Go, not proved from fmt's source: count such statements apart). THE CARD IS WHAT COUNTS. Prove the row's statement (the work); the ties are given (YtchhlgcakjjncaaGreatDoorTie.lean); close each card by the builder's one call (the guide's Derived/Test/ToyasCard.lean, 'card_holds'). Laid BY PROGRAM, IN A SANDBOX (cutbox-door.mjs). By AI agents, Wed Nov 11 2026. No macro, syntax, notation, axiom, sorry.
-/
import Derived.Test.YtchhlgcakjjncaaGreatDoorRows
import GoSem.ClaimSeven
namespace Go.Proofs.YtchhlgcakjjncaaGreatDoor
namespace Rows

/-- THE TIED CARD OF 'rivermarklaw05.RatsAreAsSpecified'. -/
def ratsAreAsSpecifiedCard : Claim7 := { stood := { row := ratsAreAsSpecifiedRow, standIns := [], harness := (true, "bebbea0b0a4d0a524e80dbfb14734118a92244d3442609d345ecab118d2a83e4"), looks := false }, kinds := [], alts := [], laidByText := true, laidKinds := [.data, .pinned], laidTests := true, laidLooks := .later }
def RatsAreAsSpecifiedCardSaid : Prop := Claim7.holds Tryz.pinned (.plain (OpenSpec.ofChange ratsAreAsSpecifiedSpec)) ratsAreAsSpecifiedCard

/-- THE TIED CARD OF 'rivermarklaw13.CurveFlowsAsSpecified'. -/
def curveFlowsAsSpecifiedCard : Claim7 := { stood := { row := curveFlowsAsSpecifiedRow, standIns := [], harness := (true, "bebbea0b0a4d0a524e80dbfb14734118a92244d3442609d345ecab118d2a83e4"), looks := false }, kinds := [], alts := [], laidByText := true, laidKinds := [.data, .pinned], laidTests := true, laidLooks := .later }
def CurveFlowsAsSpecifiedCardSaid : Prop := Claim7.holds Tryz.pinned (.plain (OpenSpec.ofChange curveFlowsAsSpecifiedSpec)) curveFlowsAsSpecifiedCard

/-- THE TIED CARD OF 'rivermarklaw13.CurvesCompareAsSpecified'. -/
def curvesCompareAsSpecifiedCard : Claim7 := { stood := { row := curvesCompareAsSpecifiedRow, standIns := [], harness := (true, "bebbea0b0a4d0a524e80dbfb14734118a92244d3442609d345ecab118d2a83e4"), looks := false }, kinds := [], alts := [], laidByText := true, laidKinds := [.data, .pinned], laidTests := true, laidLooks := .later }
def CurvesCompareAsSpecifiedCardSaid : Prop := Claim7.holds Tryz.pinned (.plain (OpenSpec.ofChange curvesCompareAsSpecifiedSpec)) curvesCompareAsSpecifiedCard

/-- THE SECOND FORM's CARD OF 'rivermarklaw05.RatsAreAsSpecified'. -/
def ratsAreAsSpecifiedUptoCard : Claim7 := { stood := { row := ratsAreAsSpecifiedUptoRow, standIns := [], harness := (true, "bebbea0b0a4d0a524e80dbfb14734118a92244d3442609d345ecab118d2a83e4"), looks := false }, kinds := [], alts := [], laidByText := true, laidKinds := [.data, .pinned], laidTests := true, laidLooks := .later }
def RatsAreAsSpecifiedUptoCardSaid : Prop := Claim7.holds Tryz.pinned (.plain (OpenSpec.upto ratsAreAsSpecifiedSpec)) ratsAreAsSpecifiedUptoCard

/-- THE SECOND FORM's CARD OF 'rivermarklaw13.CurveFlowsAsSpecified'. -/
def curveFlowsAsSpecifiedUptoCard : Claim7 := { stood := { row := curveFlowsAsSpecifiedUptoRow, standIns := [], harness := (true, "bebbea0b0a4d0a524e80dbfb14734118a92244d3442609d345ecab118d2a83e4"), looks := false }, kinds := [], alts := [], laidByText := true, laidKinds := [.data, .pinned], laidTests := true, laidLooks := .later }
def CurveFlowsAsSpecifiedUptoCardSaid : Prop := Claim7.holds Tryz.pinned (.plain (OpenSpec.upto curveFlowsAsSpecifiedSpec)) curveFlowsAsSpecifiedUptoCard

/-- THE SECOND FORM's CARD OF 'rivermarklaw13.CurvesCompareAsSpecified'. -/
def curvesCompareAsSpecifiedUptoCard : Claim7 := { stood := { row := curvesCompareAsSpecifiedUptoRow, standIns := [], harness := (true, "bebbea0b0a4d0a524e80dbfb14734118a92244d3442609d345ecab118d2a83e4"), looks := false }, kinds := [], alts := [], laidByText := true, laidKinds := [.data, .pinned], laidTests := true, laidLooks := .later }
def CurvesCompareAsSpecifiedUptoCardSaid : Prop := Claim7.holds Tryz.pinned (.plain (OpenSpec.upto curvesCompareAsSpecifiedSpec)) curvesCompareAsSpecifiedUptoCard
end Rows
end Go.Proofs.YtchhlgcakjjncaaGreatDoor

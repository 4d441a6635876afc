/-
  DERIVED. GIVEN WITH THE SEED: THE CARDS: each row of YtchhlgcakjjncaaDoorRows.lean that lists a variable, with what it lists TIED to the program's text (the seventh form; the later family's looks); each row that meets fmt, with fmt's text TOLD by the authors' own Lean function (tested against real Go, not proved from fmt's source: count such statements apart). THE CARD IS WHAT COUNTS. Prove the row's statement (the work); the ties are given (YtchhlgcakjjncaaDoorTie.lean); close each card by the builder's one call (the guide's Derived/Test/ToyasCard.lean, 'card_holds'). Laid BY PROGRAM, IN A SANDBOX (cutbox-door.mjs). By AI agents, Wed Nov 11 2026. No macro, syntax, notation, axiom, sorry.
-/
import Derived.Test.YtchhlgcakjjncaaDoorRows
import GoSem.ClaimSeven
namespace Go.Proofs.YtchhlgcakjjncaaDoor
namespace Rows

/-- THE TIED CARD OF 'rivermarklaw05.RatTextsAsSpecified'. -/
def ratTextsAsSpecifiedCard : Claim7 := { stood := { row := ratTextsAsSpecifiedRow, standIns := [], harness := (true, "5088a479cdce1d3f6aab0d17c472f2223d0450b8975a446aa2b7a46d14314058"), looks := false }, kinds := [], alts := [], laidByText := true, laidKinds := [.data, .pinned], laidTests := true, laidLooks := .later }
def RatTextsAsSpecifiedCardSaid : Prop := Claim7.holds Tryd.pinned (.plain (OpenSpec.ofChange ratTextsAsSpecifiedSpec)) ratTextsAsSpecifiedCard

/-- THE TIED CARD OF 'rivermarklaw05.RatsAreAField'. -/
def ratsAreAFieldCard : Claim7 := { stood := { row := ratsAreAFieldRow, standIns := [], harness := (true, "5088a479cdce1d3f6aab0d17c472f2223d0450b8975a446aa2b7a46d14314058"), looks := false }, kinds := [], alts := [], laidByText := true, laidKinds := [.data, .pinned], laidTests := true, laidLooks := .later }
def RatsAreAFieldCardSaid : Prop := Claim7.holds Tryd.pinned (.plain (OpenSpec.ofChange ratsAreAFieldSpec)) ratsAreAFieldCard

/-- THE TIED CARD OF 'rivermarklaw05.RatsAreOrdered'. -/
def ratsAreOrderedCard : Claim7 := { stood := { row := ratsAreOrderedRow, standIns := [], harness := (true, "5088a479cdce1d3f6aab0d17c472f2223d0450b8975a446aa2b7a46d14314058"), looks := false }, kinds := [], alts := [], laidByText := true, laidKinds := [.data, .pinned], laidTests := true, laidLooks := .later }
def RatsAreOrderedCardSaid : Prop := Claim7.holds Tryd.pinned (.plain (OpenSpec.ofChange ratsAreOrderedSpec)) ratsAreOrderedCard

/-- THE TIED CARD OF 'rivermarklaw05.RatTextsComeBack'. -/
def ratTextsComeBackCard : Claim7 := { stood := { row := ratTextsComeBackRow, standIns := [], harness := (true, "5088a479cdce1d3f6aab0d17c472f2223d0450b8975a446aa2b7a46d14314058"), looks := false }, kinds := [], alts := [], laidByText := true, laidKinds := [.data, .pinned], laidTests := true, laidLooks := .later }
def RatTextsComeBackCardSaid : Prop := Claim7.holds Tryd.pinned (.plain (OpenSpec.ofChange ratTextsComeBackSpec)) ratTextsComeBackCard

/-- THE TIED CARD OF 'rivermarklaw13.CurveIsMonotone'. -/
def curveIsMonotoneCard : Claim7 := { stood := { row := curveIsMonotoneRow, standIns := [], harness := (true, "5088a479cdce1d3f6aab0d17c472f2223d0450b8975a446aa2b7a46d14314058"), looks := false }, kinds := [], alts := [], laidByText := true, laidKinds := [.data, .pinned], laidTests := true, laidLooks := .later }
def CurveIsMonotoneCardSaid : Prop := Claim7.holds Tryd.pinned (.plain (OpenSpec.ofChange curveIsMonotoneSpec)) curveIsMonotoneCard

/-- THE TIED CARD OF 'rivermarklaw13.CurveIsLinear'. -/
def curveIsLinearCard : Claim7 := { stood := { row := curveIsLinearRow, standIns := [], harness := (true, "5088a479cdce1d3f6aab0d17c472f2223d0450b8975a446aa2b7a46d14314058"), looks := false }, kinds := [], alts := [], laidByText := true, laidKinds := [.data, .pinned], laidTests := true, laidLooks := .later }
def CurveIsLinearCardSaid : Prop := Claim7.holds Tryd.pinned (.plain (OpenSpec.ofChange curveIsLinearSpec)) curveIsLinearCard

/-- THE TIED CARD OF 'rivermarklaw13.CurveShifts'. -/
def curveShiftsCard : Claim7 := { stood := { row := curveShiftsRow, standIns := [], harness := (true, "5088a479cdce1d3f6aab0d17c472f2223d0450b8975a446aa2b7a46d14314058"), looks := false }, kinds := [], alts := [], laidByText := true, laidKinds := [.data, .pinned], laidTests := true, laidLooks := .later }
def CurveShiftsCardSaid : Prop := Claim7.holds Tryd.pinned (.plain (OpenSpec.ofChange curveShiftsSpec)) curveShiftsCard

/-- THE TIED CARD OF 'rivermarklaw13.CurvesDifferExactly'. -/
def curvesDifferExactlyCard : Claim7 := { stood := { row := curvesDifferExactlyRow, standIns := [], harness := (true, "5088a479cdce1d3f6aab0d17c472f2223d0450b8975a446aa2b7a46d14314058"), looks := false }, kinds := [], alts := [], laidByText := true, laidKinds := [.data, .pinned], laidTests := true, laidLooks := .later }
def CurvesDifferExactlyCardSaid : Prop := Claim7.holds Tryd.pinned (.plain (OpenSpec.ofChange curvesDifferExactlySpec)) curvesDifferExactlyCard

/-- THE SECOND FORM's CARD OF 'rivermarklaw05.RatTextsAsSpecified'. -/
def ratTextsAsSpecifiedUptoCard : Claim7 := { stood := { row := ratTextsAsSpecifiedUptoRow, standIns := [], harness := (true, "5088a479cdce1d3f6aab0d17c472f2223d0450b8975a446aa2b7a46d14314058"), looks := false }, kinds := [], alts := [], laidByText := true, laidKinds := [.data, .pinned], laidTests := true, laidLooks := .later }
def RatTextsAsSpecifiedUptoCardSaid : Prop := Claim7.holds Tryd.pinned (.plain (OpenSpec.upto ratTextsAsSpecifiedSpec)) ratTextsAsSpecifiedUptoCard

/-- THE SECOND FORM's CARD OF 'rivermarklaw05.RatsAreAField'. -/
def ratsAreAFieldUptoCard : Claim7 := { stood := { row := ratsAreAFieldUptoRow, standIns := [], harness := (true, "5088a479cdce1d3f6aab0d17c472f2223d0450b8975a446aa2b7a46d14314058"), looks := false }, kinds := [], alts := [], laidByText := true, laidKinds := [.data, .pinned], laidTests := true, laidLooks := .later }
def RatsAreAFieldUptoCardSaid : Prop := Claim7.holds Tryd.pinned (.plain (OpenSpec.upto ratsAreAFieldSpec)) ratsAreAFieldUptoCard

/-- THE SECOND FORM's CARD OF 'rivermarklaw05.RatsAreOrdered'. -/
def ratsAreOrderedUptoCard : Claim7 := { stood := { row := ratsAreOrderedUptoRow, standIns := [], harness := (true, "5088a479cdce1d3f6aab0d17c472f2223d0450b8975a446aa2b7a46d14314058"), looks := false }, kinds := [], alts := [], laidByText := true, laidKinds := [.data, .pinned], laidTests := true, laidLooks := .later }
def RatsAreOrderedUptoCardSaid : Prop := Claim7.holds Tryd.pinned (.plain (OpenSpec.upto ratsAreOrderedSpec)) ratsAreOrderedUptoCard

/-- THE SECOND FORM's CARD OF 'rivermarklaw05.RatTextsComeBack'. -/
def ratTextsComeBackUptoCard : Claim7 := { stood := { row := ratTextsComeBackUptoRow, standIns := [], harness := (true, "5088a479cdce1d3f6aab0d17c472f2223d0450b8975a446aa2b7a46d14314058"), looks := false }, kinds := [], alts := [], laidByText := true, laidKinds := [.data, .pinned], laidTests := true, laidLooks := .later }
def RatTextsComeBackUptoCardSaid : Prop := Claim7.holds Tryd.pinned (.plain (OpenSpec.upto ratTextsComeBackSpec)) ratTextsComeBackUptoCard

/-- THE SECOND FORM's CARD OF 'rivermarklaw13.CurveIsMonotone'. -/
def curveIsMonotoneUptoCard : Claim7 := { stood := { row := curveIsMonotoneUptoRow, standIns := [], harness := (true, "5088a479cdce1d3f6aab0d17c472f2223d0450b8975a446aa2b7a46d14314058"), looks := false }, kinds := [], alts := [], laidByText := true, laidKinds := [.data, .pinned], laidTests := true, laidLooks := .later }
def CurveIsMonotoneUptoCardSaid : Prop := Claim7.holds Tryd.pinned (.plain (OpenSpec.upto curveIsMonotoneSpec)) curveIsMonotoneUptoCard

/-- THE SECOND FORM's CARD OF 'rivermarklaw13.CurveIsLinear'. -/
def curveIsLinearUptoCard : Claim7 := { stood := { row := curveIsLinearUptoRow, standIns := [], harness := (true, "5088a479cdce1d3f6aab0d17c472f2223d0450b8975a446aa2b7a46d14314058"), looks := false }, kinds := [], alts := [], laidByText := true, laidKinds := [.data, .pinned], laidTests := true, laidLooks := .later }
def CurveIsLinearUptoCardSaid : Prop := Claim7.holds Tryd.pinned (.plain (OpenSpec.upto curveIsLinearSpec)) curveIsLinearUptoCard

/-- THE SECOND FORM's CARD OF 'rivermarklaw13.CurveShifts'. -/
def curveShiftsUptoCard : Claim7 := { stood := { row := curveShiftsUptoRow, standIns := [], harness := (true, "5088a479cdce1d3f6aab0d17c472f2223d0450b8975a446aa2b7a46d14314058"), looks := false }, kinds := [], alts := [], laidByText := true, laidKinds := [.data, .pinned], laidTests := true, laidLooks := .later }
def CurveShiftsUptoCardSaid : Prop := Claim7.holds Tryd.pinned (.plain (OpenSpec.upto curveShiftsSpec)) curveShiftsUptoCard

/-- THE SECOND FORM's CARD OF 'rivermarklaw13.CurvesDifferExactly'. -/
def curvesDifferExactlyUptoCard : Claim7 := { stood := { row := curvesDifferExactlyUptoRow, standIns := [], harness := (true, "5088a479cdce1d3f6aab0d17c472f2223d0450b8975a446aa2b7a46d14314058"), looks := false }, kinds := [], alts := [], laidByText := true, laidKinds := [.data, .pinned], laidTests := true, laidLooks := .later }
def CurvesDifferExactlyUptoCardSaid : Prop := Claim7.holds Tryd.pinned (.plain (OpenSpec.upto curvesDifferExactlySpec)) curvesDifferExactlyUptoCard
end Rows
end Go.Proofs.YtchhlgcakjjncaaDoor

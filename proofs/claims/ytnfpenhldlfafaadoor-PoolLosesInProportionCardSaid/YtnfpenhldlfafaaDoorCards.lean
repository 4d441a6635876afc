/-
  DERIVED. GIVEN WITH THE SEED: THE CARDS: each row of YtnfpenhldlfafaaDoorRows.lean that lists a variable, with what it lists TIED to the program's text (the seventh form; the later family's looks); each row that meets fmt, with fmt's text TOLD by the authors' own Lean function (tested against real Go, not proved from fmt's source: count such statements apart). THE CARD IS WHAT COUNTS. Prove the row's statement (the work); the ties are given (YtnfpenhldlfafaaDoorTie.lean); close each card by the builder's one call (the guide's Derived/Test/ToyasCard.lean, 'card_holds'). Laid BY PROGRAM, IN A SANDBOX (cutbox-door.mjs). By AI agents, Wed Nov 11 2026. No macro, syntax, notation, axiom, sorry.
-/
import Derived.Test.YtnfpenhldlfafaaDoorRows
import GoSem.ClaimSeven
namespace Go.Proofs.YtnfpenhldlfafaaDoor
namespace Rows

/-- THE TIED CARD OF 'rivermarklaw41.PoolIsFair'. -/
def poolIsFairCard : Claim7 := { stood := { row := poolIsFairRow, standIns := [], harness := (true, "fe7320f9ad4787848dbc3616f57da018b456954af9309e51a012c282b52b63e4"), looks := false }, kinds := [], alts := [], laidByText := true, laidKinds := [.data, .pinned], laidTests := true, laidLooks := .later }
def PoolIsFairCardSaid : Prop := Claim7.holds Tryd.pinned (.plain (OpenSpec.ofChange poolIsFairSpec)) poolIsFairCard

/-- THE TIED CARD OF 'rivermarklaw41.PoolForgetsOrder'. -/
def poolForgetsOrderCard : Claim7 := { stood := { row := poolForgetsOrderRow, standIns := [], harness := (true, "fe7320f9ad4787848dbc3616f57da018b456954af9309e51a012c282b52b63e4"), looks := false }, kinds := [], alts := [], laidByText := true, laidKinds := [.data, .pinned], laidTests := true, laidLooks := .later }
def PoolForgetsOrderCardSaid : Prop := Claim7.holds Tryd.pinned (.plain (OpenSpec.ofChange poolForgetsOrderSpec)) poolForgetsOrderCard

/-- THE TIED CARD OF 'rivermarklaw41.PoolLosesInProportion'. -/
def poolLosesInProportionCard : Claim7 := { stood := { row := poolLosesInProportionRow, standIns := [], harness := (true, "fe7320f9ad4787848dbc3616f57da018b456954af9309e51a012c282b52b63e4"), looks := false }, kinds := [], alts := [], laidByText := true, laidKinds := [.data, .pinned], laidTests := true, laidLooks := .later }
def PoolLosesInProportionCardSaid : Prop := Claim7.holds Tryd.pinned (.plain (OpenSpec.ofChange poolLosesInProportionSpec)) poolLosesInProportionCard

/-- THE SECOND FORM's CARD OF 'rivermarklaw41.PoolIsFair'. -/
def poolIsFairUptoCard : Claim7 := { stood := { row := poolIsFairUptoRow, standIns := [], harness := (true, "fe7320f9ad4787848dbc3616f57da018b456954af9309e51a012c282b52b63e4"), looks := false }, kinds := [], alts := [], laidByText := true, laidKinds := [.data, .pinned], laidTests := true, laidLooks := .later }
def PoolIsFairUptoCardSaid : Prop := Claim7.holds Tryd.pinned (.plain (OpenSpec.upto poolIsFairSpec)) poolIsFairUptoCard

/-- THE SECOND FORM's CARD OF 'rivermarklaw41.PoolForgetsOrder'. -/
def poolForgetsOrderUptoCard : Claim7 := { stood := { row := poolForgetsOrderUptoRow, standIns := [], harness := (true, "fe7320f9ad4787848dbc3616f57da018b456954af9309e51a012c282b52b63e4"), looks := false }, kinds := [], alts := [], laidByText := true, laidKinds := [.data, .pinned], laidTests := true, laidLooks := .later }
def PoolForgetsOrderUptoCardSaid : Prop := Claim7.holds Tryd.pinned (.plain (OpenSpec.upto poolForgetsOrderSpec)) poolForgetsOrderUptoCard

/-- THE SECOND FORM's CARD OF 'rivermarklaw41.PoolLosesInProportion'. -/
def poolLosesInProportionUptoCard : Claim7 := { stood := { row := poolLosesInProportionUptoRow, standIns := [], harness := (true, "fe7320f9ad4787848dbc3616f57da018b456954af9309e51a012c282b52b63e4"), looks := false }, kinds := [], alts := [], laidByText := true, laidKinds := [.data, .pinned], laidTests := true, laidLooks := .later }
def PoolLosesInProportionUptoCardSaid : Prop := Claim7.holds Tryd.pinned (.plain (OpenSpec.upto poolLosesInProportionSpec)) poolLosesInProportionUptoCard
end Rows
end Go.Proofs.YtnfpenhldlfafaaDoor

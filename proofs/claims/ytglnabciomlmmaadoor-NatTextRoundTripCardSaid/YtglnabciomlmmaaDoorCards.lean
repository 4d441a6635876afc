/-
  DERIVED. GIVEN WITH THE SEED: THE CARDS: each row of YtglnabciomlmmaaDoorRows.lean that lists a variable, with what it lists TIED to the program's text (the seventh form; the later family's looks); each row that meets fmt, with fmt's text TOLD by the authors' own Lean function (tested against real Go, not proved from fmt's source: count such statements apart). THE CARD IS WHAT COUNTS. Prove the row's statement (the work); the ties are given (YtglnabciomlmmaaDoorTie.lean); close each card by the builder's one call (the guide's Derived/Test/ToyasCard.lean, 'card_holds'). Laid BY PROGRAM, IN A SANDBOX (cutbox-door.mjs). By AI agents, Wed Nov 11 2026. No macro, syntax, notation, axiom, sorry.
-/
import Derived.Test.YtglnabciomlmmaaDoorRows
import GoSem.ClaimSeven
namespace Go.Proofs.YtglnabciomlmmaaDoor
namespace Rows

/-- THE TIED CARD OF 'rivermarklaw04.NatMatchesSpec'. -/
def natMatchesSpecCard : Claim7 := { stood := { row := natMatchesSpecRow, standIns := [], harness := (true, "78708480df93cb5f3569fbe029cfe5cb5cb5a86609cf7ee6a9e5b7d2bff19f9c"), looks := false }, kinds := [], alts := [], laidByText := true, laidKinds := [.data, .pinned], laidTests := true, laidLooks := .later }
def NatMatchesSpecCardSaid : Prop := Claim7.holds Tryd.pinned (.plain (OpenSpec.ofChange natMatchesSpecSpec)) natMatchesSpecCard

/-- THE TIED CARD OF 'rivermarklaw04.NatTextsMatchSpec'. -/
def natTextsMatchSpecCard : Claim7 := { stood := { row := natTextsMatchSpecRow, standIns := [], harness := (true, "78708480df93cb5f3569fbe029cfe5cb5cb5a86609cf7ee6a9e5b7d2bff19f9c"), looks := false }, kinds := [], alts := [], laidByText := true, laidKinds := [.data, .pinned], laidTests := true, laidLooks := .later }
def NatTextsMatchSpecCardSaid : Prop := Claim7.holds Tryd.pinned (.plain (OpenSpec.ofChange natTextsMatchSpecSpec)) natTextsMatchSpecCard

/-- THE TIED CARD OF 'rivermarklaw04.NatIsOrderedSemiring'. -/
def natIsOrderedSemiringCard : Claim7 := { stood := { row := natIsOrderedSemiringRow, standIns := [], harness := (true, "78708480df93cb5f3569fbe029cfe5cb5cb5a86609cf7ee6a9e5b7d2bff19f9c"), looks := false }, kinds := [], alts := [], laidByText := true, laidKinds := [.data, .pinned], laidTests := true, laidLooks := .later }
def NatIsOrderedSemiringCardSaid : Prop := Claim7.holds Tryd.pinned (.plain (OpenSpec.ofChange natIsOrderedSemiringSpec)) natIsOrderedSemiringCard

/-- THE TIED CARD OF 'rivermarklaw04.NatDivides'. -/
def natDividesCard : Claim7 := { stood := { row := natDividesRow, standIns := [], harness := (true, "78708480df93cb5f3569fbe029cfe5cb5cb5a86609cf7ee6a9e5b7d2bff19f9c"), looks := false }, kinds := [], alts := [], laidByText := true, laidKinds := [.data, .pinned], laidTests := true, laidLooks := .later }
def NatDividesCardSaid : Prop := Claim7.holds Tryd.pinned (.plain (OpenSpec.ofChange natDividesSpec)) natDividesCard

/-- THE TIED CARD OF 'rivermarklaw04.NatCommonDivisors'. -/
def natCommonDivisorsCard : Claim7 := { stood := { row := natCommonDivisorsRow, standIns := [], harness := (true, "78708480df93cb5f3569fbe029cfe5cb5cb5a86609cf7ee6a9e5b7d2bff19f9c"), looks := false }, kinds := [], alts := [], laidByText := true, laidKinds := [.data, .pinned], laidTests := true, laidLooks := .later }
def NatCommonDivisorsCardSaid : Prop := Claim7.holds Tryd.pinned (.plain (OpenSpec.ofChange natCommonDivisorsSpec)) natCommonDivisorsCard

/-- THE TIED CARD OF 'rivermarklaw04.NatTextRoundTrip'. -/
def natTextRoundTripCard : Claim7 := { stood := { row := natTextRoundTripRow, standIns := [], harness := (true, "78708480df93cb5f3569fbe029cfe5cb5cb5a86609cf7ee6a9e5b7d2bff19f9c"), looks := false }, kinds := [], alts := [], laidByText := true, laidKinds := [.data, .pinned], laidTests := true, laidLooks := .later }
def NatTextRoundTripCardSaid : Prop := Claim7.holds Tryd.pinned (.plain (OpenSpec.ofChange natTextRoundTripSpec)) natTextRoundTripCard

/-- THE SECOND FORM's CARD OF 'rivermarklaw04.NatMatchesSpec'. -/
def natMatchesSpecUptoCard : Claim7 := { stood := { row := natMatchesSpecUptoRow, standIns := [], harness := (true, "78708480df93cb5f3569fbe029cfe5cb5cb5a86609cf7ee6a9e5b7d2bff19f9c"), looks := false }, kinds := [], alts := [], laidByText := true, laidKinds := [.data, .pinned], laidTests := true, laidLooks := .later }
def NatMatchesSpecUptoCardSaid : Prop := Claim7.holds Tryd.pinned (.plain (OpenSpec.upto natMatchesSpecSpec)) natMatchesSpecUptoCard

/-- THE SECOND FORM's CARD OF 'rivermarklaw04.NatTextsMatchSpec'. -/
def natTextsMatchSpecUptoCard : Claim7 := { stood := { row := natTextsMatchSpecUptoRow, standIns := [], harness := (true, "78708480df93cb5f3569fbe029cfe5cb5cb5a86609cf7ee6a9e5b7d2bff19f9c"), looks := false }, kinds := [], alts := [], laidByText := true, laidKinds := [.data, .pinned], laidTests := true, laidLooks := .later }
def NatTextsMatchSpecUptoCardSaid : Prop := Claim7.holds Tryd.pinned (.plain (OpenSpec.upto natTextsMatchSpecSpec)) natTextsMatchSpecUptoCard

/-- THE SECOND FORM's CARD OF 'rivermarklaw04.NatIsOrderedSemiring'. -/
def natIsOrderedSemiringUptoCard : Claim7 := { stood := { row := natIsOrderedSemiringUptoRow, standIns := [], harness := (true, "78708480df93cb5f3569fbe029cfe5cb5cb5a86609cf7ee6a9e5b7d2bff19f9c"), looks := false }, kinds := [], alts := [], laidByText := true, laidKinds := [.data, .pinned], laidTests := true, laidLooks := .later }
def NatIsOrderedSemiringUptoCardSaid : Prop := Claim7.holds Tryd.pinned (.plain (OpenSpec.upto natIsOrderedSemiringSpec)) natIsOrderedSemiringUptoCard

/-- THE SECOND FORM's CARD OF 'rivermarklaw04.NatDivides'. -/
def natDividesUptoCard : Claim7 := { stood := { row := natDividesUptoRow, standIns := [], harness := (true, "78708480df93cb5f3569fbe029cfe5cb5cb5a86609cf7ee6a9e5b7d2bff19f9c"), looks := false }, kinds := [], alts := [], laidByText := true, laidKinds := [.data, .pinned], laidTests := true, laidLooks := .later }
def NatDividesUptoCardSaid : Prop := Claim7.holds Tryd.pinned (.plain (OpenSpec.upto natDividesSpec)) natDividesUptoCard

/-- THE SECOND FORM's CARD OF 'rivermarklaw04.NatCommonDivisors'. -/
def natCommonDivisorsUptoCard : Claim7 := { stood := { row := natCommonDivisorsUptoRow, standIns := [], harness := (true, "78708480df93cb5f3569fbe029cfe5cb5cb5a86609cf7ee6a9e5b7d2bff19f9c"), looks := false }, kinds := [], alts := [], laidByText := true, laidKinds := [.data, .pinned], laidTests := true, laidLooks := .later }
def NatCommonDivisorsUptoCardSaid : Prop := Claim7.holds Tryd.pinned (.plain (OpenSpec.upto natCommonDivisorsSpec)) natCommonDivisorsUptoCard

/-- THE SECOND FORM's CARD OF 'rivermarklaw04.NatTextRoundTrip'. -/
def natTextRoundTripUptoCard : Claim7 := { stood := { row := natTextRoundTripUptoRow, standIns := [], harness := (true, "78708480df93cb5f3569fbe029cfe5cb5cb5a86609cf7ee6a9e5b7d2bff19f9c"), looks := false }, kinds := [], alts := [], laidByText := true, laidKinds := [.data, .pinned], laidTests := true, laidLooks := .later }
def NatTextRoundTripUptoCardSaid : Prop := Claim7.holds Tryd.pinned (.plain (OpenSpec.upto natTextRoundTripSpec)) natTextRoundTripUptoCard
end Rows
end Go.Proofs.YtglnabciomlmmaaDoor

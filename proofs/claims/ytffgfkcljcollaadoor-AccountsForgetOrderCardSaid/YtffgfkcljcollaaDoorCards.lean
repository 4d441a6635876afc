/-
  DERIVED. GIVEN WITH THE SEED: THE CARDS: each row of YtffgfkcljcollaaDoorRows.lean that lists a variable, with what it lists TIED to the program's text (the seventh form; the later family's looks); each row that meets fmt, with fmt's text TOLD by the authors' own Lean function (tested against real Go, not proved from fmt's source: count such statements apart). THE CARD IS WHAT COUNTS. Prove the row's statement (the work); the ties are given (YtffgfkcljcollaaDoorTie.lean); close each card by the builder's one call (the guide's Derived/Test/ToyasCard.lean, 'card_holds'). Laid BY PROGRAM, IN A SANDBOX (cutbox-door.mjs). By AI agents, Wed Nov 11 2026. No macro, syntax, notation, axiom, sorry.
-/
import Derived.Test.YtffgfkcljcollaaDoorRows
import GoSem.ClaimSeven
namespace Go.Proofs.YtffgfkcljcollaaDoor
namespace Rows

/-- THE TIED CARD OF 'rivermarklaw44.AccountsForgetOrder'. -/
def accountsForgetOrderCard : Claim7 := { stood := { row := accountsForgetOrderRow, standIns := [], harness := (true, "a3b7ba35f8fcd3ea2fb810af2dd2a34fd9601c723c9ade302a3dea2458359702"), looks := false }, kinds := [], alts := [], laidByText := true, laidKinds := [.data, .pinned], laidTests := true, laidLooks := .later }
def AccountsForgetOrderCardSaid : Prop := Claim7.holds Tryd.pinned (.plain (OpenSpec.ofChange accountsForgetOrderSpec)) accountsForgetOrderCard

/-- THE TIED CARD OF 'rivermarklaw44.AccountReverses'. -/
def accountReversesCard : Claim7 := { stood := { row := accountReversesRow, standIns := [], harness := (true, "a3b7ba35f8fcd3ea2fb810af2dd2a34fd9601c723c9ade302a3dea2458359702"), looks := false }, kinds := [], alts := [], laidByText := true, laidKinds := [.data, .pinned], laidTests := true, laidLooks := .later }
def AccountReversesCardSaid : Prop := Claim7.holds Tryd.pinned (.plain (OpenSpec.ofChange accountReversesSpec)) accountReversesCard

/-- THE TIED CARD OF 'rivermarklaw44.AccountAdjusts'. -/
def accountAdjustsCard : Claim7 := { stood := { row := accountAdjustsRow, standIns := [], harness := (true, "a3b7ba35f8fcd3ea2fb810af2dd2a34fd9601c723c9ade302a3dea2458359702"), looks := false }, kinds := [], alts := [], laidByText := true, laidKinds := [.data, .pinned], laidTests := true, laidLooks := .later }
def AccountAdjustsCardSaid : Prop := Claim7.holds Tryd.pinned (.plain (OpenSpec.ofChange accountAdjustsSpec)) accountAdjustsCard

/-- THE TIED CARD OF 'rivermarklaw44.AccountsAddUp'. -/
def accountsAddUpCard : Claim7 := { stood := { row := accountsAddUpRow, standIns := [], harness := (true, "a3b7ba35f8fcd3ea2fb810af2dd2a34fd9601c723c9ade302a3dea2458359702"), looks := false }, kinds := [], alts := [], laidByText := true, laidKinds := [.data, .pinned], laidTests := true, laidLooks := .later }
def AccountsAddUpCardSaid : Prop := Claim7.holds Tryd.pinned (.plain (OpenSpec.ofChange accountsAddUpSpec)) accountsAddUpCard

/-- THE SECOND FORM's CARD OF 'rivermarklaw44.AccountsForgetOrder'. -/
def accountsForgetOrderUptoCard : Claim7 := { stood := { row := accountsForgetOrderUptoRow, standIns := [], harness := (true, "a3b7ba35f8fcd3ea2fb810af2dd2a34fd9601c723c9ade302a3dea2458359702"), looks := false }, kinds := [], alts := [], laidByText := true, laidKinds := [.data, .pinned], laidTests := true, laidLooks := .later }
def AccountsForgetOrderUptoCardSaid : Prop := Claim7.holds Tryd.pinned (.plain (OpenSpec.upto accountsForgetOrderSpec)) accountsForgetOrderUptoCard

/-- THE SECOND FORM's CARD OF 'rivermarklaw44.AccountReverses'. -/
def accountReversesUptoCard : Claim7 := { stood := { row := accountReversesUptoRow, standIns := [], harness := (true, "a3b7ba35f8fcd3ea2fb810af2dd2a34fd9601c723c9ade302a3dea2458359702"), looks := false }, kinds := [], alts := [], laidByText := true, laidKinds := [.data, .pinned], laidTests := true, laidLooks := .later }
def AccountReversesUptoCardSaid : Prop := Claim7.holds Tryd.pinned (.plain (OpenSpec.upto accountReversesSpec)) accountReversesUptoCard

/-- THE SECOND FORM's CARD OF 'rivermarklaw44.AccountAdjusts'. -/
def accountAdjustsUptoCard : Claim7 := { stood := { row := accountAdjustsUptoRow, standIns := [], harness := (true, "a3b7ba35f8fcd3ea2fb810af2dd2a34fd9601c723c9ade302a3dea2458359702"), looks := false }, kinds := [], alts := [], laidByText := true, laidKinds := [.data, .pinned], laidTests := true, laidLooks := .later }
def AccountAdjustsUptoCardSaid : Prop := Claim7.holds Tryd.pinned (.plain (OpenSpec.upto accountAdjustsSpec)) accountAdjustsUptoCard

/-- THE SECOND FORM's CARD OF 'rivermarklaw44.AccountsAddUp'. -/
def accountsAddUpUptoCard : Claim7 := { stood := { row := accountsAddUpUptoRow, standIns := [], harness := (true, "a3b7ba35f8fcd3ea2fb810af2dd2a34fd9601c723c9ade302a3dea2458359702"), looks := false }, kinds := [], alts := [], laidByText := true, laidKinds := [.data, .pinned], laidTests := true, laidLooks := .later }
def AccountsAddUpUptoCardSaid : Prop := Claim7.holds Tryd.pinned (.plain (OpenSpec.upto accountsAddUpSpec)) accountsAddUpUptoCard
end Rows
end Go.Proofs.YtffgfkcljcollaaDoor

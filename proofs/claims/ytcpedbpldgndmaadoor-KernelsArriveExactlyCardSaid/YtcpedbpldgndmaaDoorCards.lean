/-
  DERIVED. GIVEN WITH THE SEED: THE CARDS: each row of YtcpedbpldgndmaaDoorRows.lean that lists a variable, with what it lists TIED to the program's text (the seventh form; the later family's looks); each row that meets fmt, with fmt's text TOLD by the authors' own Lean function (tested against real Go, not proved from fmt's source: count such statements apart). THE CARD IS WHAT COUNTS. Prove the row's statement (the work); the ties are given (YtcpedbpldgndmaaDoorTie.lean); close each card by the builder's one call (the guide's Derived/Test/ToyasCard.lean, 'card_holds'). Laid BY PROGRAM, IN A SANDBOX (cutbox-door.mjs). By AI agents, Wed Nov 11 2026. No macro, syntax, notation, axiom, sorry.
-/
import Derived.Test.YtcpedbpldgndmaaDoorRows
import GoSem.ClaimSeven
namespace Go.Proofs.YtcpedbpldgndmaaDoor
namespace Rows

/-- THE TIED CARD OF 'rivermarklaw31.KernelsFormAMonoid'. -/
def kernelsFormAMonoidCard : Claim7 := { stood := { row := kernelsFormAMonoidRow, standIns := [], harness := (true, "dd61bc56a5e72931783ea6fac6f51f10b357cf77d3fa93acbcecf5a60523602f"), looks := false }, kinds := [], alts := [], laidByText := true, laidKinds := [.data, .pinned], laidTests := true, laidLooks := .later }
def KernelsFormAMonoidCardSaid : Prop := Claim7.holds Tryd.pinned (.plain (OpenSpec.ofChange kernelsFormAMonoidSpec)) kernelsFormAMonoidCard

/-- THE TIED CARD OF 'rivermarklaw31.KernelsCompose'. -/
def kernelsComposeCard : Claim7 := { stood := { row := kernelsComposeRow, standIns := [], harness := (true, "dd61bc56a5e72931783ea6fac6f51f10b357cf77d3fa93acbcecf5a60523602f"), looks := false }, kinds := [], alts := [], laidByText := true, laidKinds := [.data, .pinned], laidTests := true, laidLooks := .later }
def KernelsComposeCardSaid : Prop := Claim7.holds Tryd.pinned (.plain (OpenSpec.ofChange kernelsComposeSpec)) kernelsComposeCard

/-- THE TIED CARD OF 'rivermarklaw31.KernelsKeepMass'. -/
def kernelsKeepMassCard : Claim7 := { stood := { row := kernelsKeepMassRow, standIns := [], harness := (true, "dd61bc56a5e72931783ea6fac6f51f10b357cf77d3fa93acbcecf5a60523602f"), looks := false }, kinds := [], alts := [], laidByText := true, laidKinds := [.data, .pinned], laidTests := true, laidLooks := .later }
def KernelsKeepMassCardSaid : Prop := Claim7.holds Tryd.pinned (.plain (OpenSpec.ofChange kernelsKeepMassSpec)) kernelsKeepMassCard

/-- THE TIED CARD OF 'rivermarklaw31.KernelsArriveExactly'. -/
def kernelsArriveExactlyCard : Claim7 := { stood := { row := kernelsArriveExactlyRow, standIns := [], harness := (true, "dd61bc56a5e72931783ea6fac6f51f10b357cf77d3fa93acbcecf5a60523602f"), looks := false }, kinds := [], alts := [], laidByText := true, laidKinds := [.data, .pinned], laidTests := true, laidLooks := .later }
def KernelsArriveExactlyCardSaid : Prop := Claim7.holds Tryd.pinned (.plain (OpenSpec.ofChange kernelsArriveExactlySpec)) kernelsArriveExactlyCard

/-- THE SECOND FORM's CARD OF 'rivermarklaw31.KernelsFormAMonoid'. -/
def kernelsFormAMonoidUptoCard : Claim7 := { stood := { row := kernelsFormAMonoidUptoRow, standIns := [], harness := (true, "dd61bc56a5e72931783ea6fac6f51f10b357cf77d3fa93acbcecf5a60523602f"), looks := false }, kinds := [], alts := [], laidByText := true, laidKinds := [.data, .pinned], laidTests := true, laidLooks := .later }
def KernelsFormAMonoidUptoCardSaid : Prop := Claim7.holds Tryd.pinned (.plain (OpenSpec.upto kernelsFormAMonoidSpec)) kernelsFormAMonoidUptoCard

/-- THE SECOND FORM's CARD OF 'rivermarklaw31.KernelsCompose'. -/
def kernelsComposeUptoCard : Claim7 := { stood := { row := kernelsComposeUptoRow, standIns := [], harness := (true, "dd61bc56a5e72931783ea6fac6f51f10b357cf77d3fa93acbcecf5a60523602f"), looks := false }, kinds := [], alts := [], laidByText := true, laidKinds := [.data, .pinned], laidTests := true, laidLooks := .later }
def KernelsComposeUptoCardSaid : Prop := Claim7.holds Tryd.pinned (.plain (OpenSpec.upto kernelsComposeSpec)) kernelsComposeUptoCard

/-- THE SECOND FORM's CARD OF 'rivermarklaw31.KernelsKeepMass'. -/
def kernelsKeepMassUptoCard : Claim7 := { stood := { row := kernelsKeepMassUptoRow, standIns := [], harness := (true, "dd61bc56a5e72931783ea6fac6f51f10b357cf77d3fa93acbcecf5a60523602f"), looks := false }, kinds := [], alts := [], laidByText := true, laidKinds := [.data, .pinned], laidTests := true, laidLooks := .later }
def KernelsKeepMassUptoCardSaid : Prop := Claim7.holds Tryd.pinned (.plain (OpenSpec.upto kernelsKeepMassSpec)) kernelsKeepMassUptoCard

/-- THE SECOND FORM's CARD OF 'rivermarklaw31.KernelsArriveExactly'. -/
def kernelsArriveExactlyUptoCard : Claim7 := { stood := { row := kernelsArriveExactlyUptoRow, standIns := [], harness := (true, "dd61bc56a5e72931783ea6fac6f51f10b357cf77d3fa93acbcecf5a60523602f"), looks := false }, kinds := [], alts := [], laidByText := true, laidKinds := [.data, .pinned], laidTests := true, laidLooks := .later }
def KernelsArriveExactlyUptoCardSaid : Prop := Claim7.holds Tryd.pinned (.plain (OpenSpec.upto kernelsArriveExactlySpec)) kernelsArriveExactlyUptoCard
end Rows
end Go.Proofs.YtcpedbpldgndmaaDoor

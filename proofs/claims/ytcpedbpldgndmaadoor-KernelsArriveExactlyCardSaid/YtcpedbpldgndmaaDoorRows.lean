/-
  NARROWER THAN 'FOR EVERY INPUT', by the rows' own cells (each row's printed sentence says how): KernelsFormAMonoid: laid · KernelsCompose: laid · KernelsKeepMass: laid · KernelsArriveExactly: laid.
  DERIVED. THE GIVEN ROWS OF THIS SEAT. 4 by the template 'for every input the law returns true; each argument reads behind the call as it read before'; 0 by the template 'total and deterministic' (their statements: YtcpedbpldgndmaaDoorTotals.lean).
  GIVEN WITH THE SEED: the statements are not yours to turn. If you find one false, say at which input.
  Laid BY PROGRAM, IN A SANDBOX (cutbox-rows.mjs): the forced cells as the released guide's own fill.sh prints them over the translation df9cae38c05c4c2b… (all of the seat's roots in one cut). By AI agents, Wed Nov 11 2026. No macro, syntax, notation, axiom, sorry.
-/
import Derived.Test.YtcpedbpldgndmaaDoorChecked
import GoSem.PinnedTables
import GoSem.Claim
import GoSem.ClaimJoined
import GoSem.ClaimMapViews
import Derived.JoinedTies
import Derived.KernelRfl
namespace Go.Proofs.YtcpedbpldgndmaaDoor
/- THE CELL 'sum', in the pinned program and in every row, IS THE sha256 OF THE DUMP (.gsa) THAT YtcpedbpldgndmaaDoorProg.lean LOADS. Nothing in Lean hashes anything: it is a label: what it is worth is what the hold of that sum in a sandbox is worth. -/
noncomputable def Tryd.pinned : Pinned := { name := "ytcpedbpldgndmaadoor", sum := "df9cae38c05c4c2b516a253c2a8a072d5c652fb5d66274d55aa10b2e2c44b768", checked := Tryd.checked }
namespace Rows
def none {H : Type} : Left H := { results := [], args := [] }

/- WHAT THE LISTED PACKAGE-LEVEL VARIABLES READ AS WHEN THE CALL BEGINS. Each datum BY PROGRAM (the guide's laid-datum.mjs) off the statement by which the dump's own 'gosem.cut.vars' lays the variable. In a bare row this is a premise. The card (YtcpedbpldgndmaaDoorCards.lean) ties it to the program's text. -/
def laid_unicode_utf8_acceptRanges {H : Type} : DataW H := .agg [.agg [.lit (.int .u8 128), .lit (.int .u8 191)], .agg [.lit (.int .u8 160), .lit (.int .u8 191)], .agg [.lit (.int .u8 128), .lit (.int .u8 159)], .agg [.lit (.int .u8 144), .lit (.int .u8 191)], .agg [.lit (.int .u8 128), .lit (.int .u8 143)], .agg [.lit (.int .u8 0), .lit (.int .u8 0)], .agg [.lit (.int .u8 0), .lit (.int .u8 0)], .agg [.lit (.int .u8 0), .lit (.int .u8 0)], .agg [.lit (.int .u8 0), .lit (.int .u8 0)], .agg [.lit (.int .u8 0), .lit (.int .u8 0)], .agg [.lit (.int .u8 0), .lit (.int .u8 0)], .agg [.lit (.int .u8 0), .lit (.int .u8 0)], .agg [.lit (.int .u8 0), .lit (.int .u8 0)], .agg [.lit (.int .u8 0), .lit (.int .u8 0)], .agg [.lit (.int .u8 0), .lit (.int .u8 0)], .agg [.lit (.int .u8 0), .lit (.int .u8 0)]]
/-- One of Go's own tables, pinned by name: the form's constant. -/
def laid_unicode_utf8_first : DataW Unit := Go.Pinned.utf8First

/-- 'rivermarklaw31.KernelsFormAMonoid': WHATEVER THE INPUT: true; the input reads as it did. -/
def kernelsFormAMonoidSpec : ChangeSpec := { name := "kernelsFormAMonoid", fn := fun _ => fun
  | [d1, d2, d3] => { results := [.lit (.bool true)], args := [d1, d2, d3] }
  | _ => none }
def kernelsFormAMonoidRow : OpenClaim := { program := "ytcpedbpldgndmaadoor", sum := "df9cae38c05c4c2b516a253c2a8a072d5c652fb5d66274d55aa10b2e2c44b768", func := "rivermark/rivermarklaw31.KernelsFormAMonoid", spec := "kernelsFormAMonoid", inPlace := ["internal/bytealg.IndexByteString", "internal/bytealg.IndexString"], unfollowed := true, recurses := true, named := ["unicode/utf8.first", "unicode/utf8.acceptRanges", "internal/bytealg.MaxLen"], apart := false, laid := [("unicode/utf8.acceptRanges", laid_unicode_utf8_acceptRanges), ("unicode/utf8.first", laid_unicode_utf8_first)] }
def KernelsFormAMonoidSaid : Prop := kernelsFormAMonoidRow.holds Tryd.pinned (OpenSpec.ofChange kernelsFormAMonoidSpec)

/-- ITS FALSE NEIGHBOUR: 'it returns false'. Refute it at one input. -/
def kernelsFormAMonoidWrong : ChangeSpec := { name := "kernelsFormAMonoid", fn := fun _ => fun
  | [d1, d2, d3] => { results := [.lit (.bool false)], args := [d1, d2, d3] }
  | _ => none }
def KernelsFormAMonoidWrongFalsely : Prop := kernelsFormAMonoidRow.holds Tryd.pinned (OpenSpec.ofChange kernelsFormAMonoidWrong)

/-- 'rivermarklaw31.KernelsCompose': WHATEVER THE INPUT: true; the input reads as it did. -/
def kernelsComposeSpec : ChangeSpec := { name := "kernelsCompose", fn := fun _ => fun
  | [d1, d2] => { results := [.lit (.bool true)], args := [d1, d2] }
  | _ => none }
def kernelsComposeRow : OpenClaim := { program := "ytcpedbpldgndmaadoor", sum := "df9cae38c05c4c2b516a253c2a8a072d5c652fb5d66274d55aa10b2e2c44b768", func := "rivermark/rivermarklaw31.KernelsCompose", spec := "kernelsCompose", inPlace := ["internal/bytealg.IndexByteString", "internal/bytealg.IndexString"], unfollowed := true, recurses := true, named := ["unicode/utf8.first", "unicode/utf8.acceptRanges", "internal/bytealg.MaxLen"], apart := false, laid := [("unicode/utf8.acceptRanges", laid_unicode_utf8_acceptRanges), ("unicode/utf8.first", laid_unicode_utf8_first)] }
def KernelsComposeSaid : Prop := kernelsComposeRow.holds Tryd.pinned (OpenSpec.ofChange kernelsComposeSpec)

/-- ITS FALSE NEIGHBOUR: 'it returns false'. Refute it at one input. -/
def kernelsComposeWrong : ChangeSpec := { name := "kernelsCompose", fn := fun _ => fun
  | [d1, d2] => { results := [.lit (.bool false)], args := [d1, d2] }
  | _ => none }
def KernelsComposeWrongFalsely : Prop := kernelsComposeRow.holds Tryd.pinned (OpenSpec.ofChange kernelsComposeWrong)

/-- 'rivermarklaw31.KernelsKeepMass': WHATEVER THE INPUT: true; the input reads as it did. -/
def kernelsKeepMassSpec : ChangeSpec := { name := "kernelsKeepMass", fn := fun _ => fun
  | [d1, d2, d3] => { results := [.lit (.bool true)], args := [d1, d2, d3] }
  | _ => none }
def kernelsKeepMassRow : OpenClaim := { program := "ytcpedbpldgndmaadoor", sum := "df9cae38c05c4c2b516a253c2a8a072d5c652fb5d66274d55aa10b2e2c44b768", func := "rivermark/rivermarklaw31.KernelsKeepMass", spec := "kernelsKeepMass", inPlace := ["internal/bytealg.IndexByteString", "internal/bytealg.IndexString"], unfollowed := true, recurses := true, named := ["unicode/utf8.first", "unicode/utf8.acceptRanges", "internal/bytealg.MaxLen"], apart := false, laid := [("unicode/utf8.acceptRanges", laid_unicode_utf8_acceptRanges), ("unicode/utf8.first", laid_unicode_utf8_first)] }
def KernelsKeepMassSaid : Prop := kernelsKeepMassRow.holds Tryd.pinned (OpenSpec.ofChange kernelsKeepMassSpec)

/-- ITS FALSE NEIGHBOUR: 'it returns false'. Refute it at one input. -/
def kernelsKeepMassWrong : ChangeSpec := { name := "kernelsKeepMass", fn := fun _ => fun
  | [d1, d2, d3] => { results := [.lit (.bool false)], args := [d1, d2, d3] }
  | _ => none }
def KernelsKeepMassWrongFalsely : Prop := kernelsKeepMassRow.holds Tryd.pinned (OpenSpec.ofChange kernelsKeepMassWrong)

/-- 'rivermarklaw31.KernelsArriveExactly': WHATEVER THE INPUT: true; the input reads as it did. -/
def kernelsArriveExactlySpec : ChangeSpec := { name := "kernelsArriveExactly", fn := fun _ => fun
  | [d1, d2, d3] => { results := [.lit (.bool true)], args := [d1, d2, d3] }
  | _ => none }
def kernelsArriveExactlyRow : OpenClaim := { program := "ytcpedbpldgndmaadoor", sum := "df9cae38c05c4c2b516a253c2a8a072d5c652fb5d66274d55aa10b2e2c44b768", func := "rivermark/rivermarklaw31.KernelsArriveExactly", spec := "kernelsArriveExactly", inPlace := ["internal/bytealg.IndexByteString", "internal/bytealg.IndexString"], unfollowed := true, recurses := true, named := ["unicode/utf8.first", "unicode/utf8.acceptRanges", "internal/bytealg.MaxLen"], apart := false, laid := [("unicode/utf8.acceptRanges", laid_unicode_utf8_acceptRanges), ("unicode/utf8.first", laid_unicode_utf8_first)] }
def KernelsArriveExactlySaid : Prop := kernelsArriveExactlyRow.holds Tryd.pinned (OpenSpec.ofChange kernelsArriveExactlySpec)

/-- ITS FALSE NEIGHBOUR: 'it returns false'. Refute it at one input. -/
def kernelsArriveExactlyWrong : ChangeSpec := { name := "kernelsArriveExactly", fn := fun _ => fun
  | [d1, d2, d3] => { results := [.lit (.bool false)], args := [d1, d2, d3] }
  | _ => none }
def KernelsArriveExactlyWrongFalsely : Prop := kernelsArriveExactlyRow.holds Tryd.pinned (OpenSpec.ofChange kernelsArriveExactlyWrong)

/- THE SECOND FORM. 'bulk': how many values and letters a reading holds, each counted each time it is reached (what is shared counts as often as it is met; a slice's spare places count too). A statement '..UptoSaid' is the law's where the arguments, and the package variables that the reading takes, are together of bulk at most 1048576: NARROWER than '..Said'. Prove '..Said' where nothing that the law and all that it calls make is longer than what came in: it says more and counts as full. Else prove '..UptoSaid'. A law counts once. -/
mutual
def uptoBulk {H : Type} : DataW H → Nat
  | .lit (.string bytes) => bytes.length + 1
  | .lit _ => 1
  | .nil => 1
  | .ptr d => uptoBulk d + 1
  | .slice elems spare => uptoBulkAll elems + uptoBulkAll spare + 1
  | .agg parts => uptoBulkAll parts + 1
  | .iface _ d => uptoBulk d + 1
  | .map entries => uptoBulkEntries entries + 1
  | .held _ => 1
def uptoBulkAll {H : Type} : List (DataW H) → Nat
  | [] => 0
  | d :: r => uptoBulk d + uptoBulkAll r
def uptoBulkEntries {H : Type} : List (Lit × DataW H) → Nat
  | [] => 0
  | x :: r => uptoBulkEntry x + uptoBulkEntries r
def uptoBulkEntry {H : Type} : Lit × DataW H → Nat
  | (.string bytes, d) => bytes.length + uptoBulk d + 1
  | (_, d) => uptoBulk d + 1
 end
def uptoSmall : (H : Type) → List (DataW H) → Bool := fun _ ds => decide (uptoBulkAll ds ≤ 1048576)
def OpenSpec.upto (s : _root_.Go.ChangeSpec) : _root_.Go.OpenSpec := { _root_.Go.OpenSpec.ofChange s with cond := some uptoSmall }

/-- 'rivermarklaw31.KernelsFormAMonoid', WHERE WHAT IT READS IS OF BULK AT MOST 1048576: true; the input reads as it did. -/
def kernelsFormAMonoidUptoRow : OpenClaim := { program := "ytcpedbpldgndmaadoor", sum := "df9cae38c05c4c2b516a253c2a8a072d5c652fb5d66274d55aa10b2e2c44b768", func := "rivermark/rivermarklaw31.KernelsFormAMonoid", spec := "kernelsFormAMonoid", inPlace := ["internal/bytealg.IndexByteString", "internal/bytealg.IndexString"], unfollowed := true, recurses := true, named := ["unicode/utf8.first", "unicode/utf8.acceptRanges", "internal/bytealg.MaxLen"], apart := false, laid := [("unicode/utf8.acceptRanges", laid_unicode_utf8_acceptRanges), ("unicode/utf8.first", laid_unicode_utf8_first)], narrowed := true }
def KernelsFormAMonoidUptoSaid : Prop := kernelsFormAMonoidUptoRow.holds Tryd.pinned (OpenSpec.upto kernelsFormAMonoidSpec)

/-- 'rivermarklaw31.KernelsCompose', WHERE WHAT IT READS IS OF BULK AT MOST 1048576: true; the input reads as it did. -/
def kernelsComposeUptoRow : OpenClaim := { program := "ytcpedbpldgndmaadoor", sum := "df9cae38c05c4c2b516a253c2a8a072d5c652fb5d66274d55aa10b2e2c44b768", func := "rivermark/rivermarklaw31.KernelsCompose", spec := "kernelsCompose", inPlace := ["internal/bytealg.IndexByteString", "internal/bytealg.IndexString"], unfollowed := true, recurses := true, named := ["unicode/utf8.first", "unicode/utf8.acceptRanges", "internal/bytealg.MaxLen"], apart := false, laid := [("unicode/utf8.acceptRanges", laid_unicode_utf8_acceptRanges), ("unicode/utf8.first", laid_unicode_utf8_first)], narrowed := true }
def KernelsComposeUptoSaid : Prop := kernelsComposeUptoRow.holds Tryd.pinned (OpenSpec.upto kernelsComposeSpec)

/-- 'rivermarklaw31.KernelsKeepMass', WHERE WHAT IT READS IS OF BULK AT MOST 1048576: true; the input reads as it did. -/
def kernelsKeepMassUptoRow : OpenClaim := { program := "ytcpedbpldgndmaadoor", sum := "df9cae38c05c4c2b516a253c2a8a072d5c652fb5d66274d55aa10b2e2c44b768", func := "rivermark/rivermarklaw31.KernelsKeepMass", spec := "kernelsKeepMass", inPlace := ["internal/bytealg.IndexByteString", "internal/bytealg.IndexString"], unfollowed := true, recurses := true, named := ["unicode/utf8.first", "unicode/utf8.acceptRanges", "internal/bytealg.MaxLen"], apart := false, laid := [("unicode/utf8.acceptRanges", laid_unicode_utf8_acceptRanges), ("unicode/utf8.first", laid_unicode_utf8_first)], narrowed := true }
def KernelsKeepMassUptoSaid : Prop := kernelsKeepMassUptoRow.holds Tryd.pinned (OpenSpec.upto kernelsKeepMassSpec)

/-- 'rivermarklaw31.KernelsArriveExactly', WHERE WHAT IT READS IS OF BULK AT MOST 1048576: true; the input reads as it did. -/
def kernelsArriveExactlyUptoRow : OpenClaim := { program := "ytcpedbpldgndmaadoor", sum := "df9cae38c05c4c2b516a253c2a8a072d5c652fb5d66274d55aa10b2e2c44b768", func := "rivermark/rivermarklaw31.KernelsArriveExactly", spec := "kernelsArriveExactly", inPlace := ["internal/bytealg.IndexByteString", "internal/bytealg.IndexString"], unfollowed := true, recurses := true, named := ["unicode/utf8.first", "unicode/utf8.acceptRanges", "internal/bytealg.MaxLen"], apart := false, laid := [("unicode/utf8.acceptRanges", laid_unicode_utf8_acceptRanges), ("unicode/utf8.first", laid_unicode_utf8_first)], narrowed := true }
def KernelsArriveExactlyUptoSaid : Prop := kernelsArriveExactlyUptoRow.holds Tryd.pinned (OpenSpec.upto kernelsArriveExactlySpec)

end Rows
end Go.Proofs.YtcpedbpldgndmaaDoor

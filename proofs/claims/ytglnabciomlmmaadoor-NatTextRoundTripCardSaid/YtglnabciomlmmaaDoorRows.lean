/-
  NARROWER THAN 'FOR EVERY INPUT', by the rows' own cells (each row's printed sentence says how): NatMatchesSpec: laid · NatTextsMatchSpec: laid · NatIsOrderedSemiring: laid · NatDivides: laid · NatCommonDivisors: laid · NatTextRoundTrip: laid.
  DERIVED. THE GIVEN ROWS OF THIS SEAT. 6 by the template 'for every input the law returns true; each argument reads behind the call as it read before'; 0 by the template 'total and deterministic' (their statements: YtglnabciomlmmaaDoorTotals.lean).
  GIVEN WITH THE SEED: the statements are not yours to turn. If you find one false, say at which input.
  Laid BY PROGRAM, IN A SANDBOX (cutbox-rows.mjs): the forced cells as the released guide's own fill.sh prints them over the translation 85624946150ed9cf… (all of the seat's roots in one cut). By AI agents, Wed Nov 11 2026. No macro, syntax, notation, axiom, sorry.
-/
import Derived.Test.YtglnabciomlmmaaDoorChecked
import GoSem.PinnedTables
import GoSem.Claim
import GoSem.ClaimJoined
import GoSem.ClaimMapViews
import Derived.JoinedTies
import Derived.KernelRfl
namespace Go.Proofs.YtglnabciomlmmaaDoor
/- THE CELL 'sum', in the pinned program and in every row, IS THE sha256 OF THE DUMP (.gsa) THAT YtglnabciomlmmaaDoorProg.lean LOADS. Nothing in Lean hashes anything: it is a label: what it is worth is what the hold of that sum in a sandbox is worth. -/
noncomputable def Tryd.pinned : Pinned := { name := "ytglnabciomlmmaadoor", sum := "85624946150ed9cfb585b9cd03719a025cb022980a399eeec61313ccd63d9477", checked := Tryd.checked }
namespace Rows
def none {H : Type} : Left H := { results := [], args := [] }

/- WHAT THE LISTED PACKAGE-LEVEL VARIABLES READ AS WHEN THE CALL BEGINS. Each datum BY PROGRAM (the guide's laid-datum.mjs) off the statement by which the dump's own 'gosem.cut.vars' lays the variable. In a bare row this is a premise. The card (YtglnabciomlmmaaDoorCards.lean) ties it to the program's text. -/
def laid_unicode_utf8_acceptRanges {H : Type} : DataW H := .agg [.agg [.lit (.int .u8 128), .lit (.int .u8 191)], .agg [.lit (.int .u8 160), .lit (.int .u8 191)], .agg [.lit (.int .u8 128), .lit (.int .u8 159)], .agg [.lit (.int .u8 144), .lit (.int .u8 191)], .agg [.lit (.int .u8 128), .lit (.int .u8 143)], .agg [.lit (.int .u8 0), .lit (.int .u8 0)], .agg [.lit (.int .u8 0), .lit (.int .u8 0)], .agg [.lit (.int .u8 0), .lit (.int .u8 0)], .agg [.lit (.int .u8 0), .lit (.int .u8 0)], .agg [.lit (.int .u8 0), .lit (.int .u8 0)], .agg [.lit (.int .u8 0), .lit (.int .u8 0)], .agg [.lit (.int .u8 0), .lit (.int .u8 0)], .agg [.lit (.int .u8 0), .lit (.int .u8 0)], .agg [.lit (.int .u8 0), .lit (.int .u8 0)], .agg [.lit (.int .u8 0), .lit (.int .u8 0)], .agg [.lit (.int .u8 0), .lit (.int .u8 0)]]
/-- One of Go's own tables, pinned by name: the form's constant. -/
def laid_unicode_utf8_first : DataW Unit := Go.Pinned.utf8First

/-- 'rivermarklaw04.NatMatchesSpec': WHATEVER THE INPUT: true; the input reads as it did. -/
def natMatchesSpecSpec : ChangeSpec := { name := "natMatchesSpec", fn := fun _ => fun
  | [d1, d2] => { results := [.lit (.bool true)], args := [d1, d2] }
  | _ => none }
def natMatchesSpecRow : OpenClaim := { program := "ytglnabciomlmmaadoor", sum := "85624946150ed9cfb585b9cd03719a025cb022980a399eeec61313ccd63d9477", func := "rivermark/rivermarklaw04.NatMatchesSpec", spec := "natMatchesSpec", inPlace := ["internal/bytealg.IndexByteString", "internal/bytealg.IndexString"], unfollowed := true, recurses := true, named := ["unicode/utf8.first", "unicode/utf8.acceptRanges", "internal/bytealg.MaxLen"], apart := false, laid := [("unicode/utf8.acceptRanges", laid_unicode_utf8_acceptRanges), ("unicode/utf8.first", laid_unicode_utf8_first)] }
def NatMatchesSpecSaid : Prop := natMatchesSpecRow.holds Tryd.pinned (OpenSpec.ofChange natMatchesSpecSpec)

/-- ITS FALSE NEIGHBOUR: 'it returns false'. Refute it at one input. -/
def natMatchesSpecWrong : ChangeSpec := { name := "natMatchesSpec", fn := fun _ => fun
  | [d1, d2] => { results := [.lit (.bool false)], args := [d1, d2] }
  | _ => none }
def NatMatchesSpecWrongFalsely : Prop := natMatchesSpecRow.holds Tryd.pinned (OpenSpec.ofChange natMatchesSpecWrong)

/-- 'rivermarklaw04.NatTextsMatchSpec': WHATEVER THE INPUT: true; the input reads as it did. -/
def natTextsMatchSpecSpec : ChangeSpec := { name := "natTextsMatchSpec", fn := fun _ => fun
  | [d1, d2, d3] => { results := [.lit (.bool true)], args := [d1, d2, d3] }
  | _ => none }
def natTextsMatchSpecRow : OpenClaim := { program := "ytglnabciomlmmaadoor", sum := "85624946150ed9cfb585b9cd03719a025cb022980a399eeec61313ccd63d9477", func := "rivermark/rivermarklaw04.NatTextsMatchSpec", spec := "natTextsMatchSpec", inPlace := ["internal/bytealg.IndexByteString", "internal/bytealg.IndexString"], unfollowed := true, recurses := true, named := ["unicode/utf8.first", "unicode/utf8.acceptRanges", "internal/bytealg.MaxLen"], apart := false, laid := [("unicode/utf8.acceptRanges", laid_unicode_utf8_acceptRanges), ("unicode/utf8.first", laid_unicode_utf8_first)] }
def NatTextsMatchSpecSaid : Prop := natTextsMatchSpecRow.holds Tryd.pinned (OpenSpec.ofChange natTextsMatchSpecSpec)

/-- ITS FALSE NEIGHBOUR: 'it returns false'. Refute it at one input. -/
def natTextsMatchSpecWrong : ChangeSpec := { name := "natTextsMatchSpec", fn := fun _ => fun
  | [d1, d2, d3] => { results := [.lit (.bool false)], args := [d1, d2, d3] }
  | _ => none }
def NatTextsMatchSpecWrongFalsely : Prop := natTextsMatchSpecRow.holds Tryd.pinned (OpenSpec.ofChange natTextsMatchSpecWrong)

/-- 'rivermarklaw04.NatIsOrderedSemiring': WHATEVER THE INPUT: true; the input reads as it did. -/
def natIsOrderedSemiringSpec : ChangeSpec := { name := "natIsOrderedSemiring", fn := fun _ => fun
  | [d1, d2, d3] => { results := [.lit (.bool true)], args := [d1, d2, d3] }
  | _ => none }
def natIsOrderedSemiringRow : OpenClaim := { program := "ytglnabciomlmmaadoor", sum := "85624946150ed9cfb585b9cd03719a025cb022980a399eeec61313ccd63d9477", func := "rivermark/rivermarklaw04.NatIsOrderedSemiring", spec := "natIsOrderedSemiring", inPlace := ["internal/bytealg.IndexByteString", "internal/bytealg.IndexString"], unfollowed := true, recurses := true, named := ["unicode/utf8.first", "unicode/utf8.acceptRanges", "internal/bytealg.MaxLen"], apart := false, laid := [("unicode/utf8.acceptRanges", laid_unicode_utf8_acceptRanges), ("unicode/utf8.first", laid_unicode_utf8_first)] }
def NatIsOrderedSemiringSaid : Prop := natIsOrderedSemiringRow.holds Tryd.pinned (OpenSpec.ofChange natIsOrderedSemiringSpec)

/-- ITS FALSE NEIGHBOUR: 'it returns false'. Refute it at one input. -/
def natIsOrderedSemiringWrong : ChangeSpec := { name := "natIsOrderedSemiring", fn := fun _ => fun
  | [d1, d2, d3] => { results := [.lit (.bool false)], args := [d1, d2, d3] }
  | _ => none }
def NatIsOrderedSemiringWrongFalsely : Prop := natIsOrderedSemiringRow.holds Tryd.pinned (OpenSpec.ofChange natIsOrderedSemiringWrong)

/-- 'rivermarklaw04.NatDivides': WHATEVER THE INPUT: true; the input reads as it did. -/
def natDividesSpec : ChangeSpec := { name := "natDivides", fn := fun _ => fun
  | [d1, d2, d3] => { results := [.lit (.bool true)], args := [d1, d2, d3] }
  | _ => none }
def natDividesRow : OpenClaim := { program := "ytglnabciomlmmaadoor", sum := "85624946150ed9cfb585b9cd03719a025cb022980a399eeec61313ccd63d9477", func := "rivermark/rivermarklaw04.NatDivides", spec := "natDivides", inPlace := ["internal/bytealg.IndexByteString", "internal/bytealg.IndexString"], unfollowed := true, recurses := true, named := ["unicode/utf8.first", "unicode/utf8.acceptRanges", "internal/bytealg.MaxLen"], apart := false, laid := [("unicode/utf8.acceptRanges", laid_unicode_utf8_acceptRanges), ("unicode/utf8.first", laid_unicode_utf8_first)] }
def NatDividesSaid : Prop := natDividesRow.holds Tryd.pinned (OpenSpec.ofChange natDividesSpec)

/-- ITS FALSE NEIGHBOUR: 'it returns false'. Refute it at one input. -/
def natDividesWrong : ChangeSpec := { name := "natDivides", fn := fun _ => fun
  | [d1, d2, d3] => { results := [.lit (.bool false)], args := [d1, d2, d3] }
  | _ => none }
def NatDividesWrongFalsely : Prop := natDividesRow.holds Tryd.pinned (OpenSpec.ofChange natDividesWrong)

/-- 'rivermarklaw04.NatCommonDivisors': WHATEVER THE INPUT: true; the input reads as it did. -/
def natCommonDivisorsSpec : ChangeSpec := { name := "natCommonDivisors", fn := fun _ => fun
  | [d1, d2, d3] => { results := [.lit (.bool true)], args := [d1, d2, d3] }
  | _ => none }
def natCommonDivisorsRow : OpenClaim := { program := "ytglnabciomlmmaadoor", sum := "85624946150ed9cfb585b9cd03719a025cb022980a399eeec61313ccd63d9477", func := "rivermark/rivermarklaw04.NatCommonDivisors", spec := "natCommonDivisors", inPlace := ["internal/bytealg.IndexByteString", "internal/bytealg.IndexString"], unfollowed := true, recurses := true, named := ["unicode/utf8.first", "unicode/utf8.acceptRanges", "internal/bytealg.MaxLen"], apart := false, laid := [("unicode/utf8.acceptRanges", laid_unicode_utf8_acceptRanges), ("unicode/utf8.first", laid_unicode_utf8_first)] }
def NatCommonDivisorsSaid : Prop := natCommonDivisorsRow.holds Tryd.pinned (OpenSpec.ofChange natCommonDivisorsSpec)

/-- ITS FALSE NEIGHBOUR: 'it returns false'. Refute it at one input. -/
def natCommonDivisorsWrong : ChangeSpec := { name := "natCommonDivisors", fn := fun _ => fun
  | [d1, d2, d3] => { results := [.lit (.bool false)], args := [d1, d2, d3] }
  | _ => none }
def NatCommonDivisorsWrongFalsely : Prop := natCommonDivisorsRow.holds Tryd.pinned (OpenSpec.ofChange natCommonDivisorsWrong)

/-- 'rivermarklaw04.NatTextRoundTrip': WHATEVER THE INPUT: true; the input reads as it did. -/
def natTextRoundTripSpec : ChangeSpec := { name := "natTextRoundTrip", fn := fun _ => fun
  | [d1, d2] => { results := [.lit (.bool true)], args := [d1, d2] }
  | _ => none }
def natTextRoundTripRow : OpenClaim := { program := "ytglnabciomlmmaadoor", sum := "85624946150ed9cfb585b9cd03719a025cb022980a399eeec61313ccd63d9477", func := "rivermark/rivermarklaw04.NatTextRoundTrip", spec := "natTextRoundTrip", inPlace := ["internal/bytealg.IndexByteString", "internal/bytealg.IndexString"], unfollowed := true, recurses := true, named := ["unicode/utf8.first", "unicode/utf8.acceptRanges", "internal/bytealg.MaxLen"], apart := false, laid := [("unicode/utf8.acceptRanges", laid_unicode_utf8_acceptRanges), ("unicode/utf8.first", laid_unicode_utf8_first)] }
def NatTextRoundTripSaid : Prop := natTextRoundTripRow.holds Tryd.pinned (OpenSpec.ofChange natTextRoundTripSpec)

/-- ITS FALSE NEIGHBOUR: 'it returns false'. Refute it at one input. -/
def natTextRoundTripWrong : ChangeSpec := { name := "natTextRoundTrip", fn := fun _ => fun
  | [d1, d2] => { results := [.lit (.bool false)], args := [d1, d2] }
  | _ => none }
def NatTextRoundTripWrongFalsely : Prop := natTextRoundTripRow.holds Tryd.pinned (OpenSpec.ofChange natTextRoundTripWrong)

/- THE SECOND FORM. 'bulk': how many values and letters a reading holds, each counted each time it is reached (what is shared counts as often as it is met; a slice's spare places count too). A statement '..UptoSaid' is the law's where the arguments, and the package variables that the reading takes, are together of bulk at most 1048576: NARROWER than '..Said'. Prove '..Said' where nothing that the law and all that it calls make is longer than what came in: it says more and counts as full. Else prove '..UptoSaid'. A law counts once. -/
mutual
def uptoBulk {H : Type} : DataW H → Nat
  | .lit (.string bytes) => bytes.length + 1
  | .lit _ => 1
  | .nil => 1
  | .ptr d => uptoBulk d + 1
  | .slice elems spare => uptoBulkAll elems + uptoBulkAll spare + 1
  | .agg parts => uptoBulkAll parts + 1
  | .iface _ d => uptoBulk d + 1
  | .map entries => uptoBulkEntries entries + 1
  | .held _ => 1
def uptoBulkAll {H : Type} : List (DataW H) → Nat
  | [] => 0
  | d :: r => uptoBulk d + uptoBulkAll r
def uptoBulkEntries {H : Type} : List (Lit × DataW H) → Nat
  | [] => 0
  | x :: r => uptoBulkEntry x + uptoBulkEntries r
def uptoBulkEntry {H : Type} : Lit × DataW H → Nat
  | (.string bytes, d) => bytes.length + uptoBulk d + 1
  | (_, d) => uptoBulk d + 1
 end
def uptoSmall : (H : Type) → List (DataW H) → Bool := fun _ ds => decide (uptoBulkAll ds ≤ 1048576)
def OpenSpec.upto (s : _root_.Go.ChangeSpec) : _root_.Go.OpenSpec := { _root_.Go.OpenSpec.ofChange s with cond := some uptoSmall }

/-- 'rivermarklaw04.NatMatchesSpec', WHERE WHAT IT READS IS OF BULK AT MOST 1048576: true; the input reads as it did. -/
def natMatchesSpecUptoRow : OpenClaim := { program := "ytglnabciomlmmaadoor", sum := "85624946150ed9cfb585b9cd03719a025cb022980a399eeec61313ccd63d9477", func := "rivermark/rivermarklaw04.NatMatchesSpec", spec := "natMatchesSpec", inPlace := ["internal/bytealg.IndexByteString", "internal/bytealg.IndexString"], unfollowed := true, recurses := true, named := ["unicode/utf8.first", "unicode/utf8.acceptRanges", "internal/bytealg.MaxLen"], apart := false, laid := [("unicode/utf8.acceptRanges", laid_unicode_utf8_acceptRanges), ("unicode/utf8.first", laid_unicode_utf8_first)], narrowed := true }
def NatMatchesSpecUptoSaid : Prop := natMatchesSpecUptoRow.holds Tryd.pinned (OpenSpec.upto natMatchesSpecSpec)

/-- 'rivermarklaw04.NatTextsMatchSpec', WHERE WHAT IT READS IS OF BULK AT MOST 1048576: true; the input reads as it did. -/
def natTextsMatchSpecUptoRow : OpenClaim := { program := "ytglnabciomlmmaadoor", sum := "85624946150ed9cfb585b9cd03719a025cb022980a399eeec61313ccd63d9477", func := "rivermark/rivermarklaw04.NatTextsMatchSpec", spec := "natTextsMatchSpec", inPlace := ["internal/bytealg.IndexByteString", "internal/bytealg.IndexString"], unfollowed := true, recurses := true, named := ["unicode/utf8.first", "unicode/utf8.acceptRanges", "internal/bytealg.MaxLen"], apart := false, laid := [("unicode/utf8.acceptRanges", laid_unicode_utf8_acceptRanges), ("unicode/utf8.first", laid_unicode_utf8_first)], narrowed := true }
def NatTextsMatchSpecUptoSaid : Prop := natTextsMatchSpecUptoRow.holds Tryd.pinned (OpenSpec.upto natTextsMatchSpecSpec)

/-- 'rivermarklaw04.NatIsOrderedSemiring', WHERE WHAT IT READS IS OF BULK AT MOST 1048576: true; the input reads as it did. -/
def natIsOrderedSemiringUptoRow : OpenClaim := { program := "ytglnabciomlmmaadoor", sum := "85624946150ed9cfb585b9cd03719a025cb022980a399eeec61313ccd63d9477", func := "rivermark/rivermarklaw04.NatIsOrderedSemiring", spec := "natIsOrderedSemiring", inPlace := ["internal/bytealg.IndexByteString", "internal/bytealg.IndexString"], unfollowed := true, recurses := true, named := ["unicode/utf8.first", "unicode/utf8.acceptRanges", "internal/bytealg.MaxLen"], apart := false, laid := [("unicode/utf8.acceptRanges", laid_unicode_utf8_acceptRanges), ("unicode/utf8.first", laid_unicode_utf8_first)], narrowed := true }
def NatIsOrderedSemiringUptoSaid : Prop := natIsOrderedSemiringUptoRow.holds Tryd.pinned (OpenSpec.upto natIsOrderedSemiringSpec)

/-- 'rivermarklaw04.NatDivides', WHERE WHAT IT READS IS OF BULK AT MOST 1048576: true; the input reads as it did. -/
def natDividesUptoRow : OpenClaim := { program := "ytglnabciomlmmaadoor", sum := "85624946150ed9cfb585b9cd03719a025cb022980a399eeec61313ccd63d9477", func := "rivermark/rivermarklaw04.NatDivides", spec := "natDivides", inPlace := ["internal/bytealg.IndexByteString", "internal/bytealg.IndexString"], unfollowed := true, recurses := true, named := ["unicode/utf8.first", "unicode/utf8.acceptRanges", "internal/bytealg.MaxLen"], apart := false, laid := [("unicode/utf8.acceptRanges", laid_unicode_utf8_acceptRanges), ("unicode/utf8.first", laid_unicode_utf8_first)], narrowed := true }
def NatDividesUptoSaid : Prop := natDividesUptoRow.holds Tryd.pinned (OpenSpec.upto natDividesSpec)

/-- 'rivermarklaw04.NatCommonDivisors', WHERE WHAT IT READS IS OF BULK AT MOST 1048576: true; the input reads as it did. -/
def natCommonDivisorsUptoRow : OpenClaim := { program := "ytglnabciomlmmaadoor", sum := "85624946150ed9cfb585b9cd03719a025cb022980a399eeec61313ccd63d9477", func := "rivermark/rivermarklaw04.NatCommonDivisors", spec := "natCommonDivisors", inPlace := ["internal/bytealg.IndexByteString", "internal/bytealg.IndexString"], unfollowed := true, recurses := true, named := ["unicode/utf8.first", "unicode/utf8.acceptRanges", "internal/bytealg.MaxLen"], apart := false, laid := [("unicode/utf8.acceptRanges", laid_unicode_utf8_acceptRanges), ("unicode/utf8.first", laid_unicode_utf8_first)], narrowed := true }
def NatCommonDivisorsUptoSaid : Prop := natCommonDivisorsUptoRow.holds Tryd.pinned (OpenSpec.upto natCommonDivisorsSpec)

/-- 'rivermarklaw04.NatTextRoundTrip', WHERE WHAT IT READS IS OF BULK AT MOST 1048576: true; the input reads as it did. -/
def natTextRoundTripUptoRow : OpenClaim := { program := "ytglnabciomlmmaadoor", sum := "85624946150ed9cfb585b9cd03719a025cb022980a399eeec61313ccd63d9477", func := "rivermark/rivermarklaw04.NatTextRoundTrip", spec := "natTextRoundTrip", inPlace := ["internal/bytealg.IndexByteString", "internal/bytealg.IndexString"], unfollowed := true, recurses := true, named := ["unicode/utf8.first", "unicode/utf8.acceptRanges", "internal/bytealg.MaxLen"], apart := false, laid := [("unicode/utf8.acceptRanges", laid_unicode_utf8_acceptRanges), ("unicode/utf8.first", laid_unicode_utf8_first)], narrowed := true }
def NatTextRoundTripUptoSaid : Prop := natTextRoundTripUptoRow.holds Tryd.pinned (OpenSpec.upto natTextRoundTripSpec)

end Rows
end Go.Proofs.YtglnabciomlmmaaDoor

/-
  NARROWER THAN 'FOR EVERY INPUT', by the rows' own cells (each row's printed sentence says how): RatTextsAsSpecified: laid · RatsAreAField: laid · RatsAreOrdered: laid · RatTextsComeBack: laid · CurveIsMonotone: laid · CurveIsLinear: laid · CurveShifts: laid · CurvesDifferExactly: laid.
  DERIVED. THE GIVEN ROWS OF THIS SEAT. 8 by the template 'for every input the law returns true; each argument reads behind the call as it read before'; 0 by the template 'total and deterministic' (their statements: YtchhlgcakjjncaaDoorTotals.lean).
  GIVEN WITH THE SEED: the statements are not yours to turn. If you find one false, say at which input.
  Laid BY PROGRAM, IN A SANDBOX (cutbox-rows.mjs): the forced cells as the released guide's own fill.sh prints them over the translation 38f17ca731c8c561… (all of the seat's roots in one cut). By AI agents, Wed Nov 11 2026. No macro, syntax, notation, axiom, sorry.
-/
import Derived.Test.YtchhlgcakjjncaaDoorChecked
import GoSem.PinnedTables
import GoSem.Claim
import GoSem.ClaimJoined
import GoSem.ClaimMapViews
import Derived.JoinedTies
import Derived.KernelRfl
namespace Go.Proofs.YtchhlgcakjjncaaDoor
/- THE CELL 'sum', in the pinned program and in every row, IS THE sha256 OF THE DUMP (.gsa) THAT YtchhlgcakjjncaaDoorProg.lean LOADS. Nothing in Lean hashes anything: it is a label: what it is worth is what the hold of that sum in a sandbox is worth. -/
noncomputable def Tryd.pinned : Pinned := { name := "ytchhlgcakjjncaadoor", sum := "38f17ca731c8c5613fb17916ae7f7cfca025dc90b4b4958442b1ebd3ba9b5561", checked := Tryd.checked }
namespace Rows
def none {H : Type} : Left H := { results := [], args := [] }

/- WHAT THE LISTED PACKAGE-LEVEL VARIABLES READ AS WHEN THE CALL BEGINS. Each datum BY PROGRAM (the guide's laid-datum.mjs) off the statement by which the dump's own 'gosem.cut.vars' lays the variable. In a bare row this is a premise. The card (YtchhlgcakjjncaaDoorCards.lean) ties it to the program's text. -/
def laid_unicode_utf8_acceptRanges {H : Type} : DataW H := .agg [.agg [.lit (.int .u8 128), .lit (.int .u8 191)], .agg [.lit (.int .u8 160), .lit (.int .u8 191)], .agg [.lit (.int .u8 128), .lit (.int .u8 159)], .agg [.lit (.int .u8 144), .lit (.int .u8 191)], .agg [.lit (.int .u8 128), .lit (.int .u8 143)], .agg [.lit (.int .u8 0), .lit (.int .u8 0)], .agg [.lit (.int .u8 0), .lit (.int .u8 0)], .agg [.lit (.int .u8 0), .lit (.int .u8 0)], .agg [.lit (.int .u8 0), .lit (.int .u8 0)], .agg [.lit (.int .u8 0), .lit (.int .u8 0)], .agg [.lit (.int .u8 0), .lit (.int .u8 0)], .agg [.lit (.int .u8 0), .lit (.int .u8 0)], .agg [.lit (.int .u8 0), .lit (.int .u8 0)], .agg [.lit (.int .u8 0), .lit (.int .u8 0)], .agg [.lit (.int .u8 0), .lit (.int .u8 0)], .agg [.lit (.int .u8 0), .lit (.int .u8 0)]]
/-- One of Go's own tables, pinned by name: the form's constant. -/
def laid_unicode_utf8_first : DataW Unit := Go.Pinned.utf8First

/-- 'rivermarklaw05.RatTextsAsSpecified': WHATEVER THE INPUT: true; the input reads as it did. -/
def ratTextsAsSpecifiedSpec : ChangeSpec := { name := "ratTextsAsSpecified", fn := fun _ => fun
  | [d1, d2] => { results := [.lit (.bool true)], args := [d1, d2] }
  | _ => none }
def ratTextsAsSpecifiedRow : OpenClaim := { program := "ytchhlgcakjjncaadoor", sum := "38f17ca731c8c5613fb17916ae7f7cfca025dc90b4b4958442b1ebd3ba9b5561", func := "rivermark/rivermarklaw05.RatTextsAsSpecified", spec := "ratTextsAsSpecified", inPlace := ["internal/bytealg.IndexByteString", "internal/bytealg.IndexString"], unfollowed := true, recurses := true, named := ["unicode/utf8.first", "unicode/utf8.acceptRanges", "internal/bytealg.MaxLen"], apart := false, laid := [("unicode/utf8.acceptRanges", laid_unicode_utf8_acceptRanges), ("unicode/utf8.first", laid_unicode_utf8_first)] }
def RatTextsAsSpecifiedSaid : Prop := ratTextsAsSpecifiedRow.holds Tryd.pinned (OpenSpec.ofChange ratTextsAsSpecifiedSpec)

/-- ITS FALSE NEIGHBOUR: 'it returns false'. Refute it at one input. -/
def ratTextsAsSpecifiedWrong : ChangeSpec := { name := "ratTextsAsSpecified", fn := fun _ => fun
  | [d1, d2] => { results := [.lit (.bool false)], args := [d1, d2] }
  | _ => none }
def RatTextsAsSpecifiedWrongFalsely : Prop := ratTextsAsSpecifiedRow.holds Tryd.pinned (OpenSpec.ofChange ratTextsAsSpecifiedWrong)

/-- 'rivermarklaw05.RatsAreAField': WHATEVER THE INPUT: true; the input reads as it did. -/
def ratsAreAFieldSpec : ChangeSpec := { name := "ratsAreAField", fn := fun _ => fun
  | [d1, d2, d3] => { results := [.lit (.bool true)], args := [d1, d2, d3] }
  | _ => none }
def ratsAreAFieldRow : OpenClaim := { program := "ytchhlgcakjjncaadoor", sum := "38f17ca731c8c5613fb17916ae7f7cfca025dc90b4b4958442b1ebd3ba9b5561", func := "rivermark/rivermarklaw05.RatsAreAField", spec := "ratsAreAField", inPlace := ["internal/bytealg.IndexByteString", "internal/bytealg.IndexString"], unfollowed := true, recurses := true, named := ["unicode/utf8.first", "unicode/utf8.acceptRanges", "internal/bytealg.MaxLen"], apart := false, laid := [("unicode/utf8.acceptRanges", laid_unicode_utf8_acceptRanges), ("unicode/utf8.first", laid_unicode_utf8_first)] }
def RatsAreAFieldSaid : Prop := ratsAreAFieldRow.holds Tryd.pinned (OpenSpec.ofChange ratsAreAFieldSpec)

/-- ITS FALSE NEIGHBOUR: 'it returns false'. Refute it at one input. -/
def ratsAreAFieldWrong : ChangeSpec := { name := "ratsAreAField", fn := fun _ => fun
  | [d1, d2, d3] => { results := [.lit (.bool false)], args := [d1, d2, d3] }
  | _ => none }
def RatsAreAFieldWrongFalsely : Prop := ratsAreAFieldRow.holds Tryd.pinned (OpenSpec.ofChange ratsAreAFieldWrong)

/-- 'rivermarklaw05.RatsAreOrdered': WHATEVER THE INPUT: true; the input reads as it did. -/
def ratsAreOrderedSpec : ChangeSpec := { name := "ratsAreOrdered", fn := fun _ => fun
  | [d1, d2, d3] => { results := [.lit (.bool true)], args := [d1, d2, d3] }
  | _ => none }
def ratsAreOrderedRow : OpenClaim := { program := "ytchhlgcakjjncaadoor", sum := "38f17ca731c8c5613fb17916ae7f7cfca025dc90b4b4958442b1ebd3ba9b5561", func := "rivermark/rivermarklaw05.RatsAreOrdered", spec := "ratsAreOrdered", inPlace := ["internal/bytealg.IndexByteString", "internal/bytealg.IndexString"], unfollowed := true, recurses := true, named := ["unicode/utf8.first", "unicode/utf8.acceptRanges", "internal/bytealg.MaxLen"], apart := false, laid := [("unicode/utf8.acceptRanges", laid_unicode_utf8_acceptRanges), ("unicode/utf8.first", laid_unicode_utf8_first)] }
def RatsAreOrderedSaid : Prop := ratsAreOrderedRow.holds Tryd.pinned (OpenSpec.ofChange ratsAreOrderedSpec)

/-- ITS FALSE NEIGHBOUR: 'it returns false'. Refute it at one input. -/
def ratsAreOrderedWrong : ChangeSpec := { name := "ratsAreOrdered", fn := fun _ => fun
  | [d1, d2, d3] => { results := [.lit (.bool false)], args := [d1, d2, d3] }
  | _ => none }
def RatsAreOrderedWrongFalsely : Prop := ratsAreOrderedRow.holds Tryd.pinned (OpenSpec.ofChange ratsAreOrderedWrong)

/-- 'rivermarklaw05.RatTextsComeBack': WHATEVER THE INPUT: true; the input reads as it did. -/
def ratTextsComeBackSpec : ChangeSpec := { name := "ratTextsComeBack", fn := fun _ => fun
  | [d1, d2, d3] => { results := [.lit (.bool true)], args := [d1, d2, d3] }
  | _ => none }
def ratTextsComeBackRow : OpenClaim := { program := "ytchhlgcakjjncaadoor", sum := "38f17ca731c8c5613fb17916ae7f7cfca025dc90b4b4958442b1ebd3ba9b5561", func := "rivermark/rivermarklaw05.RatTextsComeBack", spec := "ratTextsComeBack", inPlace := ["internal/bytealg.IndexByteString", "internal/bytealg.IndexString"], unfollowed := true, recurses := true, named := ["unicode/utf8.first", "unicode/utf8.acceptRanges", "internal/bytealg.MaxLen"], apart := false, laid := [("unicode/utf8.acceptRanges", laid_unicode_utf8_acceptRanges), ("unicode/utf8.first", laid_unicode_utf8_first)] }
def RatTextsComeBackSaid : Prop := ratTextsComeBackRow.holds Tryd.pinned (OpenSpec.ofChange ratTextsComeBackSpec)

/-- ITS FALSE NEIGHBOUR: 'it returns false'. Refute it at one input. -/
def ratTextsComeBackWrong : ChangeSpec := { name := "ratTextsComeBack", fn := fun _ => fun
  | [d1, d2, d3] => { results := [.lit (.bool false)], args := [d1, d2, d3] }
  | _ => none }
def RatTextsComeBackWrongFalsely : Prop := ratTextsComeBackRow.holds Tryd.pinned (OpenSpec.ofChange ratTextsComeBackWrong)

/-- 'rivermarklaw13.CurveIsMonotone': WHATEVER THE INPUT: true; the input reads as it did. -/
def curveIsMonotoneSpec : ChangeSpec := { name := "curveIsMonotone", fn := fun _ => fun
  | [d1, d2, d3] => { results := [.lit (.bool true)], args := [d1, d2, d3] }
  | _ => none }
def curveIsMonotoneRow : OpenClaim := { program := "ytchhlgcakjjncaadoor", sum := "38f17ca731c8c5613fb17916ae7f7cfca025dc90b4b4958442b1ebd3ba9b5561", func := "rivermark/rivermarklaw13.CurveIsMonotone", spec := "curveIsMonotone", inPlace := ["internal/bytealg.IndexByteString", "internal/bytealg.IndexString"], unfollowed := true, recurses := true, named := ["unicode/utf8.first", "unicode/utf8.acceptRanges", "internal/bytealg.MaxLen"], apart := false, laid := [("unicode/utf8.acceptRanges", laid_unicode_utf8_acceptRanges), ("unicode/utf8.first", laid_unicode_utf8_first)] }
def CurveIsMonotoneSaid : Prop := curveIsMonotoneRow.holds Tryd.pinned (OpenSpec.ofChange curveIsMonotoneSpec)

/-- ITS FALSE NEIGHBOUR: 'it returns false'. Refute it at one input. -/
def curveIsMonotoneWrong : ChangeSpec := { name := "curveIsMonotone", fn := fun _ => fun
  | [d1, d2, d3] => { results := [.lit (.bool false)], args := [d1, d2, d3] }
  | _ => none }
def CurveIsMonotoneWrongFalsely : Prop := curveIsMonotoneRow.holds Tryd.pinned (OpenSpec.ofChange curveIsMonotoneWrong)

/-- 'rivermarklaw13.CurveIsLinear': WHATEVER THE INPUT: true; the input reads as it did. -/
def curveIsLinearSpec : ChangeSpec := { name := "curveIsLinear", fn := fun _ => fun
  | [d1, d2, d3] => { results := [.lit (.bool true)], args := [d1, d2, d3] }
  | _ => none }
def curveIsLinearRow : OpenClaim := { program := "ytchhlgcakjjncaadoor", sum := "38f17ca731c8c5613fb17916ae7f7cfca025dc90b4b4958442b1ebd3ba9b5561", func := "rivermark/rivermarklaw13.CurveIsLinear", spec := "curveIsLinear", inPlace := ["internal/bytealg.IndexByteString", "internal/bytealg.IndexString"], unfollowed := true, recurses := true, named := ["unicode/utf8.first", "unicode/utf8.acceptRanges", "internal/bytealg.MaxLen"], apart := false, laid := [("unicode/utf8.acceptRanges", laid_unicode_utf8_acceptRanges), ("unicode/utf8.first", laid_unicode_utf8_first)] }
def CurveIsLinearSaid : Prop := curveIsLinearRow.holds Tryd.pinned (OpenSpec.ofChange curveIsLinearSpec)

/-- ITS FALSE NEIGHBOUR: 'it returns false'. Refute it at one input. -/
def curveIsLinearWrong : ChangeSpec := { name := "curveIsLinear", fn := fun _ => fun
  | [d1, d2, d3] => { results := [.lit (.bool false)], args := [d1, d2, d3] }
  | _ => none }
def CurveIsLinearWrongFalsely : Prop := curveIsLinearRow.holds Tryd.pinned (OpenSpec.ofChange curveIsLinearWrong)

/-- 'rivermarklaw13.CurveShifts': WHATEVER THE INPUT: true; the input reads as it did. -/
def curveShiftsSpec : ChangeSpec := { name := "curveShifts", fn := fun _ => fun
  | [d1, d2, d3] => { results := [.lit (.bool true)], args := [d1, d2, d3] }
  | _ => none }
def curveShiftsRow : OpenClaim := { program := "ytchhlgcakjjncaadoor", sum := "38f17ca731c8c5613fb17916ae7f7cfca025dc90b4b4958442b1ebd3ba9b5561", func := "rivermark/rivermarklaw13.CurveShifts", spec := "curveShifts", inPlace := ["internal/bytealg.IndexByteString", "internal/bytealg.IndexString"], unfollowed := true, recurses := true, named := ["unicode/utf8.first", "unicode/utf8.acceptRanges", "internal/bytealg.MaxLen"], apart := false, laid := [("unicode/utf8.acceptRanges", laid_unicode_utf8_acceptRanges), ("unicode/utf8.first", laid_unicode_utf8_first)] }
def CurveShiftsSaid : Prop := curveShiftsRow.holds Tryd.pinned (OpenSpec.ofChange curveShiftsSpec)

/-- ITS FALSE NEIGHBOUR: 'it returns false'. Refute it at one input. -/
def curveShiftsWrong : ChangeSpec := { name := "curveShifts", fn := fun _ => fun
  | [d1, d2, d3] => { results := [.lit (.bool false)], args := [d1, d2, d3] }
  | _ => none }
def CurveShiftsWrongFalsely : Prop := curveShiftsRow.holds Tryd.pinned (OpenSpec.ofChange curveShiftsWrong)

/-- 'rivermarklaw13.CurvesDifferExactly': WHATEVER THE INPUT: true; the input reads as it did. -/
def curvesDifferExactlySpec : ChangeSpec := { name := "curvesDifferExactly", fn := fun _ => fun
  | [d1, d2, d3] => { results := [.lit (.bool true)], args := [d1, d2, d3] }
  | _ => none }
def curvesDifferExactlyRow : OpenClaim := { program := "ytchhlgcakjjncaadoor", sum := "38f17ca731c8c5613fb17916ae7f7cfca025dc90b4b4958442b1ebd3ba9b5561", func := "rivermark/rivermarklaw13.CurvesDifferExactly", spec := "curvesDifferExactly", inPlace := ["internal/bytealg.IndexByteString", "internal/bytealg.IndexString"], unfollowed := true, recurses := true, named := ["unicode/utf8.first", "unicode/utf8.acceptRanges", "internal/bytealg.MaxLen"], apart := false, laid := [("unicode/utf8.acceptRanges", laid_unicode_utf8_acceptRanges), ("unicode/utf8.first", laid_unicode_utf8_first)] }
def CurvesDifferExactlySaid : Prop := curvesDifferExactlyRow.holds Tryd.pinned (OpenSpec.ofChange curvesDifferExactlySpec)

/-- ITS FALSE NEIGHBOUR: 'it returns false'. Refute it at one input. -/
def curvesDifferExactlyWrong : ChangeSpec := { name := "curvesDifferExactly", fn := fun _ => fun
  | [d1, d2, d3] => { results := [.lit (.bool false)], args := [d1, d2, d3] }
  | _ => none }
def CurvesDifferExactlyWrongFalsely : Prop := curvesDifferExactlyRow.holds Tryd.pinned (OpenSpec.ofChange curvesDifferExactlyWrong)

/- THE SECOND FORM. 'bulk': how many values and letters a reading holds, each counted each time it is reached (what is shared counts as often as it is met; a slice's spare places count too). A statement '..UptoSaid' is the law's where the arguments, and the package variables that the reading takes, are together of bulk at most 1048576: NARROWER than '..Said'. Prove '..Said' where nothing that the law and all that it calls make is longer than what came in: it says more and counts as full. Else prove '..UptoSaid'. A law counts once. -/
mutual
def uptoBulk {H : Type} : DataW H → Nat
  | .lit (.string bytes) => bytes.length + 1
  | .lit _ => 1
  | .nil => 1
  | .ptr d => uptoBulk d + 1
  | .slice elems spare => uptoBulkAll elems + uptoBulkAll spare + 1
  | .agg parts => uptoBulkAll parts + 1
  | .iface _ d => uptoBulk d + 1
  | .map entries => uptoBulkEntries entries + 1
  | .held _ => 1
def uptoBulkAll {H : Type} : List (DataW H) → Nat
  | [] => 0
  | d :: r => uptoBulk d + uptoBulkAll r
def uptoBulkEntries {H : Type} : List (Lit × DataW H) → Nat
  | [] => 0
  | x :: r => uptoBulkEntry x + uptoBulkEntries r
def uptoBulkEntry {H : Type} : Lit × DataW H → Nat
  | (.string bytes, d) => bytes.length + uptoBulk d + 1
  | (_, d) => uptoBulk d + 1
 end
def uptoSmall : (H : Type) → List (DataW H) → Bool := fun _ ds => decide (uptoBulkAll ds ≤ 1048576)
def OpenSpec.upto (s : _root_.Go.ChangeSpec) : _root_.Go.OpenSpec := { _root_.Go.OpenSpec.ofChange s with cond := some uptoSmall }

/-- 'rivermarklaw05.RatTextsAsSpecified', WHERE WHAT IT READS IS OF BULK AT MOST 1048576: true; the input reads as it did. -/
def ratTextsAsSpecifiedUptoRow : OpenClaim := { program := "ytchhlgcakjjncaadoor", sum := "38f17ca731c8c5613fb17916ae7f7cfca025dc90b4b4958442b1ebd3ba9b5561", func := "rivermark/rivermarklaw05.RatTextsAsSpecified", spec := "ratTextsAsSpecified", inPlace := ["internal/bytealg.IndexByteString", "internal/bytealg.IndexString"], unfollowed := true, recurses := true, named := ["unicode/utf8.first", "unicode/utf8.acceptRanges", "internal/bytealg.MaxLen"], apart := false, laid := [("unicode/utf8.acceptRanges", laid_unicode_utf8_acceptRanges), ("unicode/utf8.first", laid_unicode_utf8_first)], narrowed := true }
def RatTextsAsSpecifiedUptoSaid : Prop := ratTextsAsSpecifiedUptoRow.holds Tryd.pinned (OpenSpec.upto ratTextsAsSpecifiedSpec)

/-- 'rivermarklaw05.RatsAreAField', WHERE WHAT IT READS IS OF BULK AT MOST 1048576: true; the input reads as it did. -/
def ratsAreAFieldUptoRow : OpenClaim := { program := "ytchhlgcakjjncaadoor", sum := "38f17ca731c8c5613fb17916ae7f7cfca025dc90b4b4958442b1ebd3ba9b5561", func := "rivermark/rivermarklaw05.RatsAreAField", spec := "ratsAreAField", inPlace := ["internal/bytealg.IndexByteString", "internal/bytealg.IndexString"], unfollowed := true, recurses := true, named := ["unicode/utf8.first", "unicode/utf8.acceptRanges", "internal/bytealg.MaxLen"], apart := false, laid := [("unicode/utf8.acceptRanges", laid_unicode_utf8_acceptRanges), ("unicode/utf8.first", laid_unicode_utf8_first)], narrowed := true }
def RatsAreAFieldUptoSaid : Prop := ratsAreAFieldUptoRow.holds Tryd.pinned (OpenSpec.upto ratsAreAFieldSpec)

/-- 'rivermarklaw05.RatsAreOrdered', WHERE WHAT IT READS IS OF BULK AT MOST 1048576: true; the input reads as it did. -/
def ratsAreOrderedUptoRow : OpenClaim := { program := "ytchhlgcakjjncaadoor", sum := "38f17ca731c8c5613fb17916ae7f7cfca025dc90b4b4958442b1ebd3ba9b5561", func := "rivermark/rivermarklaw05.RatsAreOrdered", spec := "ratsAreOrdered", inPlace := ["internal/bytealg.IndexByteString", "internal/bytealg.IndexString"], unfollowed := true, recurses := true, named := ["unicode/utf8.first", "unicode/utf8.acceptRanges", "internal/bytealg.MaxLen"], apart := false, laid := [("unicode/utf8.acceptRanges", laid_unicode_utf8_acceptRanges), ("unicode/utf8.first", laid_unicode_utf8_first)], narrowed := true }
def RatsAreOrderedUptoSaid : Prop := ratsAreOrderedUptoRow.holds Tryd.pinned (OpenSpec.upto ratsAreOrderedSpec)

/-- 'rivermarklaw05.RatTextsComeBack', WHERE WHAT IT READS IS OF BULK AT MOST 1048576: true; the input reads as it did. -/
def ratTextsComeBackUptoRow : OpenClaim := { program := "ytchhlgcakjjncaadoor", sum := "38f17ca731c8c5613fb17916ae7f7cfca025dc90b4b4958442b1ebd3ba9b5561", func := "rivermark/rivermarklaw05.RatTextsComeBack", spec := "ratTextsComeBack", inPlace := ["internal/bytealg.IndexByteString", "internal/bytealg.IndexString"], unfollowed := true, recurses := true, named := ["unicode/utf8.first", "unicode/utf8.acceptRanges", "internal/bytealg.MaxLen"], apart := false, laid := [("unicode/utf8.acceptRanges", laid_unicode_utf8_acceptRanges), ("unicode/utf8.first", laid_unicode_utf8_first)], narrowed := true }
def RatTextsComeBackUptoSaid : Prop := ratTextsComeBackUptoRow.holds Tryd.pinned (OpenSpec.upto ratTextsComeBackSpec)

/-- 'rivermarklaw13.CurveIsMonotone', WHERE WHAT IT READS IS OF BULK AT MOST 1048576: true; the input reads as it did. -/
def curveIsMonotoneUptoRow : OpenClaim := { program := "ytchhlgcakjjncaadoor", sum := "38f17ca731c8c5613fb17916ae7f7cfca025dc90b4b4958442b1ebd3ba9b5561", func := "rivermark/rivermarklaw13.CurveIsMonotone", spec := "curveIsMonotone", inPlace := ["internal/bytealg.IndexByteString", "internal/bytealg.IndexString"], unfollowed := true, recurses := true, named := ["unicode/utf8.first", "unicode/utf8.acceptRanges", "internal/bytealg.MaxLen"], apart := false, laid := [("unicode/utf8.acceptRanges", laid_unicode_utf8_acceptRanges), ("unicode/utf8.first", laid_unicode_utf8_first)], narrowed := true }
def CurveIsMonotoneUptoSaid : Prop := curveIsMonotoneUptoRow.holds Tryd.pinned (OpenSpec.upto curveIsMonotoneSpec)

/-- 'rivermarklaw13.CurveIsLinear', WHERE WHAT IT READS IS OF BULK AT MOST 1048576: true; the input reads as it did. -/
def curveIsLinearUptoRow : OpenClaim := { program := "ytchhlgcakjjncaadoor", sum := "38f17ca731c8c5613fb17916ae7f7cfca025dc90b4b4958442b1ebd3ba9b5561", func := "rivermark/rivermarklaw13.CurveIsLinear", spec := "curveIsLinear", inPlace := ["internal/bytealg.IndexByteString", "internal/bytealg.IndexString"], unfollowed := true, recurses := true, named := ["unicode/utf8.first", "unicode/utf8.acceptRanges", "internal/bytealg.MaxLen"], apart := false, laid := [("unicode/utf8.acceptRanges", laid_unicode_utf8_acceptRanges), ("unicode/utf8.first", laid_unicode_utf8_first)], narrowed := true }
def CurveIsLinearUptoSaid : Prop := curveIsLinearUptoRow.holds Tryd.pinned (OpenSpec.upto curveIsLinearSpec)

/-- 'rivermarklaw13.CurveShifts', WHERE WHAT IT READS IS OF BULK AT MOST 1048576: true; the input reads as it did. -/
def curveShiftsUptoRow : OpenClaim := { program := "ytchhlgcakjjncaadoor", sum := "38f17ca731c8c5613fb17916ae7f7cfca025dc90b4b4958442b1ebd3ba9b5561", func := "rivermark/rivermarklaw13.CurveShifts", spec := "curveShifts", inPlace := ["internal/bytealg.IndexByteString", "internal/bytealg.IndexString"], unfollowed := true, recurses := true, named := ["unicode/utf8.first", "unicode/utf8.acceptRanges", "internal/bytealg.MaxLen"], apart := false, laid := [("unicode/utf8.acceptRanges", laid_unicode_utf8_acceptRanges), ("unicode/utf8.first", laid_unicode_utf8_first)], narrowed := true }
def CurveShiftsUptoSaid : Prop := curveShiftsUptoRow.holds Tryd.pinned (OpenSpec.upto curveShiftsSpec)

/-- 'rivermarklaw13.CurvesDifferExactly', WHERE WHAT IT READS IS OF BULK AT MOST 1048576: true; the input reads as it did. -/
def curvesDifferExactlyUptoRow : OpenClaim := { program := "ytchhlgcakjjncaadoor", sum := "38f17ca731c8c5613fb17916ae7f7cfca025dc90b4b4958442b1ebd3ba9b5561", func := "rivermark/rivermarklaw13.CurvesDifferExactly", spec := "curvesDifferExactly", inPlace := ["internal/bytealg.IndexByteString", "internal/bytealg.IndexString"], unfollowed := true, recurses := true, named := ["unicode/utf8.first", "unicode/utf8.acceptRanges", "internal/bytealg.MaxLen"], apart := false, laid := [("unicode/utf8.acceptRanges", laid_unicode_utf8_acceptRanges), ("unicode/utf8.first", laid_unicode_utf8_first)], narrowed := true }
def CurvesDifferExactlyUptoSaid : Prop := curvesDifferExactlyUptoRow.holds Tryd.pinned (OpenSpec.upto curvesDifferExactlySpec)

end Rows
end Go.Proofs.YtchhlgcakjjncaaDoor

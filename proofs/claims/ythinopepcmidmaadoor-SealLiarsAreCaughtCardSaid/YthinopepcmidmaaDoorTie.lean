/-
  DERIVED. GIVEN WITH THE SEED: THE PROGRAM's TIES (one call each: nine closed facts by the kernel) AND EACH ROW's TIE, after the 31st guide's Derived/Test/Toyas{Tie, Card}.lean. No idea stands in it: it is a product of the set-up. Laid BY PROGRAM, IN A SANDBOX (cutbox-door.mjs). By AI agents, Wed Nov 11 2026. No macro, syntax, notation, axiom, sorry.
-/
import Derived.Test.YthinopepcmidmaaDoorRows
import Derived.LaidByTextLater
import Derived.SevenTiedAt
import Derived.LaidSub
import Derived.LaidOnce
namespace Go.Proofs.YthinopepcmidmaaDoor
open Go
set_option maxRecDepth 100000
theorem seatTie1 : Tryd.prog.laidByTextLater [("rivermark/rivermarkref02.constants", Rows.laid_rivermark_rivermarkref02_constants), ("rivermark/hash.constants", Rows.laid_rivermark_hash_constants)] [.data, .data] true :=
  Program.laidByTextLater_by_one 19 8 65 (by kernel_rfl) (by kernel_rfl) (by kernel_rfl) (by kernel_rfl) (by kernel_rfl) (by kernel_rfl) (fun _ _ => by kernel_rfl)
theorem noOwnUnsafe : Tryd.pinned.checked.prog.headLifts.contains "ownunsafe" = false := by kernel_rfl
theorem tie : Tryd.prog.laidByTextLater [("rivermark/rivermarkref02.constants", Rows.laid_rivermark_rivermarkref02_constants), ("rivermark/hash.constants", Rows.laid_rivermark_hash_constants)] [.data, .data] true :=
  Program.laidByTextLater.sub seatTie1 ["rivermark/rivermarkref02.constants", "rivermark/hash.constants"] (by kernel_rfl) (by kernel_rfl)
theorem sealsAsSpecified_row_tie : Rows.sealsAsSpecifiedRow.laidByTextAt .later Tryd.pinned [.data, .data] true :=
  OpenClaim.laidByTextAt_later rfl rfl tie noOwnUnsafe
theorem sealLogsAsSpecified_row_tie : Rows.sealLogsAsSpecifiedRow.laidByTextAt .later Tryd.pinned [.data, .data] true :=
  OpenClaim.laidByTextAt_later rfl rfl tie noOwnUnsafe
theorem tie2 : Tryd.prog.laidByTextLater [("rivermark/hash.constants", Rows.laid_rivermark_hash_constants)] [.data] true :=
  Program.laidByTextLater.sub seatTie1 ["rivermark/hash.constants"] (by kernel_rfl) (by kernel_rfl)
theorem sealHonestIsSafe_row_tie : Rows.sealHonestIsSafeRow.laidByTextAt .later Tryd.pinned [.data] true :=
  OpenClaim.laidByTextAt_later rfl rfl tie2 noOwnUnsafe
theorem sealLiarsAreCaught_row_tie : Rows.sealLiarsAreCaughtRow.laidByTextAt .later Tryd.pinned [.data] true :=
  OpenClaim.laidByTextAt_later rfl rfl tie2 noOwnUnsafe
theorem sealNamesBind_row_tie : Rows.sealNamesBindRow.laidByTextAt .later Tryd.pinned [.data] true :=
  OpenClaim.laidByTextAt_later rfl rfl tie2 noOwnUnsafe
theorem sealNeedsTheSecret_row_tie : Rows.sealNeedsTheSecretRow.laidByTextAt .later Tryd.pinned [.data] true :=
  OpenClaim.laidByTextAt_later rfl rfl tie2 noOwnUnsafe
theorem sealsAsSpecifiedUpto_row_tie : Rows.sealsAsSpecifiedUptoRow.laidByTextAt .later Tryd.pinned [.data, .data] true :=
  OpenClaim.laidByTextAt_later rfl rfl tie noOwnUnsafe
theorem sealLogsAsSpecifiedUpto_row_tie : Rows.sealLogsAsSpecifiedUptoRow.laidByTextAt .later Tryd.pinned [.data, .data] true :=
  OpenClaim.laidByTextAt_later rfl rfl tie noOwnUnsafe
theorem sealHonestIsSafeUpto_row_tie : Rows.sealHonestIsSafeUptoRow.laidByTextAt .later Tryd.pinned [.data] true :=
  OpenClaim.laidByTextAt_later rfl rfl tie2 noOwnUnsafe
theorem sealLiarsAreCaughtUpto_row_tie : Rows.sealLiarsAreCaughtUptoRow.laidByTextAt .later Tryd.pinned [.data] true :=
  OpenClaim.laidByTextAt_later rfl rfl tie2 noOwnUnsafe
theorem sealNamesBindUpto_row_tie : Rows.sealNamesBindUptoRow.laidByTextAt .later Tryd.pinned [.data] true :=
  OpenClaim.laidByTextAt_later rfl rfl tie2 noOwnUnsafe
theorem sealNeedsTheSecretUpto_row_tie : Rows.sealNeedsTheSecretUptoRow.laidByTextAt .later Tryd.pinned [.data] true :=
  OpenClaim.laidByTextAt_later rfl rfl tie2 noOwnUnsafe
end Go.Proofs.YthinopepcmidmaaDoor

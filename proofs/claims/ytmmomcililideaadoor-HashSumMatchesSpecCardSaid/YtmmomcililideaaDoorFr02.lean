/-
  The listed tables as the walks want them; a world for the witness.
-/
import Derived.Test.YtmmomcililideaaDoorCards
import Derived.Test.YtmmomcililideaaDoorTie
import Derived.Test.YtmmomcililideaaDoorWk02j
import Derived.WalkKit
import Derived.ProofKit
import Derived.OpenShut
import Derived.Deep.DeepHandedRow
import Derived.Lib.LaidTab
import Derived.Stop.LaidErr
set_option linter.unusedSimpArgs false
set_option linter.unusedVariables false
namespace Go.Proofs.YtmmomcililideaaDoor
open Go.ChangeShapes Go.WideShapes Go.ChangeAt Go.RowKit

def kkz : List Int := [1116352408, 1899447441, 3049323471, 3921009573, 961987163, 1508970993, 2453635748, 2870763221, 3624381080, 310598401, 607225278, 1426881987, 1925078388, 2162078206, 2614888103, 3248222580, 3835390401, 4022224774, 264347078, 604807628, 770255983, 1249150122, 1555081692, 1996064986, 2554220882, 2821834349, 2952996808, 3210313671, 3336571891, 3584528711, 113926993, 338241895, 666307205, 773529912, 1294757372, 1396182291, 1695183700, 1986661051, 2177026350, 2456956037, 2730485921, 2820302411, 3259730800, 3345764771, 3516065817, 3600352804, 4094571909, 275423344, 430227734, 506948616, 659060556, 883997877, 958139571, 1322822218, 1537002063, 1747873779, 1955562222, 2024104815, 2227730452, 2361852424, 2428436474, 2756734187, 3204031479, 3329325298]
theorem kkz_eq : kkz.map (Value.int .u32) = kk.map W4 := by kernel_rfl
theorem g0 : Tryd.prog.globalNamed "rivermark/rivermarkref02.constants" = some 0 := by kernel_rfl
theorem g1 : Tryd.prog.globalNamed "rivermark/hash.constants" = some 1 := by kernel_rfl
theorem g0t : (Tryd.prog.globals[0]?).map (·.type) = some 63 := by kernel_rfl
theorem g1t : (Tryd.prog.globals[1]?).map (·.type) = some 63 := by kernel_rfl
theorem cells64 : Tryd.prog.cellsOf 63 = 64 := by kernel_rfl
theorem cells1 : Tryd.prog.cellsOf 29 = 1 := by kernel_rfl
theorem cl_of_tab {W : World} {name : String} {g : Nat} (hg : Tryd.prog.globalNamed name = some g) (h : Lib.TabIs Tryd.prog W name .u32 kkz) : g < W.heap.size ∧ Cl W g 0 (kk.map W4) := by
  have hc : Cl W g 0 (kk.map W4) := by
    intro j u hj
    rw [← kkz_eq, List.getElem?_map] at hj
    obtain ⟨z, hz, rfl⟩ := Option.map_eq_some_iff.1 hj
    have hlt : j < kkz.length := (List.getElem?_eq_some_iff.1 hz).1
    rw [Nat.zero_add, h.cell hg j hlt]
    simp [List.getD, hz]
  have h0 := hc 0 _ (show (kk.map W4)[0]? = some (W4 1116352408) from rfl)
  exact ⟨World.block_lt_of_cell? _ _ h0, hc⟩
def l0 : String × DataW Unit := ("rivermark/rivermarkref02.constants", Rows.laid_rivermark_rivermarkref02_constants)
def l1 : String × DataW Unit := ("rivermark/hash.constants", Rows.laid_rivermark_hash_constants)
theorem kk_one {W : World} (h : laidMetH Tryd.prog [("rivermark/hash.constants", Rows.laid_rivermark_hash_constants)] W) : KK W :=
  cl_of_tab g1 (Lib.tabIs_of_head (rest := []) g1 g1t Tryd.underlying63 Tryd.underlying29 cells1 cells64 h)
theorem kk0_two {W : World} (h : laidMetH Tryd.prog [("rivermark/rivermarkref02.constants", Rows.laid_rivermark_rivermarkref02_constants), ("rivermark/hash.constants", Rows.laid_rivermark_hash_constants)] W) : KK0 W :=
  cl_of_tab g0 (Lib.tabIs_of_head (rest := [("rivermark/hash.constants", Rows.laid_rivermark_hash_constants)]) g0 g0t Tryd.underlying63 Tryd.underlying29 cells1 cells64 h)
theorem kk_two {W : World} (h : laidMetH Tryd.prog [("rivermark/rivermarkref02.constants", Rows.laid_rivermark_rivermarkref02_constants), ("rivermark/hash.constants", Rows.laid_rivermark_hash_constants)] W) : KK W :=
  kk_one (laidMet.tail (x := ("rivermark/rivermarkref02.constants", Rows.laid_rivermark_rivermarkref02_constants)) h)

def layTab : Obj → Obj
  | .cells _ t frozen => .cells #[.int .u32 1116352408, .int .u32 1899447441, .int .u32 3049323471, .int .u32 3921009573, .int .u32 961987163, .int .u32 1508970993, .int .u32 2453635748, .int .u32 2870763221, .int .u32 3624381080, .int .u32 310598401, .int .u32 607225278, .int .u32 1426881987, .int .u32 1925078388, .int .u32 2162078206, .int .u32 2614888103, .int .u32 3248222580, .int .u32 3835390401, .int .u32 4022224774, .int .u32 264347078, .int .u32 604807628, .int .u32 770255983, .int .u32 1249150122, .int .u32 1555081692, .int .u32 1996064986, .int .u32 2554220882, .int .u32 2821834349, .int .u32 2952996808, .int .u32 3210313671, .int .u32 3336571891, .int .u32 3584528711, .int .u32 113926993, .int .u32 338241895, .int .u32 666307205, .int .u32 773529912, .int .u32 1294757372, .int .u32 1396182291, .int .u32 1695183700, .int .u32 1986661051, .int .u32 2177026350, .int .u32 2456956037, .int .u32 2730485921, .int .u32 2820302411, .int .u32 3259730800, .int .u32 3345764771, .int .u32 3516065817, .int .u32 3600352804, .int .u32 4094571909, .int .u32 275423344, .int .u32 430227734, .int .u32 506948616, .int .u32 659060556, .int .u32 883997877, .int .u32 958139571, .int .u32 1322822218, .int .u32 1537002063, .int .u32 1747873779, .int .u32 1955562222, .int .u32 2024104815, .int .u32 2227730452, .int .u32 2361852424, .int .u32 2428436474, .int .u32 2756734187, .int .u32 3204031479, .int .u32 3329325298] t frozen
  | o => o
noncomputable def laidWorld (os : Os) : World :=
  { World.holding Tryd.prog os ⟨#[], #[], []⟩ with heap := ((World.holding Tryd.prog os ⟨#[], #[], []⟩).heap.modify 0 layTab).modify 1 layTab }
end Go.Proofs.YtmmomcililideaaDoor

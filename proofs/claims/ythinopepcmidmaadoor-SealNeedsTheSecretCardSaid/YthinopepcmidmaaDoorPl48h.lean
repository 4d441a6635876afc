/-
  Layer 48: the digests of the example.
-/
import Derived.Test.YthinopepcmidmaaDoorSc48
set_option linter.unusedSimpArgs false
set_option linter.unusedVariables false
set_option maxRecDepth 100000
set_option maxHeartbeats 1600000
namespace Go.Proofs.YthinopepcmidmaaDoor

def ltA : List UInt8 := [244, 79, 90, 214, 242, 174, 235, 95, 157, 170, 233, 75, 91, 13, 44, 30]
def ltD : List UInt8 := [46, 62, 118, 2, 63, 161, 209, 65, 5, 17, 79, 180, 88, 99, 248, 135]
def ltNA : List UInt8 := [251, 103, 222, 192, 247, 168, 144, 184, 71, 220, 223, 107, 142, 209, 124, 102]
def ltB : List UInt8 := [214, 54, 145, 238, 233, 62, 230, 46, 13, 232, 233, 10, 37, 79, 6, 16]
def ltC : List UInt8 := [132, 38, 130, 100, 80, 32, 129, 169, 63, 193, 45, 26, 251, 130, 236, 169]
def ltNB : List UInt8 := [188, 132, 120, 188, 175, 89, 16, 179, 41, 193, 172, 77, 121, 119, 187, 49]
theorem hsA : mk48 [98] ⟨1, 0, 5, 2, [120], z16b, z16b⟩ = ltA := by
  refine eq_of_beq ?_
  kernel_rfl
theorem hsD : mk48 [97] ⟨0, 0, 5, 2, [120], z16b, z16b⟩ = ltD := by
  refine eq_of_beq ?_
  kernel_rfl
theorem hsNA : nm48 ⟨1, 0, 5, 2, [120], z16b, ltA⟩ = ltNA := by
  refine eq_of_beq ?_
  kernel_rfl
theorem hsB : mk48 [98] ⟨1, 1, 7, 3, [121], ltNA, z16b⟩ = ltB := by
  refine eq_of_beq ?_
  kernel_rfl
theorem hsC : mk48 [98] ⟨1, 1, 7, 3, [122], ltNA, z16b⟩ = ltC := by
  refine eq_of_beq ?_
  kernel_rfl
theorem hsNB : nm48 ⟨1, 1, 7, 3, [121], ltNA, ltB⟩ = ltNB := by
  refine eq_of_beq ?_
  kernel_rfl
end Go.Proofs.YthinopepcmidmaaDoor

/-
  Rotations and mixes of words.
-/
import Derived.Deep.QuietTactic
import Derived.BigQuiet
import Derived.Test.YthinopepcmidmaaDoorWe
import Derived.Test.YthinopepcmidmaaDoorPl02
set_option linter.unusedSimpArgs false
set_option linter.unusedVariables false
set_option maxRecDepth 100000
set_option maxHeartbeats 1600000
namespace Go.Proofs.YthinopepcmidmaaDoor
open Go.RowKit
theorem ret_W4 {a : Int} {b : UInt32} (h : a = (un b : Int)) : Ending.returned (.int .u32 a) = .returned (W4 b) := by rw [h]; rfl
theorem rotl2 (x : UInt32) (w : World) :
    Calls Tryd.prog 66 #[.int .u32 (un x : Int), .int .i64 (-2)] w fun e w' => e = .returned (W4 (rotr x 2)) ∧ w = w' := by
  have hs : bits .and .u64 (IntKind.u64.wrap (-2)) 31 = 30 := by decide +kernel
  go_enter Tryd.func66, Tryd.ntmps66
  go_wp2
  go_ret
  exact ⟨ret_W4 (rot_l x 2 (by omega) (by omega)), rfl⟩
theorem rotl6 (x : UInt32) (w : World) :
    Calls Tryd.prog 66 #[.int .u32 (un x : Int), .int .i64 (-6)] w fun e w' => e = .returned (W4 (rotr x 6)) ∧ w = w' := by
  have hs : bits .and .u64 (IntKind.u64.wrap (-6)) 31 = 26 := by decide +kernel
  go_enter Tryd.func66, Tryd.ntmps66
  go_wp2
  go_ret
  exact ⟨ret_W4 (rot_l x 6 (by omega) (by omega)), rfl⟩
theorem rotl7 (x : UInt32) (w : World) :
    Calls Tryd.prog 66 #[.int .u32 (un x : Int), .int .i64 (-7)] w fun e w' => e = .returned (W4 (rotr x 7)) ∧ w = w' := by
  have hs : bits .and .u64 (IntKind.u64.wrap (-7)) 31 = 25 := by decide +kernel
  go_enter Tryd.func66, Tryd.ntmps66
  go_wp2
  go_ret
  exact ⟨ret_W4 (rot_l x 7 (by omega) (by omega)), rfl⟩
theorem rotl11 (x : UInt32) (w : World) :
    Calls Tryd.prog 66 #[.int .u32 (un x : Int), .int .i64 (-11)] w fun e w' => e = .returned (W4 (rotr x 11)) ∧ w = w' := by
  have hs : bits .and .u64 (IntKind.u64.wrap (-11)) 31 = 21 := by decide +kernel
  go_enter Tryd.func66, Tryd.ntmps66
  go_wp2
  go_ret
  exact ⟨ret_W4 (rot_l x 11 (by omega) (by omega)), rfl⟩
theorem rotl13 (x : UInt32) (w : World) :
    Calls Tryd.prog 66 #[.int .u32 (un x : Int), .int .i64 (-13)] w fun e w' => e = .returned (W4 (rotr x 13)) ∧ w = w' := by
  have hs : bits .and .u64 (IntKind.u64.wrap (-13)) 31 = 19 := by decide +kernel
  go_enter Tryd.func66, Tryd.ntmps66
  go_wp2
  go_ret
  exact ⟨ret_W4 (rot_l x 13 (by omega) (by omega)), rfl⟩
theorem rotl17 (x : UInt32) (w : World) :
    Calls Tryd.prog 66 #[.int .u32 (un x : Int), .int .i64 (-17)] w fun e w' => e = .returned (W4 (rotr x 17)) ∧ w = w' := by
  have hs : bits .and .u64 (IntKind.u64.wrap (-17)) 31 = 15 := by decide +kernel
  go_enter Tryd.func66, Tryd.ntmps66
  go_wp2
  go_ret
  exact ⟨ret_W4 (rot_l x 17 (by omega) (by omega)), rfl⟩
theorem rotl18 (x : UInt32) (w : World) :
    Calls Tryd.prog 66 #[.int .u32 (un x : Int), .int .i64 (-18)] w fun e w' => e = .returned (W4 (rotr x 18)) ∧ w = w' := by
  have hs : bits .and .u64 (IntKind.u64.wrap (-18)) 31 = 14 := by decide +kernel
  go_enter Tryd.func66, Tryd.ntmps66
  go_wp2
  go_ret
  exact ⟨ret_W4 (rot_l x 18 (by omega) (by omega)), rfl⟩
theorem rotl19 (x : UInt32) (w : World) :
    Calls Tryd.prog 66 #[.int .u32 (un x : Int), .int .i64 (-19)] w fun e w' => e = .returned (W4 (rotr x 19)) ∧ w = w' := by
  have hs : bits .and .u64 (IntKind.u64.wrap (-19)) 31 = 13 := by decide +kernel
  go_enter Tryd.func66, Tryd.ntmps66
  go_wp2
  go_ret
  exact ⟨ret_W4 (rot_l x 19 (by omega) (by omega)), rfl⟩
theorem rotl22 (x : UInt32) (w : World) :
    Calls Tryd.prog 66 #[.int .u32 (un x : Int), .int .i64 (-22)] w fun e w' => e = .returned (W4 (rotr x 22)) ∧ w = w' := by
  have hs : bits .and .u64 (IntKind.u64.wrap (-22)) 31 = 10 := by decide +kernel
  go_enter Tryd.func66, Tryd.ntmps66
  go_wp2
  go_ret
  exact ⟨ret_W4 (rot_l x 22 (by omega) (by omega)), rfl⟩
theorem rotl25 (x : UInt32) (w : World) :
    Calls Tryd.prog 66 #[.int .u32 (un x : Int), .int .i64 (-25)] w fun e w' => e = .returned (W4 (rotr x 25)) ∧ w = w' := by
  have hs : bits .and .u64 (IntKind.u64.wrap (-25)) 31 = 7 := by decide +kernel
  go_enter Tryd.func66, Tryd.ntmps66
  go_wp2
  go_ret
  exact ⟨ret_W4 (rot_l x 25 (by omega) (by omega)), rfl⟩
theorem mixE (x : UInt32) (w : World) :
    Calls Tryd.prog 64 #[.int .u32 (un x : Int), .int .i64 6, .int .i64 11, .int .i64 25] w fun e w' => e = .returned (W4 (mix3 x 6 11 25)) ∧ w = w' := by
  have hx := xor32
  go_enter Tryd.func64, Tryd.ntmps64
  go_wp2_with fail
  refine (rotl6 x _).mono ?_
  rintro e w0 ⟨rfl, rfl⟩
  simp only [W4]
  go_wp2_with fail
  refine (rotl11 x _).mono ?_
  rintro e w0 ⟨rfl, rfl⟩
  simp only [W4]
  go_wp2_with fail
  refine (rotl25 x _).mono ?_
  rintro e w0 ⟨rfl, rfl⟩
  simp only [W4]
  go_wp2_with fail
  go_ret
  exact ⟨rfl, rfl⟩
theorem mixA (x : UInt32) (w : World) :
    Calls Tryd.prog 64 #[.int .u32 (un x : Int), .int .i64 2, .int .i64 13, .int .i64 22] w fun e w' => e = .returned (W4 (mix3 x 2 13 22)) ∧ w = w' := by
  have hx := xor32
  go_enter Tryd.func64, Tryd.ntmps64
  go_wp2_with fail
  refine (rotl2 x _).mono ?_
  rintro e w0 ⟨rfl, rfl⟩
  simp only [W4]
  go_wp2_with fail
  refine (rotl13 x _).mono ?_
  rintro e w0 ⟨rfl, rfl⟩
  simp only [W4]
  go_wp2_with fail
  refine (rotl22 x _).mono ?_
  rintro e w0 ⟨rfl, rfl⟩
  simp only [W4]
  go_wp2_with fail
  go_ret
  exact ⟨rfl, rfl⟩
end Go.Proofs.YthinopepcmidmaaDoor

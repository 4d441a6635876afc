/-
  Rotations and mixes of words.
-/
import Derived.Test.YtmmomcililideaaDoorWe
import Derived.Test.YtmmomcililideaaDoorPl02
import Derived.Deep.QuietTactic
import Derived.BigQuiet
set_option linter.unusedSimpArgs false
set_option linter.unusedVariables false
namespace Go.Proofs.YtmmomcililideaaDoor
open Go.RowKit

def Rots (n : Nat) : Prop := n = 2 ∨ n = 6 ∨ n = 7 ∨ n = 11 ∨ n = 13 ∨ n = 17 ∨ n = 18 ∨ n = 19 ∨ n = 22 ∨ n = 25

theorem ret_W4 {a : Int} {b : UInt32} (h : a = (un b : Int)) : Ending.returned (.int .u32 a) = .returned (W4 b) := by rw [h]; rfl

theorem rotl2 (x : UInt32) (w : World) :
    Calls Tryd.prog 49 #[.int .u32 (un x : Int), .int .i64 (-2)] w fun e w' => e = .returned (W4 (rotr x 2)) ∧ w = w' := by
  have hs : bits .and .u64 (IntKind.u64.wrap (-2)) 31 = 30 := by decide +kernel
  go_enter Tryd.func49, Tryd.ntmps49
  go_wp2
  go_ret
  exact ⟨ret_W4 (rot_l x 2 (by omega) (by omega)), rfl⟩
theorem rr2 (x : UInt32) (w : World) :
    Calls Tryd.prog 37 #[.int .u32 (un x : Int), .int .i64 2] w fun e w' => e = .returned (W4 (rotr x 2)) ∧ ∃ k, w' = w.drewN k := by
  go_enter Tryd.func37, Tryd.ntmps37
  go_wp2
  go_quiet (fail)
  go_wp2
  go_ret
  exact ⟨ret_W4 (rot_r x 2 (by omega) (by omega)), _, rfl⟩
theorem rotl6 (x : UInt32) (w : World) :
    Calls Tryd.prog 49 #[.int .u32 (un x : Int), .int .i64 (-6)] w fun e w' => e = .returned (W4 (rotr x 6)) ∧ w = w' := by
  have hs : bits .and .u64 (IntKind.u64.wrap (-6)) 31 = 26 := by decide +kernel
  go_enter Tryd.func49, Tryd.ntmps49
  go_wp2
  go_ret
  exact ⟨ret_W4 (rot_l x 6 (by omega) (by omega)), rfl⟩
theorem rr6 (x : UInt32) (w : World) :
    Calls Tryd.prog 37 #[.int .u32 (un x : Int), .int .i64 6] w fun e w' => e = .returned (W4 (rotr x 6)) ∧ ∃ k, w' = w.drewN k := by
  go_enter Tryd.func37, Tryd.ntmps37
  go_wp2
  go_quiet (fail)
  go_wp2
  go_ret
  exact ⟨ret_W4 (rot_r x 6 (by omega) (by omega)), _, rfl⟩
theorem rotl7 (x : UInt32) (w : World) :
    Calls Tryd.prog 49 #[.int .u32 (un x : Int), .int .i64 (-7)] w fun e w' => e = .returned (W4 (rotr x 7)) ∧ w = w' := by
  have hs : bits .and .u64 (IntKind.u64.wrap (-7)) 31 = 25 := by decide +kernel
  go_enter Tryd.func49, Tryd.ntmps49
  go_wp2
  go_ret
  exact ⟨ret_W4 (rot_l x 7 (by omega) (by omega)), rfl⟩
theorem rr7 (x : UInt32) (w : World) :
    Calls Tryd.prog 37 #[.int .u32 (un x : Int), .int .i64 7] w fun e w' => e = .returned (W4 (rotr x 7)) ∧ ∃ k, w' = w.drewN k := by
  go_enter Tryd.func37, Tryd.ntmps37
  go_wp2
  go_quiet (fail)
  go_wp2
  go_ret
  exact ⟨ret_W4 (rot_r x 7 (by omega) (by omega)), _, rfl⟩
theorem rotl11 (x : UInt32) (w : World) :
    Calls Tryd.prog 49 #[.int .u32 (un x : Int), .int .i64 (-11)] w fun e w' => e = .returned (W4 (rotr x 11)) ∧ w = w' := by
  have hs : bits .and .u64 (IntKind.u64.wrap (-11)) 31 = 21 := by decide +kernel
  go_enter Tryd.func49, Tryd.ntmps49
  go_wp2
  go_ret
  exact ⟨ret_W4 (rot_l x 11 (by omega) (by omega)), rfl⟩
theorem rr11 (x : UInt32) (w : World) :
    Calls Tryd.prog 37 #[.int .u32 (un x : Int), .int .i64 11] w fun e w' => e = .returned (W4 (rotr x 11)) ∧ ∃ k, w' = w.drewN k := by
  go_enter Tryd.func37, Tryd.ntmps37
  go_wp2
  go_quiet (fail)
  go_wp2
  go_ret
  exact ⟨ret_W4 (rot_r x 11 (by omega) (by omega)), _, rfl⟩
theorem rotl13 (x : UInt32) (w : World) :
    Calls Tryd.prog 49 #[.int .u32 (un x : Int), .int .i64 (-13)] w fun e w' => e = .returned (W4 (rotr x 13)) ∧ w = w' := by
  have hs : bits .and .u64 (IntKind.u64.wrap (-13)) 31 = 19 := by decide +kernel
  go_enter Tryd.func49, Tryd.ntmps49
  go_wp2
  go_ret
  exact ⟨ret_W4 (rot_l x 13 (by omega) (by omega)), rfl⟩
theorem rr13 (x : UInt32) (w : World) :
    Calls Tryd.prog 37 #[.int .u32 (un x : Int), .int .i64 13] w fun e w' => e = .returned (W4 (rotr x 13)) ∧ ∃ k, w' = w.drewN k := by
  go_enter Tryd.func37, Tryd.ntmps37
  go_wp2
  go_quiet (fail)
  go_wp2
  go_ret
  exact ⟨ret_W4 (rot_r x 13 (by omega) (by omega)), _, rfl⟩
theorem rotl17 (x : UInt32) (w : World) :
    Calls Tryd.prog 49 #[.int .u32 (un x : Int), .int .i64 (-17)] w fun e w' => e = .returned (W4 (rotr x 17)) ∧ w = w' := by
  have hs : bits .and .u64 (IntKind.u64.wrap (-17)) 31 = 15 := by decide +kernel
  go_enter Tryd.func49, Tryd.ntmps49
  go_wp2
  go_ret
  exact ⟨ret_W4 (rot_l x 17 (by omega) (by omega)), rfl⟩
theorem rr17 (x : UInt32) (w : World) :
    Calls Tryd.prog 37 #[.int .u32 (un x : Int), .int .i64 17] w fun e w' => e = .returned (W4 (rotr x 17)) ∧ ∃ k, w' = w.drewN k := by
  go_enter Tryd.func37, Tryd.ntmps37
  go_wp2
  go_quiet (fail)
  go_wp2
  go_ret
  exact ⟨ret_W4 (rot_r x 17 (by omega) (by omega)), _, rfl⟩
theorem rotl18 (x : UInt32) (w : World) :
    Calls Tryd.prog 49 #[.int .u32 (un x : Int), .int .i64 (-18)] w fun e w' => e = .returned (W4 (rotr x 18)) ∧ w = w' := by
  have hs : bits .and .u64 (IntKind.u64.wrap (-18)) 31 = 14 := by decide +kernel
  go_enter Tryd.func49, Tryd.ntmps49
  go_wp2
  go_ret
  exact ⟨ret_W4 (rot_l x 18 (by omega) (by omega)), rfl⟩
theorem rr18 (x : UInt32) (w : World) :
    Calls Tryd.prog 37 #[.int .u32 (un x : Int), .int .i64 18] w fun e w' => e = .returned (W4 (rotr x 18)) ∧ ∃ k, w' = w.drewN k := by
  go_enter Tryd.func37, Tryd.ntmps37
  go_wp2
  go_quiet (fail)
  go_wp2
  go_ret
  exact ⟨ret_W4 (rot_r x 18 (by omega) (by omega)), _, rfl⟩
theorem rotl19 (x : UInt32) (w : World) :
    Calls Tryd.prog 49 #[.int .u32 (un x : Int), .int .i64 (-19)] w fun e w' => e = .returned (W4 (rotr x 19)) ∧ w = w' := by
  have hs : bits .and .u64 (IntKind.u64.wrap (-19)) 31 = 13 := by decide +kernel
  go_enter Tryd.func49, Tryd.ntmps49
  go_wp2
  go_ret
  exact ⟨ret_W4 (rot_l x 19 (by omega) (by omega)), rfl⟩
theorem rr19 (x : UInt32) (w : World) :
    Calls Tryd.prog 37 #[.int .u32 (un x : Int), .int .i64 19] w fun e w' => e = .returned (W4 (rotr x 19)) ∧ ∃ k, w' = w.drewN k := by
  go_enter Tryd.func37, Tryd.ntmps37
  go_wp2
  go_quiet (fail)
  go_wp2
  go_ret
  exact ⟨ret_W4 (rot_r x 19 (by omega) (by omega)), _, rfl⟩
theorem rotl22 (x : UInt32) (w : World) :
    Calls Tryd.prog 49 #[.int .u32 (un x : Int), .int .i64 (-22)] w fun e w' => e = .returned (W4 (rotr x 22)) ∧ w = w' := by
  have hs : bits .and .u64 (IntKind.u64.wrap (-22)) 31 = 10 := by decide +kernel
  go_enter Tryd.func49, Tryd.ntmps49
  go_wp2
  go_ret
  exact ⟨ret_W4 (rot_l x 22 (by omega) (by omega)), rfl⟩
theorem rr22 (x : UInt32) (w : World) :
    Calls Tryd.prog 37 #[.int .u32 (un x : Int), .int .i64 22] w fun e w' => e = .returned (W4 (rotr x 22)) ∧ ∃ k, w' = w.drewN k := by
  go_enter Tryd.func37, Tryd.ntmps37
  go_wp2
  go_quiet (fail)
  go_wp2
  go_ret
  exact ⟨ret_W4 (rot_r x 22 (by omega) (by omega)), _, rfl⟩
theorem rotl25 (x : UInt32) (w : World) :
    Calls Tryd.prog 49 #[.int .u32 (un x : Int), .int .i64 (-25)] w fun e w' => e = .returned (W4 (rotr x 25)) ∧ w = w' := by
  have hs : bits .and .u64 (IntKind.u64.wrap (-25)) 31 = 7 := by decide +kernel
  go_enter Tryd.func49, Tryd.ntmps49
  go_wp2
  go_ret
  exact ⟨ret_W4 (rot_l x 25 (by omega) (by omega)), rfl⟩
theorem rr25 (x : UInt32) (w : World) :
    Calls Tryd.prog 37 #[.int .u32 (un x : Int), .int .i64 25] w fun e w' => e = .returned (W4 (rotr x 25)) ∧ ∃ k, w' = w.drewN k := by
  go_enter Tryd.func37, Tryd.ntmps37
  go_wp2
  go_quiet (fail)
  go_wp2
  go_ret
  exact ⟨ret_W4 (rot_r x 25 (by omega) (by omega)), _, rfl⟩

theorem rotl_any (x : UInt32) (n : Nat) (k : Int) (w : World) (h : Rots n) (hk : k = -(n : Int)) :
    Calls Tryd.prog 49 #[.int .u32 (un x : Int), .int .i64 k] w fun e w' => e = .returned (W4 (rotr x n)) ∧ w = w' := by
  subst hk
  rcases h with rfl | rfl | rfl | rfl | rfl | rfl | rfl | rfl | rfl | rfl
  · exact rotl2 x w
  · exact rotl6 x w
  · exact rotl7 x w
  · exact rotl11 x w
  · exact rotl13 x w
  · exact rotl17 x w
  · exact rotl18 x w
  · exact rotl19 x w
  · exact rotl22 x w
  · exact rotl25 x w

theorem mixE (x : UInt32) (w : World) :
    Calls Tryd.prog 48 #[.int .u32 (un x : Int), .int .i64 6, .int .i64 11, .int .i64 25] w fun e w' => e = .returned (W4 (mix3 x 6 11 25)) ∧ w = w' := by
  have hx := xor32
  go_enter Tryd.func48, Tryd.ntmps48
  go_wp2_with fail
  refine (rotl6 x _).mono ?_
  rintro e w0 ⟨rfl, rfl⟩
  simp only [W4]
  go_wp2_with fail
  refine (rotl11 x _).mono ?_
  rintro e w0 ⟨rfl, rfl⟩
  simp only [W4]
  go_wp2_with fail
  refine (rotl25 x _).mono ?_
  rintro e w0 ⟨rfl, rfl⟩
  simp only [W4]
  go_wp2_with fail
  go_ret
  exact ⟨rfl, rfl⟩

theorem mixA (x : UInt32) (w : World) :
    Calls Tryd.prog 48 #[.int .u32 (un x : Int), .int .i64 2, .int .i64 13, .int .i64 22] w fun e w' => e = .returned (W4 (mix3 x 2 13 22)) ∧ w = w' := by
  have hx := xor32
  go_enter Tryd.func48, Tryd.ntmps48
  go_wp2_with fail
  refine (rotl2 x _).mono ?_
  rintro e w0 ⟨rfl, rfl⟩
  simp only [W4]
  go_wp2_with fail
  refine (rotl13 x _).mono ?_
  rintro e w0 ⟨rfl, rfl⟩
  simp only [W4]
  go_wp2_with fail
  refine (rotl22 x _).mono ?_
  rintro e w0 ⟨rfl, rfl⟩
  simp only [W4]
  go_wp2_with fail
  go_ret
  exact ⟨rfl, rfl⟩
end Go.Proofs.YtmmomcililideaaDoor

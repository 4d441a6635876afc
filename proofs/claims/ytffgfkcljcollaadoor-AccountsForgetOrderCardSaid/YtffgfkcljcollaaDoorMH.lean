/-
  The references: DivMod, Gcd. Texts of numbers: they are read back, and ordered as the numbers are. Words for the laws of numbers.
-/
import Derived.Test.YtffgfkcljcollaaDoorMC
import Derived.Test.YtffgfkcljcollaaDoorMF
import Derived.Test.YtffgfkcljcollaaDoorME
import Derived.Test.YtffgfkcljcollaaDoorMB
set_option linter.unusedSimpArgs false
set_option linter.unusedVariables false
set_option maxRecDepth 100000
set_option maxHeartbeats 1600000
namespace Go.Proofs.YtffgfkcljcollaaDoor
open Go.RowKit
end Go.Proofs.YtffgfkcljcollaaDoor
namespace Go.Proofs.YtffgfkcljcollaaDoor
open Go.RowKit
/-- A digit as an int's cell. -/
def Ni (d : Nat) : Value := .int .i64 (d : Int)
/-- A slice that reads as numbers. -/
def Is (l : List Nat) (v : Value) (w : World) : Prop := ∃ A c, v = .slice A l.length c ∧ Rd w 1 (.slice A l.length c) l.length (l.map Ni)
theorem Is.lasts (l : List Nat) : Lasts (Is l) := by
 rintro v X Y ⟨A, c, hv, hr⟩ hS
 exact ⟨A, c, hv, hr.below hS⟩
theorem load_int (b k : Nat) (X : World) (v : Value) (h : X.cell? ⟨b, k, none⟩ = some v) : (loadVar 3 ⟨b, k, none⟩).run Tryd.prog X = .ok v X := by
 go_simp
end Go.Proofs.YtffgfkcljcollaaDoor
namespace Go.Proofs.YtffgfkcljcollaaDoor
open Go.RowKit
theorem be_mono {x y : Nat} (h : x ≤ y) : (be x).length ≤ (be y).length := be_len (Nat.lt_of_le_of_lt h (lt_be_len y))
end Go.Proofs.YtffgfkcljcollaaDoor
namespace Go.Proofs.YtffgfkcljcollaaDoor
open Go.RowKit
/-- The number of the lowest k digits. -/
def lo (a : List UInt8) (k : Nat) : Nat := lvN 256 ((a.map (·.toNat)).reverse.take k)
end Go.Proofs.YtffgfkcljcollaaDoor
namespace Go.Proofs.YtffgfkcljcollaaDoor
open Go.RowKit
end Go.Proofs.YtffgfkcljcollaaDoor
namespace Go.Proofs.YtffgfkcljcollaaDoor
open Go.RowKit
/-- 'make([]int, n)'. -/
def MadeI (n B : Nat) (v : Value) (X : World) : Prop := ∃ g, v = .slice (some ⟨g, 0, none⟩) n n ∧ B ≤ g ∧ Blk X g 3 ((List.replicate n 0).map Ni)
theorem MadeI.lasts (n B : Nat) : Lasts (MadeI n B) := by
 rintro v X Y ⟨g, h1, h2, h3⟩ hS
 exact ⟨g, h1, h2, h3.bel hS⟩
end Go.Proofs.YtffgfkcljcollaaDoor
namespace Go.Proofs.YtffgfkcljcollaaDoor
open Go.RowKit
theorem Bts.new1 (X : World) (n : Int) (d : UInt8) (hd : n = (d.toNat : Int)) : Bts [d] (.slice (some ⟨X.heap.size, 0, none⟩) 1 1) (X.alloc (.cells #[.int .u8 n] 5)) := by
 subst hd;have hB : Blk (X.alloc (.cells #[.int .u8 (d.toNat : Int)] 5)) X.heap.size 5 ([d].map B8) := Blk.new rfl;exact ⟨_, 1, rfl, Rd.of_cl hB.cl hB.lt rfl (Nat.le_refl _) (by unfold maxLen; omega)⟩
theorem be_ne {x : Nat} (h : 0 < x) : be x ≠ [] := fun h1 => by rw [be_nil] at h1; omega
end Go.Proofs.YtffgfkcljcollaaDoor
namespace Go.Proofs.YtffgfkcljcollaaDoor
end Go.Proofs.YtffgfkcljcollaaDoor
namespace Go.Proofs.YtffgfkcljcollaaDoor
open Go.RowKit
theorem be_addL {x y m n : Nat} (hx : (be x).length ≤ m) (hy : (be y).length ≤ n) : (be (x + y)).length ≤ max m n + 1 := by
 refine be_len ?_;have h1 := Nat.lt_of_lt_of_le (lt_be_len x) (Nat.pow_le_pow_right (n := 256) (by omega) (Nat.le_trans hx (Nat.le_max_left m n)));have h2 := Nat.lt_of_lt_of_le (lt_be_len y) (Nat.pow_le_pow_right (n := 256) (by omega) (Nat.le_trans hy (Nat.le_max_right m n)));rw [Nat.pow_succ]
 omega
theorem be_mulL {x y m n : Nat} (hx : (be x).length ≤ m) (hy : (be y).length ≤ n) : (be (x * y)).length ≤ m + n := by
 refine be_len ?_;have h1 := Nat.lt_of_lt_of_le (lt_be_len x) (Nat.pow_le_pow_right (n := 256) (by omega) hx);have h2 := Nat.lt_of_lt_of_le (lt_be_len y) (Nat.pow_le_pow_right (n := 256) (by omega) hy);rw [Nat.pow_add];exact Nat.mul_lt_mul'' h1 h2
theorem be_leL {x y n : Nat} (h : x ≤ y) (hy : (be y).length ≤ n) : (be x).length ≤ n := Nat.le_trans (be_mono h) hy
section
variable (a b : List UInt8) (w : World)
end
end Go.Proofs.YtffgfkcljcollaaDoor

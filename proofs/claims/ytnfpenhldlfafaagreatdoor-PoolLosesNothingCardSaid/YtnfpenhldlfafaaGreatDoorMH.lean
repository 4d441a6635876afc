/- The references: DivMod, Gcd. Texts of numbers: they are read -/
import Derived.Test.YtnfpenhldlfafaaGreatDoorMC
import Derived.Test.YtnfpenhldlfafaaGreatDoorMF
import Derived.Test.YtnfpenhldlfafaaGreatDoorME
import Derived.Test.YtnfpenhldlfafaaGreatDoorMB
set_option linter.unusedSimpArgs false
set_option linter.unusedVariables false
set_option maxRecDepth 100000
set_option maxHeartbeats 1600000
namespace Go.Proofs.YtnfpenhldlfafaaGreatDoor
open Go.RowKit
theorem xP (b k:Nat) (X:World) (v:Value) (h:X.cell? ⟨b,k,none⟩=some v):(loadVar 3 ⟨b,k,none⟩).run Tryz.prog X=.ok v X:=by
 go_simp
theorem uM {x y:Nat} (h:x≤y):(be x).length≤(be y).length:=nI (Nat.lt_of_le_of_lt h (gQ y))
def lo (a:List UInt8) (k:Nat):Nat:=lvN 256 ((a.map (·.toNat)).reverse.take k)
theorem yX {x:Nat} (h:0<x):be x≠[]:=fun h1=>by rw [be_nil] at h1;omega
theorem gC {x y m n:Nat} (hx:(be x).length≤m) (hy:(be y).length≤n):(be (x+y)).length≤max m n+1:=by
 refine nI ?_;have h1:=Nat.lt_of_lt_of_le (gQ x) (Nat.pow_le_pow_right (n:=256) (by omega) (Nat.le_trans hx (Nat.le_max_left m n)));have h2:=Nat.lt_of_lt_of_le (gQ y) (Nat.pow_le_pow_right (n:=256) (by omega) (Nat.le_trans hy (Nat.le_max_right m n)));rw [Nat.pow_succ]
 omega
theorem bR {x y m n:Nat} (hx:(be x).length≤m) (hy:(be y).length≤n):(be (x * y)).length≤m+n:=by
 refine nI ?_;have h1:=Nat.lt_of_lt_of_le (gQ x) (Nat.pow_le_pow_right (n:=256) (by omega) hx);have h2:=Nat.lt_of_lt_of_le (gQ y) (Nat.pow_le_pow_right (n:=256) (by omega) hy);rw [Nat.pow_add];exact Nat.mul_lt_mul'' h1 h2
theorem gJ {x y n:Nat} (h:x≤y) (hy:(be y).length≤n):(be x).length≤n:=Nat.le_trans (uM h) hy
section
variable (a b:List UInt8) (w:World)
end
end Go.Proofs.YtnfpenhldlfafaaGreatDoor

/- Finite sums of rational numbers, and products of finite sequ -/
import Derived.Test.YtnfpenhldlfafaaGreatDoorMA
set_option linter.unusedSimpArgs false
set_option linter.unusedVariables false
set_option maxRecDepth 100000
set_option maxHeartbeats 1600000
namespace Go.Proofs.YtnfpenhldlfafaaGreatDoor
def sm:Nat→(Nat→Rat)→Rat
 | 0,_=>0
 | n+1,f=>sm n f+f n
theorem jW (f:Nat→Rat):sm 0 f=0:=rfl
theorem cB (n:Nat) (f:Nat→Rat):sm (n+1) f=sm n f+f n:=rfl
theorem cP {f g:Nat→Rat}:∀ {n:Nat},(∀ i,i<n→f i=g i)→sm n f=sm n g
 | 0,_=>rfl
 | n+1,h=>by rw [cB,cB,cP (n:=n) (fun i hi=>h i (by omega)),h n (by omega)]
theorem oP:∀ (n:Nat),sm n (fun _=>0)=0
 | 0=>rfl
 | n+1=>by rw [cB,oP n,Rat.add_zero]
theorem oO {f:Nat→Rat} {n:Nat} (h:∀ i,i<n→f i=0):sm n f=0:=(cP (g:=fun _=>0) h).trans (oP n)
theorem jL (f g:Nat→Rat):∀ (n:Nat),sm n (fun i=>f i+g i)=sm n f+sm n g
 | 0=>by rw [jW,jW,jW,Rat.add_zero]
 | n+1=>by
  rw [cB,cB,cB,jL f g n]
  grind
theorem kY (a:Rat) (f:Nat→Rat):∀ (n:Nat),sm n (fun i=>a * f i)=a * sm n f
 | 0=>by rw [jW,jW,Rat.mul_zero]
 | n+1=>by
  rw [cB,cB,kY a f n]
  grind
theorem zH (a:Rat) (f:Nat→Rat) (n:Nat):sm n (fun i=>f i * a)=sm n f * a:=by
 rw [cP (g:=fun i=>a * f i) (fun i _=>Rat.mul_comm _ _),kY,Rat.mul_comm]
theorem qXs {f:Nat→Rat} {n k:Nat} (hk:k<n) (h:∀ i,i<n→i≠k→f i=0):sm n f=f k:=by
 induction n with
 | zero=>omega
 | succ n ih =>
  rw [cB]
  rcases Nat.lt_or_ge k n with h1|h1
  ·rw [ih h1 (fun i hi hne=>h i (by omega) hne),h n (by omega) (by omega),Rat.add_zero]
  ·rw [show k=n by omega,oO (fun i hi=>h i (by omega) (by omega)),Rat.zero_add]
def cv (a b:Nat→Rat) (t:Nat):Rat:=sm (t+1) fun i=>a i * b (t-i)
end Go.Proofs.YtnfpenhldlfafaaGreatDoor

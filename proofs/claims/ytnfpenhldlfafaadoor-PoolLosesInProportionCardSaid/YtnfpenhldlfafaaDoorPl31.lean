/- Finite sums of rational numbers, and products of finite sequ -/
import Derived.Test.YtnfpenhldlfafaaDoorMA
set_option linter.unusedSimpArgs false
set_option linter.unusedVariables false
set_option maxRecDepth 100000
set_option maxHeartbeats 1600000
namespace Go.Proofs.YtnfpenhldlfafaaDoor
def sm:Nat→(Nat→Rat)→Rat
 | 0,_=>0
 | n+1,f=>sm n f+f n
theorem jT (f:Nat→Rat):sm 0 f=0:=rfl
theorem cE (n:Nat) (f:Nat→Rat):sm (n+1) f=sm n f+f n:=rfl
theorem cT {f g:Nat→Rat}:∀ {n:Nat},(∀ i,i<n→f i=g i)→sm n f=sm n g
 | 0,_=>rfl
 | n+1,h=>by rw [cE,cE,cT (n:=n) (fun i hi=>h i (by omega)),h n (by omega)]
theorem oH:∀ (n:Nat),sm n (fun _=>0)=0
 | 0=>rfl
 | n+1=>by rw [cE,oH n,Rat.add_zero]
theorem lN {f:Nat→Rat} {n:Nat} (h:∀ i,i<n→f i=0):sm n f=0:=(cT (g:=fun _=>0) h).trans (oH n)
theorem hU (f g:Nat→Rat):∀ (n:Nat),sm n (fun i=>f i+g i)=sm n f+sm n g
 | 0=>by rw [jT,jT,jT,Rat.add_zero]
 | n+1=>by
  rw [cE,cE,cE,hU f g n]
  grind
theorem mC (a:Rat) (f:Nat→Rat):∀ (n:Nat),sm n (fun i=>a * f i)=a * sm n f
 | 0=>by rw [jT,jT,Rat.mul_zero]
 | n+1=>by
  rw [cE,cE,mC a f n]
  grind
theorem vX {f:Nat→Rat} {n k:Nat} (hk:k<n) (h:∀ i,i<n→i≠k→f i=0):sm n f=f k:=by
 induction n with
 | zero=>omega
 | succ n ih =>
  rw [cE]
  rcases Nat.lt_or_ge k n with h1|h1
  ·rw [ih h1 (fun i hi hne=>h i (by omega) hne),h n (by omega) (by omega),Rat.add_zero]
  ·rw [show k=n by omega,lN (fun i hi=>h i (by omega) (by omega)),Rat.zero_add]
def cv (a b:Nat→Rat) (t:Nat):Rat:=sm (t+1) fun i=>a i * b (t-i)
end Go.Proofs.YtnfpenhldlfafaaDoor

/- Kernels: lists of weights, reduced, composed. -/
import Derived.Test.YtnfpenhldlfafaaGreatDoorPl31
set_option linter.unusedSimpArgs false
set_option linter.unusedVariables false
set_option maxRecDepth 100000
set_option maxHeartbeats 1600000
namespace Go.Proofs.YtnfpenhldlfafaaGreatDoor
abbrev far:Int:=999999999999999
def wt (l:List Int) (k:Nat):Int:=l.getD k 0
theorem qVy {l:List Int} {k:Nat} (h:l.length≤k):wt l k=0:=by
 unfold wt
 rw [List.getD_eq_getElem?_getD,List.getElem?_eq_none h]
 rfl
theorem vY {l:List Int} {k:Nat} (h:k<l.length):wt l k=l[k]:=by
 unfold wt
 rw [List.getD_eq_getElem?_getD,List.getElem?_eq_getElem h]
 rfl
def smI:Nat→(Nat→Int)→Int
 | 0,_=>0
 | n+1,f=>smI n f+f n
theorem mJ {f:Nat→Int}:∀ {n:Nat},(∀ i,i<n→0≤f i)→0≤smI n f
 | 0,_=>Int.le_refl 0
 | n+1,h=>by
  have h1:=mJ (n:=n) (fun i hi=>h i (by omega));have h2:=h n (by omega)
  show 0≤smI n f+f n
  omega
theorem mI {f:Nat→Int}:∀ {n k:Nat},(∀ i,i<n→0≤f i)→k<n→f k≤smI n f
 | n+1,k,h,hk=>by
  have h1:=mJ (n:=n) (fun i hi=>h i (by omega));have h2:=h n (by omega)
  show f k≤smI n f+f n
  rcases Nat.lt_or_ge k n with h3|h3
  ·have:=mI (n:=n) (k:=k) (fun i hi=>h i (by omega)) h3
   omega
  ·rw [show k=n by omega]
   omega
theorem tQ {f:Nat→Int}:∀ {n:Nat},(∀ i,i<n→0≤f i)→0<smI n f→∃ k,k<n∧0<f k
 | 0,_,h=>by cases h
 | n+1,h,hp=>by
  rcases Int.lt_or_le 0 (f n) with h1|h1
  ·exact ⟨n,by omega,h1⟩
  ·have h2:0<smI n f:=by
    have:0<smI n f+f n:=hp
    omega
   obtain ⟨k,hk,h3⟩:=tQ (n:=n) (fun i hi=>h i (by omega)) h2;exact ⟨k,by omega,h3⟩
def tk (l:List Int) (k:Nat):Int:=smI k (wt l)
def tot (l:List Int):Int:=tk l l.length
abbrev okk (l:List Int) (k:Nat):Prop:=0≤wt l k∧wt l k≤far
structure Kok (l:List Int):Prop where
 len1:1≤l.length
 len2:l.length≤400
 pos:∀ k,0≤wt l k
 le:tot l≤far
 tpos:0<tot l
theorem Kok.wle {l:List Int} (h:Kok l) (k:Nat):wt l k≤tot l:=by
 rcases Nat.lt_or_ge k l.length with h1|h1
 ·exact mI (fun i _=>h.pos i) h1
 ·rw [qVy h1]
  have:=h.tpos
  omega
theorem Kok.one {l:List Int} (h:Kok l):∃ k,k<l.length∧0<wt l k:=tQ (fun i _=>h.pos i) h.tpos
def qw (l:List Int) (k:Nat):Rat:=(wt l k:Rat)
end Go.Proofs.YtnfpenhldlfafaaGreatDoor

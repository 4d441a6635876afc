/- Layer 44 (account), in plain words: entries, what is right,  -/
import Derived.Test.YtjkfchehkpmhkaaGreatDoorQsu
import Derived.Test.YtjkfchehkpmhkaaGreatDoorMA
set_option linter.unusedSimpArgs false
set_option linter.unusedVariables false
set_option maxRecDepth 100000
set_option maxHeartbeats 1600000
namespace Go.Proofs.YtjkfchehkpmhkaaGreatDoor
def sm:Nat→(Nat→Rat)→Rat
 | 0,_=>0
 | n+1,f=>sm n f+f n
theorem lS (n:Nat) (f:Nat→Rat):sm (n+1) f=sm n f+f n:=rfl
theorem lT {f g:Nat→Rat}:∀ {n:Nat},(∀ i,i<n→f i=g i)→sm n f=sm n g
 | 0,_=>rfl
 | n+1,h=>by rw [lS,lS,lT (n:=n) (fun i hi=>h i (by omega)),h n (by omega)]
def cv (a b:Nat→Rat) (t:Nat):Rat:=sm (t+1) fun i=>a i * b (t-i)
abbrev far:Int:=999999999999999
def wt (l:List Int) (k:Nat):Int:=l.getD k 0
theorem vVi {l:List Int} {k:Nat} (h:l.length≤k):wt l k=0:=by
 unfold wt
 rw [List.getD_eq_getElem?_getD,List.getElem?_eq_none h]
 rfl
theorem wt_in {l:List Int} {k:Nat} (h:k<l.length):wt l k=l[k]:=by
 unfold wt
 rw [List.getD_eq_getElem?_getD,List.getElem?_eq_getElem h]
 rfl
def smI:Nat→(Nat→Int)→Int
 | 0,_=>0
 | n+1,f=>smI n f+f n
theorem oN {f:Nat→Int}:∀ {n:Nat},(∀ i,i<n→0≤f i)→0≤smI n f
 | 0,_=>Int.le_refl 0
 | n+1,h=>by
  have h1:=oN (n:=n) (fun i hi=>h i (by omega));have h2:=h n (by omega)
  show 0≤smI n f+f n
  omega
theorem oM {f:Nat→Int}:∀ {n k:Nat},(∀ i,i<n→0≤f i)→k<n→f k≤smI n f
 | n+1,k,h,hk=>by
  have h1:=oN (n:=n) (fun i hi=>h i (by omega));have h2:=h n (by omega)
  show f k≤smI n f+f n
  rcases Nat.lt_or_ge k n with h3|h3
  ·have:=oM (n:=n) (k:=k) (fun i hi=>h i (by omega)) h3
   omega
  ·rw [show k=n by omega]
   omega
theorem wG {f:Nat→Int}:∀ {n:Nat},(∀ i,i<n→0≤f i)→0<smI n f→∃ k,k<n∧0<f k
 | 0,_,h=>by cases h
 | n+1,h,hp=>by
  rcases Int.lt_or_le 0 (f n) with h1|h1
  ·exact ⟨n,by omega,h1⟩
  ·have h2:0<smI n f:=by
    have:0<smI n f+f n:=hp
    omega
   obtain ⟨k,hk,h3⟩:=wG (n:=n) (fun i hi=>h i (by omega)) h2;exact ⟨k,by omega,h3⟩
def tk (l:List Int) (k:Nat):Int:=smI k (wt l)
def tot (l:List Int):Int:=tk l l.length
abbrev okk (l:List Int) (k:Nat):Prop:=0≤wt l k∧wt l k≤far
structure Kok (l:List Int):Prop where
 len1:1≤l.length
 len2:l.length≤400
 pos:∀ k,0≤wt l k
 le:tot l≤far
 tpos:0<tot l
theorem Kok.wle {l:List Int} (h:Kok l) (k:Nat):wt l k≤tot l:=by
 rcases Nat.lt_or_ge k l.length with h1|h1
 ·exact oM (fun i _=>h.pos i) h1
 ·rw [vVi h1]
  have:=h.tpos
  omega
def gf (f:Nat→Nat):Nat→Nat
 | 0=>0
 | k+1=>Nat.gcd (gf f k) (f k)
theorem Kok.one {l:List Int} (h:Kok l):∃ k,k<l.length∧0<wt l k:=wG (fun i _=>h.pos i) h.tpos
def qw (l:List Int) (k:Nat):Rat:=(wt l k:Rat)
open Go.RowKit
structure En where
 day:Int
 deb:Int
 cre:Int
 am:Tr
 kd:Int
 pd:Int
 rf:Int
 w1:Int
 w2:Int
 w3:Int
 w4:Int
deriving DecidableEq
instance:Inhabited En:=⟨⟨0,0,0,(false,[],[]),0,0,0,0,0,0,0⟩⟩
def en (l:List En) (k:Nat):En:=l.getD k default
theorem mN {l:List En} {k:Nat} (h:k<l.length):en l k=l[k]:=by
 unfold en
 rw [List.getD_eq_getElem?_getD,List.getElem?_eq_getElem h]
 rfl
theorem xH {l:List En} {k n:Nat} (h:k<n):en (l.take n) k=en l k:=by
 unfold en
 rw [List.getD_eq_getElem?_getD,List.getD_eq_getElem?_getD,List.getElem?_take_of_lt h]
theorem iD {l:List En} {x:En} {k:Nat}:en (l++[x]) k=if k<l.length then en l k else if k=l.length then x else default:=by
 unfold en
 rw [List.getD_eq_getElem?_getD,List.getD_eq_getElem?_getD]
 by_cases h:k<l.length
 ·rw [if_pos h,List.getElem?_append_left h]
 ·rw [if_neg h,List.getElem?_append_right (by omega)]
  by_cases h2:k=l.length
  ·rw [if_pos h2,h2,Nat.sub_self]
   rfl
  ·rw [if_neg h2,List.getElem?_eq_none (by simp;omega)]
   rfl
def zam (t:Tr):Bool:=!t.1 && t.2.1 == [] && t.2.2 == []
def rgt (c:Int) (n:Nat) (x:En):Bool :=
 decide (0≤x.deb) && decide (x.deb<c) && decide (0≤x.cre) && decide (x.cre<c) && decide (x.deb≠x.cre) && decide (0≤x.day) && decide (x.day≤14609) && !x.am.1 && !zam x.am && vd x.am.1 x.am.2.1 x.am.2.2 &&
 decide (1≤x.kd) && decide (x.kd≤5) && decide (0≤x.pd) && decide (x.pd≤4000) && (if x.kd=4 then decide (0≤x.rf) && decide (x.rf<n) else decide (x.rf=-1))
structure Rg (c:Int) (n:Nat) (x:En):Prop where
 d0:0≤x.deb
 d1:x.deb<c
 c0:0≤x.cre
 c1:x.cre<c
 ne:x.deb≠x.cre
 y0:0≤x.day
 y1:x.day≤14609
 ng:x.am.1=false
 nz:zam x.am=false
 vl:vd x.am.1 x.am.2.1 x.am.2.2=true
 k1:1≤x.kd
 k5:x.kd≤5
 p0:0≤x.pd
 p4:x.pd≤4000
 rf:if x.kd=4 then 0≤x.rf∧x.rf<n else x.rf=-1
theorem rgt_t {c:Int} {n:Nat} {x:En}:rgt c n x=true↔Rg c n x:=by
 unfold rgt
 constructor
 ·intro h
  simp only [Bool.and_eq_true,decide_eq_true_eq,Bool.not_eq_true'] at h;obtain ⟨⟨⟨⟨⟨⟨⟨⟨⟨⟨⟨⟨⟨⟨h1,h2⟩,h3⟩,h4⟩,h5⟩,h6⟩,h7⟩,h8⟩,h9⟩,h10⟩,h11⟩,h12⟩,h13⟩,h14⟩,h15⟩:=h;refine ⟨h1,h2,h3,h4,h5,h6,h7,h8,h9,h10,h11,h12,h13,h14,?_⟩
  split at h15
  ·rename_i h16
   rw [if_pos h16]
   simpa using h15
  ·rename_i h16
   rw [if_neg h16]
   simpa using h15
 ·intro h
  simp only [Bool.and_eq_true,decide_eq_true_eq,Bool.not_eq_true'];refine ⟨⟨⟨⟨⟨⟨⟨⟨⟨⟨⟨⟨⟨⟨h.d0,h.d1⟩,h.c0⟩,h.c1⟩,h.ne⟩,h.y0⟩,h.y1⟩,h.ng⟩,h.nz⟩,h.vl⟩,h.k1⟩,h.k5⟩,h.p0⟩,h.p4⟩,?_⟩;have h1:=h.rf
  split
  ·rename_i h2
   rw [if_pos h2] at h1
   simpa using h1
  ·rename_i h2
   rw [if_neg h2] at h1
   simpa using h1
def opp (y:En) (at' day:Int):En:=⟨day,y.cre,y.deb,y.am,4,y.pd,at',y.w1,y.w2,y.w3,y.w4⟩
def und (l:List En) (at':Int):Bool:=l.any fun x=>decide (x.kd=4) && decide (x.rf=at')
theorem zR (l:List En) (x:En) (a:Int):und (l++[x]) a=(und l a || (decide (x.kd=4) && decide (x.rf=a))):=by
 unfold und
 rw [List.any_append]
 simp
def dT (l:List En) (x:En):Bool:=!und l x.rf && decide (x={ opp (en l x.rf.toNat) x.rf x.day with w1:=x.w1,w2:=x.w2,w3:=x.w3,w4:=x.w4 })
def okE (c:Int) (l:List En) (k:Nat):Bool :=
 rgt c k (en l k) && !(decide (0<k) && decide ((en l k).day<(en l (k-1)).day)) && (if (en l k).kd=4 then dT (l.take k) (en l k) else true)
def acE (c:Int) (l:List En):Int :=
 if 100<c∨4000<l.length then 2 else if c<1 then 3 else if ∀ k,k<l.length→okE c l k=true then 0 else 1
structure Ok44 (c:Int) (l:List En):Prop where
 c1:1≤c
 c100:c≤100
 len:l.length≤4000
 all:∀ k,k<l.length→okE c l k=true
theorem acE_ok {c:Int} {l:List En}:acE c l=0↔Ok44 c l:=by
 unfold acE
 constructor
 ·intro h
  split at h
  ·cases h
  ·rename_i h1
   split at h
   ·cases h
   ·rename_i h2
    split at h
    ·rename_i h3
     exact ⟨by omega,by omega,by omega,h3⟩
    ·cases h
 ·intro h
  rw [if_neg (by have:=h.c100;have:=h.len;omega),if_neg (by have:=h.c1;omega),if_pos h.all]
theorem oC {c:Int} {l:List En} (h:100<c∨4000<l.length):acE c l=2:=if_pos h
theorem xO {c:Int} {l:List En} (h1:c<1) (h2:l.length≤4000):acE c l=3:=by
 unfold acE
 rw [if_neg (by omega),if_pos h1]
theorem fT {c:Int} {l:List En} (h1:1≤c) (h2:c≤100) (h3:l.length≤4000) {k:Nat} (hk:k<l.length) (h:okE c l k=false):acE c l=1:=by
 unfold acE
 rw [if_neg (by omega),if_neg (by omega),if_neg (fun h9=>by rw [h9 k hk] at h;cases h)]
theorem Ok44.rg {c:Int} {l:List En} (h:Ok44 c l) {k:Nat} (hk:k<l.length):Rg c k (en l k):=by
 have h1:=h.all k hk
 unfold okE at h1
 simp only [Bool.and_eq_true] at h1;exact rgt_t.1 h1.1.1
theorem Ok44.next {c:Int} {l:List En} (h:Ok44 c l) {k:Nat} (hk:k+1<l.length):(en l k).day≤(en l (k+1)).day:=by
 have h1:=h.all (k+1) hk
 unfold okE at h1
 simp only [Bool.and_eq_true,Bool.not_eq_true'] at h1;have h2:=h1.1.2;rw [decide_eq_true (by omega:0<k+1),Bool.true_and,Nat.add_sub_cancel] at h2;have:=of_decide_eq_false h2
 omega
theorem Ok44.sorted {c:Int} {l:List En} (h:Ok44 c l) {i:Nat}:∀ {d:Nat},i+d<l.length→(en l i).day≤(en l (i+d)).day
 | 0,_=>Int.le_refl _
 | d+1,hd=>Int.le_trans (h.sorted (d:=d) (by omega)) (by
   rw [← Nat.add_assoc]
   exact h.next (by omega))
theorem Ok44.mono {c:Int} {l:List En} (h:Ok44 c l) {i j:Nat} (hij:i≤j) (hj:j<l.length):(en l i).day≤(en l j).day:=by
 have h1:=h.sorted (i:=i) (d:=j-i) (by omega)
 rwa [show i+(j-i)=j by omega] at h1
def ent (x:En) (a:Int):Rat:=(if x.deb=a then trq x.am else 0)-(if x.cre=a then trq x.am else 0)
theorem qQy {c:Int} {l:List En} {x:En} {k:Nat} (hk:k<l.length):okE c (l++[x]) k=okE c l k:=by
 unfold okE
 rw [iD,if_pos hk,iD (k:=k-1),if_pos (by omega),List.take_append_of_le_length (by omega)]
theorem Ok44.snoc {c:Int} {l:List En} (h:Ok44 c l) {x:En} (hl:l.length<4000) (hr:Rg c l.length x) (hd:0<l.length→(en l (l.length-1)).day≤x.day) (hu:x.kd=4→dT l x=true):Ok44 c (l++[x]):=by
 refine ⟨h.c1,h.c100,by rw [List.length_append,List.length_singleton];omega,fun k hk=>?_⟩;rw [List.length_append,List.length_singleton] at hk
 rcases Nat.lt_or_ge k l.length with h1|h1
 ·rw [qQy h1]
  exact h.all k h1
 ·obtain rfl:k=l.length:=by omega
  have e1:en (l++[x]) l.length=x:=by rw [iD,if_neg (by omega),if_pos rfl]
  unfold okE
  rw [e1,rgt_t.2 hr,List.take_left']
  ·have e2:(decide (0<l.length) && decide (x.day<(en (l++[x]) (l.length-1)).day))=false:=by
    rcases Nat.eq_zero_or_pos l.length with h2|h2
    ·rw [decide_eq_false (by omega)]
     rfl
    ·have h3:=hd h2
     rw [iD,if_pos (by omega),decide_eq_false (by omega:¬ x.day<(en l (l.length-1)).day),Bool.and_false]
   rw [e2]
   by_cases h4:x.kd=4
   ·rw [if_pos h4,hu h4]
    rfl
   ·rw [if_neg h4]
    rfl
  ·rfl
abbrev eL (x:En):List Value:=[vI x.day,vI x.deb,vI x.cre,.bool x.am.1,vS x.am.2.1,vS x.am.2.2,vI x.kd,vI x.pd,vI x.rf,vI x.w1,vI x.w2,vI x.w3,vI x.w4]
end Go.Proofs.YtjkfchehkpmhkaaGreatDoor

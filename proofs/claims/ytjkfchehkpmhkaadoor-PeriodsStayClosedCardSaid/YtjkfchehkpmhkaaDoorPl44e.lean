/- Layer 44: the entries of some days lie side by side. -/
import Derived.Test.YtjkfchehkpmhkaaDoorKe
import Derived.Test.YtjkfchehkpmhkaaDoorQsu
set_option linter.unusedSimpArgs false
set_option linter.unusedVariables false
set_option maxRecDepth 100000
set_option maxHeartbeats 1600000
namespace Go.Proofs.YtjkfchehkpmhkaaDoor
open Go.RowKit
structure En where
 day:Int
 deb:Int
 cre:Int
 am:Tr
 kd:Int
 pd:Int
 rf:Int
 w1:Int
 w2:Int
 w3:Int
 w4:Int
deriving DecidableEq
instance:Inhabited En:=⟨⟨0,0,0,(false,[],[]),0,0,0,0,0,0,0⟩⟩
def en (l:List En) (k:Nat):En:=l.getD k default
theorem qYt {l:List En} {k:Nat} (h:k<l.length):en l k=l[k]:=by
 unfold en
 rw [List.getD_eq_getElem?_getD,List.getElem?_eq_getElem h]
 rfl
theorem yP {l:List En} {k n:Nat} (h:k<n):en (l.take n) k=en l k:=by
 unfold en
 rw [List.getD_eq_getElem?_getD,List.getD_eq_getElem?_getD,List.getElem?_take_of_lt h]
theorem jH {l:List En} {x:En} {k:Nat}:en (l++[x]) k=if k<l.length then en l k else if k=l.length then x else default:=by
 unfold en
 rw [List.getD_eq_getElem?_getD,List.getD_eq_getElem?_getD]
 by_cases h:k<l.length
 ·rw [if_pos h,List.getElem?_append_left h]
 ·rw [if_neg h,List.getElem?_append_right (by omega)]
  by_cases h2:k=l.length
  ·rw [if_pos h2,h2,Nat.sub_self]
   rfl
  ·rw [if_neg h2,List.getElem?_eq_none (by simp;omega)]
   rfl
def zam (t:Tr):Bool:=!t.1 && t.2.1 == [] && t.2.2 == []
def rgt (c:Int) (n:Nat) (x:En):Bool :=
 decide (0≤x.deb) && decide (x.deb<c) && decide (0≤x.cre) && decide (x.cre<c) && decide (x.deb≠x.cre) && decide (0≤x.day) && decide (x.day≤14609) && !x.am.1 && !zam x.am && vd x.am.1 x.am.2.1 x.am.2.2 &&
 decide (1≤x.kd) && decide (x.kd≤5) && decide (0≤x.pd) && decide (x.pd≤4000) && (if x.kd=4 then decide (0≤x.rf) && decide (x.rf<n) else decide (x.rf=-1))
structure Rg (c:Int) (n:Nat) (x:En):Prop where
 d0:0≤x.deb
 d1:x.deb<c
 c0:0≤x.cre
 c1:x.cre<c
 ne:x.deb≠x.cre
 y0:0≤x.day
 y1:x.day≤14609
 ng:x.am.1=false
 nz:zam x.am=false
 vl:vd x.am.1 x.am.2.1 x.am.2.2=true
 k1:1≤x.kd
 k5:x.kd≤5
 p0:0≤x.pd
 p4:x.pd≤4000
 rf:if x.kd=4 then 0≤x.rf∧x.rf<n else x.rf=-1
theorem rgt_t {c:Int} {n:Nat} {x:En}:rgt c n x=true↔Rg c n x:=by
 unfold rgt
 constructor
 ·intro h
  simp only [Bool.and_eq_true,decide_eq_true_eq,Bool.not_eq_true'] at h;obtain ⟨⟨⟨⟨⟨⟨⟨⟨⟨⟨⟨⟨⟨⟨h1,h2⟩,h3⟩,h4⟩,h5⟩,h6⟩,h7⟩,h8⟩,h9⟩,h10⟩,h11⟩,h12⟩,h13⟩,h14⟩,h15⟩:=h;refine ⟨h1,h2,h3,h4,h5,h6,h7,h8,h9,h10,h11,h12,h13,h14,?_⟩
  split at h15
  ·rename_i h16
   rw [if_pos h16]
   simpa using h15
  ·rename_i h16
   rw [if_neg h16]
   simpa using h15
 ·intro h
  simp only [Bool.and_eq_true,decide_eq_true_eq,Bool.not_eq_true'];refine ⟨⟨⟨⟨⟨⟨⟨⟨⟨⟨⟨⟨⟨⟨h.d0,h.d1⟩,h.c0⟩,h.c1⟩,h.ne⟩,h.y0⟩,h.y1⟩,h.ng⟩,h.nz⟩,h.vl⟩,h.k1⟩,h.k5⟩,h.p0⟩,h.p4⟩,?_⟩;have h1:=h.rf
  split
  ·rename_i h2
   rw [if_pos h2] at h1
   simpa using h1
  ·rename_i h2
   rw [if_neg h2] at h1
   simpa using h1
def opp (y:En) (at' day:Int):En:=⟨day,y.cre,y.deb,y.am,4,y.pd,at',y.w1,y.w2,y.w3,y.w4⟩
def und (l:List En) (at':Int):Bool:=l.any fun x=>decide (x.kd=4) && decide (x.rf=at')
theorem qVb (l:List En) (x:En) (a:Int):und (l++[x]) a=(und l a || (decide (x.kd=4) && decide (x.rf=a))):=by
 unfold und
 rw [List.any_append]
 simp
def jS (l:List En) (x:En):Bool:=!und l x.rf && decide (x={ opp (en l x.rf.toNat) x.rf x.day with w1:=x.w1,w2:=x.w2,w3:=x.w3,w4:=x.w4 })
def okE (c:Int) (l:List En) (k:Nat):Bool :=
 rgt c k (en l k) && !(decide (0<k) && decide ((en l k).day<(en l (k-1)).day)) && (if (en l k).kd=4 then jS (l.take k) (en l k) else true)
def acE (c:Int) (l:List En):Int :=
 if 100<c∨4000<l.length then 2 else if c<1 then 3 else if ∀ k,k<l.length→okE c l k=true then 0 else 1
structure Ok44 (c:Int) (l:List En):Prop where
 c1:1≤c
 c100:c≤100
 len:l.length≤4000
 all:∀ k,k<l.length→okE c l k=true
theorem acE_ok {c:Int} {l:List En}:acE c l=0↔Ok44 c l:=by
 unfold acE
 constructor
 ·intro h
  split at h
  ·cases h
  ·rename_i h1
   split at h
   ·cases h
   ·rename_i h2
    split at h
    ·rename_i h3
     exact ⟨by omega,by omega,by omega,h3⟩
    ·cases h
 ·intro h
  rw [if_neg (by have:=h.c100;have:=h.len;omega),if_neg (by have:=h.c1;omega),if_pos h.all]
theorem yZ {c:Int} {l:List En} (h:100<c∨4000<l.length):acE c l=2:=if_pos h
theorem vVt {c:Int} {l:List En} (h1:c<1) (h2:l.length≤4000):acE c l=3:=by
 unfold acE
 rw [if_neg (by omega),if_pos h1]
theorem lC {c:Int} {l:List En} (h1:1≤c) (h2:c≤100) (h3:l.length≤4000) {k:Nat} (hk:k<l.length) (h:okE c l k=false):acE c l=1:=by
 unfold acE
 rw [if_neg (by omega),if_neg (by omega),if_neg (fun h9=>by rw [h9 k hk] at h;cases h)]
theorem Ok44.rg {c:Int} {l:List En} (h:Ok44 c l) {k:Nat} (hk:k<l.length):Rg c k (en l k):=by
 have h1:=h.all k hk
 unfold okE at h1
 simp only [Bool.and_eq_true] at h1;exact rgt_t.1 h1.1.1
theorem Ok44.next {c:Int} {l:List En} (h:Ok44 c l) {k:Nat} (hk:k+1<l.length):(en l k).day≤(en l (k+1)).day:=by
 have h1:=h.all (k+1) hk
 unfold okE at h1
 simp only [Bool.and_eq_true,Bool.not_eq_true'] at h1;have h2:=h1.1.2;rw [decide_eq_true (by omega:0<k+1),Bool.true_and,Nat.add_sub_cancel] at h2;have:=of_decide_eq_false h2
 omega
theorem Ok44.sorted {c:Int} {l:List En} (h:Ok44 c l) {i:Nat}:∀ {d:Nat},i+d<l.length→(en l i).day≤(en l (i+d)).day
 | 0,_=>Int.le_refl _
 | d+1,hd=>Int.le_trans (h.sorted (d:=d) (by omega)) (by
   rw [← Nat.add_assoc]
   exact h.next (by omega))
theorem Ok44.mono {c:Int} {l:List En} (h:Ok44 c l) {i j:Nat} (hij:i≤j) (hj:j<l.length):(en l i).day≤(en l j).day:=by
 have h1:=h.sorted (i:=i) (d:=j-i) (by omega)
 rwa [show i+(j-i)=j by omega] at h1
def sel (x:En) (f t k:Int):Bool:=decide (f≤x.day) && decide (x.day≤t) && (decide (k=0) || decide (x.kd=k))
def ent (x:En) (a:Int):Rat:=(if x.deb=a then trq x.am else 0)-(if x.cre=a then trq x.am else 0)
def itm (x:En) (a f t k:Int):Rat:=if sel x f t k=true then ent x a else 0
def qZi (l:List En) (a f t k:Int) (n:Nat):Rat:=sm n fun i=>itm (en l i) a f t k
def bal (l:List En) (a f t k:Int):Rat:=qZi l a f t k l.length
theorem xL (f g:Nat→Rat) (n:Nat):sm n (fun i=>f i-g i)=sm n f-sm n g:=by
 induction n with
 | zero =>
  show (0:Rat)=0-0
  grind
 | succ n ih =>
  rw [cT,cT,cT,ih]
  grind
theorem vXb (n:Nat) (d:Int) (x:Rat) (h0:0≤d) (h1:d<n):sm n (fun i=>if d=(i:Int) then x else 0)=x:=by
 have h:=vYx (n:=n) (k:=d.toNat) (f:=fun i:Nat=>if d=(i:Int) then x else 0) (by omega) (fun i hi hne=>if_neg (by omega));rw [h,if_pos (by omega)]
theorem yM {c:Int} {n:Nat} {x:En} (h:Rg c n x) {N:Nat} (hc:c=(N:Int)):sm N (fun a=>ent x a)=0:=by
 unfold ent
 rw [xL,vXb N x.deb _ h.d0 (by have:=h.d1;omega),vXb N x.cre _ h.c0 (by have:=h.c1;omega)]
 grind
theorem vQx {c:Int} {n:Nat} {x:En} (h:Rg c n x) {N:Nat} (hc:c=(N:Int)) (f t k:Int):sm N (fun a=>itm x a f t k)=0:=by
 unfold itm
 split
 ·exact yM h hc
 ·exact vT N
theorem vVr {c:Int} {l:List En} (h:Ok44 c l) {N:Nat} (hc:c=(N:Int)) (f t k:Int):sm N (fun a=>bal l a f t k)=0:=by
 unfold bal qZi
 rw [← sC (fun i a=>itm (en l i) a f t k)]
 exact fO fun i hi=>vQx (h.rg hi) hc f t k
theorem qVx {c:Int} {l:List En} {x:En} {k:Nat} (hk:k<l.length):okE c (l++[x]) k=okE c l k:=by
 unfold okE
 rw [jH,if_pos hk,jH (k:=k-1),if_pos (by omega),List.take_append_of_le_length (by omega)]
theorem Ok44.snoc {c:Int} {l:List En} (h:Ok44 c l) {x:En} (hl:l.length<4000) (hr:Rg c l.length x) (hd:0<l.length→(en l (l.length-1)).day≤x.day) (hu:x.kd=4→jS l x=true):Ok44 c (l++[x]):=by
 refine ⟨h.c1,h.c100,by rw [List.length_append,List.length_singleton];omega,fun k hk=>?_⟩;rw [List.length_append,List.length_singleton] at hk
 rcases Nat.lt_or_ge k l.length with h1|h1
 ·rw [qVx h1]
  exact h.all k h1
 ·obtain rfl:k=l.length:=by omega
  have e1:en (l++[x]) l.length=x:=by rw [jH,if_neg (by omega),if_pos rfl]
  unfold okE
  rw [e1,rgt_t.2 hr,List.take_left']
  ·have e2:(decide (0<l.length) && decide (x.day<(en (l++[x]) (l.length-1)).day))=false:=by
    rcases Nat.eq_zero_or_pos l.length with h2|h2
    ·rw [decide_eq_false (by omega)]
     rfl
    ·have h3:=hd h2
     rw [jH,if_pos (by omega),decide_eq_false (by omega:¬ x.day<(en l (l.length-1)).day),Bool.and_false]
   rw [e2]
   by_cases h4:x.kd=4
   ·rw [if_pos h4,hu h4]
    rfl
   ·rw [if_neg h4]
    rfl
  ·rfl
structure Aj where
 day:Int
 ac:Int
 ag:Int
 pd:Int
 am:Tr
 w1:Int
 w2:Int
 w3:Int
 w4:Int
def adj (q:Aj):En :=
 if trq q.am=0 then ⟨q.day,q.ac,q.ag,tr 1,3,q.pd,-1,q.w1,q.w2,q.w3,q.w4⟩
 else if trq q.am<0 then ⟨q.day,q.ag,q.ac,tr (-trq q.am),3,q.pd,-1,q.w1,q.w2,q.w3,q.w4⟩
 else ⟨q.day,q.ac,q.ag,q.am,3,q.pd,-1,q.w1,q.w2,q.w3,q.w4⟩
def gB (l:List En) (x:En):Int:=if 0<l.length∧x.day<(en l (l.length-1)).day then 15 else if 4000≤l.length then 2 else 0
def poE (c:Int) (l:List En) (x:En):Int:=if acE c l≠0 then acE c l else if x.kd=4∨rgt c l.length x=false then 1 else gB l x
def ajE (c:Int) (l:List En) (q:Aj):Int:=if acE c l≠0 then acE c l else if vd q.am.1 q.am.2.1 q.am.2.2=false∨rgt c l.length (adj q)=false then 1 else gB l (adj q)
def blE (c:Int) (l:List En) (a day:Int):Int:=if acE c l≠0 then acE c l else if a<0∨c≤a∨day<0∨14609<day then 3 else 0
def ifz (e c:Int):Int:=if e=0 then c else 0
def poL (c:Int) (l:List En) (x:En):List En:=if poE c l x=0 then l++[x] else []
def ajL (c:Int) (l:List En) (q:Aj):List En:=if ajE c l q=0 then (if trq q.am=0 then l else l++[adj q]) else []
def blV (c:Int) (l:List En) (a day:Int):Rat:=if blE c l a day=0 then bal l a 0 day 0 else 0
def plN (l:List En) (a t:Int):Nat→List Int
 | 0=>[]
 | n+1=>if (en l n).day≤t∧((en l n).deb=a∨(en l n).cre=a) then plN l a t n++[(n:Int)] else plN l a t n
theorem iJ {x:En} {B:Nat} (h1:1≤B) (hx:tz x.am.2.1 x.am.2.2 B) (a:Int):szR (ent x a) (2 * B+1):=by
 have h:szR (trq x.am) B:=iZ rfl hx h1
 unfold ent
 have hz:szR (0:Rat) B:=szR_zero.mono h1
 have e1:szR (if x.deb=a then trq x.am else 0) B:=by split <;> assumption
 have e2:szR (if x.cre=a then trq x.am else 0) B:=by split <;> assumption
 exact (jA e1 e2).mono (by omega)
def clN (l:List En) (d:Int):Nat→Nat
 | 0=>0
 | n+1=>if (en l n).day<d then n+1 else clN l d n
theorem qO (l:List En) (d:Int) (n:Nat):clN l d (n+1)=if (en l n).day<d then n+1 else clN l d n:=rfl
def cl (l:List En) (d:Int):Nat:=clN l d l.length
theorem qYz (l:List En) (d:Int):∀ n,clN l d n≤n
 | 0=>Nat.le_refl 0
 | n+1=>by
  have h:=qYz l d n;rw [qO]
  split <;> omega
theorem qYy {l:List En} {d:Int} {k:Nat} (h:(en l k).day<d):∀ {n},k<n→k<clN l d n
 | n+1,hk=>by
  rw [qO]
  split
  ·exact hk
  ·rename_i h1
   rcases Nat.lt_or_ge k n with h2|h2
   ·exact qYy h h2
   ·exact absurd (show (en l n).day<d by rw [show n=k by omega];exact h) h1
theorem qZa {l:List En} {d:Int}:∀ {n},0<clN l d n→(en l (clN l d n-1)).day<d
 | n+1,h=>by
  rw [qO] at h ⊢
  split
  ·rename_i h1
   exact h1
  ·rename_i h1
   rw [if_neg h1] at h;exact qZa h
theorem vF (l:List En) (d:Int):cl l d≤l.length:=qYz l d _
theorem kN {c:Int} {l:List En} (h:Ok44 c l) {d:Int} {k:Nat} (hk:k<l.length):(en l k).day<d↔k<cl l d:=by
 refine ⟨fun h1=>qYy h1 hk,fun h1=>?_⟩;have h2:(en l (cl l d-1)).day<d:=qZa (by show 0<cl l d;omega);have h3:=vF l d;have h4:=h.mono (i:=k) (j:=cl l d-1) (by omega) (by omega)
 omega
def nb (l:List En) (f t:Int):Nat:=cl l (t+1)-cl l f
def vK (l:List En) (a f t k:Int) (n:Nat):Rat:=sm n fun i=>if k=0∨(en l (cl l f+i)).kd=k then ent (en l (cl l f+i)) a else 0
theorem oA (l:List En) (a f t k:Int) (n:Nat):vK l a f t k (n+1)=vK l a f t k n+if k=0∨(en l (cl l f+n)).kd=k then ent (en l (cl l f+n)) a else 0:=rfl
theorem qZh {c:Int} {l:List En} (h:Ok44 c l) (a f t k:Int):vK l a f t k (nb l f t)=bal l a f t k:=by
 have hs:=vF l f;have he:=vF l (t+1)
 unfold bal qZi
 rcases Nat.lt_or_ge (cl l (t+1)) (cl l f) with h1|h1
 ·have h0:nb l f t=0:=by unfold nb;omega
  rw [h0];refine (fO fun i hi=>?_).symm
  unfold itm sel
  have e1:=kN h (d:=f) hi;have e2:=kN h (d:=t+1) hi
  rcases Nat.lt_or_ge i (cl l f) with h2|h2
  ·have:=e1.2 h2
   rw [decide_eq_false (by omega:¬ f≤(en l i).day)]
   simp
  ·have:¬ (en l i).day<t+1:=fun h9=>by have:=e2.1 h9;omega
   rw [decide_eq_false (by omega:¬ (en l i).day≤t)]
   simp
 ·have e0:l.length=cl l f+(nb l f t+(l.length-cl l (t+1))):=by unfold nb;omega
  rw [e0,lV,lV,fO (n:=cl l f),fO (n:=l.length-cl l (t+1))]
  ·rw [Rat.zero_add,Rat.add_zero]
   refine cL fun i hi=>?_
   have hi2:cl l f+i<l.length:=by unfold nb at hi;omega
   have e1:=kN h (d:=f) hi2;have e2:=kN h (d:=t+1) hi2
   have h3:¬ (en l (cl l f+i)).day<f:=fun h9=>by have:=e1.1 h9;omega
   have h4:=e2.2 (by unfold nb at hi;omega)
   unfold itm sel
   rw [decide_eq_true (by omega:f≤(en l (cl l f+i)).day),decide_eq_true (by omega:(en l (cl l f+i)).day≤t)]
   simp
  ·intro i hi
   have hi2:cl l f+(nb l f t+i)<l.length:=by unfold nb;omega
   have e2:=kN h (d:=t+1) hi2
   have:¬ (en l (cl l f+(nb l f t+i))).day<t+1:=fun h9=>by have:=e2.1 h9;unfold nb at this;omega
   unfold itm sel
   rw [decide_eq_false (by omega:¬ (en l (cl l f+(nb l f t+i))).day≤t)]
   simp
  ·intro i hi
   have e1:=kN h (d:=f) (k:=i) (by omega);have:=e1.2 hi
   unfold itm sel
   rw [decide_eq_false (by omega:¬ f≤(en l i).day)]
   simp
theorem yX {l:List En} {B:Nat} (h1:1≤B) (hx:∀ k,tz (en l k).am.2.1 (en l k).am.2.2 B) (a f t k:Int):∀ n,szR (vK l a f t k n) (n * (2 * B+2)+1)
 | 0=>by
  show szR 0 _
  exact szR_zero.mono (by omega)
 | n+1=>by
  rw [oA]
  have e:szR (if k=0∨(en l (cl l f+n)).kd=k then ent (en l (cl l f+n)) a else 0) (2 * B+1):=by
   split
   ·exact iJ h1 (hx _) a
   ·exact szR_zero.mono (by omega)
  refine (sA (yX h1 hx a f t k n) e).mono ?_;rw [Nat.succ_mul n (2 * B+2)]
  omega
theorem zF {S:List Rat} {x:En} {c:Int} {n:Nat} (h:Rg c n x) (hc:c≤S.length) (a:Nat):((S.set x.deb.toNat (S.getD x.deb.toNat 0+trq x.am)).set x.cre.toNat ((S.set x.deb.toNat (S.getD x.deb.toNat 0+trq x.am)).getD x.cre.toNat 0-trq x.am)).getD a 0=if a<S.length then S.getD a 0+ent x (a:Int) else 0:=by
 have h0:=h.d0;have h1:=h.d1;have h2:=h.c0;have h3:=h.c1
 have hne:x.deb.toNat≠x.cre.toNat:=fun h9=>h.ne (by omega)
 have g1:∀ (T:List Rat) (i j:Nat) (z:Rat),(T.set i z).getD j 0=if i=j∧i<T.length then z else T.getD j 0:=fun T i j z=>by
  rw [List.getD_eq_getElem?_getD,List.getD_eq_getElem?_getD,List.getElem?_set]
  by_cases hij:i=j
  ·subst hij
   by_cases hl:i<T.length
   ·rw [if_pos rfl,if_pos hl,if_pos ⟨rfl,hl⟩]
    rfl
   ·rw [if_pos rfl,if_neg hl,if_neg (fun h9=>hl h9.2),List.getElem?_eq_none (by omega)]
  ·rw [if_neg hij,if_neg (fun h9=>hij h9.1)]
 rw [g1,g1,g1,List.length_set]
 by_cases ha:a<S.length
 ·rw [if_pos ha]
  unfold ent
  by_cases e1:x.cre.toNat=a
  ·rw [if_pos ⟨e1,by omega⟩,if_neg (fun h9=>hne h9.1),if_neg (by omega),if_pos (by omega),e1]
   grind
  ·rw [if_neg (fun h9=>e1 h9.1)]
   by_cases e2:x.deb.toNat=a
   ·rw [if_pos ⟨e2,by omega⟩,if_pos (by omega),if_neg (by omega),e2]
    grind
   ·rw [if_neg (fun h9=>e2 h9.1),if_neg (by omega),if_neg (by omega)]
    grind
 ·rw [if_neg ha,if_neg (by omega),if_neg (by omega),List.getD_eq_getElem?_getD,List.getElem?_eq_none (by omega)]
  rfl
abbrev eL (x:En):List Value:=[vI x.day,vI x.deb,vI x.cre,.bool x.am.1,vS x.am.2.1,vS x.am.2.2,vI x.kd,vI x.pd,vI x.rf,vI x.w1,vI x.w2,vI x.w3,vI x.w4]
end Go.Proofs.YtjkfchehkpmhkaaDoor

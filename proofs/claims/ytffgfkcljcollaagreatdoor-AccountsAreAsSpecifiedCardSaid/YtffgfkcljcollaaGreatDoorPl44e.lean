/- Layer 44: the entries of some days lie side by side. -/
import Derived.Test.YtffgfkcljcollaaGreatDoorPl44b
set_option linter.unusedSimpArgs false
set_option linter.unusedVariables false
set_option maxRecDepth 100000
set_option maxHeartbeats 1600000
namespace Go.Proofs.YtffgfkcljcollaaGreatDoor
open Go.RowKit
def dD (l:List En) (x:En):Int:=if 0<l.length∧x.day<(en l (l.length-1)).day then 15 else if 4000≤l.length then 2 else 0
def poE (c:Int) (l:List En) (x:En):Int:=if acE c l≠0 then acE c l else if x.kd=4∨rgt c l.length x=false then 1 else dD l x
def rvE (c:Int) (l:List En) (a day:Int):Int :=
 if acE c l≠0 then acE c l else if a<0∨(l.length:Int)≤a then 8 else if und l a=true∨(en l a.toNat).kd=4 then 4 else if day<0∨14609<day then 3 else dD l (opp (en l a.toNat) a day)
def ajE (c:Int) (l:List En) (q:Aj):Int:=if acE c l≠0 then acE c l else if vd q.am.1 q.am.2.1 q.am.2.2=false∨rgt c l.length (adj q)=false then 1 else dD l (adj q)
def blE (c:Int) (l:List En) (a day:Int):Int:=if acE c l≠0 then acE c l else if a<0∨c≤a∨day<0∨14609<day then 3 else 0
def suE (c:Int) (l:List En) (f t k:Int):Int:=if acE c l≠0 then acE c l else if f<0∨14609<f∨t<0∨14609<t∨k<0∨5<k then 3 else 0
def ifz (e c:Int):Int:=if e=0 then c else 0
def poL (c:Int) (l:List En) (x:En):List En:=if poE c l x=0 then l++[x] else []
def rvL (c:Int) (l:List En) (a day:Int):List En:=if rvE c l a day=0 then l++[opp (en l a.toNat) a day] else []
def ajL (c:Int) (l:List En) (q:Aj):List En:=if ajE c l q=0 then (if trq q.am=0 then l else l++[adj q]) else []
def blV (c:Int) (l:List En) (a day:Int):Rat:=if blE c l a day=0 then bal l a 0 day 0 else 0
def smA (c:Int) (l:List En) (f t k:Int):List Rat:=(List.range c.toNat).map fun i:Nat=>bal l (i:Int) f t k
def suL (c:Int) (l:List En) (f t k:Int):List Rat:=if suE c l f t k=0 then smA c l f t k else []
def plN (l:List En) (a t:Int):Nat→List Int
 | 0=>[]
 | n+1=>if (en l n).day≤t∧((en l n).deb=a∨(en l n).cre=a) then plN l a t n++[(n:Int)] else plN l a t n
theorem dU (l:List En) (a t:Int) (n:Nat):plN l a t (n+1)=if (en l n).day≤t∧((en l n).deb=a∨(en l n).cre=a) then plN l a t n++[(n:Int)] else plN l a t n:=rfl
theorem uP (l:List En) (a t:Int):∀ n,(plN l a t n).length≤n
 | 0=>Nat.le_refl 0
 | n+1=>by
  have h:=uP l a t n;rw [dU]
  split
  ·rw [List.length_append,List.length_singleton]
   omega
  ·omega
def plA (l:List En) (a t:Int):List Int:=plN l a t l.length
theorem uO {c:Int} {l:List En} (h:Ok44 c l) {a t:Int} {n:Nat}:∀ {m:Nat},n+m≤l.length→(n<l.length→t<(en l n).day)→plN l a t (n+m)=plN l a t n
 | 0,_,_=>rfl
 | m+1,hm,hd=>by
  rw [← Nat.add_assoc,dU,if_neg,uO h (by omega) hd]
  rintro ⟨h1,_⟩
  have h2:=h.mono (i:=n) (j:=n+m) (by omega) (by omega);have h3:=hd (by omega)
  omega
def trL (c:Int) (l:List En) (a day:Int):List Int:=if blE c l a day=0 then plA l a day else []
theorem qQe {x:En} {B:Nat} (h1:1≤B) (hx:tz x.am.2.1 x.am.2.2 B) (a:Int):szR (ent x a) (2 * B+1):=by
 have h:szR (trq x.am) B:=lM rfl hx h1
 unfold ent
 have hz:szR (0:Rat) B:=szR_zero.mono h1
 have e1:szR (if x.deb=a then trq x.am else 0) B:=by split <;> assumption
 have e2:szR (if x.cre=a then trq x.am else 0) B:=by split <;> assumption
 exact (qVg e1 e2).mono (by omega)
def clN (l:List En) (d:Int):Nat→Nat
 | 0=>0
 | n+1=>if (en l n).day<d then n+1 else clN l d n
theorem oF (l:List En) (d:Int) (n:Nat):clN l d (n+1)=if (en l n).day<d then n+1 else clN l d n:=rfl
def cl (l:List En) (d:Int):Nat:=clN l d l.length
theorem qQs (l:List En) (d:Int):∀ n,clN l d n≤n
 | 0=>Nat.le_refl 0
 | n+1=>by
  have h:=qQs l d n;rw [oF]
  split <;> omega
theorem qQr {l:List En} {d:Int} {k:Nat} (h:(en l k).day<d):∀ {n},k<n→k<clN l d n
 | n+1,hk=>by
  rw [oF]
  split
  ·exact hk
  ·rename_i h1
   rcases Nat.lt_or_ge k n with h2|h2
   ·exact qQr h h2
   ·exact absurd (show (en l n).day<d by rw [show n=k by omega];exact h) h1
theorem qQt {l:List En} {d:Int}:∀ {n},0<clN l d n→(en l (clN l d n-1)).day<d
 | n+1,h=>by
  rw [oF] at h ⊢
  split
  ·rename_i h1
   exact h1
  ·rename_i h1
   rw [if_neg h1] at h;exact qQt h
theorem mI (l:List En) (d:Int):cl l d≤l.length:=qQs l d _
theorem gA {c:Int} {l:List En} (h:Ok44 c l) {d:Int} {k:Nat} (hk:k<l.length):(en l k).day<d↔k<cl l d:=by
 refine ⟨fun h1=>qQr h1 hk,fun h1=>?_⟩;have h2:(en l (cl l d-1)).day<d:=qQt (by show 0<cl l d;omega);have h3:=mI l d;have h4:=h.mono (i:=k) (j:=cl l d-1) (by omega) (by omega)
 omega
def nb (l:List En) (f t:Int):Nat:=cl l (t+1)-cl l f
def sU (l:List En) (a f t k:Int) (n:Nat):Rat:=sm n fun i=>if k=0∨(en l (cl l f+i)).kd=k then ent (en l (cl l f+i)) a else 0
theorem mB (l:List En) (a f t k:Int) (n:Nat):sU l a f t k (n+1)=sU l a f t k n+if k=0∨(en l (cl l f+n)).kd=k then ent (en l (cl l f+n)) a else 0:=rfl
theorem qQw {c:Int} {l:List En} (h:Ok44 c l) (a f t k:Int):sU l a f t k (nb l f t)=bal l a f t k:=by
 have hs:=mI l f;have he:=mI l (t+1)
 unfold bal bN
 rcases Nat.lt_or_ge (cl l (t+1)) (cl l f) with h1|h1
 ·have h0:nb l f t=0:=by unfold nb;omega
  rw [h0];refine (pR fun i hi=>?_).symm
  unfold itm sel
  have e1:=gA h (d:=f) hi;have e2:=gA h (d:=t+1) hi
  rcases Nat.lt_or_ge i (cl l f) with h2|h2
  ·have:=e1.2 h2
   rw [decide_eq_false (by omega:¬ f≤(en l i).day)]
   simp
  ·have:¬ (en l i).day<t+1:=fun h9=>by have:=e2.1 h9;omega
   rw [decide_eq_false (by omega:¬ (en l i).day≤t)]
   simp
 ·have e0:l.length=cl l f+(nb l f t+(l.length-cl l (t+1))):=by unfold nb;omega
  rw [e0,nC,nC,pR (n:=cl l f),pR (n:=l.length-cl l (t+1))]
  ·rw [Rat.zero_add,Rat.add_zero]
   refine nD fun i hi=>?_
   have hi2:cl l f+i<l.length:=by unfold nb at hi;omega
   have e1:=gA h (d:=f) hi2;have e2:=gA h (d:=t+1) hi2
   have h3:¬ (en l (cl l f+i)).day<f:=fun h9=>by have:=e1.1 h9;omega
   have h4:=e2.2 (by unfold nb at hi;omega)
   unfold itm sel
   rw [decide_eq_true (by omega:f≤(en l (cl l f+i)).day),decide_eq_true (by omega:(en l (cl l f+i)).day≤t)]
   simp
  ·intro i hi
   have hi2:cl l f+(nb l f t+i)<l.length:=by unfold nb;omega
   have e2:=gA h (d:=t+1) hi2
   have:¬ (en l (cl l f+(nb l f t+i))).day<t+1:=fun h9=>by have:=e2.1 h9;unfold nb at this;omega
   unfold itm sel
   rw [decide_eq_false (by omega:¬ (en l (cl l f+(nb l f t+i))).day≤t)]
   simp
  ·intro i hi
   have e1:=gA h (d:=f) (k:=i) (by omega);have:=e1.2 hi
   unfold itm sel
   rw [decide_eq_false (by omega:¬ f≤(en l i).day)]
   simp
theorem vH {l:List En} {B:Nat} (h1:1≤B) (hx:∀ k,tz (en l k).am.2.1 (en l k).am.2.2 B) (a f t k:Int):∀ n,szR (sU l a f t k n) (n * (2 * B+2)+1)
 | 0=>by
  show szR 0 _
  exact szR_zero.mono (by omega)
 | n+1=>by
  rw [mB]
  have e:szR (if k=0∨(en l (cl l f+n)).kd=k then ent (en l (cl l f+n)) a else 0) (2 * B+1):=by
   split
   ·exact qQe h1 (hx _) a
   ·exact szR_zero.mono (by omega)
  refine (mM (vH h1 hx a f t k n) e).mono ?_;rw [Nat.succ_mul n (2 * B+2)]
  omega
theorem vT {S:List Rat} {x:En} {c:Int} {n:Nat} (h:Rg c n x) (hc:c≤S.length) (a:Nat):((S.set x.deb.toNat (S.getD x.deb.toNat 0+trq x.am)).set x.cre.toNat ((S.set x.deb.toNat (S.getD x.deb.toNat 0+trq x.am)).getD x.cre.toNat 0-trq x.am)).getD a 0=if a<S.length then S.getD a 0+ent x (a:Int) else 0:=by
 have h0:=h.d0;have h1:=h.d1;have h2:=h.c0;have h3:=h.c1
 have hne:x.deb.toNat≠x.cre.toNat:=fun h9=>h.ne (by omega)
 have g1:∀ (T:List Rat) (i j:Nat) (z:Rat),(T.set i z).getD j 0=if i=j∧i<T.length then z else T.getD j 0:=fun T i j z=>by
  rw [List.getD_eq_getElem?_getD,List.getD_eq_getElem?_getD,List.getElem?_set]
  by_cases hij:i=j
  ·subst hij
   by_cases hl:i<T.length
   ·rw [if_pos rfl,if_pos hl,if_pos ⟨rfl,hl⟩]
    rfl
   ·rw [if_pos rfl,if_neg hl,if_neg (fun h9=>hl h9.2),List.getElem?_eq_none (by omega)]
  ·rw [if_neg hij,if_neg (fun h9=>hij h9.1)]
 rw [g1,g1,g1,List.length_set]
 by_cases ha:a<S.length
 ·rw [if_pos ha]
  unfold ent
  by_cases e1:x.cre.toNat=a
  ·rw [if_pos ⟨e1,by omega⟩,if_neg (fun h9=>hne h9.1),if_neg (by omega),if_pos (by omega),e1]
   grind
  ·rw [if_neg (fun h9=>e1 h9.1)]
   by_cases e2:x.deb.toNat=a
   ·rw [if_pos ⟨e2,by omega⟩,if_pos (by omega),if_neg (by omega),e2]
    grind
   ·rw [if_neg (fun h9=>e2 h9.1),if_neg (by omega),if_neg (by omega)]
    grind
 ·rw [if_neg ha,if_neg (by omega),if_neg (by omega),List.getD_eq_getElem?_getD,List.getElem?_eq_none (by omega)]
  rfl
end Go.Proofs.YtffgfkcljcollaaGreatDoor

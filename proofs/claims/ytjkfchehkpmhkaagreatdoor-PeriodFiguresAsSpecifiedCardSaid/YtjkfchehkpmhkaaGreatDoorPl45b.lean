/- Layer 45: plain words of the periods: what a setting and a c -/
import Derived.Test.YtjkfchehkpmhkaaGreatDoorPl44
import Derived.Test.YtjkfchehkpmhkaaGreatDoorKe
set_option linter.unusedSimpArgs false
set_option linter.unusedVariables false
set_option maxRecDepth 100000
set_option maxHeartbeats 1600000
namespace Go.Proofs.YtjkfchehkpmhkaaGreatDoor
structure Cg where
 day:Int
 place:Int
deriving Inhabited,DecidableEq
def cg (cs:List Cg) (k:Nat):Cg:=cs.getD k ⟨0,0⟩
theorem cg_in {cs:List Cg} {k:Nat} (h:k<cs.length):cg cs k=cs[k]:=by
 unfold cg
 rw [List.getD_eq_getElem?_getD,List.getElem?_eq_getElem h]
 rfl
theorem mW {cs:List Cg} {c:Cg} {k:Nat} (h:k<cs.length):cg (cs++[c]) k=cg cs k:=by
 unfold cg
 rw [List.getD_eq_getElem?_getD,List.getD_eq_getElem?_getD,List.getElem?_append_left h]
theorem sI {cs:List Cg} {c:Cg}:cg (cs++[c]) cs.length=c:=by
 unfold cg
 rw [List.getD_eq_getElem?_getD,List.getElem?_append_right (Nat.le_refl _),Nat.sub_self]
 rfl
def gN (cs:List Cg) (p:Int):Int:=if p<cs.length then (cg cs p.toNat).place else 4001
def btw (x:En) (o:Int):Bool:=(decide (x.deb=o) && decide (1<x.cre)) || (decide (x.cre=o) && decide (1<x.deb))
def cG (cs:List Cg) (x:En) (k:Nat):Bool :=
 decide (x.rf=-1) && (if x.kd=3 then btw x 1 && decide (gN cs x.pd≤k) else btw x 0 && decide (x.kd=1) && !decide (gN cs x.pd≤k))
def dO (cs:List Cg) (l:List En) (k:Nat):Prop :=
 0≤(cg cs k).day∧(cg cs k).day≤14609∧0≤(cg cs k).place∧(cg cs k).place≤l.length ∧
 (0<k→(cg cs (k-1)).day≤(cg cs k).day∧(cg cs (k-1)).place≤(cg cs k).place) ∧
 (0<(cg cs k).place→(en l ((cg cs k).place.toNat-1)).day≤(cg cs k).day) ∧
 ((cg cs k).place<l.length→(cg cs k).day≤(en l (cg cs k).place.toNat).day)
instance (cs:List Cg) (l:List En) (k:Nat):Decidable (dO cs l k):=by
 unfold dO
 infer_instance
def peE (c:Int) (l:List En) (cs:List Cg):Int :=
 if acE c l≠0 then acE c l
 else if c<3∨4000<cs.length then 1
 else if (∀ k,k<cs.length→dO cs l k)∧(∀ k,k<l.length→cG cs (en l k) k=true) then 0 else 1
structure Ok45 (c:Int) (l:List En) (cs:List Cg):Prop where
 ac:Ok44 c l
 c3:3≤c
 few:cs.length≤4000
 clo:∀ k,k<cs.length→dO cs l k
 ent:∀ k,k<l.length→cG cs (en l k) k=true
theorem peE_ok {c:Int} {l:List En} {cs:List Cg}:peE c l cs=0↔Ok45 c l cs:=by
 unfold peE
 constructor
 ·intro h
  split at h
  ·rename_i h1
   exact absurd h h1
  ·rename_i h1
   split at h
   ·cases h
   ·split at h
    ·rename_i h2 h3
     exact ⟨acE_ok.1 (Decidable.of_not_not h1),by omega,by omega,h3.1,h3.2⟩
    ·cases h
 ·intro h
  rw [if_neg (fun h1=>h1 (acE_ok.2 h.ac)),if_neg (by have:=h.c3;have:=h.few;omega),if_pos ⟨h.clo,h.ent⟩]
def dK (c p a d:Int):Int:=if p<0∨4000<p∨a≤1∨c≤a∨d<0∨14609<d then 3 else 0
def kD (x:En) (p a d:Int):Rat:=if x.pd=p∧x.day≤d then ent x a else 0
def kT (x:En) (p a d:Int):Rat:=if x.pd=p∧x.day≤d∧x.kd≠3 then ent x a else 0
def kC (l:List En) (p a d:Int) (n:Nat):Rat:=sm n fun i=>kD (en l i) p a d
def gY (l:List En) (p a d:Int) (n:Nat):Rat:=sm n fun i=>kT (en l i) p a d
def knw (l:List En) (p a d:Int):Rat:=kC l p a d l.length
def frz (l:List En) (p a d:Int):Rat:=gY l p a d l.length
theorem yJ (l:List En) (p a d:Int) (n:Nat):kC l p a d (n+1)=kC l p a d n+kD (en l n) p a d:=rfl
theorem qS (l:List En) (p a d:Int) (n:Nat):gY l p a d (n+1)=gY l p a d n+kT (en l n) p a d:=rfl
def gW (cs:List Cg) (p d:Int):Bool:=decide (p<cs.length) && decide ((cg cs p.toNat).day≤d)
def fJ (c:Int) (l:List En) (cs:List Cg) (p a d:Int):Int:=if peE c l cs≠0 then peE c l cs else dK c p a d
def gF (c:Int) (l:List En) (cs:List Cg) (p a d:Int):Rat:=if fJ c l cs p a d=0 then knw l p a d else 0
def gG (c:Int) (l:List En) (cs:List Cg) (p a d:Int):Rat:=if fJ c l cs p a d=0 then (if gW cs p d=true then frz l p a d else 0) else 0
def lK (c:Int) (l:List En) (cs:List Cg) (p a d:Int):Bool:=if fJ c l cs p a d=0 then gW cs p d else false
def stl (l:List En) (cs:List Cg) (d:Int):Bool:=(decide (0<l.length) && decide (d<(en l (l.length-1)).day)) || (decide (0<cs.length) && decide (d<(cg cs (cs.length-1)).day))
structure Stg where
 day:Int
 pd:Int
 ac:Int
 am:Tr
 w1:Int
 w2:Int
 w3:Int
 w4:Int
def mor (l:List En) (q:Stg):Rat:=trq q.am-knw l q.pd q.ac 14609
def dP (c:Int) (l:List En) (cs:List Cg) (q:Stg):Int :=
 if peE c l cs≠0 then peE c l cs
 else if vd q.am.1 q.am.2.1 q.am.2.2=false then 1
 else if dK c q.pd q.ac q.day≠0 then dK c q.pd q.ac q.day
 else if stl l cs q.day=true then 15
 else if l.length=4000 then 2 else 0
def lZ (cs:List Cg) (q:Stg):Int:=if q.pd<cs.length then 1 else 0
def mA (cs:List Cg) (q:Stg):Int:=if q.pd<cs.length then 3 else 1
def eD (l:List En) (cs:List Cg) (q:Stg):En :=
 if mor l q<0 then ⟨q.day,lZ cs q,q.ac,tr (-(mor l q)),mA cs q,q.pd,-1,q.w1,q.w2,q.w3,q.w4⟩
 else ⟨q.day,q.ac,lZ cs q,tr (mor l q),mA cs q,q.pd,-1,q.w1,q.w2,q.w3,q.w4⟩
def eA (c:Int) (l:List En) (cs:List Cg) (q:Stg):List En :=
 if dP c l cs q=0 then (if mor l q=0 then l else l++[eD l cs q]) else []
def eV (c:Int) (l:List En) (cs:List Cg) (d:Int):Int :=
 if peE c l cs≠0 then peE c l cs
 else if d<0∨14609<d then 3
 else if stl l cs d=true then 15
 else if cs.length=4000 then 2 else 0
def jE (c:Int) (l:List En) (cs:List Cg) (d:Int):List Cg:=if eV c l cs d=0 then cs++[⟨d,(l.length:Int)⟩] else []
def eX (x:En) (a f t:Int):Bool:=decide (x.kd=3) && decide (f≤x.day) && decide (x.day≤t) && (decide (x.deb=a) || decide (x.cre=a))
def iP (l:List En) (a f t:Int) (n:Nat):Rat:=sm n fun i=>if eX (en l i) a f t=true then ent (en l i) a else 0
def dX (l:List En) (a f t:Int):Nat→List Int
 | 0=>[]
 | n+1=>if eX (en l n) a f t=true then dX l a f t n++[(n:Int)] else dX l a f t n
def eP (c:Int) (l:List En) (cs:List Cg) (a f t:Int):Int :=
 if peE c l cs≠0 then peE c l cs else if dK c 0 a f≠0 then 3 else if t<0∨14609<t then 3 else 0
def fI (c:Int) (l:List En) (cs:List Cg) (a f t:Int):Rat:=if eP c l cs a f t=0 then iP l a f t l.length else 0
def jO (c:Int) (l:List En) (cs:List Cg) (a f t:Int):List Int:=if eP c l cs a f t=0 then dX l a f t l.length else []
def qQs (n:Int):Int:=if n<1∨98<n then 3 else 0
def qQt (n:Int):Int:=if n<1∨98<n then 0 else n+2
theorem pQ {l:List En} {x:En} {k:Nat} (h:k<l.length):en (l++[x]) k=en l k:=by rw [iE,if_pos h]
theorem sF {l:List En} {x:En}:en (l++[x]) l.length=x:=by rw [iE,if_neg (Nat.lt_irrefl _),if_pos rfl]
theorem gV {l:List En} {x:En}:(l++[x]).length=l.length+1:=by rw [List.length_append,List.length_singleton]
theorem pG (l:List En) (x:En) (p a d:Int):knw (l++[x]) p a d=knw l p a d+kD x p a d:=by
 unfold knw
 rw [gV,yJ,sF]
 congr 1
 exact lY fun i hi=>by rw [pQ hi]
theorem Ok45.mono {c:Int} {l:List En} {cs:List Cg} (h:Ok45 c l cs) {i:Nat}:∀ {d:Nat},i+d<cs.length→(cg cs i).day≤(cg cs (i+d)).day∧(cg cs i).place≤(cg cs (i+d)).place
 | 0,_=>⟨Int.le_refl _,Int.le_refl _⟩
 | d+1,hd=>by
  have h1:=h.mono (i:=i) (d:=d) (by omega);have h2:=(h.clo (i+(d+1)) hd).2.2.2.2.1 (by omega);rw [show i+(d+1)-1=i+d by omega] at h2;exact ⟨Int.le_trans h1.1 h2.1,Int.le_trans h1.2 h2.2⟩
theorem Ok45.last {c:Int} {l:List En} {cs:List Cg} (h:Ok45 c l cs) {i:Nat} (hi:i<cs.length):(cg cs i).day≤(cg cs (cs.length-1)).day:=by
 have h1:=(h.mono (i:=i) (d:=cs.length-1-i) (by omega)).1
 rwa [show i+(cs.length-1-i)=cs.length-1 by omega] at h1
theorem zQ {l:List En} {cs:List Cg} {d:Int} (h:stl l cs d=false):(0<l.length→(en l (l.length-1)).day≤d)∧(0<cs.length→(cg cs (cs.length-1)).day≤d):=by
 unfold stl at h
 rw [Bool.or_eq_false_iff,Bool.and_eq_false_iff,Bool.and_eq_false_iff,decide_eq_false_iff_not,decide_eq_false_iff_not,decide_eq_false_iff_not,decide_eq_false_iff_not] at h
 omega
theorem yY {cs:List Cg} {x:Cg} {p:Int} (hp:0≤p):gN (cs++[x]) p=if p=cs.length then x.place else gN cs p:=by
 unfold gN
 rw [List.length_append,List.length_singleton]
 by_cases h:p=cs.length
 ·rw [if_pos h,if_pos (by omega),h,Int.toNat_natCast,sI]
 ·rw [if_neg h]
  by_cases h2:p<cs.length
  ·rw [if_pos (by omega),if_pos h2,mW (by omega)]
  ·rw [if_neg (by omega),if_neg h2]
theorem Ok45.close {c:Int} {l:List En} {cs:List Cg} (h:Ok45 c l cs) {d:Int} (hd:0≤d∧d≤14609) (hs:stl l cs d=false) (hn:cs.length<4000):Ok45 c l (cs++[⟨d,(l.length:Int)⟩]):=by
 obtain ⟨s1,s2⟩:=zQ hs;have hL:=h.ac.len;refine ⟨h.ac,h.c3,by rw [List.length_append,List.length_singleton];omega,fun k hk=>?_,fun k hk=>?_⟩
 ·rw [List.length_append,List.length_singleton] at hk
  rcases Nat.lt_or_ge k cs.length with h1|h1
  ·have h2:=h.clo k h1
   unfold dO at h2 ⊢
   rw [mW h1,mW (show k-1<cs.length by omega)];exact h2
  ·obtain rfl:k=cs.length:=by omega
   unfold dO
   rw [sI];refine ⟨hd.1,hd.2,Int.natCast_nonneg l.length,Int.le_refl _,fun h3=>?_,fun h3=>?_,fun h3=>absurd h3 (Int.lt_irrefl _)⟩
   ·rw [mW (show cs.length-1<cs.length by omega)]
    exact ⟨s2 h3,(h.clo (cs.length-1) (by omega)).2.2.2.1⟩
   ·show (en l ((l.length:Int).toNat-1)).day≤d
    rw [Int.toNat_natCast];exact s1 (by have h4:(0:Int)<(l.length:Int):=h3;omega)
 ·have h2:=h.ent k hk
  have hp:=(h.ac.rg hk).p0
  unfold cG at h2 ⊢
  rw [yY hp]
  by_cases h3:(en l k).pd=cs.length
  ·have e1:decide (gN cs (en l k).pd≤(k:Int))=false:=by
    rw [decide_eq_false_iff_not]
    unfold gN
    rw [if_neg (by omega)]
    omega
   have e2:decide ((l.length:Int)≤(k:Int))=false:=by
    rw [decide_eq_false_iff_not]
    omega
   rw [if_pos h3]
   show (decide ((en l k).rf=-1) && if (en l k).kd=3 then btw (en l k) 1 && decide ((l.length:Int)≤(k:Int)) else btw (en l k) 0 && decide ((en l k).kd=1) && !decide ((l.length:Int)≤(k:Int)))=true
   rw [e1] at h2;rw [e2];exact h2
  ·rw [if_neg h3]
   exact h2
theorem vQs {z:Rat} (h:0≤z):rN z=false:=by
 unfold rN
 rw [decide_eq_false_iff_not,Int.not_lt];exact Rat.num_nonneg.2 h
theorem zD {z:Rat} (h:z≠0):zam (tr z)=false:=by
 cases h9:zam (tr z) with
 | false=>rfl
 | true =>
  exfalso
  apply h
  unfold zam at h9
  simp only [Bool.and_eq_true,beq_iff_eq,Bool.not_eq_true'] at h9;obtain ⟨⟨h1,h2⟩,h3⟩:=h9;have h4:z=rq (rN z) (rP z) (rD z):=(eK z).symm;have h1':rN z=false:=h1;have h2':rP z=[]:=h2;have h3':rD z=[]:=h3;rw [h1',h2',h3'] at h4;rw [h4];exact mB
theorem wE (cs:List Cg) (q:Stg):lZ cs q=0∨lZ cs q=1:=by
 unfold lZ
 split
 ·exact .inr rfl
 ·exact .inl rfl
theorem wC {c:Int} {l:List En} {cs:List Cg} {q:Stg} (hk:dK c q.pd q.ac q.day=0) (hm:mor l q≠0):Rg c l.length (eD l cs q):=by
 have ha:¬ (q.pd<0∨4000<q.pd∨q.ac≤1∨c≤q.ac∨q.day<0∨14609<q.day):=fun h9=>by
  unfold dK at hk
  rw [if_pos h9] at hk
  cases hk
 have ho:=wE cs q
 have hK:mA cs q=1∨mA cs q=3:=by
  unfold mA
  split
  ·exact .inr rfl
  ·exact .inl rfl
 have hne4:¬ mA cs q=4:=by omega
 unfold eD
 by_cases h:mor l q<0
 ·rw [if_pos h]
  have hp:(0:Rat)≤-(mor l q):=by grind
  refine ⟨?_,?_,?_,?_,?_,?_,?_,vQs hp,zD (fun h9=>hm (by grind)),vU _,?_,?_,?_,?_,?_⟩ <;> try (dsimp only;omega)
  dsimp only
  rw [if_neg hne4]
 ·rw [if_neg h]
  have hp:(0:Rat)≤mor l q:=Rat.not_lt.1 h;refine ⟨?_,?_,?_,?_,?_,?_,?_,vQs hp,zD hm,vU _,?_,?_,?_,?_,?_⟩ <;> try (dsimp only;omega)
  dsimp only
  rw [if_neg hne4]
theorem jZ (l:List En) (cs:List Cg) (q:Stg):(eD l cs q).day=q.day:=by
 unfold eD
 split <;> rfl
theorem rE (l:List En) (cs:List Cg) (q:Stg):(eD l cs q).kd=mA cs q:=by
 unfold eD
 split <;> rfl
theorem wD (l:List En) (cs:List Cg) (q:Stg):(eD l cs q).pd=q.pd:=by
 unfold eD
 split <;> rfl
theorem qYp (l:List En) (cs:List Cg) (q:Stg):(eD l cs q).rf=-1:=by
 unfold eD
 split <;> rfl
theorem zW (l:List En) (cs:List Cg) (q:Stg) (ha:1<q.ac):btw (eD l cs q) (lZ cs q)=true:=by
 unfold eD btw
 split
 ·dsimp only
  rw [decide_eq_true rfl,decide_eq_true ha]
  rfl
 ·dsimp only
  rw [decide_eq_true (show lZ cs q=lZ cs q from rfl),decide_eq_true ha,Bool.true_and,Bool.or_true]
theorem gQ {c p a d:Int} (h:dK c p a d=0):0≤p∧p≤4000∧1<a∧a<c∧0≤d∧d≤14609:=by
 unfold dK at h
 split at h
 ·cases h
 ·omega
theorem qYq {c:Int} {l:List En} {cs:List Cg} (h:Ok45 c l cs) {q:Stg} (hk:dK c q.pd q.ac q.day=0):cG cs (eD l cs q) l.length=true:=by
 obtain ⟨p0,p4,a1,a2,d0,d1⟩:=gQ hk;have hL:=h.ac.len;have hb:=zW l cs q a1
 unfold cG
 rw [qYp,rE,wD,decide_eq_true rfl,Bool.true_and]
 by_cases hc:q.pd<cs.length
 ·have e1:mA cs q=3:=if_pos hc
  have e2:lZ cs q=1:=if_pos hc
  have e3:gN cs q.pd≤(l.length:Int):=by
   unfold gN
   rw [if_pos hc];exact (h.clo q.pd.toNat (by omega)).2.2.2.1
  rw [e2] at hb;rw [if_pos e1,hb,decide_eq_true e3]
  rfl
 ·have e1:mA cs q=1:=if_neg hc
  have e2:lZ cs q=0:=if_neg hc
  have e3:¬ gN cs q.pd≤(l.length:Int):=by
   unfold gN
   rw [if_neg hc]
   omega
  rw [e2] at hb;rw [if_neg (by rw [e1];decide),hb,decide_eq_true e1,decide_eq_false e3]
  rfl
theorem Ok45.set {c:Int} {l:List En} {cs:List Cg} (h:Ok45 c l cs) {q:Stg} (hk:dK c q.pd q.ac q.day=0) (hs:stl l cs q.day=false) (hl:l.length<4000) (hm:mor l q≠0):Ok45 c (l++[eD l cs q]) cs:=by
 obtain ⟨s1,s2⟩:=zQ hs;refine ⟨h.ac.snoc hl (wC hk hm) (fun h9=>by rw [jZ];exact s1 h9) (fun h9=>?_),h.c3,h.few,fun k hk2=>?_,fun k hk2=>?_⟩
 ·exfalso
  rw [rE] at h9
  unfold mA at h9
  split at h9 <;> cases h9
 ·have h2:=h.clo k hk2
  unfold dO at h2 ⊢
  obtain ⟨b1,b2,b3,b4,b5,b6,b7⟩:=h2;refine ⟨b1,b2,b3,by rw [gV];omega,b5,fun h3=>?_,fun h3=>?_⟩
  ·rw [pQ (by omega)]
   exact b6 h3
  ·rw [gV] at h3
   by_cases h4:(cg cs k).place<l.length
   ·rw [pQ (by omega)]
    exact b7 h4
   ·rw [show (cg cs k).place.toNat=l.length by omega,sF,jZ]
    exact Int.le_trans (h.last hk2) (s2 (by omega))
 ·rw [gV] at hk2
  rcases Nat.lt_or_ge k l.length with h3|h3
  ·rw [pQ h3]
   exact h.ent k h3
  ·obtain rfl:k=l.length:=by omega
   rw [sF];exact qYq h hk
theorem qXk (l:List En) (cs:List Cg) (q:Stg) (a:Int) (ha:1<a) (hq:1<q.ac):ent (eD l cs q) a=if q.ac=a then mor l q else 0:=by
 have ho:=wE cs q
 have e0:lZ cs q≠a:=by omega
 unfold ent eD
 by_cases h:mor l q<0
 ·simp only [if_pos h]
  rw [if_neg e0,oP]
  split
  ·grind
  ·grind
 ·simp only [if_neg h]
  rw [if_neg e0,oP]
  split
  ·grind
  ·grind
theorem nL (l:List En) (cs:List Cg) (q:Stg) (p a d:Int) (ha:1<a) (hq:1<q.ac):kD (eD l cs q) p a d=if q.pd=p∧q.day≤d∧q.ac=a then mor l q else 0:=by
 unfold kD
 rw [wD,jZ,qXk l cs q a ha hq]
 by_cases h:q.pd=p∧q.day≤d
 ·rw [if_pos h]
  by_cases h2:q.ac=a
  ·rw [if_pos h2,if_pos ⟨h.1,h.2,h2⟩]
  ·rw [if_neg h2,if_neg (fun h9=>h2 h9.2.2)]
 ·rw [if_neg h,if_neg (fun h9=>h ⟨h9.1,h9.2.1⟩)]
theorem wO {c:Int} {l:List En} {cs:List Cg} {q:Stg} (hk:dK c q.pd q.ac q.day=0):knw (l++[eD l cs q]) q.pd q.ac 14609=trq q.am:=by
 obtain ⟨p0,p4,a1,a2,d0,d1⟩:=gQ hk;rw [pG,nL l cs q _ _ _ a1 a1,if_pos ⟨rfl,d1,rfl⟩]
 unfold mor
 grind
end Go.Proofs.YtjkfchehkpmhkaaGreatDoor

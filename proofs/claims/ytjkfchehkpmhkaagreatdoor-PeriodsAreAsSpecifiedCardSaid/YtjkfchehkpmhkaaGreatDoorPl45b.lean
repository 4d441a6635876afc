/- Layer 45: plain words of the periods: what a setting and a c -/
import Derived.Test.YtjkfchehkpmhkaaGreatDoorPl44
import Derived.Test.YtjkfchehkpmhkaaGreatDoorKe
set_option linter.unusedSimpArgs false
set_option linter.unusedVariables false
set_option maxRecDepth 100000
set_option maxHeartbeats 1600000
namespace Go.Proofs.YtjkfchehkpmhkaaGreatDoor
structure Cg where
 day:Int
 place:Int
deriving Inhabited,DecidableEq
def cg (cs:List Cg) (k:Nat):Cg:=cs.getD k ⟨0,0⟩
theorem cg_in {cs:List Cg} {k:Nat} (h:k<cs.length):cg cs k=cs[k]:=by
 unfold cg
 rw [List.getD_eq_getElem?_getD,List.getElem?_eq_getElem h]
 rfl
theorem mO {cs:List Cg} {c:Cg} {k:Nat} (h:k<cs.length):cg (cs++[c]) k=cg cs k:=by
 unfold cg
 rw [List.getD_eq_getElem?_getD,List.getD_eq_getElem?_getD,List.getElem?_append_left h]
theorem sJ {cs:List Cg} {c:Cg}:cg (cs++[c]) cs.length=c:=by
 unfold cg
 rw [List.getD_eq_getElem?_getD,List.getElem?_append_right (Nat.le_refl _),Nat.sub_self]
 rfl
def gI (cs:List Cg) (p:Int):Int:=if p<cs.length then (cg cs p.toNat).place else 4001
def btw (x:En) (o:Int):Bool:=(decide (x.deb=o) && decide (1<x.cre)) || (decide (x.cre=o) && decide (1<x.deb))
def cI (cs:List Cg) (x:En) (k:Nat):Bool :=
 decide (x.rf=-1) && (if x.kd=3 then btw x 1 && decide (gI cs x.pd≤k) else btw x 0 && decide (x.kd=1) && !decide (gI cs x.pd≤k))
def dS (cs:List Cg) (l:List En) (k:Nat):Prop :=
 0≤(cg cs k).day∧(cg cs k).day≤14609∧0≤(cg cs k).place∧(cg cs k).place≤l.length ∧
 (0<k→(cg cs (k-1)).day≤(cg cs k).day∧(cg cs (k-1)).place≤(cg cs k).place) ∧
 (0<(cg cs k).place→(en l ((cg cs k).place.toNat-1)).day≤(cg cs k).day) ∧
 ((cg cs k).place<l.length→(cg cs k).day≤(en l (cg cs k).place.toNat).day)
instance (cs:List Cg) (l:List En) (k:Nat):Decidable (dS cs l k):=by
 unfold dS
 infer_instance
def peE (c:Int) (l:List En) (cs:List Cg):Int :=
 if acE c l≠0 then acE c l
 else if c<3∨4000<cs.length then 1
 else if (∀ k,k<cs.length→dS cs l k)∧(∀ k,k<l.length→cI cs (en l k) k=true) then 0 else 1
structure Ok45 (c:Int) (l:List En) (cs:List Cg):Prop where
 ac:Ok44 c l
 c3:3≤c
 few:cs.length≤4000
 clo:∀ k,k<cs.length→dS cs l k
 ent:∀ k,k<l.length→cI cs (en l k) k=true
theorem peE_ok {c:Int} {l:List En} {cs:List Cg}:peE c l cs=0↔Ok45 c l cs:=by
 unfold peE
 constructor
 ·intro h
  split at h
  ·rename_i h1
   exact absurd h h1
  ·rename_i h1
   split at h
   ·cases h
   ·split at h
    ·rename_i h2 h3
     exact ⟨acE_ok.1 (Decidable.of_not_not h1),by omega,by omega,h3.1,h3.2⟩
    ·cases h
 ·intro h
  rw [if_neg (fun h1=>h1 (acE_ok.2 h.ac)),if_neg (by have:=h.c3;have:=h.few;omega),if_pos ⟨h.clo,h.ent⟩]
def eA (c p a d:Int):Int:=if p<0∨4000<p∨a≤1∨c≤a∨d<0∨14609<d then 3 else 0
def jY (x:En) (p a d:Int):Rat:=if x.pd=p∧x.day≤d then ent x a else 0
def kO (x:En) (p a d:Int):Rat:=if x.pd=p∧x.day≤d∧x.kd≠3 then ent x a else 0
def jV (l:List En) (p a d:Int) (n:Nat):Rat:=sm n fun i=>jY (en l i) p a d
def gW (l:List En) (p a d:Int) (n:Nat):Rat:=sm n fun i=>kO (en l i) p a d
def knw (l:List En) (p a d:Int):Rat:=jV l p a d l.length
def frz (l:List En) (p a d:Int):Rat:=gW l p a d l.length
theorem yT (l:List En) (p a d:Int) (n:Nat):jV l p a d (n+1)=jV l p a d n+jY (en l n) p a d:=rfl
theorem qR (l:List En) (p a d:Int) (n:Nat):gW l p a d (n+1)=gW l p a d n+kO (en l n) p a d:=rfl
def gU (cs:List Cg) (p d:Int):Bool:=decide (p<cs.length) && decide ((cg cs p.toNat).day≤d)
def fK (c:Int) (l:List En) (cs:List Cg) (p a d:Int):Int:=if peE c l cs≠0 then peE c l cs else eA c p a d
def gF (c:Int) (l:List En) (cs:List Cg) (p a d:Int):Rat:=if fK c l cs p a d=0 then knw l p a d else 0
def gG (c:Int) (l:List En) (cs:List Cg) (p a d:Int):Rat:=if fK c l cs p a d=0 then (if gU cs p d=true then frz l p a d else 0) else 0
def mG (c:Int) (l:List En) (cs:List Cg) (p a d:Int):Bool:=if fK c l cs p a d=0 then gU cs p d else false
def stl (l:List En) (cs:List Cg) (d:Int):Bool:=(decide (0<l.length) && decide (d<(en l (l.length-1)).day)) || (decide (0<cs.length) && decide (d<(cg cs (cs.length-1)).day))
structure Stg where
 day:Int
 pd:Int
 ac:Int
 am:Tr
 w1:Int
 w2:Int
 w3:Int
 w4:Int
def mor (l:List En) (q:Stg):Rat:=trq q.am-knw l q.pd q.ac 14609
def cF (c:Int) (l:List En) (cs:List Cg) (q:Stg):Int :=
 if peE c l cs≠0 then peE c l cs
 else if vd q.am.1 q.am.2.1 q.am.2.2=false then 1
 else if eA c q.pd q.ac q.day≠0 then eA c q.pd q.ac q.day
 else if stl l cs q.day=true then 15
 else if l.length=4000 then 2 else 0
def kP (cs:List Cg) (q:Stg):Int:=if q.pd<cs.length then 1 else 0
def kQ (cs:List Cg) (q:Stg):Int:=if q.pd<cs.length then 3 else 1
def dM (l:List En) (cs:List Cg) (q:Stg):En :=
 if mor l q<0 then ⟨q.day,kP cs q,q.ac,tr (-(mor l q)),kQ cs q,q.pd,-1,q.w1,q.w2,q.w3,q.w4⟩
 else ⟨q.day,q.ac,kP cs q,tr (mor l q),kQ cs q,q.pd,-1,q.w1,q.w2,q.w3,q.w4⟩
def cX (c:Int) (l:List En) (cs:List Cg) (q:Stg):List En :=
 if cF c l cs q=0 then (if mor l q=0 then l else l++[dM l cs q]) else []
def cO (c:Int) (l:List En) (cs:List Cg) (d:Int):Int :=
 if peE c l cs≠0 then peE c l cs
 else if d<0∨14609<d then 3
 else if stl l cs d=true then 15
 else if cs.length=4000 then 2 else 0
def eS (c:Int) (l:List En) (cs:List Cg) (d:Int):List Cg:=if cO c l cs d=0 then cs++[⟨d,(l.length:Int)⟩] else []
def kG (x:En) (a f t:Int):Bool:=decide (x.kd=3) && decide (f≤x.day) && decide (x.day≤t) && (decide (x.deb=a) || decide (x.cre=a))
def vQf (l:List En) (a f t:Int) (n:Nat):Rat:=sm n fun i=>if kG (en l i) a f t=true then ent (en l i) a else 0
def qA (l:List En) (a f t:Int):Nat→List Int
 | 0=>[]
 | n+1=>if kG (en l n) a f t=true then qA l a f t n++[(n:Int)] else qA l a f t n
def iZ (c:Int) (l:List En) (cs:List Cg) (a f t:Int):Int :=
 if peE c l cs≠0 then peE c l cs else if eA c 0 a f≠0 then 3 else if t<0∨14609<t then 3 else 0
def gX (c:Int) (l:List En) (cs:List Cg) (a f t:Int):Rat:=if iZ c l cs a f t=0 then vQf l a f t l.length else 0
def nU (c:Int) (l:List En) (cs:List Cg) (a f t:Int):List Int:=if iZ c l cs a f t=0 then qA l a f t l.length else []
def qB (n:Int):Int:=if n<1∨98<n then 3 else 0
def qC (n:Int):Int:=if n<1∨98<n then 0 else n+2
theorem pL {l:List En} {x:En} {k:Nat} (h:k<l.length):en (l++[x]) k=en l k:=by rw [iD,if_pos h]
theorem sG {l:List En} {x:En}:en (l++[x]) l.length=x:=by rw [iD,if_neg (Nat.lt_irrefl _),if_pos rfl]
theorem gT {l:List En} {x:En}:(l++[x]).length=l.length+1:=by rw [List.length_append,List.length_singleton]
theorem oZ (l:List En) (x:En) (p a d:Int):knw (l++[x]) p a d=knw l p a d+jY x p a d:=by
 unfold knw
 rw [gT,yT,sG]
 congr 1
 exact lT fun i hi=>by rw [pL hi]
theorem Ok45.mono {c:Int} {l:List En} {cs:List Cg} (h:Ok45 c l cs) {i:Nat}:∀ {d:Nat},i+d<cs.length→(cg cs i).day≤(cg cs (i+d)).day∧(cg cs i).place≤(cg cs (i+d)).place
 | 0,_=>⟨Int.le_refl _,Int.le_refl _⟩
 | d+1,hd=>by
  have h1:=h.mono (i:=i) (d:=d) (by omega);have h2:=(h.clo (i+(d+1)) hd).2.2.2.2.1 (by omega);rw [show i+(d+1)-1=i+d by omega] at h2;exact ⟨Int.le_trans h1.1 h2.1,Int.le_trans h1.2 h2.2⟩
theorem Ok45.last {c:Int} {l:List En} {cs:List Cg} (h:Ok45 c l cs) {i:Nat} (hi:i<cs.length):(cg cs i).day≤(cg cs (cs.length-1)).day:=by
 have h1:=(h.mono (i:=i) (d:=cs.length-1-i) (by omega)).1
 rwa [show i+(cs.length-1-i)=cs.length-1 by omega] at h1
theorem zY {l:List En} {cs:List Cg} {d:Int} (h:stl l cs d=false):(0<l.length→(en l (l.length-1)).day≤d)∧(0<cs.length→(cg cs (cs.length-1)).day≤d):=by
 unfold stl at h
 rw [Bool.or_eq_false_iff,Bool.and_eq_false_iff,Bool.and_eq_false_iff,decide_eq_false_iff_not,decide_eq_false_iff_not,decide_eq_false_iff_not,decide_eq_false_iff_not] at h
 omega
theorem zF {cs:List Cg} {x:Cg} {p:Int} (hp:0≤p):gI (cs++[x]) p=if p=cs.length then x.place else gI cs p:=by
 unfold gI
 rw [List.length_append,List.length_singleton]
 by_cases h:p=cs.length
 ·rw [if_pos h,if_pos (by omega),h,Int.toNat_natCast,sJ]
 ·rw [if_neg h]
  by_cases h2:p<cs.length
  ·rw [if_pos (by omega),if_pos h2,mO (by omega)]
  ·rw [if_neg (by omega),if_neg h2]
theorem Ok45.close {c:Int} {l:List En} {cs:List Cg} (h:Ok45 c l cs) {d:Int} (hd:0≤d∧d≤14609) (hs:stl l cs d=false) (hn:cs.length<4000):Ok45 c l (cs++[⟨d,(l.length:Int)⟩]):=by
 obtain ⟨s1,s2⟩:=zY hs;have hL:=h.ac.len;refine ⟨h.ac,h.c3,by rw [List.length_append,List.length_singleton];omega,fun k hk=>?_,fun k hk=>?_⟩
 ·rw [List.length_append,List.length_singleton] at hk
  rcases Nat.lt_or_ge k cs.length with h1|h1
  ·have h2:=h.clo k h1
   unfold dS at h2 ⊢
   rw [mO h1,mO (show k-1<cs.length by omega)];exact h2
  ·obtain rfl:k=cs.length:=by omega
   unfold dS
   rw [sJ];refine ⟨hd.1,hd.2,Int.natCast_nonneg l.length,Int.le_refl _,fun h3=>?_,fun h3=>?_,fun h3=>absurd h3 (Int.lt_irrefl _)⟩
   ·rw [mO (show cs.length-1<cs.length by omega)]
    exact ⟨s2 h3,(h.clo (cs.length-1) (by omega)).2.2.2.1⟩
   ·show (en l ((l.length:Int).toNat-1)).day≤d
    rw [Int.toNat_natCast];exact s1 (by have h4:(0:Int)<(l.length:Int):=h3;omega)
 ·have h2:=h.ent k hk
  have hp:=(h.ac.rg hk).p0
  unfold cI at h2 ⊢
  rw [zF hp]
  by_cases h3:(en l k).pd=cs.length
  ·have e1:decide (gI cs (en l k).pd≤(k:Int))=false:=by
    rw [decide_eq_false_iff_not]
    unfold gI
    rw [if_neg (by omega)]
    omega
   have e2:decide ((l.length:Int)≤(k:Int))=false:=by
    rw [decide_eq_false_iff_not]
    omega
   rw [if_pos h3]
   show (decide ((en l k).rf=-1) && if (en l k).kd=3 then btw (en l k) 1 && decide ((l.length:Int)≤(k:Int)) else btw (en l k) 0 && decide ((en l k).kd=1) && !decide ((l.length:Int)≤(k:Int)))=true
   rw [e1] at h2;rw [e2];exact h2
  ·rw [if_neg h3]
   exact h2
theorem vQo {z:Rat} (h:0≤z):rN z=false:=by
 unfold rN
 rw [decide_eq_false_iff_not,Int.not_lt];exact Rat.num_nonneg.2 h
theorem zL {z:Rat} (h:z≠0):zam (tr z)=false:=by
 cases h9:zam (tr z) with
 | false=>rfl
 | true =>
  exfalso
  apply h
  unfold zam at h9
  simp only [Bool.and_eq_true,beq_iff_eq,Bool.not_eq_true'] at h9;obtain ⟨⟨h1,h2⟩,h3⟩:=h9;have h4:z=rq (rN z) (rP z) (rD z):=(eM z).symm;have h1':rN z=false:=h1;have h2':rP z=[]:=h2;have h3':rD z=[]:=h3;rw [h1',h2',h3'] at h4;rw [h4];exact lU
theorem wK (cs:List Cg) (q:Stg):kP cs q=0∨kP cs q=1:=by
 unfold kP
 split
 ·exact .inr rfl
 ·exact .inl rfl
theorem wI {c:Int} {l:List En} {cs:List Cg} {q:Stg} (hk:eA c q.pd q.ac q.day=0) (hm:mor l q≠0):Rg c l.length (dM l cs q):=by
 have ha:¬ (q.pd<0∨4000<q.pd∨q.ac≤1∨c≤q.ac∨q.day<0∨14609<q.day):=fun h9=>by
  unfold eA at hk
  rw [if_pos h9] at hk
  cases hk
 have ho:=wK cs q
 have hK:kQ cs q=1∨kQ cs q=3:=by
  unfold kQ
  split
  ·exact .inr rfl
  ·exact .inl rfl
 have hne4:¬ kQ cs q=4:=by omega
 unfold dM
 by_cases h:mor l q<0
 ·rw [if_pos h]
  have hp:(0:Rat)≤-(mor l q):=by grind
  refine ⟨?_,?_,?_,?_,?_,?_,?_,vQo hp,zL (fun h9=>hm (by grind)),wA _,?_,?_,?_,?_,?_⟩ <;> try (dsimp only;omega)
  dsimp only
  rw [if_neg hne4]
 ·rw [if_neg h]
  have hp:(0:Rat)≤mor l q:=Rat.not_lt.1 h;refine ⟨?_,?_,?_,?_,?_,?_,?_,vQo hp,zL hm,wA _,?_,?_,?_,?_,?_⟩ <;> try (dsimp only;omega)
  dsimp only
  rw [if_neg hne4]
theorem jP (l:List En) (cs:List Cg) (q:Stg):(dM l cs q).day=q.day:=by
 unfold dM
 split <;> rfl
theorem rF (l:List En) (cs:List Cg) (q:Stg):(dM l cs q).kd=kQ cs q:=by
 unfold dM
 split <;> rfl
theorem wJ (l:List En) (cs:List Cg) (q:Stg):(dM l cs q).pd=q.pd:=by
 unfold dM
 split <;> rfl
theorem qYr (l:List En) (cs:List Cg) (q:Stg):(dM l cs q).rf=-1:=by
 unfold dM
 split <;> rfl
theorem qQd (l:List En) (cs:List Cg) (q:Stg) (ha:1<q.ac):btw (dM l cs q) (kP cs q)=true:=by
 unfold dM btw
 split
 ·dsimp only
  rw [decide_eq_true rfl,decide_eq_true ha]
  rfl
 ·dsimp only
  rw [decide_eq_true (show kP cs q=kP cs q from rfl),decide_eq_true ha,Bool.true_and,Bool.or_true]
theorem fS {c p a d:Int} (h:eA c p a d=0):0≤p∧p≤4000∧1<a∧a<c∧0≤d∧d≤14609:=by
 unfold eA at h
 split at h
 ·cases h
 ·omega
theorem qYs {c:Int} {l:List En} {cs:List Cg} (h:Ok45 c l cs) {q:Stg} (hk:eA c q.pd q.ac q.day=0):cI cs (dM l cs q) l.length=true:=by
 obtain ⟨p0,p4,a1,a2,d0,d1⟩:=fS hk;have hL:=h.ac.len;have hb:=qQd l cs q a1
 unfold cI
 rw [qYr,rF,wJ,decide_eq_true rfl,Bool.true_and]
 by_cases hc:q.pd<cs.length
 ·have e1:kQ cs q=3:=if_pos hc
  have e2:kP cs q=1:=if_pos hc
  have e3:gI cs q.pd≤(l.length:Int):=by
   unfold gI
   rw [if_pos hc];exact (h.clo q.pd.toNat (by omega)).2.2.2.1
  rw [e2] at hb;rw [if_pos e1,hb,decide_eq_true e3]
  rfl
 ·have e1:kQ cs q=1:=if_neg hc
  have e2:kP cs q=0:=if_neg hc
  have e3:¬ gI cs q.pd≤(l.length:Int):=by
   unfold gI
   rw [if_neg hc]
   omega
  rw [e2] at hb;rw [if_neg (by rw [e1];decide),hb,decide_eq_true e1,decide_eq_false e3]
  rfl
theorem Ok45.set {c:Int} {l:List En} {cs:List Cg} (h:Ok45 c l cs) {q:Stg} (hk:eA c q.pd q.ac q.day=0) (hs:stl l cs q.day=false) (hl:l.length<4000) (hm:mor l q≠0):Ok45 c (l++[dM l cs q]) cs:=by
 obtain ⟨s1,s2⟩:=zY hs;refine ⟨h.ac.snoc hl (wI hk hm) (fun h9=>by rw [jP];exact s1 h9) (fun h9=>?_),h.c3,h.few,fun k hk2=>?_,fun k hk2=>?_⟩
 ·exfalso
  rw [rF] at h9
  unfold kQ at h9
  split at h9 <;> cases h9
 ·have h2:=h.clo k hk2
  unfold dS at h2 ⊢
  obtain ⟨b1,b2,b3,b4,b5,b6,b7⟩:=h2;refine ⟨b1,b2,b3,by rw [gT];omega,b5,fun h3=>?_,fun h3=>?_⟩
  ·rw [pL (by omega)]
   exact b6 h3
  ·rw [gT] at h3
   by_cases h4:(cg cs k).place<l.length
   ·rw [pL (by omega)]
    exact b7 h4
   ·rw [show (cg cs k).place.toNat=l.length by omega,sG,jP]
    exact Int.le_trans (h.last hk2) (s2 (by omega))
 ·rw [gT] at hk2
  rcases Nat.lt_or_ge k l.length with h3|h3
  ·rw [pL h3]
   exact h.ent k h3
  ·obtain rfl:k=l.length:=by omega
   rw [sG];exact qYs h hk
theorem qXm (l:List En) (cs:List Cg) (q:Stg) (a:Int) (ha:1<a) (hq:1<q.ac):ent (dM l cs q) a=if q.ac=a then mor l q else 0:=by
 have ho:=wK cs q
 have e0:kP cs q≠a:=by omega
 unfold ent dM
 by_cases h:mor l q<0
 ·simp only [if_pos h]
  rw [if_neg e0,oH]
  split
  ·grind
  ·grind
 ·simp only [if_neg h]
  rw [if_neg e0,oH]
  split
  ·grind
  ·grind
theorem nE (l:List En) (cs:List Cg) (q:Stg) (p a d:Int) (ha:1<a) (hq:1<q.ac):jY (dM l cs q) p a d=if q.pd=p∧q.day≤d∧q.ac=a then mor l q else 0:=by
 unfold jY
 rw [wJ,jP,qXm l cs q a ha hq]
 by_cases h:q.pd=p∧q.day≤d
 ·rw [if_pos h]
  by_cases h2:q.ac=a
  ·rw [if_pos h2,if_pos ⟨h.1,h.2,h2⟩]
  ·rw [if_neg h2,if_neg (fun h9=>h2 h9.2.2)]
 ·rw [if_neg h,if_neg (fun h9=>h ⟨h9.1,h9.2.1⟩)]
theorem wU {c:Int} {l:List En} {cs:List Cg} {q:Stg} (hk:eA c q.pd q.ac q.day=0):knw (l++[dM l cs q]) q.pd q.ac 14609=trq q.am:=by
 obtain ⟨p0,p4,a1,a2,d0,d1⟩:=fS hk;rw [oZ,nE l cs q _ _ _ a1 a1,if_pos ⟨rfl,d1,rfl⟩]
 unfold mor
 grind
end Go.Proofs.YtjkfchehkpmhkaaGreatDoor

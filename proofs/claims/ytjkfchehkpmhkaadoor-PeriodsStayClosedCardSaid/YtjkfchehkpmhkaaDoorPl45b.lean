/- Layer 45: plain words of the periods: what a setting and a c -/
import Derived.Test.YtjkfchehkpmhkaaDoorPl44e
set_option linter.unusedSimpArgs false
set_option linter.unusedVariables false
set_option maxRecDepth 100000
set_option maxHeartbeats 1600000
namespace Go.Proofs.YtjkfchehkpmhkaaDoor
structure Cg where
 day:Int
 place:Int
deriving Inhabited,DecidableEq
def cg (cs:List Cg) (k:Nat):Cg:=cs.getD k ⟨0,0⟩
theorem cg_in {cs:List Cg} {k:Nat} (h:k<cs.length):cg cs k=cs[k]:=by
 unfold cg
 rw [List.getD_eq_getElem?_getD,List.getElem?_eq_getElem h]
 rfl
theorem lA {cs:List Cg} {c:Cg} {k:Nat} (h:k<cs.length):cg (cs++[c]) k=cg cs k:=by
 unfold cg
 rw [List.getD_eq_getElem?_getD,List.getD_eq_getElem?_getD,List.getElem?_append_left h]
theorem oW {cs:List Cg} {c:Cg}:cg (cs++[c]) cs.length=c:=by
 unfold cg
 rw [List.getD_eq_getElem?_getD,List.getElem?_append_right (Nat.le_refl _),Nat.sub_self]
 rfl
def gU (cs:List Cg) (p:Int):Int:=if p<cs.length then (cg cs p.toNat).place else 4001
def btw (x:En) (o:Int):Bool:=(decide (x.deb=o) && decide (1<x.cre)) || (decide (x.cre=o) && decide (1<x.deb))
def cN (cs:List Cg) (x:En) (k:Nat):Bool :=
 decide (x.rf=-1) && (if x.kd=3 then btw x 1 && decide (gU cs x.pd≤k) else btw x 0 && decide (x.kd=1) && !decide (gU cs x.pd≤k))
def gT (cs:List Cg) (l:List En) (k:Nat):Prop :=
 0≤(cg cs k).day∧(cg cs k).day≤14609∧0≤(cg cs k).place∧(cg cs k).place≤l.length ∧
 (0<k→(cg cs (k-1)).day≤(cg cs k).day∧(cg cs (k-1)).place≤(cg cs k).place) ∧
 (0<(cg cs k).place→(en l ((cg cs k).place.toNat-1)).day≤(cg cs k).day) ∧
 ((cg cs k).place<l.length→(cg cs k).day≤(en l (cg cs k).place.toNat).day)
instance (cs:List Cg) (l:List En) (k:Nat):Decidable (gT cs l k):=by
 unfold gT
 infer_instance
def peE (c:Int) (l:List En) (cs:List Cg):Int :=
 if acE c l≠0 then acE c l
 else if c<3∨4000<cs.length then 1
 else if (∀ k,k<cs.length→gT cs l k)∧(∀ k,k<l.length→cN cs (en l k) k=true) then 0 else 1
structure Ok45 (c:Int) (l:List En) (cs:List Cg):Prop where
 ac:Ok44 c l
 c3:3≤c
 few:cs.length≤4000
 clo:∀ k,k<cs.length→gT cs l k
 ent:∀ k,k<l.length→cN cs (en l k) k=true
theorem peE_ok {c:Int} {l:List En} {cs:List Cg}:peE c l cs=0↔Ok45 c l cs:=by
 unfold peE
 constructor
 ·intro h
  split at h
  ·rename_i h1
   exact absurd h h1
  ·rename_i h1
   split at h
   ·cases h
   ·split at h
    ·rename_i h2 h3
     exact ⟨acE_ok.1 (Decidable.of_not_not h1),by omega,by omega,h3.1,h3.2⟩
    ·cases h
 ·intro h
  rw [if_neg (fun h1=>h1 (acE_ok.2 h.ac)),if_neg (by have:=h.c3;have:=h.few;omega),if_pos ⟨h.clo,h.ent⟩]
def cY (c p a d:Int):Int:=if p<0∨4000<p∨a≤1∨c≤a∨d<0∨14609<d then 3 else 0
def kD (x:En) (p a d:Int):Rat:=if x.pd=p∧x.day≤d then ent x a else 0
def jQ (x:En) (p a d:Int):Rat:=if x.pd=p∧x.day≤d∧x.kd≠3 then ent x a else 0
def wL (l:List En) (p a d:Int) (n:Nat):Rat:=sm n fun i=>kD (en l i) p a d
def qXz (l:List En) (p a d:Int) (n:Nat):Rat:=sm n fun i=>jQ (en l i) p a d
def knw (l:List En) (p a d:Int):Rat:=wL l p a d l.length
def frz (l:List En) (p a d:Int):Rat:=qXz l p a d l.length
theorem qQb (l:List En) (p a d:Int) (n:Nat):wL l p a d (n+1)=wL l p a d n+kD (en l n) p a d:=rfl
theorem qQf (l:List En) (p a d:Int) (n:Nat):qXz l p a d (n+1)=qXz l p a d n+jQ (en l n) p a d:=rfl
def eM (cs:List Cg) (p d:Int):Bool:=decide (p<cs.length) && decide ((cg cs p.toNat).day≤d)
def fA (c:Int) (l:List En) (cs:List Cg) (p a d:Int):Int:=if peE c l cs≠0 then peE c l cs else cY c p a d
def dY (c:Int) (l:List En) (cs:List Cg) (p a d:Int):Rat:=if fA c l cs p a d=0 then knw l p a d else 0
def dR (c:Int) (l:List En) (cs:List Cg) (p a d:Int):Rat:=if fA c l cs p a d=0 then (if eM cs p d=true then frz l p a d else 0) else 0
def eN (c:Int) (l:List En) (cs:List Cg) (p a d:Int):Bool:=if fA c l cs p a d=0 then eM cs p d else false
def stl (l:List En) (cs:List Cg) (d:Int):Bool:=(decide (0<l.length) && decide (d<(en l (l.length-1)).day)) || (decide (0<cs.length) && decide (d<(cg cs (cs.length-1)).day))
structure Stg where
 day:Int
 pd:Int
 ac:Int
 am:Tr
 w1:Int
 w2:Int
 w3:Int
 w4:Int
def mor (l:List En) (q:Stg):Rat:=trq q.am-knw l q.pd q.ac 14609
def bN (c:Int) (l:List En) (cs:List Cg) (q:Stg):Int :=
 if peE c l cs≠0 then peE c l cs
 else if vd q.am.1 q.am.2.1 q.am.2.2=false then 1
 else if cY c q.pd q.ac q.day≠0 then cY c q.pd q.ac q.day
 else if stl l cs q.day=true then 15
 else if l.length=4000 then 2 else 0
def lX (cs:List Cg) (q:Stg):Int:=if q.pd<cs.length then 1 else 0
def iC (cs:List Cg) (q:Stg):Int:=if q.pd<cs.length then 3 else 1
def dE (l:List En) (cs:List Cg) (q:Stg):En :=
 if mor l q<0 then ⟨q.day,lX cs q,q.ac,tr (-(mor l q)),iC cs q,q.pd,-1,q.w1,q.w2,q.w3,q.w4⟩
 else ⟨q.day,q.ac,lX cs q,tr (mor l q),iC cs q,q.pd,-1,q.w1,q.w2,q.w3,q.w4⟩
def bT (c:Int) (l:List En) (cs:List Cg) (q:Stg):List En :=
 if bN c l cs q=0 then (if mor l q=0 then l else l++[dE l cs q]) else []
def cQ (c:Int) (l:List En) (cs:List Cg) (d:Int):Int :=
 if peE c l cs≠0 then peE c l cs
 else if d<0∨14609<d then 3
 else if stl l cs d=true then 15
 else if cs.length=4000 then 2 else 0
def dL (c:Int) (l:List En) (cs:List Cg) (d:Int):List Cg:=if cQ c l cs d=0 then cs++[⟨d,(l.length:Int)⟩] else []
def fU (x:En) (a f t:Int):Bool:=decide (x.kd=3) && decide (f≤x.day) && decide (x.day≤t) && (decide (x.deb=a) || decide (x.cre=a))
def mZ (l:List En) (a f t:Int) (n:Nat):Rat:=sm n fun i=>if fU (en l i) a f t=true then ent (en l i) a else 0
def qY (l:List En) (a f t:Int):Nat→List Int
 | 0=>[]
 | n+1=>if fU (en l n) a f t=true then qY l a f t n++[(n:Int)] else qY l a f t n
def gG (c:Int) (l:List En) (cs:List Cg) (a f t:Int):Int :=
 if peE c l cs≠0 then peE c l cs else if cY c 0 a f≠0 then 3 else if t<0∨14609<t then 3 else 0
def gH (c:Int) (l:List En) (cs:List Cg) (a f t:Int):Rat:=if gG c l cs a f t=0 then mZ l a f t l.length else 0
def nA (c:Int) (l:List En) (cs:List Cg) (a f t:Int):List Int:=if gG c l cs a f t=0 then qY l a f t l.length else []
def oI (n:Int):Int:=if n<1∨98<n then 3 else 0
def jD (n:Int):Int:=if n<1∨98<n then 0 else n+2
theorem kL {l:List En} {x:En} {k:Nat} (h:k<l.length):en (l++[x]) k=en l k:=by rw [jH,if_pos h]
theorem kK {l:List En} {x:En}:en (l++[x]) l.length=x:=by rw [jH,if_neg (Nat.lt_irrefl _),if_pos rfl]
theorem eX {l:List En} {x:En}:(l++[x]).length=l.length+1:=by rw [List.length_append,List.length_singleton]
theorem kB (l:List En) (x:En) (p a d:Int):knw (l++[x]) p a d=knw l p a d+kD x p a d:=by
 unfold knw
 rw [eX,qQb,kK]
 congr 1
 exact cL fun i hi=>by rw [kL hi]
theorem qG (l:List En) (x:En) (p a d:Int):frz (l++[x]) p a d=frz l p a d+jQ x p a d:=by
 unfold frz
 rw [eX,qQf,kK]
 congr 1
 exact cL fun i hi=>by rw [kL hi]
theorem Ok45.mono {c:Int} {l:List En} {cs:List Cg} (h:Ok45 c l cs) {i:Nat}:∀ {d:Nat},i+d<cs.length→(cg cs i).day≤(cg cs (i+d)).day∧(cg cs i).place≤(cg cs (i+d)).place
 | 0,_=>⟨Int.le_refl _,Int.le_refl _⟩
 | d+1,hd=>by
  have h1:=h.mono (i:=i) (d:=d) (by omega);have h2:=(h.clo (i+(d+1)) hd).2.2.2.2.1 (by omega);rw [show i+(d+1)-1=i+d by omega] at h2;exact ⟨Int.le_trans h1.1 h2.1,Int.le_trans h1.2 h2.2⟩
theorem Ok45.last {c:Int} {l:List En} {cs:List Cg} (h:Ok45 c l cs) {i:Nat} (hi:i<cs.length):(cg cs i).day≤(cg cs (cs.length-1)).day:=by
 have h1:=(h.mono (i:=i) (d:=cs.length-1-i) (by omega)).1
 rwa [show i+(cs.length-1-i)=cs.length-1 by omega] at h1
theorem qVe {l:List En} {cs:List Cg} {d:Int} (h:stl l cs d=false):(0<l.length→(en l (l.length-1)).day≤d)∧(0<cs.length→(cg cs (cs.length-1)).day≤d):=by
 unfold stl at h
 rw [Bool.or_eq_false_iff,Bool.and_eq_false_iff,Bool.and_eq_false_iff,decide_eq_false_iff_not,decide_eq_false_iff_not,decide_eq_false_iff_not,decide_eq_false_iff_not] at h
 omega
theorem qQs {cs:List Cg} {x:Cg} {p:Int} (hp:0≤p):gU (cs++[x]) p=if p=cs.length then x.place else gU cs p:=by
 unfold gU
 rw [List.length_append,List.length_singleton]
 by_cases h:p=cs.length
 ·rw [if_pos h,if_pos (by omega),h,Int.toNat_natCast,oW]
 ·rw [if_neg h]
  by_cases h2:p<cs.length
  ·rw [if_pos (by omega),if_pos h2,lA (by omega)]
  ·rw [if_neg (by omega),if_neg h2]
theorem Ok45.close {c:Int} {l:List En} {cs:List Cg} (h:Ok45 c l cs) {d:Int} (hd:0≤d∧d≤14609) (hs:stl l cs d=false) (hn:cs.length<4000):Ok45 c l (cs++[⟨d,(l.length:Int)⟩]):=by
 obtain ⟨s1,s2⟩:=qVe hs;have hL:=h.ac.len;refine ⟨h.ac,h.c3,by rw [List.length_append,List.length_singleton];omega,fun k hk=>?_,fun k hk=>?_⟩
 ·rw [List.length_append,List.length_singleton] at hk
  rcases Nat.lt_or_ge k cs.length with h1|h1
  ·have h2:=h.clo k h1
   unfold gT at h2 ⊢
   rw [lA h1,lA (show k-1<cs.length by omega)];exact h2
  ·obtain rfl:k=cs.length:=by omega
   unfold gT
   rw [oW];refine ⟨hd.1,hd.2,Int.natCast_nonneg l.length,Int.le_refl _,fun h3=>?_,fun h3=>?_,fun h3=>absurd h3 (Int.lt_irrefl _)⟩
   ·rw [lA (show cs.length-1<cs.length by omega)]
    exact ⟨s2 h3,(h.clo (cs.length-1) (by omega)).2.2.2.1⟩
   ·show (en l ((l.length:Int).toNat-1)).day≤d
    rw [Int.toNat_natCast];exact s1 (by have h4:(0:Int)<(l.length:Int):=h3;omega)
 ·have h2:=h.ent k hk
  have hp:=(h.ac.rg hk).p0
  unfold cN at h2 ⊢
  rw [qQs hp]
  by_cases h3:(en l k).pd=cs.length
  ·have e1:decide (gU cs (en l k).pd≤(k:Int))=false:=by
    rw [decide_eq_false_iff_not]
    unfold gU
    rw [if_neg (by omega)]
    omega
   have e2:decide ((l.length:Int)≤(k:Int))=false:=by
    rw [decide_eq_false_iff_not]
    omega
   rw [if_pos h3]
   show (decide ((en l k).rf=-1) && if (en l k).kd=3 then btw (en l k) 1 && decide ((l.length:Int)≤(k:Int)) else btw (en l k) 0 && decide ((en l k).kd=1) && !decide ((l.length:Int)≤(k:Int)))=true
   rw [e1] at h2;rw [e2];exact h2
  ·rw [if_neg h3]
   exact h2
theorem vXe {z:Rat} (h:0≤z):rN z=false:=by
 unfold rN
 rw [decide_eq_false_iff_not,Int.not_lt];exact Rat.num_nonneg.2 h
theorem qQy {z:Rat} (h:z≠0):zam (tr z)=false:=by
 cases h9:zam (tr z) with
 | false=>rfl
 | true =>
  exfalso
  apply h
  unfold zam at h9
  simp only [Bool.and_eq_true,beq_iff_eq,Bool.not_eq_true'] at h9;obtain ⟨⟨h1,h2⟩,h3⟩:=h9;have h4:z=rq (rN z) (rP z) (rD z):=(cH z).symm;have h1':rN z=false:=h1;have h2':rP z=[]:=h2;have h3':rD z=[]:=h3;rw [h1',h2',h3'] at h4;rw [h4];exact kP
theorem sF (cs:List Cg) (q:Stg):lX cs q=0∨lX cs q=1:=by
 unfold lX
 split
 ·exact .inr rfl
 ·exact .inl rfl
theorem xN {c:Int} {l:List En} {cs:List Cg} {q:Stg} (hk:cY c q.pd q.ac q.day=0) (hm:mor l q≠0):Rg c l.length (dE l cs q):=by
 have ha:¬ (q.pd<0∨4000<q.pd∨q.ac≤1∨c≤q.ac∨q.day<0∨14609<q.day):=fun h9=>by
  unfold cY at hk
  rw [if_pos h9] at hk
  cases hk
 have ho:=sF cs q
 have hK:iC cs q=1∨iC cs q=3:=by
  unfold iC
  split
  ·exact .inr rfl
  ·exact .inl rfl
 have hne4:¬ iC cs q=4:=by omega
 unfold dE
 by_cases h:mor l q<0
 ·rw [if_pos h]
  have hp:(0:Rat)≤-(mor l q):=by grind
  refine ⟨?_,?_,?_,?_,?_,?_,?_,vXe hp,qQy (fun h9=>hm (by grind)),xE _,?_,?_,?_,?_,?_⟩ <;> try (dsimp only;omega)
  dsimp only
  rw [if_neg hne4]
 ·rw [if_neg h]
  have hp:(0:Rat)≤mor l q:=Rat.not_lt.1 h;refine ⟨?_,?_,?_,?_,?_,?_,?_,vXe hp,qQy hm,xE _,?_,?_,?_,?_,?_⟩ <;> try (dsimp only;omega)
  dsimp only
  rw [if_neg hne4]
theorem iM (l:List En) (cs:List Cg) (q:Stg):(dE l cs q).day=q.day:=by
 unfold dE
 split <;> rfl
theorem oP (l:List En) (cs:List Cg) (q:Stg):(dE l cs q).kd=iC cs q:=by
 unfold dE
 split <;> rfl
theorem lW (l:List En) (cs:List Cg) (q:Stg):(dE l cs q).pd=q.pd:=by
 unfold dE
 split <;> rfl
theorem qZz (l:List En) (cs:List Cg) (q:Stg):(dE l cs q).rf=-1:=by
 unfold dE
 split <;> rfl
theorem qVm (l:List En) (cs:List Cg) (q:Stg) (ha:1<q.ac):btw (dE l cs q) (lX cs q)=true:=by
 unfold dE btw
 split
 ·dsimp only
  rw [decide_eq_true rfl,decide_eq_true ha]
  rfl
 ·dsimp only
  rw [decide_eq_true (show lX cs q=lX cs q from rfl),decide_eq_true ha,Bool.true_and,Bool.or_true]
theorem cK {c p a d:Int} (h:cY c p a d=0):0≤p∧p≤4000∧1<a∧a<c∧0≤d∧d≤14609:=by
 unfold cY at h
 split at h
 ·cases h
 ·omega
theorem vQa {c:Int} {l:List En} {cs:List Cg} (h:Ok45 c l cs) {q:Stg} (hk:cY c q.pd q.ac q.day=0):cN cs (dE l cs q) l.length=true:=by
 obtain ⟨p0,p4,a1,a2,d0,d1⟩:=cK hk;have hL:=h.ac.len;have hb:=qVm l cs q a1
 unfold cN
 rw [qZz,oP,lW,decide_eq_true rfl,Bool.true_and]
 by_cases hc:q.pd<cs.length
 ·have e1:iC cs q=3:=if_pos hc
  have e2:lX cs q=1:=if_pos hc
  have e3:gU cs q.pd≤(l.length:Int):=by
   unfold gU
   rw [if_pos hc];exact (h.clo q.pd.toNat (by omega)).2.2.2.1
  rw [e2] at hb;rw [if_pos e1,hb,decide_eq_true e3]
  rfl
 ·have e1:iC cs q=1:=if_neg hc
  have e2:lX cs q=0:=if_neg hc
  have e3:¬ gU cs q.pd≤(l.length:Int):=by
   unfold gU
   rw [if_neg hc]
   omega
  rw [e2] at hb;rw [if_neg (by rw [e1];decide),hb,decide_eq_true e1,decide_eq_false e3]
  rfl
theorem Ok45.set {c:Int} {l:List En} {cs:List Cg} (h:Ok45 c l cs) {q:Stg} (hk:cY c q.pd q.ac q.day=0) (hs:stl l cs q.day=false) (hl:l.length<4000) (hm:mor l q≠0):Ok45 c (l++[dE l cs q]) cs:=by
 obtain ⟨s1,s2⟩:=qVe hs;refine ⟨h.ac.snoc hl (xN hk hm) (fun h9=>by rw [iM];exact s1 h9) (fun h9=>?_),h.c3,h.few,fun k hk2=>?_,fun k hk2=>?_⟩
 ·exfalso
  rw [oP] at h9
  unfold iC at h9
  split at h9 <;> cases h9
 ·have h2:=h.clo k hk2
  unfold gT at h2 ⊢
  obtain ⟨b1,b2,b3,b4,b5,b6,b7⟩:=h2;refine ⟨b1,b2,b3,by rw [eX];omega,b5,fun h3=>?_,fun h3=>?_⟩
  ·rw [kL (by omega)]
   exact b6 h3
  ·rw [eX] at h3
   by_cases h4:(cg cs k).place<l.length
   ·rw [kL (by omega)]
    exact b7 h4
   ·rw [show (cg cs k).place.toNat=l.length by omega,kK,iM]
    exact Int.le_trans (h.last hk2) (s2 (by omega))
 ·rw [eX] at hk2
  rcases Nat.lt_or_ge k l.length with h3|h3
  ·rw [kL h3]
   exact h.ent k h3
  ·obtain rfl:k=l.length:=by omega
   rw [kK];exact vQa h hk
theorem vC (l:List En) (cs:List Cg) (q:Stg) (a:Int) (ha:1<a) (hq:1<q.ac):ent (dE l cs q) a=if q.ac=a then mor l q else 0:=by
 have ho:=sF cs q
 have e0:lX cs q≠a:=by omega
 unfold ent dE
 by_cases h:mor l q<0
 ·simp only [if_pos h]
  rw [if_neg e0,rW]
  split
  ·grind
  ·grind
 ·simp only [if_neg h]
  rw [if_neg e0,rW]
  split
  ·grind
  ·grind
theorem iR (l:List En) (cs:List Cg) (q:Stg) (p a d:Int) (ha:1<a) (hq:1<q.ac):kD (dE l cs q) p a d=if q.pd=p∧q.day≤d∧q.ac=a then mor l q else 0:=by
 unfold kD
 rw [lW,iM,vC l cs q a ha hq]
 by_cases h:q.pd=p∧q.day≤d
 ·rw [if_pos h]
  by_cases h2:q.ac=a
  ·rw [if_pos h2,if_pos ⟨h.1,h.2,h2⟩]
  ·rw [if_neg h2,if_neg (fun h9=>h2 h9.2.2)]
 ·rw [if_neg h,if_neg (fun h9=>h ⟨h9.1,h9.2.1⟩)]
theorem nD (l:List En) (cs:List Cg) (q:Stg) (p a d:Int) (ha:1<a) (hq:1<q.ac):jQ (dE l cs q) p a d=if q.pd=p∧q.day≤d∧q.ac=a∧¬ q.pd<cs.length then mor l q else 0:=by
 unfold jQ
 rw [lW,iM,oP,vC l cs q a ha hq]
 have hK:iC cs q≠3↔¬ q.pd<cs.length:=by
  unfold iC
  split
  ·rename_i h
   exact ⟨fun h9=>absurd rfl h9,fun h9=>absurd h h9⟩
  ·rename_i h
   exact ⟨fun _=>h,fun _=>by decide⟩
 by_cases h:q.pd=p∧q.day≤d∧iC cs q≠3
 ·rw [if_pos h]
  by_cases h2:q.ac=a
  ·rw [if_pos h2,if_pos ⟨h.1,h.2.1,h2,hK.1 h.2.2⟩]
  ·rw [if_neg h2,if_neg (fun h9=>h2 h9.2.2.1)]
 ·rw [if_neg h,if_neg (fun h9=>h ⟨h9.1,h9.2.1,hK.2 h9.2.2.2⟩)]
theorem sV {c:Int} {l:List En} {cs:List Cg} {q:Stg} (hk:cY c q.pd q.ac q.day=0):knw (l++[dE l cs q]) q.pd q.ac 14609=trq q.am:=by
 obtain ⟨p0,p4,a1,a2,d0,d1⟩:=cK hk;rw [kB,iR l cs q _ _ _ a1 a1,if_pos ⟨rfl,d1,rfl⟩]
 unfold mor
 grind
end Go.Proofs.YtjkfchehkpmhkaaDoor

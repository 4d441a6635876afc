/- Layer 45: plain words for the reference of the periods. -/
import Derived.Test.YtjkfchehkpmhkaaGreatDoorPl45d
set_option linter.unusedSimpArgs false
set_option linter.unusedVariables false
set_option maxRecDepth 100000
set_option maxHeartbeats 1600000
namespace Go.Proofs.YtjkfchehkpmhkaaGreatDoor
structure Sz45 (l:List En):Prop where
 sz:∀ k,tz (en l k).am.2.1 (en l k).am.2.2 420
 fw:l.length≤900∨4000<l.length
theorem Sz45.ln {l:List En} (h:Sz45 l) (h4:l.length≤4000):l.length≤900:=by
 rcases h.fw with h1|h1
 ·exact h1
 ·omega
def mtc (x:En) (a:Int):Bool:=decide (x.deb=a) || decide (x.cre=a)
theorem vQv {x:En} {a:Int} (h:x.deb=a∨x.cre=a):mtc x a=true:=by
 unfold mtc
 rcases h with h|h
 ·rw [decide_eq_true h]
  rfl
 ·rw [decide_eq_true h,Bool.or_true]
theorem mtc_f {x:En} {a:Int} (h1:x.deb≠a) (h2:x.cre≠a):mtc x a=false:=by
 unfold mtc
 rw [decide_eq_false h1,decide_eq_false h2]
 rfl
theorem rQ {x:En} {a:Int} (h:mtc x a=false):ent x a=0:=by
 unfold mtc at h
 rw [Bool.or_eq_false_iff,decide_eq_false_iff_not,decide_eq_false_iff_not] at h;exact ent_0 h.1 h.2
def ixN (l:List En) (a:Int):Nat→List Nat
 | 0=>[]
 | n+1=>if mtc (en l n) a=true then ixN l a n++[n] else ixN l a n
theorem pB {l:List En} {a:Int} {n:Nat} (h:mtc (en l n) a=true):ixN l a (n+1)=ixN l a n++[n]:=if_pos h
theorem wY {l:List En} {a:Int} {n:Nat} (h:mtc (en l n) a=false):ixN l a (n+1)=ixN l a n:=if_neg (by rw [h];decide)
def ixA (l:List En) (a:Int):List Nat:=ixN l a l.length
def ix (l:List En) (a:Int) (j:Nat):Nat:=(ixA l a).getD j 0
theorem wX (l:List En) (a:Int):∀ n,(ixN l a n).length≤n
 | 0=>Nat.le_refl 0
 | n+1=>by
  have h:=wX l a n
  unfold ixN
  split
  ·rw [List.length_append,List.length_singleton]
   omega
  ·omega
theorem wW (l:List En) (a:Int) (n:Nat):∀ d,∃ t,ixN l a (n+d)=ixN l a n++t
 | 0=>⟨[],by simp⟩
 | d+1=>by
  obtain ⟨t,ht⟩:=wW l a n d;rw [show n+(d+1)=n+d+1 by omega]
  by_cases h:mtc (en l (n+d)) a=true
  ·exact ⟨t++[n+d],by rw [pB h,ht,List.append_assoc]⟩
  ·exact ⟨t,by rw [wY (by simpa using h),ht]⟩
theorem ix_of {l:List En} {a:Int} {n j:Nat} (hn:n≤l.length) (hj:j<(ixN l a n).length):ix l a j=(ixN l a n).getD j 0∧j<(ixA l a).length:=by
 obtain ⟨t,ht⟩:=wW l a n (l.length-n);rw [show n+(l.length-n)=l.length by omega] at ht
 unfold ix ixA
 rw [ht];refine ⟨?_,by rw [List.length_append];omega⟩;rw [List.getD_eq_getElem?_getD,List.getD_eq_getElem?_getD,List.getElem?_append_left hj]
theorem qVs {l:List En} {a:Int} {n:Nat} (hn:n<l.length) (h:mtc (en l n) a=true):ix l a (ixN l a n).length=n∧(ixN l a n).length<(ixA l a).length:=by
 have hj:(ixN l a n).length<(ixN l a (n+1)).length:=by
  rw [pB h,List.length_append,List.length_singleton]
  omega
 obtain ⟨h1,h2⟩:=ix_of (l:=l) (a:=a) (n:=n+1) (by omega) hj;refine ⟨?_,h2⟩;rw [h1,pB h,List.getD_eq_getElem?_getD,List.getElem?_append_right (Nat.le_refl _),Nat.sub_self]
 rfl
theorem qZt {l:List En} {a:Int} {n k:Nat}:k∈ixN l a n→k<n∧mtc (en l k) a=true:=by
 induction n with
 | zero=>exact fun h=>by cases h
 | succ n ih =>
  intro h
  unfold ixN at h
  split at h
  ·rename_i h1
   rcases List.mem_append.1 h with h2|h2
   ·exact ⟨by have:=(ih h2).1;omega,(ih h2).2⟩
   ·rw [List.mem_singleton] at h2
    subst h2;exact ⟨by omega,h1⟩
  ·exact ⟨by have:=(ih h).1;omega,(ih h).2⟩
theorem ix_in {l:List En} {a:Int} {j:Nat} (hj:j<(ixA l a).length):ix l a j<l.length∧mtc (en l (ix l a j)) a=true:=by
 have h:ix l a j∈ixA l a:=by
  unfold ix
  rw [List.getD_eq_getElem?_getD,List.getElem?_eq_getElem hj];exact List.getElem_mem hj
 exact qZt h
theorem qQa (l:List En) (a:Int) (f:Nat→Rat):∀ n,sm (ixN l a n).length (fun i=>f ((ixN l a n).getD i 0))=sm n fun k=>if mtc (en l k) a=true then f k else 0
 | 0=>rfl
 | n+1=>by
  rw [lS,← qQa l a f n]
  by_cases h:mtc (en l n) a=true
  ·rw [if_pos h,pB h,List.length_append,List.length_singleton,lS]
   congr 1
   ·refine lT fun i hi=>?_
    rw [List.getD_eq_getElem?_getD,List.getD_eq_getElem?_getD,List.getElem?_append_left hi]
   ·rw [List.getD_eq_getElem?_getD,List.getElem?_append_right (Nat.le_refl _),Nat.sub_self]
    rfl
  ·rw [if_neg h,wY (by simpa using h),Rat.add_zero]
theorem qQb (l:List En) (a:Int) (f:Nat→Rat) (hf:∀ k,k<l.length→mtc (en l k) a=false→f k=0):sm (ixA l a).length (fun i=>f (ix l a i))=sm l.length f:=by
 have h:=qQa l a f l.length;refine Eq.trans h (lT fun k hk=>?_)
 by_cases h1:mtc (en l k) a=true
 ·rw [if_pos h1]
 ·rw [if_neg h1,hf k hk (by simpa using h1)]
def kS (l:List En) (p a d:Int) (j:Nat):Rat:=sm j fun i=>jY (en l (ix l a i)) p a d
def zS (l:List En) (p a d:Int) (j:Nat):Rat:=sm j fun i=>kO (en l (ix l a i)) p a d
theorem qZs (l:List En) (p a d:Int) (j:Nat):kS l p a d (j+1)=kS l p a d j+jY (en l (ix l a j)) p a d:=rfl
theorem qYf (l:List En) (p a d:Int) (j:Nat):zS l p a d (j+1)=zS l p a d j+kO (en l (ix l a j)) p a d:=rfl
theorem vYh (l:List En) (p a d:Int):kS l p a d (ixA l a).length=knw l p a d :=
 qQb l a (fun i=>jY (en l i) p a d) fun k _ h=>by
  unfold jY
  rw [rQ h]
  split <;> rfl
theorem vVg (l:List En) (p a d:Int):zS l p a d (ixA l a).length=frz l p a d :=
 qQb l a (fun i=>kO (en l i) p a d) fun k _ h=>by
  unfold kO
  rw [rQ h]
  split <;> rfl
def cS (l:List En) (a f t:Int) (j:Nat):Rat:=sm j fun i=>if kG (en l (ix l a i)) a f t=true then ent (en l (ix l a i)) a else 0
theorem vQh (l:List En) (a f t:Int) (j:Nat):cS l a f t (j+1)=cS l a f t j+if kG (en l (ix l a j)) a f t=true then ent (en l (ix l a j)) a else 0:=rfl
theorem vZh (l:List En) (a f t:Int):cS l a f t (ixA l a).length=vQf l a f t l.length :=
 qQb l a (fun i=>if kG (en l i) a f t=true then ent (en l i) a else 0) fun k _ h=>by
  rw [rQ h]
  split <;> rfl
def plS (l:List En) (a f t:Int):Nat→List Int
 | 0=>[]
 | j+1=>if kG (en l (ix l a j)) a f t=true then plS l a f t j++[((ix l a j:Nat):Int)] else plS l a f t j
theorem oU (l:List En) (a f t:Int) (j:Nat):plS l a f t (j+1)=if kG (en l (ix l a j)) a f t=true then plS l a f t j++[((ix l a j:Nat):Int)] else plS l a f t j:=rfl
theorem wN (l:List En) (a f t:Int):∀ j,(plS l a f t j).length≤j
 | 0=>Nat.le_refl 0
 | j+1=>by
  have h:=wN l a f t j;rw [oU]
  split
  ·rw [List.length_append,List.length_singleton]
   omega
  ·omega
theorem vZf {x:En} {a f t:Int} (h:kG x a f t=true):mtc x a=true:=by
 unfold kG at h
 rw [Bool.and_eq_true] at h;exact h.2
theorem qQq {l:List En} {a f t:Int}:∀ {n},n≤l.length→plS l a f t (ixN l a n).length=qA l a f t n
 | 0,_=>rfl
 | n+1,hn=>by
  have ih:=qQq (l:=l) (a:=a) (f:=f) (t:=t) (n:=n) (by omega)
  unfold qA
  by_cases h:mtc (en l n) a=true
  ·obtain ⟨h1,_⟩:=qVs (l:=l) (a:=a) (n:=n) (by omega) h
   rw [pB h,List.length_append,List.length_singleton,oU,h1,ih]
  ·have h2:mtc (en l n) a=false:=by simpa using h
   rw [wY h2,ih,if_neg (fun h9=>h (vZf h9))]
theorem qZe (l:List En) (a f t:Int):plS l a f t (ixA l a).length=qA l a f t l.length:=qQq (Nat.le_refl _)
theorem wZ (l:List En) (a:Int):(ixA l a).length≤l.length:=wX l a _
theorem qZy {x:En} {B:Nat} (h1:1≤B) (hx:tz x.am.2.1 x.am.2.2 B) (p a d:Int):szR (jY x p a d) (2 * B+1):=tM (kB h1 hx a) (by omega)
theorem qYe {x:En} {B:Nat} (h1:1≤B) (hx:tz x.am.2.1 x.am.2.2 B) (p a d:Int):szR (kO x p a d) (2 * B+1):=tM (kB h1 hx a) (by omega)
theorem kS_sz {l:List En} {B:Nat} (h1:1≤B) (hx:∀ k,tz (en l k).am.2.1 (en l k).am.2.2 B) (p a d:Int) (j:Nat):szR (kS l p a d j) (j * (2 * B+2)+1):=mW fun i _=>qZy h1 (hx _) p a d
theorem zS_sz {l:List En} {B:Nat} (h1:1≤B) (hx:∀ k,tz (en l k).am.2.1 (en l k).am.2.2 B) (p a d:Int) (j:Nat):szR (zS l p a d j) (j * (2 * B+2)+1):=mW fun i _=>qYe h1 (hx _) p a d
theorem cS_sz {l:List En} {B:Nat} (h1:1≤B) (hx:∀ k,tz (en l k).am.2.1 (en l k).am.2.2 B) (a f t:Int) (j:Nat):szR (cS l a f t j) (j * (2 * B+2)+1):=mW fun i _=>tM (kB h1 (hx _) a) (by omega)
theorem vQz {x:En} {a:Int} (hv:vd x.am.1 x.am.2.1 x.am.2.2=true) (h1:x.deb=a) (h2:x.deb≠x.cre):rN (ent x a)=x.am.1∧rP (ent x a)=x.am.2.1∧rD (ent x a)=x.am.2.2:=by
 have e:ent x a=trq x.am:=by
  unfold ent
  rw [if_pos h1,if_neg (fun h9=>h2 (h1.trans h9.symm))]
  grind
 rw [e];obtain ⟨e1,e2,e3,_⟩:=oF hv;exact ⟨e1,e2,e3⟩
theorem vVa {x:En} {a:Int} (h1:x.deb≠a) (h2:x.cre=a):ent x a=-(trq x.am):=by
 unfold ent
 rw [if_neg h1,if_pos h2]
 grind
def kT (cs:List Cg) (p k:Int):Bool:=decide (p<cs.length) && decide ((cg cs p.toNat).place≤k)
theorem qXu {cs:List Cg} {p k:Int} (h:k≤4000):kT cs p k=decide (gI cs p≤k):=by
 unfold kT gI
 by_cases h1:p<cs.length
 ·rw [decide_eq_true h1,Bool.true_and,if_pos h1]
 ·rw [decide_eq_false h1,Bool.false_and,if_neg h1,decide_eq_false (by omega)]
def jL (cs:List Cg) (x:En) (k:Int):Bool:=btw x 0 && !kT cs x.pd k && decide (x.kd=1) && decide (x.rf=-1)
def kR (cs:List Cg) (x:En) (k:Int):Bool:=btw x 1 && kT cs x.pd k && decide (x.kd=3) && decide (x.rf=-1)
theorem kC {cs:List Cg} {x:En} {k:Nat} (h:k≤4000):cI cs x k=(jL cs x k || kR cs x k):=by
 unfold cI jL kR
 rw [qXu (by omega)]
 by_cases h3:x.kd=3
 ·rw [if_pos h3,h3]
  cases btw x 0 <;> cases btw x 1 <;> cases decide (x.rf=-1) <;> cases decide (gI cs x.pd≤(k:Int)) <;> rfl
 ·rw [if_neg h3,decide_eq_false h3]
  cases btw x 0 <;> cases btw x 1 <;> cases decide (x.rf=-1) <;> cases decide (gI cs x.pd≤(k:Int)) <;> cases decide (x.kd=1) <;> rfl
theorem vQa {cs:List Cg} {x:En} {k:Nat} (h:k≤4000) (h1:jL cs x k=false) (h2:kR cs x k=false):cI cs x k=false:=by
 rw [kC h,h1,h2]
 rfl
theorem Ok45.wat {c:Int} {l:List En} {cs:List Cg} (h:Ok45 c l cs) {k:Nat} (hk:k<l.length):jL cs (en l k) k=!decide ((en l k).kd=3):=by
 have h1:=h.ent k hk;have h4:=h.ac.len;rw [kC (by omega)] at h1
 unfold jL kR at *
 by_cases h3:(en l k).kd=3
 ·rw [h3]
  cases btw (en l k) 0 <;> cases kT cs (en l k).pd k <;> rfl
 ·rw [decide_eq_false h3,Bool.and_false,Bool.false_and,Bool.or_false] at h1
  rw [h1,decide_eq_false h3]
  rfl
theorem Ok45.late {c:Int} {l:List En} {cs:List Cg} (h:Ok45 c l cs) {p:Int} (hp:0≤p):kT cs p (l.length:Int)=decide (p<cs.length):=by
 unfold kT
 by_cases h1:p<cs.length
 ·obtain ⟨_,_,_,h5,_⟩:=h.clo p.toNat (by omega)
  rw [decide_eq_true h1,Bool.true_and,decide_eq_true h5]
 ·rw [decide_eq_false h1,Bool.false_and]
theorem vE {x:En} {p a d:Int} (h1:x.pd=p) (h2:x.day≤d):jY x p a d=ent x a:=if_pos ⟨h1,h2⟩
theorem qXb {x:En} {p a d:Int} (h:x.pd≠p∨d<x.day):jY x p a d=0:=if_neg (fun h9=>by rcases h with h|h <;> omega)
theorem vVf {x:En} {p a d:Int} (h1:x.pd=p) (h2:x.day≤d) (h3:x.kd≠3):kO x p a d=ent x a:=if_pos ⟨h1,h2,h3⟩
theorem uF {x:En} {p a d:Int} (h:x.pd≠p∨d<x.day∨x.kd=3):kO x p a d=0:=if_neg (fun h9=>by rcases h with h|h|h <;> omega)
structure Jn45 (L:List En) (m:Nat):Prop where
 sz:∀ k,tz (en L k).am.2.1 (en L k).am.2.2 420
 fw:4000<L.length∨(L.length≤m∧∀ p a,1<a→szR (knw L p a 14609) 400)
theorem Jn45.s45 {L:List En} {m:Nat} (h:Jn45 L m) (hm:m≤900):Sz45 L:=⟨h.sz,h.fw.elim .inr (fun h1=>.inl (Nat.le_trans h1.1 hm))⟩
theorem Jn45.mono {L:List En} {m m':Nat} (h:Jn45 L m) (hm:m≤m'):Jn45 L m':=⟨h.sz,h.fw.imp id (fun h1=>⟨Nat.le_trans h1.1 hm,h1.2⟩)⟩
theorem Jn45.start {L:List En} (h:∀ k,tz (en L k).am.2.1 (en L k).am.2.2 12) (hl:L.length≤12∨4000<L.length):Jn45 L 12 :=
 ⟨fun k=>(h k).mono (by decide),by
  rcases hl with h1|h1
  ·exact .inr ⟨h1,fun p a _=>(nZ (by decide) h p a 14609 L.length).mono (by omega)⟩
  ·exact .inl h1⟩
theorem qYu {c:Int} {L:List En} {cs:List Cg} {q:Stg} (h:cF c L cs q=0):peE c L cs=0:=by
 unfold cF at h
 by_cases h1:peE c L cs=0
 ·exact h1
 ·rw [if_pos h1] at h
  exact h
theorem Jn45.set {c:Int} {L:List En} {cs:List Cg} {m:Nat} (h:Jn45 L m) {q:Stg} (hq:tz q.am.2.1 q.am.2.2 12) (hE:cF c L cs q=0):Jn45 (cX c L cs q) (m+1):=by
 have hok:=peE_ok.1 (qYu hE);obtain ⟨h1,h2,h3,h4⟩:=(kI hok).1 hE;obtain ⟨p0,p4,a1,a2,d0,d1⟩:=fS h2;have hL:=hok.ac.len
 rcases h.fw with h5|⟨h5,h6⟩
 ·omega
 unfold cX
 rw [if_pos hE]
 by_cases hz:mor L q=0
 ·rw [if_pos hz]
  exact h.mono (Nat.le_succ m)
 ·rw [if_neg hz]
  have hs:szR (mor L q) 413:=by
   unfold mor
   exact lQ (gQ rfl hq) (h6 q.pd q.ac a1)
  refine ⟨zX h.sz ((wH hs).mono (by decide)),.inr ⟨by rw [gT];omega,fun p a ha=>?_⟩⟩
  by_cases h9:q.pd=p∧q.ac=a
  ·obtain ⟨rfl,rfl⟩:=h9
   rw [wU h2];exact (gQ rfl hq:szR (trq q.am) 12).mono (by decide)
  ·rw [oZ,nE _ _ _ _ _ _ ha a1,if_neg (fun h8=>h9 ⟨h8.1,h8.2.2⟩),Rat.add_zero]
   exact h6 p a ha
end Go.Proofs.YtjkfchehkpmhkaaGreatDoor

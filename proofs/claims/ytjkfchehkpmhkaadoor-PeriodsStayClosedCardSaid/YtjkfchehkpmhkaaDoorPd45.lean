/- period: items. -/
import Derived.Test.YtjkfchehkpmhkaaDoorPb45
import Derived.Test.YtjkfchehkpmhkaaDoorBa
import Derived.Test.YtjkfchehkpmhkaaDoorAw
import Derived.Test.YtjkfchehkpmhkaaDoorPl45d
set_option linter.unusedSimpArgs false
set_option linter.unusedVariables false
set_option maxRecDepth 100000
set_option maxHeartbeats 1600000
namespace Go.Proofs.YtjkfchehkpmhkaaDoor
structure Sz45 (l:List En):Prop where
 sz:∀ k,tz (en l k).am.2.1 (en l k).am.2.2 420
 fw:l.length≤900∨4000<l.length
def mtc (x:En) (a:Int):Bool:=decide (x.deb=a) || decide (x.cre=a)
theorem vXm {x:En} {a:Int} (h:x.deb=a∨x.cre=a):mtc x a=true:=by
 unfold mtc
 rcases h with h|h
 ·rw [decide_eq_true h]
  rfl
 ·rw [decide_eq_true h,Bool.or_true]
theorem mtc_f {x:En} {a:Int} (h1:x.deb≠a) (h2:x.cre≠a):mtc x a=false:=by
 unfold mtc
 rw [decide_eq_false h1,decide_eq_false h2]
 rfl
theorem sP {x:En} {a:Int} (h:mtc x a=false):ent x a=0:=by
 unfold mtc at h
 rw [Bool.or_eq_false_iff,decide_eq_false_iff_not,decide_eq_false_iff_not] at h;exact rR h.1 h.2
def ixN (l:List En) (a:Int):Nat→List Nat
 | 0=>[]
 | n+1=>if mtc (en l n) a=true then ixN l a n++[n] else ixN l a n
theorem pY {l:List En} {a:Int} {n:Nat} (h:mtc (en l n) a=true):ixN l a (n+1)=ixN l a n++[n]:=if_pos h
theorem yD {l:List En} {a:Int} {n:Nat} (h:mtc (en l n) a=false):ixN l a (n+1)=ixN l a n:=if_neg (by rw [h];decide)
def ixA (l:List En) (a:Int):List Nat:=ixN l a l.length
def ix (l:List En) (a:Int) (j:Nat):Nat:=(ixA l a).getD j 0
theorem yC (l:List En) (a:Int):∀ n,(ixN l a n).length≤n
 | 0=>Nat.le_refl 0
 | n+1=>by
  have h:=yC l a n
  unfold ixN
  split
  ·rw [List.length_append,List.length_singleton]
   omega
  ·omega
theorem yB (l:List En) (a:Int) (n:Nat):∀ d,∃ t,ixN l a (n+d)=ixN l a n++t
 | 0=>⟨[],by simp⟩
 | d+1=>by
  obtain ⟨t,ht⟩:=yB l a n d;rw [show n+(d+1)=n+d+1 by omega]
  by_cases h:mtc (en l (n+d)) a=true
  ·exact ⟨t++[n+d],by rw [pY h,ht,List.append_assoc]⟩
  ·exact ⟨t,by rw [yD (by simpa using h),ht]⟩
theorem ix_of {l:List En} {a:Int} {n j:Nat} (hn:n≤l.length) (hj:j<(ixN l a n).length):ix l a j=(ixN l a n).getD j 0∧j<(ixA l a).length:=by
 obtain ⟨t,ht⟩:=yB l a n (l.length-n);rw [show n+(l.length-n)=l.length by omega] at ht
 unfold ix ixA
 rw [ht];refine ⟨?_,by rw [List.length_append];omega⟩;rw [List.getD_eq_getElem?_getD,List.getD_eq_getElem?_getD,List.getElem?_append_left hj]
theorem qXs {l:List En} {a:Int} {n:Nat} (hn:n<l.length) (h:mtc (en l n) a=true):ix l a (ixN l a n).length=n∧(ixN l a n).length<(ixA l a).length:=by
 have hj:(ixN l a n).length<(ixN l a (n+1)).length:=by
  rw [pY h,List.length_append,List.length_singleton]
  omega
 obtain ⟨h1,h2⟩:=ix_of (l:=l) (a:=a) (n:=n+1) (by omega) hj;refine ⟨?_,h2⟩;rw [h1,pY h,List.getD_eq_getElem?_getD,List.getElem?_append_right (Nat.le_refl _),Nat.sub_self]
 rfl
theorem vQw {l:List En} {a:Int} {n k:Nat}:k∈ixN l a n→k<n∧mtc (en l k) a=true:=by
 induction n with
 | zero=>exact fun h=>by cases h
 | succ n ih =>
  intro h
  unfold ixN at h
  split at h
  ·rename_i h1
   rcases List.mem_append.1 h with h2|h2
   ·exact ⟨by have:=(ih h2).1;omega,(ih h2).2⟩
   ·rw [List.mem_singleton] at h2
    subst h2;exact ⟨by omega,h1⟩
  ·exact ⟨by have:=(ih h).1;omega,(ih h).2⟩
theorem ix_in {l:List En} {a:Int} {j:Nat} (hj:j<(ixA l a).length):ix l a j<l.length∧mtc (en l (ix l a j)) a=true:=by
 have h:ix l a j∈ixA l a:=by
  unfold ix
  rw [List.getD_eq_getElem?_getD,List.getElem?_eq_getElem hj];exact List.getElem_mem hj
 exact vQw h
theorem qVi (l:List En) (a:Int) (f:Nat→Rat):∀ n,sm (ixN l a n).length (fun i=>f ((ixN l a n).getD i 0))=sm n fun k=>if mtc (en l k) a=true then f k else 0
 | 0=>rfl
 | n+1=>by
  rw [cT,← qVi l a f n]
  by_cases h:mtc (en l n) a=true
  ·rw [if_pos h,pY h,List.length_append,List.length_singleton,cT]
   congr 1
   ·refine cL fun i hi=>?_
    rw [List.getD_eq_getElem?_getD,List.getD_eq_getElem?_getD,List.getElem?_append_left hi]
   ·rw [List.getD_eq_getElem?_getD,List.getElem?_append_right (Nat.le_refl _),Nat.sub_self]
    rfl
  ·rw [if_neg h,yD (by simpa using h),Rat.add_zero]
theorem qVj (l:List En) (a:Int) (f:Nat→Rat) (hf:∀ k,k<l.length→mtc (en l k) a=false→f k=0):sm (ixA l a).length (fun i=>f (ix l a i))=sm l.length f:=by
 have h:=qVi l a f l.length;refine Eq.trans h (cL fun k hk=>?_)
 by_cases h1:mtc (en l k) a=true
 ·rw [if_pos h1]
 ·rw [if_neg h1,hf k hk (by simpa using h1)]
def kS (l:List En) (p a d:Int) (j:Nat):Rat:=sm j fun i=>kD (en l (ix l a i)) p a d
def zS (l:List En) (p a d:Int) (j:Nat):Rat:=sm j fun i=>jQ (en l (ix l a i)) p a d
theorem vQv (l:List En) (p a d:Int) (j:Nat):kS l p a d (j+1)=kS l p a d j+kD (en l (ix l a j)) p a d:=rfl
theorem qZo (l:List En) (p a d:Int) (j:Nat):zS l p a d (j+1)=zS l p a d j+jQ (en l (ix l a j)) p a d:=rfl
theorem xQb (l:List En) (p a d:Int):kS l p a d (ixA l a).length=knw l p a d :=
 qVj l a (fun i=>kD (en l i) p a d) fun k _ h=>by
  unfold kD
  rw [sP h]
  split <;> rfl
theorem vXv (l:List En) (p a d:Int):zS l p a d (ixA l a).length=frz l p a d :=
 qVj l a (fun i=>jQ (en l i) p a d) fun k _ h=>by
  unfold jQ
  rw [sP h]
  split <;> rfl
def cS (l:List En) (a f t:Int) (j:Nat):Rat:=sm j fun i=>if fU (en l (ix l a i)) a f t=true then ent (en l (ix l a i)) a else 0
theorem vVp (l:List En) (a f t:Int) (j:Nat):cS l a f t (j+1)=cS l a f t j+if fU (en l (ix l a j)) a f t=true then ent (en l (ix l a j)) a else 0:=rfl
theorem xQw (l:List En) (a f t:Int):cS l a f t (ixA l a).length=mZ l a f t l.length :=
 qVj l a (fun i=>if fU (en l i) a f t=true then ent (en l i) a else 0) fun k _ h=>by
  rw [sP h]
  split <;> rfl
def plS (l:List En) (a f t:Int):Nat→List Int
 | 0=>[]
 | j+1=>if fU (en l (ix l a j)) a f t=true then plS l a f t j++[((ix l a j:Nat):Int)] else plS l a f t j
theorem pQ (l:List En) (a f t:Int) (j:Nat):plS l a f t (j+1)=if fU (en l (ix l a j)) a f t=true then plS l a f t j++[((ix l a j:Nat):Int)] else plS l a f t j:=rfl
theorem xT (l:List En) (a f t:Int):∀ j,(plS l a f t j).length≤j
 | 0=>Nat.le_refl 0
 | j+1=>by
  have h:=xT l a f t j;rw [pQ]
  split
  ·rw [List.length_append,List.length_singleton]
   omega
  ·omega
theorem xQu {x:En} {a f t:Int} (h:fU x a f t=true):mtc x a=true:=by
 unfold fU at h
 rw [Bool.and_eq_true] at h;exact h.2
theorem qVt {l:List En} {a f t:Int}:∀ {n},n≤l.length→plS l a f t (ixN l a n).length=qY l a f t n
 | 0,_=>rfl
 | n+1,hn=>by
  have ih:=qVt (l:=l) (a:=a) (f:=f) (t:=t) (n:=n) (by omega)
  unfold qY
  by_cases h:mtc (en l n) a=true
  ·obtain ⟨h1,_⟩:=qXs (l:=l) (a:=a) (n:=n) (by omega) h
   rw [pY h,List.length_append,List.length_singleton,pQ,h1,ih]
  ·have h2:mtc (en l n) a=false:=by simpa using h
   rw [yD h2,ih,if_neg (fun h9=>h (xQu h9))]
theorem vQi (l:List En) (a f t:Int):plS l a f t (ixA l a).length=qY l a f t l.length:=qVt (Nat.le_refl _)
theorem yE (l:List En) (a:Int):(ixA l a).length≤l.length:=yC l a _
theorem vVa {x:En} {B:Nat} (h1:1≤B) (hx:tz x.am.2.1 x.am.2.2 B) (p a d:Int):szR (kD x p a d) (2 * B+1):=qD (iJ h1 hx a) (by omega)
theorem qZn {x:En} {B:Nat} (h1:1≤B) (hx:tz x.am.2.1 x.am.2.2 B) (p a d:Int):szR (jQ x p a d) (2 * B+1):=qD (iJ h1 hx a) (by omega)
theorem kS_sz {l:List En} {B:Nat} (h1:1≤B) (hx:∀ k,tz (en l k).am.2.1 (en l k).am.2.2 B) (p a d:Int) (j:Nat):szR (kS l p a d j) (j * (2 * B+2)+1):=iA fun i _=>vVa h1 (hx _) p a d
theorem zS_sz {l:List En} {B:Nat} (h1:1≤B) (hx:∀ k,tz (en l k).am.2.1 (en l k).am.2.2 B) (p a d:Int) (j:Nat):szR (zS l p a d j) (j * (2 * B+2)+1):=iA fun i _=>qZn h1 (hx _) p a d
theorem cS_sz {l:List En} {B:Nat} (h1:1≤B) (hx:∀ k,tz (en l k).am.2.1 (en l k).am.2.2 B) (a f t:Int) (j:Nat):szR (cS l a f t j) (j * (2 * B+2)+1):=iA fun i _=>qD (iJ h1 (hx _) a) (by omega)
theorem ent_d {x:En} {a:Int} (hv:vd x.am.1 x.am.2.1 x.am.2.2=true) (h1:x.deb=a) (h2:x.deb≠x.cre):rN (ent x a)=x.am.1∧rP (ent x a)=x.am.2.1∧rD (ent x a)=x.am.2.2:=by
 have e:ent x a=trq x.am:=by
  unfold ent
  rw [if_pos h1,if_neg (fun h9=>h2 (h1.trans h9.symm))]
  grind
 rw [e];obtain ⟨e1,e2,e3,_⟩:=oZ hv;exact ⟨e1,e2,e3⟩
theorem ent_c {x:En} {a:Int} (h1:x.deb≠a) (h2:x.cre=a):ent x a=-(trq x.am):=by
 unfold ent
 rw [if_neg h1,if_pos h2]
 grind
open Go.RowKit
def imc (a:Int) (k:Nat) (x:En):List Value:=[vI k,vI x.day,vI x.deb,vI x.cre,.bool x.am.1,vS x.am.2.1,vS x.am.2.2,vI x.kd,vI x.pd,vI x.rf,vI x.w1,vI x.w2,vI x.w3,vI x.w4,.bool (rN (ent x a)),vS (rP (ent x a)),vS (rD (ent x a)),.bool (decide (x.kd=3))]
def Iti (c:Int) (v z:Value) (a:Int) (B:Nat) (vf:Value) (X:World):Prop:=∃ g1 g2,vf=.func (.func 51) #[] #[vP g1 0,vP g2 0]∧B≤g1∧B≤g2∧Blk X g1 79 [vI c,v,z]∧Blk X g2 3 [vI a]
theorem Iti.lasts (c:Int) (v z:Value) (a:Int) (B:Nat):dM (Iti c v z a B):=by
 rintro vf X Y ⟨g1,g2,h1,h2,h3,h4,h5⟩ hS
 exact ⟨g1,g2,h1,h2,h3,h4.bel hS,h5.bel hS⟩
theorem fR {P:Program} {f:Operand→Value} {o:Oper} {v v9:Value} (h:v9=v) {X:World} (hr:(execOp f o).run P X=.ok (.value v) X):(execOp f o).run P X=.ok (.value v9) X:=by
 rw [h];exact hr
theorem Rd.blkb {w:World} {sz n k c b off:Nat} {xs:List Value} (h:Rd w sz (.slice (some ⟨b,off,none⟩) n c) k xs) (hk:0<k):b<w.heap.size:=by
 obtain ⟨_,A,c',h1,_,_,_,h2⟩:=h
 injection h1 with e1 e2 e3
 obtain ⟨b',off',h3,h4,_⟩:=h2 hk;rw [← e1] at h3
 injection h3 with h3
 injection h3 with h3 _
 omega
theorem Cs.but {X Y:World} {m B n c:Nat} {T:Nat→Prop} {A:Option Addr} {l:List Cg} (h:Cs B l (.slice A n c) X) (hB:But m T X Y) (hA:0<n→∀ b off,A=some ⟨b,off,none⟩→b<m∧¬ T b):Cs B l (.slice A n c) Y:=by
 obtain ⟨⟨hl,A2,c2,hv,hc,hm,hz,hx⟩,h2⟩:=h
 injection hv with e1 e2 e3
 subst e1 e3;refine ⟨⟨hl,A,c,by rw [e2],hc,hm,hz,fun hn=>?_⟩,fun b off n' c' h3 h4=>?_⟩
 ·obtain ⟨b,off,hA2,hb,hcell⟩:=hx hn
  have h9:=hA (by omega) b off hA2;refine ⟨b,off,hA2,Nat.lt_of_lt_of_le hb hB.size,fun j u hj=>?_⟩;exact (World.cell?_of_block (w:=X) (a:=⟨b,off+j,none⟩) (hB.block b h9.1 h9.2)).trans (hcell j u hj)
 ·injection h3 with e4 e5 e6
  have h9:=hA (by omega) b off e4
  rcases h2 b off n' c' (by rw [e4,e5,e6]) h4 with h5|⟨arr,fr,h5⟩
  ·exact .inl h5
  ·exact .inr ⟨arr,fr,(hB.block b h9.1 h9.2).trans h5⟩
theorem Rd.but0 {X Y:World} {m sz n k c:Nat} {T:Nat→Prop} {A:Option Addr} {xs:List Value} (h:Rd X sz (.slice A n c) k xs) (hB:But m T X Y) (hA:0<k→∀ b off,A=some ⟨b,off,none⟩→b<m∧¬ T b):Rd Y sz (.slice A n c) k xs:=by
 obtain ⟨hl,A2,c2,hv,hc,hm,hz,hx⟩:=h
 injection hv with e1 e2 e3
 subst e1 e3;refine ⟨hl,A,c,by rw [e2],hc,hm,hz,fun hn=>?_⟩;obtain ⟨b,off,hA2,hb,hcell⟩:=hx hn;have h9:=hA hn b off hA2;refine ⟨b,off,hA2,Nat.lt_of_lt_of_le hb hB.size,fun j u hj=>?_⟩;exact (World.cell?_of_block (w:=X) (a:=⟨b,off+j,none⟩) (hB.block b h9.1 h9.2)).trans (hcell j u hj)
theorem itsC (c a:Int) (A A2:Option Addr) (n cp m cp2:Nat) (w:World):Calls Tryd.prog 33 #[.agg #[vI c,.slice A n cp,.slice A2 m cp2],vI a] w fun e w'=>∃ vf,e=.returned vf∧Iti c (.slice A n cp) (.slice A2 m cp2) a w.heap.size vf w'∧Since w w':=by
 go_enter Tryd.func33,Tryd.ntmps33
 go_upto_region 1 with fail;obtain ⟨W0,hW0,hB0,hB1,hb⟩:=cF w 79 3 [vI c,.slice A n cp,.slice A2 m cp2] [vI a];rw [← hW0];clear hW0;refine jp ?_;refine jv (.func (.func 51) #[] #[vP w.heap.size 0,vP (w.heap.size+1) 0]) (nS 51 [.tmp 2,.tmp 3] [vP w.heap.size 0,vP (w.heap.size+1) 0] (by rfl) (by rfl)) ?_;refine jm (.func (.func 51) #[] #[vP w.heap.size 0,vP (w.heap.size+1) 0]) ?_;refine jzb hb fun X1 hX1 hb=>?_;obtain ⟨hB0,hB1⟩:=bl2 hX1 hB0 hB1
 go_wp2
 go_ret
 exact ⟨_,rfl,⟨w.heap.size,w.heap.size+1,rfl,Nat.le_refl _,by omega,hB0,hB1⟩,hb⟩
set_option maxHeartbeats 8000000 in
theorem itIt (B:Nat) (c:Int) (A A2:Option Addr) (n cp m cp2:Nat) (l:List En) (cs:List Cg) (a:Int) (T:Nat→Prop) (w:World) (g1 g2:Nat) (hln:l.length=n) (hlm:cs.length=m) (hn1:n≤9223372036854775807) (hr:Rd w 13 (.slice A n cp) n (fl enc l)) (hz:Cs B cs (.slice A2 m cp2) w) (HK:Hid (Ok44 c l)) (HSX:Hid (∀ k,tz (en l k).am.2.1 (en l k).am.2.2 1000000)) (hB1:Blk w g1 79 [vI c,.slice A n cp,.slice A2 m cp2]) (hB2:Blk w g2 3 [vI a]) (hT:∀ k,T k→k<w.heap.size) (hT1:¬ T g1) (hT2:¬ T g2) (hTb:0<n→∀ b off,A=some ⟨b,off,none⟩→¬ T b) (hTc:0<m→∀ b off,A2=some ⟨b,off,none⟩→¬ T b):vVv Tryd.prog 51 #[vP g1 0,vP g2 0] (fun j=>#[.agg (imc a (ix l a j) (en l (ix l a j))).toArray]) (ixA l a).length T w:=by
 intro y9 J W hW hJ hJ0 hY;have hB1:Blk W g1 79 [vI c,.slice A n cp,.slice A2 m cp2]:=hB1.bel hW;have hB2:Blk W g2 3 [vI a]:=hB2.bel hW;have hrd:Rd W 13 (.slice A n cp) n (fl enc l):=hr.below hW;have hcs:Cs B cs (.slice A2 m cp2) W:=Cs.lasts B cs _ _ _ hz hW
 have hTW:∀ k,T k→k<W.heap.size:=fun k hk=>Nat.lt_of_lt_of_le (hT k hk) hW.size
 clear hT hW hr hz;have HRW:=Lib.hid hrd;have HCW:=Lib.hid hcs;have HLN:=Lib.hid hln;have HLM:=Lib.hid hlm;refine qP Tryd.func51 rfl ?_;simp only [Tryd.ntmps51,List.size_toArray,List.length_cons,List.length_nil,Nat.reduceAdd,Nat.reduceSub,Array.replicate_succ,Array.replicate_zero,List.push_toArray,List.append_toArray,List.nil_append,List.cons_append];have hb:Below W.heap.size W W:=Below.refl _ _;go_upto_region 0 with fail;refine jp ?_;refine jn (vP g1 0) ?_;refine jn (vP g1 1) ?_;refine jf _ hB1 1 aZ ?_;refine jv (vI n) (aJ Tryd.underlying26 _ (by rfl) A n cp (by rfl) _ rfl) ?_;refine jm (vI 0) ?_;refine jzb hb fun X1 hX1 hb=>?_;replace hrd:=Rd.below hrd hX1;replace hcs:=Cs.lasts B cs _ _ _ hcs hX1;obtain ⟨hB1,hB2⟩:=bl2 hX1 hB1 hB2;obtain ⟨m0,hm0⟩:∃ m0,m0=X1.heap.size:=⟨_,rfl⟩
 have hmW:W.heap.size≤m0:=by rw [hm0];exact hb.size
 have hms:m0≤X1.heap.size:=by omega
 have hJS:J m0 (ixN l a 0).length X1:=hJ0 m0 X1 hmW hb
 have hg1:g1<m0:=by rw [hm0];exact hB1.lt
 have hg2:g2<m0:=by rw [hm0];exact hB2.lt
 clear hm0
 go_wp2
 go_loopw [11] (fun kv wr=>∃ k:Nat,k≤n∧kv=vI k∧m0≤wr.heap.size∧J m0 (ixN l a k).length wr∧Blk wr g1 79 [vI c,.slice A n cp,.slice A2 m cp2]∧Blk wr g2 3 [vI a]∧Rd wr 13 (.slice A n cp) n (fl enc l)∧Cs B cs (.slice A2 m cp2) wr) (fun kv _=>n-(intOf kv).toNat)
 case atStart=>exact ⟨0,by omega,rfl,hms,hJS,hB1,hB2,hrd,hcs⟩
 case round =>
  clear hB1 hB2 hrd hcs hJS hms hb;obtain ⟨k,hk,rfl,hms,hJt,hB1,hB2,hrd,hcs⟩:=hrel
  rcases Nat.lt_or_ge k n with hlt|hlt
  ·have hb:Below wr.heap.size wr wr:=Below.refl _ _
   obtain ⟨b,off,rfl,hbb,hcx⟩:=iW hrd HLN.out hlt;have hbW:b<m0:=Nat.lt_of_lt_of_le (vD HRW.out HLN.out hlt).1 hmW;have hTB:¬ T b:=hTb (by omega) b off rfl
   have hkl:k<l.length:=by rw [HLN.out];exact hlt
   obtain ⟨x,x9⟩:∃ x,x=en l k:=⟨_,rfl⟩;have HX:=Lib.hid x9
   have HRG:Hid (Rg c k x):=by rw [x9];exact HK.out.rg hkl
   have hxs:tz x.am.2.1 x.am.2.2 1000000:=by rw [x9];exact HSX.out k
   clear x9;rw [← HX.out] at hcx
   change Cl wr b (off+k * 13) (eL x) at hcx
   have HCE:Hid (∀ X,Since wr X→Es l (.slice (some ⟨b,off,none⟩) n cp) X∧Cs B cs (.slice A2 m cp2) X):=fun X h=>⟨by show Rd X 13 _ l.length _;rw [HLN.out];exact hrd.below h,Cs.lasts B cs _ _ _ hcs h⟩
   go_upto_region 1 with fail;refine jp ?_;refine cW (k:Int) (n:Int) (by omega) ?_;refine jzb hb fun X1 hX1 hb=>?_;replace hrd:=Rd.below hrd hX1;replace hcs:=Cs.lasts B cs _ _ _ hcs hX1;obtain ⟨hB1,hB2⟩:=bl2 hX1 hB1 hB2;have hcx:=hcx.below hX1 hbb;replace hbb:=Nat.lt_of_lt_of_le hbb (hX1).size;go_upto_region 2 with fail;refine jq 3 ?_;refine jm (vI k) ?_;refine jv (vP b (off+k * 13)) (aW Tryd.underlying26 aR _ _ (by rfl) b (off) n cp k (by omega) (by rfl) (by rfl) rfl) ?_;refine jg (.agg #[vI x.day,vI x.deb,vI x.cre,.bool x.am.1,st x.am.2.1,st x.am.2.2,vI x.kd,vI x.pd,vI x.rf,vI x.w1,vI x.w2,vI x.w3,vI x.w4]) (fun X hX hF=>bY 70 _ (by rfl) b (off+k * 13) (by rfl) Tryd.underlying70 rfl (eL x) X (Cl.part (hcx.below hX hbb) 0 _ (by rfl)) aR) ?_;refine jzb hb fun X2 hX2 hb=>?_;replace hrd:=Rd.below hrd hX2;replace hcs:=Cs.lasts B cs _ _ _ hcs hX2;obtain ⟨hB1,hB2⟩:=bl2 hX2 hB1 hB2;have hcx:=hcx.below hX2 hbb;replace hbb:=Nat.lt_of_lt_of_le hbb (hX2).size;go_upto_region 3 with (refine osn 70 5 15 #[vI x.day,vI x.deb,vI x.cre,.bool x.am.1,vS x.am.2.1,vS x.am.2.2,vI x.kd,vI x.pd,vI x.rf,vI x.w1,vI x.w2,vI x.w3,vI x.w4] aR ?_)
   obtain ⟨Y2,hY9,hD5,hS9⟩:=aT X2 70 (eL x);rw [← hY9];clear hY9;have hgs5:=hb.size;have hlt5x0:=hB1.lt;have hlt5x1:=hB2.lt;replace hrd:=Rd.below hrd hS9;replace hcs:=Cs.lasts B cs _ _ _ hcs hS9;have hcx:=hcx.below hS9 hbb;replace hbb:=Nat.lt_of_lt_of_le hbb (hS9).size;obtain ⟨hB1,hB2⟩:=bl2 hS9 hB1 hB2;have hb:=aD hb hS9;clear hS9;generalize X2.heap.size=g5 at *
   rcases (show (x.deb≠a∧x.cre≠a)∨x.deb=a∨(x.deb≠a∧x.cre=a) by omega) with hd|hd|hd
   ·have HM:Hid (mtc x a=false):=mtc_f hd.1 hd.2
    have HJ2:Hid (∀ X,Since wr X→J m0 (ixN l a (k+1)).length X):=fun X h=>by
     rw [yD (by rw [← HX.out];exact HM.out)];exact hJ _ _ _ _ hJt h
    go_upto_region 3 with fail;refine jp ?_;refine jn (vP g5 1) ?_;refine jf _ hD5 1 aB ?_;refine jf _ hB2 0 aB ?_;refine jv (.bool true) (aL _ _ _ _ (by rfl) .i64 x.deb a (by rfl) (by rfl) true (by rw [decide_eq_false (by omega)];rfl)) ?_;refine jm (.bool true) ?_;refine jn (vP g5 2) ?_;refine jf _ hD5 2 aB ?_;refine jf _ hB2 0 aB ?_;refine jv (.bool true) (aL _ _ _ _ (by rfl) .i64 x.cre a (by rfl) (by rfl) true (by rw [decide_eq_false (by omega)];rfl)) ?_;refine jm (.bool true) ?_;refine jzb hb fun X3 hX3 hb=>?_;replace hrd:=Rd.below hrd hX3;replace hcs:=Cs.lasts B cs _ _ _ hcs hX3;obtain ⟨hB1,hB2,hD5⟩:=bl3 hX3 hB1 hB2 hD5;go_upto_region 9 with fail;refine jp ?_;refine jv (vI ((k+1:Nat):Int)) (aX _ _ _ _ (by rfl) (k:Int) 1 ((k+1:Nat):Int) (by rfl) (by rfl) (by omega) (by omega) (by omega)) ?_;refine jm (vI ((k+1:Nat):Int)) ?_;refine jzb hb fun X4 hX4 hb=>?_;replace hrd:=Rd.below hrd hX4;replace hcs:=Cs.lasts B cs _ _ _ hcs hX4;obtain ⟨hB1,hB2,hD5⟩:=bl3 hX4 hB1 hB2 hD5;have hms2:=Nat.le_trans hms hb.size;have hJ3:=HJ2.out _ hb
    go_wp2
    go_roundw
    case rel=>exact ⟨k+1,by omega,rfl,hms2,hJ3,hB1,hB2,hrd,hcs⟩
    case measure=>simp [intOf];omega
   ·have HM:Hid (mtc x a=true):=vXm (by omega)
    obtain ⟨hij,hjl⟩:=qXs (l:=l) (a:=a) (n:=k) hkl (by rw [← HX.out];exact HM.out);have HIJ:=Lib.hid hij
    have HNX:Hid ((ixN l a (k+1)).length=(ixN l a k).length+1):=by
     show _=_
     rw [pY (by rw [← HX.out];exact HM.out),List.length_append]
     rfl
    clear hij;have HDA:=Lib.hid hd;clear hd
    have HAM:Hid ((.agg #[.bool (rN (ent x a)),vS (rP (ent x a)),vS (rD (ent x a))]:Value)=.agg #[.bool x.am.1,vS x.am.2.1,vS x.am.2.2]):=by
     obtain ⟨e1,e2,e3⟩:=ent_d HRG.out.vl HDA.out HRG.out.ne;exact sI ⟨e1,e2,e3⟩
    have hcne:x.cre≠a:=fun h9=>HRG.out.ne (HDA.out.trans h9.symm)
    go_upto_region 3 with fail;refine jp ?_;refine jn (vP g5 1) ?_;refine jf _ hD5 1 aB ?_;refine jf _ hB2 0 aB ?_;refine jv (.bool false) (aL _ _ _ _ (by rfl) .i64 x.deb a (by rfl) (by rfl) false (by rw [decide_eq_true HDA.out];rfl)) ?_;refine jm (.bool false) ?_;refine js ?_;refine js ?_;refine js ?_;refine js ?_;refine jm (.bool false) ?_;refine jzb hb fun X3 hX3 hb=>?_;replace hrd:=Rd.below hrd hX3;replace hcs:=Cs.lasts B cs _ _ _ hcs hX3;obtain ⟨hB1,hB2,hD5⟩:=bl3 hX3 hB1 hB2 hD5;go_upto_region 4 with fail;refine jq 5 ?_;refine jm (vI k) ?_;refine ja hD5 Tryd.underlying70 (by rfl) aR ?_;refine jn (vP g5 3) ?_;refine jg (rt (rN (ent x a)) (rP (ent x a)) (rD (ent x a))) (fun X hX hF=>fR HAM.out (aO 39 _ (by rfl) g5 3 [.bool x.am.1,vS x.am.2.1,vS x.am.2.2] (by rfl) Tryd.underlying39 rfl X (hD5.bel hX) (by rfl) aF)) ?_;refine jn (.agg #[vI k,vI x.day,vI x.deb,vI x.cre,.bool x.am.1,st x.am.2.1,st x.am.2.2,vI x.kd,vI x.pd,vI x.rf,vI x.w1,vI x.w2,vI x.w3,vI x.w4,.bool (rN (ent x a)),st (rP (ent x a)),st (rD (ent x a)),.bool false]) ?_;refine jzb hb fun X4 hX4 hb=>?_;replace hrd:=Rd.below hrd hX4;replace hcs:=Cs.lasts B cs _ _ _ hcs hX4;obtain ⟨hB1,hB2,hD5⟩:=bl3 hX4 hB1 hB2 hD5;go_upto_region 5 with (refine osn 92 6 30 #[vI k,vI x.day,vI x.deb,vI x.cre,.bool x.am.1,vS x.am.2.1,vS x.am.2.2,vI x.kd,vI x.pd,vI x.rf,vI x.w1,vI x.w2,vI x.w3,vI x.w4,.bool (rN (ent x a)),vS (rP (ent x a)),vS (rD (ent x a)),.bool false] jF ?_)
    obtain ⟨Y4,hY9,hD6,hS9⟩:=aT X4 92 [vI k,vI x.day,vI x.deb,vI x.cre,.bool x.am.1,vS x.am.2.1,vS x.am.2.2,vI x.kd,vI x.pd,vI x.rf,vI x.w1,vI x.w2,vI x.w3,vI x.w4,.bool (rN (ent x a)),vS (rP (ent x a)),vS (rD (ent x a)),.bool false];rw [← hY9];clear hY9;have hgs6:=hb.size;have hlt6x0:=hB1.lt;have hlt6x1:=hB2.lt;have hlt6x2:=hD5.lt;replace hrd:=Rd.below hrd hS9;replace hcs:=Cs.lasts B cs _ _ _ hcs hS9;obtain ⟨hB1,hB2,hD5⟩:=bl3 hS9 hB1 hB2 hD5;have hb:=aD hb hS9;clear hS9;generalize X4.heap.size=g6 at *;obtain ⟨eo,eo9⟩:∃ eo,cN cs x k=eo:=⟨_,rfl⟩
    have HEO:Hid (cN cs (en l k) k=eo):=by rw [← HX.out];exact eo9
    clear eo9;obtain ⟨kd,kd9⟩:∃ kd,decide (x.kd=3)=kd:=⟨_,rfl⟩;have HKD:=Lib.hid kd9
    have HKE:Hid (decide ((en l k).kd=3)=kd):=by rw [← HX.out];exact kd9
    clear kd9
    have hpd:0≤(en l k).pd:=by rw [← HX.out];exact HRG.out.p0
    refine jq 7 ?_;refine ja hB1 Tryd.underlying79 (by rfl) mN ?_;refine jm (vI k) ?_;refine jc (.tuple #[.bool kd,.bool eo]) (fun X hX hF=>mo (xQt B c _ _ l cs k X (HCE.out X (Since.next hb hX)).1 (HCE.out X (Since.next hb hX)).2 hkl hpd) (by rw [HKE.out,HEO.out])) ?_;refine jm (.tuple #[.bool kd,.bool eo]) ?_;refine jm (.bool kd) ?_;refine jm (.bool eo) ?_;refine jn (vP g6 17) ?_;refine jzb hb fun X5 hX5 hb=>?_;replace hrd:=Rd.below hrd hX5;replace hcs:=Cs.lasts B cs _ _ _ hcs hX5;obtain ⟨hB1,hB2,hD5,hD6⟩:=bl4 hX5 hB1 hB2 hD5 hD6;refine dA rfl g6 17 92 _ hD6 (.bool kd) (by simp) (fun X u h1 h2=>fS _ _ (by rfl) _ _ (by rfl) (by rfl) u X h1 h2) ?_;intro w5 hR9 hG9;have hb:=aK hG9 hb hb.size (by omega);replace hB1:=aE hG9 hB1 (by omega);replace hB2:=aE hG9 hB2 (by omega);replace hD5:=aE hG9 hD5 (by omega);have hES9:=(HCE.out _ hb).1
    replace hrd:Rd w5 13 (.slice (some ⟨b,off,none⟩) n cp) n (fl enc l):=by unfold Es at hES9;rw [HLN.out] at hES9;exact hES9
    replace hcs:=(HCE.out _ hb).2;clear hES9;have hD6:=hR9;clear hR9 hG9;refine wpList_nil ?_;go_upto_region 6 with fail;refine jp ?_;refine jn (vP g5 2) ?_;refine jf _ hD5 2 aB ?_;refine jf _ hB2 0 aB ?_;refine eH x.cre a (by omega) ?_;refine jzb hb fun X6 hX6 hb=>?_;replace hrd:=Rd.below hrd hX6;replace hcs:=Cs.lasts B cs _ _ _ hcs hX6;obtain ⟨hB1,hB2,hD5,hD6⟩:=bl4 hX6 hB1 hB2 hD5 hD6;go_upto_region 8 with fail;refine (wpIn_wide (n:=0)).1 ?_;refine jY 2 [] (by rintro ⟨_,_,⟨_,h9⟩,_⟩;cases h9) (aG) ?_;simp only [its,List.take,List.drop,Nat.zero_add,Nat.reduceAdd];refine jm (.func (.yield y9) #[] #[]) ?_;refine ja hD6 Tryd.underlying92 (by rfl) jF ?_;refine aI ?_;intro X9 hX9 _;have hbX:=Since.next hb hX9;have hms9:=Nat.le_trans hms hbX.size;have HYX:=hY m0 (ixN l a k).length X9 hmW hms9 hjl (hJ _ _ _ _ hJt hbX);rw [HIJ.out,← HX.out] at HYX;have HYX:YieldAt Fence.wide 0 Tryd.prog y9 #[.agg #[vI k,vI x.day,vI x.deb,vI x.cre,.bool x.am.1,vS x.am.2.1,vS x.am.2.2,vI x.kd,vI x.pd,vI x.rf,vI x.w1,vI x.w2,vI x.w3,vI x.w4,.bool (rN (ent x a)),vS (rP (ent x a)),vS (rD (ent x a)),.bool (decide (x.kd=3))]] X9 _:=HYX;rw [HKD.out] at HYX;refine pT (S:=fun Y=>J m0 ((ixN l a k).length+1) Y∧But m0 T X9 Y) (by rfl) (.tmp 46) [.tmp 47] _ rfl y9 rfl [.agg #[vI k,vI x.day,vI x.deb,vI x.cre,.bool x.am.1,vS x.am.2.1,vS x.am.2.2,vI x.kd,vI x.pd,vI x.rf,vI x.w1,vI x.w2,vI x.w3,vI x.w4,.bool (rN (ent x a)),vS (rP (ent x a)),vS (rD (ent x a)),.bool kd]] rfl HYX fun Y hJB=>?_
    obtain ⟨hJ2,hB9⟩:=hJB;refine iP (by rintro ⟨_,_,⟨_,h9⟩,_⟩;cases h9) _ _ _ ?_;replace hB1:=hB9.blk (hB1.bel hX9) hg1 hT1;replace hB2:=hB9.blk (hB2.bel hX9) hg2 hT2;replace hrd:=Rd.but0 (hrd.below hX9) hB9 (fun _ b' off' h9=>by injection h9 with h9;injection h9 with h8 h7;subst h8;exact ⟨hbW,hTB⟩)
    replace hcs:=Cs.but (Cs.lasts B cs _ _ _ hcs hX9) hB9 (fun hm9 b' off' h9=>⟨by
     subst h9
     exact Nat.lt_of_lt_of_le (Rd.blkb HCW.out.rd (by rw [HLM.out];exact hm9)) hmW,hTc hm9 b' off' h9⟩)
    have hmsY:=Nat.le_trans hms9 hB9.size;clear hb hB9 HYX hJt hms9 hms hX9 hbX hD6 hD5 HCE;have hms:=hmsY;have hb:Below Y.heap.size Y Y:=Below.refl _ _
    have HJ2:Hid (∀ X,Since Y X→J m0 (ixN l a (k+1)).length X):=fun X h=>by
     rw [HNX.out];exact hJ _ _ _ _ hJ2 h
    clear hJ2;go_upto_region 9 with fail;refine jp ?_;refine jv (vI ((k+1:Nat):Int)) (aX _ _ _ _ (by rfl) (k:Int) 1 ((k+1:Nat):Int) (by rfl) (by rfl) (by omega) (by omega) (by omega)) ?_;refine jm (vI ((k+1:Nat):Int)) ?_;refine jzb hb fun X7 hX7 hb=>?_;replace hrd:=Rd.below hrd hX7;replace hcs:=Cs.lasts B cs _ _ _ hcs hX7;obtain ⟨hB1,hB2⟩:=bl2 hX7 hB1 hB2;have hms2:=Nat.le_trans hms hb.size;have hJ3:=HJ2.out _ hb
    go_wp2
    go_roundw
    case rel=>exact ⟨k+1,by omega,rfl,hms2,hJ3,hB1,hB2,hrd,hcs⟩
    case measure=>simp [intOf];omega
   ·have HM:Hid (mtc x a=true):=vXm (by omega)
    obtain ⟨hij,hjl⟩:=qXs (l:=l) (a:=a) (n:=k) hkl (by rw [← HX.out];exact HM.out);have HIJ:=Lib.hid hij
    have HNX:Hid ((ixN l a (k+1)).length=(ixN l a k).length+1):=by
     show _=_
     rw [pY (by rw [← HX.out];exact HM.out),List.length_append]
     rfl
    clear hij;have hdne:=hd.1;have HCA:=Lib.hid hd.2;clear hd;have HEC:Hid (-(trq x.am)=ent x a):=(ent_c hdne HCA.out).symm;go_upto_region 3 with fail;refine jp ?_;refine jn (vP g5 1) ?_;refine jf _ hD5 1 aB ?_;refine jf _ hB2 0 aB ?_;refine jv (.bool true) (aL _ _ _ _ (by rfl) .i64 x.deb a (by rfl) (by rfl) true (by rw [decide_eq_false (by omega)];rfl)) ?_;refine jm (.bool true) ?_;refine jn (vP g5 2) ?_;refine jf _ hD5 2 aB ?_;refine jf _ hB2 0 aB ?_;refine jv (.bool false) (aL _ _ _ _ (by rfl) .i64 x.cre a (by rfl) (by rfl) false (by rw [decide_eq_true HCA.out];rfl)) ?_;refine jm (.bool false) ?_;refine jzb hb fun X3 hX3 hb=>?_;replace hrd:=Rd.below hrd hX3;replace hcs:=Cs.lasts B cs _ _ _ hcs hX3;obtain ⟨hB1,hB2,hD5⟩:=bl3 hX3 hB1 hB2 hD5;go_upto_region 4 with fail;refine jq 5 ?_;refine jm (vI k) ?_;refine ja hD5 Tryd.underlying70 (by rfl) aR ?_;refine jn (vP g5 3) ?_;refine jg (.agg #[.bool x.am.1,st x.am.2.1,st x.am.2.2]) (fun X hX hF=>aO 39 _ (by rfl) g5 3 [.bool x.am.1,vS x.am.2.1,vS x.am.2.2] (by rfl) Tryd.underlying39 rfl X (hD5.bel hX) (by rfl) aF) ?_;refine jn (.agg #[vI k,vI x.day,vI x.deb,vI x.cre,.bool x.am.1,st x.am.2.1,st x.am.2.2,vI x.kd,vI x.pd,vI x.rf,vI x.w1,vI x.w2,vI x.w3,vI x.w4,.bool x.am.1,st x.am.2.1,st x.am.2.2,.bool false]) ?_
    refine jzb hb fun X4 hX4 hb=>?_;replace hrd:=Rd.below hrd hX4;replace hcs:=Cs.lasts B cs _ _ _ hcs hX4;obtain ⟨hB1,hB2,hD5⟩:=bl3 hX4 hB1 hB2 hD5;go_upto_region 5 with (refine osn 92 6 30 #[vI k,vI x.day,vI x.deb,vI x.cre,.bool x.am.1,vS x.am.2.1,vS x.am.2.2,vI x.kd,vI x.pd,vI x.rf,vI x.w1,vI x.w2,vI x.w3,vI x.w4,.bool x.am.1,vS x.am.2.1,vS x.am.2.2,.bool false] jF ?_);obtain ⟨Y4,hY9,hD6,hS9⟩:=aT X4 92 [vI k,vI x.day,vI x.deb,vI x.cre,.bool x.am.1,vS x.am.2.1,vS x.am.2.2,vI x.kd,vI x.pd,vI x.rf,vI x.w1,vI x.w2,vI x.w3,vI x.w4,.bool x.am.1,vS x.am.2.1,vS x.am.2.2,.bool false];rw [← hY9];clear hY9;have hgs6:=hb.size;have hlt6x0:=hB1.lt;have hlt6x1:=hB2.lt;have hlt6x2:=hD5.lt;replace hrd:=Rd.below hrd hS9;replace hcs:=Cs.lasts B cs _ _ _ hcs hS9;obtain ⟨hB1,hB2,hD5⟩:=bl3 hS9 hB1 hB2 hD5;have hb:=aD hb hS9;clear hS9;generalize X4.heap.size=g6 at *;obtain ⟨eo,eo9⟩:∃ eo,cN cs x k=eo:=⟨_,rfl⟩
    have HEO:Hid (cN cs (en l k) k=eo):=by rw [← HX.out];exact eo9
    clear eo9;obtain ⟨kd,kd9⟩:∃ kd,decide (x.kd=3)=kd:=⟨_,rfl⟩;have HKD:=Lib.hid kd9
    have HKE:Hid (decide ((en l k).kd=3)=kd):=by rw [← HX.out];exact kd9
    clear kd9
    have hpd:0≤(en l k).pd:=by rw [← HX.out];exact HRG.out.p0
    refine jq 7 ?_;refine ja hB1 Tryd.underlying79 (by rfl) mN ?_;refine jm (vI k) ?_;refine jc (.tuple #[.bool kd,.bool eo]) (fun X hX hF=>mo (xQt B c _ _ l cs k X (HCE.out X (Since.next hb hX)).1 (HCE.out X (Since.next hb hX)).2 hkl hpd) (by rw [HKE.out,HEO.out])) ?_;refine jm (.tuple #[.bool kd,.bool eo]) ?_;refine jm (.bool kd) ?_;refine jm (.bool eo) ?_;refine jn (vP g6 17) ?_;refine jzb hb fun X5 hX5 hb=>?_;replace hrd:=Rd.below hrd hX5;replace hcs:=Cs.lasts B cs _ _ _ hcs hX5;obtain ⟨hB1,hB2,hD5,hD6⟩:=bl4 hX5 hB1 hB2 hD5 hD6;refine dA rfl g6 17 92 _ hD6 (.bool kd) (by simp) (fun X u h1 h2=>fS _ _ (by rfl) _ _ (by rfl) (by rfl) u X h1 h2) ?_;intro w5 hR9 hG9;have hb:=aK hG9 hb hb.size (by omega);replace hB1:=aE hG9 hB1 (by omega);replace hB2:=aE hG9 hB2 (by omega);replace hD5:=aE hG9 hD5 (by omega);have hES9:=(HCE.out _ hb).1
    replace hrd:Rd w5 13 (.slice (some ⟨b,off,none⟩) n cp) n (fl enc l):=by unfold Es at hES9;rw [HLN.out] at hES9;exact hES9
    replace hcs:=(HCE.out _ hb).2;clear hES9;have hD6:=hR9;clear hR9 hG9;refine wpList_nil ?_;go_upto_region 6 with fail;refine jp ?_;refine jn (vP g5 2) ?_;refine jf _ hD5 2 aB ?_;refine jf _ hB2 0 aB ?_;refine eG x.cre a HCA.out ?_;refine jzb hb fun X6 hX6 hb=>?_;replace hrd:=Rd.below hrd hX6;replace hcs:=Cs.lasts B cs _ _ _ hcs hX6;obtain ⟨hB1,hB2,hD5,hD6⟩:=bl4 hX6 hB1 hB2 hD5 hD6;go_upto_region 7 with fail;refine jq 4 ?_;refine jn (vP g5 3) ?_;refine jg (.agg #[.bool x.am.1,st x.am.2.1,st x.am.2.2]) (fun X hX hF=>aO 39 _ (by rfl) g5 3 [.bool x.am.1,vS x.am.2.1,vS x.am.2.2] (by rfl) Tryd.underlying39 rfl X (hD5.bel hX) (by rfl) aF) ?_;refine jc (rt (rN (ent x a)) (rP (ent x a)) (rD (ent x a))) (fun X hX hF=>(qXb x.am.1 x.am.2.1 x.am.2.2 rfl X hxs).mono fun e X' ⟨h1,h2⟩=>⟨by rw [h1];show _=_;rw [show rq x.am.1 x.am.2.1 x.am.2.2=trq x.am from rfl,HEC.out],h2⟩) ?_;refine jn (vP g6 14) ?_;refine jzb hb fun X7 hX7 hb=>?_;replace hrd:=Rd.below hrd hX7;replace hcs:=Cs.lasts B cs _ _ _ hcs hX7;obtain ⟨hB1,hB2,hD5,hD6⟩:=bl4 hX7 hB1 hB2 hD5 hD6;refine cO rfl 39 (.tmp 45) (.tmp 44) rfl g6 92 _ hD6 14 rfl [.bool (rN (ent x a)),vS (rP (ent x a)),vS (rD (ent x a))] rfl (by simp) (by intro u hu;simp only [List.mem_cons,List.not_mem_nil,or_false] at hu;rcases hu with rfl|rfl|rfl <;> rfl) aF ?_
    intro w7 hR9 hG9 hs9
    change Blk w7 g6 92 [vI k,vI x.day,vI x.deb,vI x.cre,.bool x.am.1,vS x.am.2.1,vS x.am.2.2,vI x.kd,vI x.pd,vI x.rf,vI x.w1,vI x.w2,vI x.w3,vI x.w4,.bool (rN (ent x a)),vS (rP (ent x a)),vS (rD (ent x a)),.bool kd] at hR9
    clear hs9;have hb:=aK hG9 hb hb.size (by omega);replace hB1:=aE hG9 hB1 (by omega);replace hB2:=aE hG9 hB2 (by omega);replace hD5:=aE hG9 hD5 (by omega);have hES9:=(HCE.out _ hb).1
    replace hrd:Rd w7 13 (.slice (some ⟨b,off,none⟩) n cp) n (fl enc l):=by unfold Es at hES9;rw [HLN.out] at hES9;exact hES9
    replace hcs:=(HCE.out _ hb).2;clear hES9;have hD6:=hR9;clear hR9 hG9;refine wpList_nil ?_;go_upto_region 8 with fail;refine (wpIn_wide (n:=0)).1 ?_;refine jY 2 [] (by rintro ⟨_,_,⟨_,h9⟩,_⟩;cases h9) (aG) ?_;simp only [its,List.take,List.drop,Nat.zero_add,Nat.reduceAdd];refine jm (.func (.yield y9) #[] #[]) ?_;refine ja hD6 Tryd.underlying92 (by rfl) jF ?_;refine aI ?_;intro X9 hX9 _;have hbX:=Since.next hb hX9;have hms9:=Nat.le_trans hms hbX.size;have HYX:=hY m0 (ixN l a k).length X9 hmW hms9 hjl (hJ _ _ _ _ hJt hbX);rw [HIJ.out,← HX.out] at HYX;have HYX:YieldAt Fence.wide 0 Tryd.prog y9 #[.agg #[vI k,vI x.day,vI x.deb,vI x.cre,.bool x.am.1,vS x.am.2.1,vS x.am.2.2,vI x.kd,vI x.pd,vI x.rf,vI x.w1,vI x.w2,vI x.w3,vI x.w4,.bool (rN (ent x a)),vS (rP (ent x a)),vS (rD (ent x a)),.bool (decide (x.kd=3))]] X9 _:=HYX;rw [HKD.out] at HYX;refine pT (S:=fun Y=>J m0 ((ixN l a k).length+1) Y∧But m0 T X9 Y) (by rfl) (.tmp 46) [.tmp 47] _ rfl y9 rfl [.agg #[vI k,vI x.day,vI x.deb,vI x.cre,.bool x.am.1,vS x.am.2.1,vS x.am.2.2,vI x.kd,vI x.pd,vI x.rf,vI x.w1,vI x.w2,vI x.w3,vI x.w4,.bool (rN (ent x a)),vS (rP (ent x a)),vS (rD (ent x a)),.bool kd]] rfl HYX fun Y hJB=>?_
    obtain ⟨hJ2,hB9⟩:=hJB;refine iP (by rintro ⟨_,_,⟨_,h9⟩,_⟩;cases h9) _ _ _ ?_;replace hB1:=hB9.blk (hB1.bel hX9) hg1 hT1;replace hB2:=hB9.blk (hB2.bel hX9) hg2 hT2;replace hrd:=Rd.but0 (hrd.below hX9) hB9 (fun _ b' off' h9=>by injection h9 with h9;injection h9 with h8 h7;subst h8;exact ⟨hbW,hTB⟩)
    replace hcs:=Cs.but (Cs.lasts B cs _ _ _ hcs hX9) hB9 (fun hm9 b' off' h9=>⟨by
     subst h9
     exact Nat.lt_of_lt_of_le (Rd.blkb HCW.out.rd (by rw [HLM.out];exact hm9)) hmW,hTc hm9 b' off' h9⟩)
    have hmsY:=Nat.le_trans hms9 hB9.size;clear hb hB9 HYX hJt hms9 hms hX9 hbX hD6 hD5 HCE;have hms:=hmsY;have hb:Below Y.heap.size Y Y:=Below.refl _ _
    have HJ2:Hid (∀ X,Since Y X→J m0 (ixN l a (k+1)).length X):=fun X h=>by
     rw [HNX.out];exact hJ _ _ _ _ hJ2 h
    clear hJ2;go_upto_region 9 with fail;refine jp ?_;refine jv (vI ((k+1:Nat):Int)) (aX _ _ _ _ (by rfl) (k:Int) 1 ((k+1:Nat):Int) (by rfl) (by rfl) (by omega) (by omega) (by omega)) ?_;refine jm (vI ((k+1:Nat):Int)) ?_;refine jzb hb fun X8 hX8 hb=>?_;replace hrd:=Rd.below hrd hX8;replace hcs:=Cs.lasts B cs _ _ _ hcs hX8;obtain ⟨hB1,hB2⟩:=bl2 hX8 hB1 hB2;have hms2:=Nat.le_trans hms hb.size;have hJ3:=HJ2.out _ hb
    go_wp2
    go_roundw
    case rel=>exact ⟨k+1,by omega,rfl,hms2,hJ3,hB1,hB2,hrd,hcs⟩
    case measure=>simp [intOf];omega
  ·have hb:Below wr.heap.size wr wr:=Below.refl _ _
   have HKN:Hid (k=l.length):=by show _=_;rw [HLN.out];omega
   go_upto_region 1 with fail;refine jp ?_;refine bR (k:Int) (n:Int) (by omega) ?_;refine jzb hb fun X1 hX1 hb=>?_;replace hrd:=Rd.below hrd hX1;replace hcs:=Cs.lasts B cs _ _ _ hcs hX1;obtain ⟨hB1,hB2⟩:=bl2 hX1 hB1 hB2
   have hJE:J m0 (ixA l a).length X1:=by
    have h9:=hJ _ _ _ _ hJt hb;rw [HKN.out] at h9;exact h9
   go_wp2
   go_end0
   exact ⟨⟨_,rfl⟩,m0,hmW,hJE⟩
end Go.Proofs.YtjkfchehkpmhkaaDoor

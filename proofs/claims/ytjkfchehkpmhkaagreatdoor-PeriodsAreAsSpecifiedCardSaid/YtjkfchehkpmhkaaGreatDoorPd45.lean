/- period: items. -/
import Derived.Test.YtjkfchehkpmhkaaGreatDoorPb45
import Derived.Test.YtjkfchehkpmhkaaGreatDoorPl45g
import Derived.Test.YtjkfchehkpmhkaaGreatDoorBg
import Derived.Test.YtjkfchehkpmhkaaGreatDoorLp
set_option linter.unusedSimpArgs false
set_option linter.unusedVariables false
set_option maxRecDepth 100000
set_option maxHeartbeats 1600000
namespace Go.Proofs.YtjkfchehkpmhkaaGreatDoor
open Go.RowKit
def imc (a:Int) (k:Nat) (x:En):List Value:=[vI k,vI x.day,vI x.deb,vI x.cre,.bool x.am.1,vS x.am.2.1,vS x.am.2.2,vI x.kd,vI x.pd,vI x.rf,vI x.w1,vI x.w2,vI x.w3,vI x.w4,.bool (rN (ent x a)),vS (rP (ent x a)),vS (rD (ent x a)),.bool (decide (x.kd=3))]
def Iti (c:Int) (v z:Value) (a:Int) (B:Nat) (vf:Value) (X:World):Prop:=∃ g1 g2,vf=.func (.func 79) #[] #[vP g1 0,vP g2 0]∧B≤g1∧B≤g2∧Blk X g1 79 [vI c,v,z]∧Blk X g2 3 [vI a]
theorem Iti.lasts (c:Int) (v z:Value) (a:Int) (B:Nat):eJ (Iti c v z a B):=by
 rintro vf X Y ⟨g1,g2,h1,h2,h3,h4,h5⟩ hS
 exact ⟨g1,g2,h1,h2,h3,h4.bel hS,h5.bel hS⟩
theorem jE {P:Program} {f:Operand→Value} {o:Oper} {v v9:Value} (h:v9=v) {X:World} (hr:(execOp f o).run P X=.ok (.value v) X):(execOp f o).run P X=.ok (.value v9) X:=by
 rw [h];exact hr
theorem Rd.blkb {w:World} {sz n k c b off:Nat} {xs:List Value} (h:Rd w sz (.slice (some ⟨b,off,none⟩) n c) k xs) (hk:0<k):b<w.heap.size:=by
 obtain ⟨_,A,c',h1,_,_,_,h2⟩:=h
 injection h1 with e1 e2 e3
 obtain ⟨b',off',h3,h4,_⟩:=h2 hk;rw [← e1] at h3
 injection h3 with h3
 injection h3 with h3 _
 omega
theorem Cs.but {X Y:World} {m B n c:Nat} {T:Nat→Prop} {A:Option Addr} {l:List Cg} (h:Cs B l (.slice A n c) X) (hB:But m T X Y) (hA:0<n→∀ b off,A=some ⟨b,off,none⟩→b<m∧¬ T b):Cs B l (.slice A n c) Y:=by
 obtain ⟨⟨hl,A2,c2,hv,hc,hm,hz,hx⟩,h2⟩:=h
 injection hv with e1 e2 e3
 subst e1 e3;refine ⟨⟨hl,A,c,by rw [e2],hc,hm,hz,fun hn=>?_⟩,fun b off n' c' h3 h4=>?_⟩
 ·obtain ⟨b,off,hA2,hb,hcell⟩:=hx hn
  have h9:=hA (by omega) b off hA2;refine ⟨b,off,hA2,Nat.lt_of_lt_of_le hb hB.size,fun j u hj=>?_⟩;exact (World.cell?_of_block (w:=X) (a:=⟨b,off+j,none⟩) (hB.block b h9.1 h9.2)).trans (hcell j u hj)
 ·injection h3 with e4 e5 e6
  have h9:=hA (by omega) b off e4
  rcases h2 b off n' c' (by rw [e4,e5,e6]) h4 with h5|⟨arr,fr,h5⟩
  ·exact .inl h5
  ·exact .inr ⟨arr,fr,(hB.block b h9.1 h9.2).trans h5⟩
theorem Rd.but0 {X Y:World} {m sz n k c:Nat} {T:Nat→Prop} {A:Option Addr} {xs:List Value} (h:Rd X sz (.slice A n c) k xs) (hB:But m T X Y) (hA:0<k→∀ b off,A=some ⟨b,off,none⟩→b<m∧¬ T b):Rd Y sz (.slice A n c) k xs:=by
 obtain ⟨hl,A2,c2,hv,hc,hm,hz,hx⟩:=h
 injection hv with e1 e2 e3
 subst e1 e3;refine ⟨hl,A,c,by rw [e2],hc,hm,hz,fun hn=>?_⟩;obtain ⟨b,off,hA2,hb,hcell⟩:=hx hn;have h9:=hA hn b off hA2;refine ⟨b,off,hA2,Nat.lt_of_lt_of_le hb hB.size,fun j u hj=>?_⟩;exact (World.cell?_of_block (w:=X) (a:=⟨b,off+j,none⟩) (hB.block b h9.1 h9.2)).trans (hcell j u hj)
theorem itsC (c a:Int) (A A2:Option Addr) (n cp m cp2:Nat) (w:World):Calls Tryz.prog 51 #[.agg #[vI c,.slice A n cp,.slice A2 m cp2],vI a] w fun e w'=>∃ vf,e=.returned vf∧Iti c (.slice A n cp) (.slice A2 m cp2) a w.heap.size vf w'∧Since w w':=by
 go_enter Tryz.func51,Tryz.ntmps51
 go_upto_region 1 with fail;obtain ⟨W0,hW0,hB0,hB1,hb⟩:=cV w 79 3 [vI c,.slice A n cp,.slice A2 m cp2] [vI a];rw [← hW0];clear hW0;refine jp ?_;refine jv (.func (.func 79) #[] #[vP w.heap.size 0,vP (w.heap.size+1) 0]) (qT 79 [.tmp 2,.tmp 3] [vP w.heap.size 0,vP (w.heap.size+1) 0] (by rfl) (by rfl)) ?_;refine jm (.func (.func 79) #[] #[vP w.heap.size 0,vP (w.heap.size+1) 0]) ?_;refine aN hb hB0 hB1 fun X1 hX1 hb hB0 hB1=>?_
 go_wp2
 go_ret
 exact ⟨_,rfl,⟨w.heap.size,w.heap.size+1,rfl,Nat.le_refl _,by omega,hB0,hB1⟩,hb⟩
set_option maxHeartbeats 8000000 in
theorem itIt (B:Nat) (c:Int) (A A2:Option Addr) (n cp m cp2:Nat) (l:List En) (cs:List Cg) (a:Int) (T:Nat→Prop) (w:World) (g1 g2:Nat) (hln:l.length=n) (hlm:cs.length=m) (hn1:n≤9223372036854775807) (hr:Rd w 13 (.slice A n cp) n (fl enc l)) (hz:Cs B cs (.slice A2 m cp2) w) (HK:Hid (Ok44 c l)) (HSX:Hid (∀ k,tz (en l k).am.2.1 (en l k).am.2.2 1000000)) (hB1:Blk w g1 79 [vI c,.slice A n cp,.slice A2 m cp2]) (hB2:Blk w g2 3 [vI a]) (hT:∀ k,T k→k<w.heap.size) (hT1:¬ T g1) (hT2:¬ T g2) (hTb:0<n→∀ b off,A=some ⟨b,off,none⟩→¬ T b) (hTc:0<m→∀ b off,A2=some ⟨b,off,none⟩→¬ T b):vZn Tryz.prog 79 #[vP g1 0,vP g2 0] (fun j=>#[.agg (imc a (ix l a j) (en l (ix l a j))).toArray]) (ixA l a).length T w:=by
 intro y9 J W hW hJ hJ0 hY;have hB1:Blk W g1 79 [vI c,.slice A n cp,.slice A2 m cp2]:=hB1.bel hW;have hB2:Blk W g2 3 [vI a]:=hB2.bel hW;have hrd:Rd W 13 (.slice A n cp) n (fl enc l):=hr.below hW;have hcs:Cs B cs (.slice A2 m cp2) W:=Cs.lasts B cs _ _ _ hz hW
 have hTW:∀ k,T k→k<W.heap.size:=fun k hk=>Nat.lt_of_lt_of_le (hT k hk) hW.size
 clear hT hW hr hz;have HRW:=Lib.hid hrd;have HCW:=Lib.hid hcs;have HLN:=Lib.hid hln;have HLM:=Lib.hid hlm;refine vV Tryz.func79 rfl ?_;simp only [Tryz.ntmps79,List.size_toArray,List.length_cons,List.length_nil,Nat.reduceAdd,Nat.reduceSub,Array.replicate_succ,Array.replicate_zero,List.push_toArray,List.append_toArray,List.nil_append,List.cons_append];have hb:Below W.heap.size W W:=Below.refl _ _;go_upto_region 0 with fail;refine jp ?_;refine jn (vP g1 0) ?_;refine jnf hB1 1 aO ?_;refine jv (vI n) (aF Tryz.underlying22 _ (by rfl) A n cp (by rfl) _ rfl) ?_;refine jm (vI 0) ?_;refine aN hb hB1 hB2 fun X1 hX1 hb hB1 hB2=>?_;replace hrd:=Rd.below hrd hX1;replace hcs:=Cs.lasts B cs _ _ _ hcs hX1;obtain ⟨m0,hm0⟩:∃ m0,m0=X1.heap.size:=⟨_,rfl⟩
 have hmW:W.heap.size≤m0:=by rw [hm0];exact hb.size
 have hms:m0≤X1.heap.size:=by omega
 have hJS:J m0 (ixN l a 0).length X1:=hJ0 m0 X1 hmW hb
 have hg1:g1<m0:=by rw [hm0];exact hB1.lt
 have hg2:g2<m0:=by rw [hm0];exact hB2.lt
 clear hm0
 go_wp2
 go_loopw [11] (fun kv wr=>∃ k:Nat,k≤n∧kv=vI k∧m0≤wr.heap.size∧J m0 (ixN l a k).length wr∧Blk wr g1 79 [vI c,.slice A n cp,.slice A2 m cp2]∧Blk wr g2 3 [vI a]∧Rd wr 13 (.slice A n cp) n (fl enc l)∧Cs B cs (.slice A2 m cp2) wr) (fun kv _=>n-(intOf kv).toNat)
 case atStart=>exact ⟨0,by omega,rfl,hms,hJS,hB1,hB2,hrd,hcs⟩
 case round =>
  clear hB1 hB2 hrd hcs hJS hms hb;obtain ⟨k,hk,rfl,hms,hJt,hB1,hB2,hrd,hcs⟩:=hrel
  rcases Nat.lt_or_ge k n with hlt|hlt
  ·have hb:Below wr.heap.size wr wr:=Below.refl _ _
   obtain ⟨b,off,rfl,hbb,hcx⟩:=fL hrd HLN.out hlt;have hbW:b<m0:=Nat.lt_of_lt_of_le (tY HRW.out HLN.out hlt).1 hmW;have hTB:¬ T b:=hTb (by omega) b off rfl
   have hkl:k<l.length:=by rw [HLN.out];exact hlt
   obtain ⟨x,x9⟩:∃ x,x=en l k:=⟨_,rfl⟩;have HX:=Lib.hid x9
   have HRG:Hid (Rg c k x):=by rw [x9];exact HK.out.rg hkl
   have hxs:tz x.am.2.1 x.am.2.2 1000000:=by rw [x9];exact HSX.out k
   clear x9;rw [← HX.out] at hcx
   change Cl wr b (off+k * 13) (eL x) at hcx
   have HCE:Hid (∀ X,Since wr X→Es l (.slice (some ⟨b,off,none⟩) n cp) X∧Cs B cs (.slice A2 m cp2) X):=fun X h=>⟨by show Rd X 13 _ l.length _;rw [HLN.out];exact hrd.below h,Cs.lasts B cs _ _ _ hcs h⟩
   go_upto_region 1 with fail;refine jp ?_;refine cE (k:Int) (n:Int) (by omega) ?_;refine aN hb hB1 hB2 fun X1 hX1 hb hB1 hB2=>?_;replace hrd:=Rd.below hrd hX1;replace hcs:=Cs.lasts B cs _ _ _ hcs hX1;have hcx:=hcx.below hX1 hbb;replace hbb:=Nat.lt_of_lt_of_le hbb (hX1).size;go_upto_region 2 with fail;refine jq 3 ?_;refine jm (vI k) ?_;refine jv (vP b (off+k * 13)) (aR Tryz.underlying22 aL _ _ (by rfl) b (off) n cp k (by omega) (by rfl) (by rfl) rfl) ?_;refine jg (.agg #[vI x.day,vI x.deb,vI x.cre,.bool x.am.1,st x.am.2.1,st x.am.2.2,vI x.kd,vI x.pd,vI x.rf,vI x.w1,vI x.w2,vI x.w3,vI x.w4]) (fun X hX hF=>cW 76 _ (by rfl) b (off+k * 13) (by rfl) Tryz.underlying76 rfl (eL x) X (Cl.part (hcx.below hX hbb) 0 _ (by rfl)) aL) ?_;refine aN hb hB1 hB2 fun X2 hX2 hb hB1 hB2=>?_;replace hrd:=Rd.below hrd hX2;replace hcs:=Cs.lasts B cs _ _ _ hcs hX2;have hcx:=hcx.below hX2 hbb;replace hbb:=Nat.lt_of_lt_of_le hbb (hX2).size;go_upto_region 3 with (refine osn 76 5 15 #[vI x.day,vI x.deb,vI x.cre,.bool x.am.1,vS x.am.2.1,vS x.am.2.2,vI x.kd,vI x.pd,vI x.rf,vI x.w1,vI x.w2,vI x.w3,vI x.w4] aL ?_)
   obtain ⟨Y2,hY9,hD5,hS9⟩:=aT X2 76 (eL x);rw [← hY9];clear hY9;have hgs5:=hb.size;have hlt5x0:=hB1.lt;have hlt5x1:=hB2.lt;replace hrd:=Rd.below hrd hS9;replace hcs:=Cs.lasts B cs _ _ _ hcs hS9;have hcx:=hcx.below hS9 hbb;replace hbb:=Nat.lt_of_lt_of_le hbb (hS9).size;obtain ⟨hB1,hB2⟩:=bl2 hS9 hB1 hB2;have hb:=aI hb hS9;clear hS9;generalize X2.heap.size=g5 at *
   rcases (show (x.deb≠a∧x.cre≠a)∨x.deb=a∨(x.deb≠a∧x.cre=a) by omega) with hd|hd|hd
   ·have HM:Hid (mtc x a=false):=mtc_f hd.1 hd.2
    have HJ2:Hid (∀ X,Since wr X→J m0 (ixN l a (k+1)).length X):=fun X h=>by
     rw [wY (by rw [← HX.out];exact HM.out)];exact hJ _ _ _ _ hJt h
    go_upto_region 3 with fail;refine jp ?_;refine jnf hD5 1 aA ?_;refine jf _ hB2 0 aA ?_;refine jv (.bool true) (bA _ _ _ _ (by rfl) .i64 x.deb a (by rfl) (by rfl) true (by rw [decide_eq_false (by omega)];rfl)) ?_;refine jm (.bool true) ?_;refine jnf hD5 2 aA ?_;refine jf _ hB2 0 aA ?_;refine jv (.bool true) (bA _ _ _ _ (by rfl) .i64 x.cre a (by rfl) (by rfl) true (by rw [decide_eq_false (by omega)];rfl)) ?_;refine jm (.bool true) ?_;refine bE hb hB1 hB2 hD5 fun X3 hX3 hb hB1 hB2 hD5=>?_;replace hrd:=Rd.below hrd hX3;replace hcs:=Cs.lasts B cs _ _ _ hcs hX3;go_upto_region 9 with fail;refine jp ?_;refine jv (vI ((k+1:Nat):Int)) (bB _ _ _ _ (by rfl) (k:Int) 1 ((k+1:Nat):Int) (by rfl) (by rfl) (by omega) (by omega) (by omega)) ?_;refine jm (vI ((k+1:Nat):Int)) ?_;refine bE hb hB1 hB2 hD5 fun X4 hX4 hb hB1 hB2 hD5=>?_;replace hrd:=Rd.below hrd hX4;replace hcs:=Cs.lasts B cs _ _ _ hcs hX4;have hms2:=Nat.le_trans hms hb.size;have hJ3:=HJ2.out _ hb
    go_wp2
    go_roundw
    case rel=>exact ⟨k+1,by omega,rfl,hms2,hJ3,hB1,hB2,hrd,hcs⟩
    case measure=>simp [intOf];omega
   ·have HM:Hid (mtc x a=true):=vQv (by omega)
    obtain ⟨hij,hjl⟩:=qVs (l:=l) (a:=a) (n:=k) hkl (by rw [← HX.out];exact HM.out);have HIJ:=Lib.hid hij
    have HNX:Hid ((ixN l a (k+1)).length=(ixN l a k).length+1):=by
     show _=_
     rw [pB (by rw [← HX.out];exact HM.out),List.length_append]
     rfl
    clear hij;have HDA:=Lib.hid hd;clear hd
    have HAM:Hid ((.agg #[.bool (rN (ent x a)),vS (rP (ent x a)),vS (rD (ent x a))]:Value)=.agg #[.bool x.am.1,vS x.am.2.1,vS x.am.2.2]):=by
     obtain ⟨e1,e2,e3⟩:=vQz HRG.out.vl HDA.out HRG.out.ne;exact jS ⟨e1,e2,e3⟩
    have hcne:x.cre≠a:=fun h9=>HRG.out.ne (HDA.out.trans h9.symm)
    go_upto_region 3 with fail;refine jp ?_;refine jnf hD5 1 aA ?_;refine jf _ hB2 0 aA ?_;refine jv (.bool false) (bA _ _ _ _ (by rfl) .i64 x.deb a (by rfl) (by rfl) false (by rw [decide_eq_true HDA.out];rfl)) ?_;refine jm (.bool false) ?_;refine bR ?_;refine jm (.bool false) ?_;refine bE hb hB1 hB2 hD5 fun X3 hX3 hb hB1 hB2 hD5=>?_;replace hrd:=Rd.below hrd hX3;replace hcs:=Cs.lasts B cs _ _ _ hcs hX3;go_upto_region 4 with fail;refine jq 5 ?_;refine jm (vI k) ?_;refine ja hD5 Tryz.underlying76 (by rfl) aL ?_;refine jn (vP g5 3) ?_;refine jg (rt (rN (ent x a)) (rP (ent x a)) (rD (ent x a))) (fun X hX hF=>jE HAM.out (aY 40 _ (by rfl) g5 3 [.bool x.am.1,vS x.am.2.1,vS x.am.2.2] (by rfl) Tryz.underlying40 rfl X (hD5.bel hX) (by rfl) aC)) ?_;refine jn (.agg #[vI k,vI x.day,vI x.deb,vI x.cre,.bool x.am.1,st x.am.2.1,st x.am.2.2,vI x.kd,vI x.pd,vI x.rf,vI x.w1,vI x.w2,vI x.w3,vI x.w4,.bool (rN (ent x a)),st (rP (ent x a)),st (rD (ent x a)),.bool false]) ?_;refine bE hb hB1 hB2 hD5 fun X4 hX4 hb hB1 hB2 hD5=>?_;replace hrd:=Rd.below hrd hX4;replace hcs:=Cs.lasts B cs _ _ _ hcs hX4;go_upto_region 5 with (refine osn 96 6 30 #[vI k,vI x.day,vI x.deb,vI x.cre,.bool x.am.1,vS x.am.2.1,vS x.am.2.2,vI x.kd,vI x.pd,vI x.rf,vI x.w1,vI x.w2,vI x.w3,vI x.w4,.bool (rN (ent x a)),vS (rP (ent x a)),vS (rD (ent x a)),.bool false] jD ?_)
    obtain ⟨Y4,hY9,hD6,hS9⟩:=aT X4 96 [vI k,vI x.day,vI x.deb,vI x.cre,.bool x.am.1,vS x.am.2.1,vS x.am.2.2,vI x.kd,vI x.pd,vI x.rf,vI x.w1,vI x.w2,vI x.w3,vI x.w4,.bool (rN (ent x a)),vS (rP (ent x a)),vS (rD (ent x a)),.bool false];rw [← hY9];clear hY9;have hgs6:=hb.size;have hlt6x0:=hB1.lt;have hlt6x1:=hB2.lt;have hlt6x2:=hD5.lt;replace hrd:=Rd.below hrd hS9;replace hcs:=Cs.lasts B cs _ _ _ hcs hS9;obtain ⟨hB1,hB2,hD5⟩:=bl3 hS9 hB1 hB2 hD5;have hb:=aI hb hS9;clear hS9;generalize X4.heap.size=g6 at *;obtain ⟨eo,eo9⟩:∃ eo,cI cs x k=eo:=⟨_,rfl⟩
    have HEO:Hid (cI cs (en l k) k=eo):=by rw [← HX.out];exact eo9
    clear eo9;obtain ⟨kd,kd9⟩:∃ kd,decide (x.kd=3)=kd:=⟨_,rfl⟩;have HKD:=Lib.hid kd9
    have HKE:Hid (decide ((en l k).kd=3)=kd):=by rw [← HX.out];exact kd9
    clear kd9
    have hpd:0≤(en l k).pd:=by rw [← HX.out];exact HRG.out.p0
    refine jq 7 ?_;refine ja hB1 Tryz.underlying79 (by rfl) mE ?_;refine jm (vI k) ?_;refine jc (.tuple #[.bool kd,.bool eo]) (fun X hX hF=>mo (vZe B c _ _ l cs k X (HCE.out X (Since.next hb hX)).1 (HCE.out X (Since.next hb hX)).2 hkl hpd) (by rw [HKE.out,HEO.out])) ?_;refine aX (.tuple #[.bool kd,.bool eo]) (.bool kd) (.bool eo) ?_;refine jn (vP g6 17) ?_;refine cM hb hB1 hB2 hD5 hD6 fun X5 hX5 hb hB1 hB2 hD5 hD6=>?_;replace hrd:=Rd.below hrd hX5;replace hcs:=Cs.lasts B cs _ _ _ hcs hX5;refine cB rfl g6 17 96 _ hD6 (.bool kd) (by simp) (fun X u h1 h2=>eI _ _ (by rfl) _ _ (by rfl) (by rfl) u X h1 h2) ?_;intro w5 hR9 hG9;have hb:=aV hG9 hb hb.size (by omega);replace hB1:=aE hG9 hB1 (by omega);replace hB2:=aE hG9 hB2 (by omega);replace hD5:=aE hG9 hD5 (by omega);have hES9:=(HCE.out _ hb).1
    replace hrd:Rd w5 13 (.slice (some ⟨b,off,none⟩) n cp) n (fl enc l):=by unfold Es at hES9;rw [HLN.out] at hES9;exact hES9
    replace hcs:=(HCE.out _ hb).2;clear hES9;have hD6:=hR9;clear hR9 hG9;refine wpList_nil ?_;go_upto_region 6 with fail;refine jp ?_;refine jnf hD5 2 aA ?_;refine jf _ hB2 0 aA ?_;refine dN x.cre a (by omega) ?_;refine cM hb hB1 hB2 hD5 hD6 fun X6 hX6 hb hB1 hB2 hD5 hD6=>?_;replace hrd:=Rd.below hrd hX6;replace hcs:=Cs.lasts B cs _ _ _ hcs hX6;go_upto_region 8 with fail;refine (wpIn_wide (n:=0)).1 ?_;refine nP 2 [] (by rintro ⟨_,_,⟨_,h9⟩,_⟩;cases h9) (aH) ?_;simp only [its,List.take,List.drop,Nat.zero_add,Nat.reduceAdd];refine jm (.func (.yield y9) #[] #[]) ?_;refine ja hD6 Tryz.underlying96 (by rfl) jD ?_;refine aJ ?_;intro X9 hX9 _;have hbX:=Since.next hb hX9;have hms9:=Nat.le_trans hms hbX.size;have HYX:=hY m0 (ixN l a k).length X9 hmW hms9 hjl (hJ _ _ _ _ hJt hbX);rw [HIJ.out,← HX.out] at HYX;have HYX:YieldAt Fence.wide 0 Tryz.prog y9 #[.agg #[vI k,vI x.day,vI x.deb,vI x.cre,.bool x.am.1,vS x.am.2.1,vS x.am.2.2,vI x.kd,vI x.pd,vI x.rf,vI x.w1,vI x.w2,vI x.w3,vI x.w4,.bool (rN (ent x a)),vS (rP (ent x a)),vS (rD (ent x a)),.bool (decide (x.kd=3))]] X9 _:=HYX;rw [HKD.out] at HYX;refine tC (S:=fun Y=>J m0 ((ixN l a k).length+1) Y∧But m0 T X9 Y) (by rfl) (.tmp 46) [.tmp 47] _ rfl y9 rfl [.agg #[vI k,vI x.day,vI x.deb,vI x.cre,.bool x.am.1,vS x.am.2.1,vS x.am.2.2,vI x.kd,vI x.pd,vI x.rf,vI x.w1,vI x.w2,vI x.w3,vI x.w4,.bool (rN (ent x a)),vS (rP (ent x a)),vS (rD (ent x a)),.bool kd]] rfl HYX fun Y hJB=>?_
    obtain ⟨hJ2,hB9⟩:=hJB;refine kK (by rintro ⟨_,_,⟨_,h9⟩,_⟩;cases h9) _ _ _ ?_;replace hB1:=hB9.blk (hB1.bel hX9) hg1 hT1;replace hB2:=hB9.blk (hB2.bel hX9) hg2 hT2;replace hrd:=Rd.but0 (hrd.below hX9) hB9 (fun _ b' off' h9=>by injection h9 with h9;injection h9 with h8 h7;subst h8;exact ⟨hbW,hTB⟩)
    replace hcs:=Cs.but (Cs.lasts B cs _ _ _ hcs hX9) hB9 (fun hm9 b' off' h9=>⟨by
     subst h9
     exact Nat.lt_of_lt_of_le (Rd.blkb HCW.out.rd (by rw [HLM.out];exact hm9)) hmW,hTc hm9 b' off' h9⟩)
    have hmsY:=Nat.le_trans hms9 hB9.size;clear hb hB9 HYX hJt hms9 hms hX9 hbX hD6 hD5 HCE;have hms:=hmsY;have hb:Below Y.heap.size Y Y:=Below.refl _ _
    have HJ2:Hid (∀ X,Since Y X→J m0 (ixN l a (k+1)).length X):=fun X h=>by
     rw [HNX.out];exact hJ _ _ _ _ hJ2 h
    clear hJ2;go_upto_region 9 with fail;refine jp ?_;refine jv (vI ((k+1:Nat):Int)) (bB _ _ _ _ (by rfl) (k:Int) 1 ((k+1:Nat):Int) (by rfl) (by rfl) (by omega) (by omega) (by omega)) ?_;refine jm (vI ((k+1:Nat):Int)) ?_;refine aN hb hB1 hB2 fun X7 hX7 hb hB1 hB2=>?_;replace hrd:=Rd.below hrd hX7;replace hcs:=Cs.lasts B cs _ _ _ hcs hX7;have hms2:=Nat.le_trans hms hb.size;have hJ3:=HJ2.out _ hb
    go_wp2
    go_roundw
    case rel=>exact ⟨k+1,by omega,rfl,hms2,hJ3,hB1,hB2,hrd,hcs⟩
    case measure=>simp [intOf];omega
   ·have HM:Hid (mtc x a=true):=vQv (by omega)
    obtain ⟨hij,hjl⟩:=qVs (l:=l) (a:=a) (n:=k) hkl (by rw [← HX.out];exact HM.out);have HIJ:=Lib.hid hij
    have HNX:Hid ((ixN l a (k+1)).length=(ixN l a k).length+1):=by
     show _=_
     rw [pB (by rw [← HX.out];exact HM.out),List.length_append]
     rfl
    clear hij;have hdne:=hd.1;have HCA:=Lib.hid hd.2;clear hd;have HEC:Hid (-(trq x.am)=ent x a):=(vVa hdne HCA.out).symm;go_upto_region 3 with fail;refine jp ?_;refine jnf hD5 1 aA ?_;refine jf _ hB2 0 aA ?_;refine jv (.bool true) (bA _ _ _ _ (by rfl) .i64 x.deb a (by rfl) (by rfl) true (by rw [decide_eq_false (by omega)];rfl)) ?_;refine jm (.bool true) ?_;refine jnf hD5 2 aA ?_;refine jf _ hB2 0 aA ?_;refine jv (.bool false) (bA _ _ _ _ (by rfl) .i64 x.cre a (by rfl) (by rfl) false (by rw [decide_eq_true HCA.out];rfl)) ?_;refine jm (.bool false) ?_;refine bE hb hB1 hB2 hD5 fun X3 hX3 hb hB1 hB2 hD5=>?_;replace hrd:=Rd.below hrd hX3;replace hcs:=Cs.lasts B cs _ _ _ hcs hX3;go_upto_region 4 with fail;refine jq 5 ?_;refine jm (vI k) ?_;refine ja hD5 Tryz.underlying76 (by rfl) aL ?_;refine jn (vP g5 3) ?_;refine jg (.agg #[.bool x.am.1,st x.am.2.1,st x.am.2.2]) (fun X hX hF=>aY 40 _ (by rfl) g5 3 [.bool x.am.1,vS x.am.2.1,vS x.am.2.2] (by rfl) Tryz.underlying40 rfl X (hD5.bel hX) (by rfl) aC) ?_;refine jn (.agg #[vI k,vI x.day,vI x.deb,vI x.cre,.bool x.am.1,st x.am.2.1,st x.am.2.2,vI x.kd,vI x.pd,vI x.rf,vI x.w1,vI x.w2,vI x.w3,vI x.w4,.bool x.am.1,st x.am.2.1,st x.am.2.2,.bool false]) ?_;refine bE hb hB1 hB2 hD5 fun X4 hX4 hb hB1 hB2 hD5=>?_
    replace hrd:=Rd.below hrd hX4;replace hcs:=Cs.lasts B cs _ _ _ hcs hX4;go_upto_region 5 with (refine osn 96 6 30 #[vI k,vI x.day,vI x.deb,vI x.cre,.bool x.am.1,vS x.am.2.1,vS x.am.2.2,vI x.kd,vI x.pd,vI x.rf,vI x.w1,vI x.w2,vI x.w3,vI x.w4,.bool x.am.1,vS x.am.2.1,vS x.am.2.2,.bool false] jD ?_);obtain ⟨Y4,hY9,hD6,hS9⟩:=aT X4 96 [vI k,vI x.day,vI x.deb,vI x.cre,.bool x.am.1,vS x.am.2.1,vS x.am.2.2,vI x.kd,vI x.pd,vI x.rf,vI x.w1,vI x.w2,vI x.w3,vI x.w4,.bool x.am.1,vS x.am.2.1,vS x.am.2.2,.bool false];rw [← hY9];clear hY9;have hgs6:=hb.size;have hlt6x0:=hB1.lt;have hlt6x1:=hB2.lt;have hlt6x2:=hD5.lt;replace hrd:=Rd.below hrd hS9;replace hcs:=Cs.lasts B cs _ _ _ hcs hS9;obtain ⟨hB1,hB2,hD5⟩:=bl3 hS9 hB1 hB2 hD5;have hb:=aI hb hS9;clear hS9;generalize X4.heap.size=g6 at *;obtain ⟨eo,eo9⟩:∃ eo,cI cs x k=eo:=⟨_,rfl⟩
    have HEO:Hid (cI cs (en l k) k=eo):=by rw [← HX.out];exact eo9
    clear eo9;obtain ⟨kd,kd9⟩:∃ kd,decide (x.kd=3)=kd:=⟨_,rfl⟩;have HKD:=Lib.hid kd9
    have HKE:Hid (decide ((en l k).kd=3)=kd):=by rw [← HX.out];exact kd9
    clear kd9
    have hpd:0≤(en l k).pd:=by rw [← HX.out];exact HRG.out.p0
    refine jq 7 ?_;refine ja hB1 Tryz.underlying79 (by rfl) mE ?_;refine jm (vI k) ?_;refine jc (.tuple #[.bool kd,.bool eo]) (fun X hX hF=>mo (vZe B c _ _ l cs k X (HCE.out X (Since.next hb hX)).1 (HCE.out X (Since.next hb hX)).2 hkl hpd) (by rw [HKE.out,HEO.out])) ?_;refine aX (.tuple #[.bool kd,.bool eo]) (.bool kd) (.bool eo) ?_;refine jn (vP g6 17) ?_;refine cM hb hB1 hB2 hD5 hD6 fun X5 hX5 hb hB1 hB2 hD5 hD6=>?_;replace hrd:=Rd.below hrd hX5;replace hcs:=Cs.lasts B cs _ _ _ hcs hX5;refine cB rfl g6 17 96 _ hD6 (.bool kd) (by simp) (fun X u h1 h2=>eI _ _ (by rfl) _ _ (by rfl) (by rfl) u X h1 h2) ?_;intro w5 hR9 hG9;have hb:=aV hG9 hb hb.size (by omega);replace hB1:=aE hG9 hB1 (by omega);replace hB2:=aE hG9 hB2 (by omega);replace hD5:=aE hG9 hD5 (by omega);have hES9:=(HCE.out _ hb).1
    replace hrd:Rd w5 13 (.slice (some ⟨b,off,none⟩) n cp) n (fl enc l):=by unfold Es at hES9;rw [HLN.out] at hES9;exact hES9
    replace hcs:=(HCE.out _ hb).2;clear hES9;have hD6:=hR9;clear hR9 hG9;refine wpList_nil ?_;go_upto_region 6 with fail;refine jp ?_;refine jnf hD5 2 aA ?_;refine jf _ hB2 0 aA ?_;refine dA x.cre a HCA.out ?_;refine cM hb hB1 hB2 hD5 hD6 fun X6 hX6 hb hB1 hB2 hD5 hD6=>?_;replace hrd:=Rd.below hrd hX6;replace hcs:=Cs.lasts B cs _ _ _ hcs hX6;go_upto_region 7 with fail;refine jq 4 ?_;refine jn (vP g5 3) ?_;refine jg (.agg #[.bool x.am.1,st x.am.2.1,st x.am.2.2]) (fun X hX hF=>aY 40 _ (by rfl) g5 3 [.bool x.am.1,vS x.am.2.1,vS x.am.2.2] (by rfl) Tryz.underlying40 rfl X (hD5.bel hX) (by rfl) aC) ?_;refine jc (rt (rN (ent x a)) (rP (ent x a)) (rD (ent x a))) (fun X hX hF=>(vXv x.am.1 x.am.2.1 x.am.2.2 rfl X hxs).mono fun e X' ⟨h1,h2⟩=>⟨by rw [h1];show _=_;rw [show rq x.am.1 x.am.2.1 x.am.2.2=trq x.am from rfl,HEC.out],h2⟩) ?_;refine jn (vP g6 14) ?_;refine cM hb hB1 hB2 hD5 hD6 fun X7 hX7 hb hB1 hB2 hD5 hD6=>?_;replace hrd:=Rd.below hrd hX7;replace hcs:=Cs.lasts B cs _ _ _ hcs hX7;refine cL rfl 40 (.tmp 45) (.tmp 44) rfl g6 96 _ hD6 14 rfl [.bool (rN (ent x a)),vS (rP (ent x a)),vS (rD (ent x a))] rfl (by simp) (al3 rfl rfl rfl) aC ?_;intro w7 hR9 hG9 hs9
    change Blk w7 g6 96 [vI k,vI x.day,vI x.deb,vI x.cre,.bool x.am.1,vS x.am.2.1,vS x.am.2.2,vI x.kd,vI x.pd,vI x.rf,vI x.w1,vI x.w2,vI x.w3,vI x.w4,.bool (rN (ent x a)),vS (rP (ent x a)),vS (rD (ent x a)),.bool kd] at hR9
    clear hs9;have hb:=aV hG9 hb hb.size (by omega);replace hB1:=aE hG9 hB1 (by omega);replace hB2:=aE hG9 hB2 (by omega);replace hD5:=aE hG9 hD5 (by omega);have hES9:=(HCE.out _ hb).1
    replace hrd:Rd w7 13 (.slice (some ⟨b,off,none⟩) n cp) n (fl enc l):=by unfold Es at hES9;rw [HLN.out] at hES9;exact hES9
    replace hcs:=(HCE.out _ hb).2;clear hES9;have hD6:=hR9;clear hR9 hG9;refine wpList_nil ?_;go_upto_region 8 with fail;refine (wpIn_wide (n:=0)).1 ?_;refine nP 2 [] (by rintro ⟨_,_,⟨_,h9⟩,_⟩;cases h9) (aH) ?_;simp only [its,List.take,List.drop,Nat.zero_add,Nat.reduceAdd];refine jm (.func (.yield y9) #[] #[]) ?_;refine ja hD6 Tryz.underlying96 (by rfl) jD ?_;refine aJ ?_;intro X9 hX9 _;have hbX:=Since.next hb hX9;have hms9:=Nat.le_trans hms hbX.size;have HYX:=hY m0 (ixN l a k).length X9 hmW hms9 hjl (hJ _ _ _ _ hJt hbX);rw [HIJ.out,← HX.out] at HYX;have HYX:YieldAt Fence.wide 0 Tryz.prog y9 #[.agg #[vI k,vI x.day,vI x.deb,vI x.cre,.bool x.am.1,vS x.am.2.1,vS x.am.2.2,vI x.kd,vI x.pd,vI x.rf,vI x.w1,vI x.w2,vI x.w3,vI x.w4,.bool (rN (ent x a)),vS (rP (ent x a)),vS (rD (ent x a)),.bool (decide (x.kd=3))]] X9 _:=HYX;rw [HKD.out] at HYX;refine tC (S:=fun Y=>J m0 ((ixN l a k).length+1) Y∧But m0 T X9 Y) (by rfl) (.tmp 46) [.tmp 47] _ rfl y9 rfl [.agg #[vI k,vI x.day,vI x.deb,vI x.cre,.bool x.am.1,vS x.am.2.1,vS x.am.2.2,vI x.kd,vI x.pd,vI x.rf,vI x.w1,vI x.w2,vI x.w3,vI x.w4,.bool (rN (ent x a)),vS (rP (ent x a)),vS (rD (ent x a)),.bool kd]] rfl HYX fun Y hJB=>?_
    obtain ⟨hJ2,hB9⟩:=hJB;refine kK (by rintro ⟨_,_,⟨_,h9⟩,_⟩;cases h9) _ _ _ ?_;replace hB1:=hB9.blk (hB1.bel hX9) hg1 hT1;replace hB2:=hB9.blk (hB2.bel hX9) hg2 hT2;replace hrd:=Rd.but0 (hrd.below hX9) hB9 (fun _ b' off' h9=>by injection h9 with h9;injection h9 with h8 h7;subst h8;exact ⟨hbW,hTB⟩)
    replace hcs:=Cs.but (Cs.lasts B cs _ _ _ hcs hX9) hB9 (fun hm9 b' off' h9=>⟨by
     subst h9
     exact Nat.lt_of_lt_of_le (Rd.blkb HCW.out.rd (by rw [HLM.out];exact hm9)) hmW,hTc hm9 b' off' h9⟩)
    have hmsY:=Nat.le_trans hms9 hB9.size;clear hb hB9 HYX hJt hms9 hms hX9 hbX hD6 hD5 HCE;have hms:=hmsY;have hb:Below Y.heap.size Y Y:=Below.refl _ _
    have HJ2:Hid (∀ X,Since Y X→J m0 (ixN l a (k+1)).length X):=fun X h=>by
     rw [HNX.out];exact hJ _ _ _ _ hJ2 h
    clear hJ2;go_upto_region 9 with fail;refine jp ?_;refine jv (vI ((k+1:Nat):Int)) (bB _ _ _ _ (by rfl) (k:Int) 1 ((k+1:Nat):Int) (by rfl) (by rfl) (by omega) (by omega) (by omega)) ?_;refine jm (vI ((k+1:Nat):Int)) ?_;refine aN hb hB1 hB2 fun X8 hX8 hb hB1 hB2=>?_;replace hrd:=Rd.below hrd hX8;replace hcs:=Cs.lasts B cs _ _ _ hcs hX8;have hms2:=Nat.le_trans hms hb.size;have hJ3:=HJ2.out _ hb
    go_wp2
    go_roundw
    case rel=>exact ⟨k+1,by omega,rfl,hms2,hJ3,hB1,hB2,hrd,hcs⟩
    case measure=>simp [intOf];omega
  ·have hb:Below wr.heap.size wr wr:=Below.refl _ _
   have HKN:Hid (k=l.length):=by show _=_;rw [HLN.out];omega
   go_upto_region 1 with fail;refine jp ?_;refine bI (k:Int) (n:Int) (by omega) ?_;refine aN hb hB1 hB2 fun X1 hX1 hb hB1 hB2=>?_;replace hrd:=Rd.below hrd hX1;replace hcs:=Cs.lasts B cs _ _ _ hcs hX1
   have hJE:J m0 (ixA l a).length X1:=by
    have h9:=hJ _ _ _ _ hJt hb;rw [HKN.out] at h9;exact h9
   go_wp2
   go_end0
   exact ⟨⟨_,rfl⟩,m0,hmW,hJE⟩
end Go.Proofs.YtjkfchehkpmhkaaGreatDoor

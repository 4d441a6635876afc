/- period: figure, Figure. -/
import Derived.Test.YtjkfchehkpmhkaaGreatDoorPc45
import Derived.Test.YtjkfchehkpmhkaaGreatDoorPd45
import Derived.Test.YtjkfchehkpmhkaaGreatDoorBg
set_option linter.unusedSimpArgs false
set_option linter.unusedVariables false
set_option maxRecDepth 100000
set_option maxHeartbeats 1600000
namespace Go.Proofs.YtjkfchehkpmhkaaGreatDoor
open Go.RowKit
theorem oL (w:World) (T1 T2 T3 T4:TypeId) (x1 x2 x3 x4:List Value):∃ W,W=(((w.alloc (.cells x1.toArray T1)).alloc (.cells x2.toArray T2)).alloc (.cells x3.toArray T3)).alloc (.cells x4.toArray T4)∧Blk W w.heap.size T1 x1∧Blk W (w.heap.size+1) T2 x2∧Blk W (w.heap.size+2) T3 x3∧Blk W (w.heap.size+3) T4 x4∧Below w.heap.size w W:=by
 obtain ⟨W1,e1,h1,h2,h3,b1⟩:=dO w T1 T2 T3 x1 x2 x3
 have hs:W1.heap.size=w.heap.size+3:=by rw [e1,size_alloc,size_alloc,size_alloc]
 refine ⟨W1.alloc (.cells x4.toArray T4),by rw [e1],h1.bel (bL _ _),h2.bel (bL _ _),h3.bel (bL _ _),?_,aI b1 (bL _ _)⟩;have h4:Blk (W1.alloc (.cells x4.toArray T4)) W1.heap.size T4 x4:=Blk.new rfl
 rwa [hs] at h4
theorem xC (a:Int) (k:Nat) (x:En):∀ u∈imc a k x,u.oneCell'=true:=by
 intro u hu;simp only [imc,List.mem_cons,List.not_mem_nil,or_false] at hu
 rcases hu with rfl|rfl|rfl|rfl|rfl|rfl|rfl|rfl|rfl|rfl|rfl|rfl|rfl|rfl|rfl|rfl|rfl|rfl <;> rfl
theorem vYt {cs:List Cg} {p d:Int} (h:¬ p<(cs.length:Int)):gU cs p d=false:=by
 unfold gU
 rw [decide_eq_false h,Bool.false_and]
theorem vYs {cs:List Cg} {p d:Int} (h:p<(cs.length:Int)):gU cs p d=decide ((cg cs p.toNat).day≤d):=by
 unfold gU
 rw [decide_eq_true h,Bool.true_and]
def dR (clo:Bool) (z:Rat):Rat:=if clo=true then z else 0
structure FgI (w:World) (l:List En) (p a d:Int) (clo:Bool) (g9:Nat) (k:Nat) (X:World):Prop where
 out:Blk X g9 55 [.bool (rN (kS l p a d k)),vS (rP (kS l p a d k)),vS (rD (kS l p a d k)),.bool (rN (dR clo (zS l p a d k))),.string ⟨(rP (dR clo (zS l p a d k))).toArray⟩,.string ⟨(rD (dR clo (zS l p a d k))).toArray⟩,.bool clo]
 pd:Blk X (w.heap.size+1) 3 [vI p]
 dy:Blk X (w.heap.size+2) 3 [vI d]
 res:Blk X (w.heap.size+3) 55 [.bool false,.string ⟨#[]⟩,.string ⟨#[]⟩,.bool false,.string ⟨#[]⟩,.string ⟨#[]⟩,.bool false]
 bel:Below w.heap.size w X
theorem FgI.kept {w:World} {l:List En} {p a d:Int} {clo:Bool} {g9 k B:Nat} {X Y:World} (h:FgI w l p a d clo g9 k X) (hK:Kept B X Y) (hB:w.heap.size≤B):FgI w l p a d clo g9 k Y :=
 ⟨hK.blk h.out,hK.blk h.pd,hK.blk h.dy,hK.blk h.res,hK.below h.bel hB⟩
set_option maxHeartbeats 8000000 in
theorem vQy (B:Nat) (c:Int) (v z:Value) (l:List En) (cs:List Cg) (p a d:Int) (w:World) (hv:Es l v w) (hz:Cs B cs z w) (hs1:Hid (Sz45 l)) (HK:Hid (Ok44 c l)) (hp0:0≤p):Calls Tryz.prog 35 #[.agg #[vI c,v,z],vI p,vI a,vI d] w fun e w'=>e=.returned (.agg #[.bool (rN (knw l p a d)),vS (rP (knw l p a d)),vS (rD (knw l p a d)),.bool (rN (dR (gU cs p d) (frz l p a d))),.string ⟨(rP (dR (gU cs p d) (frz l p a d))).toArray⟩,.string ⟨(rD (dR (gU cs p d) (frz l p a d))).toArray⟩,.bool (gU cs p d)])∧Since w w':=by
 obtain ⟨A,n,cp,rfl,hln,hn1,HRX,HLN,HES⟩:=sA hv;clear hv;obtain ⟨A2,m,cp2,rfl,hlm,hm1,hr2⟩:=hz.at
 have HCS:Hid (∀ X,Since w X→Cs B cs (.slice A2 m cp2) X):=fun X h=>Cs.lasts B cs _ _ _ hz h
 have HRC:Hid (∀ X,Since w X→Rd X 2 (.slice A2 m cp2) m (fl clc cs)):=fun X h=>hr2.below h
 have HLM:=Lib.hid hlm;clear hz hr2;refine fY Tryz.func35 rfl ?_;simp only [Tryz.ntmps35,List.size_toArray,List.length_cons,List.length_nil,Nat.reduceAdd,Nat.reduceSub,Array.replicate_succ,Array.replicate_zero,List.push_toArray,List.append_toArray,List.nil_append,List.cons_append];go_upto_region 1 with fail;obtain ⟨W0,hW0,hB0,hB1,hB2,hB3,hb⟩:=oL w 79 3 3 55 [vI c,.slice A n cp,.slice A2 m cp2] [vI p] [vI d] [.bool false,.string ⟨#[]⟩,.string ⟨#[]⟩,.bool false,.string ⟨#[]⟩,.string ⟨#[]⟩,.bool false];rw [← hW0];clear hW0;go_upto_region 2 with fail;obtain ⟨Y0,hY9,hD9,hS9⟩:=aT W0 55 [.bool false,.string ⟨#[]⟩,.string ⟨#[]⟩,.bool false,.string ⟨#[]⟩,.string ⟨#[]⟩,.bool false];rw [← hY9];clear hY9;have hgs9:=hb.size;have hlt9x0:=hB0.lt;have hlt9x1:=hB1.lt;have hlt9x2:=hB2.lt;have hlt9x3:=hB3.lt;obtain ⟨hB0,hB1,hB2,hB3⟩:=bl4 hS9 hB0 hB1 hB2 hB3;have hb:=aI hb hS9;clear hS9;generalize W0.heap.size=g9 at *;obtain ⟨clo,clo9⟩:∃ clo,gU cs p d=clo:=⟨_,rfl⟩;have HCL:=Lib.hid clo9;clear clo9
 have HS6:Hid (∀ k,tz (en l k).am.2.1 (en l k).am.2.2 1000000):=fun k=>(hs1.out.1 k).mono (by decide)
 refine jO [11,12,13,14,15,16,17,18,19,20,21,22,23,24,25,26] (fun _ X=>Blk X w.heap.size 79 [vI c,.slice A n cp,.slice A2 m cp2]∧Blk X (w.heap.size+1) 3 [vI p]∧Blk X (w.heap.size+2) 3 [vI d]∧Blk X (w.heap.size+3) 55 [.bool false,.string ⟨#[]⟩,.string ⟨#[]⟩,.bool false,.string ⟨#[]⟩,.string ⟨#[]⟩,.bool false]∧Blk X g9 55 [.bool false,.string ⟨#[]⟩,.string ⟨#[]⟩,.bool false,.string ⟨#[]⟩,.string ⟨#[]⟩,.bool clo]∧Below w.heap.size w X) ?_ ?_
 ·rcases (show (m:Int)≤p∨p<(m:Int) by omega) with h9|h9
  ·have HV:Hid (gU cs p d=false):=vYt (by rw [HLM.out];omega)
   obtain rfl:clo=false:=by rw [← HCL.out];exact HV.out
   refine bD [] (by kernel_rfl) (by kernel_rfl) (by kernel_rfl) rfl (aH) ?_;simp only [its,List.dropLast,Nat.zero_add,Nat.reduceAdd];refine jf _ hB1 0 aA ?_;refine jnf hB0 2 aZ ?_;refine jv (vI m) (aF Tryz.underlying25 _ (by rfl) A2 m cp2 (by rfl) _ rfl) ?_;refine bI p (m:Int) (by omega) ?_;refine jm (.bool false) ?_;refine cN ?_;refine jmn (.bool false) (vP g9 6) ?_;refine dU hb hB0 hB1 hB2 hB3 hD9 fun X1 hX1 hb hB0 hB1 hB2 hB3 hD9=>?_;refine cB rfl g9 6 55 _ hD9 (.bool false) (by simp) (fun X u h1 h2=>eI _ _ (by rfl) _ _ (by rfl) (by rfl) u X h1 h2) ?_;intro w2 hR9 hG9;have hb:=aV hG9 hb hb.size (by omega);replace hB0:=aE hG9 hB0 (by omega);replace hB1:=aE hG9 hB1 (by omega);replace hB2:=aE hG9 hB2 (by omega);replace hB3:=aE hG9 hB3 (by omega);exact bK ⟨hB0,hB1,hB2,hB3,hR9,hb⟩
  ·obtain ⟨q,rfl⟩:∃ q:Nat,p=(q:Int):=⟨p.toNat,by omega⟩
   have hqm:q<m:=by omega
   obtain ⟨b2,off2,rfl,hbb2,hcx2⟩:=iL (HRC.out _ hb) HLM.out (k:=q) hqm;obtain ⟨y,y9⟩:∃ y,y=cg cs q:=⟨_,rfl⟩;have HY:=Lib.hid y9;clear y9;rw [← HY.out] at hcx2
   change Cl Y0 b2 (off2+q * 2) [vI y.day,vI y.place] at hcx2
   have HV:Hid (gU cs (q:Int) d=decide (y.day≤d)):=by
    show _=_
    rw [vYs (by rw [HLM.out];omega),Int.toNat_natCast,← HY.out]
   rcases (show y.day≤d∨d<y.day by omega) with hy|hy
   ·obtain rfl:clo=true:=by rw [← HCL.out,HV.out];exact decide_eq_true hy
    refine bD [] (by kernel_rfl) (by kernel_rfl) (by kernel_rfl) rfl (aH) ?_;simp only [its,List.dropLast,Nat.zero_add,Nat.reduceAdd];refine jf _ hB1 0 aA ?_;refine jnf hB0 2 aZ ?_;refine jv (vI m) (aF Tryz.underlying25 _ (by rfl) (some ⟨b2,off2,none⟩) m cp2 (by rfl) _ rfl) ?_;refine cE (q:Int) (m:Int) (by omega) ?_;refine jm (.bool true) ?_;refine jnf hB0 2 aZ ?_;refine jf _ hB1 0 aA ?_;refine jv (vP b2 (off2+q * 2)) (aR Tryz.underlying25 bP _ _ (by rfl) b2 (off2) m cp2 q hqm (by rfl) (by rfl) rfl) ?_;refine jn (vP b2 (off2+q * 2)) ?_;refine jg (vI y.day) (fun X hX hF=>aP 3 _ (by rfl) b2 (off2+q * 2) (by rfl) _ X ((hcx2.below hX hbb2) 0 _ rfl) (fun X u h=>aA b2 (off2+q * 2) X u h)) ?_;refine jf _ hB2 0 aA ?_;refine nT y.day d (by omega) ?_;refine jmn (.bool true) (vP g9 6) ?_;refine dU hb hB0 hB1 hB2 hB3 hD9 fun X1 hX1 hb hB0 hB1 hB2 hB3 hD9=>?_;have hcx2:=hcx2.below hX1 hbb2;replace hbb2:=Nat.lt_of_lt_of_le hbb2 (hX1).size;refine cB rfl g9 6 55 _ hD9 (.bool true) (by simp) (fun X u h1 h2=>eI _ _ (by rfl) _ _ (by rfl) (by rfl) u X h1 h2) ?_;intro w2 hR9 hG9;have hb:=aV hG9 hb hb.size (by omega);replace hB0:=aE hG9 hB0 (by omega);replace hB1:=aE hG9 hB1 (by omega);replace hB2:=aE hG9 hB2 (by omega);replace hB3:=aE hG9 hB3 (by omega)
    exact bK ⟨hB0,hB1,hB2,hB3,hR9,hb⟩
   ·obtain rfl:clo=false:=by rw [← HCL.out,HV.out];exact decide_eq_false (by omega)
    refine bD [] (by kernel_rfl) (by kernel_rfl) (by kernel_rfl) rfl (aH) ?_;simp only [its,List.dropLast,Nat.zero_add,Nat.reduceAdd];refine jf _ hB1 0 aA ?_;refine jnf hB0 2 aZ ?_;refine jv (vI m) (aF Tryz.underlying25 _ (by rfl) (some ⟨b2,off2,none⟩) m cp2 (by rfl) _ rfl) ?_;refine cE (q:Int) (m:Int) (by omega) ?_;refine jm (.bool true) ?_;refine jnf hB0 2 aZ ?_;refine jf _ hB1 0 aA ?_;refine jv (vP b2 (off2+q * 2)) (aR Tryz.underlying25 bP _ _ (by rfl) b2 (off2) m cp2 q hqm (by rfl) (by rfl) rfl) ?_;refine jn (vP b2 (off2+q * 2)) ?_;refine jg (vI y.day) (fun X hX hF=>aP 3 _ (by rfl) b2 (off2+q * 2) (by rfl) _ X ((hcx2.below hX hbb2) 0 _ rfl) (fun X u h=>aA b2 (off2+q * 2) X u h)) ?_;refine jf _ hB2 0 aA ?_;refine jW y.day d (by omega) ?_;refine jmn (.bool false) (vP g9 6) ?_;refine dU hb hB0 hB1 hB2 hB3 hD9 fun X1 hX1 hb hB0 hB1 hB2 hB3 hD9=>?_;have hcx2:=hcx2.below hX1 hbb2;replace hbb2:=Nat.lt_of_lt_of_le hbb2 (hX1).size;refine cB rfl g9 6 55 _ hD9 (.bool false) (by simp) (fun X u h1 h2=>eI _ _ (by rfl) _ _ (by rfl) (by rfl) u X h1 h2) ?_;intro w2 hR9 hG9;have hb:=aV hG9 hb hb.size (by omega);replace hB0:=aE hG9 hB0 (by omega);replace hB1:=aE hG9 hB1 (by omega);replace hB2:=aE hG9 hB2 (by omega);replace hB3:=aE hG9 hB3 (by omega)
    exact bK ⟨hB0,hB1,hB2,hB3,hR9,hb⟩
 ·intro f9 X1 hk9
  clear hB0 hB1 hB2 hB3 hD9 hb;obtain ⟨hB0,hB1,hB2,hB3,hD9,hb⟩:=hk9;simp only [dQ,eC,pX];go_upto_region 3 with fail;refine bU [none,none,some (Iti c (.slice A n cp) (.slice A2 m cp2) a (g9+1))] (aB (aB (aD (Iti.lasts _ _ _ _ _) (aH)))) ?_;simp only [iX,Nat.reduceAdd];refine ja hB0 Tryz.underlying79 (by rfl) mE ?_;refine jm (vI a) ?_;refine jk (fun X hX hF=>(itsC c a _ _ n cp m cp2 X).mono fun e X' ⟨vf,h1,⟨q1,q2,h4,h5,h6,h7⟩,h3⟩=>⟨vf,h1,⟨q1,q2,h4,by have:=(hD9.bel hX).lt;omega,by have:=(hD9.bel hX).lt;omega,h7⟩,h3⟩) ?_;intro v29;refine aJ ?_;intro X2 hX2 hF;have sA:=hF _ _ List.mem_cons_self;obtain ⟨hB0,hB1,hB2,hB3,hD9⟩:=bl5 hX2 hB0 hB1 hB2 hB3 hD9;have hb:=aI hb hX2;clear hF hX2;obtain ⟨g1,g2,rfl,hg1,hg2,hC1,hC2⟩:=sA;have hD9L:=hD9.lt;clear hB0
  go_wp2
  refine qG (gf:=79) (lb:=#[vP g1 0,vP g2 0]) (T:=fun k=>k=g9) ?F (fun k g X=>X2.heap.size+2≤g∧Blk X g 96 (imc a (ix l a k) (en l (ix l a k)))) rfl (qW Tryz.func79 (by kernel_rfl) rfl) ?hT (itIt B c _ _ n cp m cp2 l cs a _ X2 g1 g2 HLN.out HLM.out hn1 (HRX.out _ hb) (HCS.out _ hb) HK HS6 hC1 hC2 ?hT ?hT1 ?hT2 ?hTb ?hTc) (fun _=>rfl) (fun _ k X=>FgI w l p a d clo g9 k X) ?hI ?h0 ?hBx ?assign ?body ?done
  case hT =>
   rintro k rfl
   exact hD9L
  case hT1=>intro h9;omega
  case hT2=>intro h9;omega
  case hTb =>
   intro h0 b off hA h9;subst h9;subst hA;have h8:=Rd.blkb (HRX.out w (Below.refl _ _)) h0
   omega
  case hTc =>
   intro h0 b off hA h9;subst h9;have h8:=(HRC.out w (Below.refl _ _));rw [hA] at h8;have h7:=Rd.blkb h8 h0
   omega
  case hI=>exact fun m k X Y h hK=>h.kept hK (Nat.le_trans (by omega) hD9L)
  case h0 =>
   have h9:dR clo (zS l p a d 0)=(0:Rat):=by cases clo <;> rfl
   exact fun m _=>⟨by rw [h9];exact hD9,hB1,hB2,hB3,hb⟩
  case hBx=>exact fun k g X Y h hK=>⟨h.1,hK.blk h.2⟩
  case assign =>
   intro l9 k W K hWs hk hK;have hb:Below W.heap.size W W:=Below.refl _ _;simp only [List.zip_toArray,List.zip_cons_cons,List.zip_nil_left,List.zip_nil_right,List.foldl_toArray,List.foldl_cons,List.foldl_nil,pA,pS,pZ]
   gi_upto_region 4 with fail
   refine fA 0 [] (by kernel_rfl) (by rintro ⟨_,_,h9⟩;exact h9) (aH) ?_;simp only [its,List.take,List.drop,Nat.zero_add,Nat.reduceAdd];refine jzb hb fun X1 hX1 hb=>?_;refine wO rfl rfl 96 [vI 0,vI 0,vI 0,vI 0,.bool false,.string ⟨#[]⟩,.string ⟨#[]⟩,vI 0,vI 0,vI 0,vI 0,vI 0,vI 0,vI 0,.bool false,.string ⟨#[]⟩,.string ⟨#[]⟩,.bool false] (imc a (ix l a k) (en l (ix l a k))) (.tmp 10) (.tmp 30) rfl (fun X=>by unfold execOp;go_simp) (fun g=>by rfl) (fun g=>by rfl) rfl (xC _ _ _) jD ?_;intro g W1 hg1 hB1 hS1;refine wpList_nil ?_;have hW1:=hb.size;exact hK g W1 (Since.next hb hS1) ⟨by omega,hB1⟩
  case body =>
   intro l9 m9 k g W hm hmw hk hi hbx;clear hD9 hB1 hB2 hB3 hb hC1 hC2;obtain ⟨hD9,hB1,hB2,hB3,hb⟩:=hi;obtain ⟨hgm,hD10⟩:=hbx;obtain ⟨q,hq⟩:∃ q,q=ix l a k:=⟨_,rfl⟩;obtain ⟨x,x9⟩:∃ x,x=(en l (ix l a k)):=⟨_,rfl⟩;rw [← hq] at hD10 x9;have hkl:=wZ l a;have hlen:=hs1.out.ln HK.out.len
   have hxs:tz x.am.2.1 x.am.2.2 420:=by rw [x9];exact hs1.out.1 _
   have HX:=Lib.hid x9;rw [← x9] at hD10
   have HF:Hid (kS l p a d (k+1)=kS l p a d k+jY x p a d):=by
    show _=_
    rw [qZs,x9,hq]
   have HZ:Hid (zS l p a d (k+1)=zS l p a d k+kO x p a d):=by
    show _=_
    rw [qYf,x9,hq]
   clear x9 hq;have hsK:szR (kS l p a d k) 900000:=(kS_sz (by decide) hs1.out.1 p a d k).mono (by omega);have hsZ:szR (zS l p a d k) 900000:=(zS_sz (by decide) hs1.out.1 p a d k).mono (by omega);have hsE:szR (ent x a) 1000:=(kB (by decide) hxs a).mono (by omega);obtain ⟨K0,hK0⟩:∃ z,kS l p a d k=z:=⟨_,rfl⟩;obtain ⟨Z0,hZ0⟩:∃ z,zS l p a d k=z:=⟨_,rfl⟩;have HK0:=Lib.hid hK0;have HZ0:=Lib.hid hZ0;rw [hK0] at hD9 hsK;rw [hZ0] at hD9 hsZ;clear hK0 hZ0;obtain ⟨F0,hF0⟩:∃ z,dR clo Z0=z:=⟨_,rfl⟩;have HF0:=Lib.hid hF0;rw [hF0] at hD9
   have hsF:szR F0 900000:=by
    rw [← hF0]
    unfold dR
    split
    ·exact hsZ
    ·exact szR_zero.mono (by decide)
   clear hF0;obtain ⟨kd,hkd⟩:∃ kd,decide (x.kd=3)=kd:=⟨_,rfl⟩;have HKD:=Lib.hid hkd;have hbut:But m9 (fun k=>k=g9) W W:=But.refl _ _ _;have hD10:Blk W g 96 [vI q,vI x.day,vI x.deb,vI x.cre,.bool x.am.1,vS x.am.2.1,vS x.am.2.2,vI x.kd,vI x.pd,vI x.rf,vI x.w1,vI x.w2,vI x.w3,vI x.w4,.bool (rN (ent x a)),vS (rP (ent x a)),vS (rD (ent x a)),.bool (decide (x.kd=3))]:=hD10;rw [hkd] at hD10;clear hkd
   rcases (show x.pd≠p∨(x.pd=p∧d<x.day)∨(x.pd=p∧x.day≤d) by omega) with hh|hh|hh
   ·have HFX:Hid (jY x p a d=0):=if_neg (fun h9=>hh h9.1)
    have HZX:Hid (kO x p a d=0):=if_neg (fun h9=>hh h9.1)
    have HKN:Hid (kS l p a d (k+1)=K0):=by
     show _=_
     rw [HF.out,HFX.out,HK0.out,Rat.add_zero]
    have HZN:Hid (dR clo (zS l p a d (k+1))=F0):=by
     show _=_
     rw [HZ.out,HZX.out,HZ0.out,Rat.add_zero,HF0.out]
    gi_upto_region 5 with fail
    refine eW [] (by kernel_rfl) (by rintro ⟨_,_,h9,_⟩;cases h9) (aH) ?_;simp only [iX,Nat.reduceAdd];refine jnn (vP g 1) (vP g 7) ?_;refine jnf hD10 8 aA ?_;refine jf _ hB1 0 aA ?_;refine jv (.bool true) (bA _ _ _ _ (by rfl) .i64 x.pd p (by rfl) (by rfl) true (by rw [decide_eq_false (by omega)];rfl)) ?_;refine jm (.bool true) ?_;refine bR ?_;refine js ?_;refine jm (.bool true) ?_;refine aQ hb hB3 fun X1 hX1 hb hB3=>?_;replace hbut:=hbut.trans (But.of_since hX1 hmw);replace hmw:=Nat.le_trans hmw hX1.size;obtain ⟨hD10,hD9,hB1,hB2⟩:=bl4 hX1 hD10 hD9 hB1 hB2;refine wpList_nil ?_
    gi_wp2
    exact ⟨trivial,hbut,⟨by rw [HKN.out,HZN.out];exact hD9,hB1,hB2,hB3,hb⟩⟩
   ·have HPD:=Lib.hid hh.1
    have hdd:=hh.2;clear hh;have HFX:Hid (jY x p a d=0):=if_neg (fun h9=>absurd (show x.day≤d from by first|exact h9.2|exact h9.2.1) (by omega));have HZX:Hid (kO x p a d=0):=if_neg (fun h9=>absurd (show x.day≤d from by first|exact h9.2|exact h9.2.1) (by omega))
    have HKN:Hid (kS l p a d (k+1)=K0):=by
     show _=_
     rw [HF.out,HFX.out,HK0.out,Rat.add_zero]
    have HZN:Hid (dR clo (zS l p a d (k+1))=F0):=by
     show _=_
     rw [HZ.out,HZX.out,HZ0.out,Rat.add_zero,HF0.out]
    gi_upto_region 5 with fail
    refine eW [] (by kernel_rfl) (by rintro ⟨_,_,h9,_⟩;cases h9) (aH) ?_;simp only [iX,Nat.reduceAdd];refine jnn (vP g 1) (vP g 7) ?_;refine jnf hD10 8 aA ?_;refine jf _ hB1 0 aA ?_;refine jv (.bool false) (bA _ _ _ _ (by rfl) .i64 x.pd p (by rfl) (by rfl) false (by rw [decide_eq_true HPD.out];rfl)) ?_;refine jmn (.bool false) (vP g 1) ?_;refine jnf hD10 1 aA ?_;refine jf _ hB2 0 aA ?_;refine cD x.day d (by omega) ?_;refine jm (.bool true) ?_;refine aQ hb hB3 fun X1 hX1 hb hB3=>?_;replace hbut:=hbut.trans (But.of_since hX1 hmw);replace hmw:=Nat.le_trans hmw hX1.size;obtain ⟨hD10,hD9,hB1,hB2⟩:=bl4 hX1 hD10 hD9 hB1 hB2;refine wpList_nil ?_
    gi_wp2
    exact ⟨trivial,hbut,⟨by rw [HKN.out,HZN.out];exact hD9,hB1,hB2,hB3,hb⟩⟩
   ·have HPD:=Lib.hid hh.1
    have hdd:=hh.2;clear hh;have HFX:Hid (jY x p a d=ent x a):=if_pos ⟨HPD.out,hdd⟩
    have HKN:Hid (kS l p a d (k+1)=K0+ent x a):=by
     show _=_
     rw [HF.out,HFX.out,HK0.out]
    gi_upto_region 5 with fail
    refine eW [] (by kernel_rfl) (by rintro ⟨_,_,h9,_⟩;cases h9) (aH) ?_;simp only [iX,Nat.reduceAdd];refine jnn (vP g 1) (vP g 7) ?_;refine jnf hD10 8 aA ?_;refine jf _ hB1 0 aA ?_;refine jv (.bool false) (bA _ _ _ _ (by rfl) .i64 x.pd p (by rfl) (by rfl) false (by rw [decide_eq_true HPD.out];rfl)) ?_;refine jmn (.bool false) (vP g 1) ?_;refine jnf hD10 1 aA ?_;refine jf _ hB2 0 aA ?_;refine bZ x.day d (by omega) ?_;refine jm (.bool false) ?_;refine aQ hb hB3 fun X1 hX1 hb hB3=>?_;replace hbut:=hbut.trans (But.of_since hX1 hmw);replace hmw:=Nat.le_trans hmw hX1.size;obtain ⟨hD10,hD9,hB1,hB2⟩:=bl4 hX1 hD10 hD9 hB1 hB2;refine wpList_nil ?_;have LB0:szR K0 900000:=hsK;have LB1:szR (ent x a) 1000:=hsE
    gi_upto_region 6 with fail
    refine fA 6 [] (by kernel_rfl) (by rintro ⟨_,_,h9,_⟩;cases h9) (aH) ?_;simp only [its,List.take,List.drop,Nat.zero_add,Nat.reduceAdd];refine jn (vP g9 0) ?_;refine jg (rt (rN K0) (rP K0) (rD K0)) (fun X hX hF=>aY 40 _ (by rfl) g9 0 [.bool (rN K0),vS (rP K0),vS (rD K0)] (by rfl) Tryz.underlying40 rfl X (hD9.bel hX) (by rfl) aC) ?_;refine jn (vP g 14) ?_;refine jg (rt (rN (ent x a)) (rP (ent x a)) (rD (ent x a))) (fun X hX hF=>aY 40 _ (by rfl) g 14 [.bool (rN (ent x a)),vS (rP (ent x a)),vS (rD (ent x a))] (by rfl) Tryz.underlying40 rfl X (hD10.bel hX) (by rfl) aC) ?_;refine jc (rt (rN (K0+(ent x a))) (rP (K0+(ent x a))) (rD (K0+(ent x a)))) (fun X hX hF=>vZk (rN K0) (rP K0) (rD K0) (rN (ent x a)) (rP (ent x a)) (rD (ent x a)) (eM K0) (eM (ent x a)) X (tzR LB0 (by omega)) (tzR LB1 (by omega))) ?_;refine jn (vP g9 0) ?_;refine aQ hb hB3 fun X2 hX2 hb hB3=>?_;replace hbut:=hbut.trans (But.of_since hX2 hmw);replace hmw:=Nat.le_trans hmw hX2.size;obtain ⟨hD10,hD9,hB1,hB2⟩:=bl4 hX2 hD10 hD9 hB1 hB2;refine cL rfl 40 (.tmp 49) (.tmp 48) rfl g9 55 _ hD9 0 rfl [.bool (rN (K0+(ent x a))),.string ⟨(rP (K0+(ent x a))).toArray⟩,.string ⟨(rD (K0+(ent x a))).toArray⟩] rfl (by simp) (al3 rfl rfl rfl) aC ?_;intro ws6 hR9 hG9 hs9
    change Blk ws6 g9 55 [.bool (rN (K0+(ent x a))),.string ⟨(rP (K0+(ent x a))).toArray⟩,.string ⟨(rD (K0+(ent x a))).toArray⟩,.bool (rN F0),vS (rP F0),vS (rD F0),.bool clo] at hR9
    replace hbut:=hbut.trans (But.of_grown hG9 hmw (fun k h=>.inr (by injection h with h;exact h.symm)));replace hmw:=Nat.le_trans hmw hG9.size;have hb:=aV hG9 hb hb.size (by omega);replace hB1:=aE hG9 hB1 (by omega);replace hB2:=aE hG9 hB2 (by omega);replace hB3:=aE hG9 hB3 (by omega);replace hD10:=aE hG9 hD10 (by omega);have hD9:=hR9;clear hR9 hG9 hs9;refine wpList_nil ?_
    rcases clo with _|_
    ·skip
     have HZN:Hid (dR false (zS l p a d (k+1))=F0):=by
      show _=_
      rw [← HF0.out]
      rfl
     gi_upto_region 7 with fail
     refine eW [] (by kernel_rfl) (by rintro ⟨_,_,h9,_⟩;cases h9) (aH) ?_;simp only [iX,Nat.reduceAdd];refine jnf hD9 6 aS ?_;refine jm (.bool false) ?_;refine jss ?_;refine js ?_;refine jm (.bool false) ?_;refine aQ hb hB3 fun X3 hX3 hb hB3=>?_;replace hbut:=hbut.trans (But.of_since hX3 hmw);replace hmw:=Nat.le_trans hmw hX3.size;obtain ⟨hD10,hD9,hB1,hB2⟩:=bl4 hX3 hD10 hD9 hB1 hB2;refine wpList_nil ?_
     gi_wp2
     exact ⟨trivial,hbut,⟨by rw [HKN.out,HZN.out];exact hD9,hB1,hB2,hB3,hb⟩⟩
    ·skip
     rcases kd with _|_
     ·skip
      have HZN:Hid (dR true (zS l p a d (k+1))=F0+ent x a):=by
       show _=_
       have h9:kO x p a d=ent x a:=if_pos ⟨HPD.out,hdd,of_decide_eq_false HKD.out⟩
       show zS l p a d (k+1)=_
       rw [HZ.out,h9,HZ0.out,show Z0=F0 from HF0.out]
      gi_upto_region 7 with fail
      refine eW [] (by kernel_rfl) (by rintro ⟨_,_,h9,_⟩;cases h9) (aH) ?_;simp only [iX,Nat.reduceAdd];refine jnf hD9 6 aS ?_;refine jm (.bool true) ?_;refine jnf hD10 17 aS ?_;refine jmm (.bool true) (.bool true) ?_;refine aQ hb hB3 fun X3 hX3 hb hB3=>?_;replace hbut:=hbut.trans (But.of_since hX3 hmw);replace hmw:=Nat.le_trans hmw hX3.size;obtain ⟨hD10,hD9,hB1,hB2⟩:=bl4 hX3 hD10 hD9 hB1 hB2;refine wpList_nil ?_;have LB0:szR F0 900000:=hsF;have LB1:szR (ent x a) 1000:=hsE
      gi_upto_region 8 with fail
      refine fA 6 [] (by kernel_rfl) (by rintro ⟨_,_,h9,_⟩;cases h9) (aH) ?_;simp only [its,List.take,List.drop,Nat.zero_add,Nat.reduceAdd];refine jn (vP g9 3) ?_;refine jg (rt (rN F0) (rP F0) (rD F0)) (fun X hX hF=>aY 40 _ (by rfl) g9 3 [.bool (rN F0),vS (rP F0),vS (rD F0)] (by rfl) Tryz.underlying40 rfl X (hD9.bel hX) (by rfl) aC) ?_;refine jn (vP g 14) ?_;refine jg (rt (rN (ent x a)) (rP (ent x a)) (rD (ent x a))) (fun X hX hF=>aY 40 _ (by rfl) g 14 [.bool (rN (ent x a)),vS (rP (ent x a)),vS (rD (ent x a))] (by rfl) Tryz.underlying40 rfl X (hD10.bel hX) (by rfl) aC) ?_;refine jc (rt (rN (F0+(ent x a))) (rP (F0+(ent x a))) (rD (F0+(ent x a)))) (fun X hX hF=>vZk (rN F0) (rP F0) (rD F0) (rN (ent x a)) (rP (ent x a)) (rD (ent x a)) (eM F0) (eM (ent x a)) X (tzR LB0 (by omega)) (tzR LB1 (by omega))) ?_;refine jn (vP g9 3) ?_;refine aQ hb hB3 fun X4 hX4 hb hB3=>?_;replace hbut:=hbut.trans (But.of_since hX4 hmw);replace hmw:=Nat.le_trans hmw hX4.size;obtain ⟨hD10,hD9,hB1,hB2⟩:=bl4 hX4 hD10 hD9 hB1 hB2;refine cL rfl 40 (.tmp 62) (.tmp 61) rfl g9 55 _ hD9 3 rfl [.bool (rN (F0+(ent x a))),.string ⟨(rP (F0+(ent x a))).toArray⟩,.string ⟨(rD (F0+(ent x a))).toArray⟩] rfl (by simp) (al3 rfl rfl rfl) aC ?_;intro ws8 hR9 hG9 hs9
      change Blk ws8 g9 55 [.bool (rN (K0+(ent x a))),.string ⟨(rP (K0+(ent x a))).toArray⟩,.string ⟨(rD (K0+(ent x a))).toArray⟩,.bool (rN (F0+(ent x a))),.string ⟨(rP (F0+(ent x a))).toArray⟩,.string ⟨(rD (F0+(ent x a))).toArray⟩,.bool true] at hR9
      replace hbut:=hbut.trans (But.of_grown hG9 hmw (fun k h=>.inr (by injection h with h;exact h.symm)));replace hmw:=Nat.le_trans hmw hG9.size;have hb:=aV hG9 hb hb.size (by omega);replace hB1:=aE hG9 hB1 (by omega);replace hB2:=aE hG9 hB2 (by omega);replace hB3:=aE hG9 hB3 (by omega);replace hD10:=aE hG9 hD10 (by omega);have hD9:=hR9;clear hR9 hG9 hs9;refine wpList_nil ?_
      gi_wp2
      exact ⟨trivial,hbut,⟨by rw [HKN.out,HZN.out];exact hD9,hB1,hB2,hB3,hb⟩⟩
     ·skip
      have HZN:Hid (dR true (zS l p a d (k+1))=F0):=by
       show _=_
       have h9:kO x p a d=0:=if_neg (fun h9=>h9.2.2 (of_decide_eq_true HKD.out))
       show zS l p a d (k+1)=F0
       rw [HZ.out,h9,HZ0.out,Rat.add_zero];exact HF0.out
      gi_upto_region 7 with fail
      refine eW [] (by kernel_rfl) (by rintro ⟨_,_,h9,_⟩;cases h9) (aH) ?_;simp only [iX,Nat.reduceAdd];refine jnf hD9 6 aS ?_;refine jm (.bool true) ?_;refine jnf hD10 17 aS ?_;refine jmm (.bool false) (.bool false) ?_;refine aQ hb hB3 fun X3 hX3 hb hB3=>?_;replace hbut:=hbut.trans (But.of_since hX3 hmw);replace hmw:=Nat.le_trans hmw hX3.size;obtain ⟨hD10,hD9,hB1,hB2⟩:=bl4 hX3 hD10 hD9 hB1 hB2;refine wpList_nil ?_
      gi_wp2
      exact ⟨trivial,hbut,⟨by rw [HKN.out,HZN.out];exact hD9,hB1,hB2,hB3,hb⟩⟩
  case done =>
   intro D m9 W hD hm hi hKD;clear hD9 hB1 hB2 hB3 hb hC1 hC2;obtain ⟨hD9,hB1,hB2,hB3,hb⟩:=hi
   have hDg:w.heap.size+3<D:=by omega
   rw [vYh,vVg] at hD9;obtain ⟨K0,hK0⟩:∃ z,knw l p a d=z:=⟨_,rfl⟩;obtain ⟨F0,hF0⟩:∃ z,dR clo (frz l p a d)=z:=⟨_,rfl⟩;have HK0:=Lib.hid hK0;have HF0:=Lib.hid hF0;rw [hK0,hF0] at hD9;clear hK0 hF0;go_upto_region 9 with fail;refine jq 1 ?_;refine ja hD9 Tryz.underlying55 (by rfl) dY ?_;refine aN hb hD9 hB3 fun X1 hX1 hb hD9 hB3=>?_;replace hKD:=(hX1.block D (Array.getElem?_eq_some_iff.1 hKD).1).trans hKD;refine bG rfl 55 (.tmp 8) (.tmp 63) rfl (w.heap.size+3) 55 _ hB3 rfl [.bool (rN K0),vS (rP K0),vS (rD K0),.bool (rN F0),vS (rP F0),vS (rD F0),.bool clo] rfl (by rfl) (al7 rfl rfl rfl rfl rfl rfl rfl) dY ?_;intro w9 hR9 hG9;have hb:=aV hG9 hb hb.size (by omega);replace hKD:w9.heap[D]?=some (.deferred (some [])):=(hG9.block D (Array.getElem?_eq_some_iff.1 hKD).1 (fun h9=>by injection h9 with h9;omega)).trans hKD
   go_wp2
   refine qQl hKD (qQm rfl rfl Tryz.underlying55 rfl ((Kept.putObj (B:=0) hKD rfl (Nat.zero_le _)).blk hR9) dY) rfl ?_;exact ⟨by rw [HCL.out,HK0.out,HF0.out],(Kept.putObj (B:=w.heap.size) hKD rfl (by omega)).below hb (Nat.le_refl _)⟩
end Go.Proofs.YtjkfchehkpmhkaaGreatDoor

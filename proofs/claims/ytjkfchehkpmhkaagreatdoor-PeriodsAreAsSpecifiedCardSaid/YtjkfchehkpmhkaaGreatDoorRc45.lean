/- The reference of layer 45: Figure. -/
import Derived.Test.YtjkfchehkpmhkaaGreatDoorRb45
import Derived.Test.YtjkfchehkpmhkaaGreatDoorPf45
set_option linter.unusedSimpArgs false
set_option linter.unusedVariables false
set_option maxRecDepth 100000
set_option maxHeartbeats 1600000
namespace Go.Proofs.YtjkfchehkpmhkaaGreatDoor
open Go.RowKit
theorem vD {C:Bool} {l:List En} {p a d:Int} {k:Nat} (h:kO (en l k) p a d=0):dR C (gW l p a d (k+1))=dR C (gW l p a d k):=by
 rw [qR,h,Rat.add_zero]
theorem qZv {l:List En} {p a d:Int} {k:Nat}:dR false (gW l p a d (k+1))=dR false (gW l p a d k):=rfl
theorem vYm {l:List En} {p a d:Int} {k:Nat} {z:Rat} (h:kO (en l k) p a d=z):dR true (gW l p a d (k+1))=dR true (gW l p a d k)+z:=by
 unfold dR
 rw [if_pos rfl,if_pos rfl,qR,h]
theorem qZx {C:Bool} {z:Rat} {B:Nat} (h:szR z B) (h1:1≤B):szR (dR C z) B:=by
 unfold dR
 split
 ·exact h
 ·exact szR_zero.mono h1
theorem vYr {cs:List Cg} {p d:Int} (h:¬ p<(cs.length:Int)):gU cs p d=false:=by
 unfold gU
 rw [decide_eq_false h,Bool.false_and]
theorem rfg0 (B:Nat) (c:Int) (v z:Value) (l:List En) (cs:List Cg) (p a d:Int) (w:World) (hv:Es l v w) (hz:Cs B cs z w) (hs1:Hid (Sz45 l)) (h0:peE c l cs≠0):Calls Tryz.prog 17 #[.agg #[vI c,v,z],vI p,vI a,vI d] w fun e w'=>e=.returned (.agg #[.bool (rN (gF c l cs p a d)),vS (rP (gF c l cs p a d)),vS (rD (gF c l cs p a d)),.bool (rN (gG c l cs p a d)),vS (rP (gG c l cs p a d)),vS (rD (gG c l cs p a d)),.bool (mG c l cs p a d),vI (fK c l cs p a d)])∧Since w w':=by
 have hs:Hid (∀ k,tz (en l k).am.2.1 (en l k).am.2.2 1000000):=fun k=>(hs1.out.sz k).mono (by decide)
 obtain ⟨z0,z9⟩:∃ z,peE c l cs=z:=⟨_,rfl⟩;have HZ:=Lib.hid z9
 have hz0:z0≠0:=by rw [← z9];exact h0
 clear z9 h0
 have HE:Hid (fK c l cs p a d=z0):=by
  show _=_
  unfold fK
  rw [HZ.out,if_pos hz0]
 obtain ⟨A,n,cp,A2,m,cp2,rfl,rfl,hln,hn1,hlm,hm1,HRX,HLN,HES,HCS,HRC,HLM⟩:=eU hv hz;clear hv hz
 go_enter Tryz.func17,Tryz.ntmps17
 go_upto_region 1 with fail;obtain ⟨W0,hW0,hB0,hB1,hb⟩:=cV w 27 59 [vI c,.slice A n cp,.slice A2 m cp2] [.bool false,.string ⟨#[]⟩,.string ⟨#[]⟩,.bool false,.string ⟨#[]⟩,.string ⟨#[]⟩,.bool false,vI 0];rw [← hW0];clear hW0;refine jp ?_;refine ja hB0 Tryz.underlying27 (by rfl) aK ?_;refine jc (vI z0) (fun X hX hF=>mo (yE B c _ _ l cs X (HES.out X (Since.next hb hX)) (HCS.out X (Since.next hb hX)) hs) (by rw [HZ.out])) ?_;refine jm (vI z0) ?_;refine aN hb hB0 hB1 fun X1 hX1 hb hB0 hB1=>?_;go_upto_region 2 with fail;refine jp ?_;refine jm (vI z0) ?_;refine dN z0 0 (by omega) ?_;refine aN hb hB0 hB1 fun X2 hX2 hb hB0 hB1=>?_;obtain ⟨q1,q2,q3⟩:=sB (c:=c) (l:=l) (cs:=cs) (p:=p) (a:=a) (d:=d) (by rw [HE.out];exact hz0);have HQ1:=Lib.hid q1;have HQ2:=Lib.hid q2;have HQ3:=Lib.hid q3;clear q1 q2 q3;go_upto_region 4 with fail;refine jp ?_;refine jm (vI z0) ?_;refine jv (.bool true) (bA _ _ _ _ (by rfl) .i64 z0 0 (by rfl) (by rfl) true (by rw [decide_eq_false (by omega)];rfl)) ?_;refine aN hb hB0 hB1 fun X3 hX3 hb hB0 hB1=>?_;go_upto_region 5 with fail;refine jq 2 ?_;refine jmn (vI z0) (.agg #[.bool false,.string ⟨#[]⟩,.string ⟨#[]⟩,.bool false,.string ⟨#[]⟩,.string ⟨#[]⟩,.bool false,vI z0]) ?_;refine aN hb hB0 hB1 fun X4 hX4 hb hB0 hB1=>?_;refine osb 59 8 26 (w.heap.size+1) 59 hB1 [.bool false,.string ⟨#[]⟩,.string ⟨#[]⟩,.bool false,.string ⟨#[]⟩,.string ⟨#[]⟩,.bool false,vI z0] gL ?_
 intro w9 hR9 hO9 hB9 hs9;have hb9:=hB9 _ _ hb (by omega);have hB0:=hO9 _ _ _ (by omega) hB0;clear hO9 hB9
 go_wp2
 refine aU rfl rfl (by rfl) Tryz.underlying59 rfl hR9 gL ⟨by rw [HE.out,HQ1.out,HQ2.out,HQ3.out];rfl,hb9⟩
theorem rfg1 (B:Nat) (c:Int) (v z:Value) (l:List En) (cs:List Cg) (p a d:Int) (w:World) (hv:Es l v w) (hz:Cs B cs z w) (hs1:Hid (Sz45 l)) (HC:Hid (peE c l cs=0)) (h0:eA c p a d≠0):Calls Tryz.prog 17 #[.agg #[vI c,v,z],vI p,vI a,vI d] w fun e w'=>e=.returned (.agg #[.bool (rN (gF c l cs p a d)),vS (rP (gF c l cs p a d)),vS (rD (gF c l cs p a d)),.bool (rN (gG c l cs p a d)),vS (rP (gG c l cs p a d)),vS (rD (gG c l cs p a d)),.bool (mG c l cs p a d),vI (fK c l cs p a d)])∧Since w w':=by
 have hs:Hid (∀ k,tz (en l k).am.2.1 (en l k).am.2.2 1000000):=fun k=>(hs1.out.sz k).mono (by decide)
 obtain ⟨k0,k9⟩:∃ z,eA c p a d=z:=⟨_,rfl⟩;have HA:=Lib.hid k9
 have hk0:k0≠0:=by rw [← k9];exact h0
 clear k9 h0
 have HE:Hid (fK c l cs p a d=k0):=by
  show _=_
  unfold fK
  rw [HC.out,if_neg (by decide),HA.out]
 obtain ⟨A,n,cp,A2,m,cp2,rfl,rfl,hln,hn1,hlm,hm1,HRX,HLN,HES,HCS,HRC,HLM⟩:=eU hv hz;clear hv hz
 go_enter Tryz.func17,Tryz.ntmps17
 go_upto_region 1 with fail;obtain ⟨W0,hW0,hB0,hB1,hb⟩:=cV w 27 59 [vI c,.slice A n cp,.slice A2 m cp2] [.bool false,.string ⟨#[]⟩,.string ⟨#[]⟩,.bool false,.string ⟨#[]⟩,.string ⟨#[]⟩,.bool false,vI 0];rw [← hW0];clear hW0;refine jp ?_;refine ja hB0 Tryz.underlying27 (by rfl) aK ?_;refine jc (vI 0) (fun X hX hF=>mo (yE B c _ _ l cs X (HES.out X (Since.next hb hX)) (HCS.out X (Since.next hb hX)) hs) (by rw [HC.out])) ?_;refine jm (vI 0) ?_;refine aN hb hB0 hB1 fun X1 hX1 hb hB0 hB1=>?_;go_upto_region 2 with fail;refine jp ?_;refine jm (vI 0) ?_;refine dA 0 0 (by omega) ?_;refine aN hb hB0 hB1 fun X2 hX2 hb hB0 hB1=>?_;go_upto_region 3 with fail;refine jp ?_;refine ja hB0 Tryz.underlying27 (by rfl) aK ?_;refine aX (vI p) (vI a) (vI d) ?_;refine jc (vI k0) (fun X hX hF=>mo (vXp B c _ _ l cs p a d X (HES.out X (Since.next hb hX)) (HCS.out X (Since.next hb hX))) (by rw [HA.out])) ?_;refine jm (vI k0) ?_;refine aN hb hB0 hB1 fun X3 hX3 hb hB0 hB1=>?_;obtain ⟨q1,q2,q3⟩:=sB (c:=c) (l:=l) (cs:=cs) (p:=p) (a:=a) (d:=d) (by rw [HE.out];exact hk0);have HQ1:=Lib.hid q1;have HQ2:=Lib.hid q2;have HQ3:=Lib.hid q3;clear q1 q2 q3;go_upto_region 4 with fail;refine jp ?_;refine jm (vI k0) ?_;refine jv (.bool true) (bA _ _ _ _ (by rfl) .i64 k0 0 (by rfl) (by rfl) true (by rw [decide_eq_false (by omega)];rfl)) ?_;refine aN hb hB0 hB1 fun X4 hX4 hb hB0 hB1=>?_
 go_upto_region 5 with fail;refine jq 2 ?_;refine jmn (vI k0) (.agg #[.bool false,.string ⟨#[]⟩,.string ⟨#[]⟩,.bool false,.string ⟨#[]⟩,.string ⟨#[]⟩,.bool false,vI k0]) ?_;refine aN hb hB0 hB1 fun X5 hX5 hb hB0 hB1=>?_;refine osb 59 8 26 (w.heap.size+1) 59 hB1 [.bool false,.string ⟨#[]⟩,.string ⟨#[]⟩,.bool false,.string ⟨#[]⟩,.string ⟨#[]⟩,.bool false,vI k0] gL ?_;intro w9 hR9 hO9 hB9 hs9;have hb9:=hB9 _ _ hb (by omega);have hB0:=hO9 _ _ _ (by omega) hB0;clear hO9 hB9
 go_wp2
 refine aU rfl rfl (by rfl) Tryz.underlying59 rfl hR9 gL ⟨by rw [HE.out,HQ1.out,HQ2.out,HQ3.out];rfl,hb9⟩
set_option maxHeartbeats 8000000 in
theorem rfg2 (B:Nat) (c:Int) (v z:Value) (l:List En) (cs:List Cg) (p a d:Int) (w:World) (hv:Es l v w) (hz:Cs B cs z w) (hs1:Hid (Sz45 l)) (HC:Hid (peE c l cs=0)) (HA:Hid (eA c p a d=0)):Calls Tryz.prog 17 #[.agg #[vI c,v,z],vI p,vI a,vI d] w fun e w'=>e=.returned (.agg #[.bool (rN (gF c l cs p a d)),vS (rP (gF c l cs p a d)),vS (rD (gF c l cs p a d)),.bool (rN (gG c l cs p a d)),vS (rP (gG c l cs p a d)),vS (rD (gG c l cs p a d)),.bool (mG c l cs p a d),vI (fK c l cs p a d)])∧Since w w':=by
 have hs:Hid (∀ k,tz (en l k).am.2.1 (en l k).am.2.2 1000000):=fun k=>(hs1.out.sz k).mono (by decide)
 have HE:Hid (fK c l cs p a d=0):=by
  show _=_
  unfold fK
  rw [HC.out,if_neg (by decide),HA.out]
 have hp0:0≤p:=(fS HA.out).1;have HOK:Hid (Ok45 c l cs):=peE_ok.1 HC.out;have HK:Hid (Ok44 c l):=HOK.out.ac;have hlen:=hs1.out.ln HK.out.len;obtain ⟨q1,q2,q3⟩:=vF HE.out;have HQ1:=Lib.hid q1;have HQ2:=Lib.hid q2;have HQ3:=Lib.hid q3;clear q1 q2 q3;obtain ⟨i,rfl⟩:∃ i:Nat,p=(i:Int):=⟨p.toNat,by omega⟩;obtain ⟨C0,hC0⟩:∃ z,gU cs (i:Int) d=z:=⟨_,rfl⟩;have HC0:=Lib.hid hC0;clear hC0;obtain ⟨A,n,cp,A2,m,cp2,rfl,rfl,hln,hn1,hlm,hm1,HRX,HLN,HES,HCS,HRC,HLM⟩:=eU hv hz;clear hv hz
 go_enter Tryz.func17,Tryz.ntmps17
 go_upto_region 1 with fail;obtain ⟨W0,hW0,hB0,hB1,hb⟩:=cV w 27 59 [vI c,.slice A n cp,.slice A2 m cp2] [.bool false,.string ⟨#[]⟩,.string ⟨#[]⟩,.bool false,.string ⟨#[]⟩,.string ⟨#[]⟩,.bool false,vI 0];rw [← hW0];clear hW0;refine jp ?_;refine ja hB0 Tryz.underlying27 (by rfl) aK ?_;refine jc (vI 0) (fun X hX hF=>mo (yE B c _ _ l cs X (HES.out X (Since.next hb hX)) (HCS.out X (Since.next hb hX)) hs) (by rw [HC.out])) ?_;refine jm (vI 0) ?_;refine aN hb hB0 hB1 fun X1 hX1 hb hB0 hB1=>?_;go_upto_region 2 with fail;refine jp ?_;refine jm (vI 0) ?_;refine dA 0 0 (by omega) ?_;refine aN hb hB0 hB1 fun X2 hX2 hb hB0 hB1=>?_;rw [HLN.out] at hlen;go_upto_region 3 with fail;refine jp ?_;refine ja hB0 Tryz.underlying27 (by rfl) aK ?_;refine aX (vI i) (vI a) (vI d) ?_;refine jc (vI 0) (fun X hX hF=>mo (vXp B c _ _ l cs (i:Int) a d X (HES.out X (Since.next hb hX)) (HCS.out X (Since.next hb hX))) (by rw [HA.out])) ?_;refine jm (vI 0) ?_;refine aN hb hB0 hB1 fun X3 hX3 hb hB0 hB1=>?_;go_upto_region 4 with fail;refine jp ?_;refine jm (vI 0) ?_;refine jv (.bool false) (bA _ _ _ _ (by rfl) .i64 0 0 (by rfl) (by rfl) false (by rw [decide_eq_true (by omega)];rfl)) ?_;refine aN hb hB0 hB1 fun X4 hX4 hb hB0 hB1=>?_;go_upto_region 6 with fail;refine jq 1 ?_;refine jn (.agg #[.bool false,.string ⟨#[]⟩,.string ⟨#[]⟩,.bool false,.string ⟨#[]⟩,.string ⟨#[]⟩,.bool false]) ?_
 refine aN hb hB0 hB1 fun X5 hX5 hb hB0 hB1=>?_;go_upto_region 7 with (refine osn 55 10 27 #[.bool false,.string ⟨#[]⟩,.string ⟨#[]⟩,.bool false,.string ⟨#[]⟩,.string ⟨#[]⟩,.bool false] dY ?_);obtain ⟨Y5,hY9,hD10,hS9⟩:=aT X5 55 [.bool false,.string ⟨#[]⟩,.string ⟨#[]⟩,.bool false,.string ⟨#[]⟩,.string ⟨#[]⟩,.bool false];rw [← hY9];clear hY9;have hgs10:=hb.size;have hlt10x0:=hB0.lt;have hlt10x1:=hB1.lt;obtain ⟨hB0,hB1⟩:=bl2 hS9 hB0 hB1;have hb:=aI hb hS9;clear hS9;generalize X5.heap.size=g10 at *
 skip
 refine jO [28,29,30,31,32,33,34,35,36,37,38,39,40,41,42,43,44,45,46,47,48] (fun _ X=>Blk X w.heap.size 27 [vI c,.slice A n cp,.slice A2 m cp2]∧Blk X (w.heap.size+1) 59 [.bool false,.string ⟨#[]⟩,.string ⟨#[]⟩,.bool false,.string ⟨#[]⟩,.string ⟨#[]⟩,.bool false,vI 0]∧Blk X g10 55 [.bool false,.string ⟨#[]⟩,.string ⟨#[]⟩,.bool false,.string ⟨#[]⟩,.string ⟨#[]⟩,.bool C0]∧Below w.heap.size w X) ?_ ?_
 ·rcases Nat.lt_or_ge i m with him|him
  ·obtain ⟨b2,off2,rfl,hbb2,hcx2⟩:=iL (HRC.out _ hb) HLM.out (k:=i) him
   obtain ⟨y,y9⟩:∃ y,y=cg cs i:=⟨_,rfl⟩;have HY:=Lib.hid y9;clear y9;rw [← HY.out] at hcx2
   change Cl Y5 b2 (off2+i * 2) [vI y.day,vI y.place] at hcx2
   have HCB:Hid (decide (y.day≤d)=C0):=by
    show _=_
    rw [← HC0.out,HY.out]
    unfold gU
    rw [show decide ((i:Int)<(cs.length:Int))=true from decide_eq_true (by rw [HLM.out];omega),Bool.true_and,Int.toNat_natCast]
   refine jq 21 ?_;refine jm (vI i) ?_;refine jnf hB0 2 aZ ?_;refine jv (vI m) (aF Tryz.underlying25 _ (by rfl) (some ⟨b2,off2,none⟩) m cp2 (by rfl) _ rfl) ?_;refine cE (i:Int) (m:Int) (by omega) ?_;refine jm (.bool true) ?_;refine jnf hB0 2 aZ ?_;refine jm (vI i) ?_;refine jnf hB0 2 aZ ?_;refine jv (vI m) (aF Tryz.underlying25 _ (by rfl) (some ⟨b2,off2,none⟩) m cp2 (by rfl) _ rfl) ?_;refine jv (vI ((m:Int)-1)) (aW _ _ _ _ (by rfl) (m:Int) 1 ((m:Int)-1) (by rfl) (by rfl) (by omega) (by omega) (by omega)) ?_;refine jv (vI i) (mL _ _ (by rfl) .i64 (i:Int) ((m:Int)-1) (i:Int) (by rfl) (by rfl) (by omega)) ?_;refine jv (vP b2 (off2+i * 2)) (aR Tryz.underlying25 bP _ _ (by rfl) b2 (off2) m cp2 i (by omega) (by rfl) (by rfl) rfl) ?_;refine jn (vP b2 (off2+i * 2)) ?_;refine jg (vI y.day) (fun X hX hF=>aP 3 _ (by rfl) b2 (off2+i * 2) (by rfl) _ X ((hcx2.below hX hbb2) 0 _ rfl) (fun X u h=>aA b2 (off2+i * 2) X u h)) ?_;refine jm (vI d) ?_;refine jv (.bool C0) (pK _ _ _ _ (by rfl) .i64 y.day d (by rfl) (by rfl) C0 HCB.out) ?_;refine jmn (.bool C0) (vP g10 6) ?_;refine bE hb hB0 hB1 hD10 fun X6 hX6 hb hB0 hB1 hD10=>?_;have hcx2:=hcx2.below hX6 hbb2;replace hbb2:=Nat.lt_of_lt_of_le hbb2 (hX6).size;refine cB rfl g10 6 55 _ hD10 (.bool C0) (by simp) (fun X u h1 h2=>eI _ _ (by rfl) _ _ (by rfl) (by rfl) u X h1 h2) ?_
   intro w7 hR9 hG9;have hb:=aV hG9 hb hb.size (by omega);replace hB0:=aE hG9 hB0 (by omega);replace hB1:=aE hG9 hB1 (by omega);exact bK ⟨hB0,hB1,hR9,hb⟩
  ·obtain rfl:C0=false:=by rw [← HC0.out];exact vYr (by rw [HLM.out];omega)
   refine jq 21 ?_;refine jm (vI i) ?_;refine jnf hB0 2 aZ ?_;refine jv (vI m) (aF Tryz.underlying25 _ (by rfl) A2 m cp2 (by rfl) _ rfl) ?_;refine bI (i:Int) (m:Int) (by omega) ?_;refine jm (.bool false) ?_;refine cN ?_;refine bR ?_;refine js ?_;refine jmn (.bool false) (vP g10 6) ?_;refine bE hb hB0 hB1 hD10 fun X6 hX6 hb hB0 hB1 hD10=>?_;refine cB rfl g10 6 55 _ hD10 (.bool false) (by simp) (fun X u h1 h2=>eI _ _ (by rfl) _ _ (by rfl) (by rfl) u X h1 h2) ?_;intro w7 hR9 hG9;have hb:=aV hG9 hb hb.size (by omega);replace hB0:=aE hG9 hB0 (by omega);replace hB1:=aE hG9 hB1 (by omega);exact bK ⟨hB0,hB1,hR9,hb⟩
 ·intro f7 X7 hk9
  clear hB0 hB1 hD10 hb;obtain ⟨hB0,hB1,hD10,hb⟩:=hk9;simp only [dQ,eC,pX];go_upto_region 8 with fail;refine jp ?_;refine jm (vI 0) ?_;refine bE hb hB0 hB1 hD10 fun X7 hX7 hb hB0 hB1 hD10=>?_
  go_wp2
  go_loopw [11] (fun kv wr=>∃ k:Nat,k≤n∧kv=vI k∧Blk wr g10 55 [.bool (rN (jV l (i:Int) a d k)),.string ⟨(rP (jV l (i:Int) a d k)).toArray⟩,.string ⟨(rD (jV l (i:Int) a d k)).toArray⟩,.bool (rN (dR C0 (gW l (i:Int) a d k))),.string ⟨(rP (dR C0 (gW l (i:Int) a d k))).toArray⟩,.string ⟨(rD (dR C0 (gW l (i:Int) a d k))).toArray⟩,.bool C0]∧Blk wr w.heap.size 27 [vI c,.slice A n cp,.slice A2 m cp2]∧Blk wr (w.heap.size+1) 59 [.bool false,.string ⟨#[]⟩,.string ⟨#[]⟩,.bool false,.string ⟨#[]⟩,.string ⟨#[]⟩,.bool false,vI 0]∧Below w.heap.size w wr) (fun kv _=>n-(intOf kv).toNat)
  case atStart =>
   have h9:dR C0 (gW l (i:Int) a d 0)=0:=by cases C0 <;> rfl
   exact ⟨0,by omega,rfl,by rw [h9];exact hD10,hB0,hB1,hb⟩
  case round =>
   clear hD10 hB0 hB1 hb;obtain ⟨k,hk,rfl,hD10,hB0,hB1,hb⟩:=hrel
   rcases Nat.lt_or_ge k n with hlt|hlt
   ·have HNK:Hid (jV l (i:Int) a d (k+1)=(jV l (i:Int) a d k)+jY (en l k) (i:Int) a d):=rfl
    have hsK:szR (jV l (i:Int) a d k) 900000:=(nZ (by decide) hs1.out.sz _ _ _ _).mono (by omega);have hsF:szR (dR C0 (gW l (i:Int) a d k)) 900000:=qZx ((qZw (by decide) hs1.out.sz _ _ _ _).mono (by omega)) (by decide);obtain ⟨K0,hK0⟩:∃ z,(jV l (i:Int) a d k)=z:=⟨_,rfl⟩;obtain ⟨F0,hF0⟩:∃ z,(dR C0 (gW l (i:Int) a d k))=z:=⟨_,rfl⟩;have HK0:=Lib.hid hK0;have HF0:=Lib.hid hF0;rw [hK0] at hD10 hsK HNK;rw [hF0] at hD10 hsF;clear hK0 hF0
    have hkl:k<l.length:=by rw [HLN.out];exact hlt
    have hrg:=HK.out.rg hkl;obtain ⟨b,off,rfl,hbb,hcx⟩:=fL (HRX.out _ hb) HLN.out (k:=k) hlt;obtain ⟨x,x9⟩:∃ x,x=en l k:=⟨_,rfl⟩;have HX:=Lib.hid x9;clear x9;rw [← HX.out] at hcx
    change Cl wr b (off+k * 13) (eL x) at hcx
    have HES:Hid (∀ X,Since w X→Es l (.slice (some ⟨b,off,none⟩) n cp) X):=fun X h=>by show Rd X 13 _ l.length _;rw [HLN.out];exact HRX.out X h
    have hvl:=hrg.vl;have hne:=hrg.ne;have hpd:=hrg.p0
    have hxs:tz x.am.2.1 x.am.2.2 420:=by rw [HX.out];exact hs1.out.sz k
    have HWT:=HOK.out.wat hkl;rw [← HX.out] at hvl hne HNK;have HVL:=Lib.hid hvl;have HWT:=Lib.hid HWT;clear hvl hrg;have hsE:szR (ent x a) 1000:=(kB (by decide) hxs a).mono (by decide);go_upto_region 9 with fail;refine jp ?_;refine jmn (vI k) (vP w.heap.size 0) ?_;refine jnf hB0 1 aO ?_;refine jv (vI n) (aF Tryz.underlying22 _ (by rfl) (some ⟨b,off,none⟩) n cp (by rfl) _ rfl) ?_;refine cE (k:Int) (n:Int) (by omega) ?_;refine bE hb hB0 hB1 hD10 fun X1 hX1 hb hB0 hB1 hD10=>?_;have hcx:=hcx.below hX1 hbb;replace hbb:=Nat.lt_of_lt_of_le hbb (hX1).size;go_upto_region 11 with fail;refine jq 6 ?_;refine jn (vP w.heap.size 0) ?_;refine jnf hB0 1 aO ?_;refine jm (vI k) ?_;refine jv (vP b (off+k * 13)) (aR Tryz.underlying22 aL _ _ (by rfl) b (off) n cp k hlt (by rfl) (by rfl) rfl) ?_;refine jg (.agg #[vI x.day,vI x.deb,vI x.cre,.bool x.am.1,st x.am.2.1,st x.am.2.2,vI x.kd,vI x.pd,vI x.rf,vI x.w1,vI x.w2,vI x.w3,vI x.w4]) (fun X hX hF=>cW 76 _ (by rfl) b (off+k * 13) (by rfl) Tryz.underlying76 rfl (eL x) X (Cl.part (hcx.below hX hbb) 0 _ (by rfl)) aL) ?_
    refine bE hb hB0 hB1 hD10 fun X2 hX2 hb hB0 hB1 hD10=>?_;have hcx:=hcx.below hX2 hbb;replace hbb:=Nat.lt_of_lt_of_le hbb (hX2).size;go_upto_region 12 with (refine osn 76 12 62 #[vI x.day,vI x.deb,vI x.cre,.bool x.am.1,vS x.am.2.1,vS x.am.2.2,vI x.kd,vI x.pd,vI x.rf,vI x.w1,vI x.w2,vI x.w3,vI x.w4] aL ?_);obtain ⟨Y2,hY9,hD12,hS9⟩:=aT X2 76 (eL x);rw [← hY9];clear hY9;have hgs12:=hb.size;have hlt12x0:=hB0.lt;have hlt12x1:=hB1.lt;have hlt12x2:=hD10.lt;have hcx:=hcx.below hS9 hbb;replace hbb:=Nat.lt_of_lt_of_le hbb (hS9).size;obtain ⟨hB0,hB1,hD10⟩:=bl3 hS9 hB0 hB1 hD10;have hb:=aI hb hS9;clear hS9;generalize X2.heap.size=g12 at *;have LB0:szR K0 900000:=hsK;have LB1:szR (ent x a) 1000:=hsE;have LB2:szR F0 900000:=hsF
    rcases (show x.pd≠(i:Int)∨(x.pd=(i:Int)∧d<x.day)∨(x.pd=(i:Int)∧x.day≤d) by omega) with h|h|h
    ·have HPN:=Lib.hid h
     clear h;go_upto_region 12 with fail;refine jp ?_;refine jn (vP g12 6) ?_;refine jnf hD12 7 aA ?_;refine jm (vI i) ?_;refine jv (.bool true) (bA _ _ _ _ (by rfl) .i64 x.pd (i:Int) (by rfl) (by rfl) true (by rw [decide_eq_false HPN.out];rfl)) ?_;refine jm (.bool true) ?_;refine bR ?_;refine jm (.bool true) ?_;refine cM hb hB0 hB1 hD10 hD12 fun X3 hX3 hb hB0 hB1 hD10 hD12=>?_
     have HK1:Hid (K0=jV l (i:Int) a d (k+1)):=by
      show _=_
      rw [HNK.out,qXb (.inl HPN.out),Rat.add_zero]
     have HF1:Hid (F0=dR C0 (gW l (i:Int) a d (k+1))):=by
      show _=_
      rw [vD (by rw [← HX.out];exact uF (.inl HPN.out)),HF0.out]
     rw [HK1.out,HF1.out] at hD10;go_upto_region 10 with fail;refine jp ?_;refine jm (vI k) ?_;refine jv (vI ((k+1:Nat):Int)) (bB _ _ _ _ (by rfl) (k:Int) 1 ((k+1:Nat):Int) (by rfl) (by rfl) (by omega) (by omega) (by omega)) ?_;refine jm (vI ((k+1:Nat):Int)) ?_;refine bE hb hB0 hB1 hD10 fun X4 hX4 hb hB0 hB1 hD10=>?_
     go_wp2
     go_roundw
     case rel=>exact ⟨k+1,by omega,rfl,hD10,hB0,hB1,hb⟩
     case measure=>simp [intOf];omega
    ·have HPD:=Lib.hid h.1
     replace h:=h.2;go_upto_region 12 with fail;refine jp ?_;refine jn (vP g12 6) ?_;refine jnf hD12 7 aA ?_;refine jm (vI i) ?_;refine jv (.bool false) (bA _ _ _ _ (by rfl) .i64 x.pd (i:Int) (by rfl) (by rfl) false (by rw [decide_eq_true HPD.out];rfl)) ?_;refine jm (.bool false) ?_;refine jnf hD12 0 aA ?_;refine jm (vI d) ?_;refine cD x.day d (by omega) ?_;refine jm (.bool true) ?_;refine cM hb hB0 hB1 hD10 hD12 fun X3 hX3 hb hB0 hB1 hD10 hD12=>?_
     have HK1:Hid (K0=jV l (i:Int) a d (k+1)):=by
      show _=_
      rw [HNK.out,qXb (.inr h),Rat.add_zero]
     have HF1:Hid (F0=dR C0 (gW l (i:Int) a d (k+1))):=by
      show _=_
      rw [vD (by rw [← HX.out];exact uF (.inr (.inl h))),HF0.out]
     rw [HK1.out,HF1.out] at hD10;go_upto_region 10 with fail;refine jp ?_;refine jm (vI k) ?_;refine jv (vI ((k+1:Nat):Int)) (bB _ _ _ _ (by rfl) (k:Int) 1 ((k+1:Nat):Int) (by rfl) (by rfl) (by omega) (by omega) (by omega)) ?_;refine jm (vI ((k+1:Nat):Int)) ?_;refine bE hb hB0 hB1 hD10 fun X4 hX4 hb hB0 hB1 hD10=>?_
     go_wp2
     go_roundw
     case rel=>exact ⟨k+1,by omega,rfl,hD10,hB0,hB1,hb⟩
     case measure=>simp [intOf];omega
    ·have HPD:=Lib.hid h.1
     have hdy:=h.2;clear h;go_upto_region 12 with fail;refine jp ?_;refine jn (vP g12 6) ?_;refine jnf hD12 7 aA ?_;refine jm (vI i) ?_;refine jv (.bool false) (bA _ _ _ _ (by rfl) .i64 x.pd (i:Int) (by rfl) (by rfl) false (by rw [decide_eq_true HPD.out];rfl)) ?_;refine jm (.bool false) ?_;refine jnf hD12 0 aA ?_;refine jm (vI d) ?_;refine bZ x.day d (by omega) ?_;refine jm (.bool false) ?_;refine cM hb hB0 hB1 hD10 hD12 fun X3 hX3 hb hB0 hB1 hD10 hD12=>?_;go_upto_region 13 with fail;refine bD [] (by kernel_rfl) (by kernel_rfl) (by kernel_rfl) rfl (aH) ?_;simp only [its,List.dropLast,Nat.zero_add,Nat.reduceAdd];refine jn (vP g10 0) ?_;refine jg (rt (rN K0) (rP K0) (rD K0)) (fun X hX hF=>aY 40 _ (by rfl) g10 0 [.bool (rN K0),vS (rP K0),vS (rD K0)] (by rfl) Tryz.underlying40 rfl X (hD10.bel hX) (by rfl) aC) ?_;refine ja hD12 Tryz.underlying76 (by rfl) aL ?_;refine jm (vI a) ?_;refine jc (rt (rN (ent x a)) (rP (ent x a)) (rD (ent x a))) (fun X hX hF=>ramC x a X HVL.out hne (hxs.mono (by decide))) ?_;refine jc (rt (rN (K0+(ent x a))) (rP (K0+(ent x a))) (rD (K0+(ent x a)))) (fun X hX hF=>vZj (rN K0) (rP K0) (rD K0) (rN (ent x a)) (rP (ent x a)) (rD (ent x a)) (eM K0) (eM (ent x a)) X (tzR LB0 (by omega)) (tzR LB1 (by omega))) ?_;refine jn (vP g10 0) ?_;refine cM hb hB0 hB1 hD10 hD12 fun X4 hX4 hb hB0 hB1 hD10 hD12=>?_
     refine cL rfl 40 (.tmp 80) (.tmp 79) rfl g10 55 _ hD10 0 rfl [.bool (rN (K0+(ent x a))),.string ⟨(rP (K0+(ent x a))).toArray⟩,.string ⟨(rD (K0+(ent x a))).toArray⟩] rfl (by simp) (al3 rfl rfl rfl) aC ?_;intro w13s hR9 hG9 hs9;have hb:=aV hG9 hb hb.size (by omega);replace hB0:=aE hG9 hB0 (by omega);replace hB1:=aE hG9 hB1 (by omega);replace hD12:=aE hG9 hD12 (by omega)
     change Blk w13s g10 55 [.bool (rN (K0+(ent x a))),.string ⟨(rP (K0+(ent x a))).toArray⟩,.string ⟨(rD (K0+(ent x a))).toArray⟩,.bool (rN F0),vS (rP F0),vS (rD F0),.bool C0] at hR9
     have hD10:=hR9;clear hR9 hG9 hs9;refine wpList_nil ?_;obtain ⟨wt9,wt99⟩:∃ z,jL cs (en l k) (k:Int)=z:=⟨_,rfl⟩;have HW9:=Lib.hid wt99;clear wt99;go_upto_region 14 with fail;refine jp ?_;refine ja hB0 Tryz.underlying27 (by rfl) aK ?_;refine jm (vI k) ?_;refine jc (.bool wt9) (fun X hX hF=>mo (rwaC B c _ _ l cs k X (HES.out X (Since.next hb hX)) (HCS.out X (Since.next hb hX)) hkl hpd) (by rw [HW9.out])) ?_;refine jm (.bool wt9) ?_;refine cM hb hB0 hB1 hD10 hD12 fun X5 hX5 hb hB0 hB1 hD10 hD12=>?_
     rcases wt9 with _|_
     ·skip
      go_upto_region 15 with fail;refine jp ?_;refine jmm (.bool false) (.bool false) ?_;refine jss ?_;refine jm (.bool false) ?_;refine cM hb hB0 hB1 hD10 hD12 fun X6 hX6 hb hB0 hB1 hD10 hD12=>?_
      have H3:Hid ((en l k).kd=3):=by
       show (en l k).kd=3
       have h9:=HWT.out;rw [HW9.out] at h9
       simpa using h9
      have HK1:Hid ((K0+(ent x a))=jV l (i:Int) a d (k+1)):=by
       show _=_
       rw [HNK.out,vE HPD.out hdy]
      have HF1:Hid (F0=dR C0 (gW l (i:Int) a d (k+1))):=by
       show _=_
       rw [vD (uF (.inr (.inr H3.out))),HF0.out]
      rw [HK1.out,HF1.out] at hD10;go_upto_region 10 with fail;refine jp ?_;refine jm (vI k) ?_;refine jv (vI ((k+1:Nat):Int)) (bB _ _ _ _ (by rfl) (k:Int) 1 ((k+1:Nat):Int) (by rfl) (by rfl) (by omega) (by omega) (by omega)) ?_;refine jm (vI ((k+1:Nat):Int)) ?_;refine bE hb hB0 hB1 hD10 fun X7 hX7 hb hB0 hB1 hD10=>?_
      go_wp2
      go_roundw
      case rel=>exact ⟨k+1,by omega,rfl,hD10,hB0,hB1,hb⟩
      case measure=>simp [intOf];omega
     ·skip
      have H3:Hid ((en l k).kd≠3):=by
       show (en l k).kd≠3
       have h9:=HWT.out;rw [HW9.out] at h9
       simpa using h9
      rcases C0 with _|_
      ·skip
       go_upto_region 15 with fail;refine jp ?_;refine jmm (.bool true) (.bool true) ?_;refine jnf hD10 6 aS ?_;refine jm (.bool false) ?_;refine cM hb hB0 hB1 hD10 hD12 fun X6 hX6 hb hB0 hB1 hD10 hD12=>?_
       have HK1:Hid ((K0+(ent x a))=jV l (i:Int) a d (k+1)):=by
        show _=_
        rw [HNK.out,vE HPD.out hdy]
       have HF1:Hid (F0=dR false (gW l (i:Int) a d (k+1))):=by
        show _=_
        rw [qZv,HF0.out]
       rw [HK1.out,HF1.out] at hD10;go_upto_region 10 with fail;refine jp ?_;refine jm (vI k) ?_;refine jv (vI ((k+1:Nat):Int)) (bB _ _ _ _ (by rfl) (k:Int) 1 ((k+1:Nat):Int) (by rfl) (by rfl) (by omega) (by omega) (by omega)) ?_;refine jm (vI ((k+1:Nat):Int)) ?_;refine bE hb hB0 hB1 hD10 fun X7 hX7 hb hB0 hB1 hD10=>?_
       go_wp2
       go_roundw
       case rel=>exact ⟨k+1,by omega,rfl,hD10,hB0,hB1,hb⟩
       case measure=>simp [intOf];omega
      ·skip
       go_upto_region 15 with fail;refine jp ?_;refine jmm (.bool true) (.bool true) ?_;refine jnf hD10 6 aS ?_;refine jm (.bool true) ?_;refine cM hb hB0 hB1 hD10 hD12 fun X6 hX6 hb hB0 hB1 hD10 hD12=>?_;go_upto_region 16 with fail;refine bD [] (by kernel_rfl) (by kernel_rfl) (by kernel_rfl) rfl (aH) ?_;simp only [its,List.dropLast,Nat.zero_add,Nat.reduceAdd];refine jn (vP g10 3) ?_;refine jg (rt (rN F0) (rP F0) (rD F0)) (fun X hX hF=>aY 40 _ (by rfl) g10 3 [.bool (rN F0),vS (rP F0),vS (rD F0)] (by rfl) Tryz.underlying40 rfl X (hD10.bel hX) (by rfl) aC) ?_;refine ja hD12 Tryz.underlying76 (by rfl) aL ?_;refine jm (vI a) ?_;refine jc (rt (rN (ent x a)) (rP (ent x a)) (rD (ent x a))) (fun X hX hF=>ramC x a X HVL.out hne (hxs.mono (by decide))) ?_;refine jc (rt (rN (F0+(ent x a))) (rP (F0+(ent x a))) (rD (F0+(ent x a)))) (fun X hX hF=>vZj (rN F0) (rP F0) (rD F0) (rN (ent x a)) (rP (ent x a)) (rD (ent x a)) (eM F0) (eM (ent x a)) X (tzR LB2 (by omega)) (tzR LB1 (by omega))) ?_;refine jn (vP g10 3) ?_;refine cM hb hB0 hB1 hD10 hD12 fun X7 hX7 hb hB0 hB1 hD10 hD12=>?_;refine cL rfl 40 (.tmp 95) (.tmp 94) rfl g10 55 _ hD10 3 rfl [.bool (rN (F0+(ent x a))),.string ⟨(rP (F0+(ent x a))).toArray⟩,.string ⟨(rD (F0+(ent x a))).toArray⟩] rfl (by simp) (al3 rfl rfl rfl) aC ?_;intro w16s hR9 hG9 hs9;have hb:=aV hG9 hb hb.size (by omega)
       replace hB0:=aE hG9 hB0 (by omega);replace hB1:=aE hG9 hB1 (by omega);replace hD12:=aE hG9 hD12 (by omega)
       change Blk w16s g10 55 [.bool (rN (K0+(ent x a))),.string ⟨(rP (K0+(ent x a))).toArray⟩,.string ⟨(rD (K0+(ent x a))).toArray⟩,.bool (rN (F0+(ent x a))),.string ⟨(rP (F0+(ent x a))).toArray⟩,.string ⟨(rD (F0+(ent x a))).toArray⟩,.bool true] at hR9
       have hD10:=hR9;clear hR9 hG9 hs9;refine wpList_nil ?_
       have HK1:Hid ((K0+(ent x a))=jV l (i:Int) a d (k+1)):=by
        show _=_
        rw [HNK.out,vE HPD.out hdy]
       have HF1:Hid ((F0+(ent x a))=dR true (gW l (i:Int) a d (k+1))):=by
        show _=_
        rw [vYm (vVf (by rw [← HX.out];exact HPD.out) (by rw [← HX.out];exact hdy) H3.out),HF0.out,← HX.out]
       rw [HK1.out,HF1.out] at hD10;go_upto_region 10 with fail;refine jp ?_;refine jm (vI k) ?_;refine jv (vI ((k+1:Nat):Int)) (bB _ _ _ _ (by rfl) (k:Int) 1 ((k+1:Nat):Int) (by rfl) (by rfl) (by omega) (by omega) (by omega)) ?_;refine jm (vI ((k+1:Nat):Int)) ?_;refine bE hb hB0 hB1 hD10 fun X8 hX8 hb hB0 hB1 hD10=>?_
       go_wp2
       go_roundw
       case rel=>exact ⟨k+1,by omega,rfl,hD10,hB0,hB1,hb⟩
       case measure=>simp [intOf];omega
   ·have HKN:Hid (k=l.length):=by show _=_;rw [HLN.out];omega
    have HM:Hid ((jV l (i:Int) a d k)=knw l (i:Int) a d):=by
     show _=_
     unfold knw
     rw [← HKN.out]
    have HMF:Hid ((dR C0 (gW l (i:Int) a d k))=dR C0 (frz l (i:Int) a d)):=by
     show _=_
     unfold frz
     rw [← HKN.out]
    rw [HM.out,HMF.out] at hD10;go_upto_region 9 with fail;refine jp ?_;refine jmn (vI k) (vP w.heap.size 0) ?_;refine jnf hB0 1 aO ?_;refine jv (vI n) (aF Tryz.underlying22 _ (by rfl) A n cp (by rfl) _ rfl) ?_;refine bI (k:Int) (n:Int) (by omega) ?_;refine bE hb hB0 hB1 hD10 fun X1 hX1 hb hB0 hB1 hD10=>?_;go_upto_region 17 with fail;refine jq 2 ?_;refine ja hD10 Tryz.underlying55 (by rfl) dY ?_;refine jn (.agg #[.bool (rN (knw l (i:Int) a d)),st (rP (knw l (i:Int) a d)),st (rD (knw l (i:Int) a d)),.bool (rN (dR C0 (frz l (i:Int) a d))),st (rP (dR C0 (frz l (i:Int) a d))),st (rD (dR C0 (frz l (i:Int) a d))),.bool C0,vI 0]) ?_;refine bE hb hB0 hB1 hD10 fun X2 hX2 hb hB0 hB1 hD10=>?_;refine osb 59 8 97 (w.heap.size+1) 59 hB1 [.bool (rN (knw l (i:Int) a d)),.string ⟨(rP (knw l (i:Int) a d)).toArray⟩,.string ⟨(rD (knw l (i:Int) a d)).toArray⟩,.bool (rN (dR C0 (frz l (i:Int) a d))),.string ⟨(rP (dR C0 (frz l (i:Int) a d))).toArray⟩,.string ⟨(rD (dR C0 (frz l (i:Int) a d))).toArray⟩,.bool C0,vI 0] gL ?_;intro w9 hR9 hO9 hB9 hs9;have hb9:=hB9 _ _ hb (by omega);have hB0:=hO9 _ _ _ (by omega) hB0;have hD10:=hO9 _ _ _ (by omega) hD10;clear hO9 hB9
    go_wp2
    refine aU rfl rfl (by rfl) Tryz.underlying59 rfl hR9 gL ⟨by rw [HE.out,HQ1.out,HQ2.out,HQ3.out,HC0.out],hb9⟩
theorem rfgC (B:Nat) (c:Int) (v z:Value) (l:List En) (cs:List Cg) (p a d:Int) (w:World) (hv:Es l v w) (hz:Cs B cs z w) (hs1:Hid (Sz45 l)):Calls Tryz.prog 17 #[.agg #[vI c,v,z],vI p,vI a,vI d] w fun e w'=>e=.returned (.agg #[.bool (rN (gF c l cs p a d)),vS (rP (gF c l cs p a d)),vS (rD (gF c l cs p a d)),.bool (rN (gG c l cs p a d)),vS (rP (gG c l cs p a d)),vS (rD (gG c l cs p a d)),.bool (mG c l cs p a d),vI (fK c l cs p a d)])∧Since w w':=by
 by_cases h0:peE c l cs=0
 ·by_cases h1:eA c p a d=0
  ·exact rfg2 B c v z l cs p a d w hv hz hs1 h0 h1
  ·exact rfg1 B c v z l cs p a d w hv hz hs1 h0 h1
 ·exact rfg0 B c v z l cs p a d w hv hz hs1 h0
end Go.Proofs.YtjkfchehkpmhkaaGreatDoor

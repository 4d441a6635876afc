/- period: valid, Check. -/
import Derived.Test.YtjkfchehkpmhkaaGreatDoorPb45
set_option linter.unusedSimpArgs false
set_option linter.unusedVariables false
set_option maxRecDepth 100000
set_option maxHeartbeats 1600000
namespace Go.Proofs.YtjkfchehkpmhkaaGreatDoor
open Go.RowKit
theorem pvd0 (B:Nat) (c:Int) (v z:Value) (l:List En) (cs:List Cg) (w:World) (hv:Es l v w) (hz:Cs B cs z w) (HK:Hid (Ok44 c l)) (h:c<3):Calls Tryz.prog 26 #[.agg #[vI c,v,z]] w fun e w'=>e=.returned (.bool (vld c l cs))∧Since w w':=by
 obtain ⟨A,n,cp,A2,m,cp2,rfl,rfl,hln,hn1,hlm,hm1,HRX,HLN,HES,HCS,HRC,HLM⟩:=eU hv hz;clear hv hz
 go_enter Tryz.func26,Tryz.ntmps26
 go_upto_region 1 with fail;obtain ⟨W0,hW0,hB0,hb⟩:=aT w 79 [vI c,.slice A n cp,.slice A2 m cp2];rw [← hW0];clear hW0;refine jp ?_;refine jn (vP w.heap.size 0) ?_;refine jnf hB0 0 aA ?_;refine cE c 3 (by omega) ?_;refine jm (.bool true) ?_;refine bR ?_;refine jm (.bool true) ?_;refine aQ hb hB0 fun X1 hX1 hb hB0=>?_;go_upto_region 2 with fail;refine jp ?_;refine jm (.bool false) ?_;refine aQ hb hB0 fun X2 hX2 hb hB0=>?_;have HC:Hid (vld c l cs=false):=vY (.inl h)
 go_wp2
 go_ret
 exact ⟨by rw [HC.out];rfl,hb⟩
theorem pvd1 (B:Nat) (c:Int) (v z:Value) (l:List En) (cs:List Cg) (w:World) (hv:Es l v w) (hz:Cs B cs z w) (HK:Hid (Ok44 c l)) (h0:3≤c) (h:4000<cs.length):Calls Tryz.prog 26 #[.agg #[vI c,v,z]] w fun e w'=>e=.returned (.bool (vld c l cs))∧Since w w':=by
 obtain ⟨A,n,cp,A2,m,cp2,rfl,rfl,hln,hn1,hlm,hm1,HRX,HLN,HES,HCS,HRC,HLM⟩:=eU hv hz;clear hv hz;rw [hlm] at h
 go_enter Tryz.func26,Tryz.ntmps26
 go_upto_region 1 with fail;obtain ⟨W0,hW0,hB0,hb⟩:=aT w 79 [vI c,.slice A n cp,.slice A2 m cp2];rw [← hW0];clear hW0;refine jp ?_;refine jn (vP w.heap.size 0) ?_;refine jnf hB0 0 aA ?_;refine bI c 3 (by omega) ?_;refine jm (.bool false) ?_;refine jnf hB0 2 aZ ?_;refine jv (vI m) (aF Tryz.underlying25 _ (by rfl) A2 m cp2 (by rfl) _ rfl) ?_;refine cD (m:Int) 4000 (by omega) ?_;refine jm (.bool true) ?_;refine aQ hb hB0 fun X1 hX1 hb hB0=>?_;go_upto_region 2 with fail;refine jp ?_;refine jm (.bool false) ?_;refine aQ hb hB0 fun X2 hX2 hb hB0=>?_;have HC:Hid (vld c l cs=false):=vY (.inr (by rw [HLM.out];exact h))
 go_wp2
 go_ret
 exact ⟨by rw [HC.out];rfl,hb⟩
set_option maxHeartbeats 8000000 in
theorem pvd2 (B:Nat) (c:Int) (v z:Value) (l:List En) (cs:List Cg) (w:World) (hv:Es l v w) (hz:Cs B cs z w) (HK:Hid (Ok44 c l)) (h0:3≤c) (h4:cs.length≤4000):Calls Tryz.prog 26 #[.agg #[vI c,v,z]] w fun e w'=>e=.returned (.bool (vld c l cs))∧Since w w':=by
 obtain ⟨A,n,cp,A2,m,cp2,rfl,rfl,hln,hn1,hlm,hm1,HRX,HLN,HES,HCS,HRC,HLM⟩:=eU hv hz;clear hv hz;rw [hlm] at h4;have hl4:=HK.out.len;rw [HLN.out] at hl4
 go_enter Tryz.func26,Tryz.ntmps26
 go_upto_region 1 with fail;obtain ⟨W0,hW0,hB0,hb⟩:=aT w 79 [vI c,.slice A n cp,.slice A2 m cp2];rw [← hW0];clear hW0;refine jp ?_;refine jn (vP w.heap.size 0) ?_;refine jnf hB0 0 aA ?_;refine bI c 3 (by omega) ?_;refine jm (.bool false) ?_;refine jnf hB0 2 aZ ?_;refine jv (vI m) (aF Tryz.underlying25 _ (by rfl) A2 m cp2 (by rfl) _ rfl) ?_;refine bZ (m:Int) 4000 (by omega) ?_;refine jm (.bool false) ?_;refine aQ hb hB0 fun X1 hX1 hb hB0=>?_;go_upto_region 3 with fail;refine jp ?_;refine jn (vP w.heap.size 0) ?_;refine jnf hB0 1 aO ?_;refine jm (.slice A n cp) ?_;refine aQ hb hB0 fun X2 hX2 hb hB0=>?_;go_upto_region 4 with fail;refine jp ?_;refine jnf hB0 2 aZ ?_;refine jv (vI m) (aF Tryz.underlying25 _ (by rfl) A2 m cp2 (by rfl) _ rfl) ?_;refine jm (vI 0) ?_;refine aQ hb hB0 fun X3 hX3 hb hB0=>?_
 go_wp2
 go_loopw [25] (fun kv wr=>∃ k:Nat,k≤m∧kv=vI k∧Hid (∀ j,j<k→dS cs l j)∧Blk wr w.heap.size 79 [vI c,.slice A n cp,.slice A2 m cp2]∧Below w.heap.size w wr) (fun kv _=>m-(intOf kv).toNat)
 case atStart=>exact ⟨0,by omega,rfl,(fun j hj=>by omega),hB0,hb⟩
 case round =>
  clear hb hB0;obtain ⟨k,hk,rfl,HZ,hB0,hb⟩:=hrel
  rcases Nat.lt_or_ge k m with hlt|hlt
  ·skip
   obtain ⟨b2,off2,rfl,hbb2,hcx2⟩:=iL (HRC.out _ hb) HLM.out (k:=k) hlt;obtain ⟨y,y9⟩:∃ y,y=cg cs k:=⟨_,rfl⟩;have HY:=Lib.hid y9;clear y9;rw [← HY.out] at hcx2
   change Cl wr b2 (off2+k * 2) [vI y.day,vI y.place] at hcx2
   go_upto_region 5 with fail;refine jp ?_;refine cE (k:Int) (m:Int) (by omega) ?_;refine aQ hb hB0 fun X1 hX1 hb hB0=>?_;have hcx2:=hcx2.below hX1 hbb2;replace hbb2:=Nat.lt_of_lt_of_le hbb2 (hX1).size;go_upto_region 6 with fail;refine jq 3 ?_;refine jm (vI k) ?_;refine jv (vP b2 (off2+k * 2)) (aR Tryz.underlying25 bP _ _ (by rfl) b2 (off2) m cp2 k hlt (by rfl) (by rfl) rfl) ?_;refine jg (.agg #[vI y.day,vI y.place]) (fun X hX hF=>cW 72 _ (by rfl) b2 (off2+k * 2) (by rfl) Tryz.underlying72 rfl [vI y.day,vI y.place] X (Cl.part (hcx2.below hX hbb2) 0 _ (by rfl)) bP) ?_;refine aQ hb hB0 fun X2 hX2 hb hB0=>?_;have hcx2:=hcx2.below hX2 hbb2;replace hbb2:=Nat.lt_of_lt_of_le hbb2 (hX2).size;go_upto_region 7 with (refine osn 72 5 29 #[vI y.day,vI y.place] bP ?_);obtain ⟨Y2,hY9,hD5,hS9⟩:=aT X2 72 [vI y.day,vI y.place];rw [← hY9];clear hY9;have hgs5:=hb.size;have hlt5x0:=hB0.lt;have hcx2:=hcx2.below hS9 hbb2;replace hbb2:=Nat.lt_of_lt_of_le hbb2 (hS9).size;have hB0:=hB0.bel hS9;have hb:=aI hb hS9;clear hS9;generalize X2.heap.size=g5 at *
   have HCLO:Hid (dS cs l k↔(0≤y.day∧y.day≤14609∧0≤y.place∧y.place≤(n:Int)∧(0<k→(cg cs (k-1)).day≤y.day∧(cg cs (k-1)).place≤y.place)∧(0<y.place→(en l (y.place.toNat-1)).day≤y.day)∧(y.place<(n:Int)→y.day≤(en l y.place.toNat).day))):=by
    show _↔_
    unfold dS
    rw [← HY.out,HLN.out]
   obtain ⟨p,p9⟩:∃ p,p=cg cs (k-1):=⟨_,rfl⟩;have HP:=Lib.hid p9;clear p9;rw [← HP.out] at HCLO
   rcases (show ((0<k∧(y.day<p.day∨y.place<p.place))∨y.place<0∨(n:Int)<y.place∨y.day<0∨14609<y.day)∨((0<k→p.day≤y.day∧p.place≤y.place)∧0≤y.place∧y.place≤(n:Int)∧0≤y.day∧y.day≤14609) by omega) with h7|h7
   ·go_upto_region 7 with fail
    refine vd7t c l cs A _ n cp m cp2 k g5 y w _ p _ _ (by kernel_rfl) HRX.out HLN.out HRC.out HLM.out hb hB0 hD5 hlt hm1 hn1 h7 HP.out _ _ _ _ _ _ _ _ _ _ _ _ _ _ _ _ _ _ _ _ _ _ _ _ _ _ _ _ _ _ _ _ _ _ _ _ _ _ _ _ _ _ _ _ _ _ _ _ _ _ _ _ _ _ _ _ _ _ _ _ _ _ _ _ _ _ _ _ _ _ _ _ _ _ _ _ _ _ _ _ _ _ _ _ _ _ _ _ _ _ _ _ _ _ _ _ _ _ _ _ _ _ _ _ _ _ _ _ _ _ _ _ _ _ _ _ _ _ _ _ _ _ ?_;intro s30 s31 s32 s33 s34 s35 s36 s37 s38 s39 s40 s41 s42 s43 s44 s45 s46 s47 s48 s49 s50 s51 s52 s53 s54 s55 s56 s57 s58 s59 s60 s61 s62 s63 s64 s65 s66 s67 s68 s69 s70 s71 s72 s73 s74 s75 s76 X3 hX3;obtain ⟨hB0,hD5⟩:=bl2 hX3 hB0 hD5;have hb:=aI hb hX3;go_upto_region 8 with fail;refine jp ?_;refine jm (.bool false) ?_;refine aN hb hB0 hD5 fun X4 hX4 hb hB0 hD5=>?_;have HC:Hid (vld c l cs=false):=zP (k:=k) (by rw [HLM.out];exact hlt) (fun h9=>by have h8:=HCLO.out.1 h9;omega)
    go_wp2
    go_ret
    exact ⟨by rw [HC.out];rfl,hb⟩
   ·go_upto_region 7 with fail
    refine vd7f c l cs A _ n cp m cp2 k g5 y w _ p _ _ (by kernel_rfl) HRX.out HLN.out HRC.out HLM.out hb hB0 hD5 hlt hm1 hn1 h7 HP.out _ _ _ _ _ _ _ _ _ _ _ _ _ _ _ _ _ _ _ _ _ _ _ _ _ _ _ _ _ _ _ _ _ _ _ _ _ _ _ _ _ _ _ _ _ _ _ _ _ _ _ _ _ _ _ _ _ _ _ _ _ _ _ _ _ _ _ _ _ _ _ _ _ _ _ _ _ _ _ _ _ _ _ _ _ _ _ _ _ _ _ _ _ _ _ _ _ _ _ _ _ _ _ _ _ _ _ _ _ _ _ _ _ _ _ _ _ _ _ _ _ _ ?_;intro s30 s31 s32 s33 s34 s35 s36 s37 s38 s39 s40 s41 s42 s43 s44 s45 s46 s47 s48 s49 s50 s51 s52 s53 s54 s55 s56 s57 s58 s59 s60 s61 s62 s63 s64 s65 s66 s67 s68 s69 s70 s71 s72 s73 s74 s75 s76 X3 hX3;obtain ⟨hB0,hD5⟩:=bl2 hX3 hB0 hD5;have hb:=aI hb hX3;obtain ⟨q,hq9⟩:∃ q:Nat,y.place=(q:Int):=⟨y.place.toNat,by omega⟩;have HQ:=Lib.hid hq9
    have hqn:q≤n:=by omega
    clear hq9
    have HQN:Hid (y.place.toNat=q):=by
     show _=_
     rw [HQ.out]
     rfl
    obtain ⟨x1,x19⟩:∃ x,x=en l (q-1):=⟨_,rfl⟩;have HX1:=Lib.hid x19;clear x19;obtain ⟨x2,x29⟩:∃ x,x=en l q:=⟨_,rfl⟩;have HX2:=Lib.hid x29;clear x29;rw [HQN.out,← HX1.out,← HX2.out] at HCLO
    have hq0:y.place≤(q:Int):=by rw [HQ.out];exact Int.le_refl _
    have hq1:(q:Int)≤y.place:=by rw [HQ.out];exact Int.le_refl _
    rcases (show ((0<q∧y.day<x1.day)∨(q<n∧x2.day<y.day))∨((0<q→x1.day≤y.day)∧(q<n→y.day≤x2.day)) by omega) with h9|h9
    ·go_upto_region 9 with fail
     refine vd9t c l cs A _ n cp m cp2 k g5 y w _ q x1 x2 _ _ (by kernel_rfl) HRX.out HLN.out HRC.out HLM.out hb hB0 hD5 hlt hm1 hn1 h9 HQ.out hqn HX1.out HX2.out _ _ _ _ _ _ _ _ _ _ _ _ _ _ _ _ _ _ _ _ _ _ _ _ _ _ _ _ _ _ _ _ _ _ _ _ _ _ _ _ _ _ _ _ _ _ _ _ _ _ _ _ _ _ _ _ _ _ _ _ _ _ _ _ _ _ _ _ _ _ _ _ _ _ _ _ _ _ _ _ _ _ _ _ _ _ _ _ _ _ _ _ _ _ _ _ _ _ _ _ _ _ _ _ _ _ _ _ _ _ _ _ _ _ _ _ _ _ _ _ _ _ ?_;intro u78 u79 u80 u81 u82 u83 u84 u85 u86 u87 u88 u89 u90 u91 u92 u93 u94 u95 u96 u97 u98 u99 u100 u101 u102 u103 u104 u105 u106 u107 u108 u109 X4 hX4;obtain ⟨hB0,hD5⟩:=bl2 hX4 hB0 hD5;have hb:=aI hb hX4;go_upto_region 10 with fail;refine jp ?_;refine jm (.bool false) ?_;refine aN hb hB0 hD5 fun X5 hX5 hb hB0 hD5=>?_;have HC:Hid (vld c l cs=false):=zP (k:=k) (by rw [HLM.out];exact hlt) (fun h9=>by have h8:=HCLO.out.1 h9;omega)
     go_wp2
     go_ret
     exact ⟨by rw [HC.out];rfl,hb⟩
    ·go_upto_region 9 with fail
     refine vd9f c l cs A _ n cp m cp2 k g5 y w _ q x1 x2 _ _ (by kernel_rfl) HRX.out HLN.out HRC.out HLM.out hb hB0 hD5 hlt hm1 hn1 h9 HQ.out hqn HX1.out HX2.out _ _ _ _ _ _ _ _ _ _ _ _ _ _ _ _ _ _ _ _ _ _ _ _ _ _ _ _ _ _ _ _ _ _ _ _ _ _ _ _ _ _ _ _ _ _ _ _ _ _ _ _ _ _ _ _ _ _ _ _ _ _ _ _ _ _ _ _ _ _ _ _ _ _ _ _ _ _ _ _ _ _ _ _ _ _ _ _ _ _ _ _ _ _ _ _ _ _ _ _ _ _ _ _ _ _ _ _ _ _ _ _ _ _ _ _ _ _ _ _ _ _ ?_;intro u78 u79 u80 u81 u82 u83 u84 u85 u86 u87 u88 u89 u90 u91 u92 u93 u94 u95 u96 u97 u98 u99 u100 u101 u102 u103 u104 u105 u106 u107 u108 u109 X4 hX4;obtain ⟨hB0,hD5⟩:=bl2 hX4 hB0 hD5;have hb:=aI hb hX4
     have HZ2:Hid (∀ j,j<k+1→dS cs l j):=fun j hj=>by
      rcases Nat.lt_or_ge j k with h9|h9
      ·exact HZ.out j h9
      ·rw [show j=k by omega];exact HCLO.out.2 (by omega)
     go_upto_region 11 with fail;refine jp ?_;refine jv (vI ((k+1:Nat):Int)) (bB _ _ _ _ (by rfl) (k:Int) 1 ((k+1:Nat):Int) (by rfl) (by rfl) (by omega) (by omega) (by omega)) ?_;refine jm (vI ((k+1:Nat):Int)) ?_;refine aN hb hB0 hD5 fun X5 hX5 hb hB0 hD5=>?_
     go_wp2
     go_roundw
     case rel=>exact ⟨k+1,by omega,rfl,HZ2,hB0,hb⟩
     case measure=>simp [intOf];omega
  ·have HKM:Hid (k=m):=by show _=_;omega
   have HZC:Hid (∀ j,j<cs.length→dS cs l j):=fun j hj=>HZ.out j (by rw [HLM.out] at hj;omega)
   go_upto_region 5 with fail;refine jp ?_;refine bI (k:Int) (m:Int) (by omega) ?_;refine aQ hb hB0 fun X1 hX1 hb hB0=>?_;go_upto_region 12 with fail;refine jp ?_;refine jm (.slice A n cp) ?_;refine jv (vI n) (aF Tryz.underlying22 _ (by rfl) A n cp (by rfl) _ rfl) ?_;refine jm (vI 0) ?_;refine aQ hb hB0 fun X2 hX2 hb hB0=>?_
   go_wp2
   go_loopw [114] (fun kv wx=>∃ i:Nat,i≤n∧kv=vI i∧Hid (∀ j,j<i→cI cs (en l j) j=true)∧Blk wx w.heap.size 79 [vI c,.slice A n cp,.slice A2 m cp2]∧Below w.heap.size w wx) (fun kv _=>n-(intOf kv).toNat)
   case atStart=>exact ⟨0,by omega,rfl,(fun j hj=>by omega),hB0,hb⟩
   case round =>
    clear hb hB0 HZ;obtain ⟨i,hi,rfl,HZ,hB0,hb⟩:=hrel
    rcases Nat.lt_or_ge i n with hin|hin
    ·obtain ⟨eo,eo9⟩:∃ eo,cI cs (en l i) i=eo:=⟨_,rfl⟩
     have HEO:=Lib.hid eo9;clear eo9;obtain ⟨kd,kd9⟩:∃ kd,decide ((en l i).kd=3)=kd:=⟨_,rfl⟩;have HKD:=Lib.hid kd9;clear kd9;have hpd:=(HK.out.rg (k:=i) (by rw [HLN.out];exact hin)).p0
     have hil:i<l.length:=by rw [HLN.out];exact hin
     go_upto_region 13 with fail;refine jp ?_;refine cE (i:Int) (n:Int) (by omega) ?_;refine aQ hb hB0 fun X1 hX1 hb hB0=>?_;go_upto_region 14 with fail;refine jp ?_;refine jmm (vI i) (vI i) ?_;refine aQ hb hB0 fun X2 hX2 hb hB0=>?_;go_upto_region 15 with fail;refine jp ?_;refine ja hB0 Tryz.underlying79 (by rfl) mE ?_;refine jm (vI i) ?_;refine jc (.tuple #[.bool kd,.bool eo]) (fun X hX hF=>mo (vZe B c _ _ l cs i X (HES.out X (Since.next hb hX)) (HCS.out X (Since.next hb hX)) hil hpd) (by rw [HKD.out,HEO.out])) ?_;refine aX (.tuple #[.bool kd,.bool eo]) (.bool kd) (.bool eo) ?_;refine jmm (.bool kd) (.bool eo) ?_;refine aQ hb hB0 fun X3 hX3 hb hB0=>?_
     rcases eo with _|_
     ·skip
      go_upto_region 16 with fail;refine jp ?_;refine jmm (.bool false) (.bool true) ?_;refine aQ hb hB0 fun X4 hX4 hb hB0=>?_;go_upto_region 17 with fail;refine jp ?_;refine jm (.bool false) ?_;refine aQ hb hB0 fun X5 hX5 hb hB0=>?_;have HC:Hid (vld c l cs=false):=vQl (k:=i) hil HEO.out
      go_wp2
      go_ret
      exact ⟨by rw [HC.out];rfl,hb⟩
     ·skip
      go_upto_region 16 with fail;refine jp ?_;refine jmm (.bool true) (.bool false) ?_;refine aQ hb hB0 fun X4 hX4 hb hB0=>?_
      have HZ2:Hid (∀ j,j<i+1→cI cs (en l j) j=true):=fun j hj=>by
       rcases Nat.lt_or_ge j i with h9|h9
       ·exact HZ.out j h9
       ·rw [show j=i by omega];exact HEO.out
      go_upto_region 18 with fail;refine jp ?_;refine jv (vI ((i+1:Nat):Int)) (bB _ _ _ _ (by rfl) (i:Int) 1 ((i+1:Nat):Int) (by rfl) (by rfl) (by omega) (by omega) (by omega)) ?_;refine jm (vI ((i+1:Nat):Int)) ?_;refine aQ hb hB0 fun X5 hX5 hb hB0=>?_
      go_wp2
      go_roundw
      case rel=>exact ⟨i+1,by omega,rfl,HZ2,hB0,hb⟩
      case measure=>simp [intOf];omega
    ·have hin2:n≤i:=hin
     go_upto_region 13 with fail;refine jp ?_;refine bI (i:Int) (n:Int) (by omega) ?_;refine aQ hb hB0 fun X1 hX1 hb hB0=>?_;go_upto_region 19 with fail;refine jp ?_;refine jm (.bool true) ?_;refine aQ hb hB0 fun X2 hX2 hb hB0=>?_;have HC:Hid (vld c l cs=true):=decide_eq_true ⟨by rw [HLM.out];omega,HZC.out,fun j hj=>HZ.out j (by rw [HLN.out] at hj;omega)⟩
     go_wp2
     go_ret
     exact ⟨by rw [HC.out];rfl,hb⟩
theorem pvdC (B:Nat) (c:Int) (v z:Value) (l:List En) (cs:List Cg) (w:World) (hv:Es l v w) (hz:Cs B cs z w) (HK:Hid (Ok44 c l)):Calls Tryz.prog 26 #[.agg #[vI c,v,z]] w fun e w'=>e=.returned (.bool (vld c l cs))∧Since w w':=by
 rcases (show c<3∨(3≤c∧4000<cs.length)∨(3≤c∧cs.length≤4000) by omega) with h|h|h
 ·exact pvd0 B c v z l cs w hv hz HK h
 ·exact pvd1 B c v z l cs w hv hz HK h.1 h.2
 ·exact pvd2 B c v z l cs w hv hz HK h.1 h.2
theorem pck0 (B:Nat) (c:Int) (v z:Value) (l:List En) (cs:List Cg) (w:World) (hv:Es l v w) (hz:Cs B cs z w) (hs:Hid (∀ k,tz (en l k).am.2.1 (en l k).am.2.2 1000000)) (h0:acE c l≠0):Calls Tryz.prog 9 #[.agg #[vI c,v,z]] w fun e w'=>e=.returned (vI (peE c l cs))∧Since w w':=by
 obtain ⟨z0,z9⟩:∃ z,acE c l=z:=⟨_,rfl⟩;have HZ:=Lib.hid z9
 have hz0:z0≠0:=by rw [← z9];exact h0
 clear z9 h0
 have HE:Hid (peE c l cs=z0):=by
  show _=_
  unfold peE
  rw [HZ.out,if_pos hz0]
 obtain ⟨A,n,cp,A2,m,cp2,rfl,rfl,hln,hn1,hlm,hm1,HRX,HLN,HES,HCS,HRC,HLM⟩:=eU hv hz;clear hv hz
 go_enter Tryz.func9,Tryz.ntmps9
 go_upto_region 1 with fail;obtain ⟨W0,hW0,hB0,hb⟩:=aT w 27 [vI c,.slice A n cp,.slice A2 m cp2];rw [← hW0];clear hW0;refine jp ?_;refine jn (vP w.heap.size 0) ?_;refine jg (.agg #[vI c,.slice A n cp]) (fun X hX hF=>aY 24 _ (by rfl) w.heap.size 0 [vI c,.slice A n cp] (by rfl) Tryz.underlying24 rfl X (hB0.bel hX) (by rfl) bT) ?_;refine jc (vI z0) (fun X hX hF=>mo (qYc c _ l X (HES.out X (Since.next hb hX)) hs) (by rw [HZ.out])) ?_;refine jm (vI z0) ?_;refine aQ hb hB0 fun X1 hX1 hb hB0=>?_;go_upto_region 2 with fail;refine jp ?_;refine jm (vI z0) ?_;refine jv (.bool true) (bA _ _ _ _ (by rfl) .i64 z0 0 (by rfl) (by rfl) true (by rw [decide_eq_false (by omega)];rfl)) ?_;refine aQ hb hB0 fun X2 hX2 hb hB0=>?_;go_upto_region 3 with fail;refine jp ?_;refine jmm (vI z0) (vI z0) ?_;refine aQ hb hB0 fun X3 hX3 hb hB0=>?_
 go_wp2
 go_ret
 exact ⟨by rw [HE.out];rfl,hb⟩
theorem pck1 (B:Nat) (c:Int) (v z:Value) (l:List En) (cs:List Cg) (w:World) (hv:Es l v w) (hz:Cs B cs z w) (hs:Hid (∀ k,tz (en l k).am.2.1 (en l k).am.2.2 1000000)) (HC:Hid (acE c l=0)):Calls Tryz.prog 9 #[.agg #[vI c,v,z]] w fun e w'=>e=.returned (vI (peE c l cs))∧Since w w':=by
 obtain ⟨A,n,cp,A2,m,cp2,rfl,rfl,hln,hn1,hlm,hm1,HRX,HLN,HES,HCS,HRC,HLM⟩:=eU hv hz;clear hv hz
 go_enter Tryz.func9,Tryz.ntmps9
 go_upto_region 1 with fail;obtain ⟨W0,hW0,hB0,hb⟩:=aT w 27 [vI c,.slice A n cp,.slice A2 m cp2];rw [← hW0];clear hW0;refine jp ?_;refine jn (vP w.heap.size 0) ?_;refine jg (.agg #[vI c,.slice A n cp]) (fun X hX hF=>aY 24 _ (by rfl) w.heap.size 0 [vI c,.slice A n cp] (by rfl) Tryz.underlying24 rfl X (hB0.bel hX) (by rfl) bT) ?_;refine jc (vI 0) (fun X hX hF=>mo (qYc c _ l X (HES.out X (Since.next hb hX)) hs) (by rw [HC.out])) ?_;refine jm (vI 0) ?_;refine aQ hb hB0 fun X1 hX1 hb hB0=>?_;go_upto_region 2 with fail;refine jp ?_;refine jm (vI 0) ?_;refine jv (.bool false) (bA _ _ _ _ (by rfl) .i64 0 0 (by rfl) (by rfl) false (by rw [decide_eq_true (by omega)];rfl)) ?_;refine aQ hb hB0 fun X2 hX2 hb hB0=>?_;obtain ⟨vl,vl9⟩:∃ vl,vld c l cs=vl:=⟨_,rfl⟩;have HVL:=Lib.hid vl9;clear vl9;have HK:Hid (Ok44 c l):=acE_ok.1 HC.out
 have HE:Hid (peE c l cs=if vl=true then 0 else 1):=by
  show _=_
  rw [qN HC.out,HVL.out]
 go_upto_region 4 with fail
 rcases vl with _|_
 ·skip
  refine jp ?_;refine ja hB0 Tryz.underlying27 (by rfl) aK ?_;refine jc (.bool false) (fun X hX hF=>mo (pvdC B c _ _ l cs X (HES.out X (Since.next hb hX)) (HCS.out X (Since.next hb hX)) HK) (by rw [HVL.out])) ?_;refine jm (.bool true) ?_;refine aQ hb hB0 fun X3 hX3 hb hB0=>?_;go_upto_region 5 with fail;refine jp ?_;refine jm (vI 1) ?_;refine aQ hb hB0 fun X4 hX4 hb hB0=>?_
  go_wp2
  go_ret
  exact ⟨by rw [HE.out];rfl,hb⟩
 ·skip
  refine jp ?_;refine ja hB0 Tryz.underlying27 (by rfl) aK ?_;refine jc (.bool true) (fun X hX hF=>mo (pvdC B c _ _ l cs X (HES.out X (Since.next hb hX)) (HCS.out X (Since.next hb hX)) HK) (by rw [HVL.out])) ?_;refine jm (.bool false) ?_;refine aQ hb hB0 fun X3 hX3 hb hB0=>?_;go_upto_region 6 with fail;refine jp ?_;refine jm (vI 0) ?_;refine aQ hb hB0 fun X4 hX4 hb hB0=>?_
  go_wp2
  go_ret
  exact ⟨by rw [HE.out];rfl,hb⟩
theorem sZ (B:Nat) (c:Int) (v z:Value) (l:List En) (cs:List Cg) (w:World) (hv:Es l v w) (hz:Cs B cs z w) (hs:Hid (∀ k,tz (en l k).am.2.1 (en l k).am.2.2 1000000)):Calls Tryz.prog 9 #[.agg #[vI c,v,z]] w fun e w'=>e=.returned (vI (peE c l cs))∧Since w w':=by
 by_cases h0:acE c l=0
 ·exact pck1 B c v z l cs w hv hz hs h0
 ·exact pck0 B c v z l cs w hv hz hs h0
end Go.Proofs.YtjkfchehkpmhkaaGreatDoor

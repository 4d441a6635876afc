/- The reference of layer 45: Check, amount, asked, stale. -/
import Derived.Test.YtjkfchehkpmhkaaGreatDoorRa45
set_option linter.unusedSimpArgs false
set_option linter.unusedVariables false
set_option maxRecDepth 100000
set_option maxHeartbeats 1600000
namespace Go.Proofs.YtjkfchehkpmhkaaGreatDoor
open Go.RowKit
theorem rck0 (B:Nat) (c:Int) (v z:Value) (l:List En) (cs:List Cg) (w:World) (hv:Es l v w) (hz:Cs B cs z w) (hs:Hid (∀ k,tz (en l k).am.2.1 (en l k).am.2.2 1000000)) (h0:acE c l≠0):Calls Tryz.prog 10 #[.agg #[vI c,v,z]] w fun e w'=>e=.returned (vI (peE c l cs))∧Since w w':=by
 obtain ⟨z0,z9⟩:∃ z,acE c l=z:=⟨_,rfl⟩;have HZ:=Lib.hid z9
 have hz0:z0≠0:=by rw [← z9];exact h0
 clear z9 h0
 have HE:Hid (peE c l cs=z0):=by
  show _=_
  unfold peE
  rw [HZ.out,if_pos hz0]
 obtain ⟨A,n,cp,A2,m,cp2,rfl,rfl,hln,hn1,hlm,hm1,HRX,HLN,HES,HCS,HRC,HLM⟩:=eR hv hz;clear hv hz
 go_enter Tryz.func10,Tryz.ntmps10
 go_upto_region 1 with fail;obtain ⟨W0,hW0,hB0,hb⟩:=aP w 27 [vI c,.slice A n cp,.slice A2 m cp2];rw [← hW0];clear hW0;refine jp ?_;refine jn (vP w.heap.size 0) ?_;refine jg (.agg #[vI c,.slice A n cp]) (fun X hX hF=>aX 24 _ (by rfl) w.heap.size 0 [vI c,.slice A n cp] (by rfl) Tryz.underlying24 rfl X (hB0.bel hX) (by rfl) bW) ?_;refine jc (vI z0) (fun X hX hF=>mo (qZc c _ l X (HES.out X (Since.next hb hX)) hs) (by rw [HZ.out])) ?_;refine jm (vI z0) ?_;refine aQ hb hB0 fun X1 hX1 hb hB0=>?_;go_upto_region 2 with fail;refine jp ?_;refine jm (vI z0) ?_;refine jv (.bool true) (aZ _ _ _ _ (by rfl) .i64 z0 0 (by rfl) (by rfl) true (by rw [decide_eq_false (by omega)];rfl)) ?_;refine aQ hb hB0 fun X2 hX2 hb hB0=>?_;go_upto_region 3 with fail;refine jp ?_;refine jmm (vI z0) (vI z0) ?_;refine aQ hb hB0 fun X3 hX3 hb hB0=>?_
 go_wp2
 go_ret
 exact ⟨by rw [HE.out];rfl,hb⟩
theorem rck1 (B:Nat) (c:Int) (v z:Value) (l:List En) (cs:List Cg) (w:World) (hv:Es l v w) (hz:Cs B cs z w) (hs:Hid (∀ k,tz (en l k).am.2.1 (en l k).am.2.2 1000000)) (HC:Hid (acE c l=0)) (h:c<3):Calls Tryz.prog 10 #[.agg #[vI c,v,z]] w fun e w'=>e=.returned (vI (peE c l cs))∧Since w w':=by
 obtain ⟨A,n,cp,A2,m,cp2,rfl,rfl,hln,hn1,hlm,hm1,HRX,HLN,HES,HCS,HRC,HLM⟩:=eR hv hz;clear hv hz
 go_enter Tryz.func10,Tryz.ntmps10
 go_upto_region 1 with fail;obtain ⟨W0,hW0,hB0,hb⟩:=aP w 27 [vI c,.slice A n cp,.slice A2 m cp2];rw [← hW0];clear hW0;refine jp ?_;refine jn (vP w.heap.size 0) ?_;refine jg (.agg #[vI c,.slice A n cp]) (fun X hX hF=>aX 24 _ (by rfl) w.heap.size 0 [vI c,.slice A n cp] (by rfl) Tryz.underlying24 rfl X (hB0.bel hX) (by rfl) bW) ?_;refine jc (vI 0) (fun X hX hF=>mo (qZc c _ l X (HES.out X (Since.next hb hX)) hs) (by rw [HC.out])) ?_;refine jm (vI 0) ?_;refine aQ hb hB0 fun X1 hX1 hb hB0=>?_;go_upto_region 2 with fail;refine jp ?_;refine jm (vI 0) ?_;refine jv (.bool false) (aZ _ _ _ _ (by rfl) .i64 0 0 (by rfl) (by rfl) false (by rw [decide_eq_true (by omega)];rfl)) ?_;refine aQ hb hB0 fun X2 hX2 hb hB0=>?_;go_upto_region 4 with fail;refine jp ?_;refine jnn (vP w.heap.size 0) (vP w.heap.size 0) ?_;refine jf _ hB0 0 aA ?_;refine cF c 3 (by omega) ?_;refine jm (.bool true) ?_;refine bS ?_;refine jm (.bool true) ?_;refine aQ hb hB0 fun X3 hX3 hb hB0=>?_;go_upto_region 5 with fail;refine jp ?_;refine jm (vI 1) ?_;refine aQ hb hB0 fun X4 hX4 hb hB0=>?_
 have HE:Hid (peE c l cs=1):=by
  show _=_
  rw [qN HC.out,if_neg (by rw [vT (.inl h)];decide)]
 go_wp2
 go_ret
 exact ⟨by rw [HE.out];rfl,hb⟩
theorem rck2 (B:Nat) (c:Int) (v z:Value) (l:List En) (cs:List Cg) (w:World) (hv:Es l v w) (hz:Cs B cs z w) (hs:Hid (∀ k,tz (en l k).am.2.1 (en l k).am.2.2 1000000)) (HC:Hid (acE c l=0)) (h0:3≤c) (h:4000<cs.length):Calls Tryz.prog 10 #[.agg #[vI c,v,z]] w fun e w'=>e=.returned (vI (peE c l cs))∧Since w w':=by
 obtain ⟨A,n,cp,A2,m,cp2,rfl,rfl,hln,hn1,hlm,hm1,HRX,HLN,HES,HCS,HRC,HLM⟩:=eR hv hz;clear hv hz
 go_enter Tryz.func10,Tryz.ntmps10
 go_upto_region 1 with fail;obtain ⟨W0,hW0,hB0,hb⟩:=aP w 27 [vI c,.slice A n cp,.slice A2 m cp2];rw [← hW0];clear hW0;refine jp ?_;refine jn (vP w.heap.size 0) ?_;refine jg (.agg #[vI c,.slice A n cp]) (fun X hX hF=>aX 24 _ (by rfl) w.heap.size 0 [vI c,.slice A n cp] (by rfl) Tryz.underlying24 rfl X (hB0.bel hX) (by rfl) bW) ?_;refine jc (vI 0) (fun X hX hF=>mo (qZc c _ l X (HES.out X (Since.next hb hX)) hs) (by rw [HC.out])) ?_;refine jm (vI 0) ?_;refine aQ hb hB0 fun X1 hX1 hb hB0=>?_;go_upto_region 2 with fail;refine jp ?_;refine jm (vI 0) ?_;refine jv (.bool false) (aZ _ _ _ _ (by rfl) .i64 0 0 (by rfl) (by rfl) false (by rw [decide_eq_true (by omega)];rfl)) ?_;refine aQ hb hB0 fun X2 hX2 hb hB0=>?_
 have hm4:4000<m:=by rw [← HLM.out];exact h
 go_upto_region 4 with fail;refine jp ?_;refine jnn (vP w.heap.size 0) (vP w.heap.size 0) ?_;refine jf _ hB0 0 aA ?_;refine bK c 3 (by omega) ?_;refine jmn (.bool false) (vP w.heap.size 2) ?_;refine jf _ hB0 2 bD ?_;refine jv (vI m) (aH Tryz.underlying25 _ (by rfl) A2 m cp2 (by rfl) _ rfl) ?_;refine cI (m:Int) 4000 (by omega) ?_;refine jm (.bool true) ?_;refine aQ hb hB0 fun X3 hX3 hb hB0=>?_;go_upto_region 5 with fail;refine jp ?_;refine jm (vI 1) ?_;refine aQ hb hB0 fun X4 hX4 hb hB0=>?_
 have HE:Hid (peE c l cs=1):=by
  show _=_
  rw [qN HC.out,if_neg (by rw [vT (.inr h)];decide)]
 go_wp2
 go_ret
 exact ⟨by rw [HE.out];rfl,hb⟩
theorem rck3 (B:Nat) (c:Int) (v z:Value) (l:List En) (cs:List Cg) (w:World) (hv:Es l v w) (hz:Cs B cs z w) (hs:Hid (∀ k,tz (en l k).am.2.1 (en l k).am.2.2 1000000)) (HC:Hid (acE c l=0)) (h0:3≤c) (h:cs.length≤4000):Calls Tryz.prog 10 #[.agg #[vI c,v,z]] w fun e w'=>e=.returned (vI (peE c l cs))∧Since w w':=by
 obtain ⟨A,n,cp,A2,m,cp2,rfl,rfl,hln,hn1,hlm,hm1,HRX,HLN,HES,HCS,HRC,HLM⟩:=eR hv hz;clear hv hz
 go_enter Tryz.func10,Tryz.ntmps10
 go_upto_region 1 with fail;obtain ⟨W0,hW0,hB0,hb⟩:=aP w 27 [vI c,.slice A n cp,.slice A2 m cp2];rw [← hW0];clear hW0;refine jp ?_;refine jn (vP w.heap.size 0) ?_;refine jg (.agg #[vI c,.slice A n cp]) (fun X hX hF=>aX 24 _ (by rfl) w.heap.size 0 [vI c,.slice A n cp] (by rfl) Tryz.underlying24 rfl X (hB0.bel hX) (by rfl) bW) ?_;refine jc (vI 0) (fun X hX hF=>mo (qZc c _ l X (HES.out X (Since.next hb hX)) hs) (by rw [HC.out])) ?_;refine jm (vI 0) ?_;refine aQ hb hB0 fun X1 hX1 hb hB0=>?_;go_upto_region 2 with fail;refine jp ?_;refine jm (vI 0) ?_;refine jv (.bool false) (aZ _ _ _ _ (by rfl) .i64 0 0 (by rfl) (by rfl) false (by rw [decide_eq_true (by omega)];rfl)) ?_;refine aQ hb hB0 fun X2 hX2 hb hB0=>?_
 have hm4:m≤4000:=by rw [← HLM.out];exact h
 have HK:Hid (Ok44 c l):=acE_ok.1 HC.out;have hl4:=HK.out.len;rw [HLN.out] at hl4;go_upto_region 4 with fail;refine jp ?_;refine jnn (vP w.heap.size 0) (vP w.heap.size 0) ?_;refine jf _ hB0 0 aA ?_;refine bK c 3 (by omega) ?_;refine jmn (.bool false) (vP w.heap.size 2) ?_;refine jf _ hB0 2 bD ?_;refine jv (vI m) (aH Tryz.underlying25 _ (by rfl) A2 m cp2 (by rfl) _ rfl) ?_;refine cB (m:Int) 4000 (by omega) ?_;refine jm (.bool false) ?_;refine aQ hb hB0 fun X3 hX3 hb hB0=>?_;go_upto_region 6 with fail;refine jp ?_;refine jm (vI 0) ?_;refine aQ hb hB0 fun X4 hX4 hb hB0=>?_
 go_wp2
 go_loopw [4] (fun kv wr=>∃ k:Nat,k≤m∧kv=vI k∧Hid (∀ j,j<k→dO cs l j)∧Blk wr w.heap.size 27 [vI c,.slice A n cp,.slice A2 m cp2]∧Below w.heap.size w wr) (fun kv _=>m-(intOf kv).toNat)
 case atStart=>exact ⟨0,by omega,rfl,(fun j hj=>by omega),hB0,hb⟩
 case round =>
  clear hb hB0;obtain ⟨k,hk,rfl,HZ,hB0,hb⟩:=hrel
  rcases Nat.lt_or_ge k m with hlt|hlt
  ·obtain ⟨ok,ok9⟩:∃ b,decide (dO cs l k)=b:=⟨_,rfl⟩
   have HOK:=Lib.hid ok9;clear ok9
   have hkc:k<cs.length:=by rw [HLM.out];exact hlt
   go_upto_region 7 with fail;refine jp ?_;refine jmn (vI k) (vP w.heap.size 2) ?_;refine jf _ hB0 2 bD ?_;refine jv (vI m) (aH Tryz.underlying25 _ (by rfl) A2 m cp2 (by rfl) _ rfl) ?_;refine cF (k:Int) (m:Int) (by omega) ?_;refine aQ hb hB0 fun X1 hX1 hb hB0=>?_;go_upto_region 9 with fail;refine jp ?_;refine ja hB0 Tryz.underlying27 (by rfl) aM ?_;refine jm (vI k) ?_;refine jc (.bool ok) (fun X hX hF=>mo (rcoC B c _ _ l cs k X (HES.out X (Since.next hb hX)) (HCS.out X (Since.next hb hX)) hkc) (by rw [HOK.out])) ?_;refine jm (.bool ok) ?_;refine aQ hb hB0 fun X2 hX2 hb hB0=>?_
   rcases ok with _|_
   ·skip
    go_upto_region 10 with fail;refine jp ?_;refine jmm (.bool false) (.bool true) ?_;refine aQ hb hB0 fun X3 hX3 hb hB0=>?_;go_upto_region 11 with fail;refine jp ?_;refine jm (vI 1) ?_;refine aQ hb hB0 fun X4 hX4 hb hB0=>?_
    have HE:Hid (peE c l cs=1):=by
     show _=_
     rw [qN HC.out,if_neg (by rw [zH (k:=k) hkc (of_decide_eq_false HOK.out)];decide)]
    go_wp2
    go_ret
    exact ⟨by rw [HE.out];rfl,hb⟩
   ·skip
    go_upto_region 10 with fail;refine jp ?_;refine jmm (.bool true) (.bool false) ?_;refine aQ hb hB0 fun X3 hX3 hb hB0=>?_
    have HZ2:Hid (∀ j,j<k+1→dO cs l j):=fun j hj=>by
     rcases Nat.lt_or_ge j k with h9|h9
     ·exact HZ.out j h9
     ·rw [show j=k by omega];exact of_decide_eq_true HOK.out
    go_upto_region 8 with fail;refine jp ?_;refine jm (vI k) ?_;refine jv (vI ((k+1:Nat):Int)) (aW _ _ _ _ (by rfl) (k:Int) 1 ((k+1:Nat):Int) (by rfl) (by rfl) (by omega) (by omega) (by omega)) ?_;refine jm (vI ((k+1:Nat):Int)) ?_;refine aQ hb hB0 fun X4 hX4 hb hB0=>?_
    go_wp2
    go_roundw
    case rel=>exact ⟨k+1,by omega,rfl,HZ2,hB0,hb⟩
    case measure=>simp [intOf];omega
  ·have HZC:Hid (∀ j,j<cs.length→dO cs l j):=fun j hj=>HZ.out j (by rw [HLM.out] at hj;omega)
   go_upto_region 7 with fail;refine jp ?_;refine jmn (vI k) (vP w.heap.size 2) ?_;refine jf _ hB0 2 bD ?_;refine jv (vI m) (aH Tryz.underlying25 _ (by rfl) A2 m cp2 (by rfl) _ rfl) ?_;refine bK (k:Int) (m:Int) (by omega) ?_;refine aQ hb hB0 fun X1 hX1 hb hB0=>?_;go_upto_region 12 with fail;refine jp ?_;refine jm (vI 0) ?_;refine aQ hb hB0 fun X2 hX2 hb hB0=>?_
   go_wp2
   go_loopw [6] (fun kv wx=>∃ i:Nat,i≤n∧kv=vI i∧Hid (∀ j,j<i→cG cs (en l j) j=true)∧Blk wx w.heap.size 27 [vI c,.slice A n cp,.slice A2 m cp2]∧Below w.heap.size w wx) (fun kv _=>n-(intOf kv).toNat)
   case atStart=>exact ⟨0,by omega,rfl,(fun j hj=>by omega),hB0,hb⟩
   case round =>
    clear hb hB0 HZ;obtain ⟨i,hi,rfl,HZ,hB0,hb⟩:=hrel
    rcases Nat.lt_or_ge i n with hin|hin
    ·have hil:i<l.length:=by rw [HLN.out];exact hin
     obtain ⟨wt9,wt99⟩:∃ z,jG cs (en l i) (i:Int)=z:=⟨_,rfl⟩;have HWT:=Lib.hid wt99;clear wt99;obtain ⟨ic9,ic99⟩:∃ z,jM cs (en l i) (i:Int)=z:=⟨_,rfl⟩;have HIC:=Lib.hid ic99;clear ic99;have hpd:=(HK.out.rg (k:=i) hil).p0
     have hi4:i≤4000:=by omega
     go_upto_region 13 with fail;refine jp ?_;refine jmn (vI i) (vP w.heap.size 0) ?_;refine jn (vP w.heap.size 1) ?_;refine jf _ hB0 1 aS ?_;refine jv (vI n) (aH Tryz.underlying22 _ (by rfl) A n cp (by rfl) _ rfl) ?_;refine cF (i:Int) (n:Int) (by omega) ?_;refine aQ hb hB0 fun X1 hX1 hb hB0=>?_;go_upto_region 15 with fail;refine jp ?_;refine ja hB0 Tryz.underlying27 (by rfl) aM ?_;refine jm (vI i) ?_;refine jc (.bool wt9) (fun X hX hF=>mo (rwaC B c _ _ l cs i X (HES.out X (Since.next hb hX)) (HCS.out X (Since.next hb hX)) hil hpd) (by rw [HWT.out])) ?_;refine jm (.bool wt9) ?_;refine aQ hb hB0 fun X2 hX2 hb hB0=>?_;go_upto_region 16 with fail;refine jp ?_;refine ja hB0 Tryz.underlying27 (by rfl) aM ?_;refine jm (vI i) ?_;refine jc (.bool ic9) (fun X hX hF=>mo (ricC B c _ _ l cs i X (HES.out X (Since.next hb hX)) (HCS.out X (Since.next hb hX)) hil hpd) (by rw [HIC.out])) ?_;refine jm (.bool ic9) ?_;refine aQ hb hB0 fun X3 hX3 hb hB0=>?_
     rcases wt9 with _|_
     ·skip
      rcases ic9 with _|_
      ·skip
       go_upto_region 17 with fail;refine jp ?_;refine aU (.bool false) (.bool true) (.bool true) ?_;refine aU (.bool false) (.bool true) (.bool true) ?_;refine aQ hb hB0 fun X4 hX4 hb hB0=>?_;go_upto_region 18 with fail;refine jp ?_;refine jm (vI 1) ?_;refine aQ hb hB0 fun X5 hX5 hb hB0=>?_
       have HE:Hid (peE c l cs=1):=by
        show _=_
        rw [qN HC.out,if_neg (by rw [vQo (k:=i) hil (qZz hi4 HWT.out HIC.out)];decide)]
       go_wp2
       go_ret
       exact ⟨by rw [HE.out];rfl,hb⟩
      ·skip
       go_upto_region 17 with fail;refine jp ?_;refine aU (.bool false) (.bool true) (.bool true) ?_;refine aU (.bool true) (.bool false) (.bool false) ?_;refine aQ hb hB0 fun X4 hX4 hb hB0=>?_
       have HOK:Hid (cG cs (en l i) i=true):=by
        show _=_
        rw [jD hi4,HWT.out,HIC.out]
        rfl
       have HZ2:Hid (∀ j,j<i+1→cG cs (en l j) j=true):=fun j hj=>by
        rcases Nat.lt_or_ge j i with h9|h9
        ·exact HZ.out j h9
        ·rw [show j=i by omega];exact HOK.out
       go_upto_region 14 with fail;refine jp ?_;refine jm (vI i) ?_;refine jv (vI ((i+1:Nat):Int)) (aW _ _ _ _ (by rfl) (i:Int) 1 ((i+1:Nat):Int) (by rfl) (by rfl) (by omega) (by omega) (by omega)) ?_;refine jm (vI ((i+1:Nat):Int)) ?_;refine aQ hb hB0 fun X5 hX5 hb hB0=>?_
       go_wp2
       go_roundw
       case rel=>exact ⟨i+1,by omega,rfl,HZ2,hB0,hb⟩
       case measure=>simp [intOf];omega
     ·skip
      rcases ic9 with _|_
      ·skip
       go_upto_region 17 with fail;refine jp ?_;refine aU (.bool true) (.bool false) (.bool false) ?_;refine jss ?_;refine jm (.bool false) ?_;refine aQ hb hB0 fun X4 hX4 hb hB0=>?_
       have HOK:Hid (cG cs (en l i) i=true):=by
        show _=_
        rw [jD hi4,HWT.out,HIC.out]
        rfl
       have HZ2:Hid (∀ j,j<i+1→cG cs (en l j) j=true):=fun j hj=>by
        rcases Nat.lt_or_ge j i with h9|h9
        ·exact HZ.out j h9
        ·rw [show j=i by omega];exact HOK.out
       go_upto_region 14 with fail;refine jp ?_;refine jm (vI i) ?_;refine jv (vI ((i+1:Nat):Int)) (aW _ _ _ _ (by rfl) (i:Int) 1 ((i+1:Nat):Int) (by rfl) (by rfl) (by omega) (by omega) (by omega)) ?_;refine jm (vI ((i+1:Nat):Int)) ?_;refine aQ hb hB0 fun X5 hX5 hb hB0=>?_
       go_wp2
       go_roundw
       case rel=>exact ⟨i+1,by omega,rfl,HZ2,hB0,hb⟩
       case measure=>simp [intOf];omega
      ·skip
       go_upto_region 17 with fail;refine jp ?_;refine aU (.bool true) (.bool false) (.bool false) ?_;refine jss ?_;refine jm (.bool false) ?_;refine aQ hb hB0 fun X4 hX4 hb hB0=>?_
       have HOK:Hid (cG cs (en l i) i=true):=by
        show _=_
        rw [jD hi4,HWT.out,HIC.out]
        rfl
       have HZ2:Hid (∀ j,j<i+1→cG cs (en l j) j=true):=fun j hj=>by
        rcases Nat.lt_or_ge j i with h9|h9
        ·exact HZ.out j h9
        ·rw [show j=i by omega];exact HOK.out
       go_upto_region 14 with fail;refine jp ?_;refine jm (vI i) ?_;refine jv (vI ((i+1:Nat):Int)) (aW _ _ _ _ (by rfl) (i:Int) 1 ((i+1:Nat):Int) (by rfl) (by rfl) (by omega) (by omega) (by omega)) ?_;refine jm (vI ((i+1:Nat):Int)) ?_;refine aQ hb hB0 fun X5 hX5 hb hB0=>?_
       go_wp2
       go_roundw
       case rel=>exact ⟨i+1,by omega,rfl,HZ2,hB0,hb⟩
       case measure=>simp [intOf];omega
    ·have hin2:n≤i:=hin
     go_upto_region 13 with fail;refine jp ?_;refine jmn (vI i) (vP w.heap.size 0) ?_;refine jn (vP w.heap.size 1) ?_;refine jf _ hB0 1 aS ?_;refine jv (vI n) (aH Tryz.underlying22 _ (by rfl) A n cp (by rfl) _ rfl) ?_;refine bK (i:Int) (n:Int) (by omega) ?_;refine aQ hb hB0 fun X1 hX1 hb hB0=>?_;go_upto_region 19 with fail;refine jp ?_;refine jm (vI 0) ?_;refine aQ hb hB0 fun X2 hX2 hb hB0=>?_
     have HE:Hid (peE c l cs=0):=by
      show _=_
      have h9:vld c l cs=true:=decide_eq_true ⟨by rw [HLM.out];omega,HZC.out,fun j hj=>HZ.out j (by rw [HLN.out] at hj;omega)⟩;rw [qN HC.out,if_pos h9]
     go_wp2
     go_ret
     exact ⟨by rw [HE.out];rfl,hb⟩
theorem uL (B:Nat) (c:Int) (v z:Value) (l:List En) (cs:List Cg) (w:World) (hv:Es l v w) (hz:Cs B cs z w) (hs:Hid (∀ k,tz (en l k).am.2.1 (en l k).am.2.2 1000000)):Calls Tryz.prog 10 #[.agg #[vI c,v,z]] w fun e w'=>e=.returned (vI (peE c l cs))∧Since w w':=by
 by_cases h0:acE c l=0
 ·rcases (show c<3∨(3≤c∧4000<cs.length)∨(3≤c∧cs.length≤4000) by omega) with h|h|h
  ·exact rck1 B c v z l cs w hv hz hs h0 h
  ·exact rck2 B c v z l cs w hv hz hs h0 h.1 h.2
  ·exact rck3 B c v z l cs w hv hz hs h0 h.1 h.2
 ·exact rck0 B c v z l cs w hv hz hs h0
theorem vYw {x:En} {a:Int} (h1:x.deb≠a) (h2:x.cre≠a):ent x a=0:=by
 unfold ent
 rw [if_neg h1,if_neg h2]
 grind
theorem qZb (x:En) (a:Int) (w:World) (hv9:vd x.am.1 x.am.2.1 x.am.2.2=true) (hne:x.deb≠x.cre) (hx:tz x.am.2.1 x.am.2.2 1000000):Calls Tryz.prog 48 #[.agg #[vI x.day,vI x.deb,vI x.cre,.bool x.am.1,vS x.am.2.1,vS x.am.2.2,vI x.kd,vI x.pd,vI x.rf,vI x.w1,vI x.w2,vI x.w3,vI x.w4],vI a] w fun e w'=>e=.returned (rbv (ent x a))∧Since w w':=by
 go_enter Tryz.func48,Tryz.ntmps48
 go_upto_region 1 with fail;obtain ⟨W0,hW0,hB0,hB1,hb⟩:=cK w 76 40 (eL x) [.bool false,.string ⟨#[]⟩,.string ⟨#[]⟩];rw [← hW0];clear hW0
 rcases (show x.deb=a∨(x.deb≠a∧x.cre=a)∨(x.deb≠a∧x.cre≠a) by omega) with h|h|h
 ·have HD:=Lib.hid h
  clear h;obtain ⟨q1,q2,q3⟩:=vVb hv9 HD.out hne;have H1:=Lib.hid q1;have H2:=Lib.hid q2;have H3:=Lib.hid q3;clear q1 q2 q3;refine jp ?_;refine jn (vP w.heap.size 1) ?_;refine jf _ hB0 1 aA ?_;refine jm (vI a) ?_;refine cP x.deb a HD.out ?_;refine aN hb hB0 hB1 fun X1 hX1 hb hB0 hB1=>?_;go_upto_region 2 with fail;refine jq 2 ?_;refine jn (vP w.heap.size 3) ?_;refine jg (.agg #[.bool x.am.1,st x.am.2.1,st x.am.2.2]) (fun X hX hF=>aX 40 _ (by rfl) w.heap.size 3 [.bool x.am.1,vS x.am.2.1,vS x.am.2.2] (by rfl) Tryz.underlying40 rfl X (hB0.bel hX) (by rfl) aC) ?_;refine aN hb hB0 hB1 fun X2 hX2 hb hB0 hB1=>?_;refine osb 40 4 10 (w.heap.size+1) 40 hB1 [.bool x.am.1,vS x.am.2.1,vS x.am.2.2] aC ?_;intro w9 hR9 hO9 hB9 hs9;have hb9:=hB9 _ _ hb (by omega);have hB0:=hO9 _ _ _ (by omega) hB0;clear hO9 hB9
  go_wp2
  refine aY rfl rfl (by rfl) Tryz.underlying40 rfl hR9 aC ⟨by rw [kA ⟨H1.out,H2.out,H3.out⟩],hb9⟩
 ·have HD:=Lib.hid h.1
  have hd:=h.1;have HK:=Lib.hid h.2;clear h;have HV9:Hid (ent x a=-(trq x.am)):=vVc HD.out HK.out;refine jp ?_;refine jn (vP w.heap.size 1) ?_;refine jf _ hB0 1 aA ?_;refine jm (vI a) ?_;refine dF x.deb a HD.out ?_;refine aN hb hB0 hB1 fun X1 hX1 hb hB0 hB1=>?_;go_upto_region 3 with fail;refine jp ?_;refine jn (vP w.heap.size 2) ?_;refine jf _ hB0 2 aA ?_;refine jm (vI a) ?_;refine cP x.cre a HK.out ?_;refine aN hb hB0 hB1 fun X2 hX2 hb hB0 hB1=>?_;go_upto_region 4 with fail;refine jq 3 ?_;refine jn (vP w.heap.size 3) ?_;refine jg (.agg #[.bool x.am.1,st x.am.2.1,st x.am.2.2]) (fun X hX hF=>aX 40 _ (by rfl) w.heap.size 3 [.bool x.am.1,vS x.am.2.1,vS x.am.2.2] (by rfl) Tryz.underlying40 rfl X (hB0.bel hX) (by rfl) aC) ?_;refine jc (rt (rN (-(trq x.am))) (rP (-(trq x.am))) (rD (-(trq x.am)))) (fun X hX hF=>negS x.am.1 x.am.2.1 x.am.2.2 rfl X hx) ?_;refine aN hb hB0 hB1 fun X3 hX3 hb hB0 hB1=>?_;refine osb 40 4 17 (w.heap.size+1) 40 hB1 [.bool (rN (-(trq x.am))),.string ⟨(rP (-(trq x.am))).toArray⟩,.string ⟨(rD (-(trq x.am))).toArray⟩] aC ?_;intro w9 hR9 hO9 hB9 hs9;have hb9:=hB9 _ _ hb (by omega);have hB0:=hO9 _ _ _ (by omega) hB0;clear hO9 hB9
  go_wp2
  refine aY rfl rfl (by rfl) Tryz.underlying40 rfl hR9 aC ⟨by rw [HV9.out],hb9⟩
 ·have HD:=Lib.hid h.1
  have HK:=Lib.hid h.2;clear h;have HV9:Hid (ent x a=0):=vYw HD.out HK.out;refine jp ?_;refine jn (vP w.heap.size 1) ?_;refine jf _ hB0 1 aA ?_;refine jm (vI a) ?_;refine dF x.deb a HD.out ?_;refine aN hb hB0 hB1 fun X1 hX1 hb hB0 hB1=>?_;go_upto_region 3 with fail;refine jp ?_;refine jn (vP w.heap.size 2) ?_;refine jf _ hB0 2 aA ?_;refine jm (vI a) ?_;refine dF x.cre a HK.out ?_;refine aN hb hB0 hB1 fun X2 hX2 hb hB0 hB1=>?_;go_upto_region 5 with fail;refine jq 1 ?_;refine jn (rz) ?_;refine aN hb hB0 hB1 fun X3 hX3 hb hB0 hB1=>?_;refine osb 40 4 18 (w.heap.size+1) 40 hB1 [.bool false,.string ⟨#[]⟩,.string ⟨#[]⟩] aC ?_;intro w9 hR9 hO9 hB9 hs9;have hb9:=hB9 _ _ hb (by omega);have hB0:=hO9 _ _ _ (by omega) hB0;clear hO9 hB9
  go_wp2
  refine aY rfl rfl (by rfl) Tryz.underlying40 rfl hR9 aC ⟨by rw [HV9.out];rfl,hb9⟩
theorem uN (B:Nat) (c:Int) (v z:Value) (l:List En) (cs:List Cg) (p a d:Int) (w:World) (hv:Es l v w) (hz:Cs B cs z w):Calls Tryz.prog 41 #[.agg #[vI c,v,z],vI p,vI a,vI d] w fun e w'=>e=.returned (vI (dK c p a d))∧Since w w':=by
 obtain ⟨A,n,cp,A2,m,cp2,rfl,rfl,hln,hn1,hlm,hm1,HRX,HLN,HES,HCS,HRC,HLM⟩:=eR hv hz;clear hv hz
 go_enter Tryz.func41,Tryz.ntmps41
 go_upto_region 1 with fail;obtain ⟨W0,hW0,hB0,hb⟩:=aP w 27 [vI c,.slice A n cp,.slice A2 m cp2];rw [← hW0];clear hW0
 rcases (show (p<0)∨(0≤p∧4000<p)∨(0≤p∧p≤4000∧a<2)∨(0≤p∧p≤4000∧2≤a∧c≤a)∨(0≤p∧p≤4000∧2≤a∧a<c∧d<0)∨(0≤p∧p≤4000∧2≤a∧a<c∧0≤d∧14609<d)∨(0≤p∧p≤4000∧2≤a∧a<c∧0≤d∧d≤14609) by omega) with h|h|h|h|h|h|h
 ·refine jp ?_
  refine jm (vI p) ?_;refine cF p 0 (by omega) ?_;refine jm (.bool true) ?_;refine jss ?_;refine jmm (.bool true) (.bool true) ?_;refine jss ?_;refine jmm (.bool true) (.bool true) ?_;refine bS ?_;refine js ?_;refine jmm (.bool true) (.bool true) ?_;refine jss ?_;refine jmm (.bool true) (.bool true) ?_;refine jss ?_;refine jm (.bool true) ?_;refine aQ hb hB0 fun X1 hX1 hb hB0=>?_;go_upto_region 2 with fail;refine jp ?_;refine jm (vI 3) ?_;refine aQ hb hB0 fun X2 hX2 hb hB0=>?_;have HC:Hid (dK c p a d=3):=if_pos (by omega)
  go_wp2
  go_ret
  exact ⟨by rw [HC.out];rfl,hb⟩
 ·refine jp ?_
  refine jm (vI p) ?_;refine bK p 0 (by omega) ?_;refine jmm (.bool false) (vI p) ?_;refine cI p 4000 (by omega) ?_;refine jmm (.bool true) (.bool true) ?_;refine jss ?_;refine jmm (.bool true) (.bool true) ?_;refine bS ?_;refine js ?_;refine jmm (.bool true) (.bool true) ?_;refine jss ?_;refine jmm (.bool true) (.bool true) ?_;refine jss ?_;refine jm (.bool true) ?_;refine aQ hb hB0 fun X1 hX1 hb hB0=>?_;go_upto_region 2 with fail;refine jp ?_;refine jm (vI 3) ?_;refine aQ hb hB0 fun X2 hX2 hb hB0=>?_;have HC:Hid (dK c p a d=3):=if_pos (by omega)
  go_wp2
  go_ret
  exact ⟨by rw [HC.out];rfl,hb⟩
 ·refine jp ?_
  refine jm (vI p) ?_;refine bK p 0 (by omega) ?_;refine jmm (.bool false) (vI p) ?_;refine cB p 4000 (by omega) ?_;refine aU (.bool false) (.bool false) (vI a) ?_;refine cF a 2 (by omega) ?_;refine jmm (.bool true) (.bool true) ?_;refine bS ?_;refine js ?_;refine jmm (.bool true) (.bool true) ?_;refine jss ?_;refine jmm (.bool true) (.bool true) ?_;refine jss ?_;refine jm (.bool true) ?_;refine aQ hb hB0 fun X1 hX1 hb hB0=>?_;go_upto_region 2 with fail;refine jp ?_;refine jm (vI 3) ?_;refine aQ hb hB0 fun X2 hX2 hb hB0=>?_;have HC:Hid (dK c p a d=3):=if_pos (by omega)
  go_wp2
  go_ret
  exact ⟨by rw [HC.out];rfl,hb⟩
 ·refine jp ?_
  refine jm (vI p) ?_;refine bK p 0 (by omega) ?_;refine jmm (.bool false) (vI p) ?_;refine cB p 4000 (by omega) ?_;refine aU (.bool false) (.bool false) (vI a) ?_;refine bK a 2 (by omega) ?_;refine aU (.bool false) (.bool false) (vI a) ?_;refine jnn (vP w.heap.size 0) (vP w.heap.size 0) ?_;refine jf _ hB0 0 aA ?_;refine gK a c (by omega) ?_;refine jmm (.bool true) (.bool true) ?_;refine jss ?_;refine jmm (.bool true) (.bool true) ?_;refine jss ?_;refine jm (.bool true) ?_;refine aQ hb hB0 fun X1 hX1 hb hB0=>?_;go_upto_region 2 with fail;refine jp ?_;refine jm (vI 3) ?_;refine aQ hb hB0 fun X2 hX2 hb hB0=>?_;have HC:Hid (dK c p a d=3):=if_pos (by omega)
  go_wp2
  go_ret
  exact ⟨by rw [HC.out];rfl,hb⟩
 ·refine jp ?_
  refine jm (vI p) ?_;refine bK p 0 (by omega) ?_;refine jmm (.bool false) (vI p) ?_;refine cB p 4000 (by omega) ?_;refine aU (.bool false) (.bool false) (vI a) ?_;refine bK a 2 (by omega) ?_;refine aU (.bool false) (.bool false) (vI a) ?_;refine jnn (vP w.heap.size 0) (vP w.heap.size 0) ?_;refine jf _ hB0 0 aA ?_;refine fN a c (by omega) ?_;refine aU (.bool false) (.bool false) (vI d) ?_;refine cF d 0 (by omega) ?_;refine jmm (.bool true) (.bool true) ?_;refine jss ?_;refine jm (.bool true) ?_;refine aQ hb hB0 fun X1 hX1 hb hB0=>?_;go_upto_region 2 with fail;refine jp ?_;refine jm (vI 3) ?_;refine aQ hb hB0 fun X2 hX2 hb hB0=>?_;have HC:Hid (dK c p a d=3):=if_pos (by omega)
  go_wp2
  go_ret
  exact ⟨by rw [HC.out];rfl,hb⟩
 ·refine jp ?_
  refine jm (vI p) ?_;refine bK p 0 (by omega) ?_;refine jmm (.bool false) (vI p) ?_;refine cB p 4000 (by omega) ?_;refine aU (.bool false) (.bool false) (vI a) ?_;refine bK a 2 (by omega) ?_;refine aU (.bool false) (.bool false) (vI a) ?_;refine jnn (vP w.heap.size 0) (vP w.heap.size 0) ?_;refine jf _ hB0 0 aA ?_;refine fN a c (by omega) ?_;refine aU (.bool false) (.bool false) (vI d) ?_;refine bK d 0 (by omega) ?_;refine aU (.bool false) (.bool false) (vI d) ?_;refine cI d 14609 (by omega) ?_;refine jm (.bool true) ?_;refine aQ hb hB0 fun X1 hX1 hb hB0=>?_;go_upto_region 2 with fail;refine jp ?_;refine jm (vI 3) ?_;refine aQ hb hB0 fun X2 hX2 hb hB0=>?_;have HC:Hid (dK c p a d=3):=if_pos (by omega)
  go_wp2
  go_ret
  exact ⟨by rw [HC.out];rfl,hb⟩
 ·refine jp ?_
  refine jm (vI p) ?_;refine bK p 0 (by omega) ?_;refine jmm (.bool false) (vI p) ?_;refine cB p 4000 (by omega) ?_;refine aU (.bool false) (.bool false) (vI a) ?_;refine bK a 2 (by omega) ?_;refine aU (.bool false) (.bool false) (vI a) ?_;refine jnn (vP w.heap.size 0) (vP w.heap.size 0) ?_;refine jf _ hB0 0 aA ?_;refine fN a c (by omega) ?_;refine aU (.bool false) (.bool false) (vI d) ?_;refine bK d 0 (by omega) ?_;refine aU (.bool false) (.bool false) (vI d) ?_;refine cB d 14609 (by omega) ?_;refine jm (.bool false) ?_;refine aQ hb hB0 fun X1 hX1 hb hB0=>?_;go_upto_region 3 with fail;refine jp ?_;refine jm (vI 0) ?_;refine aQ hb hB0 fun X2 hX2 hb hB0=>?_;have HC:Hid (dK c p a d=0):=if_neg (by omega)
  go_wp2
  go_ret
  exact ⟨by rw [HC.out];rfl,hb⟩
end Go.Proofs.YtjkfchehkpmhkaaGreatDoor

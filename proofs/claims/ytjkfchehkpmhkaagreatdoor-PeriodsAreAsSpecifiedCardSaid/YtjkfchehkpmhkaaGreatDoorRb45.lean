/- The reference of layer 45: Check, amount, asked, stale. -/
import Derived.Test.YtjkfchehkpmhkaaGreatDoorRa45
set_option linter.unusedSimpArgs false
set_option linter.unusedVariables false
set_option maxRecDepth 100000
set_option maxHeartbeats 1600000
namespace Go.Proofs.YtjkfchehkpmhkaaGreatDoor
open Go.RowKit
theorem rck0 (B:Nat) (c:Int) (v z:Value) (l:List En) (cs:List Cg) (w:World) (hv:Es l v w) (hz:Cs B cs z w) (hs:Hid (∀ k,tz (en l k).am.2.1 (en l k).am.2.2 1000000)) (h0:acE c l≠0):Calls Tryz.prog 10 #[.agg #[vI c,v,z]] w fun e w'=>e=.returned (vI (peE c l cs))∧Since w w':=by
 obtain ⟨z0,z9⟩:∃ z,acE c l=z:=⟨_,rfl⟩;have HZ:=Lib.hid z9
 have hz0:z0≠0:=by rw [← z9];exact h0
 clear z9 h0
 have HE:Hid (peE c l cs=z0):=by
  show _=_
  unfold peE
  rw [HZ.out,if_pos hz0]
 obtain ⟨A,n,cp,A2,m,cp2,rfl,rfl,hln,hn1,hlm,hm1,HRX,HLN,HES,HCS,HRC,HLM⟩:=eU hv hz;clear hv hz
 go_enter Tryz.func10,Tryz.ntmps10
 go_upto_region 1 with fail;obtain ⟨W0,hW0,hB0,hb⟩:=aT w 27 [vI c,.slice A n cp,.slice A2 m cp2];rw [← hW0];clear hW0;refine jp ?_;refine jn (vP w.heap.size 0) ?_;refine jg (.agg #[vI c,.slice A n cp]) (fun X hX hF=>aY 24 _ (by rfl) w.heap.size 0 [vI c,.slice A n cp] (by rfl) Tryz.underlying24 rfl X (hB0.bel hX) (by rfl) bT) ?_;refine jc (vI z0) (fun X hX hF=>mo (qZd c _ l X (HES.out X (Since.next hb hX)) hs) (by rw [HZ.out])) ?_;refine jm (vI z0) ?_;refine aQ hb hB0 fun X1 hX1 hb hB0=>?_;go_upto_region 2 with fail;refine jp ?_;refine jm (vI z0) ?_;refine jv (.bool true) (bA _ _ _ _ (by rfl) .i64 z0 0 (by rfl) (by rfl) true (by rw [decide_eq_false (by omega)];rfl)) ?_;refine aQ hb hB0 fun X2 hX2 hb hB0=>?_;go_upto_region 3 with fail;refine jp ?_;refine jmm (vI z0) (vI z0) ?_;refine aQ hb hB0 fun X3 hX3 hb hB0=>?_
 go_wp2
 go_ret
 exact ⟨by rw [HE.out];rfl,hb⟩
theorem rck1 (B:Nat) (c:Int) (v z:Value) (l:List En) (cs:List Cg) (w:World) (hv:Es l v w) (hz:Cs B cs z w) (hs:Hid (∀ k,tz (en l k).am.2.1 (en l k).am.2.2 1000000)) (HC:Hid (acE c l=0)) (h:c<3):Calls Tryz.prog 10 #[.agg #[vI c,v,z]] w fun e w'=>e=.returned (vI (peE c l cs))∧Since w w':=by
 obtain ⟨A,n,cp,A2,m,cp2,rfl,rfl,hln,hn1,hlm,hm1,HRX,HLN,HES,HCS,HRC,HLM⟩:=eU hv hz;clear hv hz
 go_enter Tryz.func10,Tryz.ntmps10
 go_upto_region 1 with fail;obtain ⟨W0,hW0,hB0,hb⟩:=aT w 27 [vI c,.slice A n cp,.slice A2 m cp2];rw [← hW0];clear hW0;refine jp ?_;refine jn (vP w.heap.size 0) ?_;refine jg (.agg #[vI c,.slice A n cp]) (fun X hX hF=>aY 24 _ (by rfl) w.heap.size 0 [vI c,.slice A n cp] (by rfl) Tryz.underlying24 rfl X (hB0.bel hX) (by rfl) bT) ?_;refine jc (vI 0) (fun X hX hF=>mo (qZd c _ l X (HES.out X (Since.next hb hX)) hs) (by rw [HC.out])) ?_;refine jm (vI 0) ?_;refine aQ hb hB0 fun X1 hX1 hb hB0=>?_;go_upto_region 2 with fail;refine jp ?_;refine jm (vI 0) ?_;refine jv (.bool false) (bA _ _ _ _ (by rfl) .i64 0 0 (by rfl) (by rfl) false (by rw [decide_eq_true (by omega)];rfl)) ?_;refine aQ hb hB0 fun X2 hX2 hb hB0=>?_;go_upto_region 4 with fail;refine jp ?_;refine jn (vP w.heap.size 0) ?_;refine jnf hB0 0 aA ?_;refine cE c 3 (by omega) ?_;refine jm (.bool true) ?_;refine bR ?_;refine jm (.bool true) ?_;refine aQ hb hB0 fun X3 hX3 hb hB0=>?_;go_upto_region 5 with fail;refine jp ?_;refine jm (vI 1) ?_;refine aQ hb hB0 fun X4 hX4 hb hB0=>?_
 have HE:Hid (peE c l cs=1):=by
  show _=_
  rw [qN HC.out,if_neg (by rw [vY (.inl h)];decide)]
 go_wp2
 go_ret
 exact ⟨by rw [HE.out];rfl,hb⟩
theorem rck2 (B:Nat) (c:Int) (v z:Value) (l:List En) (cs:List Cg) (w:World) (hv:Es l v w) (hz:Cs B cs z w) (hs:Hid (∀ k,tz (en l k).am.2.1 (en l k).am.2.2 1000000)) (HC:Hid (acE c l=0)) (h0:3≤c) (h:4000<cs.length):Calls Tryz.prog 10 #[.agg #[vI c,v,z]] w fun e w'=>e=.returned (vI (peE c l cs))∧Since w w':=by
 obtain ⟨A,n,cp,A2,m,cp2,rfl,rfl,hln,hn1,hlm,hm1,HRX,HLN,HES,HCS,HRC,HLM⟩:=eU hv hz;clear hv hz
 go_enter Tryz.func10,Tryz.ntmps10
 go_upto_region 1 with fail;obtain ⟨W0,hW0,hB0,hb⟩:=aT w 27 [vI c,.slice A n cp,.slice A2 m cp2];rw [← hW0];clear hW0;refine jp ?_;refine jn (vP w.heap.size 0) ?_;refine jg (.agg #[vI c,.slice A n cp]) (fun X hX hF=>aY 24 _ (by rfl) w.heap.size 0 [vI c,.slice A n cp] (by rfl) Tryz.underlying24 rfl X (hB0.bel hX) (by rfl) bT) ?_;refine jc (vI 0) (fun X hX hF=>mo (qZd c _ l X (HES.out X (Since.next hb hX)) hs) (by rw [HC.out])) ?_;refine jm (vI 0) ?_;refine aQ hb hB0 fun X1 hX1 hb hB0=>?_;go_upto_region 2 with fail;refine jp ?_;refine jm (vI 0) ?_;refine jv (.bool false) (bA _ _ _ _ (by rfl) .i64 0 0 (by rfl) (by rfl) false (by rw [decide_eq_true (by omega)];rfl)) ?_;refine aQ hb hB0 fun X2 hX2 hb hB0=>?_
 have hm4:4000<m:=by rw [← HLM.out];exact h
 go_upto_region 4 with fail;refine jp ?_;refine jn (vP w.heap.size 0) ?_;refine jnf hB0 0 aA ?_;refine bI c 3 (by omega) ?_;refine jm (.bool false) ?_;refine jnf hB0 2 aZ ?_;refine jv (vI m) (aF Tryz.underlying25 _ (by rfl) A2 m cp2 (by rfl) _ rfl) ?_;refine cD (m:Int) 4000 (by omega) ?_;refine jm (.bool true) ?_;refine aQ hb hB0 fun X3 hX3 hb hB0=>?_;go_upto_region 5 with fail;refine jp ?_;refine jm (vI 1) ?_;refine aQ hb hB0 fun X4 hX4 hb hB0=>?_
 have HE:Hid (peE c l cs=1):=by
  show _=_
  rw [qN HC.out,if_neg (by rw [vY (.inr h)];decide)]
 go_wp2
 go_ret
 exact ⟨by rw [HE.out];rfl,hb⟩
theorem rck3 (B:Nat) (c:Int) (v z:Value) (l:List En) (cs:List Cg) (w:World) (hv:Es l v w) (hz:Cs B cs z w) (hs:Hid (∀ k,tz (en l k).am.2.1 (en l k).am.2.2 1000000)) (HC:Hid (acE c l=0)) (h0:3≤c) (h:cs.length≤4000):Calls Tryz.prog 10 #[.agg #[vI c,v,z]] w fun e w'=>e=.returned (vI (peE c l cs))∧Since w w':=by
 obtain ⟨A,n,cp,A2,m,cp2,rfl,rfl,hln,hn1,hlm,hm1,HRX,HLN,HES,HCS,HRC,HLM⟩:=eU hv hz;clear hv hz
 go_enter Tryz.func10,Tryz.ntmps10
 go_upto_region 1 with fail;obtain ⟨W0,hW0,hB0,hb⟩:=aT w 27 [vI c,.slice A n cp,.slice A2 m cp2];rw [← hW0];clear hW0;refine jp ?_;refine jn (vP w.heap.size 0) ?_;refine jg (.agg #[vI c,.slice A n cp]) (fun X hX hF=>aY 24 _ (by rfl) w.heap.size 0 [vI c,.slice A n cp] (by rfl) Tryz.underlying24 rfl X (hB0.bel hX) (by rfl) bT) ?_;refine jc (vI 0) (fun X hX hF=>mo (qZd c _ l X (HES.out X (Since.next hb hX)) hs) (by rw [HC.out])) ?_;refine jm (vI 0) ?_;refine aQ hb hB0 fun X1 hX1 hb hB0=>?_;go_upto_region 2 with fail;refine jp ?_;refine jm (vI 0) ?_;refine jv (.bool false) (bA _ _ _ _ (by rfl) .i64 0 0 (by rfl) (by rfl) false (by rw [decide_eq_true (by omega)];rfl)) ?_;refine aQ hb hB0 fun X2 hX2 hb hB0=>?_
 have hm4:m≤4000:=by rw [← HLM.out];exact h
 have HK:Hid (Ok44 c l):=acE_ok.1 HC.out;have hl4:=HK.out.len;rw [HLN.out] at hl4;go_upto_region 4 with fail;refine jp ?_;refine jn (vP w.heap.size 0) ?_;refine jnf hB0 0 aA ?_;refine bI c 3 (by omega) ?_;refine jm (.bool false) ?_;refine jnf hB0 2 aZ ?_;refine jv (vI m) (aF Tryz.underlying25 _ (by rfl) A2 m cp2 (by rfl) _ rfl) ?_;refine bZ (m:Int) 4000 (by omega) ?_;refine jm (.bool false) ?_;refine aQ hb hB0 fun X3 hX3 hb hB0=>?_;go_upto_region 6 with fail;refine jp ?_;refine jm (vI 0) ?_;refine aQ hb hB0 fun X4 hX4 hb hB0=>?_
 go_wp2
 go_loopw [4] (fun kv wr=>∃ k:Nat,k≤m∧kv=vI k∧Hid (∀ j,j<k→dS cs l j)∧Blk wr w.heap.size 27 [vI c,.slice A n cp,.slice A2 m cp2]∧Below w.heap.size w wr) (fun kv _=>m-(intOf kv).toNat)
 case atStart=>exact ⟨0,by omega,rfl,(fun j hj=>by omega),hB0,hb⟩
 case round =>
  clear hb hB0;obtain ⟨k,hk,rfl,HZ,hB0,hb⟩:=hrel
  rcases Nat.lt_or_ge k m with hlt|hlt
  ·obtain ⟨ok,ok9⟩:∃ b,decide (dS cs l k)=b:=⟨_,rfl⟩
   have HOK:=Lib.hid ok9;clear ok9
   have hkc:k<cs.length:=by rw [HLM.out];exact hlt
   go_upto_region 7 with fail;refine jp ?_;refine jm (vI k) ?_;refine jnf hB0 2 aZ ?_;refine jv (vI m) (aF Tryz.underlying25 _ (by rfl) A2 m cp2 (by rfl) _ rfl) ?_;refine cE (k:Int) (m:Int) (by omega) ?_;refine aQ hb hB0 fun X1 hX1 hb hB0=>?_;go_upto_region 9 with fail;refine jp ?_;refine ja hB0 Tryz.underlying27 (by rfl) aK ?_;refine jm (vI k) ?_;refine jc (.bool ok) (fun X hX hF=>mo (rcoC B c _ _ l cs k X (HES.out X (Since.next hb hX)) (HCS.out X (Since.next hb hX)) hkc) (by rw [HOK.out])) ?_;refine jm (.bool ok) ?_;refine aQ hb hB0 fun X2 hX2 hb hB0=>?_
   rcases ok with _|_
   ·skip
    go_upto_region 10 with fail;refine jp ?_;refine jmm (.bool false) (.bool true) ?_;refine aQ hb hB0 fun X3 hX3 hb hB0=>?_;go_upto_region 11 with fail;refine jp ?_;refine jm (vI 1) ?_;refine aQ hb hB0 fun X4 hX4 hb hB0=>?_
    have HE:Hid (peE c l cs=1):=by
     show _=_
     rw [qN HC.out,if_neg (by rw [zP (k:=k) hkc (of_decide_eq_false HOK.out)];decide)]
    go_wp2
    go_ret
    exact ⟨by rw [HE.out];rfl,hb⟩
   ·skip
    go_upto_region 10 with fail;refine jp ?_;refine jmm (.bool true) (.bool false) ?_;refine aQ hb hB0 fun X3 hX3 hb hB0=>?_
    have HZ2:Hid (∀ j,j<k+1→dS cs l j):=fun j hj=>by
     rcases Nat.lt_or_ge j k with h9|h9
     ·exact HZ.out j h9
     ·rw [show j=k by omega];exact of_decide_eq_true HOK.out
    go_upto_region 8 with fail;refine jp ?_;refine jm (vI k) ?_;refine jv (vI ((k+1:Nat):Int)) (bB _ _ _ _ (by rfl) (k:Int) 1 ((k+1:Nat):Int) (by rfl) (by rfl) (by omega) (by omega) (by omega)) ?_;refine jm (vI ((k+1:Nat):Int)) ?_;refine aQ hb hB0 fun X4 hX4 hb hB0=>?_
    go_wp2
    go_roundw
    case rel=>exact ⟨k+1,by omega,rfl,HZ2,hB0,hb⟩
    case measure=>simp [intOf];omega
  ·have HZC:Hid (∀ j,j<cs.length→dS cs l j):=fun j hj=>HZ.out j (by rw [HLM.out] at hj;omega)
   go_upto_region 7 with fail;refine jp ?_;refine jm (vI k) ?_;refine jnf hB0 2 aZ ?_;refine jv (vI m) (aF Tryz.underlying25 _ (by rfl) A2 m cp2 (by rfl) _ rfl) ?_;refine bI (k:Int) (m:Int) (by omega) ?_;refine aQ hb hB0 fun X1 hX1 hb hB0=>?_;go_upto_region 12 with fail;refine jp ?_;refine jm (vI 0) ?_;refine aQ hb hB0 fun X2 hX2 hb hB0=>?_
   go_wp2
   go_loopw [6] (fun kv wx=>∃ i:Nat,i≤n∧kv=vI i∧Hid (∀ j,j<i→cI cs (en l j) j=true)∧Blk wx w.heap.size 27 [vI c,.slice A n cp,.slice A2 m cp2]∧Below w.heap.size w wx) (fun kv _=>n-(intOf kv).toNat)
   case atStart=>exact ⟨0,by omega,rfl,(fun j hj=>by omega),hB0,hb⟩
   case round =>
    clear hb hB0 HZ;obtain ⟨i,hi,rfl,HZ,hB0,hb⟩:=hrel
    rcases Nat.lt_or_ge i n with hin|hin
    ·have hil:i<l.length:=by rw [HLN.out];exact hin
     obtain ⟨wt9,wt99⟩:∃ z,jL cs (en l i) (i:Int)=z:=⟨_,rfl⟩;have HWT:=Lib.hid wt99;clear wt99;obtain ⟨ic9,ic99⟩:∃ z,kR cs (en l i) (i:Int)=z:=⟨_,rfl⟩;have HIC:=Lib.hid ic99;clear ic99;have hpd:=(HK.out.rg (k:=i) hil).p0
     have hi4:i≤4000:=by omega
     go_upto_region 13 with fail;refine jp ?_;refine jmn (vI i) (vP w.heap.size 0) ?_;refine jnf hB0 1 aO ?_;refine jv (vI n) (aF Tryz.underlying22 _ (by rfl) A n cp (by rfl) _ rfl) ?_;refine cE (i:Int) (n:Int) (by omega) ?_;refine aQ hb hB0 fun X1 hX1 hb hB0=>?_;go_upto_region 15 with fail;refine jp ?_;refine ja hB0 Tryz.underlying27 (by rfl) aK ?_;refine jm (vI i) ?_;refine jc (.bool wt9) (fun X hX hF=>mo (rwaC B c _ _ l cs i X (HES.out X (Since.next hb hX)) (HCS.out X (Since.next hb hX)) hil hpd) (by rw [HWT.out])) ?_;refine jm (.bool wt9) ?_;refine aQ hb hB0 fun X2 hX2 hb hB0=>?_;go_upto_region 16 with fail;refine jp ?_;refine ja hB0 Tryz.underlying27 (by rfl) aK ?_;refine jm (vI i) ?_;refine jc (.bool ic9) (fun X hX hF=>mo (ricC B c _ _ l cs i X (HES.out X (Since.next hb hX)) (HCS.out X (Since.next hb hX)) hil hpd) (by rw [HIC.out])) ?_;refine jm (.bool ic9) ?_;refine aQ hb hB0 fun X3 hX3 hb hB0=>?_
     rcases wt9 with _|_
     ·skip
      rcases ic9 with _|_
      ·skip
       go_upto_region 17 with fail;refine jp ?_;refine aX (.bool false) (.bool true) (.bool true) ?_;refine aX (.bool false) (.bool true) (.bool true) ?_;refine aQ hb hB0 fun X4 hX4 hb hB0=>?_;go_upto_region 18 with fail;refine jp ?_;refine jm (vI 1) ?_;refine aQ hb hB0 fun X5 hX5 hb hB0=>?_
       have HE:Hid (peE c l cs=1):=by
        show _=_
        rw [qN HC.out,if_neg (by rw [vQl (k:=i) hil (vQa hi4 HWT.out HIC.out)];decide)]
       go_wp2
       go_ret
       exact ⟨by rw [HE.out];rfl,hb⟩
      ·skip
       go_upto_region 17 with fail;refine jp ?_;refine aX (.bool false) (.bool true) (.bool true) ?_;refine aX (.bool true) (.bool false) (.bool false) ?_;refine aQ hb hB0 fun X4 hX4 hb hB0=>?_
       have HOK:Hid (cI cs (en l i) i=true):=by
        show _=_
        rw [kC hi4,HWT.out,HIC.out]
        rfl
       have HZ2:Hid (∀ j,j<i+1→cI cs (en l j) j=true):=fun j hj=>by
        rcases Nat.lt_or_ge j i with h9|h9
        ·exact HZ.out j h9
        ·rw [show j=i by omega];exact HOK.out
       go_upto_region 14 with fail;refine jp ?_;refine jm (vI i) ?_;refine jv (vI ((i+1:Nat):Int)) (bB _ _ _ _ (by rfl) (i:Int) 1 ((i+1:Nat):Int) (by rfl) (by rfl) (by omega) (by omega) (by omega)) ?_;refine jm (vI ((i+1:Nat):Int)) ?_;refine aQ hb hB0 fun X5 hX5 hb hB0=>?_
       go_wp2
       go_roundw
       case rel=>exact ⟨i+1,by omega,rfl,HZ2,hB0,hb⟩
       case measure=>simp [intOf];omega
     ·skip
      rcases ic9 with _|_
      ·skip
       go_upto_region 17 with fail;refine jp ?_;refine aX (.bool true) (.bool false) (.bool false) ?_;refine jss ?_;refine jm (.bool false) ?_;refine aQ hb hB0 fun X4 hX4 hb hB0=>?_
       have HOK:Hid (cI cs (en l i) i=true):=by
        show _=_
        rw [kC hi4,HWT.out,HIC.out]
        rfl
       have HZ2:Hid (∀ j,j<i+1→cI cs (en l j) j=true):=fun j hj=>by
        rcases Nat.lt_or_ge j i with h9|h9
        ·exact HZ.out j h9
        ·rw [show j=i by omega];exact HOK.out
       go_upto_region 14 with fail;refine jp ?_;refine jm (vI i) ?_;refine jv (vI ((i+1:Nat):Int)) (bB _ _ _ _ (by rfl) (i:Int) 1 ((i+1:Nat):Int) (by rfl) (by rfl) (by omega) (by omega) (by omega)) ?_;refine jm (vI ((i+1:Nat):Int)) ?_;refine aQ hb hB0 fun X5 hX5 hb hB0=>?_
       go_wp2
       go_roundw
       case rel=>exact ⟨i+1,by omega,rfl,HZ2,hB0,hb⟩
       case measure=>simp [intOf];omega
      ·skip
       go_upto_region 17 with fail;refine jp ?_;refine aX (.bool true) (.bool false) (.bool false) ?_;refine jss ?_;refine jm (.bool false) ?_;refine aQ hb hB0 fun X4 hX4 hb hB0=>?_
       have HOK:Hid (cI cs (en l i) i=true):=by
        show _=_
        rw [kC hi4,HWT.out,HIC.out]
        rfl
       have HZ2:Hid (∀ j,j<i+1→cI cs (en l j) j=true):=fun j hj=>by
        rcases Nat.lt_or_ge j i with h9|h9
        ·exact HZ.out j h9
        ·rw [show j=i by omega];exact HOK.out
       go_upto_region 14 with fail;refine jp ?_;refine jm (vI i) ?_;refine jv (vI ((i+1:Nat):Int)) (bB _ _ _ _ (by rfl) (i:Int) 1 ((i+1:Nat):Int) (by rfl) (by rfl) (by omega) (by omega) (by omega)) ?_;refine jm (vI ((i+1:Nat):Int)) ?_;refine aQ hb hB0 fun X5 hX5 hb hB0=>?_
       go_wp2
       go_roundw
       case rel=>exact ⟨i+1,by omega,rfl,HZ2,hB0,hb⟩
       case measure=>simp [intOf];omega
    ·have hin2:n≤i:=hin
     go_upto_region 13 with fail;refine jp ?_;refine jmn (vI i) (vP w.heap.size 0) ?_;refine jnf hB0 1 aO ?_;refine jv (vI n) (aF Tryz.underlying22 _ (by rfl) A n cp (by rfl) _ rfl) ?_;refine bI (i:Int) (n:Int) (by omega) ?_;refine aQ hb hB0 fun X1 hX1 hb hB0=>?_;go_upto_region 19 with fail;refine jp ?_;refine jm (vI 0) ?_;refine aQ hb hB0 fun X2 hX2 hb hB0=>?_
     have HE:Hid (peE c l cs=0):=by
      show _=_
      have h9:vld c l cs=true:=decide_eq_true ⟨by rw [HLM.out];omega,HZC.out,fun j hj=>HZ.out j (by rw [HLN.out] at hj;omega)⟩;rw [qN HC.out,if_pos h9]
     go_wp2
     go_ret
     exact ⟨by rw [HE.out];rfl,hb⟩
theorem yE (B:Nat) (c:Int) (v z:Value) (l:List En) (cs:List Cg) (w:World) (hv:Es l v w) (hz:Cs B cs z w) (hs:Hid (∀ k,tz (en l k).am.2.1 (en l k).am.2.2 1000000)):Calls Tryz.prog 10 #[.agg #[vI c,v,z]] w fun e w'=>e=.returned (vI (peE c l cs))∧Since w w':=by
 by_cases h0:acE c l=0
 ·rcases (show c<3∨(3≤c∧4000<cs.length)∨(3≤c∧cs.length≤4000) by omega) with h|h|h
  ·exact rck1 B c v z l cs w hv hz hs h0 h
  ·exact rck2 B c v z l cs w hv hz hs h0 h.1 h.2
  ·exact rck3 B c v z l cs w hv hz hs h0 h.1 h.2
 ·exact rck0 B c v z l cs w hv hz hs h0
theorem vYx {x:En} {a:Int} (h1:x.deb≠a) (h2:x.cre≠a):ent x a=0:=by
 unfold ent
 rw [if_neg h1,if_neg h2]
 grind
theorem ramC (x:En) (a:Int) (w:World) (hv9:vd x.am.1 x.am.2.1 x.am.2.2=true) (hne:x.deb≠x.cre) (hx:tz x.am.2.1 x.am.2.2 1000000):Calls Tryz.prog 48 #[.agg #[vI x.day,vI x.deb,vI x.cre,.bool x.am.1,vS x.am.2.1,vS x.am.2.2,vI x.kd,vI x.pd,vI x.rf,vI x.w1,vI x.w2,vI x.w3,vI x.w4],vI a] w fun e w'=>e=.returned (rbv (ent x a))∧Since w w':=by
 go_enter Tryz.func48,Tryz.ntmps48
 go_upto_region 1 with fail;obtain ⟨W0,hW0,hB0,hB1,hb⟩:=cV w 76 40 (eL x) [.bool false,.string ⟨#[]⟩,.string ⟨#[]⟩];rw [← hW0];clear hW0
 rcases (show x.deb=a∨(x.deb≠a∧x.cre=a)∨(x.deb≠a∧x.cre≠a) by omega) with h|h|h
 ·have HD:=Lib.hid h
  clear h;obtain ⟨q1,q2,q3⟩:=vQz hv9 HD.out hne;have H1:=Lib.hid q1;have H2:=Lib.hid q2;have H3:=Lib.hid q3;clear q1 q2 q3;refine jp ?_;refine jnf hB0 1 aA ?_;refine jm (vI a) ?_;refine dA x.deb a HD.out ?_;refine aN hb hB0 hB1 fun X1 hX1 hb hB0 hB1=>?_;go_upto_region 2 with fail;refine jq 2 ?_;refine jn (vP w.heap.size 3) ?_;refine jg (.agg #[.bool x.am.1,st x.am.2.1,st x.am.2.2]) (fun X hX hF=>aY 40 _ (by rfl) w.heap.size 3 [.bool x.am.1,vS x.am.2.1,vS x.am.2.2] (by rfl) Tryz.underlying40 rfl X (hB0.bel hX) (by rfl) aC) ?_;refine aN hb hB0 hB1 fun X2 hX2 hb hB0 hB1=>?_;refine osb 40 4 10 (w.heap.size+1) 40 hB1 [.bool x.am.1,vS x.am.2.1,vS x.am.2.2] aC ?_;intro w9 hR9 hO9 hB9 hs9;have hb9:=hB9 _ _ hb (by omega);have hB0:=hO9 _ _ _ (by omega) hB0;clear hO9 hB9
  go_wp2
  refine aU rfl rfl (by rfl) Tryz.underlying40 rfl hR9 aC ⟨by rw [jS ⟨H1.out,H2.out,H3.out⟩],hb9⟩
 ·have HD:=Lib.hid h.1
  have hd:=h.1;have HK:=Lib.hid h.2;clear h;have HV9:Hid (ent x a=-(trq x.am)):=vVa HD.out HK.out;refine jp ?_;refine jnf hB0 1 aA ?_;refine jm (vI a) ?_;refine dN x.deb a HD.out ?_;refine aN hb hB0 hB1 fun X1 hX1 hb hB0 hB1=>?_;go_upto_region 3 with fail;refine jp ?_;refine jnf hB0 2 aA ?_;refine jm (vI a) ?_;refine dA x.cre a HK.out ?_;refine aN hb hB0 hB1 fun X2 hX2 hb hB0 hB1=>?_;go_upto_region 4 with fail;refine jq 3 ?_;refine jn (vP w.heap.size 3) ?_;refine jg (.agg #[.bool x.am.1,st x.am.2.1,st x.am.2.2]) (fun X hX hF=>aY 40 _ (by rfl) w.heap.size 3 [.bool x.am.1,vS x.am.2.1,vS x.am.2.2] (by rfl) Tryz.underlying40 rfl X (hB0.bel hX) (by rfl) aC) ?_;refine jc (rt (rN (-(trq x.am))) (rP (-(trq x.am))) (rD (-(trq x.am)))) (fun X hX hF=>qZh x.am.1 x.am.2.1 x.am.2.2 rfl X hx) ?_;refine aN hb hB0 hB1 fun X3 hX3 hb hB0 hB1=>?_;refine osb 40 4 17 (w.heap.size+1) 40 hB1 [.bool (rN (-(trq x.am))),.string ⟨(rP (-(trq x.am))).toArray⟩,.string ⟨(rD (-(trq x.am))).toArray⟩] aC ?_;intro w9 hR9 hO9 hB9 hs9;have hb9:=hB9 _ _ hb (by omega);have hB0:=hO9 _ _ _ (by omega) hB0;clear hO9 hB9
  go_wp2
  refine aU rfl rfl (by rfl) Tryz.underlying40 rfl hR9 aC ⟨by rw [HV9.out],hb9⟩
 ·have HD:=Lib.hid h.1
  have HK:=Lib.hid h.2;clear h;have HV9:Hid (ent x a=0):=vYx HD.out HK.out;refine jp ?_;refine jnf hB0 1 aA ?_;refine jm (vI a) ?_;refine dN x.deb a HD.out ?_;refine aN hb hB0 hB1 fun X1 hX1 hb hB0 hB1=>?_;go_upto_region 3 with fail;refine jp ?_;refine jnf hB0 2 aA ?_;refine jm (vI a) ?_;refine dN x.cre a HK.out ?_;refine aN hb hB0 hB1 fun X2 hX2 hb hB0 hB1=>?_;go_upto_region 5 with fail;refine jq 1 ?_;refine jn (rz) ?_;refine aN hb hB0 hB1 fun X3 hX3 hb hB0 hB1=>?_;refine osb 40 4 18 (w.heap.size+1) 40 hB1 [.bool false,.string ⟨#[]⟩,.string ⟨#[]⟩] aC ?_;intro w9 hR9 hO9 hB9 hs9;have hb9:=hB9 _ _ hb (by omega);have hB0:=hO9 _ _ _ (by omega) hB0;clear hO9 hB9
  go_wp2
  refine aU rfl rfl (by rfl) Tryz.underlying40 rfl hR9 aC ⟨by rw [HV9.out];rfl,hb9⟩
theorem vXp (B:Nat) (c:Int) (v z:Value) (l:List En) (cs:List Cg) (p a d:Int) (w:World) (hv:Es l v w) (hz:Cs B cs z w):Calls Tryz.prog 41 #[.agg #[vI c,v,z],vI p,vI a,vI d] w fun e w'=>e=.returned (vI (eA c p a d))∧Since w w':=by
 obtain ⟨A,n,cp,A2,m,cp2,rfl,rfl,hln,hn1,hlm,hm1,HRX,HLN,HES,HCS,HRC,HLM⟩:=eU hv hz;clear hv hz
 go_enter Tryz.func41,Tryz.ntmps41
 go_upto_region 1 with fail;obtain ⟨W0,hW0,hB0,hb⟩:=aT w 27 [vI c,.slice A n cp,.slice A2 m cp2];rw [← hW0];clear hW0
 rcases (show (p<0)∨(0≤p∧4000<p)∨(0≤p∧p≤4000∧a<2)∨(0≤p∧p≤4000∧2≤a∧c≤a)∨(0≤p∧p≤4000∧2≤a∧a<c∧d<0)∨(0≤p∧p≤4000∧2≤a∧a<c∧0≤d∧14609<d)∨(0≤p∧p≤4000∧2≤a∧a<c∧0≤d∧d≤14609) by omega) with h|h|h|h|h|h|h
 ·refine jp ?_
  refine jm (vI p) ?_;refine cE p 0 (by omega) ?_;refine jm (.bool true) ?_;refine jss ?_;refine jmm (.bool true) (.bool true) ?_;refine jss ?_;refine jmm (.bool true) (.bool true) ?_;refine bR ?_;refine js ?_;refine jmm (.bool true) (.bool true) ?_;refine jss ?_;refine jmm (.bool true) (.bool true) ?_;refine jss ?_;refine jm (.bool true) ?_;refine aQ hb hB0 fun X1 hX1 hb hB0=>?_;go_upto_region 2 with fail;refine jp ?_;refine jm (vI 3) ?_;refine aQ hb hB0 fun X2 hX2 hb hB0=>?_;have HC:Hid (eA c p a d=3):=if_pos (by omega)
  go_wp2
  go_ret
  exact ⟨by rw [HC.out];rfl,hb⟩
 ·refine jp ?_
  refine jm (vI p) ?_;refine bI p 0 (by omega) ?_;refine jmm (.bool false) (vI p) ?_;refine cD p 4000 (by omega) ?_;refine jmm (.bool true) (.bool true) ?_;refine jss ?_;refine jmm (.bool true) (.bool true) ?_;refine bR ?_;refine js ?_;refine jmm (.bool true) (.bool true) ?_;refine jss ?_;refine jmm (.bool true) (.bool true) ?_;refine jss ?_;refine jm (.bool true) ?_;refine aQ hb hB0 fun X1 hX1 hb hB0=>?_;go_upto_region 2 with fail;refine jp ?_;refine jm (vI 3) ?_;refine aQ hb hB0 fun X2 hX2 hb hB0=>?_;have HC:Hid (eA c p a d=3):=if_pos (by omega)
  go_wp2
  go_ret
  exact ⟨by rw [HC.out];rfl,hb⟩
 ·refine jp ?_
  refine jm (vI p) ?_;refine bI p 0 (by omega) ?_;refine jmm (.bool false) (vI p) ?_;refine bZ p 4000 (by omega) ?_;refine aX (.bool false) (.bool false) (vI a) ?_;refine cE a 2 (by omega) ?_;refine jmm (.bool true) (.bool true) ?_;refine bR ?_;refine js ?_;refine jmm (.bool true) (.bool true) ?_;refine jss ?_;refine jmm (.bool true) (.bool true) ?_;refine jss ?_;refine jm (.bool true) ?_;refine aQ hb hB0 fun X1 hX1 hb hB0=>?_;go_upto_region 2 with fail;refine jp ?_;refine jm (vI 3) ?_;refine aQ hb hB0 fun X2 hX2 hb hB0=>?_;have HC:Hid (eA c p a d=3):=if_pos (by omega)
  go_wp2
  go_ret
  exact ⟨by rw [HC.out];rfl,hb⟩
 ·refine jp ?_
  refine jm (vI p) ?_;refine bI p 0 (by omega) ?_;refine jmm (.bool false) (vI p) ?_;refine bZ p 4000 (by omega) ?_;refine aX (.bool false) (.bool false) (vI a) ?_;refine bI a 2 (by omega) ?_;refine aX (.bool false) (.bool false) (vI a) ?_;refine jn (vP w.heap.size 0) ?_;refine jnf hB0 0 aA ?_;refine iS a c (by omega) ?_;refine jmm (.bool true) (.bool true) ?_;refine jss ?_;refine jmm (.bool true) (.bool true) ?_;refine jss ?_;refine jm (.bool true) ?_;refine aQ hb hB0 fun X1 hX1 hb hB0=>?_;go_upto_region 2 with fail;refine jp ?_;refine jm (vI 3) ?_;refine aQ hb hB0 fun X2 hX2 hb hB0=>?_;have HC:Hid (eA c p a d=3):=if_pos (by omega)
  go_wp2
  go_ret
  exact ⟨by rw [HC.out];rfl,hb⟩
 ·refine jp ?_
  refine jm (vI p) ?_;refine bI p 0 (by omega) ?_;refine jmm (.bool false) (vI p) ?_;refine bZ p 4000 (by omega) ?_;refine aX (.bool false) (.bool false) (vI a) ?_;refine bI a 2 (by omega) ?_;refine aX (.bool false) (.bool false) (vI a) ?_;refine jn (vP w.heap.size 0) ?_;refine jnf hB0 0 aA ?_;refine fW a c (by omega) ?_;refine aX (.bool false) (.bool false) (vI d) ?_;refine cE d 0 (by omega) ?_;refine jmm (.bool true) (.bool true) ?_;refine jss ?_;refine jm (.bool true) ?_;refine aQ hb hB0 fun X1 hX1 hb hB0=>?_;go_upto_region 2 with fail;refine jp ?_;refine jm (vI 3) ?_;refine aQ hb hB0 fun X2 hX2 hb hB0=>?_;have HC:Hid (eA c p a d=3):=if_pos (by omega)
  go_wp2
  go_ret
  exact ⟨by rw [HC.out];rfl,hb⟩
 ·refine jp ?_
  refine jm (vI p) ?_;refine bI p 0 (by omega) ?_;refine jmm (.bool false) (vI p) ?_;refine bZ p 4000 (by omega) ?_;refine aX (.bool false) (.bool false) (vI a) ?_;refine bI a 2 (by omega) ?_;refine aX (.bool false) (.bool false) (vI a) ?_;refine jn (vP w.heap.size 0) ?_;refine jnf hB0 0 aA ?_;refine fW a c (by omega) ?_;refine aX (.bool false) (.bool false) (vI d) ?_;refine bI d 0 (by omega) ?_;refine aX (.bool false) (.bool false) (vI d) ?_;refine cD d 14609 (by omega) ?_;refine jm (.bool true) ?_;refine aQ hb hB0 fun X1 hX1 hb hB0=>?_;go_upto_region 2 with fail;refine jp ?_;refine jm (vI 3) ?_;refine aQ hb hB0 fun X2 hX2 hb hB0=>?_;have HC:Hid (eA c p a d=3):=if_pos (by omega)
  go_wp2
  go_ret
  exact ⟨by rw [HC.out];rfl,hb⟩
 ·refine jp ?_
  refine jm (vI p) ?_;refine bI p 0 (by omega) ?_;refine jmm (.bool false) (vI p) ?_;refine bZ p 4000 (by omega) ?_;refine aX (.bool false) (.bool false) (vI a) ?_;refine bI a 2 (by omega) ?_;refine aX (.bool false) (.bool false) (vI a) ?_;refine jn (vP w.heap.size 0) ?_;refine jnf hB0 0 aA ?_;refine fW a c (by omega) ?_;refine aX (.bool false) (.bool false) (vI d) ?_;refine bI d 0 (by omega) ?_;refine aX (.bool false) (.bool false) (vI d) ?_;refine bZ d 14609 (by omega) ?_;refine jm (.bool false) ?_;refine aQ hb hB0 fun X1 hX1 hb hB0=>?_;go_upto_region 3 with fail;refine jp ?_;refine jm (vI 0) ?_;refine aQ hb hB0 fun X2 hX2 hb hB0=>?_;have HC:Hid (eA c p a d=0):=if_neg (by omega)
  go_wp2
  go_ret
  exact ⟨by rw [HC.out];rfl,hb⟩
theorem qZa (B:Nat) (c:Int) (v z:Value) (l:List En) (cs:List Cg) (d:Int) (w:World) (hv:Es l v w) (hz:Cs B cs z w):Calls Tryz.prog 42 #[.agg #[vI c,v,z],vI d] w fun e w'=>e=.returned (.bool (stl l cs d))∧Since w w':=by
 obtain ⟨A,n,cp,A2,m,cp2,rfl,rfl,hln,hn1,hlm,hm1,HRX,HLN,HES,HCS,HRC,HLM⟩:=eU hv hz;clear hv hz
 go_enter Tryz.func42,Tryz.ntmps42
 go_upto_region 1 with fail;obtain ⟨W0,hW0,hB0,hb⟩:=aT w 27 [vI c,.slice A n cp,.slice A2 m cp2];rw [← hW0];clear hW0;refine jp ?_;refine jn (vP w.heap.size 0) ?_;refine jnf hB0 1 aO ?_;refine jv (vI n) (aF Tryz.underlying22 _ (by rfl) A n cp (by rfl) _ rfl) ?_;refine jm (vI n) ?_;refine aQ hb hB0 fun X1 hX1 hb hB0=>?_;go_upto_region 2 with fail;refine jp ?_;refine jnf hB0 2 aZ ?_;refine jv (vI m) (aF Tryz.underlying25 _ (by rfl) A2 m cp2 (by rfl) _ rfl) ?_;refine jm (vI m) ?_;refine aQ hb hB0 fun X2 hX2 hb hB0=>?_
 rcases Nat.eq_zero_or_pos n with hn0|hn0
 ·have HN0:=Lib.hid hn0
  replace hn0:n≤0:=by omega
  rcases Nat.eq_zero_or_pos m with hm0|hm0
  ·have HM0:=Lib.hid hm0
   replace hm0:m≤0:=by omega
   go_upto_region 3 with fail;refine jp ?_;refine jm (vI n) ?_;refine bZ (n:Int) 0 (by omega) ?_;refine jm (.bool false) ?_;refine cN ?_;refine jss ?_;refine js ?_;refine aX (.bool false) (.bool false) (vI m) ?_;refine bZ (m:Int) 0 (by omega) ?_;refine jm (.bool false) ?_;refine cN ?_;refine jss ?_;refine aX (.bool false) (.bool false) (.bool false) ?_;refine aQ hb hB0 fun X3 hX3 hb hB0=>?_
   have HC:Hid (stl l cs d=false):=by
    show _=_
    unfold stl
    rw [decide_eq_false (show ¬ 0<l.length by rw [HLN.out];omega),Bool.false_and,Bool.false_or,decide_eq_false (show ¬ 0<cs.length by rw [HLM.out];omega),Bool.false_and]
   go_wp2
   go_ret
   exact ⟨by rw [HC.out];rfl,hb⟩
  ·obtain ⟨j,hj9⟩:∃ j,m=j+1:=⟨m-1,by omega⟩
   have HJ:=Lib.hid hj9
   have hj1:j<m:=by omega
   have hj2:m≤j+1:=by omega
   clear hj9;obtain ⟨b2,off2,rfl,hbb2,hcx2⟩:=iL (HRC.out _ hb) HLM.out (k:=j) hj1;obtain ⟨y,y9⟩:∃ y,y=cg cs j:=⟨_,rfl⟩;have HY:=Lib.hid y9;clear y9;rw [← HY.out] at hcx2
   change Cl X2 b2 (off2+j * 2) [vI y.day,vI y.place] at hcx2
   have HYL:Hid (cg cs (cs.length-1)=y):=by
    show _=_
    rw [HY.out,HLM.out,HJ.out,Nat.add_sub_cancel]
   rcases Int.lt_or_le d y.day with hy|hy
   ·go_upto_region 3 with fail
    refine jp ?_;refine jm (vI n) ?_;refine bZ (n:Int) 0 (by omega) ?_;refine jm (.bool false) ?_;refine cN ?_;refine jss ?_;refine js ?_;refine aX (.bool false) (.bool false) (vI m) ?_;refine cD (m:Int) 0 (by omega) ?_;refine jmm (.bool true) (vI d) ?_;refine jnf hB0 2 aZ ?_;refine jm (vI m) ?_;refine jv (vI j) (aW _ _ _ _ (by rfl) (m:Int) 1 (j:Int) (by rfl) (by rfl) (by omega) (by omega) (by omega)) ?_;refine jv (vI j) (dH _ _ (by rfl) .i64 0 (j:Int) (j:Int) (by rfl) (by rfl) (by omega)) ?_;refine jv (vP b2 (off2+j * 2)) (aR Tryz.underlying25 bP _ _ (by rfl) b2 (off2) m cp2 j (by omega) (by rfl) (by rfl) rfl) ?_;refine jn (vP b2 (off2+j * 2)) ?_;refine jg (vI y.day) (fun X hX hF=>aP 3 _ (by rfl) b2 (off2+j * 2) (by rfl) _ X ((hcx2.below hX hbb2) 0 _ rfl) (fun X u h=>aA b2 (off2+j * 2) X u h)) ?_;refine cE d y.day (by omega) ?_;refine aX (.bool true) (.bool true) (.bool true) ?_;refine aQ hb hB0 fun X3 hX3 hb hB0=>?_;have hcx2:=hcx2.below hX3 hbb2;replace hbb2:=Nat.lt_of_lt_of_le hbb2 (hX3).size
    have HC:Hid (stl l cs d=true):=by
     show _=_
     unfold stl
     rw [decide_eq_false (show ¬ 0<l.length by rw [HLN.out];omega),Bool.false_and,Bool.false_or,decide_eq_true (show 0<cs.length by rw [HLM.out];exact hm0),Bool.true_and,HYL.out,decide_eq_true hy]
    go_wp2
    go_ret
    exact ⟨by rw [HC.out];rfl,hb⟩
   ·go_upto_region 3 with fail
    refine jp ?_;refine jm (vI n) ?_;refine bZ (n:Int) 0 (by omega) ?_;refine jm (.bool false) ?_;refine cN ?_;refine jss ?_;refine js ?_;refine aX (.bool false) (.bool false) (vI m) ?_;refine cD (m:Int) 0 (by omega) ?_;refine jmm (.bool true) (vI d) ?_;refine jnf hB0 2 aZ ?_;refine jm (vI m) ?_;refine jv (vI j) (aW _ _ _ _ (by rfl) (m:Int) 1 (j:Int) (by rfl) (by rfl) (by omega) (by omega) (by omega)) ?_;refine jv (vI j) (dH _ _ (by rfl) .i64 0 (j:Int) (j:Int) (by rfl) (by rfl) (by omega)) ?_;refine jv (vP b2 (off2+j * 2)) (aR Tryz.underlying25 bP _ _ (by rfl) b2 (off2) m cp2 j (by omega) (by rfl) (by rfl) rfl) ?_;refine jn (vP b2 (off2+j * 2)) ?_;refine jg (vI y.day) (fun X hX hF=>aP 3 _ (by rfl) b2 (off2+j * 2) (by rfl) _ X ((hcx2.below hX hbb2) 0 _ rfl) (fun X u h=>aA b2 (off2+j * 2) X u h)) ?_;refine bI d y.day (by omega) ?_;refine aX (.bool false) (.bool false) (.bool false) ?_;refine aQ hb hB0 fun X3 hX3 hb hB0=>?_;have hcx2:=hcx2.below hX3 hbb2;replace hbb2:=Nat.lt_of_lt_of_le hbb2 (hX3).size
    have HC:Hid (stl l cs d=false):=by
     show _=_
     unfold stl
     rw [decide_eq_false (show ¬ 0<l.length by rw [HLN.out];omega),Bool.false_and,Bool.false_or,decide_eq_true (show 0<cs.length by rw [HLM.out];exact hm0),Bool.true_and,HYL.out,decide_eq_false (show ¬ d<y.day by omega)]
    go_wp2
    go_ret
    exact ⟨by rw [HC.out];rfl,hb⟩
 ·obtain ⟨i,hi9⟩:∃ i,n=i+1:=⟨n-1,by omega⟩
  have HI:=Lib.hid hi9
  have hi1:i<n:=by omega
  have hi2:n≤i+1:=by omega
  clear hi9;obtain ⟨b,off,rfl,hbb,hcx⟩:=fL (HRX.out _ hb) HLN.out (k:=i) hi1;obtain ⟨x,x9⟩:∃ x,x=en l i:=⟨_,rfl⟩;have HX:=Lib.hid x9;clear x9;rw [← HX.out] at hcx
  change Cl X2 b (off+i * 13) (eL x) at hcx
  have HXL:Hid (en l (l.length-1)=x):=by
   show _=_
   rw [HX.out,HLN.out,HI.out,Nat.add_sub_cancel]
  rcases Int.lt_or_le d x.day with hx|hx
  ·go_upto_region 3 with fail
   refine jp ?_;refine jm (vI n) ?_;refine cD (n:Int) 0 (by omega) ?_;refine eE (.bool true) (vI d) (vP w.heap.size 0) ?_;refine jnf hB0 1 aO ?_;refine jm (vI n) ?_;refine jv (vI i) (aW _ _ _ _ (by rfl) (n:Int) 1 (i:Int) (by rfl) (by rfl) (by omega) (by omega) (by omega)) ?_;refine jv (vI i) (dH _ _ (by rfl) .i64 0 (i:Int) (i:Int) (by rfl) (by rfl) (by omega)) ?_;refine jv (vP b (off+i * 13)) (aR Tryz.underlying22 aL _ _ (by rfl) b (off) n cp i (by omega) (by rfl) (by rfl) rfl) ?_;refine jn (vP b (off+i * 13)) ?_;refine jg (vI x.day) (fun X hX hF=>aP 3 _ (by rfl) b (off+i * 13) (by rfl) _ X ((hcx.below hX hbb) 0 _ rfl) (fun X u h=>aA b (off+i * 13) X u h)) ?_;refine cE d x.day (by omega) ?_;refine jmm (.bool true) (.bool true) ?_;refine cN ?_;refine bR ?_;refine jss ?_;refine jmm (.bool true) (.bool true) ?_;refine aQ hb hB0 fun X3 hX3 hb hB0=>?_;have hcx:=hcx.below hX3 hbb;replace hbb:=Nat.lt_of_lt_of_le hbb (hX3).size
   have HC:Hid (stl l cs d=true):=by
    show _=_
    unfold stl
    rw [decide_eq_true (show 0<l.length by rw [HLN.out];exact hn0),Bool.true_and,HXL.out,decide_eq_true hx]
    rfl
   go_wp2
   go_ret
   exact ⟨by rw [HC.out];rfl,hb⟩
  ·rcases Nat.eq_zero_or_pos m with hm0|hm0
   ·have HM0:=Lib.hid hm0
    replace hm0:m≤0:=by omega
    go_upto_region 3 with fail;refine jp ?_;refine jm (vI n) ?_;refine cD (n:Int) 0 (by omega) ?_;refine eE (.bool true) (vI d) (vP w.heap.size 0) ?_;refine jnf hB0 1 aO ?_;refine jm (vI n) ?_;refine jv (vI i) (aW _ _ _ _ (by rfl) (n:Int) 1 (i:Int) (by rfl) (by rfl) (by omega) (by omega) (by omega)) ?_;refine jv (vI i) (dH _ _ (by rfl) .i64 0 (i:Int) (i:Int) (by rfl) (by rfl) (by omega)) ?_;refine jv (vP b (off+i * 13)) (aR Tryz.underlying22 aL _ _ (by rfl) b (off) n cp i (by omega) (by rfl) (by rfl) rfl) ?_;refine jn (vP b (off+i * 13)) ?_;refine jg (vI x.day) (fun X hX hF=>aP 3 _ (by rfl) b (off+i * 13) (by rfl) _ X ((hcx.below hX hbb) 0 _ rfl) (fun X u h=>aA b (off+i * 13) X u h)) ?_;refine bI d x.day (by omega) ?_;refine aX (.bool false) (.bool false) (vI m) ?_;refine bZ (m:Int) 0 (by omega) ?_;refine jm (.bool false) ?_;refine cN ?_;refine jss ?_;refine aX (.bool false) (.bool false) (.bool false) ?_;refine aQ hb hB0 fun X3 hX3 hb hB0=>?_;have hcx:=hcx.below hX3 hbb;replace hbb:=Nat.lt_of_lt_of_le hbb (hX3).size
    have HC:Hid (stl l cs d=false):=by
     show _=_
     unfold stl
     rw [decide_eq_true (show 0<l.length by rw [HLN.out];exact hn0),Bool.true_and,HXL.out,decide_eq_false (show ¬ d<x.day by omega),Bool.false_or,decide_eq_false (show ¬ 0<cs.length by rw [HLM.out];omega),Bool.false_and]
    go_wp2
    go_ret
    exact ⟨by rw [HC.out];rfl,hb⟩
   ·obtain ⟨j,hj9⟩:∃ j,m=j+1:=⟨m-1,by omega⟩
    have HJ:=Lib.hid hj9
    have hj1:j<m:=by omega
    have hj2:m≤j+1:=by omega
    clear hj9;obtain ⟨b2,off2,rfl,hbb2,hcx2⟩:=iL (HRC.out _ hb) HLM.out (k:=j) hj1;obtain ⟨y,y9⟩:∃ y,y=cg cs j:=⟨_,rfl⟩;have HY:=Lib.hid y9;clear y9;rw [← HY.out] at hcx2
    change Cl X2 b2 (off2+j * 2) [vI y.day,vI y.place] at hcx2
    have HYL:Hid (cg cs (cs.length-1)=y):=by
     show _=_
     rw [HY.out,HLM.out,HJ.out,Nat.add_sub_cancel]
    rcases Int.lt_or_le d y.day with hy|hy
    ·go_upto_region 3 with fail
     refine jp ?_;refine jm (vI n) ?_;refine cD (n:Int) 0 (by omega) ?_;refine eE (.bool true) (vI d) (vP w.heap.size 0) ?_;refine jnf hB0 1 aO ?_;refine jm (vI n) ?_;refine jv (vI i) (aW _ _ _ _ (by rfl) (n:Int) 1 (i:Int) (by rfl) (by rfl) (by omega) (by omega) (by omega)) ?_;refine jv (vI i) (dH _ _ (by rfl) .i64 0 (i:Int) (i:Int) (by rfl) (by rfl) (by omega)) ?_;refine jv (vP b (off+i * 13)) (aR Tryz.underlying22 aL _ _ (by rfl) b (off) n cp i (by omega) (by rfl) (by rfl) rfl) ?_;refine jn (vP b (off+i * 13)) ?_;refine jg (vI x.day) (fun X hX hF=>aP 3 _ (by rfl) b (off+i * 13) (by rfl) _ X ((hcx.below hX hbb) 0 _ rfl) (fun X u h=>aA b (off+i * 13) X u h)) ?_;refine bI d x.day (by omega) ?_;refine aX (.bool false) (.bool false) (vI m) ?_;refine cD (m:Int) 0 (by omega) ?_;refine jmm (.bool true) (vI d) ?_;refine jnf hB0 2 aZ ?_;refine jm (vI m) ?_;refine jv (vI j) (aW _ _ _ _ (by rfl) (m:Int) 1 (j:Int) (by rfl) (by rfl) (by omega) (by omega) (by omega)) ?_;refine jv (vI j) (dH _ _ (by rfl) .i64 0 (j:Int) (j:Int) (by rfl) (by rfl) (by omega)) ?_;refine jv (vP b2 (off2+j * 2)) (aR Tryz.underlying25 bP _ _ (by rfl) b2 (off2) m cp2 j (by omega) (by rfl) (by rfl) rfl) ?_
     refine jn (vP b2 (off2+j * 2)) ?_;refine jg (vI y.day) (fun X hX hF=>aP 3 _ (by rfl) b2 (off2+j * 2) (by rfl) _ X ((hcx2.below hX hbb2) 0 _ rfl) (fun X u h=>aA b2 (off2+j * 2) X u h)) ?_;refine cE d y.day (by omega) ?_;refine aX (.bool true) (.bool true) (.bool true) ?_;refine aQ hb hB0 fun X3 hX3 hb hB0=>?_;have hcx:=hcx.below hX3 hbb;have hcx2:=hcx2.below hX3 hbb2;replace hbb:=Nat.lt_of_lt_of_le hbb (hX3).size;replace hbb2:=Nat.lt_of_lt_of_le hbb2 (hX3).size
     have HC:Hid (stl l cs d=true):=by
      show _=_
      unfold stl
      rw [decide_eq_true (show 0<l.length by rw [HLN.out];exact hn0),Bool.true_and,HXL.out,decide_eq_false (show ¬ d<x.day by omega),Bool.false_or,decide_eq_true (show 0<cs.length by rw [HLM.out];exact hm0),Bool.true_and,HYL.out,decide_eq_true hy]
     go_wp2
     go_ret
     exact ⟨by rw [HC.out];rfl,hb⟩
    ·go_upto_region 3 with fail
     refine jp ?_;refine jm (vI n) ?_;refine cD (n:Int) 0 (by omega) ?_;refine eE (.bool true) (vI d) (vP w.heap.size 0) ?_;refine jnf hB0 1 aO ?_;refine jm (vI n) ?_;refine jv (vI i) (aW _ _ _ _ (by rfl) (n:Int) 1 (i:Int) (by rfl) (by rfl) (by omega) (by omega) (by omega)) ?_;refine jv (vI i) (dH _ _ (by rfl) .i64 0 (i:Int) (i:Int) (by rfl) (by rfl) (by omega)) ?_;refine jv (vP b (off+i * 13)) (aR Tryz.underlying22 aL _ _ (by rfl) b (off) n cp i (by omega) (by rfl) (by rfl) rfl) ?_;refine jn (vP b (off+i * 13)) ?_;refine jg (vI x.day) (fun X hX hF=>aP 3 _ (by rfl) b (off+i * 13) (by rfl) _ X ((hcx.below hX hbb) 0 _ rfl) (fun X u h=>aA b (off+i * 13) X u h)) ?_;refine bI d x.day (by omega) ?_;refine aX (.bool false) (.bool false) (vI m) ?_;refine cD (m:Int) 0 (by omega) ?_;refine jmm (.bool true) (vI d) ?_;refine jnf hB0 2 aZ ?_;refine jm (vI m) ?_;refine jv (vI j) (aW _ _ _ _ (by rfl) (m:Int) 1 (j:Int) (by rfl) (by rfl) (by omega) (by omega) (by omega)) ?_;refine jv (vI j) (dH _ _ (by rfl) .i64 0 (j:Int) (j:Int) (by rfl) (by rfl) (by omega)) ?_;refine jv (vP b2 (off2+j * 2)) (aR Tryz.underlying25 bP _ _ (by rfl) b2 (off2) m cp2 j (by omega) (by rfl) (by rfl) rfl) ?_
     refine jn (vP b2 (off2+j * 2)) ?_;refine jg (vI y.day) (fun X hX hF=>aP 3 _ (by rfl) b2 (off2+j * 2) (by rfl) _ X ((hcx2.below hX hbb2) 0 _ rfl) (fun X u h=>aA b2 (off2+j * 2) X u h)) ?_;refine bI d y.day (by omega) ?_;refine aX (.bool false) (.bool false) (.bool false) ?_;refine aQ hb hB0 fun X3 hX3 hb hB0=>?_;have hcx:=hcx.below hX3 hbb;have hcx2:=hcx2.below hX3 hbb2;replace hbb:=Nat.lt_of_lt_of_le hbb (hX3).size;replace hbb2:=Nat.lt_of_lt_of_le hbb2 (hX3).size
     have HC:Hid (stl l cs d=false):=by
      show _=_
      unfold stl
      rw [decide_eq_true (show 0<l.length by rw [HLN.out];exact hn0),Bool.true_and,HXL.out,decide_eq_false (show ¬ d<x.day by omega),Bool.false_or,decide_eq_true (show 0<cs.length by rw [HLM.out];exact hm0),Bool.true_and,HYL.out,decide_eq_false (show ¬ d<y.day by omega)]
     go_wp2
     go_ret
     exact ⟨by rw [HC.out];rfl,hb⟩
end Go.Proofs.YtjkfchehkpmhkaaGreatDoor

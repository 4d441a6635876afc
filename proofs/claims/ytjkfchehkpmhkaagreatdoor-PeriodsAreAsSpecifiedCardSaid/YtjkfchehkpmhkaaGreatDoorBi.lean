/- law 44: of, entry, is, Few, few, SameRats, Equal. -/
import Derived.Test.YtjkfchehkpmhkaaGreatDoorBg
import Derived.Test.YtjkfchehkpmhkaaGreatDoorLlz
set_option linter.unusedSimpArgs false
set_option linter.unusedVariables false
set_option maxRecDepth 100000
set_option maxHeartbeats 1600000
namespace Go.Proofs.YtjkfchehkpmhkaaGreatDoor
open Go.RowKit
def iU (l:List En) (m:Nat):Bool:=!((decide (m<l.length) && decide (l.length≤4000)) || decide (4002<l.length)) && l.all fun x=>few x.am.2.1 x.am.2.2 12
theorem vYo {l:List En} {m:Nat} (h:iU l m=true):∀ k,tz (en l k).am.2.1 (en l k).am.2.2 12:=fun k=>by
 unfold iU at h
 rw [Bool.and_eq_true] at h
 rcases Nat.lt_or_ge k l.length with h1|h1
 ·have h2:=List.all_eq_true.1 h.2 _ (List.getElem_mem h1)
  rw [mN h1]
  unfold few at h2
  rw [Bool.and_eq_true] at h2;exact ⟨of_decide_eq_true h2.1,of_decide_eq_true h2.2⟩
 ·unfold en
  rw [List.getD_eq_getElem?_getD,List.getElem?_eq_none h1];exact mS
theorem vG {l:List En} {m:Nat} (h:(m<l.length∧l.length≤4000)∨4002<l.length):iU l m=false:=by
 unfold iU
 have h9:((decide (m<l.length) && decide (l.length≤4000)) || decide (4002<l.length))=true:=by
  rw [Bool.or_eq_true,Bool.and_eq_true,decide_eq_true_eq,decide_eq_true_eq,decide_eq_true_eq];exact h
 rw [h9]
 rfl
theorem vYq {l:List En} {m:Nat} (h:¬ ((m<l.length∧l.length≤4000)∨4002<l.length)):iU l m=l.all fun x=>few x.am.2.1 x.am.2.2 12:=by
 unfold iU
 have h9:((decide (m<l.length) && decide (l.length≤4000)) || decide (4002<l.length))=false:=by
  rw [Bool.eq_false_iff];rw [ne_eq,Bool.or_eq_true,Bool.and_eq_true,decide_eq_true_eq,decide_eq_true_eq,decide_eq_true_eq];exact h
 rw [h9]
 rfl
theorem fwb0 (c:Int) (v:Value) (l:List En) (m:Nat) (w:World) (hv:Es l v w) (hm:m≤3000) (h:m<l.length∧l.length≤4000):Calls Tryz.prog 21 #[.agg #[vI c,v],vI m] w fun e w'=>e=.returned (.bool (iU l m))∧Since w w':=by
 have HC:Hid (iU l m=false):=vG (.inl h);obtain ⟨A,n,cp,rfl,hln,hn1,HRX,HLN,HES⟩:=sA hv;clear hv
 go_enter Tryz.func21,Tryz.ntmps21
 go_upto_region 1 with fail;obtain ⟨W0,hW0,hB0,hb⟩:=aT w 24 [vI c,.slice A n cp];rw [← hW0];clear hW0;rw [hln] at h;refine jp ?_;refine jnf hB0 1 aO ?_;refine jv (vI n) (aF Tryz.underlying22 _ (by rfl) A n cp (by rfl) _ rfl) ?_;refine jm (vI m) ?_;refine cD (n:Int) (m:Int) (by omega) ?_;refine jm (.bool true) ?_;refine jnf hB0 1 aO ?_;refine jv (vI n) (aF Tryz.underlying22 _ (by rfl) A n cp (by rfl) _ rfl) ?_;refine nT (n:Int) 4000 (by omega) ?_;refine jmm (.bool true) (.bool true) ?_;refine bR ?_;refine jm (.bool true) ?_;refine aQ hb hB0 fun X1 hX1 hb hB0=>?_;go_upto_region 2 with fail;refine jp ?_;refine jm (.bool false) ?_;refine aQ hb hB0 fun X2 hX2 hb hB0=>?_
 go_wp2
 go_ret
 exact ⟨by rw [HC.out];rfl,hb⟩
theorem fwb1 (c:Int) (v:Value) (l:List En) (m:Nat) (w:World) (hv:Es l v w) (hm:m≤3000) (h:4002<l.length):Calls Tryz.prog 21 #[.agg #[vI c,v],vI m] w fun e w'=>e=.returned (.bool (iU l m))∧Since w w':=by
 have HC:Hid (iU l m=false):=vG (.inr h);obtain ⟨A,n,cp,rfl,hln,hn1,HRX,HLN,HES⟩:=sA hv;clear hv
 go_enter Tryz.func21,Tryz.ntmps21
 go_upto_region 1 with fail;obtain ⟨W0,hW0,hB0,hb⟩:=aT w 24 [vI c,.slice A n cp];rw [← hW0];clear hW0;rw [hln] at h;refine jp ?_;refine jnf hB0 1 aO ?_;refine jv (vI n) (aF Tryz.underlying22 _ (by rfl) A n cp (by rfl) _ rfl) ?_;refine jm (vI m) ?_;refine cD (n:Int) (m:Int) (by omega) ?_;refine jm (.bool true) ?_;refine jnf hB0 1 aO ?_;refine jv (vI n) (aF Tryz.underlying22 _ (by rfl) A n cp (by rfl) _ rfl) ?_;refine jW (n:Int) 4000 (by omega) ?_;refine jmm (.bool false) (.bool false) ?_;refine jnf hB0 1 aO ?_;refine jv (vI n) (aF Tryz.underlying22 _ (by rfl) A n cp (by rfl) _ rfl) ?_;refine cD (n:Int) 4002 (by omega) ?_;refine jm (.bool true) ?_;refine aQ hb hB0 fun X1 hX1 hb hB0=>?_;go_upto_region 2 with fail;refine jp ?_;refine jm (.bool false) ?_;refine aQ hb hB0 fun X2 hX2 hb hB0=>?_
 go_wp2
 go_ret
 exact ⟨by rw [HC.out];rfl,hb⟩
theorem fwb2 (c:Int) (v:Value) (l:List En) (m:Nat) (w:World) (hv:Es l v w) (hm:m≤3000) (h:l.length≤m∨(m<l.length∧4000<l.length∧l.length≤4002)):Calls Tryz.prog 21 #[.agg #[vI c,v],vI m] w fun e w'=>e=.returned (.bool (iU l m))∧Since w w':=by
 have HC:Hid (iU l m=l.all fun x=>few x.am.2.1 x.am.2.2 12):=vYq (by omega);obtain ⟨A,n,cp,rfl,hln,hn1,HRX,HLN,HES⟩:=sA hv;clear hv
 go_enter Tryz.func21,Tryz.ntmps21
 go_upto_region 1 with fail;obtain ⟨W0,hW0,hB0,hb⟩:=aT w 24 [vI c,.slice A n cp];rw [← hW0];clear hW0;rw [hln] at h;refine jO [6,7,8,9,10,11,12,13,14,15,16,17,18,19,20,21,22] (fun f9 X=>(f9 22=.bool false∧True)∧Since W0 X) ?_ ?_
 ·rcases h with h|h
  ·refine jp ?_
   refine jnf hB0 1 aO ?_;refine jv (vI n) (aF Tryz.underlying22 _ (by rfl) A n cp (by rfl) _ rfl) ?_;refine jm (vI m) ?_;refine bZ (n:Int) (m:Int) (by omega) ?_;refine jm (.bool false) ?_;refine bR ?_;refine jmm (.bool false) (.bool false) ?_;refine jnf hB0 1 aO ?_;refine jv (vI n) (aF Tryz.underlying22 _ (by rfl) A n cp (by rfl) _ rfl) ?_;refine bZ (n:Int) 4002 (by omega) ?_;refine jm (.bool false) ?_
   exact aJ fun X hX _=>bK ⟨⟨rfl,trivial⟩,hX⟩
  ·refine jp ?_
   refine jnf hB0 1 aO ?_;refine jv (vI n) (aF Tryz.underlying22 _ (by rfl) A n cp (by rfl) _ rfl) ?_;refine jm (vI m) ?_;refine cD (n:Int) (m:Int) (by omega) ?_;refine jm (.bool true) ?_;refine jnf hB0 1 aO ?_;refine jv (vI n) (aF Tryz.underlying22 _ (by rfl) A n cp (by rfl) _ rfl) ?_;refine jW (n:Int) 4000 (by omega) ?_;refine jmm (.bool false) (.bool false) ?_;refine jnf hB0 1 aO ?_;refine jv (vI n) (aF Tryz.underlying22 _ (by rfl) A n cp (by rfl) _ rfl) ?_;refine bZ (n:Int) 4002 (by omega) ?_;refine jm (.bool false) ?_
   exact aJ fun X hX _=>bK ⟨⟨rfl,trivial⟩,hX⟩
 ·intro f1 X1 hk9
  obtain ⟨⟨hk1_0,_⟩,hX1⟩:=hk9;simp only [dQ,eC,pX,hk1_0];clear hk1_0;have hB0:=hB0.bel hX1;have hb:=aI hb hX1;go_upto_region 3 with fail;refine jp ?_;refine jm (vI 0) ?_;refine aQ hb hB0 fun X2 hX2 hb hB0=>?_
  go_wp2
  go_loopw [5] (fun kv wr=>∃ k:Nat,k≤n∧kv=vI k∧Hid (∀ j,j<k→few (en l j).am.2.1 (en l j).am.2.2 12=true)∧Blk wr w.heap.size 24 [vI c,.slice A n cp]∧Below w.heap.size w wr) (fun kv _=>n-(intOf kv).toNat)
  case atStart=>exact ⟨0,by omega,rfl,(fun j hj=>by omega),hB0,hb⟩
  case round =>
   clear hb hB0;obtain ⟨k,hk,rfl,HZ,hB0,hb⟩:=hrel
   rcases Nat.lt_or_ge k n with hlt|hlt
   ·obtain ⟨b,off,rfl,hbb,hcx⟩:=fL (HRX.out _ hb) HLN.out hlt
    obtain ⟨x,x9⟩:∃ x,x=en l k:=⟨_,rfl⟩;have HX:=Lib.hid x9;clear x9;rw [← HX.out] at hcx
    change Cl wr b (off+k * 13) (eL x) at hcx
    obtain ⟨q1,q1e⟩:∃ z,z=x.am.2.1.length:=⟨_,rfl⟩;obtain ⟨q2,q2e⟩:∃ z,z=x.am.2.2.length:=⟨_,rfl⟩;have HQ1:=Lib.hid q1e;have HQ2:=Lib.hid q2e;clear q1e q2e;go_upto_region 4 with fail;refine jp ?_;refine jm (vI k) ?_;refine jnf hB0 1 aO ?_;refine jv (vI n) (aF Tryz.underlying22 _ (by rfl) (some ⟨b,off,none⟩) n cp (by rfl) _ rfl) ?_;refine cE (k:Int) (n:Int) (by omega) ?_;refine aQ hb hB0 fun X1 hX1 hb hB0=>?_;have hcx:=hcx.below hX1 hbb;replace hbb:=Nat.lt_of_lt_of_le hbb (hX1).size
    rcases (show 12<q1∨(q1≤12∧12<q2)∨(q1≤12∧q2≤12) by omega) with hq|hq|hq
    ·have HF:Hid (few x.am.2.1 x.am.2.2 12=false):=by
      show _=_
      unfold few
      rw [← HQ1.out,← HQ2.out];rw [Bool.and_eq_false_iff]
      first
       | exact .inl (decide_eq_false (by omega))
       | exact .inr (decide_eq_false (by omega))
     have HN:Hid (iU l m=false):=by
      show _=_
      rw [HC.out,Bool.eq_false_iff];intro h8;have h7:=List.all_eq_true.1 h8 _ (List.getElem_mem (show k<l.length by rw [HLN.out];exact hlt));rw [← mN,← HX.out,HF.out] at h7
      cases h7
     go_upto_region 6 with fail;refine jp ?_;refine jnf hB0 1 aO ?_;refine jm (vI k) ?_;refine jv (vP b (off+k * 13)) (aR Tryz.underlying22 aL _ _ (by rfl) b (off) n cp k (by omega) (by rfl) (by rfl) rfl) ?_;refine jnn (vP b (off+k * 13+3)) (vP b (off+k * 13+4)) ?_;refine jg (st x.am.2.1) (fun X hX hF=>aP 9 _ (by rfl) b (off+k * 13+4) (by rfl) _ X ((hcx.below hX hbb) 4 _ rfl) (fun X u h=>aG b (off+k * 13+4) X u h)) ?_;refine jv (vI q1) (fun X=>by rw [HQ1.out];exact bC Tryz.underlying9 _ (by rfl) x.am.2.1 (by rfl) _ rfl X) ?_;refine cD (q1:Int) 12 (by omega) ?_;refine jm (.bool true) ?_;refine cN ?_;refine js ?_;refine jm (.bool true) ?_;refine aQ hb hB0 fun X2 hX2 hb hB0=>?_;have hcx:=hcx.below hX2 hbb;replace hbb:=Nat.lt_of_lt_of_le hbb (hX2).size;go_upto_region 7 with fail;refine jp ?_;refine jm (.bool false) ?_;refine aQ hb hB0 fun X3 hX3 hb hB0=>?_
     go_wp2
     go_ret
     exact ⟨by rw [HN.out];rfl,hb⟩
    ·have HF:Hid (few x.am.2.1 x.am.2.2 12=false):=by
      show _=_
      unfold few
      rw [← HQ1.out,← HQ2.out];rw [Bool.and_eq_false_iff]
      first
       | exact .inl (decide_eq_false (by omega))
       | exact .inr (decide_eq_false (by omega))
     have HN:Hid (iU l m=false):=by
      show _=_
      rw [HC.out,Bool.eq_false_iff];intro h8;have h7:=List.all_eq_true.1 h8 _ (List.getElem_mem (show k<l.length by rw [HLN.out];exact hlt));rw [← mN,← HX.out,HF.out] at h7
      cases h7
     go_upto_region 6 with fail;refine jp ?_;refine jnf hB0 1 aO ?_;refine jm (vI k) ?_;refine jv (vP b (off+k * 13)) (aR Tryz.underlying22 aL _ _ (by rfl) b (off) n cp k (by omega) (by rfl) (by rfl) rfl) ?_;refine jnn (vP b (off+k * 13+3)) (vP b (off+k * 13+4)) ?_;refine jg (st x.am.2.1) (fun X hX hF=>aP 9 _ (by rfl) b (off+k * 13+4) (by rfl) _ X ((hcx.below hX hbb) 4 _ rfl) (fun X u h=>aG b (off+k * 13+4) X u h)) ?_;refine jv (vI q1) (fun X=>by rw [HQ1.out];exact bC Tryz.underlying9 _ (by rfl) x.am.2.1 (by rfl) _ rfl X) ?_;refine bZ (q1:Int) 12 (by omega) ?_;refine jm (.bool false) ?_;refine jnf hB0 1 aO ?_;refine jm (vI k) ?_;refine jv (vP b (off+k * 13)) (aR Tryz.underlying22 aL _ _ (by rfl) b (off) n cp k (by omega) (by rfl) (by rfl) rfl) ?_;refine jnn (vP b (off+k * 13+3)) (vP b (off+k * 13+5)) ?_;refine jg (st x.am.2.2) (fun X hX hF=>aP 9 _ (by rfl) b (off+k * 13+5) (by rfl) _ X ((hcx.below hX hbb) 5 _ rfl) (fun X u h=>aG b (off+k * 13+5) X u h)) ?_;refine jv (vI q2) (fun X=>by rw [HQ2.out];exact bC Tryz.underlying9 _ (by rfl) x.am.2.2 (by rfl) _ rfl X) ?_;refine cD (q2:Int) 12 (by omega) ?_;refine jm (.bool true) ?_;refine aQ hb hB0 fun X2 hX2 hb hB0=>?_;have hcx:=hcx.below hX2 hbb
     replace hbb:=Nat.lt_of_lt_of_le hbb (hX2).size;go_upto_region 7 with fail;refine jp ?_;refine jm (.bool false) ?_;refine aQ hb hB0 fun X3 hX3 hb hB0=>?_
     go_wp2
     go_ret
     exact ⟨by rw [HN.out];rfl,hb⟩
    ·have HF:Hid (few x.am.2.1 x.am.2.2 12=true):=by
      show _=_
      unfold few
      rw [← HQ1.out,← HQ2.out,decide_eq_true hq.1,decide_eq_true hq.2]
      rfl
     have HZ2:Hid (∀ j,j<k+1→few (en l j).am.2.1 (en l j).am.2.2 12=true):=fun j hj=>by
      rcases Nat.lt_or_ge j k with h9|h9
      ·exact HZ.out j h9
      ·rw [show j=k by omega,← HX.out];exact HF.out
     go_upto_region 6 with fail;refine jp ?_;refine jnf hB0 1 aO ?_;refine jm (vI k) ?_;refine jv (vP b (off+k * 13)) (aR Tryz.underlying22 aL _ _ (by rfl) b (off) n cp k (by omega) (by rfl) (by rfl) rfl) ?_;refine jnn (vP b (off+k * 13+3)) (vP b (off+k * 13+4)) ?_;refine jg (st x.am.2.1) (fun X hX hF=>aP 9 _ (by rfl) b (off+k * 13+4) (by rfl) _ X ((hcx.below hX hbb) 4 _ rfl) (fun X u h=>aG b (off+k * 13+4) X u h)) ?_;refine jv (vI q1) (fun X=>by rw [HQ1.out];exact bC Tryz.underlying9 _ (by rfl) x.am.2.1 (by rfl) _ rfl X) ?_;refine bZ (q1:Int) 12 (by omega) ?_;refine jm (.bool false) ?_;refine jnf hB0 1 aO ?_;refine jm (vI k) ?_;refine jv (vP b (off+k * 13)) (aR Tryz.underlying22 aL _ _ (by rfl) b (off) n cp k (by omega) (by rfl) (by rfl) rfl) ?_;refine jnn (vP b (off+k * 13+3)) (vP b (off+k * 13+5)) ?_;refine jg (st x.am.2.2) (fun X hX hF=>aP 9 _ (by rfl) b (off+k * 13+5) (by rfl) _ X ((hcx.below hX hbb) 5 _ rfl) (fun X u h=>aG b (off+k * 13+5) X u h)) ?_;refine jv (vI q2) (fun X=>by rw [HQ2.out];exact bC Tryz.underlying9 _ (by rfl) x.am.2.2 (by rfl) _ rfl X) ?_;refine bZ (q2:Int) 12 (by omega) ?_;refine jm (.bool false) ?_;refine aQ hb hB0 fun X2 hX2 hb hB0=>?_;have hcx:=hcx.below hX2 hbb
     replace hbb:=Nat.lt_of_lt_of_le hbb (hX2).size;go_upto_region 5 with fail;refine jp ?_;refine jm (vI k) ?_;refine jv (vI ((k+1:Nat):Int)) (bB _ _ _ _ (by rfl) (k:Int) 1 ((k+1:Nat):Int) (by rfl) (by rfl) (by omega) (by omega) (by omega)) ?_;refine jm (vI ((k+1:Nat):Int)) ?_;refine aQ hb hB0 fun X3 hX3 hb hB0=>?_
     go_wp2
     go_roundw
     case rel=>exact ⟨k+1,by omega,rfl,HZ2,hB0,hb⟩
     case measure=>simp [intOf];omega
   ·obtain rfl:k=n:=by omega
    have HN:Hid (iU l m=true):=by
     show _=_
     rw [HC.out];refine List.all_eq_true.2 fun t ht=>?_;obtain ⟨i,hi,rfl⟩:=List.getElem_of_mem ht;rw [← mN hi];exact HZ.out i (by rw [← HLN.out];exact hi)
    go_upto_region 4 with fail;refine jp ?_;refine jm (vI k) ?_;refine jnf hB0 1 aO ?_;refine jv (vI k) (aF Tryz.underlying22 _ (by rfl) A k cp (by rfl) _ rfl) ?_;refine bI (k:Int) (k:Int) (by omega) ?_;refine aQ hb hB0 fun X1 hX1 hb hB0=>?_;go_upto_region 8 with fail;refine jp ?_;refine jm (.bool true) ?_;refine aQ hb hB0 fun X2 hX2 hb hB0=>?_
    go_wp2
    go_ret
    exact ⟨by rw [HN.out];rfl,hb⟩
theorem fwbC (c:Int) (v:Value) (l:List En) (m:Nat) (w:World) (hv:Es l v w) (hm:m≤3000):Calls Tryz.prog 21 #[.agg #[vI c,v],vI m] w fun e w'=>e=.returned (.bool (iU l m))∧Since w w':=by
 rcases (show (m<l.length∧l.length≤4000)∨4002<l.length∨l.length≤m∨(m<l.length∧4000<l.length∧l.length≤4002) by omega) with h|h|h|h
 ·exact fwb0 c v l m w hv hm h
 ·exact fwb1 c v l m w hv hm h
 ·exact fwb2 c v l m w hv hm (.inl h)
 ·exact fwb2 c v l m w hv hm (.inr h)
end Go.Proofs.YtjkfchehkpmhkaaGreatDoor

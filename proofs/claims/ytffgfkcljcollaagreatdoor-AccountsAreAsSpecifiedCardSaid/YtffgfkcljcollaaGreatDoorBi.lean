/- law 44: of, entry, is, Few, few, SameRats, Equal. -/
import Derived.Test.YtffgfkcljcollaaGreatDoorBg
import Derived.Test.YtffgfkcljcollaaGreatDoorBh
import Derived.Test.YtffgfkcljcollaaGreatDoorBb
set_option linter.unusedSimpArgs false
set_option linter.unusedVariables false
set_option maxRecDepth 100000
set_option maxHeartbeats 1600000
namespace Go.Proofs.YtffgfkcljcollaaGreatDoor
open Go.RowKit
def fO (l:List En) (m:Nat):Bool:=!((decide (m<l.length) && decide (l.length≤4000)) || decide (4002<l.length)) && l.all fun x=>few x.am.2.1 x.am.2.2 12
theorem tS {l:List En} {m:Nat} (h:fO l m=true):∀ k,tz (en l k).am.2.1 (en l k).am.2.2 12:=fun k=>by
 unfold fO at h
 rw [Bool.and_eq_true] at h
 rcases Nat.lt_or_ge k l.length with h1|h1
 ·have h2:=List.all_eq_true.1 h.2 _ (List.getElem_mem h1)
  rw [iQ h1]
  unfold few at h2
  rw [Bool.and_eq_true] at h2;exact ⟨of_decide_eq_true h2.1,of_decide_eq_true h2.2⟩
 ·unfold en
  rw [List.getD_eq_getElem?_getD,List.getElem?_eq_none h1];exact mZ
theorem zS {l:List En} {m:Nat} (h:(m<l.length∧l.length≤4000)∨4002<l.length):fO l m=false:=by
 unfold fO
 have h9:((decide (m<l.length) && decide (l.length≤4000)) || decide (4002<l.length))=true:=by
  rw [Bool.or_eq_true,Bool.and_eq_true,decide_eq_true_eq,decide_eq_true_eq,decide_eq_true_eq];exact h
 rw [h9]
 rfl
theorem vQu {l:List En} {m:Nat} (h:¬ ((m<l.length∧l.length≤4000)∨4002<l.length)):fO l m=l.all fun x=>few x.am.2.1 x.am.2.2 12:=by
 unfold fO
 have h9:((decide (m<l.length) && decide (l.length≤4000)) || decide (4002<l.length))=false:=by
  rw [Bool.eq_false_iff];rw [ne_eq,Bool.or_eq_true,Bool.and_eq_true,decide_eq_true_eq,decide_eq_true_eq,decide_eq_true_eq];exact h
 rw [h9]
 rfl
theorem qC (x t:Int) (w:World) (hx:cU x=true) (ht:cU t=true) (h0:t≠0):Calls Tryz.prog 27 #[vI x,vI t] w fun e w'=>e=.returned (rbv (rk x t))∧Since w w':=by
 go_enter Tryz.func27,Tryz.ntmps27
 go_upto_region 1 with fail;obtain ⟨W0,hW0,hB0,hb⟩:=aQ w 26 [.bool false,.string ⟨#[]⟩,.string ⟨#[]⟩];rw [← hW0];clear hW0;refine jq 6 ?_;refine jm (vI x) ?_;refine jm (vI t) ?_;refine jc (.tuple #[rt (rN (rk x t)) (rP (rk x t)) (rD (rk x t)),vI 0]) (fun X hX hF=>makeC x t X hx ht h0) ?_;refine jm (.tuple #[rt (rN (rk x t)) (rP (rk x t)) (rD (rk x t)),vI 0]) ?_;refine jm (rt (rN (rk x t)) (rP (rk x t)) (rD (rk x t))) ?_;refine jm (vI 0) ?_;refine jzb hb fun X1 hX1 hb=>?_;replace hB0:=hB0.bel hX1;go_upto_region 2 with (refine osn 26 5 11 #[.bool (rN (rk x t)),vS (rP (rk x t)),vS (rD (rk x t))] aC ?_);obtain ⟨Y1,hY9,hD5,hS9⟩:=aQ X1 26 [.bool (rN (rk x t)),vS (rP (rk x t)),vS (rD (rk x t))];rw [← hY9];clear hY9;have hgs5:=hb.size;have hlt5x0:=hB0.lt;have hB0:=hB0.bel hS9;have hb:=aF hb hS9;clear hS9;generalize X1.heap.size=g5 at *;refine jq 1 ?_;refine ja hD5 Tryz.underlying26 (by rfl) aC ?_;refine jzb hb fun X2 hX2 hb=>?_;obtain ⟨hB0,hD5⟩:=bl2 hX2 hB0 hD5;refine osb 26 4 13 w.heap.size 26 hB0 [.bool (rN (rk x t)),vS (rP (rk x t)),vS (rD (rk x t))] aC ?_;intro w9 hR9 hO9 hB9 hs9;have hb9:=hB9 _ _ hb (by omega);clear hO9 hB9
 go_wp2
 refine aL rfl rfl (by rfl) Tryz.underlying26 rfl hR9 aC ⟨rfl,hb9⟩
theorem sN (day deb cre kd:Int) (g:Bool) (nn dd:List UInt8) (w:World):Calls Tryz.prog 25 #[vI day,vI deb,vI cre,.agg #[.bool g,vS nn,vS dd],vI kd] w fun e w'=>e=.returned (.agg #[vI day,vI deb,vI cre,.bool g,vS nn,vS dd,vI kd,vI 2,vI (-1),vI 0,vI 0,vI 0,vI 0])∧Since w w':=by
 go_enter Tryz.func25,Tryz.ntmps25
 go_upto_region 1 with fail;obtain ⟨W0,hW0,hB0,hB1,hb⟩:=bL w 26 32 [.bool g,vS nn,vS dd] [vI 0,vI 0,vI 0,.bool false,.string ⟨#[]⟩,.string ⟨#[]⟩,vI 0,vI 0,vI 0,vI 0,vI 0,vI 0,vI 0];rw [← hW0];clear hW0;refine jq 7 ?_;refine jm (vI day) ?_;refine jm (vI deb) ?_;refine jm (vI cre) ?_;refine ja hB0 Tryz.underlying26 (by rfl) aC ?_;refine jm (vI kd) ?_;refine jn (.agg #[vI kd,vI 2,vI (-1),vI 0,vI 0,vI 0,vI 0]) ?_;refine jn (.agg #[vI day,vI deb,vI cre,.bool g,st nn,st dd,vI kd,vI 2,vI (-1),vI 0,vI 0,vI 0,vI 0]) ?_;refine jzb hb fun X1 hX1 hb=>?_;obtain ⟨hB0,hB1⟩:=bl2 hX1 hB0 hB1;refine osb 32 10 17 (w.heap.size+1) 32 hB1 [vI day,vI deb,vI cre,.bool g,vS nn,vS dd,vI kd,vI 2,vI (-1),vI 0,vI 0,vI 0,vI 0] aI ?_;intro w9 hR9 hO9 hB9 hs9;have hb9:=hB9 _ _ hb (by omega);clear hO9 hB9
 go_wp2
 refine aL rfl rfl (by rfl) Tryz.underlying32 rfl hR9 aI ⟨rfl,hb9⟩
theorem tP (c:Int) (v:Value) (l:List En) (a day:Int) (y:Rat) (w:World) (hv:Es l v w) (hs1:Hid (∀ k,tz (en l k).am.2.1 (en l k).am.2.2 100)) (hE:Hid (blE c l a day=0)) (hV:Hid (blV c l a day=y)):Calls Tryz.prog 28 #[.agg #[vI c,v],vI a,vI day,rbv y] w fun e w'=>e=.returned (.bool true)∧Since w w':=by
 obtain ⟨A,n,cp,rfl,hln,hn1,hr⟩:=hv.at;clear hv;have HRX:=bV hr;have HLN:=Lib.hid hln;clear hr;have HES:=cA HLN HRX
 go_enter Tryz.func28,Tryz.ntmps28
 go_upto_region 1 with fail;obtain ⟨W0,hW0,hB0,hB1,hb⟩:=bL w 24 26 [vI c,.slice A n cp] [.bool (rN y),vS (rP y),vS (rD y)];rw [← hW0];clear hW0;refine jq 7 ?_;refine ja hB0 Tryz.underlying24 (by rfl) aE ?_;refine jm (vI a) ?_;refine jm (vI day) ?_;refine jc (.tuple #[rt (rN y) (rP y) (rD y),vI 0]) (fun X hX hF=>mo (qXt c _ l a day X (HES.out X (Since.next hb hX)) hs1) (by rw [hE.out,hV.out])) ?_;refine jm (.tuple #[rt (rN y) (rP y) (rD y),vI 0]) ?_;refine jm (rt (rN y) (rP y) (rD y)) ?_;refine jm (vI 0) ?_;refine jzb hb fun X1 hX1 hb=>?_;obtain ⟨hB0,hB1⟩:=bl2 hX1 hB0 hB1;go_upto_region 2 with (refine osn 26 9 16 #[.bool (rN y),vS (rP y),vS (rD y)] aC ?_);obtain ⟨Y1,hY9,hD9,hS9⟩:=aQ X1 26 [.bool (rN y),vS (rP y),vS (rD y)];rw [← hY9];clear hY9;have hgs9:=hb.size;have hlt9x0:=hB0.lt;have hlt9x1:=hB1.lt;obtain ⟨hB0,hB1⟩:=bl2 hS9 hB0 hB1;have hb:=aF hb hS9;clear hS9;generalize X1.heap.size=g9 at *;go_upto_region 2 with fail;refine jp ?_;refine jm (vI 0) ?_;refine bZ 0 0 (by omega) ?_;refine jm (.bool true) ?_;refine ja hD9 Tryz.underlying26 (by rfl) aC ?_;refine ja hB1 Tryz.underlying26 (by rfl) aC ?_;refine jv (.bool true) (cI _ _ (by rfl) (rN y) (rP y) (rD y) (rN y) (rP y) (rD y) (by rfl) (by rfl) true (yB rfl)) ?_;refine jm (.bool true) ?_;refine jm (.bool true) ?_
 refine jzb hb fun X2 hX2 hb=>?_;obtain ⟨hB0,hB1,hD9⟩:=bl3 hX2 hB0 hB1 hD9
 go_wp2
 go_ret
 exact ⟨rfl,hb⟩
theorem fwb0 (c:Int) (v:Value) (l:List En) (m:Nat) (w:World) (hv:Es l v w) (hm:m≤3000) (h:m<l.length∧l.length≤4000):Calls Tryz.prog 4 #[.agg #[vI c,v],vI m] w fun e w'=>e=.returned (.bool (fO l m))∧Since w w':=by
 have HC:Hid (fO l m=false):=zS (.inl h);obtain ⟨A,n,cp,rfl,hln,hn1,hr⟩:=hv.at;clear hv;have HRX:=bV hr;have HLN:=Lib.hid hln;clear hr;have HES:=cA HLN HRX
 go_enter Tryz.func4,Tryz.ntmps4
 go_upto_region 1 with fail;obtain ⟨W0,hW0,hB0,hb⟩:=aQ w 24 [vI c,.slice A n cp];rw [← hW0];clear hW0;rw [hln] at h;refine jp ?_;refine jn (vP w.heap.size 1) ?_;refine jf _ hB0 1 aK ?_;refine jv (vI n) (aN Tryz.underlying22 _ (by rfl) A n cp (by rfl) _ rfl) ?_;refine jm (vI m) ?_;refine dV (n:Int) (m:Int) (by omega) ?_;refine jm (.bool true) ?_;refine jn (vP w.heap.size 1) ?_;refine jf _ hB0 1 aK ?_;refine jv (vI n) (aN Tryz.underlying22 _ (by rfl) A n cp (by rfl) _ rfl) ?_;refine qI (n:Int) 4000 (by omega) ?_;refine jm (.bool true) ?_;refine jm (.bool true) ?_;refine js ?_;refine js ?_;refine js ?_;refine js ?_;refine jm (.bool true) ?_;refine jzb hb fun X1 hX1 hb=>?_;replace hB0:=hB0.bel hX1;go_upto_region 2 with fail;refine jp ?_;refine jm (.bool false) ?_;refine jzb hb fun X2 hX2 hb=>?_;replace hB0:=hB0.bel hX2
 go_wp2
 go_ret
 exact ⟨by rw [HC.out];rfl,hb⟩
theorem fwb1 (c:Int) (v:Value) (l:List En) (m:Nat) (w:World) (hv:Es l v w) (hm:m≤3000) (h:4002<l.length):Calls Tryz.prog 4 #[.agg #[vI c,v],vI m] w fun e w'=>e=.returned (.bool (fO l m))∧Since w w':=by
 have HC:Hid (fO l m=false):=zS (.inr h);obtain ⟨A,n,cp,rfl,hln,hn1,hr⟩:=hv.at;clear hv;have HRX:=bV hr;have HLN:=Lib.hid hln;clear hr;have HES:=cA HLN HRX
 go_enter Tryz.func4,Tryz.ntmps4
 go_upto_region 1 with fail;obtain ⟨W0,hW0,hB0,hb⟩:=aQ w 24 [vI c,.slice A n cp];rw [← hW0];clear hW0;rw [hln] at h;refine jp ?_;refine jn (vP w.heap.size 1) ?_;refine jf _ hB0 1 aK ?_;refine jv (vI n) (aN Tryz.underlying22 _ (by rfl) A n cp (by rfl) _ rfl) ?_;refine jm (vI m) ?_;refine dV (n:Int) (m:Int) (by omega) ?_;refine jm (.bool true) ?_;refine jn (vP w.heap.size 1) ?_;refine jf _ hB0 1 aK ?_;refine jv (vI n) (aN Tryz.underlying22 _ (by rfl) A n cp (by rfl) _ rfl) ?_;refine oP (n:Int) 4000 (by omega) ?_;refine jm (.bool false) ?_;refine jm (.bool false) ?_;refine jn (vP w.heap.size 1) ?_;refine jf _ hB0 1 aK ?_;refine jv (vI n) (aN Tryz.underlying22 _ (by rfl) A n cp (by rfl) _ rfl) ?_;refine dV (n:Int) 4002 (by omega) ?_;refine jm (.bool true) ?_;refine jzb hb fun X1 hX1 hb=>?_;replace hB0:=hB0.bel hX1;go_upto_region 2 with fail;refine jp ?_;refine jm (.bool false) ?_;refine jzb hb fun X2 hX2 hb=>?_;replace hB0:=hB0.bel hX2
 go_wp2
 go_ret
 exact ⟨by rw [HC.out];rfl,hb⟩
theorem fwb2 (c:Int) (v:Value) (l:List En) (m:Nat) (w:World) (hv:Es l v w) (hm:m≤3000) (h:l.length≤m∨(m<l.length∧4000<l.length∧l.length≤4002)):Calls Tryz.prog 4 #[.agg #[vI c,v],vI m] w fun e w'=>e=.returned (.bool (fO l m))∧Since w w':=by
 have HC:Hid (fO l m=l.all fun x=>few x.am.2.1 x.am.2.2 12):=vQu (by omega);obtain ⟨A,n,cp,rfl,hln,hn1,hr⟩:=hv.at;clear hv;have HRX:=bV hr;have HLN:=Lib.hid hln;clear hr;have HES:=cA HLN HRX
 go_enter Tryz.func4,Tryz.ntmps4
 go_upto_region 1 with fail;obtain ⟨W0,hW0,hB0,hb⟩:=aQ w 24 [vI c,.slice A n cp];rw [← hW0];clear hW0;rw [hln] at h;refine share [6,7,8,9,10,11,12,13,14,15,16,17,18,19,20,21,22] (fun f9 X=>(f9 22=.bool false∧True)∧Since W0 X) ?_ ?_
 ·rcases h with h|h
  ·refine jp ?_
   refine jn (vP w.heap.size 1) ?_;refine jf _ hB0 1 aK ?_;refine jv (vI n) (aN Tryz.underlying22 _ (by rfl) A n cp (by rfl) _ rfl) ?_;refine jm (vI m) ?_;refine dM (n:Int) (m:Int) (by omega) ?_;refine jm (.bool false) ?_;refine js ?_;refine js ?_;refine js ?_;refine js ?_;refine jm (.bool false) ?_;refine jm (.bool false) ?_;refine jn (vP w.heap.size 1) ?_;refine jf _ hB0 1 aK ?_;refine jv (vI n) (aN Tryz.underlying22 _ (by rfl) A n cp (by rfl) _ rfl) ?_;refine dM (n:Int) 4002 (by omega) ?_;refine jm (.bool false) ?_
   exact aM fun X hX _=>oT ⟨⟨rfl,trivial⟩,hX⟩
  ·refine jp ?_
   refine jn (vP w.heap.size 1) ?_;refine jf _ hB0 1 aK ?_;refine jv (vI n) (aN Tryz.underlying22 _ (by rfl) A n cp (by rfl) _ rfl) ?_;refine jm (vI m) ?_;refine dV (n:Int) (m:Int) (by omega) ?_;refine jm (.bool true) ?_;refine jn (vP w.heap.size 1) ?_;refine jf _ hB0 1 aK ?_;refine jv (vI n) (aN Tryz.underlying22 _ (by rfl) A n cp (by rfl) _ rfl) ?_;refine oP (n:Int) 4000 (by omega) ?_;refine jm (.bool false) ?_;refine jm (.bool false) ?_;refine jn (vP w.heap.size 1) ?_;refine jf _ hB0 1 aK ?_;refine jv (vI n) (aN Tryz.underlying22 _ (by rfl) A n cp (by rfl) _ rfl) ?_;refine dM (n:Int) 4002 (by omega) ?_;refine jm (.bool false) ?_
   exact aM fun X hX _=>oT ⟨⟨rfl,trivial⟩,hX⟩
 ·intro f1 X1 hk9
  obtain ⟨⟨hk1_0,_⟩,hX1⟩:=hk9;simp only [tC,wE,pX,hk1_0];clear hk1_0;have hB0:=hB0.bel hX1;have hb:=aF hb hX1;go_upto_region 3 with fail;refine jp ?_;refine jm (vI 0) ?_;refine jzb hb fun X2 hX2 hb=>?_;replace hB0:=hB0.bel hX2
  go_wp2
  go_loopw [5] (fun kv wr=>∃ k:Nat,k≤n∧kv=vI k∧Hid (∀ j,j<k→few (en l j).am.2.1 (en l j).am.2.2 12=true)∧Blk wr w.heap.size 24 [vI c,.slice A n cp]∧Below w.heap.size w wr) (fun kv _=>n-(intOf kv).toNat)
  case atStart=>exact ⟨0,by omega,rfl,(fun j hj=>by omega),hB0,hb⟩
  case round =>
   clear hb hB0;obtain ⟨k,hk,rfl,HZ,hB0,hb⟩:=hrel
   rcases Nat.lt_or_ge k n with hlt|hlt
   ·obtain ⟨b,off,rfl,hbb,hcx⟩:=fI (HRX.out _ hb) HLN.out hlt
    obtain ⟨x,x9⟩:∃ x,x=en l k:=⟨_,rfl⟩;have HX:=Lib.hid x9;clear x9;rw [← HX.out] at hcx
    change Cl wr b (off+k * 13) (eL x) at hcx
    obtain ⟨q1,q1e⟩:∃ z,z=x.am.2.1.length:=⟨_,rfl⟩;obtain ⟨q2,q2e⟩:∃ z,z=x.am.2.2.length:=⟨_,rfl⟩;have HQ1:=Lib.hid q1e;have HQ2:=Lib.hid q2e;clear q1e q2e;go_upto_region 4 with fail;refine jp ?_;refine jm (vI k) ?_;refine jn (vP w.heap.size 1) ?_;refine jf _ hB0 1 aK ?_;refine jv (vI n) (aN Tryz.underlying22 _ (by rfl) (some ⟨b,off,none⟩) n cp (by rfl) _ rfl) ?_;refine cP (k:Int) (n:Int) (by omega) ?_;refine jzb hb fun X1 hX1 hb=>?_;replace hB0:=hB0.bel hX1;have hcx:=hcx.below hX1 hbb;replace hbb:=Nat.lt_of_lt_of_le hbb (hX1).size
    rcases (show 12<q1∨(q1≤12∧12<q2)∨(q1≤12∧q2≤12) by omega) with hq|hq|hq
    ·have HF:Hid (few x.am.2.1 x.am.2.2 12=false):=by
      show _=_
      unfold few
      rw [← HQ1.out,← HQ2.out];rw [Bool.and_eq_false_iff]
      first
       | exact .inl (decide_eq_false (by omega))
       | exact .inr (decide_eq_false (by omega))
     have HN:Hid (fO l m=false):=by
      show _=_
      rw [HC.out,Bool.eq_false_iff];intro h8;have h7:=List.all_eq_true.1 h8 _ (List.getElem_mem (show k<l.length by rw [HLN.out];exact hlt));rw [← iQ,← HX.out,HF.out] at h7
      cases h7
     go_upto_region 6 with fail;refine jp ?_;refine jn (vP w.heap.size 1) ?_;refine jf _ hB0 1 aK ?_;refine jm (vI k) ?_;refine jv (vP b (off+k * 13)) (aW Tryz.underlying22 aI _ _ (by rfl) b (off) n cp k (by omega) (by rfl) (by rfl) rfl) ?_;refine jn (vP b (off+k * 13+3)) ?_;refine jn (vP b (off+k * 13+4)) ?_;refine jg (st x.am.2.1) (fun X hX hF=>aV 9 _ (by rfl) b (off+k * 13+4) (by rfl) _ X ((hcx.below hX hbb) 4 _ rfl) (fun X u h=>aH b (off+k * 13+4) X u h)) ?_;refine jv (vI q1) (fun X=>by rw [HQ1.out];exact bA Tryz.underlying9 _ (by rfl) x.am.2.1 (by rfl) _ rfl X) ?_;refine dV (q1:Int) 12 (by omega) ?_;refine jm (.bool true) ?_;refine js ?_;refine js ?_;refine js ?_;refine js ?_;refine js ?_;refine js ?_;refine js ?_;refine js ?_;refine js ?_;refine jm (.bool true) ?_;refine jzb hb fun X2 hX2 hb=>?_;replace hB0:=hB0.bel hX2;have hcx:=hcx.below hX2 hbb;replace hbb:=Nat.lt_of_lt_of_le hbb (hX2).size;go_upto_region 7 with fail;refine jp ?_;refine jm (.bool false) ?_;refine jzb hb fun X3 hX3 hb=>?_;replace hB0:=hB0.bel hX3
     go_wp2
     go_ret
     exact ⟨by rw [HN.out];rfl,hb⟩
    ·have HF:Hid (few x.am.2.1 x.am.2.2 12=false):=by
      show _=_
      unfold few
      rw [← HQ1.out,← HQ2.out];rw [Bool.and_eq_false_iff]
      first
       | exact .inl (decide_eq_false (by omega))
       | exact .inr (decide_eq_false (by omega))
     have HN:Hid (fO l m=false):=by
      show _=_
      rw [HC.out,Bool.eq_false_iff];intro h8;have h7:=List.all_eq_true.1 h8 _ (List.getElem_mem (show k<l.length by rw [HLN.out];exact hlt));rw [← iQ,← HX.out,HF.out] at h7
      cases h7
     go_upto_region 6 with fail;refine jp ?_;refine jn (vP w.heap.size 1) ?_;refine jf _ hB0 1 aK ?_;refine jm (vI k) ?_;refine jv (vP b (off+k * 13)) (aW Tryz.underlying22 aI _ _ (by rfl) b (off) n cp k (by omega) (by rfl) (by rfl) rfl) ?_;refine jn (vP b (off+k * 13+3)) ?_;refine jn (vP b (off+k * 13+4)) ?_;refine jg (st x.am.2.1) (fun X hX hF=>aV 9 _ (by rfl) b (off+k * 13+4) (by rfl) _ X ((hcx.below hX hbb) 4 _ rfl) (fun X u h=>aH b (off+k * 13+4) X u h)) ?_;refine jv (vI q1) (fun X=>by rw [HQ1.out];exact bA Tryz.underlying9 _ (by rfl) x.am.2.1 (by rfl) _ rfl X) ?_;refine dM (q1:Int) 12 (by omega) ?_;refine jm (.bool false) ?_;refine jn (vP w.heap.size 1) ?_;refine jf _ hB0 1 aK ?_;refine jm (vI k) ?_;refine jv (vP b (off+k * 13)) (aW Tryz.underlying22 aI _ _ (by rfl) b (off) n cp k (by omega) (by rfl) (by rfl) rfl) ?_;refine jn (vP b (off+k * 13+3)) ?_;refine jn (vP b (off+k * 13+5)) ?_;refine jg (st x.am.2.2) (fun X hX hF=>aV 9 _ (by rfl) b (off+k * 13+5) (by rfl) _ X ((hcx.below hX hbb) 5 _ rfl) (fun X u h=>aH b (off+k * 13+5) X u h)) ?_;refine jv (vI q2) (fun X=>by rw [HQ2.out];exact bA Tryz.underlying9 _ (by rfl) x.am.2.2 (by rfl) _ rfl X) ?_
     refine dV (q2:Int) 12 (by omega) ?_;refine jm (.bool true) ?_;refine jzb hb fun X2 hX2 hb=>?_;replace hB0:=hB0.bel hX2;have hcx:=hcx.below hX2 hbb;replace hbb:=Nat.lt_of_lt_of_le hbb (hX2).size;go_upto_region 7 with fail;refine jp ?_;refine jm (.bool false) ?_;refine jzb hb fun X3 hX3 hb=>?_;replace hB0:=hB0.bel hX3
     go_wp2
     go_ret
     exact ⟨by rw [HN.out];rfl,hb⟩
    ·have HF:Hid (few x.am.2.1 x.am.2.2 12=true):=by
      show _=_
      unfold few
      rw [← HQ1.out,← HQ2.out,decide_eq_true hq.1,decide_eq_true hq.2]
      rfl
     have HZ2:Hid (∀ j,j<k+1→few (en l j).am.2.1 (en l j).am.2.2 12=true):=fun j hj=>by
      rcases Nat.lt_or_ge j k with h9|h9
      ·exact HZ.out j h9
      ·rw [show j=k by omega,← HX.out];exact HF.out
     go_upto_region 6 with fail;refine jp ?_;refine jn (vP w.heap.size 1) ?_;refine jf _ hB0 1 aK ?_;refine jm (vI k) ?_;refine jv (vP b (off+k * 13)) (aW Tryz.underlying22 aI _ _ (by rfl) b (off) n cp k (by omega) (by rfl) (by rfl) rfl) ?_;refine jn (vP b (off+k * 13+3)) ?_;refine jn (vP b (off+k * 13+4)) ?_;refine jg (st x.am.2.1) (fun X hX hF=>aV 9 _ (by rfl) b (off+k * 13+4) (by rfl) _ X ((hcx.below hX hbb) 4 _ rfl) (fun X u h=>aH b (off+k * 13+4) X u h)) ?_;refine jv (vI q1) (fun X=>by rw [HQ1.out];exact bA Tryz.underlying9 _ (by rfl) x.am.2.1 (by rfl) _ rfl X) ?_;refine dM (q1:Int) 12 (by omega) ?_;refine jm (.bool false) ?_;refine jn (vP w.heap.size 1) ?_;refine jf _ hB0 1 aK ?_;refine jm (vI k) ?_;refine jv (vP b (off+k * 13)) (aW Tryz.underlying22 aI _ _ (by rfl) b (off) n cp k (by omega) (by rfl) (by rfl) rfl) ?_;refine jn (vP b (off+k * 13+3)) ?_;refine jn (vP b (off+k * 13+5)) ?_;refine jg (st x.am.2.2) (fun X hX hF=>aV 9 _ (by rfl) b (off+k * 13+5) (by rfl) _ X ((hcx.below hX hbb) 5 _ rfl) (fun X u h=>aH b (off+k * 13+5) X u h)) ?_;refine jv (vI q2) (fun X=>by rw [HQ2.out];exact bA Tryz.underlying9 _ (by rfl) x.am.2.2 (by rfl) _ rfl X) ?_
     refine dM (q2:Int) 12 (by omega) ?_;refine jm (.bool false) ?_;refine jzb hb fun X2 hX2 hb=>?_;replace hB0:=hB0.bel hX2;have hcx:=hcx.below hX2 hbb;replace hbb:=Nat.lt_of_lt_of_le hbb (hX2).size;go_upto_region 5 with fail;refine jp ?_;refine jm (vI k) ?_;refine jv (vI ((k+1:Nat):Int)) (aU _ _ _ _ (by rfl) (k:Int) 1 ((k+1:Nat):Int) (by rfl) (by rfl) (by omega) (by omega) (by omega)) ?_;refine jm (vI ((k+1:Nat):Int)) ?_;refine jzb hb fun X3 hX3 hb=>?_;replace hB0:=hB0.bel hX3
     go_wp2
     go_roundw
     case rel=>exact ⟨k+1,by omega,rfl,HZ2,hB0,hb⟩
     case measure=>simp [intOf];omega
   ·obtain rfl:k=n:=by omega
    have HN:Hid (fO l m=true):=by
     show _=_
     rw [HC.out];refine List.all_eq_true.2 fun t ht=>?_;obtain ⟨i,hi,rfl⟩:=List.getElem_of_mem ht;rw [← iQ hi];exact HZ.out i (by rw [← HLN.out];exact hi)
    go_upto_region 4 with fail;refine jp ?_;refine jm (vI k) ?_;refine jn (vP w.heap.size 1) ?_;refine jf _ hB0 1 aK ?_;refine jv (vI k) (aN Tryz.underlying22 _ (by rfl) A k cp (by rfl) _ rfl) ?_;refine bS (k:Int) (k:Int) (by omega) ?_;refine jzb hb fun X1 hX1 hb=>?_;replace hB0:=hB0.bel hX1;go_upto_region 8 with fail;refine jp ?_;refine jm (.bool true) ?_;refine jzb hb fun X2 hX2 hb=>?_;replace hB0:=hB0.bel hX2
    go_wp2
    go_ret
    exact ⟨by rw [HN.out];rfl,hb⟩
theorem zO (c:Int) (v:Value) (l:List En) (m:Nat) (w:World) (hv:Es l v w) (hm:m≤3000):Calls Tryz.prog 4 #[.agg #[vI c,v],vI m] w fun e w'=>e=.returned (.bool (fO l m))∧Since w w':=by
 rcases (show (m<l.length∧l.length≤4000)∨4002<l.length∨l.length≤m∨(m<l.length∧4000<l.length∧l.length≤4002) by omega) with h|h|h|h
 ·exact fwb0 c v l m w hv hm h
 ·exact fwb1 c v l m w hv hm h
 ·exact fwb2 c v l m w hv hm (.inl h)
 ·exact fwb2 c v l m w hv hm (.inr h)
theorem qVr {w:World} {m n c k:Nat} {A:Option Addr} {xs:List Value} (h:Rd w m (.slice A n c) k xs):n≤9223372036854775807:=by
 obtain ⟨hl,A2,c2,h2,hc,hm,hx⟩:=h
 injection h2 with e1 e2 e3
 subst e2
 unfold maxLen at hm
 omega
theorem qYb {w:World} {A:Option Addr} {n c:Nat} {l:List Rat} (h:Rd w 3 (.slice A n c) n (fl trc (l.map tr))) (hl:l.length=n) {k:Nat} (hk:k<n):∃ b off,A=some ⟨b,off,none⟩∧b<w.heap.size∧Cl w b (off+k * 3) (rc (yq l k)):=by
 obtain ⟨b,off,h1,h2,h3⟩:=Rl.xtAt h (by rw [List.length_map];exact hl) hk
 have e:xt (l.map tr) k=tr (yq l k):=by
  unfold xt yq
  rw [List.getD_eq_getElem?_getD,List.getD_eq_getElem?_getD,List.getElem?_map]
  cases l[k]? <;> rfl
 rw [e] at h3;exact ⟨b,off,h1,h2,h3⟩
theorem qZe (v v2:Value) (xs:List Rat) (w:World) (hv:Rq xs v w) (hv2:Rq xs v2 w):Calls Tryz.prog 23 #[v,v2] w fun e w'=>e=.returned (.bool true)∧Since w w':=by
 obtain ⟨A,n,c,rfl,hln,hr⟩:=hv.open;clear hv;obtain ⟨A2,n2,c2,rfl,hln2,hr2⟩:=hv2.open;clear hv2
 obtain rfl:n=n2:=by rw [← hln];exact hln2
 have HRX:Hid (∀ X,Since w X→Rd X 3 (.slice A n c) n (fl trc (xs.map tr))):=fun X h=>Rd.below hr h
 have HRY:Hid (∀ X,Since w X→Rd X 3 (.slice A2 n c2) n (fl trc (xs.map tr))):=fun X h=>Rd.below hr2 h
 have HLN:=Lib.hid hln;have hn1:n≤9223372036854775807:=qVr hr;clear hr hr2 hln hln2
 go_enter Tryz.func23,Tryz.ntmps23
 go_upto_region 1 with fail;refine jp ?_;refine jm (.slice A n c) ?_;refine jv (vI n) (aN Tryz.underlying52 _ (by rfl) A n c (by rfl) _ rfl) ?_;refine jm (.slice A2 n c2) ?_;refine jv (vI n) (aN Tryz.underlying52 _ (by rfl) A2 n c2 (by rfl) _ rfl) ?_;refine jv (.bool false) (aS _ _ _ _ (by rfl) .i64 (n:Int) (n:Int) (by rfl) (by rfl) false (by rw [decide_eq_true (by omega)];rfl)) ?_;refine jz fun X1 hX1=>?_;have hb:Below w.heap.size w X1:=hX1;go_upto_region 3 with fail;refine jp ?_;refine jm (vI 0) ?_;refine jzb hb fun X2 hX2 hb=>?_
 go_wp2
 go_loopw [5] (fun kv wr=>∃ k:Nat,k≤n∧kv=vI k∧Below w.heap.size w wr) (fun kv _=>n-(intOf kv).toNat)
 case atStart=>exact ⟨0,by omega,rfl,hb⟩
 case round =>
  clear hb;obtain ⟨k,hk,rfl,hb⟩:=hrel
  rcases Nat.lt_or_ge k n with hlt|hlt
  ·obtain ⟨b,off,rfl,hbb,hcx⟩:=qYb (HRX.out _ hb) HLN.out hlt
   obtain ⟨b2,off2,rfl,hbb2,hcx2⟩:=qYb (HRY.out _ hb) HLN.out hlt;obtain ⟨x,x9⟩:∃ x,x=yq xs k:=⟨_,rfl⟩;rw [← x9] at hcx hcx2;clear x9;have hcx:Cl wr b (off+k * 3) [.bool (rN x),vS (rP x),vS (rD x)]:=hcx;have hcx2:Cl wr b2 (off2+k * 3) [.bool (rN x),vS (rP x),vS (rD x)]:=hcx2;go_upto_region 4 with fail;refine jp ?_;refine jm (vI k) ?_;refine jm (.slice (some ⟨b,off,none⟩) n c) ?_;refine jv (vI n) (aN Tryz.underlying52 _ (by rfl) (some ⟨b,off,none⟩) n c (by rfl) _ rfl) ?_;refine cP (k:Int) (n:Int) (by omega) ?_;refine jzb hb fun X1 hX1 hb=>?_;have hcx:=hcx.below hX1 hbb;have hcx2:=hcx2.below hX1 hbb2;replace hbb:=Nat.lt_of_lt_of_le hbb (hX1).size;replace hbb2:=Nat.lt_of_lt_of_le hbb2 (hX1).size;go_upto_region 6 with fail;refine jd ?_;refine jm (.slice (some ⟨b,off,none⟩) n c) ?_;refine jm (vI k) ?_;refine jv (vP b (off+k * 3)) (aW Tryz.underlying52 aC _ _ (by rfl) b (off) n c k (by omega) (by rfl) (by rfl) rfl) ?_;refine jg (rt (rN x) (rP x) (rD x)) (fun X hX hF=>cH 26 _ (by rfl) b (off+k * 3) (by rfl) Tryz.underlying26 rfl [.bool (rN x),vS (rP x),vS (rD x)] X (Cl.part (hcx.below hX hbb) 0 _ (by rfl)) aC) ?_;refine jm (.slice (some ⟨b2,off2,none⟩) n c2) ?_;refine jm (vI k) ?_;refine jv (vP b2 (off2+k * 3)) (aW Tryz.underlying52 aC _ _ (by rfl) b2 (off2) n c2 k (by omega) (by rfl) (by rfl) rfl) ?_
   refine jg (rt (rN x) (rP x) (rD x)) (fun X hX hF=>cH 26 _ (by rfl) b2 (off2+k * 3) (by rfl) Tryz.underlying26 rfl [.bool (rN x),vS (rP x),vS (rD x)] X (Cl.part (hcx2.below hX hbb2) 0 _ (by rfl)) aC) ?_;refine jv (.bool false) (sH _ _ (by rfl) (rN x) (rP x) (rD x) (rN x) (rP x) (rD x) (by rfl) (by rfl) false (by simp)) ?_;refine jzb hb fun X2 hX2 hb=>?_;have hcx:=hcx.below hX2 hbb;have hcx2:=hcx2.below hX2 hbb2;replace hbb:=Nat.lt_of_lt_of_le hbb (hX2).size;replace hbb2:=Nat.lt_of_lt_of_le hbb2 (hX2).size;go_upto_region 5 with fail;refine jp ?_;refine jm (vI k) ?_;refine jv (vI ((k+1:Nat):Int)) (aU _ _ _ _ (by rfl) (k:Int) 1 ((k+1:Nat):Int) (by rfl) (by rfl) (by omega) (by omega) (by omega)) ?_;refine jm (vI ((k+1:Nat):Int)) ?_;refine jzb hb fun X3 hX3 hb=>?_
   go_wp2
   go_roundw
   case rel=>exact ⟨k+1,by omega,rfl,hb⟩
   case measure=>simp [intOf];omega
  ·obtain rfl:k=n:=by omega
   go_upto_region 4 with fail;refine jp ?_;refine jm (vI k) ?_;refine jm (.slice A k c) ?_;refine jv (vI k) (aN Tryz.underlying52 _ (by rfl) A k c (by rfl) _ rfl) ?_;refine bS (k:Int) (k:Int) (by omega) ?_;refine jzb hb fun X1 hX1 hb=>?_;go_upto_region 8 with fail;refine jp ?_;refine jm (.bool true) ?_;refine jzb hb fun X2 hX2 hb=>?_
   go_wp2
   go_ret
   exact ⟨rfl,hb⟩
theorem qYm (v v2:Value) (xs:List Int) (w:World) (hv:Ks xs v w) (hv2:Ks xs v2 w):Calls Tryz.prog 24 #[v,v2] w fun e w'=>e=.returned (.bool true)∧Since w w':=by
 obtain ⟨A,n,c,rfl,hln,hn1,hr⟩:=hv.at;clear hv;obtain ⟨A2,n2,c2,rfl,hln2,_,hr2⟩:=hv2.at;clear hv2
 obtain rfl:n=n2:=by rw [← hln];exact hln2
 have HRX:Hid (∀ X,Since w X→Rd X 1 (.slice A n c) n (xs.map I64)):=fun X h=>Rd.below hr h
 have HRY:Hid (∀ X,Since w X→Rd X 1 (.slice A2 n c2) n (xs.map I64)):=fun X h=>Rd.below hr2 h
 have HLN:=Lib.hid hln;clear hr hr2 hln hln2
 go_enter Tryz.func24,Tryz.ntmps24
 go_upto_region 1 with fail;refine jp ?_;refine jm (.slice A n c) ?_;refine jv (vI n) (aN Tryz.underlying58 _ (by rfl) A n c (by rfl) _ rfl) ?_;refine jm (.slice A2 n c2) ?_;refine jv (vI n) (aN Tryz.underlying58 _ (by rfl) A2 n c2 (by rfl) _ rfl) ?_;refine jv (.bool false) (aS _ _ _ _ (by rfl) .i64 (n:Int) (n:Int) (by rfl) (by rfl) false (by rw [decide_eq_true (by omega)];rfl)) ?_;refine jz fun X1 hX1=>?_;have hb:Below w.heap.size w X1:=hX1;go_upto_region 3 with fail;refine jp ?_;refine jm (.slice A n c) ?_;refine jv (vI n) (aN Tryz.underlying58 _ (by rfl) A n c (by rfl) _ rfl) ?_;refine jm (vI 0) ?_;refine jzb hb fun X2 hX2 hb=>?_
 go_wp2
 go_loopw [13] (fun kv wr=>∃ k:Nat,k≤n∧kv=vI k∧Below w.heap.size w wr) (fun kv _=>n-(intOf kv).toNat)
 case atStart=>exact ⟨0,by omega,rfl,hb⟩
 case round =>
  clear hb;obtain ⟨k,hk,rfl,hb⟩:=hrel
  rcases Nat.lt_or_ge k n with hlt|hlt
  ·obtain ⟨b,off,rfl,hbb,hcx⟩:=qYq (HRX.out _ hb) HLN.out hlt
   obtain ⟨b2,off2,rfl,hbb2,hcx2⟩:=qYq (HRY.out _ hb) HLN.out hlt;obtain ⟨x,x9⟩:∃ x,x=wt xs k:=⟨_,rfl⟩;rw [← x9] at hcx hcx2;clear x9;go_upto_region 4 with fail;refine jp ?_;refine cP (k:Int) (n:Int) (by omega) ?_;refine jzb hb fun X1 hX1 hb=>?_;have hcx:=hcx.below hX1 hbb;have hcx2:=hcx2.below hX1 hbb2;replace hbb:=Nat.lt_of_lt_of_le hbb (hX1).size;replace hbb2:=Nat.lt_of_lt_of_le hbb2 (hX1).size;go_upto_region 5 with fail;refine jp ?_;refine jm (vI k) ?_;refine jm (vI k) ?_;refine jzb hb fun X2 hX2 hb=>?_;have hcx:=hcx.below hX2 hbb;have hcx2:=hcx2.below hX2 hbb2;replace hbb:=Nat.lt_of_lt_of_le hbb (hX2).size;replace hbb2:=Nat.lt_of_lt_of_le hbb2 (hX2).size;go_upto_region 6 with fail;refine jd ?_;refine jm (.slice (some ⟨b,off,none⟩) n c) ?_;refine jm (vI k) ?_;refine jv (vP b (off+k * 1)) (aW Tryz.underlying58 qJ _ _ (by rfl) b (off) n c k (by omega) (by rfl) (by rfl) rfl) ?_;refine jg (vI x) (fun X hX hF=>aV 3 _ (by rfl) b (off+k * 1) (by rfl) _ X ((hcx.below hX hbb) 0 _ rfl) (fun X u h=>aB b (off+k * 1) X u h)) ?_;refine jm (.slice (some ⟨b2,off2,none⟩) n c2) ?_;refine jm (vI k) ?_;refine jv (vP b2 (off2+k * 1)) (aW Tryz.underlying58 qJ _ _ (by rfl) b2 (off2) n c2 k (by omega) (by rfl) (by rfl) rfl) ?_;refine jg (vI x) (fun X hX hF=>aV 3 _ (by rfl) b2 (off2+k * 1) (by rfl) _ X ((hcx2.below hX hbb2) 0 _ rfl) (fun X u h=>aB b2 (off2+k * 1) X u h)) ?_
   refine jv (.bool false) (aS _ _ _ _ (by rfl) .i64 x x (by rfl) (by rfl) false (by rw [decide_eq_true (by omega)];rfl)) ?_;refine jzb hb fun X3 hX3 hb=>?_;have hcx:=hcx.below hX3 hbb;have hcx2:=hcx2.below hX3 hbb2;replace hbb:=Nat.lt_of_lt_of_le hbb (hX3).size;replace hbb2:=Nat.lt_of_lt_of_le hbb2 (hX3).size;go_upto_region 8 with fail;refine jp ?_;refine jv (vI ((k+1:Nat):Int)) (aU _ _ _ _ (by rfl) (k:Int) 1 ((k+1:Nat):Int) (by rfl) (by rfl) (by omega) (by omega) (by omega)) ?_;refine jm (vI ((k+1:Nat):Int)) ?_;refine jzb hb fun X4 hX4 hb=>?_
   go_wp2
   go_roundw
   case rel=>exact ⟨k+1,by omega,rfl,hb⟩
   case measure=>simp [intOf];omega
  ·obtain rfl:k=n:=by omega
   go_upto_region 4 with fail;refine jp ?_;refine bS (k:Int) (k:Int) (by omega) ?_;refine jzb hb fun X1 hX1 hb=>?_;go_upto_region 9 with fail;refine jp ?_;refine jm (.bool true) ?_;refine jzb hb fun X2 hX2 hb=>?_
   go_wp2
   go_ret
   exact ⟨rfl,hb⟩
end Go.Proofs.YtffgfkcljcollaaGreatDoor

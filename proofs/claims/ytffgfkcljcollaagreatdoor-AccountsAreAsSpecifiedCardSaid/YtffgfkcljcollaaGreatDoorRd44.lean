/- The reference of layer 44: Reverse, Adjust, Same. -/
import Derived.Test.YtffgfkcljcollaaGreatDoorRc44
set_option linter.unusedSimpArgs false
set_option linter.unusedVariables false
set_option maxRecDepth 100000
set_option maxHeartbeats 1600000
namespace Go.Proofs.YtffgfkcljcollaaGreatDoor
open Go.RowKit
theorem rrv0 (c:Int) (v:Value) (l:List En) (a:Int) (day:Int) (w:World) (hv:Es l v w) (hs:Hid (∀ k,tz (en l k).am.2.1 (en l k).am.2.2 1000000)) (h0:acE c l≠0):Calls Tryz.prog 15 #[.agg #[vI c,v],vI a,vI day] w fun e w'=>∃ u,e=.returned u∧Bo (ifz (rvE c l a day) c) (rvL c l a day) (rvE c l a day) u w'∧Since w w':=by
 obtain ⟨z,z9⟩:∃ z,acE c l=z:=⟨_,rfl⟩;have HZ:=Lib.hid z9
 have hz0:z≠0:=by rw [← z9];exact h0
 clear z9 h0
 have HE:Hid (rvE c l a day=z):=by
  show _=_
  unfold rvE
  rw [HZ.out,if_pos hz0]
 obtain ⟨A,n,cp,rfl,hln,hn1,hr⟩:=hv.at;clear hv;have HRX:=bV hr;have HLN:=Lib.hid hln;clear hr;have HES:=cA HLN HRX
 go_enter Tryz.func15,Tryz.ntmps15
 go_upto_region 1 with fail;obtain ⟨W0,hW0,hB0,hB1,hb⟩:=bL w 24 45 [vI c,.slice A n cp] [vI 0,.slice none 0 0,vI 0];rw [← hW0];clear hW0;refine jp ?_;refine ja hB0 Tryz.underlying24 (by rfl) aE ?_;refine jc (vI z) (fun X hX hF=>mo (fK c _ l X (HES.out X (Since.next hb hX)) hs) (by rw [HZ.out])) ?_;refine jm (vI z) ?_;refine jzb hb fun X1 hX1 hb=>?_;obtain ⟨hB0,hB1⟩:=bl2 hX1 hB0 hB1;go_upto_region 2 with fail;refine jp ?_;refine jm (vI z) ?_;refine jv (.bool true) (aS _ _ _ _ (by rfl) .i64 z 0 (by rfl) (by rfl) true (by rw [decide_eq_false (by omega)];rfl)) ?_;refine jzb hb fun X2 hX2 hb=>?_;obtain ⟨hB0,hB1⟩:=bl2 hX2 hB0 hB1
 have HL:Hid (rvL c l a day=[]):=by
  show _=_
  unfold rvL
  rw [HE.out,if_neg hz0]
 go_upto_region 3 with fail;refine jq 2 ?_;refine jm (vI z) ?_;refine jn (.agg #[vI 0,.slice none 0 0,vI z]) ?_;refine jzb hb fun X3 hX3 hb=>?_;obtain ⟨hB0,hB1⟩:=bl2 hX3 hB0 hB1;refine osb 45 6 17 (w.heap.size+1) 45 hB1 [vI 0,.slice none 0 0,vI z] aR ?_;intro w9 hR9 hO9 hB9 hs9;have hb9:=hB9 _ _ hb (by omega);have hB0:=hO9 _ _ _ (by omega) hB0;clear hO9 hB9
 go_wp2
 refine aL rfl rfl (by rfl) Tryz.underlying45 rfl hR9 aR ⟨_,rfl,⟨.slice none 0 0,by rw [HE.out,show ifz z c=0 from if_neg hz0],by rw [HL.out];exact bW _⟩,hb9⟩
theorem rrv1 (c:Int) (v:Value) (l:List En) (a:Int) (day:Int) (w:World) (hv:Es l v w) (hs:Hid (∀ k,tz (en l k).am.2.1 (en l k).am.2.2 1000000)) (HC:Hid (acE c l=0)) (h:a<0):Calls Tryz.prog 15 #[.agg #[vI c,v],vI a,vI day] w fun e w'=>∃ u,e=.returned u∧Bo (ifz (rvE c l a day) c) (rvL c l a day) (rvE c l a day) u w'∧Since w w':=by
 obtain ⟨A,n,cp,rfl,hln,hn1,hr⟩:=hv.at;clear hv;have HRX:=bV hr;have HLN:=Lib.hid hln;clear hr;have HES:=cA HLN HRX
 go_enter Tryz.func15,Tryz.ntmps15
 go_upto_region 1 with fail;obtain ⟨W0,hW0,hB0,hB1,hb⟩:=bL w 24 45 [vI c,.slice A n cp] [vI 0,.slice none 0 0,vI 0];rw [← hW0];clear hW0;refine jp ?_;refine ja hB0 Tryz.underlying24 (by rfl) aE ?_;refine jc (vI 0) (fun X hX hF=>mo (fK c _ l X (HES.out X (Since.next hb hX)) hs) (by rw [HC.out])) ?_;refine jm (vI 0) ?_;refine jzb hb fun X1 hX1 hb=>?_;obtain ⟨hB0,hB1⟩:=bl2 hX1 hB0 hB1;go_upto_region 2 with fail;refine jp ?_;refine jm (vI 0) ?_;refine jv (.bool false) (aS _ _ _ _ (by rfl) .i64 0 0 (by rfl) (by rfl) false (by rw [decide_eq_true (by omega)];rfl)) ?_;refine jzb hb fun X2 hX2 hb=>?_;obtain ⟨hB0,hB1⟩:=bl2 hX2 hB0 hB1;go_upto_region 4 with fail;refine jp ?_;refine jm (vI a) ?_;refine cP a 0 (by omega) ?_;refine jm (.bool true) ?_;refine js ?_;refine js ?_;refine js ?_;refine js ?_;refine js ?_;refine jm (.bool true) ?_;refine jzb hb fun X3 hX3 hb=>?_;obtain ⟨hB0,hB1⟩:=bl2 hX3 hB0 hB1
 have HE:Hid (rvE c l a day=8):=by
  show _=_
  unfold rvE
  rw [HC.out,if_neg (by decide),if_pos (.inl h)]
 have HL:Hid (rvL c l a day=[]):=by
  show _=_
  unfold rvL
  rw [HE.out,if_neg (by decide)]
 go_upto_region 5 with fail;refine jq 1 ?_;refine jn (.agg #[vI 0,.slice none 0 0,vI 8]) ?_;refine jzb hb fun X4 hX4 hb=>?_;obtain ⟨hB0,hB1⟩:=bl2 hX4 hB0 hB1;refine osb 45 6 27 (w.heap.size+1) 45 hB1 [vI 0,.slice none 0 0,vI 8] aR ?_;intro w9 hR9 hO9 hB9 hs9;have hb9:=hB9 _ _ hb (by omega);have hB0:=hO9 _ _ _ (by omega) hB0;clear hO9 hB9
 go_wp2
 refine aL rfl rfl (by rfl) Tryz.underlying45 rfl hR9 aR ⟨_,rfl,⟨.slice none 0 0,by rw [HE.out];rfl,by rw [HL.out];exact bW _⟩,hb9⟩
theorem rrv2 (c:Int) (v:Value) (l:List En) (a:Int) (day:Int) (w:World) (hv:Es l v w) (hs:Hid (∀ k,tz (en l k).am.2.1 (en l k).am.2.2 1000000)) (HC:Hid (acE c l=0)) (h0:0≤a) (h:(l.length:Int)≤a):Calls Tryz.prog 15 #[.agg #[vI c,v],vI a,vI day] w fun e w'=>∃ u,e=.returned u∧Bo (ifz (rvE c l a day) c) (rvL c l a day) (rvE c l a day) u w'∧Since w w':=by
 obtain ⟨A,n,cp,rfl,hln,hn1,hr⟩:=hv.at;clear hv;have HRX:=bV hr;have HLN:=Lib.hid hln;clear hr;have HES:=cA HLN HRX
 go_enter Tryz.func15,Tryz.ntmps15
 go_upto_region 1 with fail;obtain ⟨W0,hW0,hB0,hB1,hb⟩:=bL w 24 45 [vI c,.slice A n cp] [vI 0,.slice none 0 0,vI 0];rw [← hW0];clear hW0;refine jp ?_;refine ja hB0 Tryz.underlying24 (by rfl) aE ?_;refine jc (vI 0) (fun X hX hF=>mo (fK c _ l X (HES.out X (Since.next hb hX)) hs) (by rw [HC.out])) ?_;refine jm (vI 0) ?_;refine jzb hb fun X1 hX1 hb=>?_;obtain ⟨hB0,hB1⟩:=bl2 hX1 hB0 hB1;go_upto_region 2 with fail;refine jp ?_;refine jm (vI 0) ?_;refine jv (.bool false) (aS _ _ _ _ (by rfl) .i64 0 0 (by rfl) (by rfl) false (by rw [decide_eq_true (by omega)];rfl)) ?_;refine jzb hb fun X2 hX2 hb=>?_;obtain ⟨hB0,hB1⟩:=bl2 hX2 hB0 hB1
 have hn9:(n:Int)≤a:=by rw [← HLN.out];exact h
 go_upto_region 4 with fail;refine jp ?_;refine jm (vI a) ?_;refine bS a 0 (by omega) ?_;refine jm (.bool false) ?_;refine jm (vI a) ?_;refine jn (vP w.heap.size 1) ?_;refine jf _ hB0 1 aK ?_;refine jv (vI n) (aN Tryz.underlying22 _ (by rfl) A n cp (by rfl) _ rfl) ?_;refine fD a (n:Int) (by omega) ?_;refine jm (.bool true) ?_;refine jzb hb fun X3 hX3 hb=>?_;obtain ⟨hB0,hB1⟩:=bl2 hX3 hB0 hB1
 have HE:Hid (rvE c l a day=8):=by
  show _=_
  unfold rvE
  rw [HC.out,if_neg (by decide),if_pos (.inr h)]
 have HL:Hid (rvL c l a day=[]):=by
  show _=_
  unfold rvL
  rw [HE.out,if_neg (by decide)]
 go_upto_region 5 with fail;refine jq 1 ?_;refine jn (.agg #[vI 0,.slice none 0 0,vI 8]) ?_;refine jzb hb fun X4 hX4 hb=>?_;obtain ⟨hB0,hB1⟩:=bl2 hX4 hB0 hB1;refine osb 45 6 27 (w.heap.size+1) 45 hB1 [vI 0,.slice none 0 0,vI 8] aR ?_;intro w9 hR9 hO9 hB9 hs9;have hb9:=hB9 _ _ hb (by omega);have hB0:=hO9 _ _ _ (by omega) hB0;clear hO9 hB9
 go_wp2
 refine aL rfl rfl (by rfl) Tryz.underlying45 rfl hR9 aR ⟨_,rfl,⟨.slice none 0 0,by rw [HE.out];rfl,by rw [HL.out];exact bW _⟩,hb9⟩
theorem rrv3 (c:Int) (v:Value) (l:List En) (k:Nat) (day:Int) (w:World) (hv:Es l v w) (hs:Hid (∀ k,tz (en l k).am.2.1 (en l k).am.2.2 1000000)) (HC:Hid (acE c l=0)) (hk:k<l.length):Calls Tryz.prog 15 #[.agg #[vI c,v],vI k,vI day] w fun e w'=>∃ u,e=.returned u∧Bo (ifz (rvE c l (k:Int) day) c) (rvL c l (k:Int) day) (rvE c l (k:Int) day) u w'∧Since w w':=by
 obtain ⟨A,n,cp,rfl,hln,hn1,hr⟩:=hv.at;clear hv;have HRX:=bV hr;have HLN:=Lib.hid hln;clear hr;have HES:=cA HLN HRX
 have hlt:k<n:=by rw [← hln];exact hk
 have hb:Below w.heap.size w w:=Below.refl _ _;obtain ⟨b,off,rfl,hbb,hcx⟩:=fI (HRX.out _ hb) HLN.out hlt;obtain ⟨x,x9⟩:∃ x,x=en l k:=⟨_,rfl⟩;have HX:=Lib.hid x9;clear x9;rw [← HX.out] at hcx
 change Cl w b (off+k * 13) (eL x) at hcx
 clear hb
 go_enter Tryz.func15,Tryz.ntmps15
 go_upto_region 1 with fail;obtain ⟨W0,hW0,hB0,hB1,hb⟩:=bL w 24 45 [vI c,.slice (some ⟨b,off,none⟩) n cp] [vI 0,.slice none 0 0,vI 0];rw [← hW0];clear hW0;have hcx:=hcx.below hb hbb;replace hbb:=Nat.lt_of_lt_of_le hbb hb.size;refine jp ?_;refine ja hB0 Tryz.underlying24 (by rfl) aE ?_;refine jc (vI 0) (fun X hX hF=>mo (fK c _ l X (HES.out X (Since.next hb hX)) hs) (by rw [HC.out])) ?_;refine jm (vI 0) ?_;refine jzb hb fun X1 hX1 hb=>?_;obtain ⟨hB0,hB1⟩:=bl2 hX1 hB0 hB1;have hcx:=hcx.below hX1 hbb;replace hbb:=Nat.lt_of_lt_of_le hbb (hX1).size;go_upto_region 2 with fail;refine jp ?_;refine jm (vI 0) ?_;refine jv (.bool false) (aS _ _ _ _ (by rfl) .i64 0 0 (by rfl) (by rfl) false (by rw [decide_eq_true (by omega)];rfl)) ?_;refine jzb hb fun X2 hX2 hb=>?_;obtain ⟨hB0,hB1⟩:=bl2 hX2 hB0 hB1;have hcx:=hcx.below hX2 hbb;replace hbb:=Nat.lt_of_lt_of_le hbb (hX2).size;go_upto_region 4 with fail;refine jp ?_;refine jm (vI k) ?_;refine bS (k:Int) 0 (by omega) ?_;refine jm (.bool false) ?_;refine jm (vI k) ?_;refine jn (vP w.heap.size 1) ?_;refine jf _ hB0 1 aK ?_;refine jv (vI n) (aN Tryz.underlying22 _ (by rfl) (some ⟨b,off,none⟩) n cp (by rfl) _ rfl) ?_;refine eD (k:Int) (n:Int) (by omega) ?_;refine jm (.bool false) ?_;refine jzb hb fun X3 hX3 hb=>?_;obtain ⟨hB0,hB1⟩:=bl2 hX3 hB0 hB1;have hcx:=hcx.below hX3 hbb
 replace hbb:=Nat.lt_of_lt_of_le hbb (hX3).size;go_upto_region 6 with fail;refine jq 5 ?_;refine jn (vP w.heap.size 1) ?_;refine jf _ hB0 1 aK ?_;refine jm (vI k) ?_;refine jv (vP b (off+k * 13)) (aW Tryz.underlying22 aI _ _ (by rfl) b (off) n cp k (by omega) (by rfl) (by rfl) rfl) ?_;refine jg (.agg #[vI x.day,vI x.deb,vI x.cre,.bool x.am.1,st x.am.2.1,st x.am.2.2,vI x.kd,vI x.pd,vI x.rf,vI x.w1,vI x.w2,vI x.w3,vI x.w4]) (fun X hX hF=>cH 32 _ (by rfl) b (off+k * 13) (by rfl) Tryz.underlying32 rfl (eL x) X (Cl.part (hcx.below hX hbb) 0 _ (by rfl)) aI) ?_;refine jzb hb fun X4 hX4 hb=>?_;obtain ⟨hB0,hB1⟩:=bl2 hX4 hB0 hB1;have hcx:=hcx.below hX4 hbb;replace hbb:=Nat.lt_of_lt_of_le hbb (hX4).size;go_upto_region 7 with (refine osn 32 8 32 #[vI x.day,vI x.deb,vI x.cre,.bool x.am.1,vS x.am.2.1,vS x.am.2.2,vI x.kd,vI x.pd,vI x.rf,vI x.w1,vI x.w2,vI x.w3,vI x.w4] aI ?_);obtain ⟨Y4,hY9,hD8,hS9⟩:=aQ X4 32 (eL x)
 rw [← hY9];clear hY9;have hgs8:=hb.size;have hlt8x0:=hB0.lt;have hlt8x1:=hB1.lt;have hcx:=hcx.below hS9 hbb;replace hbb:=Nat.lt_of_lt_of_le hbb (hS9).size;obtain ⟨hB0,hB1⟩:=bl2 hS9 hB0 hB1;have hb:=aF hb hS9;clear hS9;generalize X4.heap.size=g8 at *
 obtain hU9|hU9:und l (k:Int)=true∨und l (k:Int)=false:=by cases und l (k:Int) <;> simp
 ·have HU:=Lib.hid hU9
  clear hU9
  have HE:Hid (rvE c l (k:Int) day=4):=by
   show _=_
   unfold rvE
   rw [HC.out,if_neg (by decide),if_neg (by rw [HLN.out];omega),if_pos (.inl HU.out)]
  refine jp ?_;refine jn (vP w.heap.size 1) ?_;refine jf _ hB0 1 aK ?_;refine jm (vI k) ?_;refine jc (.bool true) (fun X hX hF=>mo (vY _ l (k:Int) X (HES.out X (Since.next hb hX))) (by rw [HU.out])) ?_;refine jm (.bool true) ?_;refine jzb hb fun X5 hX5 hb=>?_;obtain ⟨hB0,hB1,hD8⟩:=bl3 hX5 hB0 hB1 hD8;go_upto_region 8 with fail;refine jp ?_;refine jm (.bool true) ?_;refine jm (.bool true) ?_;refine js ?_;refine js ?_;refine js ?_;refine js ?_;refine jm (.bool true) ?_;refine jzb hb fun X6 hX6 hb=>?_;obtain ⟨hB0,hB1,hD8⟩:=bl3 hX6 hB0 hB1 hD8
  have HL:Hid (rvL c l (k:Int) day=[]):=by
   show _=_
   unfold rvL
   rw [HE.out,if_neg (by decide)]
  go_upto_region 9 with fail;refine jq 1 ?_;refine jn (.agg #[vI 0,.slice none 0 0,vI 4]) ?_;refine jzb hb fun X7 hX7 hb=>?_;obtain ⟨hB0,hB1,hD8⟩:=bl3 hX7 hB0 hB1 hD8;refine osb 45 6 44 (w.heap.size+1) 45 hB1 [vI 0,.slice none 0 0,vI 4] aR ?_;intro w9 hR9 hO9 hB9 hs9;have hb9:=hB9 _ _ hb (by omega);have hB0:=hO9 _ _ _ (by omega) hB0;have hD8:=hO9 _ _ _ (by omega) hD8;clear hO9 hB9
  go_wp2
  refine aL rfl rfl (by rfl) Tryz.underlying45 rfl hR9 aR ⟨_,rfl,⟨.slice none 0 0,by rw [HE.out];rfl,by rw [HL.out];exact bW _⟩,hb9⟩
 ·have HU:=Lib.hid hU9
  clear hU9
  by_cases h49:(en l k).kd=4
  ·have h4:=Lib.hid h49
   clear h49
   have h4':x.kd=4:=by rw [HX.out];exact h4.out
   have H4:=Lib.hid h4';clear h4'
   have HE:Hid (rvE c l (k:Int) day=4):=by
    show _=_
    unfold rvE
    rw [HC.out,if_neg (by decide),if_neg (by rw [HLN.out];omega),if_pos (.inr (by rw [Int.toNat_natCast];exact h4.out))]
   refine jp ?_;refine jn (vP w.heap.size 1) ?_;refine jf _ hB0 1 aK ?_;refine jm (vI k) ?_;refine jc (.bool false) (fun X hX hF=>mo (vY _ l (k:Int) X (HES.out X (Since.next hb hX))) (by rw [HU.out])) ?_;refine jm (.bool false) ?_;refine jzb hb fun X5 hX5 hb=>?_;obtain ⟨hB0,hB1,hD8⟩:=bl3 hX5 hB0 hB1 hD8;go_upto_region 8 with fail;refine jp ?_;refine jm (.bool false) ?_;refine jm (.bool false) ?_;refine jn (vP g8 6) ?_;refine jn (vP g8 6) ?_;refine jf _ hD8 6 aB ?_;refine bZ x.kd 4 H4.out ?_;refine jm (.bool true) ?_;refine jzb hb fun X6 hX6 hb=>?_;obtain ⟨hB0,hB1,hD8⟩:=bl3 hX6 hB0 hB1 hD8
   have HL:Hid (rvL c l (k:Int) day=[]):=by
    show _=_
    unfold rvL
    rw [HE.out,if_neg (by decide)]
   go_upto_region 9 with fail;refine jq 1 ?_;refine jn (.agg #[vI 0,.slice none 0 0,vI 4]) ?_;refine jzb hb fun X7 hX7 hb=>?_;obtain ⟨hB0,hB1,hD8⟩:=bl3 hX7 hB0 hB1 hD8;refine osb 45 6 44 (w.heap.size+1) 45 hB1 [vI 0,.slice none 0 0,vI 4] aR ?_;intro w9 hR9 hO9 hB9 hs9;have hb9:=hB9 _ _ hb (by omega);have hB0:=hO9 _ _ _ (by omega) hB0;have hD8:=hO9 _ _ _ (by omega) hD8;clear hO9 hB9
   go_wp2
   refine aL rfl rfl (by rfl) Tryz.underlying45 rfl hR9 aR ⟨_,rfl,⟨.slice none 0 0,by rw [HE.out];rfl,by rw [HL.out];exact bW _⟩,hb9⟩
  ·have h4:=h49
   clear h49
   rcases (show (day<0∨14609<day)∨(0≤day∧day≤14609) by omega) with hy|hy
   ·have h4':x.kd≠4:=by rw [HX.out];exact h4
    have HD:Hid ((decide (0≤day) && decide (day≤14609))=false):=by
     show _=_
     rcases hy with h9|h9
     ·rw [decide_eq_false (show ¬ 0≤day by omega)];rfl
     ·rw [decide_eq_false (show ¬ day≤14609 by omega),Bool.and_false]
    have HE:Hid (rvE c l (k:Int) day=3):=by
     show _=_
     unfold rvE
     rw [HC.out,if_neg (by decide),if_neg (by rw [HLN.out];omega),if_neg (by rw [Int.toNat_natCast];rintro (h9|h9);rw [HU.out] at h9;cases h9;exact h4 h9),if_pos hy]
    refine jp ?_;refine jn (vP w.heap.size 1) ?_;refine jf _ hB0 1 aK ?_;refine jm (vI k) ?_;refine jc (.bool false) (fun X hX hF=>mo (vY _ l (k:Int) X (HES.out X (Since.next hb hX))) (by rw [HU.out])) ?_;refine jm (.bool false) ?_;refine jzb hb fun X5 hX5 hb=>?_;obtain ⟨hB0,hB1,hD8⟩:=bl3 hX5 hB0 hB1 hD8;go_upto_region 8 with fail;refine jp ?_;refine jm (.bool false) ?_;refine jm (.bool false) ?_;refine jn (vP g8 6) ?_;refine jn (vP g8 6) ?_;refine jf _ hD8 6 aB ?_;refine cC x.kd 4 (by omega) ?_;refine jm (.bool false) ?_;refine jzb hb fun X6 hX6 hb=>?_;obtain ⟨hB0,hB1,hD8⟩:=bl3 hX6 hB0 hB1 hD8;go_upto_region 10 with fail;refine jp ?_;refine jm (vI day) ?_;refine jc (.bool false) (fun X hX hF=>mo (iV day X) (by rw [HD.out])) ?_;refine jm (.bool false) ?_;refine jzb hb fun X7 hX7 hb=>?_;obtain ⟨hB0,hB1,hD8⟩:=bl3 hX7 hB0 hB1 hD8;go_upto_region 11 with fail;refine jp ?_;refine jm (.bool false) ?_;refine jm (.bool true) ?_;refine jzb hb fun X8 hX8 hb=>?_;obtain ⟨hB0,hB1,hD8⟩:=bl3 hX8 hB0 hB1 hD8
    have HL:Hid (rvL c l (k:Int) day=[]):=by
     show _=_
     unfold rvL
     rw [HE.out,if_neg (by decide)]
    go_upto_region 12 with fail;refine jq 1 ?_;refine jn (.agg #[vI 0,.slice none 0 0,vI 3]) ?_;refine jzb hb fun X9 hX9 hb=>?_;obtain ⟨hB0,hB1,hD8⟩:=bl3 hX9 hB0 hB1 hD8;refine osb 45 6 49 (w.heap.size+1) 45 hB1 [vI 0,.slice none 0 0,vI 3] aR ?_;intro w9 hR9 hO9 hB9 hs9;have hb9:=hB9 _ _ hb (by omega);have hB0:=hO9 _ _ _ (by omega) hB0;have hD8:=hO9 _ _ _ (by omega) hD8;clear hO9 hB9
    go_wp2
    refine aL rfl rfl (by rfl) Tryz.underlying45 rfl hR9 aR ⟨_,rfl,⟨.slice none 0 0,by rw [HE.out];rfl,by rw [HL.out];exact bW _⟩,hb9⟩
   ·have h4':x.kd≠4:=by rw [HX.out];exact h4
    have HD:Hid ((decide (0≤day) && decide (day≤14609))=true):=by
     show _=_
     rw [decide_eq_true hy.1,decide_eq_true hy.2];rfl
    obtain ⟨q,q9⟩:∃ q,q=dD l (opp x (k:Int) day):=⟨_,rfl⟩;have HQ:=Lib.hid q9;clear q9
    have HE:Hid (rvE c l (k:Int) day=q):=by
     show _=_
     unfold rvE
     rw [HC.out,if_neg (by decide),if_neg (by rw [HLN.out];omega),if_neg (by rw [Int.toNat_natCast];rintro (h9|h9);rw [HU.out] at h9;cases h9;exact h4 h9),if_neg (by omega),Int.toNat_natCast,← HX.out,HQ.out]
    have HL:Hid (rvL c l (k:Int) day=wiL l (opp x (k:Int) day)):=by
     show _=_
     unfold rvL wiL
     rw [HE.out,← HQ.out,Int.toNat_natCast,← HX.out]
    refine jp ?_;refine jn (vP w.heap.size 1) ?_;refine jf _ hB0 1 aK ?_;refine jm (vI k) ?_;refine jc (.bool false) (fun X hX hF=>mo (vY _ l (k:Int) X (HES.out X (Since.next hb hX))) (by rw [HU.out])) ?_;refine jm (.bool false) ?_;refine jzb hb fun X5 hX5 hb=>?_;obtain ⟨hB0,hB1,hD8⟩:=bl3 hX5 hB0 hB1 hD8;go_upto_region 8 with fail;refine jp ?_;refine jm (.bool false) ?_;refine jm (.bool false) ?_;refine jn (vP g8 6) ?_;refine jn (vP g8 6) ?_;refine jf _ hD8 6 aB ?_;refine cC x.kd 4 (by omega) ?_;refine jm (.bool false) ?_;refine jzb hb fun X6 hX6 hb=>?_;obtain ⟨hB0,hB1,hD8⟩:=bl3 hX6 hB0 hB1 hD8;go_upto_region 10 with fail;refine jp ?_;refine jm (vI day) ?_;refine jc (.bool true) (fun X hX hF=>mo (iV day X) (by rw [HD.out])) ?_;refine jm (.bool true) ?_;refine jzb hb fun X7 hX7 hb=>?_;obtain ⟨hB0,hB1,hD8⟩:=bl3 hX7 hB0 hB1 hD8;go_upto_region 11 with fail;refine jp ?_;refine jm (.bool true) ?_;refine jm (.bool false) ?_;refine jzb hb fun X8 hX8 hb=>?_;obtain ⟨hB0,hB1,hD8⟩:=bl3 hX8 hB0 hB1 hD8;go_upto_region 13 with fail;refine jq 8 ?_;refine jn (vP g8 6) ?_;refine jn (vP g8 7) ?_;refine jf _ hD8 7 aB ?_;refine jm (vI k) ?_;refine jn (vP g8 6) ?_;refine jn (vP g8 9) ?_;refine jg (.agg #[vI x.w1,vI x.w2,vI x.w3,vI x.w4]) (fun X hX hF=>aP 28 _ (by rfl) g8 9 [vI x.w1,vI x.w2,vI x.w3,vI x.w4] (by rfl) Tryz.underlying28 rfl X (hD8.bel hX) (by rfl) dX) ?_
    refine jn (.agg #[vI 4,vI x.pd,vI k,vI x.w1,vI x.w2,vI x.w3,vI x.w4]) ?_;refine jzb hb fun X9 hX9 hb=>?_;obtain ⟨hB0,hB1,hD8⟩:=bl3 hX9 hB0 hB1 hD8;go_upto_region 14 with (refine osn 30 11 57 #[vI 4,vI x.pd,vI k,vI x.w1,vI x.w2,vI x.w3,vI x.w4] jN ?_);obtain ⟨Y9,hY9,hD11,hS9⟩:=aQ X9 30 [vI 4,vI x.pd,vI k,vI x.w1,vI x.w2,vI x.w3,vI x.w4];rw [← hY9];clear hY9;have hgs11:=hb.size;have hlt11x0:=hB0.lt;have hlt11x1:=hB1.lt;have hlt11x2:=hD8.lt;obtain ⟨hB0,hB1,hD8⟩:=bl3 hS9 hB0 hB1 hD8;have hb:=aF hb hS9;clear hS9;generalize X9.heap.size=g11 at *;refine aZ 11 [none,none,none,none,none,none,none,none,none,none,some (Bo (ifz q c) (wiL l (opp x (k:Int) day)) q)] (aA (aA (aA (aA (aA (aA (aA (aA (aA (aA (aD (Bo.lasts _ _ _) (aG)))))))))))) ?_;simp only [its,List.take,List.drop,Nat.zero_add,Nat.reduceAdd];refine ja hB0 Tryz.underlying24 (by rfl) aE ?_;refine jm (vI day) ?_;refine jn (vP g8 2) ?_;refine jf _ hD8 2 aB ?_;refine jn (vP g8 1) ?_;refine jf _ hD8 1 aB ?_;refine jn (vP g8 3) ?_;refine jg (.agg #[.bool x.am.1,st x.am.2.1,st x.am.2.2]) (fun X hX hF=>aP 26 _ (by rfl) g8 3 [.bool x.am.1,vS x.am.2.1,vS x.am.2.2] (by rfl) Tryz.underlying26 rfl X (hD8.bel hX) (by rfl) aC) ?_
    refine ja hD11 Tryz.underlying30 (by rfl) jN ?_;refine jn (.agg #[vI day,vI x.cre,vI x.deb,.bool x.am.1,st x.am.2.1,st x.am.2.2,vI 4,vI x.pd,vI k,vI x.w1,vI x.w2,vI x.w3,vI x.w4]) ?_;refine jk (fun X hX hF=>by rw [HQ.out];exact xR c _ l (opp x (k:Int) day) X (HES.out X (Since.next hb hX))) ?_;intro v68;refine aM ?_;intro X10 hX10 hF;have hv68:=hF _ _ List.mem_cons_self;obtain ⟨hB0,hB1,hD8,hD11⟩:=bl4 hX10 hB0 hB1 hD8 hD11;have hb:=aF hb hX10;clear hF hX10;obtain ⟨u9,rfl,hu9⟩:=hv68;obtain ⟨A9,c9,rfl⟩:=Es.form hu9;refine bB rfl 45 (.tmp 6) (.tmp 68) rfl (w.heap.size+1) 45 _ hB1 rfl [vI (ifz q c),.slice A9 ((wiL l (opp x (k:Int) day))).length c9,vI q] rfl (by rfl) (by intro u hu;simp only [List.mem_cons,List.not_mem_nil,or_false] at hu;rcases hu with rfl|rfl|rfl <;> rfl) aR ?_;intro w9 hR9 hG9;have hb:=aY hG9 hb hb.size (by omega);have hu9:=Es.grown hG9 hu9 hB1
    go_wp2
    refine aL rfl rfl (by rfl) Tryz.underlying45 rfl hR9 aR ⟨_,rfl,⟨_,by rw [HE.out],by rw [HL.out];exact hu9⟩,hb⟩
theorem rrvC (c:Int) (v:Value) (l:List En) (a:Int) (day:Int) (w:World) (hv:Es l v w) (hs:Hid (∀ k,tz (en l k).am.2.1 (en l k).am.2.2 1000000)):Calls Tryz.prog 15 #[.agg #[vI c,v],vI a,vI day] w fun e w'=>∃ u,e=.returned u∧Bo (ifz (rvE c l a day) c) (rvL c l a day) (rvE c l a day) u w'∧Since w w':=by
 by_cases h0:acE c l=0
 ·rcases (show a<0∨(0≤a∧(l.length:Int)≤a)∨(0≤a∧a<(l.length:Int)) by omega) with h|h|h
  ·exact rrv1 c v l a day w hv hs h0 h
  ·exact rrv2 c v l a day w hv hs h0 h.1 h.2
  ·obtain ⟨k,rfl⟩:∃ k:Nat,a=(k:Int):=⟨a.toNat,by omega⟩
   have hk:k<l.length:=by omega
   exact rrv3 c v l k day w hv hs h0 hk
 ·exact rrv0 c v l a day w hv hs h0
theorem adj_z {q:Aj} (h:trq q.am=0):adj q=⟨q.day,q.ac,q.ag,tr 1,3,q.pd,-1,q.w1,q.w2,q.w3,q.w4⟩:=if_pos h
theorem adj_n {q:Aj} (h0:¬ trq q.am=0) (h:trq q.am<0):adj q=⟨q.day,q.ag,q.ac,tr (-trq q.am),3,q.pd,-1,q.w1,q.w2,q.w3,q.w4⟩:=(if_neg h0).trans (if_pos h)
theorem adj_p {q:Aj} (h0:¬ trq q.am=0) (h:¬ trq q.am<0):adj q=⟨q.day,q.ac,q.ag,q.am,3,q.pd,-1,q.w1,q.w2,q.w3,q.w4⟩:=(if_neg h0).trans (if_neg h)
theorem yC {x:Rat} (h:rN x=true):x<0:=by
 unfold rN at h
 rw [decide_eq_true_eq] at h
 rcases Rat.le_total (a:=0) (b:=x) with h1|h1
 ·exact absurd (Rat.num_nonneg.2 h1) (by omega)
 ·refine Rat.lt_of_le_of_ne h1 ?_
  intro h2;rw [h2] at h;exact absurd h (by decide)
theorem rN_ge {x:Rat} (h:rN x=false):¬ x<0:=by
 unfold rN at h
 rw [decide_eq_false_iff_not,Int.not_lt] at h;exact Rat.not_lt.2 (Rat.num_nonneg.1 h)
theorem qZa {n:Bool} {p q:List UInt8} (hv:vd n p q=true) (hn:n=true):tr (-(rq n p q))=(false,p,q):=by
 obtain ⟨h1,h2,h3,_⟩:=iN hv;have h4:decide ((rq n p q).num<0)=true:=h1.trans hn;rw [decide_eq_true_eq] at h4
 have e1:rN (-(rq n p q))=false:=by
  unfold rN
  rw [decide_eq_false_iff_not,Rat.neg_num]
  omega
 have e2:rP (-(rq n p q))=rP (rq n p q):=by
  show be (-(rq n p q)).num.natAbs=be (rq n p q).num.natAbs
  rw [Rat.neg_num,Int.natAbs_neg]
 have e3:rD (-(rq n p q))=rD (rq n p q):=by
  unfold rD
  rw [Rat.neg_num,Rat.neg_den]
  simp
 unfold tr
 rw [e1,e2,e3,h2,h3]
theorem zq9 {p q:List UInt8} (h:(false == false && p == [] && q == [])=true):rq false p q=0:=by
 simp only [Bool.and_eq_true,beq_iff_eq] at h;obtain ⟨⟨_,rfl⟩,rfl⟩:=h;exact jL
theorem zv9 {p q:List UInt8} (h:(false == false && p == [] && q == [])=true):vd false p q=true:=by
 simp only [Bool.and_eq_true,beq_iff_eq] at h;obtain ⟨⟨_,rfl⟩,rfl⟩:=h;exact uG
theorem tz_tr {x:Rat} {B:Nat} (h:szR x B):tz (tr x).2.1 (tr x).2.2 B:=tzR h (Nat.le_refl _)
theorem raj0 (c:Int) (v:Value) (l:List En) (day ac ag pd w1 w2 w3 w4:Int) (g:Bool) (nn dd:List UInt8) (w:World) (hv:Es l v w) (hs:Hid (∀ k,tz (en l k).am.2.1 (en l k).am.2.2 1000000)) (hqs:tz nn dd 1000000) (h0:acE c l≠0):Calls Tryz.prog 17 #[.agg #[vI c,v],.agg #[vI day,vI ac,vI ag,vI pd,.bool g,vS nn,vS dd,vI w1,vI w2,vI w3,vI w4]] w fun e w'=>∃ u,e=.returned u∧Bo (ifz (ajE c l (⟨day,ac,ag,pd,(g,nn,dd),w1,w2,w3,w4⟩:Aj)) c) (ajL c l (⟨day,ac,ag,pd,(g,nn,dd),w1,w2,w3,w4⟩:Aj)) (ajE c l (⟨day,ac,ag,pd,(g,nn,dd),w1,w2,w3,w4⟩:Aj)) u w'∧Since w w':=by
 obtain ⟨z,z9⟩:∃ z,acE c l=z:=⟨_,rfl⟩;have HZ:=Lib.hid z9
 have hz0:z≠0:=by rw [← z9];exact h0
 clear z9 h0
 have HE:Hid (ajE c l (⟨day,ac,ag,pd,(g,nn,dd),w1,w2,w3,w4⟩:Aj)=z):=by
  show _=_
  unfold ajE
  rw [HZ.out,if_pos hz0]
 obtain ⟨A,n,cp,rfl,hln,hn1,hr⟩:=hv.at;clear hv;have HRX:=bV hr;have HLN:=Lib.hid hln;clear hr;have HES:=cA HLN HRX
 go_enter Tryz.func17,Tryz.ntmps17
 go_upto_region 1 with fail;obtain ⟨W0,hW0,hB0,hB1,hB2,hb⟩:=bO w 24 34 45 [vI c,.slice A n cp] [vI day,vI ac,vI ag,vI pd,.bool g,vS nn,vS dd,vI w1,vI w2,vI w3,vI w4] [vI 0,.slice none 0 0,vI 0];rw [← hW0];clear hW0;refine jp ?_;refine ja hB0 Tryz.underlying24 (by rfl) aE ?_;refine jc (vI z) (fun X hX hF=>mo (fK c _ l X (HES.out X (Since.next hb hX)) hs) (by rw [HZ.out])) ?_;refine jm (vI z) ?_;refine jzb hb fun X1 hX1 hb=>?_;obtain ⟨hB0,hB1,hB2⟩:=bl3 hX1 hB0 hB1 hB2;go_upto_region 2 with fail;refine jp ?_;refine jm (vI z) ?_;refine jv (.bool true) (aS _ _ _ _ (by rfl) .i64 z 0 (by rfl) (by rfl) true (by rw [decide_eq_false (by omega)];rfl)) ?_;refine jzb hb fun X2 hX2 hb=>?_;obtain ⟨hB0,hB1,hB2⟩:=bl3 hX2 hB0 hB1 hB2
 have HL:Hid (ajL c l (⟨day,ac,ag,pd,(g,nn,dd),w1,w2,w3,w4⟩:Aj)=[]):=by
  show _=_
  unfold ajL
  rw [HE.out,if_neg hz0]
 go_upto_region 3 with fail;refine jq 2 ?_;refine jm (vI z) ?_;refine jn (.agg #[vI 0,.slice none 0 0,vI z]) ?_;refine jzb hb fun X3 hX3 hb=>?_;obtain ⟨hB0,hB1,hB2⟩:=bl3 hX3 hB0 hB1 hB2;refine osb 45 4 16 (w.heap.size+2) 45 hB2 [vI 0,.slice none 0 0,vI z] aR ?_;intro w9 hR9 hO9 hB9 hs9;have hb9:=hB9 _ _ hb (by omega);have hB0:=hO9 _ _ _ (by omega) hB0;have hB1:=hO9 _ _ _ (by omega) hB1;clear hO9 hB9
 go_wp2
 refine aL rfl rfl (by rfl) Tryz.underlying45 rfl hR9 aR ⟨_,rfl,⟨.slice none 0 0,by rw [HE.out,show ifz z c=0 from if_neg hz0],by rw [HL.out];exact bW _⟩,hb9⟩
theorem rajz (c:Int) (v:Value) (l:List En) (day ac ag pd w1 w2 w3 w4:Int) (nn dd:List UInt8) (w:World) (hv:Es l v w) (hs:Hid (∀ k,tz (en l k).am.2.1 (en l k).am.2.2 1000000)) (hqs:tz nn dd 1000000) (HC:Hid (acE c l=0)) (HZ9:Hid ((false == false && nn == [] && dd == [])=true)):Calls Tryz.prog 17 #[.agg #[vI c,v],.agg #[vI day,vI ac,vI ag,vI pd,.bool false,vS nn,vS dd,vI w1,vI w2,vI w3,vI w4]] w fun e w'=>∃ u,e=.returned u∧Bo (ifz (ajE c l (⟨day,ac,ag,pd,(false,nn,dd),w1,w2,w3,w4⟩:Aj)) c) (ajL c l (⟨day,ac,ag,pd,(false,nn,dd),w1,w2,w3,w4⟩:Aj)) (ajE c l (⟨day,ac,ag,pd,(false,nn,dd),w1,w2,w3,w4⟩:Aj)) u w'∧Since w w':=by
 obtain ⟨A,n,cp,rfl,hln,hn1,hr⟩:=hv.at;clear hv;have HRX:=bV hr;have HLN:=Lib.hid hln;clear hr;have HES:=cA HLN HRX
 go_enter Tryz.func17,Tryz.ntmps17
 go_upto_region 1 with fail;obtain ⟨W0,hW0,hB0,hB1,hB2,hb⟩:=bO w 24 34 45 [vI c,.slice A n cp] [vI day,vI ac,vI ag,vI pd,.bool false,vS nn,vS dd,vI w1,vI w2,vI w3,vI w4] [vI 0,.slice none 0 0,vI 0];rw [← hW0];clear hW0;refine jp ?_;refine ja hB0 Tryz.underlying24 (by rfl) aE ?_;refine jc (vI 0) (fun X hX hF=>mo (fK c _ l X (HES.out X (Since.next hb hX)) hs) (by rw [HC.out])) ?_;refine jm (vI 0) ?_;refine jzb hb fun X1 hX1 hb=>?_;obtain ⟨hB0,hB1,hB2⟩:=bl3 hX1 hB0 hB1 hB2;go_upto_region 2 with fail;refine jp ?_;refine jm (vI 0) ?_;refine jv (.bool false) (aS _ _ _ _ (by rfl) .i64 0 0 (by rfl) (by rfl) false (by rw [decide_eq_true (by omega)];rfl)) ?_;refine jzb hb fun X2 hX2 hb=>?_;obtain ⟨hB0,hB1,hB2⟩:=bl3 hX2 hB0 hB1 hB2;go_upto_region 4 with fail;refine jq 14 ?_;refine jn (vP (w.heap.size+1) 0) ?_;refine jf _ hB1 0 aB ?_;refine jn (vP (w.heap.size+1) 1) ?_;refine jf _ hB1 1 aB ?_;refine jn (vP (w.heap.size+1) 2) ?_;refine jf _ hB1 2 aB ?_;refine jn (vP (w.heap.size+1) 4) ?_;refine jg (rt false nn dd) (fun X hX hF=>aP 26 _ (by rfl) (w.heap.size+1) 4 [.bool false,vS nn,vS dd] (by rfl) Tryz.underlying26 rfl X (hB1.bel hX) (by rfl) aC) ?_;refine jn (vP (w.heap.size+1) 3) ?_
 refine jf _ hB1 3 aB ?_;refine jn (vP (w.heap.size+1) 7) ?_;refine jg (.agg #[vI w1,vI w2,vI w3,vI w4]) (fun X hX hF=>aP 28 _ (by rfl) (w.heap.size+1) 7 [vI w1,vI w2,vI w3,vI w4] (by rfl) Tryz.underlying28 rfl X (hB1.bel hX) (by rfl) dX) ?_;refine jn (.agg #[vI 3,vI pd,vI (-1),vI w1,vI w2,vI w3,vI w4]) ?_;refine jn (.agg #[vI day,vI ac,vI ag,.bool false,st nn,st dd,vI 3,vI pd,vI (-1),vI w1,vI w2,vI w3,vI w4]) ?_;refine jzb hb fun X3 hX3 hb=>?_;obtain ⟨hB0,hB1,hB2⟩:=bl3 hX3 hB0 hB1 hB2;go_upto_region 5 with (refine osn 32 6 30 #[vI day,vI ac,vI ag,.bool false,vS nn,vS dd,vI 3,vI pd,vI (-1),vI w1,vI w2,vI w3,vI w4] aI ?_);obtain ⟨Y3,hY9,hD6,hS9⟩:=aQ X3 32 [vI day,vI ac,vI ag,.bool false,vS nn,vS dd,vI 3,vI pd,vI (-1),vI w1,vI w2,vI w3,vI w4];rw [← hY9];clear hY9;have hgs6:=hb.size;have hlt6x0:=hB0.lt;have hlt6x1:=hB1.lt;have hlt6x2:=hB2.lt;obtain ⟨hB0,hB1,hB2⟩:=bl3 hS9 hB0 hB1 hB2;have hb:=aF hb hS9;clear hS9;generalize X3.heap.size=g6 at *;refine jp ?_;refine jn (vP (w.heap.size+1) 4) ?_
 refine jn (vP (w.heap.size+1) 4) ?_;refine jf _ hB1 4 aT ?_;refine jzb hb fun X4 hX4 hb=>?_;obtain ⟨hB0,hB1,hB2,hD6⟩:=bl4 hX4 hB0 hB1 hB2 hD6;go_upto_region 9 with fail;refine jp ?_;refine jn (vP (w.heap.size+1) 4) ?_;refine jg (rt false nn dd) (fun X hX hF=>aP 26 _ (by rfl) (w.heap.size+1) 4 [.bool false,vS nn,vS dd] (by rfl) Tryz.underlying26 rfl X (hB1.bel hX) (by rfl) aC) ?_;refine jn (rz) ?_;refine jv (.bool true) (cI _ _ (by rfl) false nn dd false [] [] (by rfl) (by rfl) true HZ9.out) ?_;refine jm (.bool true) ?_;refine jzb hb fun X5 hX5 hb=>?_;obtain ⟨hB0,hB1,hB2,hD6⟩:=bl4 hX5 hB0 hB1 hB2 hD6;go_upto_region 10 with fail;refine jp ?_;refine jm (.bool true) ?_;refine jzb hb fun X6 hX6 hb=>?_;obtain ⟨hB0,hB1,hB2,hD6⟩:=bl4 hX6 hB0 hB1 hB2 hD6;go_upto_region 11 with fail;refine jq 2 ?_;refine jc (rt (rN (1:Rat)) (rP (1:Rat)) (rD (1:Rat))) (fun X hX hF=>mo (intS (1) X (by decide)) (by rw [int1])) ?_;refine jn (vP g6 3) ?_;refine jzb hb fun X7 hX7 hb=>?_;obtain ⟨hB0,hB1,hB2,hD6⟩:=bl4 hX7 hB0 hB1 hB2 hD6;refine fC rfl 26 (.tmp 48) (.tmp 47) rfl g6 32 _ hD6 3 rfl [.bool (rN (1:Rat)),vS (rP (1:Rat)),vS (rD (1:Rat))] rfl (by simp) (by intro u hu;simp only [List.mem_cons,List.not_mem_nil,or_false] at hu;rcases hu with rfl|rfl|rfl <;> rfl) aC ?_;intro w11s hR9 hG9 hs9
 change Blk w11s g6 32 [vI day,vI ac,vI ag,.bool (rN (1:Rat)),vS (rP (1:Rat)),vS (rD (1:Rat)),vI 3,vI pd,vI (-1),vI w1,vI w2,vI w3,vI w4] at hR9
 have hb:=aY hG9 hb hb.size (by omega);replace hB0:=aO hG9 hB0 (by omega);replace hB1:=aO hG9 hB1 (by omega);replace hB2:=aO hG9 hB2 (by omega);have hD6:=hR9;clear hR9 hG9 hs9;refine wpList_nil ?_;have hxs:tz ((⟨day,ac,ag,tr 1,3,pd,-1,w1,w2,w3,w4⟩:En)).am.2.1 ((⟨day,ac,ag,tr 1,3,pd,-1,w1,w2,w3,w4⟩:En)).am.2.2 1000000:=tz_tr ((pQ (n:=1) (by decide)).mono (by decide));have HV:=Lib.hid (zv9 HZ9.out)
 have HA:Hid (adj (⟨day,ac,ag,pd,(false,nn,dd),w1,w2,w3,w4⟩:Aj)=(⟨day,ac,ag,tr 1,3,pd,-1,w1,w2,w3,w4⟩:En)):=by
  show _=_
  exact adj_z (q:=(⟨day,ac,ag,pd,(false,nn,dd),w1,w2,w3,w4⟩:Aj)) (show rq false nn dd=0 from zq9 HZ9.out)
 obtain hR9|hR9:rgt c l.length (adj (⟨day,ac,ag,pd,(false,nn,dd),w1,w2,w3,w4⟩:Aj))=false∨rgt c l.length (adj (⟨day,ac,ag,pd,(false,nn,dd),w1,w2,w3,w4⟩:Aj))=true:=by cases rgt c l.length (adj (⟨day,ac,ag,pd,(false,nn,dd),w1,w2,w3,w4⟩:Aj)) <;> simp
 ·have HR:=Lib.hid hR9
  clear hR9
  have HR2:Hid (∀ n,l.length=n→rgt c n (⟨day,ac,ag,tr 1,3,pd,-1,w1,w2,w3,w4⟩:En)=false):=fun n h=>by rw [← h,← HA.out];exact HR.out
  have HE:Hid (ajE c l (⟨day,ac,ag,pd,(false,nn,dd),w1,w2,w3,w4⟩:Aj)=1):=by
   show _=_
   unfold ajE
   rw [HC.out,if_neg (by decide),if_pos (.inr HR.out)]
  go_upto_region 12 with fail;refine jp ?_;refine jn (vP (w.heap.size+1) 4) ?_;refine jg (rt false nn dd) (fun X hX hF=>aP 26 _ (by rfl) (w.heap.size+1) 4 [.bool false,vS nn,vS dd] (by rfl) Tryz.underlying26 rfl X (hB1.bel hX) (by rfl) aC) ?_;refine jc (.bool true) (fun X hX hF=>mo (mK false nn dd X (Nat.le_trans hqs.1 (by decide)) (Nat.le_trans hqs.2 (by decide))) (by rw [HV.out])) ?_;refine jm (.bool true) ?_;refine jzb hb fun X8 hX8 hb=>?_;obtain ⟨hB0,hB1,hB2,hD6⟩:=bl4 hX8 hB0 hB1 hB2 hD6;go_upto_region 13 with fail;refine jp ?_;refine ja hB0 Tryz.underlying24 (by rfl) aE ?_;refine ja hD6 Tryz.underlying32 (by rfl) aI ?_;refine jc (.bool false) (fun X hX hF=>mo (kS c A n cp (⟨day,ac,ag,tr 1,3,pd,-1,w1,w2,w3,w4⟩:En) X hn1 hxs) (by rw [HR2.out n HLN.out])) ?_;refine jm (.bool false) ?_;refine jzb hb fun X9 hX9 hb=>?_;obtain ⟨hB0,hB1,hB2,hD6⟩:=bl4 hX9 hB0 hB1 hB2 hD6;go_upto_region 14 with fail;refine jp ?_;refine jm (.bool true) ?_;refine jm (.bool false) ?_;refine jm (.bool false) ?_;refine jm (.bool false) ?_;refine jm (.bool true) ?_;refine jm (.bool true) ?_;refine jzb hb fun X10 hX10 hb=>?_;obtain ⟨hB0,hB1,hB2,hD6⟩:=bl4 hX10 hB0 hB1 hB2 hD6
  have HL:Hid (ajL c l (⟨day,ac,ag,pd,(false,nn,dd),w1,w2,w3,w4⟩:Aj)=[]):=by
   show _=_
   unfold ajL
   rw [HE.out,if_neg (by decide)]
  go_upto_region 15 with fail;refine jq 1 ?_;refine jn (.agg #[vI 0,.slice none 0 0,vI 1]) ?_;refine jzb hb fun X11 hX11 hb=>?_;obtain ⟨hB0,hB1,hB2,hD6⟩:=bl4 hX11 hB0 hB1 hB2 hD6;refine osb 45 4 61 (w.heap.size+2) 45 hB2 [vI 0,.slice none 0 0,vI 1] aR ?_;intro w9 hR9 hO9 hB9 hs9;have hb9:=hB9 _ _ hb (by omega);have hB0:=hO9 _ _ _ (by omega) hB0;have hB1:=hO9 _ _ _ (by omega) hB1;have hD6:=hO9 _ _ _ (by omega) hD6;clear hO9 hB9
  go_wp2
  refine aL rfl rfl (by rfl) Tryz.underlying45 rfl hR9 aR ⟨_,rfl,⟨.slice none 0 0,by rw [HE.out];rfl,by rw [HL.out];exact bW _⟩,hb9⟩
 ·have HR:=Lib.hid hR9
  clear hR9
  have HR2:Hid (∀ n,l.length=n→rgt c n (⟨day,ac,ag,tr 1,3,pd,-1,w1,w2,w3,w4⟩:En)=true):=fun n h=>by rw [← h,← HA.out];exact HR.out
  obtain ⟨q0,q9⟩:∃ q0,q0=dD l (⟨day,ac,ag,tr 1,3,pd,-1,w1,w2,w3,w4⟩:En):=⟨_,rfl⟩;have HQ:=Lib.hid q9;clear q9
  have HE:Hid (ajE c l (⟨day,ac,ag,pd,(false,nn,dd),w1,w2,w3,w4⟩:Aj)=q0):=by
   show _=_
   unfold ajE
   rw [HC.out,if_neg (by decide),if_neg (by rw [HR.out];simp [show vd false nn dd=true from HV.out]),HA.out,HQ.out]
  have HWL:Hid (wiL l (⟨day,ac,ag,tr 1,3,pd,-1,w1,w2,w3,w4⟩:En)=if q0=0 then l++[(⟨day,ac,ag,tr 1,3,pd,-1,w1,w2,w3,w4⟩:En)] else []):=by
   show _=_
   unfold wiL
   rw [← HQ.out]
  go_upto_region 12 with fail;refine jp ?_;refine jn (vP (w.heap.size+1) 4) ?_;refine jg (rt false nn dd) (fun X hX hF=>aP 26 _ (by rfl) (w.heap.size+1) 4 [.bool false,vS nn,vS dd] (by rfl) Tryz.underlying26 rfl X (hB1.bel hX) (by rfl) aC) ?_;refine jc (.bool true) (fun X hX hF=>mo (mK false nn dd X (Nat.le_trans hqs.1 (by decide)) (Nat.le_trans hqs.2 (by decide))) (by rw [HV.out])) ?_;refine jm (.bool true) ?_;refine jzb hb fun X8 hX8 hb=>?_;obtain ⟨hB0,hB1,hB2,hD6⟩:=bl4 hX8 hB0 hB1 hB2 hD6;go_upto_region 13 with fail;refine jp ?_;refine ja hB0 Tryz.underlying24 (by rfl) aE ?_;refine ja hD6 Tryz.underlying32 (by rfl) aI ?_;refine jc (.bool true) (fun X hX hF=>mo (kS c A n cp (⟨day,ac,ag,tr 1,3,pd,-1,w1,w2,w3,w4⟩:En) X hn1 hxs) (by rw [HR2.out n HLN.out])) ?_;refine jm (.bool true) ?_;refine jzb hb fun X9 hX9 hb=>?_;obtain ⟨hB0,hB1,hB2,hD6⟩:=bl4 hX9 hB0 hB1 hB2 hD6;go_upto_region 14 with fail;refine jp ?_;refine jm (.bool true) ?_;refine jm (.bool false) ?_;refine jm (.bool false) ?_;refine jm (.bool true) ?_;refine jm (.bool false) ?_;refine jm (.bool false) ?_;refine jzb hb fun X10 hX10 hb=>?_;obtain ⟨hB0,hB1,hB2,hD6⟩:=bl4 hX10 hB0 hB1 hB2 hD6;go_upto_region 16 with fail;refine aZ 3 [none,none,some (Bo (ifz q0 c) (wiL l (⟨day,ac,ag,tr 1,3,pd,-1,w1,w2,w3,w4⟩:En)) q0)] (aA (aA (aD (Bo.lasts _ _ _) (aG)))) ?_;simp only [its,List.take,List.drop,Nat.zero_add,Nat.reduceAdd]
  refine ja hB0 Tryz.underlying24 (by rfl) aE ?_;refine ja hD6 Tryz.underlying32 (by rfl) aI ?_;refine jk (fun X hX hF=>by rw [HQ.out];exact xR c _ l (⟨day,ac,ag,tr 1,3,pd,-1,w1,w2,w3,w4⟩:En) X (HES.out X (Since.next hb hX))) ?_;intro v64;refine aM ?_;intro X11 hX11 hF;have hv64:=hF _ _ List.mem_cons_self;obtain ⟨hB0,hB1,hB2,hD6⟩:=bl4 hX11 hB0 hB1 hB2 hD6;have hb:=aF hb hX11;clear hF hX11;obtain ⟨u64,rfl,hu64⟩:=hv64;obtain ⟨A64,c64,rfl⟩:=Es.form hu64;go_upto_region 17 with (refine osn 45 10 64 #[vI (ifz q0 c),.slice A64 ((wiL l (⟨day,ac,ag,tr 1,3,pd,-1,w1,w2,w3,w4⟩:En))).length c64,vI q0] aR ?_);obtain ⟨Y11,hY9,hD10,hS9⟩:=aQ X11 45 [vI (ifz q0 c),.slice A64 ((wiL l (⟨day,ac,ag,tr 1,3,pd,-1,w1,w2,w3,w4⟩:En))).length c64,vI q0];rw [← hY9];clear hY9;have hgs10:=hb.size;have hlt10x0:=hB0.lt;have hlt10x1:=hB1.lt;have hlt10x2:=hB2.lt;have hlt10x3:=hD6.lt;obtain ⟨hB0,hB1,hB2,hD6⟩:=bl4 hS9 hB0 hB1 hB2 hD6;replace hu64:=(Es.lasts _) _ _ _ hu64 hS9;have hb:=aF hb hS9;clear hS9;generalize X11.heap.size=g10 at *
  by_cases hq0:q0=0
  ·have HQ0:=Lib.hid hq0
   clear hq0
   have HL:Hid (ajL c l (⟨day,ac,ag,pd,(false,nn,dd),w1,w2,w3,w4⟩:Aj)=l):=by
    show _=_
    unfold ajL
    rw [HE.out,if_pos HQ0.out,if_pos (show trq (false,nn,dd)=0 from zq9 HZ9.out)]
   have HI:Hid (ifz q0 c=c):=by
    show _=_
    unfold ifz
    rw [if_pos HQ0.out]
   refine jp ?_;refine jn (vP g10 2) ?_;refine jf _ hD10 2 cY ?_;refine bZ q0 0 HQ0.out ?_;refine jm (.bool true) ?_;refine jm (.bool true) ?_;refine jm (.bool true) ?_;refine jzb hb fun X12 hX12 hb=>?_;replace hu64:=(Es.lasts _) _ _ _ hu64 hX12;obtain ⟨hB0,hB1,hB2,hD6,hD10⟩:=bl5 hX12 hB0 hB1 hB2 hD6 hD10;go_upto_region 18 with fail;refine jq 2 ?_;refine ja hB0 Tryz.underlying24 (by rfl) aE ?_;refine jn (.agg #[vI c,.slice A n cp,vI 0]) ?_;refine jzb hb fun X13 hX13 hb=>?_;replace hu64:=(Es.lasts _) _ _ _ hu64 hX13;obtain ⟨hB0,hB1,hB2,hD6,hD10⟩:=bl5 hX13 hB0 hB1 hB2 hD6 hD10;have hu9:=HES.out _ hb;refine bB rfl 45 (.tmp 4) (.tmp 72) rfl (w.heap.size+2) 45 _ hB2 rfl [vI c,.slice A n cp,vI 0] rfl (by rfl) (by intro u hu;simp only [List.mem_cons,List.not_mem_nil,or_false] at hu;rcases hu with rfl|rfl|rfl <;> rfl) aR ?_;intro w9 hR9 hG9;have hb:=aY hG9 hb hb.size (by omega);have hu9:=Es.grown hG9 hu9 hB2
   go_wp2
   refine aL rfl rfl (by rfl) Tryz.underlying45 rfl hR9 aR ⟨_,rfl,⟨_,by rw [HE.out,HI.out,HQ0.out],by rw [HL.out];exact hu9⟩,hb⟩
  ·refine jp ?_
   refine jn (vP g10 2) ?_;refine jf _ hD10 2 cY ?_;refine cC q0 0 (by omega) ?_;refine jm (.bool false) ?_;refine js ?_;refine jm (.bool false) ?_;refine jzb hb fun X12 hX12 hb=>?_;replace hu64:=(Es.lasts _) _ _ _ hu64 hX12;obtain ⟨hB0,hB1,hB2,hD6,hD10⟩:=bl5 hX12 hB0 hB1 hB2 hD6 hD10
   have HL:Hid (ajL c l (⟨day,ac,ag,pd,(false,nn,dd),w1,w2,w3,w4⟩:Aj)=wiL l (⟨day,ac,ag,tr 1,3,pd,-1,w1,w2,w3,w4⟩:En)):=by
    show _=_
    unfold ajL
    rw [HE.out,HWL.out];rw [if_neg hq0,if_neg hq0]
   go_upto_region 19 with fail;refine jq 1 ?_;refine ja hD10 Tryz.underlying45 (by rfl) aR ?_;refine jzb hb fun X13 hX13 hb=>?_;replace hu64:=(Es.lasts _) _ _ _ hu64 hX13;obtain ⟨hB0,hB1,hB2,hD6,hD10⟩:=bl5 hX13 hB0 hB1 hB2 hD6 hD10;have hu9:=hu64;refine bB rfl 45 (.tmp 4) (.tmp 73) rfl (w.heap.size+2) 45 _ hB2 rfl [vI (ifz q0 c),.slice A64 ((wiL l (⟨day,ac,ag,tr 1,3,pd,-1,w1,w2,w3,w4⟩:En))).length c64,vI q0] rfl (by rfl) (by intro u hu;simp only [List.mem_cons,List.not_mem_nil,or_false] at hu;rcases hu with rfl|rfl|rfl <;> rfl) aR ?_;intro w9 hR9 hG9;have hb:=aY hG9 hb hb.size (by omega);have hu9:=Es.grown hG9 hu9 hB2
   go_wp2
   refine aL rfl rfl (by rfl) Tryz.underlying45 rfl hR9 aR ⟨_,rfl,⟨_,by rw [HE.out],by rw [HL.out];exact hu9⟩,hb⟩
theorem rajn (c:Int) (v:Value) (l:List En) (day ac ag pd w1 w2 w3 w4:Int) (nn dd:List UInt8) (w:World) (hv:Es l v w) (hs:Hid (∀ k,tz (en l k).am.2.1 (en l k).am.2.2 1000000)) (hqs:tz nn dd 1000000) (HC:Hid (acE c l=0)) :Calls Tryz.prog 17 #[.agg #[vI c,v],.agg #[vI day,vI ac,vI ag,vI pd,.bool true,vS nn,vS dd,vI w1,vI w2,vI w3,vI w4]] w fun e w'=>∃ u,e=.returned u∧Bo (ifz (ajE c l (⟨day,ac,ag,pd,(true,nn,dd),w1,w2,w3,w4⟩:Aj)) c) (ajL c l (⟨day,ac,ag,pd,(true,nn,dd),w1,w2,w3,w4⟩:Aj)) (ajE c l (⟨day,ac,ag,pd,(true,nn,dd),w1,w2,w3,w4⟩:Aj)) u w'∧Since w w':=by
 obtain ⟨A,n,cp,rfl,hln,hn1,hr⟩:=hv.at;clear hv;have HRX:=bV hr;have HLN:=Lib.hid hln;clear hr;have HES:=cA HLN HRX
 go_enter Tryz.func17,Tryz.ntmps17
 go_upto_region 1 with fail;obtain ⟨W0,hW0,hB0,hB1,hB2,hb⟩:=bO w 24 34 45 [vI c,.slice A n cp] [vI day,vI ac,vI ag,vI pd,.bool true,vS nn,vS dd,vI w1,vI w2,vI w3,vI w4] [vI 0,.slice none 0 0,vI 0];rw [← hW0];clear hW0;refine jp ?_;refine ja hB0 Tryz.underlying24 (by rfl) aE ?_;refine jc (vI 0) (fun X hX hF=>mo (fK c _ l X (HES.out X (Since.next hb hX)) hs) (by rw [HC.out])) ?_;refine jm (vI 0) ?_;refine jzb hb fun X1 hX1 hb=>?_;obtain ⟨hB0,hB1,hB2⟩:=bl3 hX1 hB0 hB1 hB2;go_upto_region 2 with fail;refine jp ?_;refine jm (vI 0) ?_;refine jv (.bool false) (aS _ _ _ _ (by rfl) .i64 0 0 (by rfl) (by rfl) false (by rw [decide_eq_true (by omega)];rfl)) ?_;refine jzb hb fun X2 hX2 hb=>?_;obtain ⟨hB0,hB1,hB2⟩:=bl3 hX2 hB0 hB1 hB2;go_upto_region 4 with fail;refine jq 14 ?_;refine jn (vP (w.heap.size+1) 0) ?_;refine jf _ hB1 0 aB ?_;refine jn (vP (w.heap.size+1) 1) ?_;refine jf _ hB1 1 aB ?_;refine jn (vP (w.heap.size+1) 2) ?_;refine jf _ hB1 2 aB ?_;refine jn (vP (w.heap.size+1) 4) ?_;refine jg (rt true nn dd) (fun X hX hF=>aP 26 _ (by rfl) (w.heap.size+1) 4 [.bool true,vS nn,vS dd] (by rfl) Tryz.underlying26 rfl X (hB1.bel hX) (by rfl) aC) ?_;refine jn (vP (w.heap.size+1) 3) ?_
 refine jf _ hB1 3 aB ?_;refine jn (vP (w.heap.size+1) 7) ?_;refine jg (.agg #[vI w1,vI w2,vI w3,vI w4]) (fun X hX hF=>aP 28 _ (by rfl) (w.heap.size+1) 7 [vI w1,vI w2,vI w3,vI w4] (by rfl) Tryz.underlying28 rfl X (hB1.bel hX) (by rfl) dX) ?_;refine jn (.agg #[vI 3,vI pd,vI (-1),vI w1,vI w2,vI w3,vI w4]) ?_;refine jn (.agg #[vI day,vI ac,vI ag,.bool true,st nn,st dd,vI 3,vI pd,vI (-1),vI w1,vI w2,vI w3,vI w4]) ?_;refine jzb hb fun X3 hX3 hb=>?_;obtain ⟨hB0,hB1,hB2⟩:=bl3 hX3 hB0 hB1 hB2;go_upto_region 5 with (refine osn 32 6 30 #[vI day,vI ac,vI ag,.bool true,vS nn,vS dd,vI 3,vI pd,vI (-1),vI w1,vI w2,vI w3,vI w4] aI ?_);obtain ⟨Y3,hY9,hD6,hS9⟩:=aQ X3 32 [vI day,vI ac,vI ag,.bool true,vS nn,vS dd,vI 3,vI pd,vI (-1),vI w1,vI w2,vI w3,vI w4];rw [← hY9];clear hY9;have hgs6:=hb.size;have hlt6x0:=hB0.lt;have hlt6x1:=hB1.lt;have hlt6x2:=hB2.lt;obtain ⟨hB0,hB1,hB2⟩:=bl3 hS9 hB0 hB1 hB2;have hb:=aF hb hS9;clear hS9;generalize X3.heap.size=g6 at *;refine jp ?_;refine jn (vP (w.heap.size+1) 4) ?_
 refine jn (vP (w.heap.size+1) 4) ?_;refine jf _ hB1 4 aT ?_;refine jzb hb fun X4 hX4 hb=>?_;obtain ⟨hB0,hB1,hB2,hD6⟩:=bl4 hX4 hB0 hB1 hB2 hD6;go_upto_region 6 with fail;refine jq 3 ?_;refine jn (vP (w.heap.size+1) 2) ?_;refine jf _ hB1 2 aB ?_;refine jn (vP g6 1) ?_;refine jzb hb fun X5 hX5 hb=>?_;obtain ⟨hB0,hB1,hB2,hD6⟩:=bl4 hX5 hB0 hB1 hB2 hD6;refine eQ rfl g6 1 32 _ hD6 (vI ag) (by simp) (fun X u h1 h2=>lD _ _ (by rfl) _ _ (by rfl) (by rfl) u X h1 h2) ?_;intro w6s hR9 hG9;have hb:=aY hG9 hb hb.size (by omega);replace hB0:=aO hG9 hB0 (by omega);replace hB1:=aO hG9 hB1 (by omega);replace hB2:=aO hG9 hB2 (by omega);have hD6:=hR9;clear hR9 hG9;refine wpList_nil ?_;go_upto_region 7 with fail;refine jq 3 ?_;refine jn (vP (w.heap.size+1) 1) ?_;refine jf _ hB1 1 aB ?_;refine jn (vP g6 2) ?_;refine jzb hb fun X6 hX6 hb=>?_;obtain ⟨hB0,hB1,hB2,hD6⟩:=bl4 hX6 hB0 hB1 hB2 hD6;refine eQ rfl g6 2 32 _ hD6 (vI ac) (by simp) (fun X u h1 h2=>lD _ _ (by rfl) _ _ (by rfl) (by rfl) u X h1 h2) ?_;intro w7s hR9 hG9;have hb:=aY hG9 hb hb.size (by omega);replace hB0:=aO hG9 hB0 (by omega);replace hB1:=aO hG9 hB1 (by omega);replace hB2:=aO hG9 hB2 (by omega);have hD6:=hR9;clear hR9 hG9;refine wpList_nil ?_;go_upto_region 8 with fail
 refine jq 2 ?_;refine jn (vP g6 3) ?_;refine jn (vP g6 3) ?_;refine jzb hb fun X7 hX7 hb=>?_;obtain ⟨hB0,hB1,hB2,hD6⟩:=bl4 hX7 hB0 hB1 hB2 hD6;refine eQ rfl g6 3 32 _ hD6 (.bool false) (by simp) (fun X u h1 h2=>gZ _ _ (by rfl) _ _ (by rfl) (by rfl) u X h1 h2) ?_;intro w8s hR9 hG9;have hb:=aY hG9 hb hb.size (by omega);replace hB0:=aO hG9 hB0 (by omega);replace hB1:=aO hG9 hB1 (by omega);replace hB2:=aO hG9 hB2 (by omega);have hD6:=hR9;clear hR9 hG9;refine wpList_nil ?_;go_upto_region 9 with fail;refine jp ?_;refine jn (vP (w.heap.size+1) 4) ?_;refine jg (rt true nn dd) (fun X hX hF=>aP 26 _ (by rfl) (w.heap.size+1) 4 [.bool true,vS nn,vS dd] (by rfl) Tryz.underlying26 rfl X (hB1.bel hX) (by rfl) aC) ?_;refine jn (rz) ?_;refine jv (.bool false) (cI _ _ (by rfl) true nn dd false [] [] (by rfl) (by rfl) false rfl) ?_;refine jm (.bool false) ?_;refine jzb hb fun X8 hX8 hb=>?_;obtain ⟨hB0,hB1,hB2,hD6⟩:=bl4 hX8 hB0 hB1 hB2 hD6;go_upto_region 10 with fail;refine jp ?_;refine jm (.bool false) ?_;refine jzb hb fun X9 hX9 hb=>?_;obtain ⟨hB0,hB1,hB2,hD6⟩:=bl4 hX9 hB0 hB1 hB2 hD6;have hxs:tz ((⟨day,ag,ac,(false,nn,dd),3,pd,-1,w1,w2,w3,w4⟩:En)).am.2.1 ((⟨day,ag,ac,(false,nn,dd),3,pd,-1,w1,w2,w3,w4⟩:En)).am.2.2 1000000:=hqs
 obtain hV9|hV9:vd true nn dd=false∨vd true nn dd=true:=by cases vd true nn dd <;> simp
 ·have HV:=Lib.hid hV9
  clear hV9
  have HE:Hid (ajE c l (⟨day,ac,ag,pd,(true,nn,dd),w1,w2,w3,w4⟩:Aj)=1):=by
   show _=_
   unfold ajE
   rw [HC.out,if_neg (by decide),if_pos (.inl HV.out)]
  obtain ⟨rr,r9⟩:∃ rr,rgt c l.length (⟨day,ag,ac,(false,nn,dd),3,pd,-1,w1,w2,w3,w4⟩:En)=rr:=⟨_,rfl⟩;have HR1:=Lib.hid r9;clear r9
  have HR2:Hid (∀ n,l.length=n→rgt c n (⟨day,ag,ac,(false,nn,dd),3,pd,-1,w1,w2,w3,w4⟩:En)=rr):=fun n h=>by rw [← h];exact HR1.out
  go_upto_region 12 with fail;refine jp ?_;refine jn (vP (w.heap.size+1) 4) ?_;refine jg (rt true nn dd) (fun X hX hF=>aP 26 _ (by rfl) (w.heap.size+1) 4 [.bool true,vS nn,vS dd] (by rfl) Tryz.underlying26 rfl X (hB1.bel hX) (by rfl) aC) ?_;refine jc (.bool false) (fun X hX hF=>mo (mK true nn dd X (Nat.le_trans hqs.1 (by decide)) (Nat.le_trans hqs.2 (by decide))) (by rw [HV.out])) ?_;refine jm (.bool false) ?_;refine jzb hb fun X10 hX10 hb=>?_;obtain ⟨hB0,hB1,hB2,hD6⟩:=bl4 hX10 hB0 hB1 hB2 hD6;go_upto_region 13 with fail;refine jp ?_;refine ja hB0 Tryz.underlying24 (by rfl) aE ?_;refine ja hD6 Tryz.underlying32 (by rfl) aI ?_;refine jc (.bool rr) (fun X hX hF=>mo (kS c A n cp (⟨day,ag,ac,(false,nn,dd),3,pd,-1,w1,w2,w3,w4⟩:En) X hn1 hxs) (by rw [HR2.out n HLN.out])) ?_;refine jm (.bool rr) ?_;refine jzb hb fun X11 hX11 hb=>?_;obtain ⟨hB0,hB1,hB2,hD6⟩:=bl4 hX11 hB0 hB1 hB2 hD6;go_upto_region 14 with fail;refine jp ?_;refine jm (.bool false) ?_;refine jm (.bool true) ?_;refine jm (.bool true) ?_;refine js ?_;refine js ?_;refine jm (.bool true) ?_;refine jzb hb fun X12 hX12 hb=>?_;obtain ⟨hB0,hB1,hB2,hD6⟩:=bl4 hX12 hB0 hB1 hB2 hD6
  have HL:Hid (ajL c l (⟨day,ac,ag,pd,(true,nn,dd),w1,w2,w3,w4⟩:Aj)=[]):=by
   show _=_
   unfold ajL
   rw [HE.out,if_neg (by decide)]
  go_upto_region 15 with fail;refine jq 1 ?_;refine jn (.agg #[vI 0,.slice none 0 0,vI 1]) ?_;refine jzb hb fun X13 hX13 hb=>?_;obtain ⟨hB0,hB1,hB2,hD6⟩:=bl4 hX13 hB0 hB1 hB2 hD6;refine osb 45 4 61 (w.heap.size+2) 45 hB2 [vI 0,.slice none 0 0,vI 1] aR ?_;intro w9 hR9 hO9 hB9 hs9;have hb9:=hB9 _ _ hb (by omega);have hB0:=hO9 _ _ _ (by omega) hB0;have hB1:=hO9 _ _ _ (by omega) hB1;have hD6:=hO9 _ _ _ (by omega) hD6;clear hO9 hB9
  go_wp2
  refine aL rfl rfl (by rfl) Tryz.underlying45 rfl hR9 aR ⟨_,rfl,⟨.slice none 0 0,by rw [HE.out];rfl,by rw [HL.out];exact bW _⟩,hb9⟩
 ·have HV:=Lib.hid hV9
  clear hV9
  have HA:Hid (adj (⟨day,ac,ag,pd,(true,nn,dd),w1,w2,w3,w4⟩:Aj)=(⟨day,ag,ac,(false,nn,dd),3,pd,-1,w1,w2,w3,w4⟩:En)):=by
   show _=_
   refine (adj_n (q:=(⟨day,ac,ag,pd,(true,nn,dd),w1,w2,w3,w4⟩:Aj)) (fun h9=>Rat.ne_of_lt (yC (iN HV.out).1) h9) (show rq true nn dd<0 from yC (iN HV.out).1)).trans ?_
   show (⟨day,ag,ac,tr (-(rq true nn dd)),3,pd,-1,w1,w2,w3,w4⟩:En)=_
   rw [qZa HV.out rfl]
  obtain hR9|hR9:rgt c l.length (adj (⟨day,ac,ag,pd,(true,nn,dd),w1,w2,w3,w4⟩:Aj))=false∨rgt c l.length (adj (⟨day,ac,ag,pd,(true,nn,dd),w1,w2,w3,w4⟩:Aj))=true:=by cases rgt c l.length (adj (⟨day,ac,ag,pd,(true,nn,dd),w1,w2,w3,w4⟩:Aj)) <;> simp
  ·have HR:=Lib.hid hR9
   clear hR9
   have HR2:Hid (∀ n,l.length=n→rgt c n (⟨day,ag,ac,(false,nn,dd),3,pd,-1,w1,w2,w3,w4⟩:En)=false):=fun n h=>by rw [← h,← HA.out];exact HR.out
   have HE:Hid (ajE c l (⟨day,ac,ag,pd,(true,nn,dd),w1,w2,w3,w4⟩:Aj)=1):=by
    show _=_
    unfold ajE
    rw [HC.out,if_neg (by decide),if_pos (.inr HR.out)]
   go_upto_region 12 with fail;refine jp ?_;refine jn (vP (w.heap.size+1) 4) ?_;refine jg (rt true nn dd) (fun X hX hF=>aP 26 _ (by rfl) (w.heap.size+1) 4 [.bool true,vS nn,vS dd] (by rfl) Tryz.underlying26 rfl X (hB1.bel hX) (by rfl) aC) ?_;refine jc (.bool true) (fun X hX hF=>mo (mK true nn dd X (Nat.le_trans hqs.1 (by decide)) (Nat.le_trans hqs.2 (by decide))) (by rw [HV.out])) ?_;refine jm (.bool true) ?_;refine jzb hb fun X10 hX10 hb=>?_;obtain ⟨hB0,hB1,hB2,hD6⟩:=bl4 hX10 hB0 hB1 hB2 hD6;go_upto_region 13 with fail;refine jp ?_;refine ja hB0 Tryz.underlying24 (by rfl) aE ?_;refine ja hD6 Tryz.underlying32 (by rfl) aI ?_;refine jc (.bool false) (fun X hX hF=>mo (kS c A n cp (⟨day,ag,ac,(false,nn,dd),3,pd,-1,w1,w2,w3,w4⟩:En) X hn1 hxs) (by rw [HR2.out n HLN.out])) ?_;refine jm (.bool false) ?_;refine jzb hb fun X11 hX11 hb=>?_;obtain ⟨hB0,hB1,hB2,hD6⟩:=bl4 hX11 hB0 hB1 hB2 hD6;go_upto_region 14 with fail;refine jp ?_;refine jm (.bool true) ?_;refine jm (.bool false) ?_;refine jm (.bool false) ?_;refine jm (.bool false) ?_;refine jm (.bool true) ?_;refine jm (.bool true) ?_;refine jzb hb fun X12 hX12 hb=>?_;obtain ⟨hB0,hB1,hB2,hD6⟩:=bl4 hX12 hB0 hB1 hB2 hD6
   have HL:Hid (ajL c l (⟨day,ac,ag,pd,(true,nn,dd),w1,w2,w3,w4⟩:Aj)=[]):=by
    show _=_
    unfold ajL
    rw [HE.out,if_neg (by decide)]
   go_upto_region 15 with fail;refine jq 1 ?_;refine jn (.agg #[vI 0,.slice none 0 0,vI 1]) ?_;refine jzb hb fun X13 hX13 hb=>?_;obtain ⟨hB0,hB1,hB2,hD6⟩:=bl4 hX13 hB0 hB1 hB2 hD6;refine osb 45 4 61 (w.heap.size+2) 45 hB2 [vI 0,.slice none 0 0,vI 1] aR ?_;intro w9 hR9 hO9 hB9 hs9;have hb9:=hB9 _ _ hb (by omega);have hB0:=hO9 _ _ _ (by omega) hB0;have hB1:=hO9 _ _ _ (by omega) hB1;have hD6:=hO9 _ _ _ (by omega) hD6;clear hO9 hB9
   go_wp2
   refine aL rfl rfl (by rfl) Tryz.underlying45 rfl hR9 aR ⟨_,rfl,⟨.slice none 0 0,by rw [HE.out];rfl,by rw [HL.out];exact bW _⟩,hb9⟩
  ·have HR:=Lib.hid hR9
   clear hR9
   have HR2:Hid (∀ n,l.length=n→rgt c n (⟨day,ag,ac,(false,nn,dd),3,pd,-1,w1,w2,w3,w4⟩:En)=true):=fun n h=>by rw [← h,← HA.out];exact HR.out
   obtain ⟨q0,q9⟩:∃ q0,q0=dD l (⟨day,ag,ac,(false,nn,dd),3,pd,-1,w1,w2,w3,w4⟩:En):=⟨_,rfl⟩;have HQ:=Lib.hid q9;clear q9
   have HE:Hid (ajE c l (⟨day,ac,ag,pd,(true,nn,dd),w1,w2,w3,w4⟩:Aj)=q0):=by
    show _=_
    unfold ajE
    rw [HC.out,if_neg (by decide),if_neg (by rw [HR.out];simp [show vd true nn dd=true from HV.out]),HA.out,HQ.out]
   have HWL:Hid (wiL l (⟨day,ag,ac,(false,nn,dd),3,pd,-1,w1,w2,w3,w4⟩:En)=if q0=0 then l++[(⟨day,ag,ac,(false,nn,dd),3,pd,-1,w1,w2,w3,w4⟩:En)] else []):=by
    show _=_
    unfold wiL
    rw [← HQ.out]
   go_upto_region 12 with fail;refine jp ?_;refine jn (vP (w.heap.size+1) 4) ?_;refine jg (rt true nn dd) (fun X hX hF=>aP 26 _ (by rfl) (w.heap.size+1) 4 [.bool true,vS nn,vS dd] (by rfl) Tryz.underlying26 rfl X (hB1.bel hX) (by rfl) aC) ?_;refine jc (.bool true) (fun X hX hF=>mo (mK true nn dd X (Nat.le_trans hqs.1 (by decide)) (Nat.le_trans hqs.2 (by decide))) (by rw [HV.out])) ?_;refine jm (.bool true) ?_;refine jzb hb fun X10 hX10 hb=>?_;obtain ⟨hB0,hB1,hB2,hD6⟩:=bl4 hX10 hB0 hB1 hB2 hD6;go_upto_region 13 with fail;refine jp ?_;refine ja hB0 Tryz.underlying24 (by rfl) aE ?_;refine ja hD6 Tryz.underlying32 (by rfl) aI ?_;refine jc (.bool true) (fun X hX hF=>mo (kS c A n cp (⟨day,ag,ac,(false,nn,dd),3,pd,-1,w1,w2,w3,w4⟩:En) X hn1 hxs) (by rw [HR2.out n HLN.out])) ?_;refine jm (.bool true) ?_;refine jzb hb fun X11 hX11 hb=>?_;obtain ⟨hB0,hB1,hB2,hD6⟩:=bl4 hX11 hB0 hB1 hB2 hD6;go_upto_region 14 with fail;refine jp ?_;refine jm (.bool true) ?_;refine jm (.bool false) ?_;refine jm (.bool false) ?_;refine jm (.bool true) ?_;refine jm (.bool false) ?_;refine jm (.bool false) ?_;refine jzb hb fun X12 hX12 hb=>?_;obtain ⟨hB0,hB1,hB2,hD6⟩:=bl4 hX12 hB0 hB1 hB2 hD6;go_upto_region 16 with fail;refine aZ 3 [none,none,some (Bo (ifz q0 c) (wiL l (⟨day,ag,ac,(false,nn,dd),3,pd,-1,w1,w2,w3,w4⟩:En)) q0)] (aA (aA (aD (Bo.lasts _ _ _) (aG)))) ?_
   simp only [its,List.take,List.drop,Nat.zero_add,Nat.reduceAdd];refine ja hB0 Tryz.underlying24 (by rfl) aE ?_;refine ja hD6 Tryz.underlying32 (by rfl) aI ?_;refine jk (fun X hX hF=>by rw [HQ.out];exact xR c _ l (⟨day,ag,ac,(false,nn,dd),3,pd,-1,w1,w2,w3,w4⟩:En) X (HES.out X (Since.next hb hX))) ?_;intro v64;refine aM ?_;intro X13 hX13 hF;have hv64:=hF _ _ List.mem_cons_self;obtain ⟨hB0,hB1,hB2,hD6⟩:=bl4 hX13 hB0 hB1 hB2 hD6;have hb:=aF hb hX13;clear hF hX13;obtain ⟨u64,rfl,hu64⟩:=hv64;obtain ⟨A64,c64,rfl⟩:=Es.form hu64;go_upto_region 17 with (refine osn 45 10 64 #[vI (ifz q0 c),.slice A64 ((wiL l (⟨day,ag,ac,(false,nn,dd),3,pd,-1,w1,w2,w3,w4⟩:En))).length c64,vI q0] aR ?_);obtain ⟨Y13,hY9,hD10,hS9⟩:=aQ X13 45 [vI (ifz q0 c),.slice A64 ((wiL l (⟨day,ag,ac,(false,nn,dd),3,pd,-1,w1,w2,w3,w4⟩:En))).length c64,vI q0];rw [← hY9];clear hY9;have hgs10:=hb.size;have hlt10x0:=hB0.lt;have hlt10x1:=hB1.lt;have hlt10x2:=hB2.lt;have hlt10x3:=hD6.lt;obtain ⟨hB0,hB1,hB2,hD6⟩:=bl4 hS9 hB0 hB1 hB2 hD6;replace hu64:=(Es.lasts _) _ _ _ hu64 hS9;have hb:=aF hb hS9;clear hS9;generalize X13.heap.size=g10 at *
   by_cases hq0:q0=0
   ·have HQ0:=Lib.hid hq0
    clear hq0;refine jp ?_;refine jn (vP g10 2) ?_;refine jf _ hD10 2 cY ?_;refine bZ q0 0 HQ0.out ?_;refine jm (.bool true) ?_;refine jm (.bool false) ?_;refine jm (.bool false) ?_;refine jzb hb fun X14 hX14 hb=>?_;replace hu64:=(Es.lasts _) _ _ _ hu64 hX14;obtain ⟨hB0,hB1,hB2,hD6,hD10⟩:=bl5 hX14 hB0 hB1 hB2 hD6 hD10
    have HL:Hid (ajL c l (⟨day,ac,ag,pd,(true,nn,dd),w1,w2,w3,w4⟩:Aj)=wiL l (⟨day,ag,ac,(false,nn,dd),3,pd,-1,w1,w2,w3,w4⟩:En)):=by
     show _=_
     unfold ajL
     rw [HE.out,HWL.out];rw [if_pos HQ0.out,if_pos HQ0.out,if_neg (show ¬ trq (true,nn,dd)=0 from fun h9=>Rat.ne_of_lt (yC (iN HV.out).1) h9),HA.out]
    go_upto_region 19 with fail;refine jq 1 ?_;refine ja hD10 Tryz.underlying45 (by rfl) aR ?_;refine jzb hb fun X15 hX15 hb=>?_;replace hu64:=(Es.lasts _) _ _ _ hu64 hX15;obtain ⟨hB0,hB1,hB2,hD6,hD10⟩:=bl5 hX15 hB0 hB1 hB2 hD6 hD10;have hu9:=hu64;refine bB rfl 45 (.tmp 4) (.tmp 73) rfl (w.heap.size+2) 45 _ hB2 rfl [vI (ifz q0 c),.slice A64 ((wiL l (⟨day,ag,ac,(false,nn,dd),3,pd,-1,w1,w2,w3,w4⟩:En))).length c64,vI q0] rfl (by rfl) (by intro u hu;simp only [List.mem_cons,List.not_mem_nil,or_false] at hu;rcases hu with rfl|rfl|rfl <;> rfl) aR ?_;intro w9 hR9 hG9;have hb:=aY hG9 hb hb.size (by omega);have hu9:=Es.grown hG9 hu9 hB2
    go_wp2
    refine aL rfl rfl (by rfl) Tryz.underlying45 rfl hR9 aR ⟨_,rfl,⟨_,by rw [HE.out],by rw [HL.out];exact hu9⟩,hb⟩
   ·refine jp ?_
    refine jn (vP g10 2) ?_;refine jf _ hD10 2 cY ?_;refine cC q0 0 (by omega) ?_;refine jm (.bool false) ?_;refine js ?_;refine jm (.bool false) ?_;refine jzb hb fun X14 hX14 hb=>?_;replace hu64:=(Es.lasts _) _ _ _ hu64 hX14;obtain ⟨hB0,hB1,hB2,hD6,hD10⟩:=bl5 hX14 hB0 hB1 hB2 hD6 hD10
    have HL:Hid (ajL c l (⟨day,ac,ag,pd,(true,nn,dd),w1,w2,w3,w4⟩:Aj)=wiL l (⟨day,ag,ac,(false,nn,dd),3,pd,-1,w1,w2,w3,w4⟩:En)):=by
     show _=_
     unfold ajL
     rw [HE.out,HWL.out];rw [if_neg hq0,if_neg hq0]
    go_upto_region 19 with fail;refine jq 1 ?_;refine ja hD10 Tryz.underlying45 (by rfl) aR ?_;refine jzb hb fun X15 hX15 hb=>?_;replace hu64:=(Es.lasts _) _ _ _ hu64 hX15;obtain ⟨hB0,hB1,hB2,hD6,hD10⟩:=bl5 hX15 hB0 hB1 hB2 hD6 hD10;have hu9:=hu64;refine bB rfl 45 (.tmp 4) (.tmp 73) rfl (w.heap.size+2) 45 _ hB2 rfl [vI (ifz q0 c),.slice A64 ((wiL l (⟨day,ag,ac,(false,nn,dd),3,pd,-1,w1,w2,w3,w4⟩:En))).length c64,vI q0] rfl (by rfl) (by intro u hu;simp only [List.mem_cons,List.not_mem_nil,or_false] at hu;rcases hu with rfl|rfl|rfl <;> rfl) aR ?_;intro w9 hR9 hG9;have hb:=aY hG9 hb hb.size (by omega);have hu9:=Es.grown hG9 hu9 hB2
    go_wp2
    refine aL rfl rfl (by rfl) Tryz.underlying45 rfl hR9 aR ⟨_,rfl,⟨_,by rw [HE.out],by rw [HL.out];exact hu9⟩,hb⟩
theorem rajp (c:Int) (v:Value) (l:List En) (day ac ag pd w1 w2 w3 w4:Int) (nn dd:List UInt8) (w:World) (hv:Es l v w) (hs:Hid (∀ k,tz (en l k).am.2.1 (en l k).am.2.2 1000000)) (hqs:tz nn dd 1000000) (HC:Hid (acE c l=0)) (HZ9:Hid ((false == false && nn == [] && dd == [])=false)):Calls Tryz.prog 17 #[.agg #[vI c,v],.agg #[vI day,vI ac,vI ag,vI pd,.bool false,vS nn,vS dd,vI w1,vI w2,vI w3,vI w4]] w fun e w'=>∃ u,e=.returned u∧Bo (ifz (ajE c l (⟨day,ac,ag,pd,(false,nn,dd),w1,w2,w3,w4⟩:Aj)) c) (ajL c l (⟨day,ac,ag,pd,(false,nn,dd),w1,w2,w3,w4⟩:Aj)) (ajE c l (⟨day,ac,ag,pd,(false,nn,dd),w1,w2,w3,w4⟩:Aj)) u w'∧Since w w':=by
 obtain ⟨A,n,cp,rfl,hln,hn1,hr⟩:=hv.at;clear hv;have HRX:=bV hr;have HLN:=Lib.hid hln;clear hr;have HES:=cA HLN HRX
 go_enter Tryz.func17,Tryz.ntmps17
 go_upto_region 1 with fail;obtain ⟨W0,hW0,hB0,hB1,hB2,hb⟩:=bO w 24 34 45 [vI c,.slice A n cp] [vI day,vI ac,vI ag,vI pd,.bool false,vS nn,vS dd,vI w1,vI w2,vI w3,vI w4] [vI 0,.slice none 0 0,vI 0];rw [← hW0];clear hW0;refine jp ?_;refine ja hB0 Tryz.underlying24 (by rfl) aE ?_;refine jc (vI 0) (fun X hX hF=>mo (fK c _ l X (HES.out X (Since.next hb hX)) hs) (by rw [HC.out])) ?_;refine jm (vI 0) ?_;refine jzb hb fun X1 hX1 hb=>?_;obtain ⟨hB0,hB1,hB2⟩:=bl3 hX1 hB0 hB1 hB2;go_upto_region 2 with fail;refine jp ?_;refine jm (vI 0) ?_;refine jv (.bool false) (aS _ _ _ _ (by rfl) .i64 0 0 (by rfl) (by rfl) false (by rw [decide_eq_true (by omega)];rfl)) ?_;refine jzb hb fun X2 hX2 hb=>?_;obtain ⟨hB0,hB1,hB2⟩:=bl3 hX2 hB0 hB1 hB2;go_upto_region 4 with fail;refine jq 14 ?_;refine jn (vP (w.heap.size+1) 0) ?_;refine jf _ hB1 0 aB ?_;refine jn (vP (w.heap.size+1) 1) ?_;refine jf _ hB1 1 aB ?_;refine jn (vP (w.heap.size+1) 2) ?_;refine jf _ hB1 2 aB ?_;refine jn (vP (w.heap.size+1) 4) ?_;refine jg (rt false nn dd) (fun X hX hF=>aP 26 _ (by rfl) (w.heap.size+1) 4 [.bool false,vS nn,vS dd] (by rfl) Tryz.underlying26 rfl X (hB1.bel hX) (by rfl) aC) ?_;refine jn (vP (w.heap.size+1) 3) ?_
 refine jf _ hB1 3 aB ?_;refine jn (vP (w.heap.size+1) 7) ?_;refine jg (.agg #[vI w1,vI w2,vI w3,vI w4]) (fun X hX hF=>aP 28 _ (by rfl) (w.heap.size+1) 7 [vI w1,vI w2,vI w3,vI w4] (by rfl) Tryz.underlying28 rfl X (hB1.bel hX) (by rfl) dX) ?_;refine jn (.agg #[vI 3,vI pd,vI (-1),vI w1,vI w2,vI w3,vI w4]) ?_;refine jn (.agg #[vI day,vI ac,vI ag,.bool false,st nn,st dd,vI 3,vI pd,vI (-1),vI w1,vI w2,vI w3,vI w4]) ?_;refine jzb hb fun X3 hX3 hb=>?_;obtain ⟨hB0,hB1,hB2⟩:=bl3 hX3 hB0 hB1 hB2;go_upto_region 5 with (refine osn 32 6 30 #[vI day,vI ac,vI ag,.bool false,vS nn,vS dd,vI 3,vI pd,vI (-1),vI w1,vI w2,vI w3,vI w4] aI ?_);obtain ⟨Y3,hY9,hD6,hS9⟩:=aQ X3 32 [vI day,vI ac,vI ag,.bool false,vS nn,vS dd,vI 3,vI pd,vI (-1),vI w1,vI w2,vI w3,vI w4];rw [← hY9];clear hY9;have hgs6:=hb.size;have hlt6x0:=hB0.lt;have hlt6x1:=hB1.lt;have hlt6x2:=hB2.lt;obtain ⟨hB0,hB1,hB2⟩:=bl3 hS9 hB0 hB1 hB2;have hb:=aF hb hS9;clear hS9;generalize X3.heap.size=g6 at *;refine jp ?_;refine jn (vP (w.heap.size+1) 4) ?_
 refine jn (vP (w.heap.size+1) 4) ?_;refine jf _ hB1 4 aT ?_;refine jzb hb fun X4 hX4 hb=>?_;obtain ⟨hB0,hB1,hB2,hD6⟩:=bl4 hX4 hB0 hB1 hB2 hD6;go_upto_region 9 with fail;refine jp ?_;refine jn (vP (w.heap.size+1) 4) ?_;refine jg (rt false nn dd) (fun X hX hF=>aP 26 _ (by rfl) (w.heap.size+1) 4 [.bool false,vS nn,vS dd] (by rfl) Tryz.underlying26 rfl X (hB1.bel hX) (by rfl) aC) ?_;refine jn (rz) ?_;refine jv (.bool false) (cI _ _ (by rfl) false nn dd false [] [] (by rfl) (by rfl) false HZ9.out) ?_;refine jm (.bool false) ?_;refine jzb hb fun X5 hX5 hb=>?_;obtain ⟨hB0,hB1,hB2,hD6⟩:=bl4 hX5 hB0 hB1 hB2 hD6;go_upto_region 10 with fail;refine jp ?_;refine jm (.bool false) ?_;refine jzb hb fun X6 hX6 hb=>?_;obtain ⟨hB0,hB1,hB2,hD6⟩:=bl4 hX6 hB0 hB1 hB2 hD6;have hxs:tz ((⟨day,ac,ag,(false,nn,dd),3,pd,-1,w1,w2,w3,w4⟩:En)).am.2.1 ((⟨day,ac,ag,(false,nn,dd),3,pd,-1,w1,w2,w3,w4⟩:En)).am.2.2 1000000:=hqs
 obtain hV9|hV9:vd false nn dd=false∨vd false nn dd=true:=by cases vd false nn dd <;> simp
 ·have HV:=Lib.hid hV9
  clear hV9
  have HE:Hid (ajE c l (⟨day,ac,ag,pd,(false,nn,dd),w1,w2,w3,w4⟩:Aj)=1):=by
   show _=_
   unfold ajE
   rw [HC.out,if_neg (by decide),if_pos (.inl HV.out)]
  obtain ⟨rr,r9⟩:∃ rr,rgt c l.length (⟨day,ac,ag,(false,nn,dd),3,pd,-1,w1,w2,w3,w4⟩:En)=rr:=⟨_,rfl⟩;have HR1:=Lib.hid r9;clear r9
  have HR2:Hid (∀ n,l.length=n→rgt c n (⟨day,ac,ag,(false,nn,dd),3,pd,-1,w1,w2,w3,w4⟩:En)=rr):=fun n h=>by rw [← h];exact HR1.out
  go_upto_region 12 with fail;refine jp ?_;refine jn (vP (w.heap.size+1) 4) ?_;refine jg (rt false nn dd) (fun X hX hF=>aP 26 _ (by rfl) (w.heap.size+1) 4 [.bool false,vS nn,vS dd] (by rfl) Tryz.underlying26 rfl X (hB1.bel hX) (by rfl) aC) ?_;refine jc (.bool false) (fun X hX hF=>mo (mK false nn dd X (Nat.le_trans hqs.1 (by decide)) (Nat.le_trans hqs.2 (by decide))) (by rw [HV.out])) ?_;refine jm (.bool false) ?_;refine jzb hb fun X7 hX7 hb=>?_;obtain ⟨hB0,hB1,hB2,hD6⟩:=bl4 hX7 hB0 hB1 hB2 hD6;go_upto_region 13 with fail;refine jp ?_;refine ja hB0 Tryz.underlying24 (by rfl) aE ?_;refine ja hD6 Tryz.underlying32 (by rfl) aI ?_;refine jc (.bool rr) (fun X hX hF=>mo (kS c A n cp (⟨day,ac,ag,(false,nn,dd),3,pd,-1,w1,w2,w3,w4⟩:En) X hn1 hxs) (by rw [HR2.out n HLN.out])) ?_;refine jm (.bool rr) ?_;refine jzb hb fun X8 hX8 hb=>?_;obtain ⟨hB0,hB1,hB2,hD6⟩:=bl4 hX8 hB0 hB1 hB2 hD6;go_upto_region 14 with fail;refine jp ?_;refine jm (.bool false) ?_;refine jm (.bool true) ?_;refine jm (.bool true) ?_;refine js ?_;refine js ?_;refine jm (.bool true) ?_;refine jzb hb fun X9 hX9 hb=>?_;obtain ⟨hB0,hB1,hB2,hD6⟩:=bl4 hX9 hB0 hB1 hB2 hD6
  have HL:Hid (ajL c l (⟨day,ac,ag,pd,(false,nn,dd),w1,w2,w3,w4⟩:Aj)=[]):=by
   show _=_
   unfold ajL
   rw [HE.out,if_neg (by decide)]
  go_upto_region 15 with fail;refine jq 1 ?_;refine jn (.agg #[vI 0,.slice none 0 0,vI 1]) ?_;refine jzb hb fun X10 hX10 hb=>?_;obtain ⟨hB0,hB1,hB2,hD6⟩:=bl4 hX10 hB0 hB1 hB2 hD6;refine osb 45 4 61 (w.heap.size+2) 45 hB2 [vI 0,.slice none 0 0,vI 1] aR ?_;intro w9 hR9 hO9 hB9 hs9;have hb9:=hB9 _ _ hb (by omega);have hB0:=hO9 _ _ _ (by omega) hB0;have hB1:=hO9 _ _ _ (by omega) hB1;have hD6:=hO9 _ _ _ (by omega) hD6;clear hO9 hB9
  go_wp2
  refine aL rfl rfl (by rfl) Tryz.underlying45 rfl hR9 aR ⟨_,rfl,⟨.slice none 0 0,by rw [HE.out];rfl,by rw [HL.out];exact bW _⟩,hb9⟩
 ·have HV:=Lib.hid hV9
  clear hV9
  have HA:Hid (adj (⟨day,ac,ag,pd,(false,nn,dd),w1,w2,w3,w4⟩:Aj)=(⟨day,ac,ag,(false,nn,dd),3,pd,-1,w1,w2,w3,w4⟩:En)):=by
   show _=_
   exact adj_p (q:=(⟨day,ac,ag,pd,(false,nn,dd),w1,w2,w3,w4⟩:Aj)) (fun h9=>by have h8:=xF HV.out h9;rw [HZ9.out] at h8;cases h8) (show ¬ rq false nn dd<0 from rN_ge (iN HV.out).1)
  obtain hR9|hR9:rgt c l.length (adj (⟨day,ac,ag,pd,(false,nn,dd),w1,w2,w3,w4⟩:Aj))=false∨rgt c l.length (adj (⟨day,ac,ag,pd,(false,nn,dd),w1,w2,w3,w4⟩:Aj))=true:=by cases rgt c l.length (adj (⟨day,ac,ag,pd,(false,nn,dd),w1,w2,w3,w4⟩:Aj)) <;> simp
  ·have HR:=Lib.hid hR9
   clear hR9
   have HR2:Hid (∀ n,l.length=n→rgt c n (⟨day,ac,ag,(false,nn,dd),3,pd,-1,w1,w2,w3,w4⟩:En)=false):=fun n h=>by rw [← h,← HA.out];exact HR.out
   have HE:Hid (ajE c l (⟨day,ac,ag,pd,(false,nn,dd),w1,w2,w3,w4⟩:Aj)=1):=by
    show _=_
    unfold ajE
    rw [HC.out,if_neg (by decide),if_pos (.inr HR.out)]
   go_upto_region 12 with fail;refine jp ?_;refine jn (vP (w.heap.size+1) 4) ?_;refine jg (rt false nn dd) (fun X hX hF=>aP 26 _ (by rfl) (w.heap.size+1) 4 [.bool false,vS nn,vS dd] (by rfl) Tryz.underlying26 rfl X (hB1.bel hX) (by rfl) aC) ?_;refine jc (.bool true) (fun X hX hF=>mo (mK false nn dd X (Nat.le_trans hqs.1 (by decide)) (Nat.le_trans hqs.2 (by decide))) (by rw [HV.out])) ?_;refine jm (.bool true) ?_;refine jzb hb fun X7 hX7 hb=>?_;obtain ⟨hB0,hB1,hB2,hD6⟩:=bl4 hX7 hB0 hB1 hB2 hD6;go_upto_region 13 with fail;refine jp ?_;refine ja hB0 Tryz.underlying24 (by rfl) aE ?_;refine ja hD6 Tryz.underlying32 (by rfl) aI ?_;refine jc (.bool false) (fun X hX hF=>mo (kS c A n cp (⟨day,ac,ag,(false,nn,dd),3,pd,-1,w1,w2,w3,w4⟩:En) X hn1 hxs) (by rw [HR2.out n HLN.out])) ?_;refine jm (.bool false) ?_;refine jzb hb fun X8 hX8 hb=>?_;obtain ⟨hB0,hB1,hB2,hD6⟩:=bl4 hX8 hB0 hB1 hB2 hD6;go_upto_region 14 with fail;refine jp ?_;refine jm (.bool true) ?_;refine jm (.bool false) ?_;refine jm (.bool false) ?_;refine jm (.bool false) ?_;refine jm (.bool true) ?_;refine jm (.bool true) ?_;refine jzb hb fun X9 hX9 hb=>?_;obtain ⟨hB0,hB1,hB2,hD6⟩:=bl4 hX9 hB0 hB1 hB2 hD6
   have HL:Hid (ajL c l (⟨day,ac,ag,pd,(false,nn,dd),w1,w2,w3,w4⟩:Aj)=[]):=by
    show _=_
    unfold ajL
    rw [HE.out,if_neg (by decide)]
   go_upto_region 15 with fail;refine jq 1 ?_;refine jn (.agg #[vI 0,.slice none 0 0,vI 1]) ?_;refine jzb hb fun X10 hX10 hb=>?_;obtain ⟨hB0,hB1,hB2,hD6⟩:=bl4 hX10 hB0 hB1 hB2 hD6;refine osb 45 4 61 (w.heap.size+2) 45 hB2 [vI 0,.slice none 0 0,vI 1] aR ?_;intro w9 hR9 hO9 hB9 hs9;have hb9:=hB9 _ _ hb (by omega);have hB0:=hO9 _ _ _ (by omega) hB0;have hB1:=hO9 _ _ _ (by omega) hB1;have hD6:=hO9 _ _ _ (by omega) hD6;clear hO9 hB9
   go_wp2
   refine aL rfl rfl (by rfl) Tryz.underlying45 rfl hR9 aR ⟨_,rfl,⟨.slice none 0 0,by rw [HE.out];rfl,by rw [HL.out];exact bW _⟩,hb9⟩
  ·have HR:=Lib.hid hR9
   clear hR9
   have HR2:Hid (∀ n,l.length=n→rgt c n (⟨day,ac,ag,(false,nn,dd),3,pd,-1,w1,w2,w3,w4⟩:En)=true):=fun n h=>by rw [← h,← HA.out];exact HR.out
   obtain ⟨q0,q9⟩:∃ q0,q0=dD l (⟨day,ac,ag,(false,nn,dd),3,pd,-1,w1,w2,w3,w4⟩:En):=⟨_,rfl⟩;have HQ:=Lib.hid q9;clear q9
   have HE:Hid (ajE c l (⟨day,ac,ag,pd,(false,nn,dd),w1,w2,w3,w4⟩:Aj)=q0):=by
    show _=_
    unfold ajE
    rw [HC.out,if_neg (by decide),if_neg (by rw [HR.out];simp [show vd false nn dd=true from HV.out]),HA.out,HQ.out]
   have HWL:Hid (wiL l (⟨day,ac,ag,(false,nn,dd),3,pd,-1,w1,w2,w3,w4⟩:En)=if q0=0 then l++[(⟨day,ac,ag,(false,nn,dd),3,pd,-1,w1,w2,w3,w4⟩:En)] else []):=by
    show _=_
    unfold wiL
    rw [← HQ.out]
   go_upto_region 12 with fail;refine jp ?_;refine jn (vP (w.heap.size+1) 4) ?_;refine jg (rt false nn dd) (fun X hX hF=>aP 26 _ (by rfl) (w.heap.size+1) 4 [.bool false,vS nn,vS dd] (by rfl) Tryz.underlying26 rfl X (hB1.bel hX) (by rfl) aC) ?_;refine jc (.bool true) (fun X hX hF=>mo (mK false nn dd X (Nat.le_trans hqs.1 (by decide)) (Nat.le_trans hqs.2 (by decide))) (by rw [HV.out])) ?_;refine jm (.bool true) ?_;refine jzb hb fun X7 hX7 hb=>?_;obtain ⟨hB0,hB1,hB2,hD6⟩:=bl4 hX7 hB0 hB1 hB2 hD6;go_upto_region 13 with fail;refine jp ?_;refine ja hB0 Tryz.underlying24 (by rfl) aE ?_;refine ja hD6 Tryz.underlying32 (by rfl) aI ?_;refine jc (.bool true) (fun X hX hF=>mo (kS c A n cp (⟨day,ac,ag,(false,nn,dd),3,pd,-1,w1,w2,w3,w4⟩:En) X hn1 hxs) (by rw [HR2.out n HLN.out])) ?_;refine jm (.bool true) ?_;refine jzb hb fun X8 hX8 hb=>?_;obtain ⟨hB0,hB1,hB2,hD6⟩:=bl4 hX8 hB0 hB1 hB2 hD6;go_upto_region 14 with fail;refine jp ?_;refine jm (.bool true) ?_;refine jm (.bool false) ?_;refine jm (.bool false) ?_;refine jm (.bool true) ?_;refine jm (.bool false) ?_;refine jm (.bool false) ?_;refine jzb hb fun X9 hX9 hb=>?_;obtain ⟨hB0,hB1,hB2,hD6⟩:=bl4 hX9 hB0 hB1 hB2 hD6;go_upto_region 16 with fail;refine aZ 3 [none,none,some (Bo (ifz q0 c) (wiL l (⟨day,ac,ag,(false,nn,dd),3,pd,-1,w1,w2,w3,w4⟩:En)) q0)] (aA (aA (aD (Bo.lasts _ _ _) (aG)))) ?_
   simp only [its,List.take,List.drop,Nat.zero_add,Nat.reduceAdd];refine ja hB0 Tryz.underlying24 (by rfl) aE ?_;refine ja hD6 Tryz.underlying32 (by rfl) aI ?_;refine jk (fun X hX hF=>by rw [HQ.out];exact xR c _ l (⟨day,ac,ag,(false,nn,dd),3,pd,-1,w1,w2,w3,w4⟩:En) X (HES.out X (Since.next hb hX))) ?_;intro v64;refine aM ?_;intro X10 hX10 hF;have hv64:=hF _ _ List.mem_cons_self;obtain ⟨hB0,hB1,hB2,hD6⟩:=bl4 hX10 hB0 hB1 hB2 hD6;have hb:=aF hb hX10;clear hF hX10;obtain ⟨u64,rfl,hu64⟩:=hv64;obtain ⟨A64,c64,rfl⟩:=Es.form hu64;go_upto_region 17 with (refine osn 45 10 64 #[vI (ifz q0 c),.slice A64 ((wiL l (⟨day,ac,ag,(false,nn,dd),3,pd,-1,w1,w2,w3,w4⟩:En))).length c64,vI q0] aR ?_);obtain ⟨Y10,hY9,hD10,hS9⟩:=aQ X10 45 [vI (ifz q0 c),.slice A64 ((wiL l (⟨day,ac,ag,(false,nn,dd),3,pd,-1,w1,w2,w3,w4⟩:En))).length c64,vI q0];rw [← hY9];clear hY9;have hgs10:=hb.size;have hlt10x0:=hB0.lt;have hlt10x1:=hB1.lt;have hlt10x2:=hB2.lt;have hlt10x3:=hD6.lt;obtain ⟨hB0,hB1,hB2,hD6⟩:=bl4 hS9 hB0 hB1 hB2 hD6;replace hu64:=(Es.lasts _) _ _ _ hu64 hS9;have hb:=aF hb hS9;clear hS9;generalize X10.heap.size=g10 at *
   by_cases hq0:q0=0
   ·have HQ0:=Lib.hid hq0
    clear hq0;refine jp ?_;refine jn (vP g10 2) ?_;refine jf _ hD10 2 cY ?_;refine bZ q0 0 HQ0.out ?_;refine jm (.bool true) ?_;refine jm (.bool false) ?_;refine jm (.bool false) ?_;refine jzb hb fun X11 hX11 hb=>?_;replace hu64:=(Es.lasts _) _ _ _ hu64 hX11;obtain ⟨hB0,hB1,hB2,hD6,hD10⟩:=bl5 hX11 hB0 hB1 hB2 hD6 hD10
    have HL:Hid (ajL c l (⟨day,ac,ag,pd,(false,nn,dd),w1,w2,w3,w4⟩:Aj)=wiL l (⟨day,ac,ag,(false,nn,dd),3,pd,-1,w1,w2,w3,w4⟩:En)):=by
     show _=_
     unfold ajL
     rw [HE.out,HWL.out];rw [if_pos HQ0.out,if_pos HQ0.out,if_neg (show ¬ trq (false,nn,dd)=0 from fun h9=>by have h8:=xF HV.out h9;rw [HZ9.out] at h8;cases h8),HA.out]
    go_upto_region 19 with fail;refine jq 1 ?_;refine ja hD10 Tryz.underlying45 (by rfl) aR ?_;refine jzb hb fun X12 hX12 hb=>?_;replace hu64:=(Es.lasts _) _ _ _ hu64 hX12;obtain ⟨hB0,hB1,hB2,hD6,hD10⟩:=bl5 hX12 hB0 hB1 hB2 hD6 hD10;have hu9:=hu64;refine bB rfl 45 (.tmp 4) (.tmp 73) rfl (w.heap.size+2) 45 _ hB2 rfl [vI (ifz q0 c),.slice A64 ((wiL l (⟨day,ac,ag,(false,nn,dd),3,pd,-1,w1,w2,w3,w4⟩:En))).length c64,vI q0] rfl (by rfl) (by intro u hu;simp only [List.mem_cons,List.not_mem_nil,or_false] at hu;rcases hu with rfl|rfl|rfl <;> rfl) aR ?_;intro w9 hR9 hG9;have hb:=aY hG9 hb hb.size (by omega);have hu9:=Es.grown hG9 hu9 hB2
    go_wp2
    refine aL rfl rfl (by rfl) Tryz.underlying45 rfl hR9 aR ⟨_,rfl,⟨_,by rw [HE.out],by rw [HL.out];exact hu9⟩,hb⟩
   ·refine jp ?_
    refine jn (vP g10 2) ?_;refine jf _ hD10 2 cY ?_;refine cC q0 0 (by omega) ?_;refine jm (.bool false) ?_;refine js ?_;refine jm (.bool false) ?_;refine jzb hb fun X11 hX11 hb=>?_;replace hu64:=(Es.lasts _) _ _ _ hu64 hX11;obtain ⟨hB0,hB1,hB2,hD6,hD10⟩:=bl5 hX11 hB0 hB1 hB2 hD6 hD10
    have HL:Hid (ajL c l (⟨day,ac,ag,pd,(false,nn,dd),w1,w2,w3,w4⟩:Aj)=wiL l (⟨day,ac,ag,(false,nn,dd),3,pd,-1,w1,w2,w3,w4⟩:En)):=by
     show _=_
     unfold ajL
     rw [HE.out,HWL.out];rw [if_neg hq0,if_neg hq0]
    go_upto_region 19 with fail;refine jq 1 ?_;refine ja hD10 Tryz.underlying45 (by rfl) aR ?_;refine jzb hb fun X12 hX12 hb=>?_;replace hu64:=(Es.lasts _) _ _ _ hu64 hX12;obtain ⟨hB0,hB1,hB2,hD6,hD10⟩:=bl5 hX12 hB0 hB1 hB2 hD6 hD10;have hu9:=hu64;refine bB rfl 45 (.tmp 4) (.tmp 73) rfl (w.heap.size+2) 45 _ hB2 rfl [vI (ifz q0 c),.slice A64 ((wiL l (⟨day,ac,ag,(false,nn,dd),3,pd,-1,w1,w2,w3,w4⟩:En))).length c64,vI q0] rfl (by rfl) (by intro u hu;simp only [List.mem_cons,List.not_mem_nil,or_false] at hu;rcases hu with rfl|rfl|rfl <;> rfl) aR ?_;intro w9 hR9 hG9;have hb:=aY hG9 hb hb.size (by omega);have hu9:=Es.grown hG9 hu9 hB2
    go_wp2
    refine aL rfl rfl (by rfl) Tryz.underlying45 rfl hR9 aR ⟨_,rfl,⟨_,by rw [HE.out],by rw [HL.out];exact hu9⟩,hb⟩
theorem rajC (c:Int) (v:Value) (l:List En) (q:Aj) (w:World) (hv:Es l v w) (hs:Hid (∀ k,tz (en l k).am.2.1 (en l k).am.2.2 1000000)) (hqs:tz q.am.2.1 q.am.2.2 1000000):Calls Tryz.prog 17 #[.agg #[vI c,v],.agg #[vI q.day,vI q.ac,vI q.ag,vI q.pd,.bool q.am.1,vS q.am.2.1,vS q.am.2.2,vI q.w1,vI q.w2,vI q.w3,vI q.w4]] w fun e w'=>∃ u,e=.returned u∧Bo (ifz (ajE c l q) c) (ajL c l q) (ajE c l q) u w'∧Since w w':=by
 obtain ⟨day,ac,ag,pd,⟨g,nn,dd⟩,w1,w2,w3,w4⟩:=q
 by_cases h0:acE c l=0
 ·cases g with
  | true =>
   exact rajn c v l day ac ag pd w1 w2 w3 w4 nn dd w hv hs hqs h0 
  | false =>
   cases hz:(false == false && nn == [] && dd == []) with
   | true =>
    exact rajz c v l day ac ag pd w1 w2 w3 w4 nn dd w hv hs hqs h0 hz 
   | false =>
    exact rajp c v l day ac ag pd w1 w2 w3 w4 nn dd w hv hs hqs h0 hz 
 ·exact raj0 c v l day ac ag pd w1 w2 w3 w4 g nn dd w hv hs hqs h0
theorem xP (c:Int) (v v2:Value) (l:List En) (w:World) (hv:Es l v w) (hv2:Es l v2 w):Calls Tryz.prog 22 #[.agg #[vI c,v],.agg #[vI c,v2]] w fun e w'=>e=.returned (.bool true)∧Since w w':=by
 obtain ⟨A,n,c1,rfl,hln,hn1,hr⟩:=hv.at;clear hv;obtain ⟨A2,n2,c2,rfl,hln2,_,hr2⟩:=hv2.at;clear hv2
 obtain rfl:n=n2:=by rw [← hln];exact hln2
 have HRX:Hid (∀ X,Since w X→Rd X 13 (.slice A n c1) n (fl enc l)):=fun X h=>Rd.below hr h
 have HRY:Hid (∀ X,Since w X→Rd X 13 (.slice A2 n c2) n (fl enc l)):=fun X h=>Rd.below hr2 h
 have HLN:=Lib.hid hln;clear hr hr2 hln hln2
 go_enter Tryz.func22,Tryz.ntmps22
 go_upto_region 1 with fail;obtain ⟨W0,hW0,hB0,hB1,hb⟩:=bL w 24 24 [vI c,.slice A n c1] [vI c,.slice A2 n c2];rw [← hW0];clear hW0;refine jp ?_;refine jn (vP w.heap.size 0) ?_;refine jf _ hB0 0 aB ?_;refine jn (vP (w.heap.size+1) 0) ?_;refine jf _ hB1 0 aB ?_;refine jv (.bool false) (aS _ _ _ _ (by rfl) .i64 c c (by rfl) (by rfl) false (by rw [decide_eq_true (by omega)];rfl)) ?_;refine jm (.bool false) ?_;refine jn (vP w.heap.size 1) ?_;refine jf _ hB0 1 aK ?_;refine jv (vI n) (aN Tryz.underlying22 _ (by rfl) A n c1 (by rfl) _ rfl) ?_;refine jn (vP (w.heap.size+1) 1) ?_;refine jf _ hB1 1 aK ?_;refine jv (vI n) (aN Tryz.underlying22 _ (by rfl) A2 n c2 (by rfl) _ rfl) ?_;refine jv (.bool false) (aS _ _ _ _ (by rfl) .i64 (n:Int) (n:Int) (by rfl) (by rfl) false (by rw [decide_eq_true (by omega)];rfl)) ?_;refine jm (.bool false) ?_;refine jzb hb fun X1 hX1 hb=>?_;obtain ⟨hB0,hB1⟩:=bl2 hX1 hB0 hB1;go_upto_region 3 with fail;refine jp ?_;refine jm (vI 0) ?_;refine jzb hb fun X2 hX2 hb=>?_;obtain ⟨hB0,hB1⟩:=bl2 hX2 hB0 hB1
 go_wp2
 go_loopw [5] (fun kv wr=>∃ k:Nat,k≤n∧kv=vI k∧Blk wr w.heap.size 24 [vI c,.slice A n c1]∧Blk wr (w.heap.size+1) 24 [vI c,.slice A2 n c2]∧Below w.heap.size w wr) (fun kv _=>n-(intOf kv).toNat)
 case atStart=>exact ⟨0,by omega,rfl,hB0,hB1,hb⟩
 case round =>
  clear hB0 hB1 hb;obtain ⟨k,hk,rfl,hB0,hB1,hb⟩:=hrel
  rcases Nat.lt_or_ge k n with hlt|hlt
  ·obtain ⟨b,off,rfl,hbb,hcx⟩:=fI (HRX.out _ hb) HLN.out hlt
   obtain ⟨b2,off2,rfl,hbb2,hcx2⟩:=fI (HRY.out _ hb) HLN.out hlt;obtain ⟨x,x9⟩:∃ x,x=en l k:=⟨_,rfl⟩;rw [← x9] at hcx hcx2;clear x9
   change Cl wr b (off+k * 13) (eL x) at hcx
   change Cl wr b2 (off2+k * 13) (eL x) at hcx2
   go_upto_region 4 with fail;refine jp ?_;refine jm (vI k) ?_;refine jn (vP w.heap.size 1) ?_;refine jf _ hB0 1 aK ?_;refine jv (vI n) (aN Tryz.underlying22 _ (by rfl) (some ⟨b,off,none⟩) n c1 (by rfl) _ rfl) ?_;refine cP (k:Int) (n:Int) (by omega) ?_;refine jzb hb fun X1 hX1 hb=>?_;obtain ⟨hB0,hB1⟩:=bl2 hX1 hB0 hB1;have hcx:=hcx.below hX1 hbb;have hcx2:=hcx2.below hX1 hbb2;replace hbb:=Nat.lt_of_lt_of_le hbb (hX1).size;replace hbb2:=Nat.lt_of_lt_of_le hbb2 (hX1).size;go_upto_region 6 with fail;refine jd ?_;refine jn (vP w.heap.size 1) ?_;refine jf _ hB0 1 aK ?_;refine jm (vI k) ?_;refine jv (vP b (off+k * 13)) (aW Tryz.underlying22 aI _ _ (by rfl) b (off) n c1 k (by omega) (by rfl) (by rfl) rfl) ?_;refine jg (.agg #[vI x.day,vI x.deb,vI x.cre,.bool x.am.1,st x.am.2.1,st x.am.2.2,vI x.kd,vI x.pd,vI x.rf,vI x.w1,vI x.w2,vI x.w3,vI x.w4]) (fun X hX hF=>cH 32 _ (by rfl) b (off+k * 13) (by rfl) Tryz.underlying32 rfl (eL x) X (Cl.part (hcx.below hX hbb) 0 _ (by rfl)) aI) ?_;refine jn (vP (w.heap.size+1) 1) ?_
   refine jf _ hB1 1 aK ?_;refine jm (vI k) ?_;refine jv (vP b2 (off2+k * 13)) (aW Tryz.underlying22 aI _ _ (by rfl) b2 (off2) n c2 k (by omega) (by rfl) (by rfl) rfl) ?_;refine jg (.agg #[vI x.day,vI x.deb,vI x.cre,.bool x.am.1,st x.am.2.1,st x.am.2.2,vI x.kd,vI x.pd,vI x.rf,vI x.w1,vI x.w2,vI x.w3,vI x.w4]) (fun X hX hF=>cH 32 _ (by rfl) b2 (off2+k * 13) (by rfl) Tryz.underlying32 rfl (eL x) X (Cl.part (hcx2.below hX hbb2) 0 _ (by rfl)) aI) ?_;refine jv (.bool false) (jF _ _ (by rfl) x x (by rfl) (by rfl) false (by simp)) ?_;refine jzb hb fun X2 hX2 hb=>?_;obtain ⟨hB0,hB1⟩:=bl2 hX2 hB0 hB1;have hcx:=hcx.below hX2 hbb;have hcx2:=hcx2.below hX2 hbb2;replace hbb:=Nat.lt_of_lt_of_le hbb (hX2).size;replace hbb2:=Nat.lt_of_lt_of_le hbb2 (hX2).size;go_upto_region 5 with fail;refine jp ?_;refine jm (vI k) ?_;refine jv (vI ((k+1:Nat):Int)) (aU _ _ _ _ (by rfl) (k:Int) 1 ((k+1:Nat):Int) (by rfl) (by rfl) (by omega) (by omega) (by omega)) ?_;refine jm (vI ((k+1:Nat):Int)) ?_;refine jzb hb fun X3 hX3 hb=>?_;obtain ⟨hB0,hB1⟩:=bl2 hX3 hB0 hB1
   go_wp2
   go_roundw
   case rel=>exact ⟨k+1,by omega,rfl,hB0,hB1,hb⟩
   case measure=>simp [intOf];omega
  ·have hnk:n≤k:=hlt
   go_upto_region 4 with fail;refine jp ?_;refine jm (vI k) ?_;refine jn (vP w.heap.size 1) ?_;refine jf _ hB0 1 aK ?_;refine jv (vI n) (aN Tryz.underlying22 _ (by rfl) A n c1 (by rfl) _ rfl) ?_;refine bS (k:Int) (n:Int) (by omega) ?_;refine jzb hb fun X1 hX1 hb=>?_;obtain ⟨hB0,hB1⟩:=bl2 hX1 hB0 hB1;go_upto_region 8 with fail;refine jp ?_;refine jm (.bool true) ?_;refine jzb hb fun X2 hX2 hb=>?_;obtain ⟨hB0,hB1⟩:=bl2 hX2 hB0 hB1
   go_wp2
   go_ret
   exact ⟨rfl,hb⟩
end Go.Proofs.YtffgfkcljcollaaGreatDoor

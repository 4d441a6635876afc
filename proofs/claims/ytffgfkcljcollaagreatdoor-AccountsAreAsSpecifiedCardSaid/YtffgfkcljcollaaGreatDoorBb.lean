/- account: Reverse. -/
import Derived.Test.YtffgfkcljcollaaGreatDoorAf
import Derived.Test.YtffgfkcljcollaaGreatDoorLlz
set_option linter.unusedSimpArgs false
set_option linter.unusedVariables false
set_option maxRecDepth 100000
set_option maxHeartbeats 1600000
namespace Go.Proofs.YtffgfkcljcollaaGreatDoor
open Go.RowKit
theorem rev0 (c:Int) (v:Value) (l:List En) (a:Int) (day:Int) (w:World) (hv:Es l v w) (hs:Hid (∀ k,tz (en l k).am.2.1 (en l k).am.2.2 1000000)) (h0:acE c l≠0):Calls Tryz.prog 14 #[.agg #[vI c,v],vI a,vI day] w fun e w'=>∃ u,e=.returned u∧Tp (Bks (ifz (rvE c l a day) c) (rvL c l a day)) (rvE c l a day) u w'∧Since w w':=by
 obtain ⟨z,z9⟩:∃ z,acE c l=z:=⟨_,rfl⟩;have HZ:=Lib.hid z9
 have hz0:z≠0:=by rw [← z9];exact h0
 clear z9 h0
 have HE:Hid (rvE c l a day=z):=by
  show _=_
  unfold rvE
  rw [HZ.out,if_pos hz0]
 obtain ⟨A,n,cp,rfl,hln,hn1,hr⟩:=hv.at;clear hv;have HRX:=bV hr;have HLN:=Lib.hid hln;clear hr;have HES:=cA HLN HRX
 go_enter Tryz.func14,Tryz.ntmps14
 go_upto_region 1 with fail;obtain ⟨W0,hW0,hB0,hB1,hb⟩:=bL w 24 24 [vI c,.slice A n cp] [vI 0,.slice none 0 0];rw [← hW0];clear hW0;refine jp ?_;refine ja hB0 Tryz.underlying24 (by rfl) aE ?_;refine jc (vI z) (fun X hX hF=>mo (fR c _ l X (HES.out X (Since.next hb hX)) hs) (by rw [HZ.out])) ?_;refine jm (vI z) ?_;refine jzb hb fun X1 hX1 hb=>?_;obtain ⟨hB0,hB1⟩:=bl2 hX1 hB0 hB1;go_upto_region 2 with fail;refine jp ?_;refine jm (vI z) ?_;refine jv (.bool true) (aS _ _ _ _ (by rfl) .i64 z 0 (by rfl) (by rfl) true (by rw [decide_eq_false (by omega)];rfl)) ?_;refine jzb hb fun X2 hX2 hb=>?_;obtain ⟨hB0,hB1⟩:=bl2 hX2 hB0 hB1
 have HL:Hid (rvL c l a day=[]):=by
  show _=_
  unfold rvL
  rw [HE.out,if_neg hz0]
 go_upto_region 3 with fail;refine jq 2 ?_;refine jn (.agg #[vI 0,.slice none 0 0]) ?_;refine jm (vI z) ?_;refine jzb hb fun X3 hX3 hb=>?_;obtain ⟨hB0,hB1⟩:=bl2 hX3 hB0 hB1;refine osb 24 6 13 (w.heap.size+1) 24 hB1 [vI 0,.slice none 0 0] aE ?_;intro w9 hR9 hO9 hB9 hs9;have hb9:=hB9 _ _ hb (by omega);have hB0:=hO9 _ _ _ (by omega) hB0;clear hO9 hB9
 go_wp2
 refine bD (v:=vI z) rfl rfl (by rfl) (by rfl) Tryz.underlying24 rfl hR9 aE ⟨_,rfl,⟨_,by rw [HE.out],by rw [HE.out,HL.out,show ifz z c=0 from if_neg hz0];exact ⟨_,rfl,bW _⟩⟩,hb9⟩
theorem rev1 (c:Int) (v:Value) (l:List En) (a:Int) (day:Int) (w:World) (hv:Es l v w) (hs:Hid (∀ k,tz (en l k).am.2.1 (en l k).am.2.2 1000000)) (HC:Hid (acE c l=0)) (h:a<0):Calls Tryz.prog 14 #[.agg #[vI c,v],vI a,vI day] w fun e w'=>∃ u,e=.returned u∧Tp (Bks (ifz (rvE c l a day) c) (rvL c l a day)) (rvE c l a day) u w'∧Since w w':=by
 obtain ⟨A,n,cp,rfl,hln,hn1,hr⟩:=hv.at;clear hv;have HRX:=bV hr;have HLN:=Lib.hid hln;clear hr;have HES:=cA HLN HRX
 go_enter Tryz.func14,Tryz.ntmps14
 go_upto_region 1 with fail;obtain ⟨W0,hW0,hB0,hB1,hb⟩:=bL w 24 24 [vI c,.slice A n cp] [vI 0,.slice none 0 0];rw [← hW0];clear hW0;refine jp ?_;refine ja hB0 Tryz.underlying24 (by rfl) aE ?_;refine jc (vI 0) (fun X hX hF=>mo (fR c _ l X (HES.out X (Since.next hb hX)) hs) (by rw [HC.out])) ?_;refine jm (vI 0) ?_;refine jzb hb fun X1 hX1 hb=>?_;obtain ⟨hB0,hB1⟩:=bl2 hX1 hB0 hB1;go_upto_region 2 with fail;refine jp ?_;refine jm (vI 0) ?_;refine jv (.bool false) (aS _ _ _ _ (by rfl) .i64 0 0 (by rfl) (by rfl) false (by rw [decide_eq_true (by omega)];rfl)) ?_;refine jzb hb fun X2 hX2 hb=>?_;obtain ⟨hB0,hB1⟩:=bl2 hX2 hB0 hB1;go_upto_region 4 with fail;refine jp ?_;refine jm (vI a) ?_;refine cP a 0 (by omega) ?_;refine jm (.bool true) ?_;refine js ?_;refine js ?_;refine js ?_;refine js ?_;refine js ?_;refine jm (.bool true) ?_;refine jzb hb fun X3 hX3 hb=>?_;obtain ⟨hB0,hB1⟩:=bl2 hX3 hB0 hB1
 have HE:Hid (rvE c l a day=8):=by
  show _=_
  unfold rvE
  rw [HC.out,if_neg (by decide),if_pos (.inl h)]
 have HL:Hid (rvL c l a day=[]):=by
  show _=_
  unfold rvL
  rw [HE.out,if_neg (by decide)]
 go_upto_region 5 with fail;refine jq 1 ?_;refine jn (.agg #[vI 0,.slice none 0 0]) ?_;refine jzb hb fun X4 hX4 hb=>?_;obtain ⟨hB0,hB1⟩:=bl2 hX4 hB0 hB1;refine osb 24 6 24 (w.heap.size+1) 24 hB1 [vI 0,.slice none 0 0] aE ?_;intro w9 hR9 hO9 hB9 hs9;have hb9:=hB9 _ _ hb (by omega);have hB0:=hO9 _ _ _ (by omega) hB0;clear hO9 hB9
 go_wp2
 refine bD (v:=vI 8) rfl rfl (by rfl) (by rfl) Tryz.underlying24 rfl hR9 aE ⟨_,rfl,⟨_,by rw [HE.out],by rw [HE.out,HL.out];exact ⟨_,rfl,bW _⟩⟩,hb9⟩
theorem rev2 (c:Int) (v:Value) (l:List En) (a:Int) (day:Int) (w:World) (hv:Es l v w) (hs:Hid (∀ k,tz (en l k).am.2.1 (en l k).am.2.2 1000000)) (HC:Hid (acE c l=0)) (h0:0≤a) (h:(l.length:Int)≤a):Calls Tryz.prog 14 #[.agg #[vI c,v],vI a,vI day] w fun e w'=>∃ u,e=.returned u∧Tp (Bks (ifz (rvE c l a day) c) (rvL c l a day)) (rvE c l a day) u w'∧Since w w':=by
 obtain ⟨A,n,cp,rfl,hln,hn1,hr⟩:=hv.at;clear hv;have HRX:=bV hr;have HLN:=Lib.hid hln;clear hr;have HES:=cA HLN HRX
 go_enter Tryz.func14,Tryz.ntmps14
 go_upto_region 1 with fail;obtain ⟨W0,hW0,hB0,hB1,hb⟩:=bL w 24 24 [vI c,.slice A n cp] [vI 0,.slice none 0 0];rw [← hW0];clear hW0;refine jp ?_;refine ja hB0 Tryz.underlying24 (by rfl) aE ?_;refine jc (vI 0) (fun X hX hF=>mo (fR c _ l X (HES.out X (Since.next hb hX)) hs) (by rw [HC.out])) ?_;refine jm (vI 0) ?_;refine jzb hb fun X1 hX1 hb=>?_;obtain ⟨hB0,hB1⟩:=bl2 hX1 hB0 hB1;go_upto_region 2 with fail;refine jp ?_;refine jm (vI 0) ?_;refine jv (.bool false) (aS _ _ _ _ (by rfl) .i64 0 0 (by rfl) (by rfl) false (by rw [decide_eq_true (by omega)];rfl)) ?_;refine jzb hb fun X2 hX2 hb=>?_;obtain ⟨hB0,hB1⟩:=bl2 hX2 hB0 hB1
 have hn9:(n:Int)≤a:=by rw [← HLN.out];exact h
 go_upto_region 4 with fail;refine jp ?_;refine jm (vI a) ?_;refine bS a 0 (by omega) ?_;refine jm (.bool false) ?_;refine jm (vI a) ?_;refine jn (vP w.heap.size 1) ?_;refine jf _ hB0 1 aK ?_;refine jv (vI n) (aN Tryz.underlying22 _ (by rfl) A n cp (by rfl) _ rfl) ?_;refine fD a (n:Int) (by omega) ?_;refine jm (.bool true) ?_;refine jzb hb fun X3 hX3 hb=>?_;obtain ⟨hB0,hB1⟩:=bl2 hX3 hB0 hB1
 have HE:Hid (rvE c l a day=8):=by
  show _=_
  unfold rvE
  rw [HC.out,if_neg (by decide),if_pos (.inr h)]
 have HL:Hid (rvL c l a day=[]):=by
  show _=_
  unfold rvL
  rw [HE.out,if_neg (by decide)]
 go_upto_region 5 with fail;refine jq 1 ?_;refine jn (.agg #[vI 0,.slice none 0 0]) ?_;refine jzb hb fun X4 hX4 hb=>?_;obtain ⟨hB0,hB1⟩:=bl2 hX4 hB0 hB1;refine osb 24 6 24 (w.heap.size+1) 24 hB1 [vI 0,.slice none 0 0] aE ?_;intro w9 hR9 hO9 hB9 hs9;have hb9:=hB9 _ _ hb (by omega);have hB0:=hO9 _ _ _ (by omega) hB0;clear hO9 hB9
 go_wp2
 refine bD (v:=vI 8) rfl rfl (by rfl) (by rfl) Tryz.underlying24 rfl hR9 aE ⟨_,rfl,⟨_,by rw [HE.out],by rw [HE.out,HL.out];exact ⟨_,rfl,bW _⟩⟩,hb9⟩
theorem rev3 (c:Int) (v:Value) (l:List En) (k:Nat) (day:Int) (w:World) (hv:Es l v w) (hs:Hid (∀ k,tz (en l k).am.2.1 (en l k).am.2.2 1000000)) (HC:Hid (acE c l=0)) (hk:k<l.length):Calls Tryz.prog 14 #[.agg #[vI c,v],vI k,vI day] w fun e w'=>∃ u,e=.returned u∧Tp (Bks (ifz (rvE c l (k:Int) day) c) (rvL c l (k:Int) day)) (rvE c l (k:Int) day) u w'∧Since w w':=by
 obtain ⟨A,n,cp,rfl,hln,hn1,hr⟩:=hv.at;clear hv;have HRX:=bV hr;have HLN:=Lib.hid hln;clear hr;have HES:=cA HLN HRX
 have hlt:k<n:=by rw [← hln];exact hk
 have hb:Below w.heap.size w w:=Below.refl _ _;obtain ⟨b,off,rfl,hbb,hcx⟩:=fI (HRX.out _ hb) HLN.out hlt;obtain ⟨x,x9⟩:∃ x,x=en l k:=⟨_,rfl⟩;have HX:=Lib.hid x9;clear x9;rw [← HX.out] at hcx
 change Cl w b (off+k * 13) (eL x) at hcx
 clear hb
 go_enter Tryz.func14,Tryz.ntmps14
 go_upto_region 1 with fail;obtain ⟨W0,hW0,hB0,hB1,hb⟩:=bL w 24 24 [vI c,.slice (some ⟨b,off,none⟩) n cp] [vI 0,.slice none 0 0];rw [← hW0];clear hW0;have hcx:=hcx.below hb hbb;replace hbb:=Nat.lt_of_lt_of_le hbb hb.size;refine jp ?_;refine ja hB0 Tryz.underlying24 (by rfl) aE ?_;refine jc (vI 0) (fun X hX hF=>mo (fR c _ l X (HES.out X (Since.next hb hX)) hs) (by rw [HC.out])) ?_;refine jm (vI 0) ?_;refine jzb hb fun X1 hX1 hb=>?_;obtain ⟨hB0,hB1⟩:=bl2 hX1 hB0 hB1;have hcx:=hcx.below hX1 hbb;replace hbb:=Nat.lt_of_lt_of_le hbb (hX1).size;go_upto_region 2 with fail;refine jp ?_;refine jm (vI 0) ?_;refine jv (.bool false) (aS _ _ _ _ (by rfl) .i64 0 0 (by rfl) (by rfl) false (by rw [decide_eq_true (by omega)];rfl)) ?_;refine jzb hb fun X2 hX2 hb=>?_;obtain ⟨hB0,hB1⟩:=bl2 hX2 hB0 hB1;have hcx:=hcx.below hX2 hbb;replace hbb:=Nat.lt_of_lt_of_le hbb (hX2).size;go_upto_region 4 with fail;refine jp ?_;refine jm (vI k) ?_;refine bS (k:Int) 0 (by omega) ?_;refine jm (.bool false) ?_;refine jm (vI k) ?_;refine jn (vP w.heap.size 1) ?_;refine jf _ hB0 1 aK ?_;refine jv (vI n) (aN Tryz.underlying22 _ (by rfl) (some ⟨b,off,none⟩) n cp (by rfl) _ rfl) ?_;refine eD (k:Int) (n:Int) (by omega) ?_;refine jm (.bool false) ?_;refine jzb hb fun X3 hX3 hb=>?_;obtain ⟨hB0,hB1⟩:=bl2 hX3 hB0 hB1;have hcx:=hcx.below hX3 hbb
 replace hbb:=Nat.lt_of_lt_of_le hbb (hX3).size
 obtain hU9|hU9:und l (k:Int)=true∨und l (k:Int)=false:=by cases und l (k:Int) <;> simp
 ·have HU:=Lib.hid hU9
  clear hU9;go_upto_region 6 with fail;refine jp ?_;refine jn (vP w.heap.size 1) ?_;refine jf _ hB0 1 aK ?_;refine jm (vI k) ?_;refine jc (.bool true) (fun X hX hF=>mo (qVc _ l (k:Int) X (HES.out X (Since.next hb hX))) (by rw [HU.out])) ?_;refine jm (.bool true) ?_;refine js ?_;refine js ?_;refine js ?_;refine js ?_;refine js ?_;refine js ?_;refine js ?_;refine js ?_;refine jm (.bool true) ?_;refine jzb hb fun X4 hX4 hb=>?_;obtain ⟨hB0,hB1⟩:=bl2 hX4 hB0 hB1;have hcx:=hcx.below hX4 hbb;replace hbb:=Nat.lt_of_lt_of_le hbb (hX4).size
  have HE:Hid (rvE c l (k:Int) day=4):=by
   show _=_
   unfold rvE
   rw [HC.out,if_neg (by decide),if_neg (by rw [HLN.out];omega),if_pos (.inl HU.out)]
  have HL:Hid (rvL c l (k:Int) day=[]):=by
   show _=_
   unfold rvL
   rw [HE.out,if_neg (by decide)]
  go_upto_region 7 with fail;refine jq 1 ?_;refine jn (.agg #[vI 0,.slice none 0 0]) ?_;refine jzb hb fun X5 hX5 hb=>?_;obtain ⟨hB0,hB1⟩:=bl2 hX5 hB0 hB1;refine osb 24 6 39 (w.heap.size+1) 24 hB1 [vI 0,.slice none 0 0] aE ?_;intro w9 hR9 hO9 hB9 hs9;have hb9:=hB9 _ _ hb (by omega);have hB0:=hO9 _ _ _ (by omega) hB0;clear hO9 hB9
  go_wp2
  refine bD (v:=vI 4) rfl rfl (by rfl) (by rfl) Tryz.underlying24 rfl hR9 aE ⟨_,rfl,⟨_,by rw [HE.out],by rw [HE.out,HL.out];exact ⟨_,rfl,bW _⟩⟩,hb9⟩
 ·have HU:=Lib.hid hU9
  clear hU9
  by_cases h49:(en l k).kd=4
  ·have h4:=Lib.hid h49
   clear h49
   have h4':x.kd=4:=by rw [HX.out];exact h4.out
   have H4:=Lib.hid h4';clear h4';go_upto_region 6 with fail;refine jp ?_;refine jn (vP w.heap.size 1) ?_;refine jf _ hB0 1 aK ?_;refine jm (vI k) ?_;refine jc (.bool false) (fun X hX hF=>mo (qVc _ l (k:Int) X (HES.out X (Since.next hb hX))) (by rw [HU.out])) ?_;refine jm (.bool false) ?_;refine jn (vP w.heap.size 1) ?_;refine jf _ hB0 1 aK ?_;refine jm (vI k) ?_;refine jv (vP b (off+k * 13)) (aW Tryz.underlying22 aI _ _ (by rfl) b (off) n cp k (by omega) (by rfl) (by rfl) rfl) ?_;refine jn (vP b (off+k * 13+6)) ?_;refine jn (vP b (off+k * 13+6)) ?_;refine jg (vI x.kd) (fun X hX hF=>aV 3 _ (by rfl) b (off+k * 13+6) (by rfl) _ X ((hcx.below hX hbb) 6 _ rfl) (fun X u h=>aB b (off+k * 13+6) X u h)) ?_;refine bZ x.kd 4 H4.out ?_;refine jm (.bool true) ?_;refine jzb hb fun X4 hX4 hb=>?_;obtain ⟨hB0,hB1⟩:=bl2 hX4 hB0 hB1;have hcx:=hcx.below hX4 hbb;replace hbb:=Nat.lt_of_lt_of_le hbb (hX4).size
   have HE:Hid (rvE c l (k:Int) day=4):=by
    show _=_
    unfold rvE
    rw [HC.out,if_neg (by decide),if_neg (by rw [HLN.out];omega),if_pos (.inr (by rw [Int.toNat_natCast];exact h4.out))]
   have HL:Hid (rvL c l (k:Int) day=[]):=by
    show _=_
    unfold rvL
    rw [HE.out,if_neg (by decide)]
   go_upto_region 7 with fail;refine jq 1 ?_;refine jn (.agg #[vI 0,.slice none 0 0]) ?_;refine jzb hb fun X5 hX5 hb=>?_;obtain ⟨hB0,hB1⟩:=bl2 hX5 hB0 hB1;refine osb 24 6 39 (w.heap.size+1) 24 hB1 [vI 0,.slice none 0 0] aE ?_;intro w9 hR9 hO9 hB9 hs9;have hb9:=hB9 _ _ hb (by omega);have hB0:=hO9 _ _ _ (by omega) hB0;clear hO9 hB9
   go_wp2
   refine bD (v:=vI 4) rfl rfl (by rfl) (by rfl) Tryz.underlying24 rfl hR9 aE ⟨_,rfl,⟨_,by rw [HE.out],by rw [HE.out,HL.out];exact ⟨_,rfl,bW _⟩⟩,hb9⟩
  ·have h4:=h49
   clear h49
   rcases (show (day<0∨14609<day)∨(0≤day∧day≤14609) by omega) with hy|hy
   ·have h4':x.kd≠4:=by rw [HX.out];exact h4
    have HD:Hid ((decide (0≤day) && decide (day≤14609))=false):=by
     show _=_
     rcases hy with h9|h9
     ·rw [decide_eq_false (show ¬ 0≤day by omega)];rfl
     ·rw [decide_eq_false (show ¬ day≤14609 by omega),Bool.and_false]
    go_upto_region 6 with fail;refine jp ?_;refine jn (vP w.heap.size 1) ?_;refine jf _ hB0 1 aK ?_;refine jm (vI k) ?_;refine jc (.bool false) (fun X hX hF=>mo (qVc _ l (k:Int) X (HES.out X (Since.next hb hX))) (by rw [HU.out])) ?_;refine jm (.bool false) ?_;refine jn (vP w.heap.size 1) ?_;refine jf _ hB0 1 aK ?_;refine jm (vI k) ?_;refine jv (vP b (off+k * 13)) (aW Tryz.underlying22 aI _ _ (by rfl) b (off) n cp k (by omega) (by rfl) (by rfl) rfl) ?_;refine jn (vP b (off+k * 13+6)) ?_;refine jn (vP b (off+k * 13+6)) ?_;refine jg (vI x.kd) (fun X hX hF=>aV 3 _ (by rfl) b (off+k * 13+6) (by rfl) _ X ((hcx.below hX hbb) 6 _ rfl) (fun X u h=>aB b (off+k * 13+6) X u h)) ?_;refine cC x.kd 4 (by omega) ?_;refine jm (.bool false) ?_;refine jzb hb fun X4 hX4 hb=>?_;obtain ⟨hB0,hB1⟩:=bl2 hX4 hB0 hB1;have hcx:=hcx.below hX4 hbb;replace hbb:=Nat.lt_of_lt_of_le hbb (hX4).size;go_upto_region 8 with fail;refine jp ?_;refine jm (vI day) ?_;refine jc (.bool false) (fun X hX hF=>mo (iS day X) (by rw [HD.out])) ?_;refine jm (.bool true) ?_;refine jzb hb fun X5 hX5 hb=>?_;obtain ⟨hB0,hB1⟩:=bl2 hX5 hB0 hB1
    have HE:Hid (rvE c l (k:Int) day=3):=by
     show _=_
     unfold rvE
     rw [HC.out,if_neg (by decide),if_neg (by rw [HLN.out];omega),if_neg (by rw [Int.toNat_natCast];rintro (h9|h9);rw [HU.out] at h9;cases h9;exact h4 h9),if_pos hy]
    have HL:Hid (rvL c l (k:Int) day=[]):=by
     show _=_
     unfold rvL
     rw [HE.out,if_neg (by decide)]
    go_upto_region 9 with fail;refine jq 1 ?_;refine jn (.agg #[vI 0,.slice none 0 0]) ?_;refine jzb hb fun X6 hX6 hb=>?_;obtain ⟨hB0,hB1⟩:=bl2 hX6 hB0 hB1;refine osb 24 6 43 (w.heap.size+1) 24 hB1 [vI 0,.slice none 0 0] aE ?_;intro w9 hR9 hO9 hB9 hs9;have hb9:=hB9 _ _ hb (by omega);have hB0:=hO9 _ _ _ (by omega) hB0;clear hO9 hB9
    go_wp2
    refine bD (v:=vI 3) rfl rfl (by rfl) (by rfl) Tryz.underlying24 rfl hR9 aE ⟨_,rfl,⟨_,by rw [HE.out],by rw [HE.out,HL.out];exact ⟨_,rfl,bW _⟩⟩,hb9⟩
   ·have h4':x.kd≠4:=by rw [HX.out];exact h4
    have HD:Hid ((decide (0≤day) && decide (day≤14609))=true):=by
     show _=_
     rw [decide_eq_true hy.1,decide_eq_true hy.2];rfl
    obtain ⟨q,q9⟩:∃ q,q=dD l (opp x (k:Int) day):=⟨_,rfl⟩;have HQ:=Lib.hid q9;clear q9
    have HE:Hid (rvE c l (k:Int) day=q):=by
     show _=_
     unfold rvE
     rw [HC.out,if_neg (by decide),if_neg (by rw [HLN.out];omega),if_neg (by rw [Int.toNat_natCast];rintro (h9|h9);rw [HU.out] at h9;cases h9;exact h4 h9),if_neg (by omega),Int.toNat_natCast,← HX.out,HQ.out]
    have HL:Hid (rvL c l (k:Int) day=wiL l (opp x (k:Int) day)):=by
     show _=_
     unfold rvL wiL
     rw [HE.out,← HQ.out,Int.toNat_natCast,← HX.out]
    go_upto_region 6 with fail;refine jp ?_;refine jn (vP w.heap.size 1) ?_;refine jf _ hB0 1 aK ?_;refine jm (vI k) ?_;refine jc (.bool false) (fun X hX hF=>mo (qVc _ l (k:Int) X (HES.out X (Since.next hb hX))) (by rw [HU.out])) ?_;refine jm (.bool false) ?_;refine jn (vP w.heap.size 1) ?_;refine jf _ hB0 1 aK ?_;refine jm (vI k) ?_;refine jv (vP b (off+k * 13)) (aW Tryz.underlying22 aI _ _ (by rfl) b (off) n cp k (by omega) (by rfl) (by rfl) rfl) ?_;refine jn (vP b (off+k * 13+6)) ?_;refine jn (vP b (off+k * 13+6)) ?_;refine jg (vI x.kd) (fun X hX hF=>aV 3 _ (by rfl) b (off+k * 13+6) (by rfl) _ X ((hcx.below hX hbb) 6 _ rfl) (fun X u h=>aB b (off+k * 13+6) X u h)) ?_;refine cC x.kd 4 (by omega) ?_;refine jm (.bool false) ?_;refine jzb hb fun X4 hX4 hb=>?_;obtain ⟨hB0,hB1⟩:=bl2 hX4 hB0 hB1;have hcx:=hcx.below hX4 hbb;replace hbb:=Nat.lt_of_lt_of_le hbb (hX4).size;go_upto_region 8 with fail;refine jp ?_;refine jm (vI day) ?_;refine jc (.bool true) (fun X hX hF=>mo (iS day X) (by rw [HD.out])) ?_;refine jm (.bool false) ?_;refine jzb hb fun X5 hX5 hb=>?_;obtain ⟨hB0,hB1⟩:=bl2 hX5 hB0 hB1;go_upto_region 10 with fail;refine kW 2 8 [none,none,none,none,none,none,some (Tp (Bks (ifz q c) (wiL l (opp x (k:Int) day))) q),some (Bks (ifz q c) (wiL l (opp x (k:Int) day)))] (by kernel_rfl) (by kernel_rfl) (by kernel_rfl) (by first|(rintro ⟨_,_,h9,_⟩;cases h9;done)|(rintro ⟨_,_,_,h9,_⟩;cases h9;done)) (by first|(rintro ch a w ⟨_,_,h9,_⟩;cases h9;done)|(rintro ch a w ⟨_,h9,_⟩;cases h9;done)) rfl (aA (aA (aA (aA (aA (aA (aD (Tp.lasts (Bks.lasts _ _) _) (aD (Bks.lasts _ _) (aG))))))))) ?_
    simp only [its,List.length_cons,List.length_nil,Nat.zero_add,Nat.reduceAdd,Nat.reduceSub,List.take_succ_cons,List.take_zero,List.drop_succ_cons,List.drop_zero];refine ja hB0 Tryz.underlying24 (by rfl) aE ?_;refine jn (vP w.heap.size 1) ?_;refine jf _ hB0 1 aK ?_;refine jm (vI k) ?_;refine jm (vI day) ?_;refine jc (.agg #[vI (opp x (k:Int) day).day,vI (opp x (k:Int) day).deb,vI (opp x (k:Int) day).cre,.bool (opp x (k:Int) day).am.1,st ((opp x (k:Int) day).am.2.1),st ((opp x (k:Int) day).am.2.2),vI (opp x (k:Int) day).kd,vI (opp x (k:Int) day).pd,vI (opp x (k:Int) day).rf,vI (opp x (k:Int) day).w1,vI (opp x (k:Int) day).w2,vI (opp x (k:Int) day).w3,vI (opp x (k:Int) day).w4]) (fun X hX hF=>oppC _ l k day x X (HES.out X (Since.next hb hX)) (by rw [HLN.out];exact hlt) HX.out) ?_;refine jk (fun X hX hF=>by rw [HQ.out];exact xC c _ l (opp x (k:Int) day) X (HES.out X (Since.next hb hX))) ?_;intro v50;refine bP (by rfl) (fun X hX hF=>by obtain ⟨u9,h9,h8⟩:=(hF _ _ List.mem_cons_self rfl);subst h9;exact ⟨u9,X,rfl,h8,Below.refl _ _⟩) ?_;intro v51;simp only [pX];refine jg (vI q) (fun X hX hF=>by obtain ⟨u9,h9,_⟩:=(hF _ _ (List.mem_cons_of_mem _ List.mem_cons_self) rfl);subst h9;rfl) ?_;refine aM ?_;intro X6 hX6 hF;have hv50:=hF _ _ (List.mem_cons_of_mem _ List.mem_cons_self)
    have hv51:=hF _ _ List.mem_cons_self;obtain ⟨hB0,hB1⟩:=bl2 hX6 hB0 hB1;have hb:=aF hb hX6;clear hF hX6;obtain ⟨u51,rfl,hu51⟩:=hv51;obtain ⟨A51,c51,rfl⟩:=Es.form hu51;clear hv50;refine bB rfl 24 (.tmp 6) (.tmp 51) rfl (w.heap.size+1) 24 _ hB1 rfl [vI (ifz q c),.slice A51 (wiL l (opp x (k:Int) day)).length c51] rfl (by rfl) (by intro u hu;simp only [List.mem_cons,List.not_mem_nil,or_false] at hu;rcases hu with rfl|rfl <;> rfl) aE ?_;intro w9s hR9 hG9;have hb:=aY hG9 hb hb.size (by omega);replace hB0:=aO hG9 hB0 (by omega);replace hu51:=Es.grown hG9 hu51 hB1;have hB1:=hR9;clear hG9 hR9
    go_wp2
    refine bD (v:=vI q) rfl rfl (by rfl) (by rfl) Tryz.underlying24 rfl hB1 aE ⟨_,rfl,⟨_,by rw [HE.out],by rw [HE.out,HL.out];exact ⟨_,rfl,hu51⟩⟩,hb⟩
theorem revC (c:Int) (v:Value) (l:List En) (a:Int) (day:Int) (w:World) (hv:Es l v w) (hs:Hid (∀ k,tz (en l k).am.2.1 (en l k).am.2.2 1000000)):Calls Tryz.prog 14 #[.agg #[vI c,v],vI a,vI day] w fun e w'=>∃ u,e=.returned u∧Tp (Bks (ifz (rvE c l a day) c) (rvL c l a day)) (rvE c l a day) u w'∧Since w w':=by
 by_cases h0:acE c l=0
 ·rcases (show a<0∨(0≤a∧(l.length:Int)≤a)∨(0≤a∧a<(l.length:Int)) by omega) with h|h|h
  ·exact rev1 c v l a day w hv hs h0 h
  ·exact rev2 c v l a day w hv hs h0 h.1 h.2
  ·obtain ⟨k,rfl⟩:∃ k:Nat,a=(k:Int):=⟨a.toNat,by omega⟩
   have hk:k<l.length:=by omega
   exact rev3 c v l k day w hv hs h0 hk
 ·exact rev0 c v l a day w hv hs h0
end Go.Proofs.YtffgfkcljcollaaGreatDoor

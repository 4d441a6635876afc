/- account: Balance, Sums. -/
import Derived.WalkSpells
import Derived.Lib.SliceRun
import Derived.Test.YtffgfkcljcollaaGreatDoorBe
import Derived.Test.YtffgfkcljcollaaGreatDoorME
import Derived.Test.YtffgfkcljcollaaGreatDoorBa
set_option linter.unusedSimpArgs false
set_option linter.unusedVariables false
set_option maxRecDepth 100000
set_option maxHeartbeats 1600000
namespace Go.Proofs.YtffgfkcljcollaaGreatDoor
open Go.RowKit
def Rqo (B:Nat) (l:List Rat) (v:Value) (X:World):Prop:=X.ownsRow B 26 3 v l.length (fl trc (l.map tr))
theorem Rqo.lasts (B:Nat) (l:List Rat):dF (Rqo B l):=fun _ _ _ h hS=>bG h hS
theorem Rqo.rq {B:Nat} {l:List Rat} {v:Value} {X:World} (h:Rqo B l v X):Rq l v X:=by
 have h9:=Rd.of_own (show X.ownsRow B 26 3 v l.length (fl trc (l.map tr)) from h)
 show Rd X 3 v (l.map tr).length _
 rw [List.length_map];exact h9
theorem Rqo.mono {B B':Nat} {l:List Rat} {v:Value} {X:World} (h:Rqo B l v X) (hB:B'≤B):Rqo B' l v X:=fL h hB
theorem gS (B:Nat) (X:World):Rqo B [] (.slice none 0 0) X:=⟨rfl,.inl ⟨rfl,rfl⟩⟩
theorem sus0 (c:Int) (v:Value) (l:List En) (f t k:Int) (w:World) (hv:Es l v w) (hs:Hid (∀ k,tz (en l k).am.2.1 (en l k).am.2.2 1000000)) (h0:acE c l≠0):Calls Tryz.prog 10 #[.agg #[vI c,v],vI f,vI t,vI k] w fun e w'=>∃ u,e=.returned u∧Tp (Rqo w.heap.size (suL c l f t k)) (suE c l f t k) u w'∧Since w w':=by
 obtain ⟨z,z9⟩:∃ z,acE c l=z:=⟨_,rfl⟩;have HZ:=Lib.hid z9
 have hz0:z≠0:=by rw [← z9];exact h0
 clear z9 h0
 have HE:Hid (suE c l f t k=z):=by
  show _=_
  unfold suE
  rw [HZ.out,if_pos hz0]
 obtain ⟨A,n,cp,rfl,hln,hn1,hr⟩:=hv.at;clear hv;have HRX:=bV hr;have HLN:=Lib.hid hln;clear hr;have HES:=cA HLN HRX
 go_enter Tryz.func10,Tryz.ntmps10
 go_upto_region 1 with fail;obtain ⟨W0,hW0,hB0,hb⟩:=aQ w 24 [vI c,.slice A n cp];rw [← hW0];clear hW0;refine jp ?_;refine ja hB0 Tryz.underlying24 (by rfl) aE ?_;refine jc (vI z) (fun X hX hF=>mo (fR c _ l X (HES.out X (Since.next hb hX)) hs) (by rw [HZ.out])) ?_;refine jm (vI z) ?_;refine jzb hb fun X1 hX1 hb=>?_;replace hB0:=hB0.bel hX1;go_upto_region 2 with fail;refine jp ?_;refine jm (vI z) ?_;refine jv (.bool true) (aS _ _ _ _ (by rfl) .i64 z 0 (by rfl) (by rfl) true (by rw [decide_eq_false (by omega)];rfl)) ?_;refine jzb hb fun X2 hX2 hb=>?_;replace hB0:=hB0.bel hX2
 have HL:Hid (suL c l f t k=[]):=by
  show _=_
  unfold suL
  rw [HE.out,if_neg hz0]
 go_upto_region 3 with fail;refine jp ?_;refine jm (vI z) ?_;refine jm (.slice none 0 0) ?_;refine jm (vI z) ?_;refine jzb hb fun X3 hX3 hb=>?_;replace hB0:=hB0.bel hX3
 go_wp2
 go_ret2
 exact ⟨_,rfl,⟨.slice none 0 0,by rw [HE.out];rfl,by rw [HL.out];exact gS _ _⟩,hb⟩
theorem sus1 (c:Int) (v:Value) (l:List En) (f t k:Int) (w:World) (hv:Es l v w) (hs:Hid (∀ k,tz (en l k).am.2.1 (en l k).am.2.2 1000000)) (HC:Hid (acE c l=0)) (h:f<0∨14609<f):Calls Tryz.prog 10 #[.agg #[vI c,v],vI f,vI t,vI k] w fun e w'=>∃ u,e=.returned u∧Tp (Rqo w.heap.size (suL c l f t k)) (suE c l f t k) u w'∧Since w w':=by
 obtain ⟨A,n,cp,rfl,hln,hn1,hr⟩:=hv.at;clear hv;have HRX:=bV hr;have HLN:=Lib.hid hln;clear hr;have HES:=cA HLN HRX
 go_enter Tryz.func10,Tryz.ntmps10
 go_upto_region 1 with fail;obtain ⟨W0,hW0,hB0,hb⟩:=aQ w 24 [vI c,.slice A n cp];rw [← hW0];clear hW0;refine jp ?_;refine ja hB0 Tryz.underlying24 (by rfl) aE ?_;refine jc (vI 0) (fun X hX hF=>mo (fR c _ l X (HES.out X (Since.next hb hX)) hs) (by rw [HC.out])) ?_;refine jm (vI 0) ?_;refine jzb hb fun X1 hX1 hb=>?_;replace hB0:=hB0.bel hX1;go_upto_region 2 with fail;refine jp ?_;refine jm (vI 0) ?_;refine jv (.bool false) (aS _ _ _ _ (by rfl) .i64 0 0 (by rfl) (by rfl) false (by rw [decide_eq_true (by omega)];rfl)) ?_;refine jzb hb fun X2 hX2 hb=>?_;replace hB0:=hB0.bel hX2
 have HE:Hid (suE c l f t k=3):=by
  show _=_
  unfold suE
  rw [HC.out,if_neg (by decide),if_pos (by omega)]
 have HF:Hid ((decide (0≤f) && decide (f≤14609))=false):=by
  show _=_
  rcases h with h9|h9
  ·rw [decide_eq_false (show ¬ 0≤f by omega)];rfl
  ·rw [decide_eq_false (show ¬ f≤14609 by omega),Bool.and_false]
 go_upto_region 4 with fail;refine jp ?_;refine jm (vI f) ?_;refine jc (.bool false) (fun X hX hF=>mo (iS f X) (by rw [HF.out])) ?_;refine jm (.bool true) ?_;refine jm (.bool true) ?_;refine js ?_;refine js ?_;refine js ?_;refine jm (.bool true) ?_;refine jm (.bool true) ?_;refine js ?_;refine js ?_;refine jm (.bool true) ?_;refine jm (.bool true) ?_;refine js ?_;refine js ?_;refine jm (.bool true) ?_;refine jzb hb fun X3 hX3 hb=>?_;replace hB0:=hB0.bel hX3
 have HL:Hid (suL c l f t k=[]):=by
  show _=_
  unfold suL
  rw [HE.out,if_neg (by decide)]
 go_upto_region 5 with fail;refine jp ?_;refine jm (.slice none 0 0) ?_;refine jm (vI 3) ?_;refine jzb hb fun X4 hX4 hb=>?_;replace hB0:=hB0.bel hX4
 go_wp2
 go_ret2
 exact ⟨_,rfl,⟨.slice none 0 0,by rw [HE.out];rfl,by rw [HL.out];exact gS _ _⟩,hb⟩
theorem sus2 (c:Int) (v:Value) (l:List En) (f t k:Int) (w:World) (hv:Es l v w) (hs:Hid (∀ k,tz (en l k).am.2.1 (en l k).am.2.2 1000000)) (HC:Hid (acE c l=0)) (hf:0≤f∧f≤14609) (h:t<0∨14609<t):Calls Tryz.prog 10 #[.agg #[vI c,v],vI f,vI t,vI k] w fun e w'=>∃ u,e=.returned u∧Tp (Rqo w.heap.size (suL c l f t k)) (suE c l f t k) u w'∧Since w w':=by
 obtain ⟨A,n,cp,rfl,hln,hn1,hr⟩:=hv.at;clear hv;have HRX:=bV hr;have HLN:=Lib.hid hln;clear hr;have HES:=cA HLN HRX
 go_enter Tryz.func10,Tryz.ntmps10
 go_upto_region 1 with fail;obtain ⟨W0,hW0,hB0,hb⟩:=aQ w 24 [vI c,.slice A n cp];rw [← hW0];clear hW0;refine jp ?_;refine ja hB0 Tryz.underlying24 (by rfl) aE ?_;refine jc (vI 0) (fun X hX hF=>mo (fR c _ l X (HES.out X (Since.next hb hX)) hs) (by rw [HC.out])) ?_;refine jm (vI 0) ?_;refine jzb hb fun X1 hX1 hb=>?_;replace hB0:=hB0.bel hX1;go_upto_region 2 with fail;refine jp ?_;refine jm (vI 0) ?_;refine jv (.bool false) (aS _ _ _ _ (by rfl) .i64 0 0 (by rfl) (by rfl) false (by rw [decide_eq_true (by omega)];rfl)) ?_;refine jzb hb fun X2 hX2 hb=>?_;replace hB0:=hB0.bel hX2
 have HE:Hid (suE c l f t k=3):=by
  show _=_
  unfold suE
  rw [HC.out,if_neg (by decide),if_pos (by omega)]
 have HF:Hid ((decide (0≤f) && decide (f≤14609))=true):=by
  show _=_
  rw [decide_eq_true hf.1,decide_eq_true hf.2];rfl
 have HT:Hid ((decide (0≤t) && decide (t≤14609))=false):=by
  show _=_
  rcases h with h9|h9
  ·rw [decide_eq_false (show ¬ 0≤t by omega)];rfl
  ·rw [decide_eq_false (show ¬ t≤14609 by omega),Bool.and_false]
 go_upto_region 4 with fail;refine jp ?_;refine jm (vI f) ?_;refine jc (.bool true) (fun X hX hF=>mo (iS f X) (by rw [HF.out])) ?_;refine jm (.bool false) ?_;refine jm (.bool false) ?_;refine jm (vI t) ?_;refine jc (.bool false) (fun X hX hF=>mo (iS t X) (by rw [HT.out])) ?_;refine jm (.bool true) ?_;refine jm (.bool true) ?_;refine jm (.bool true) ?_;refine js ?_;refine js ?_;refine jm (.bool true) ?_;refine jm (.bool true) ?_;refine js ?_;refine js ?_;refine jm (.bool true) ?_;refine jzb hb fun X3 hX3 hb=>?_;replace hB0:=hB0.bel hX3
 have HL:Hid (suL c l f t k=[]):=by
  show _=_
  unfold suL
  rw [HE.out,if_neg (by decide)]
 go_upto_region 5 with fail;refine jp ?_;refine jm (.slice none 0 0) ?_;refine jm (vI 3) ?_;refine jzb hb fun X4 hX4 hb=>?_;replace hB0:=hB0.bel hX4
 go_wp2
 go_ret2
 exact ⟨_,rfl,⟨.slice none 0 0,by rw [HE.out];rfl,by rw [HL.out];exact gS _ _⟩,hb⟩
theorem sus3 (c:Int) (v:Value) (l:List En) (f t k:Int) (w:World) (hv:Es l v w) (hs:Hid (∀ k,tz (en l k).am.2.1 (en l k).am.2.2 1000000)) (HC:Hid (acE c l=0)) (hf:0≤f∧f≤14609) (ht:0≤t∧t≤14609) (h:k<0):Calls Tryz.prog 10 #[.agg #[vI c,v],vI f,vI t,vI k] w fun e w'=>∃ u,e=.returned u∧Tp (Rqo w.heap.size (suL c l f t k)) (suE c l f t k) u w'∧Since w w':=by
 obtain ⟨A,n,cp,rfl,hln,hn1,hr⟩:=hv.at;clear hv;have HRX:=bV hr;have HLN:=Lib.hid hln;clear hr;have HES:=cA HLN HRX
 go_enter Tryz.func10,Tryz.ntmps10
 go_upto_region 1 with fail;obtain ⟨W0,hW0,hB0,hb⟩:=aQ w 24 [vI c,.slice A n cp];rw [← hW0];clear hW0;refine jp ?_;refine ja hB0 Tryz.underlying24 (by rfl) aE ?_;refine jc (vI 0) (fun X hX hF=>mo (fR c _ l X (HES.out X (Since.next hb hX)) hs) (by rw [HC.out])) ?_;refine jm (vI 0) ?_;refine jzb hb fun X1 hX1 hb=>?_;replace hB0:=hB0.bel hX1;go_upto_region 2 with fail;refine jp ?_;refine jm (vI 0) ?_;refine jv (.bool false) (aS _ _ _ _ (by rfl) .i64 0 0 (by rfl) (by rfl) false (by rw [decide_eq_true (by omega)];rfl)) ?_;refine jzb hb fun X2 hX2 hb=>?_;replace hB0:=hB0.bel hX2
 have HE:Hid (suE c l f t k=3):=by
  show _=_
  unfold suE
  rw [HC.out,if_neg (by decide),if_pos (by omega)]
 have HF:Hid ((decide (0≤f) && decide (f≤14609))=true):=by
  show _=_
  rw [decide_eq_true hf.1,decide_eq_true hf.2];rfl
 have HT:Hid ((decide (0≤t) && decide (t≤14609))=true):=by
  show _=_
  rw [decide_eq_true ht.1,decide_eq_true ht.2];rfl
 go_upto_region 4 with fail;refine jp ?_;refine jm (vI f) ?_;refine jc (.bool true) (fun X hX hF=>mo (iS f X) (by rw [HF.out])) ?_;refine jm (.bool false) ?_;refine jm (.bool false) ?_;refine jm (vI t) ?_;refine jc (.bool true) (fun X hX hF=>mo (iS t X) (by rw [HT.out])) ?_;refine jm (.bool false) ?_;refine jm (.bool false) ?_;refine jm (.bool false) ?_;refine jm (vI k) ?_;refine cP k 0 (by omega) ?_;refine jm (.bool true) ?_;refine jm (.bool true) ?_;refine js ?_;refine js ?_;refine jm (.bool true) ?_;refine jzb hb fun X3 hX3 hb=>?_;replace hB0:=hB0.bel hX3
 have HL:Hid (suL c l f t k=[]):=by
  show _=_
  unfold suL
  rw [HE.out,if_neg (by decide)]
 go_upto_region 5 with fail;refine jp ?_;refine jm (.slice none 0 0) ?_;refine jm (vI 3) ?_;refine jzb hb fun X4 hX4 hb=>?_;replace hB0:=hB0.bel hX4
 go_wp2
 go_ret2
 exact ⟨_,rfl,⟨.slice none 0 0,by rw [HE.out];rfl,by rw [HL.out];exact gS _ _⟩,hb⟩
theorem sus4 (c:Int) (v:Value) (l:List En) (f t k:Int) (w:World) (hv:Es l v w) (hs:Hid (∀ k,tz (en l k).am.2.1 (en l k).am.2.2 1000000)) (HC:Hid (acE c l=0)) (hf:0≤f∧f≤14609) (ht:0≤t∧t≤14609) (h0:0≤k) (h:5<k):Calls Tryz.prog 10 #[.agg #[vI c,v],vI f,vI t,vI k] w fun e w'=>∃ u,e=.returned u∧Tp (Rqo w.heap.size (suL c l f t k)) (suE c l f t k) u w'∧Since w w':=by
 obtain ⟨A,n,cp,rfl,hln,hn1,hr⟩:=hv.at;clear hv;have HRX:=bV hr;have HLN:=Lib.hid hln;clear hr;have HES:=cA HLN HRX
 go_enter Tryz.func10,Tryz.ntmps10
 go_upto_region 1 with fail;obtain ⟨W0,hW0,hB0,hb⟩:=aQ w 24 [vI c,.slice A n cp];rw [← hW0];clear hW0;refine jp ?_;refine ja hB0 Tryz.underlying24 (by rfl) aE ?_;refine jc (vI 0) (fun X hX hF=>mo (fR c _ l X (HES.out X (Since.next hb hX)) hs) (by rw [HC.out])) ?_;refine jm (vI 0) ?_;refine jzb hb fun X1 hX1 hb=>?_;replace hB0:=hB0.bel hX1;go_upto_region 2 with fail;refine jp ?_;refine jm (vI 0) ?_;refine jv (.bool false) (aS _ _ _ _ (by rfl) .i64 0 0 (by rfl) (by rfl) false (by rw [decide_eq_true (by omega)];rfl)) ?_;refine jzb hb fun X2 hX2 hb=>?_;replace hB0:=hB0.bel hX2
 have HE:Hid (suE c l f t k=3):=by
  show _=_
  unfold suE
  rw [HC.out,if_neg (by decide),if_pos (by omega)]
 have HF:Hid ((decide (0≤f) && decide (f≤14609))=true):=by
  show _=_
  rw [decide_eq_true hf.1,decide_eq_true hf.2];rfl
 have HT:Hid ((decide (0≤t) && decide (t≤14609))=true):=by
  show _=_
  rw [decide_eq_true ht.1,decide_eq_true ht.2];rfl
 go_upto_region 4 with fail;refine jp ?_;refine jm (vI f) ?_;refine jc (.bool true) (fun X hX hF=>mo (iS f X) (by rw [HF.out])) ?_;refine jm (.bool false) ?_;refine jm (.bool false) ?_;refine jm (vI t) ?_;refine jc (.bool true) (fun X hX hF=>mo (iS t X) (by rw [HT.out])) ?_;refine jm (.bool false) ?_;refine jm (.bool false) ?_;refine jm (.bool false) ?_;refine jm (vI k) ?_;refine bS k 0 (by omega) ?_;refine jm (.bool false) ?_;refine jm (.bool false) ?_;refine jm (vI k) ?_;refine dV k 5 (by omega) ?_;refine jm (.bool true) ?_;refine jzb hb fun X3 hX3 hb=>?_;replace hB0:=hB0.bel hX3
 have HL:Hid (suL c l f t k=[]):=by
  show _=_
  unfold suL
  rw [HE.out,if_neg (by decide)]
 go_upto_region 5 with fail;refine jp ?_;refine jm (.slice none 0 0) ?_;refine jm (vI 3) ?_;refine jzb hb fun X4 hX4 hb=>?_;replace hB0:=hB0.bel hX4
 go_wp2
 go_ret2
 exact ⟨_,rfl,⟨.slice none 0 0,by rw [HE.out];rfl,by rw [HL.out];exact gS _ _⟩,hb⟩
theorem gU:rbv 0=.agg #[.bool false,.string ⟨#[]⟩,.string ⟨#[]⟩]:=by
 have h1:rN 0=false:=by decide +kernel
 have h2:rP 0=[]:=by decide +kernel
 have h3:rD 0=[]:=by decide +kernel
 show Value.agg #[.bool (rN 0),vS (rP 0),vS (rD 0)]=_
 rw [h1,h2,h3]
theorem blc0 (c:Int) (v:Value) (l:List En) (a day:Int) (w:World) (hv:Es l v w) (hs:Hid (∀ k,tz (en l k).am.2.1 (en l k).am.2.2 1000000)) (h0:acE c l≠0):Calls Tryz.prog 8 #[.agg #[vI c,v],vI a,vI day] w fun e w'=>e=.returned (.tuple #[rbv (blV c l a day),vI (blE c l a day)])∧Since w w':=by
 obtain ⟨z,z9⟩:∃ z,acE c l=z:=⟨_,rfl⟩;have HZ:=Lib.hid z9
 have hz0:z≠0:=by rw [← z9];exact h0
 clear z9 h0
 have HE:Hid (blE c l a day=z):=by
  show _=_
  unfold blE
  rw [HZ.out,if_pos hz0]
 obtain ⟨A,n,cp,rfl,hln,hn1,hr⟩:=hv.at;clear hv;have HRX:=bV hr;have HLN:=Lib.hid hln;clear hr;have HES:=cA HLN HRX
 go_enter Tryz.func8,Tryz.ntmps8
 go_upto_region 1 with fail;obtain ⟨W0,hW0,hB0,hB1,hb⟩:=bL w 24 26 [vI c,.slice A n cp] [.bool false,.string ⟨#[]⟩,.string ⟨#[]⟩];rw [← hW0];clear hW0;refine jp ?_;refine ja hB0 Tryz.underlying24 (by rfl) aE ?_;refine jc (vI z) (fun X hX hF=>mo (fR c _ l X (HES.out X (Since.next hb hX)) hs) (by rw [HZ.out])) ?_;refine jm (vI z) ?_;refine jzb hb fun X1 hX1 hb=>?_;obtain ⟨hB0,hB1⟩:=bl2 hX1 hB0 hB1;go_upto_region 2 with fail;refine jp ?_;refine jm (vI z) ?_;refine jv (.bool true) (aS _ _ _ _ (by rfl) .i64 z 0 (by rfl) (by rfl) true (by rw [decide_eq_false (by omega)];rfl)) ?_;refine jzb hb fun X2 hX2 hb=>?_;obtain ⟨hB0,hB1⟩:=bl2 hX2 hB0 hB1
 have HL:Hid (blV c l a day=0):=by
  show _=_
  unfold blV
  rw [HE.out,if_neg hz0]
 go_upto_region 3 with fail;refine jq 2 ?_;refine jn (rz) ?_;refine jm (vI z) ?_;refine jzb hb fun X3 hX3 hb=>?_;obtain ⟨hB0,hB1⟩:=bl2 hX3 hB0 hB1;refine osb 26 6 13 (w.heap.size+1) 26 hB1 [.bool false,.string ⟨#[]⟩,.string ⟨#[]⟩] aC ?_;intro w9 hR9 hO9 hB9 hs9;have hb9:=hB9 _ _ hb (by omega);have hB0:=hO9 _ _ _ (by omega) hB0;clear hO9 hB9
 go_wp2
 refine bD (v:=vI z) rfl rfl (by rfl) (by rfl) Tryz.underlying26 rfl hR9 aC ⟨by rw [HE.out,HL.out,gU],hb9⟩
theorem blc1 (c:Int) (v:Value) (l:List En) (a day:Int) (w:World) (hv:Es l v w) (hs:Hid (∀ k,tz (en l k).am.2.1 (en l k).am.2.2 1000000)) (HC:Hid (acE c l=0)) (h:a<0):Calls Tryz.prog 8 #[.agg #[vI c,v],vI a,vI day] w fun e w'=>e=.returned (.tuple #[rbv (blV c l a day),vI (blE c l a day)])∧Since w w':=by
 obtain ⟨A,n,cp,rfl,hln,hn1,hr⟩:=hv.at;clear hv;have HRX:=bV hr;have HLN:=Lib.hid hln;clear hr;have HES:=cA HLN HRX
 go_enter Tryz.func8,Tryz.ntmps8
 go_upto_region 1 with fail;obtain ⟨W0,hW0,hB0,hB1,hb⟩:=bL w 24 26 [vI c,.slice A n cp] [.bool false,.string ⟨#[]⟩,.string ⟨#[]⟩];rw [← hW0];clear hW0;refine jp ?_;refine ja hB0 Tryz.underlying24 (by rfl) aE ?_;refine jc (vI 0) (fun X hX hF=>mo (fR c _ l X (HES.out X (Since.next hb hX)) hs) (by rw [HC.out])) ?_;refine jm (vI 0) ?_;refine jzb hb fun X1 hX1 hb=>?_;obtain ⟨hB0,hB1⟩:=bl2 hX1 hB0 hB1;go_upto_region 2 with fail;refine jp ?_;refine jm (vI 0) ?_;refine jv (.bool false) (aS _ _ _ _ (by rfl) .i64 0 0 (by rfl) (by rfl) false (by rw [decide_eq_true (by omega)];rfl)) ?_;refine jzb hb fun X2 hX2 hb=>?_;obtain ⟨hB0,hB1⟩:=bl2 hX2 hB0 hB1
 have HE:Hid (blE c l a day=3):=by
  show _=_
  unfold blE
  rw [HC.out,if_neg (by decide),if_pos (by omega)]
 go_upto_region 4 with fail;refine jp ?_;refine jm (vI a) ?_;refine cP a 0 (by omega) ?_;refine jm (.bool true) ?_;refine js ?_;refine js ?_;refine js ?_;refine js ?_;refine jm (.bool true) ?_;refine jm (.bool true) ?_;refine js ?_;refine js ?_;refine js ?_;refine jm (.bool true) ?_;refine jzb hb fun X3 hX3 hb=>?_;obtain ⟨hB0,hB1⟩:=bl2 hX3 hB0 hB1
 have HL:Hid (blV c l a day=0):=by
  show _=_
  unfold blV
  rw [HE.out,if_neg (by decide)]
 go_upto_region 5 with fail;refine jq 1 ?_;refine jn (rz) ?_;refine jzb hb fun X4 hX4 hb=>?_;obtain ⟨hB0,hB1⟩:=bl2 hX4 hB0 hB1;refine osb 26 6 28 (w.heap.size+1) 26 hB1 [.bool false,.string ⟨#[]⟩,.string ⟨#[]⟩] aC ?_;intro w9 hR9 hO9 hB9 hs9;have hb9:=hB9 _ _ hb (by omega);have hB0:=hO9 _ _ _ (by omega) hB0;clear hO9 hB9
 go_wp2
 refine bD (v:=vI 3) rfl rfl (by rfl) (by rfl) Tryz.underlying26 rfl hR9 aC ⟨by rw [HE.out,HL.out,gU],hb9⟩
theorem blc2 (c:Int) (v:Value) (l:List En) (a day:Int) (w:World) (hv:Es l v w) (hs:Hid (∀ k,tz (en l k).am.2.1 (en l k).am.2.2 1000000)) (HC:Hid (acE c l=0)) (h0:0≤a) (h:c≤a):Calls Tryz.prog 8 #[.agg #[vI c,v],vI a,vI day] w fun e w'=>e=.returned (.tuple #[rbv (blV c l a day),vI (blE c l a day)])∧Since w w':=by
 obtain ⟨A,n,cp,rfl,hln,hn1,hr⟩:=hv.at;clear hv;have HRX:=bV hr;have HLN:=Lib.hid hln;clear hr;have HES:=cA HLN HRX
 go_enter Tryz.func8,Tryz.ntmps8
 go_upto_region 1 with fail;obtain ⟨W0,hW0,hB0,hB1,hb⟩:=bL w 24 26 [vI c,.slice A n cp] [.bool false,.string ⟨#[]⟩,.string ⟨#[]⟩];rw [← hW0];clear hW0;refine jp ?_;refine ja hB0 Tryz.underlying24 (by rfl) aE ?_;refine jc (vI 0) (fun X hX hF=>mo (fR c _ l X (HES.out X (Since.next hb hX)) hs) (by rw [HC.out])) ?_;refine jm (vI 0) ?_;refine jzb hb fun X1 hX1 hb=>?_;obtain ⟨hB0,hB1⟩:=bl2 hX1 hB0 hB1;go_upto_region 2 with fail;refine jp ?_;refine jm (vI 0) ?_;refine jv (.bool false) (aS _ _ _ _ (by rfl) .i64 0 0 (by rfl) (by rfl) false (by rw [decide_eq_true (by omega)];rfl)) ?_;refine jzb hb fun X2 hX2 hb=>?_;obtain ⟨hB0,hB1⟩:=bl2 hX2 hB0 hB1
 have HE:Hid (blE c l a day=3):=by
  show _=_
  unfold blE
  rw [HC.out,if_neg (by decide),if_pos (by omega)]
 go_upto_region 4 with fail;refine jp ?_;refine jm (vI a) ?_;refine bS a 0 (by omega) ?_;refine jm (.bool false) ?_;refine jm (vI a) ?_;refine jn (vP w.heap.size 0) ?_;refine jf _ hB0 0 aB ?_;refine fD a c (by omega) ?_;refine jm (.bool true) ?_;refine jm (.bool true) ?_;refine js ?_;refine js ?_;refine js ?_;refine jm (.bool true) ?_;refine jzb hb fun X3 hX3 hb=>?_;obtain ⟨hB0,hB1⟩:=bl2 hX3 hB0 hB1
 have HL:Hid (blV c l a day=0):=by
  show _=_
  unfold blV
  rw [HE.out,if_neg (by decide)]
 go_upto_region 5 with fail;refine jq 1 ?_;refine jn (rz) ?_;refine jzb hb fun X4 hX4 hb=>?_;obtain ⟨hB0,hB1⟩:=bl2 hX4 hB0 hB1;refine osb 26 6 28 (w.heap.size+1) 26 hB1 [.bool false,.string ⟨#[]⟩,.string ⟨#[]⟩] aC ?_;intro w9 hR9 hO9 hB9 hs9;have hb9:=hB9 _ _ hb (by omega);have hB0:=hO9 _ _ _ (by omega) hB0;clear hO9 hB9
 go_wp2
 refine bD (v:=vI 3) rfl rfl (by rfl) (by rfl) Tryz.underlying26 rfl hR9 aC ⟨by rw [HE.out,HL.out,gU],hb9⟩
theorem blc3 (c:Int) (v:Value) (l:List En) (a day:Int) (w:World) (hv:Es l v w) (hs:Hid (∀ k,tz (en l k).am.2.1 (en l k).am.2.2 1000000)) (HC:Hid (acE c l=0)) (h0:0≤a) (h1:a<c) (h:day<0∨14609<day):Calls Tryz.prog 8 #[.agg #[vI c,v],vI a,vI day] w fun e w'=>e=.returned (.tuple #[rbv (blV c l a day),vI (blE c l a day)])∧Since w w':=by
 obtain ⟨A,n,cp,rfl,hln,hn1,hr⟩:=hv.at;clear hv;have HRX:=bV hr;have HLN:=Lib.hid hln;clear hr;have HES:=cA HLN HRX
 go_enter Tryz.func8,Tryz.ntmps8
 go_upto_region 1 with fail;obtain ⟨W0,hW0,hB0,hB1,hb⟩:=bL w 24 26 [vI c,.slice A n cp] [.bool false,.string ⟨#[]⟩,.string ⟨#[]⟩];rw [← hW0];clear hW0;refine jp ?_;refine ja hB0 Tryz.underlying24 (by rfl) aE ?_;refine jc (vI 0) (fun X hX hF=>mo (fR c _ l X (HES.out X (Since.next hb hX)) hs) (by rw [HC.out])) ?_;refine jm (vI 0) ?_;refine jzb hb fun X1 hX1 hb=>?_;obtain ⟨hB0,hB1⟩:=bl2 hX1 hB0 hB1;go_upto_region 2 with fail;refine jp ?_;refine jm (vI 0) ?_;refine jv (.bool false) (aS _ _ _ _ (by rfl) .i64 0 0 (by rfl) (by rfl) false (by rw [decide_eq_true (by omega)];rfl)) ?_;refine jzb hb fun X2 hX2 hb=>?_;obtain ⟨hB0,hB1⟩:=bl2 hX2 hB0 hB1
 have HE:Hid (blE c l a day=3):=by
  show _=_
  unfold blE
  rw [HC.out,if_neg (by decide),if_pos (by omega)]
 have HD:Hid ((decide (0≤day) && decide (day≤14609))=false):=by
  show _=_
  rcases h with h9|h9
  ·rw [decide_eq_false (show ¬ 0≤day by omega)];rfl
  ·rw [decide_eq_false (show ¬ day≤14609 by omega),Bool.and_false]
 go_upto_region 4 with fail;refine jp ?_;refine jm (vI a) ?_;refine bS a 0 (by omega) ?_;refine jm (.bool false) ?_;refine jm (vI a) ?_;refine jn (vP w.heap.size 0) ?_;refine jf _ hB0 0 aB ?_;refine eD a c (by omega) ?_;refine jm (.bool false) ?_;refine jm (.bool false) ?_;refine jm (vI day) ?_;refine jc (.bool false) (fun X hX hF=>mo (iS day X) (by rw [HD.out])) ?_;refine jm (.bool true) ?_;refine jm (.bool true) ?_;refine jzb hb fun X3 hX3 hb=>?_;obtain ⟨hB0,hB1⟩:=bl2 hX3 hB0 hB1
 have HL:Hid (blV c l a day=0):=by
  show _=_
  unfold blV
  rw [HE.out,if_neg (by decide)]
 go_upto_region 5 with fail;refine jq 1 ?_;refine jn (rz) ?_;refine jzb hb fun X4 hX4 hb=>?_;obtain ⟨hB0,hB1⟩:=bl2 hX4 hB0 hB1;refine osb 26 6 28 (w.heap.size+1) 26 hB1 [.bool false,.string ⟨#[]⟩,.string ⟨#[]⟩] aC ?_;intro w9 hR9 hO9 hB9 hs9;have hb9:=hB9 _ _ hb (by omega);have hB0:=hO9 _ _ _ (by omega) hB0;clear hO9 hB9
 go_wp2
 refine bD (v:=vI 3) rfl rfl (by rfl) (by rfl) Tryz.underlying26 rfl hR9 aC ⟨by rw [HE.out,HL.out,gU],hb9⟩
theorem zZ {f:Operand→Value} {o:Oper} (x i:Operand) (ho:o.op=.index 79 x i) {l:List Rat} (hl:l.length=100) (hx:f x=.agg (fl rc l).toArray) (k:Nat) (hk:k<100) {z:Int} (hi:f i=vI z) (hz:z=(k:Int)) (w:World):(execOp f o).run Tryz.prog w=.ok (.value (rbv (yq l k))) w:=by
 subst hz
 have hix:(Instr.index 79 (.agg (fl rc l).toArray) (vI k)).run Tryz.prog w=.ok (rbv (yq l k)) w:=by
  have h1:=qL (g:=rc) (m:=3) (l:=l) (fun x _=>iG x) (List.drop_eq_getElem_cons (show k<l.length by omega));rw [← qZ (by omega)] at h1;have hi9:(Tryz.prog.info? 26).map (·.size)=some 3:=aC
  cases hq:Tryz.prog.info? 26 with
  | none=>rw [hq] at hi9;cases hi9
  | some i9 =>
   have hs:i9.size=3:=by simpa [hq] using hi9
   have hag:(isAgg 26).run Tryz.prog w=.ok true w:=by
    unfold isAgg
    rw [Sem.run_bind,run_underlying Tryz.underlying26 w]
    rfl
   have hex:(fl rc l).toArray.extract (k * 3) (k * 3+3)=(rc (yq l k)).toArray:=by
    rw [List.extract_toArray]
    congr 1
    rw [List.extract_eq_take_drop,Nat.add_sub_cancel_left];exact h1
   simp only [Instr.index,asIntOf,Sem.run_bind,Sem.run_pure,Result.andThen_ok,run_underlying Tryz.underlying79];rw [if_pos (by omega)]
   simp [part,sizeOf,typeInfo,hq,hs,hag,hex,go_sem]
   exact h1
 unfold execOp
 simp only [ho,hx,hi]
 simp [hix,go_sem]
theorem qQa {f:Operand→Value} {o:Oper} (x i:Operand) (ho:o.op=.index 79 x i) {l:List Rat} (hl:l.length=100) (hx:f x=.agg (fl rc l).toArray) (k:Nat) (hk:k<100) {z:Int} (hi:f i=vI z) (hz:z=(k:Int)) {y:Rat} (hy:yq l k=y) (w:World):(execOp f o).run Tryz.prog w=.ok (.value (rbv y)) w:=by
 subst hy;exact zZ x i ho hl hx k hk hi hz w
theorem Rq.open {l:List Rat} {v:Value} {w:World} (h:Rq l v w):∃ A n c,v=.slice A n c∧l.length=n∧Rd w 3 (.slice A n c) n (fl trc (l.map tr)):=by
 have h9:Rd w 3 v (l.map tr).length (fl trc (l.map tr)):=h;have h8:=h9;obtain ⟨hl,A,c,h2,hc,hm,hx⟩:=h9;subst h2;rw [List.length_map] at h8;exact ⟨A,l.length,c,by rw [List.length_map],rfl,h8⟩
theorem zT {f:Operand→Value} {o:Oper} (x hi:Operand) (ho:o.op=.slice 79 x none (some hi) none) (g k:Nat) (hk:k≤100) (hx:f x=vP g 0) {z:Int} (hh:f hi=vI z) (hz:z=(k:Int)) (w:World):(execOp f o).run Tryz.prog w=.ok (.value (.slice (some ⟨g,0,none⟩) k 100)) w:=by
 subst hz
 unfold execOp
 simp only [ho,hx,hh,Option.map];have hi9:(Tryz.prog.info? 26).map (·.size)=some 3:=aC
 cases hq:Tryz.prog.info? 26 with
 | none=>rw [hq] at hi9;cases hi9
 | some i9 =>
  have h1:(0:Int)≤(k:Int)∧(k:Int)≤100:=⟨by omega,by omega⟩
  have hz9:(⟨g,0,none⟩:Addr).add (0 * i9.size)=⟨g,0,none⟩:=by rw [Nat.zero_mul];exact pJ _
  simp [Instr.sliceAt,Instr.sureAddr,asAddr,Instr.sliceBounds,Instr.sliceBound,asIntOf,run_underlying Tryz.underlying79,sizeOf,typeInfo,hq,h1,go_sem]
  all_goals first
   | done
   | (intro h9;exact absurd h9 (by omega))
   | (simpa using hz9)
theorem qXs {X:World} {g N:Nat} {T:TypeId} {L:List Rat} (h:Blk X g T (fl rc L)) (hL:L.length=100) (hN:N≤100):Rq (L.take N) (.slice (some ⟨g,0,none⟩) N 100) X:=by
 have h1:(fl rc L).take (N * 3)=fl rc (L.take N):=mS (fun x _=>iG x) N
 have h2:fl trc ((L.take N).map tr)=fl rc (L.take N):=by
  unfold fl
  rw [List.map_map]
  rfl
 show Rd X 3 _ ((L.take N).map tr).length (fl trc ((L.take N).map tr))
 have hlen:((L.take N).map tr).length=N:=by
  rw [List.length_map,List.length_take]
  omega
 rw [hlen,h2,← h1];refine ⟨by rw [List.length_take,iF];omega,_,_,rfl,hN,by unfold maxLen;omega,(fun h9=>by cases h9),fun _=>⟨g,0,rfl,h.lt,fun j u hj=>?_⟩⟩;rw [Nat.zero_add];refine h.cell ?_;rw [List.getElem?_take] at hj
 split at hj
 ·exact hj
 ·cases hj
theorem wP:(Tryz.prog.info? 26).map (fun i=>(i.zero,i.size,i.bytes))=some (some (.agg #[.bool false,.string ⟨#[]⟩,.string ⟨#[]⟩]),3,40):=by kernel_rfl
theorem qVs (l:List Rat):∀ u∈fl trc (l.map tr),u.oneCell'=true:=by
 intro u hu
 unfold fl at hu
 obtain ⟨y,hy,hz⟩:=List.mem_flatten.1 hu;obtain ⟨t9,_,rfl⟩:=List.mem_map.1 hy;simp only [trc,List.mem_cons,List.not_mem_nil,or_false] at hz
 rcases hz with rfl|rfl|rfl <;> rfl
theorem kY {P:Program} {w:World} {a:Act} {r n':Nat} {id:Nat} {L:List Oper} {Q':Exit→Act→World→Prop} (n:Nat) (A:Ar) (ap:Nat) (ss:List (cD Bool)) (hd:uB L=true) (hL:¬ LetsOut Q') (hst:∀ S,some S∈ss→∀ v X Y,S v X→Ga A X Y→S v Y)
  (h:iD P L.toArray A ap w (wpList P L.toArray Q' (L.drop n)) (fun _ _=>true) (itg 0 (L.take n) ss) [] a):(Code.region id L.toArray false).wpIn (Fence.wide.inRound r) n' P Q' a w:=by
 refine kU hd hL ?_
 have hq:=dZ (N:=fun k σ=>k=ap→σ=false) (tail:=L.drop n) (fun _ _ h h'=>Ga.trans h h') (itg 0 (L.take n) ss) [] a (w,false) (fun it hit S hS=>by
  rcases ((iJ 0 (L.take n) ss).2.1 it hit).2.2 with h'|h'
  ·rw [hS] at h'
   cases h'
  ·rw [hS] at h'
   exact hst S h') (fun p F hp=>by cases hp) (Ga.since (X:=(w,false)) (Below.refl w.heap.size w)) (fun it _ _=>rfl) (iJ 0 (L.take n) ss).1 h.out
 rw [mR,List.take_append_drop] at hq;exact hq
theorem clrC (v:Value) (l:List Rat) (w:World) (hv:Rq l v w) (hl:l.length≤4000):Calls Tryz.prog 35 #[v] w fun e w'=>∃ u,e=.returned u∧Rqo w.heap.size l u w'∧Since w w':=by
 obtain ⟨A,n,c,rfl,hln,hr⟩:=hv.open
 rcases A with _|⟨b,off,fr⟩
 ·have h0:n=0:=by
   obtain ⟨_,A2,c2,h2,hc,hm,hz,_⟩:=hr
   injection h2 with e1 e2 e3
   have:=hz e1.symm
   omega
  subst h0
  have hc0:c=0:=by
   obtain ⟨_,A2,c2,h2,hc,hm,hz,_⟩:=hr
   injection h2 with e1 e2 e3
   subst e3;exact hz e1.symm
  subst hc0;obtain rfl:l=[]:=List.eq_nil_of_length_eq_zero hln;have he:=Lib.run_eql_slice_nil (P:=Tryz.prog) (w:=w) 52 26 none 0 0 0 0 Tryz.underlying52
  go_enter Tryz.func35,Tryz.ntmps35
  go_wp2
  go_ret
  exact ⟨_,rfl,gS _ _,Below.refl _ _⟩
 ·have he:=Lib.run_eql_slice_nil (P:=Tryz.prog) (w:=w) 52 26 (some ⟨b,off,fr⟩) n c 0 0 Tryz.underlying52
  have ho0:(w.alloc (.cells #[] 26)).ownsRow w.heap.size 26 3 (.slice (some ⟨w.heap.size,0,none⟩) 0 0) 0 [] :=
   ⟨rfl,.inr ⟨w.heap.size,0,#[],rfl,Nat.le_refl _,heap_alloc_new w _,Nat.le_refl _,by unfold maxLen;omega,rfl,rfl⟩⟩
  have hr0:=hr.alloc (.cells #[] 26);have hb0:=(Below.refl w.heap.size w).alloc (Nat.le_refl _) (.cells #[] 26)
  go_enter Tryz.func35,Tryz.ntmps35
  go_wp2_with (at_builtin;refine iC rfl (.tmp 5) (.tmp 6) 52 rfl w.heap.size 26 _ 3 40 Tryz.underlying52 wP rfl (by decide) _ _ _ rfl ho0 _ _ _ rfl hr0 (qVs l) (by omega) (by unfold maxLen;omega) hb0.size ?_;intro v4 w4 hown4 hg4 hb4)
  rw [List.nil_append,Nat.zero_add] at hown4
  go_wp2
  go_ret
  refine ⟨_,rfl,?_,hb0.trans hb4⟩
  show w4.ownsRow _ _ _ _ l.length _
  rw [hln];exact hown4
theorem blc4 (c:Int) (v:Value) (l:List En) (i:Nat) (day:Int) (w:World) (hv:Es l v w) (hs1:Hid (∀ k,tz (en l k).am.2.1 (en l k).am.2.2 100)) (HC:Hid (acE c l=0)) (h1:(i:Int)<c) (h2:0≤day∧day≤14609):Calls Tryz.prog 8 #[.agg #[vI c,v],vI i,vI day] w fun e w'=>e=.returned (.tuple #[rbv (blV c l (i:Int) day),vI (blE c l (i:Int) day)])∧Since w w':=by
 have hs:Hid (∀ k,tz (en l k).am.2.1 (en l k).am.2.2 1000000):=fun k=>(hs1.out k).mono (by decide)
 have HK:Hid (Ok44 c l):=acE_ok.1 HC.out;have hc100:=HK.out.c100
 have hi9:i<100:=by omega
 have HE:Hid (blE c l (i:Int) day=0):=by
  show _=_
  unfold blE
  rw [HC.out,if_neg (by decide),if_neg (by omega)]
 have HD:Hid ((decide (0≤day) && decide (day≤14609))=true):=by
  show _=_
  rw [decide_eq_true h2.1,decide_eq_true h2.2];rfl
 obtain ⟨A,n,cp,rfl,hln,hn1,hr⟩:=hv.at;clear hv;have HRX:=bV hr;have HLN:=Lib.hid hln;clear hr;have HES:=cA HLN HRX
 go_enter Tryz.func8,Tryz.ntmps8
 go_upto_region 1 with fail;obtain ⟨W0,hW0,hB0,hB1,hb⟩:=bL w 24 26 [vI c,.slice A n cp] [.bool false,.string ⟨#[]⟩,.string ⟨#[]⟩];rw [← hW0];clear hW0;refine jp ?_;refine ja hB0 Tryz.underlying24 (by rfl) aE ?_;refine jc (vI 0) (fun X hX hF=>mo (fR c _ l X (HES.out X (Since.next hb hX)) hs) (by rw [HC.out])) ?_;refine jm (vI 0) ?_;refine jzb hb fun X1 hX1 hb=>?_;obtain ⟨hB0,hB1⟩:=bl2 hX1 hB0 hB1;go_upto_region 2 with fail;refine jp ?_;refine jm (vI 0) ?_;refine jv (.bool false) (aS _ _ _ _ (by rfl) .i64 0 0 (by rfl) (by rfl) false (by rw [decide_eq_true (by omega)];rfl)) ?_;refine jzb hb fun X2 hX2 hb=>?_;obtain ⟨hB0,hB1⟩:=bl2 hX2 hB0 hB1;go_upto_region 4 with fail;refine jp ?_;refine jm (vI i) ?_;refine bS (i:Int) 0 (by omega) ?_;refine jm (.bool false) ?_;refine jm (vI i) ?_;refine jn (vP w.heap.size 0) ?_;refine jf _ hB0 0 aB ?_;refine eD (i:Int) c (by omega) ?_;refine jm (.bool false) ?_;refine jm (.bool false) ?_;refine jm (vI day) ?_;refine jc (.bool true) (fun X hX hF=>mo (iS day X) (by rw [HD.out])) ?_;refine jm (.bool false) ?_;refine jm (.bool false) ?_;refine jzb hb fun X3 hX3 hb=>?_;obtain ⟨hB0,hB1⟩:=bl2 hX3 hB0 hB1
 have HL:Hid (blV c l (i:Int) day=(bal l (i:Int) 0 day 0)):=by
  show _=_
  unfold blV
  rw [HE.out,if_pos rfl]
 have HAT:=Lib.hid (qZg l 0 day 0 hi9);go_upto_region 6 with fail;refine jq 5 ?_;refine ja hB0 Tryz.underlying24 (by rfl) aE ?_;refine jm (vI day) ?_;refine jc (.agg (fl rc (smF l 0 day 0)).toArray) (fun X hX hF=>smsC c _ l 0 day 0 X (HES.out X (Since.next hb hX)) hs1 HK) ?_;refine jm (vI i) ?_;refine jv (rt (rN (bal l (i:Int) 0 day 0)) (rP (bal l (i:Int) 0 day 0)) (rD (bal l (i:Int) 0 day 0))) (qQa _ _ (by rfl) (mN l 0 day 0) (by rfl) i hi9 (by rfl) rfl HAT.out) ?_;refine jzb hb fun X4 hX4 hb=>?_;obtain ⟨hB0,hB1⟩:=bl2 hX4 hB0 hB1;refine osb 26 6 33 (w.heap.size+1) 26 hB1 [.bool (rN (bal l (i:Int) 0 day 0)),.string ⟨(rP (bal l (i:Int) 0 day 0)).toArray⟩,.string ⟨(rD (bal l (i:Int) 0 day 0)).toArray⟩] aC ?_;intro w9 hR9 hO9 hB9 hs9;have hb9:=hB9 _ _ hb (by omega);have hB0:=hO9 _ _ _ (by omega) hB0;clear hO9 hB9
 go_wp2
 refine bD (v:=vI 0) rfl rfl (by rfl) (by rfl) Tryz.underlying26 rfl hR9 aC ⟨by rw [HE.out,HL.out],hb9⟩
theorem qXt (c:Int) (v:Value) (l:List En) (a day:Int) (w:World) (hv:Es l v w) (hs1:Hid (∀ k,tz (en l k).am.2.1 (en l k).am.2.2 100)):Calls Tryz.prog 8 #[.agg #[vI c,v],vI a,vI day] w fun e w'=>e=.returned (.tuple #[rbv (blV c l a day),vI (blE c l a day)])∧Since w w':=by
 have hs:Hid (∀ k,tz (en l k).am.2.1 (en l k).am.2.2 1000000):=fun k=>(hs1.out k).mono (by decide)
 by_cases h0:acE c l=0
 ·rcases (show a<0∨(0≤a∧c≤a)∨(0≤a∧a<c) by omega) with h|h|h
  ·exact blc1 c v l a day w hv hs h0 h
  ·exact blc2 c v l a day w hv hs h0 h.1 h.2
  ·rcases (show (day<0∨14609<day)∨(0≤day∧day≤14609) by omega) with hy|hy
   ·exact blc3 c v l a day w hv hs h0 h.1 h.2 hy
   ·obtain ⟨i,rfl⟩:∃ i:Nat,a=(i:Int):=⟨a.toNat,by omega⟩
    exact blc4 c v l i day w hv hs1 h0 h.2 hy
 ·exact blc0 c v l a day w hv hs h0
theorem sus5 (c:Int) (v:Value) (l:List En) (f t k:Int) (w:World) (hv:Es l v w) (hs1:Hid (∀ k,tz (en l k).am.2.1 (en l k).am.2.2 100)) (HC:Hid (acE c l=0)) (hf:0≤f∧f≤14609) (ht:0≤t∧t≤14609) (hk:0≤k∧k≤5):Calls Tryz.prog 10 #[.agg #[vI c,v],vI f,vI t,vI k] w fun e w'=>∃ u,e=.returned u∧Tp (Rqo w.heap.size (suL c l f t k)) (suE c l f t k) u w'∧Since w w':=by
 have hs:Hid (∀ k,tz (en l k).am.2.1 (en l k).am.2.2 1000000):=fun k=>(hs1.out k).mono (by decide)
 have HK:Hid (Ok44 c l):=acE_ok.1 HC.out;have hc100:=HK.out.c100;have hc1:=HK.out.c1;obtain ⟨N,hN⟩:∃ N:Nat,c=(N:Int):=⟨c.toNat,by omega⟩
 have hN9:N≤100:=by omega
 have HN:=Lib.hid hN;clear hN
 have HE:Hid (suE c l f t k=0):=by
  show _=_
  unfold suE
  rw [HC.out,if_neg (by decide),if_neg (by omega)]
 have HF:Hid ((decide (0≤f) && decide (f≤14609))=true):=by
  show _=_
  rw [decide_eq_true hf.1,decide_eq_true hf.2];rfl
 have HT:Hid ((decide (0≤t) && decide (t≤14609))=true):=by
  show _=_
  rw [decide_eq_true ht.1,decide_eq_true ht.2];rfl
 obtain ⟨A,n,cp,rfl,hln,hn1,hr⟩:=hv.at;clear hv;have HRX:=bV hr;have HLN:=Lib.hid hln;clear hr;have HES:=cA HLN HRX
 go_enter Tryz.func10,Tryz.ntmps10
 go_upto_region 1 with fail;obtain ⟨W0,hW0,hB0,hb⟩:=aQ w 24 [vI c,.slice A n cp];rw [← hW0];clear hW0;refine jp ?_;refine ja hB0 Tryz.underlying24 (by rfl) aE ?_;refine jc (vI 0) (fun X hX hF=>mo (fR c _ l X (HES.out X (Since.next hb hX)) hs) (by rw [HC.out])) ?_;refine jm (vI 0) ?_;refine jzb hb fun X1 hX1 hb=>?_;replace hB0:=hB0.bel hX1;go_upto_region 2 with fail;refine jp ?_;refine jm (vI 0) ?_;refine jv (.bool false) (aS _ _ _ _ (by rfl) .i64 0 0 (by rfl) (by rfl) false (by rw [decide_eq_true (by omega)];rfl)) ?_;refine jzb hb fun X2 hX2 hb=>?_;replace hB0:=hB0.bel hX2;go_upto_region 4 with fail;refine jp ?_;refine jm (vI f) ?_;refine jc (.bool true) (fun X hX hF=>mo (iS f X) (by rw [HF.out])) ?_;refine jm (.bool false) ?_;refine jm (.bool false) ?_;refine jm (vI t) ?_;refine jc (.bool true) (fun X hX hF=>mo (iS t X) (by rw [HT.out])) ?_;refine jm (.bool false) ?_;refine jm (.bool false) ?_;refine jm (.bool false) ?_;refine jm (vI k) ?_;refine bS k 0 (by omega) ?_;refine jm (.bool false) ?_;refine jm (.bool false) ?_;refine jm (vI k) ?_;refine dM k 5 (by omega) ?_;refine jm (.bool false) ?_;refine jzb hb fun X3 hX3 hb=>?_;replace hB0:=hB0.bel hX3
 have HL:Hid (suL c l f t k=(smF l f t k).take N):=by
  show _=_
  unfold suL
  rw [HE.out,if_pos rfl,xN HN.out hN9]
 have hlS:(fl rc (smF l f t k)).length=300:=by rw [iF,mN]
 go_upto_region 6 with fail;refine jq 5 ?_;refine ja hB0 Tryz.underlying24 (by rfl) aE ?_;refine jm (vI f) ?_;refine jm (vI t) ?_;refine jm (vI k) ?_;refine jc (.agg (fl rc (smF l f t k)).toArray) (fun X hX hF=>smsC c _ l f t k X (HES.out X (Since.next hb hX)) hs1 HK) ?_;refine jzb hb fun X4 hX4 hb=>?_;replace hB0:=hB0.bel hX4
 go_upto_region 7 with (refine iH _ _ _ rfl 79 (.tmp 11) (.tmp 37) (by rfl) (by rfl) (fl rc (smF l f t k)).toArray (by rfl) (by rw [List.size_toArray,hlS,pL,List.size_toArray,iF];rfl) (by
  intro u hu
  unfold fl at hu
  obtain ⟨y,hy,hz⟩:=List.mem_flatten.1 hu;obtain ⟨t9,_,rfl⟩:=List.mem_map.1 hy;simp only [rc,trc,List.mem_cons,List.not_mem_nil,or_false] at hz
  rcases hz with rfl|rfl|rfl <;> rfl) (by rw [List.size_toArray,hlS];exact lB) ?_)
 obtain ⟨Y9,hY9,hA11,hS9⟩:=aQ X4 79 (fl rc (smF l f t k));rw [← hY9];clear hY9;have hgs11:=hb.size;replace hB0:=hB0.bel hS9;have hb:=aF hb hS9;clear hS9;generalize X4.heap.size=g11 at *;refine bE [none,none,none,some (Rqo w.heap.size ((smF l f t k).take N))] (aA (aA (aA (aD (Rqo.lasts _ _) (aG))))) ?_;simp only [iX,Nat.reduceAdd];refine jn (vP w.heap.size 0) ?_;refine jf _ hB0 0 aB ?_;refine jv (.slice (some ⟨g11,0,none⟩) N 100) (zT (.tmp 11) (.tmp 39) (by rfl) g11 N hN9 (by rfl) (by rfl) HN.out) ?_;refine jk (fun X hX hF=>(clrC _ _ X (qXs (hA11.bel hX) (mN _ _ _ _) hN9) (by rw [List.length_take,mN];omega)).mono fun e X' ⟨u,h1,h2,h3⟩=>⟨u,h1,h2.mono (Nat.le_trans hb.size hX.size),h3⟩) ?_;intro v41;refine jm (v41) ?_;refine jm (vI 0) ?_;refine aM ?_;intro X5 hX5 hF;have hv41:=hF _ _ List.mem_cons_self;replace hA11:=hA11.bel hX5;replace hB0:=hB0.bel hX5;have hb:=aF hb hX5;clear hF hX5
 go_wp2
 go_ret2
 exact ⟨_,rfl,⟨v41,by rw [HE.out];rfl,by rw [HL.out];exact hv41⟩,hb⟩
theorem susO (c:Int) (v:Value) (l:List En) (f t k:Int) (w:World) (hv:Es l v w) (hs1:Hid (∀ k,tz (en l k).am.2.1 (en l k).am.2.2 100)):Calls Tryz.prog 10 #[.agg #[vI c,v],vI f,vI t,vI k] w fun e w'=>∃ u,e=.returned u∧Tp (Rqo w.heap.size (suL c l f t k)) (suE c l f t k) u w'∧Since w w':=by
 have hs:Hid (∀ k,tz (en l k).am.2.1 (en l k).am.2.2 1000000):=fun k=>(hs1.out k).mono (by decide)
 by_cases h0:acE c l=0
 ·rcases (show (f<0∨14609<f)∨(0≤f∧f≤14609) by omega) with hf|hf
  ·exact sus1 c v l f t k w hv hs h0 hf
  ·rcases (show (t<0∨14609<t)∨(0≤t∧t≤14609) by omega) with ht|ht
   ·exact sus2 c v l f t k w hv hs h0 hf ht
   ·rcases (show k<0∨(0≤k∧5<k)∨(0≤k∧k≤5) by omega) with hk|hk|hk
    ·exact sus3 c v l f t k w hv hs h0 hf ht hk
    ·exact sus4 c v l f t k w hv hs h0 hf ht hk.1 hk.2
    ·exact sus5 c v l f t k w hv hs1 h0 hf ht hk
 ·exact sus0 c v l f t k w hv hs h0
theorem susC (c:Int) (v:Value) (l:List En) (f t k:Int) (w:World) (hv:Es l v w) (hs1:Hid (∀ k,tz (en l k).am.2.1 (en l k).am.2.2 100)):Calls Tryz.prog 10 #[.agg #[vI c,v],vI f,vI t,vI k] w fun e w'=>∃ u,e=.returned u∧Tp (Rq (suL c l f t k)) (suE c l f t k) u w'∧Since w w' :=
 (susO c v l f t k w hv hs1).mono fun e w' ⟨u,h1,⟨z,h2,h3⟩,h4⟩=>⟨u,h1,⟨z,h2,h3.rq⟩,h4⟩
end Go.Proofs.YtffgfkcljcollaaGreatDoor

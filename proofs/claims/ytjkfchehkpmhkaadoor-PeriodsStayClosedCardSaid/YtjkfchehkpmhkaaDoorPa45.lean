/- period: New, end, party, carried. -/
import Derived.Test.YtjkfchehkpmhkaaDoorPw45
set_option linter.unusedSimpArgs false
set_option linter.unusedVariables false
set_option maxRecDepth 100000
set_option maxHeartbeats 1600000
namespace Go.Proofs.YtjkfchehkpmhkaaDoor
open Go.RowKit
theorem kY {cs:List Cg} {x:En} {k:Nat} (h:x.kd=3):cN cs x k=(decide (x.rf=-1) && (btw x 1 && decide (gU cs x.pd≤(k:Int)))):=by
 unfold cN
 rw [if_pos h]
theorem gF {cs:List Cg} {x:En} {k:Nat} (h:x.kd≠3):cN cs x k=(decide (x.rf=-1) && (btw x 0 && decide (x.kd=1) && !decide (gU cs x.pd≤(k:Int)))):=by
 unfold cN
 rw [if_neg h]
def pty (x:En) (o:Int):Int:=if o=x.deb then x.cre else if o=x.cre then x.deb else 0
theorem btw_d {x:En} {o:Int} (h:o=x.deb):btw x o=decide (1<x.cre):=by
 unfold btw
 rw [decide_eq_true h.symm,Bool.true_and]
 by_cases h2:x.cre=o
 ·rw [decide_eq_true h2,Bool.true_and,← h,← h2,Bool.or_self]
 ·rw [decide_eq_false h2,Bool.false_and,Bool.or_false]
theorem btw_c {x:En} {o:Int} (h0:o≠x.deb) (h:o=x.cre):btw x o=decide (1<x.deb):=by
 unfold btw
 rw [decide_eq_false (fun h9=>h0 h9.symm),Bool.false_and,Bool.false_or,decide_eq_true h.symm,Bool.true_and]
theorem btw_n {x:En} {o:Int} (h0:o≠x.deb) (h:o≠x.cre):btw x o=false:=by
 unfold btw
 rw [decide_eq_false (show ¬ x.deb=o from fun h9=>h0 h9.symm),decide_eq_false (show ¬ x.cre=o from fun h9=>h h9.symm)]
 rfl
theorem oD (a:Int) (w:World):Calls Tryd.prog 6 #[vI a] w fun e w'=>e=.returned (.tuple #[.agg #[vI (jD a),.slice none 0 0,.slice none 0 0],vI (oI a)])∧Since w w':=by
 rcases (show a<1∨(1≤a∧98<a)∨(1≤a∧a≤98) by omega) with h|h|h
 ·have HE:Hid (oI a=3):=if_pos (by omega)
  have HC:Hid (jD a=0):=if_pos (by omega)
  go_enter Tryd.func6,Tryd.ntmps6
  go_upto_region 1 with fail;obtain ⟨W0,hW0,hB0,hb⟩:=aT w 31 [vI 0,.slice none 0 0,.slice none 0 0];rw [← hW0];clear hW0;refine jp ?_;refine jm (vI a) ?_;refine cW a 1 (by omega) ?_;refine jm (.bool true) ?_;refine js ?_;refine js ?_;refine jm (.bool true) ?_;refine jzb hb fun X1 hX1 hb=>?_;replace hB0:=hB0.bel hX1;go_upto_region 2 with fail;refine jq 1 ?_;refine jn (.agg #[vI 0,.slice none 0 0,.slice none 0 0]) ?_;refine jzb hb fun X2 hX2 hb=>?_;replace hB0:=hB0.bel hX2;refine osb 31 2 10 w.heap.size 31 hB0 [vI 0,.slice none 0 0,.slice none 0 0] aH ?_;intro w9 hR9 hO9 hB9 hs9;have hb9:=hB9 _ _ hb (by omega);clear hO9 hB9
  go_wp2
  refine aU (v:=vI 3) rfl rfl (by rfl) (by rfl) Tryd.underlying31 rfl hR9 aH ⟨by rw [HE.out,HC.out],hb9⟩
 ·have HE:Hid (oI a=3):=if_pos (by omega)
  have HC:Hid (jD a=0):=if_pos (by omega)
  go_enter Tryd.func6,Tryd.ntmps6
  go_upto_region 1 with fail;obtain ⟨W0,hW0,hB0,hb⟩:=aT w 31 [vI 0,.slice none 0 0,.slice none 0 0];rw [← hW0];clear hW0;refine jp ?_;refine jm (vI a) ?_;refine bR a 1 (by omega) ?_;refine jm (.bool false) ?_;refine jm (vI a) ?_;refine dN a 98 (by omega) ?_;refine jm (.bool true) ?_;refine jzb hb fun X1 hX1 hb=>?_;replace hB0:=hB0.bel hX1;go_upto_region 2 with fail;refine jq 1 ?_;refine jn (.agg #[vI 0,.slice none 0 0,.slice none 0 0]) ?_;refine jzb hb fun X2 hX2 hb=>?_;replace hB0:=hB0.bel hX2;refine osb 31 2 10 w.heap.size 31 hB0 [vI 0,.slice none 0 0,.slice none 0 0] aH ?_;intro w9 hR9 hO9 hB9 hs9;have hb9:=hB9 _ _ hb (by omega);clear hO9 hB9
  go_wp2
  refine aU (v:=vI 3) rfl rfl (by rfl) (by rfl) Tryd.underlying31 rfl hR9 aH ⟨by rw [HE.out,HC.out],hb9⟩
 ·have HE:Hid (oI a=0):=if_neg (by omega)
  have HC:Hid (jD a=a+2):=if_neg (by omega)
  go_enter Tryd.func6,Tryd.ntmps6
  go_upto_region 1 with fail;obtain ⟨W0,hW0,hB0,hb⟩:=aT w 31 [vI 0,.slice none 0 0,.slice none 0 0];rw [← hW0];clear hW0;refine jp ?_;refine jm (vI a) ?_;refine bR a 1 (by omega) ?_;refine jm (.bool false) ?_;refine jm (vI a) ?_;refine dF a 98 (by omega) ?_;refine jm (.bool false) ?_;refine jzb hb fun X1 hX1 hb=>?_;replace hB0:=hB0.bel hX1;go_upto_region 3 with fail;refine jq 4 ?_;refine jm (vI a) ?_;refine jv (vI (a+2)) (aX _ _ _ _ (by rfl) a 2 (a+2) (by rfl) (by rfl) (by omega) (by omega) (by omega)) ?_;refine jn (.agg #[vI (a+2),.slice none 0 0]) ?_;refine jn (.agg #[vI (a+2),.slice none 0 0,.slice none 0 0]) ?_;refine jzb hb fun X2 hX2 hb=>?_;replace hB0:=hB0.bel hX2;refine osb 31 2 14 w.heap.size 31 hB0 [vI (a+2),.slice none 0 0,.slice none 0 0] aH ?_;intro w9 hR9 hO9 hB9 hs9;have hb9:=hB9 _ _ hb (by omega);clear hO9 hB9
  go_wp2
  refine aU (v:=vI 0) rfl rfl (by rfl) (by rfl) Tryd.underlying31 rfl hR9 aH ⟨by rw [HE.out,HC.out],hb9⟩
theorem endC (B:Nat) (c:Int) (v z:Value) (l:List En) (cs:List Cg) (p:Int) (w:World) (hv:Es l v w) (hz:Cs B cs z w) (hp:0≤p):Calls Tryd.prog 67 #[.agg #[vI c,v,z],vI p] w fun e w'=>e=.returned (vI (gU cs p))∧Since w w':=by
 obtain ⟨k,rfl⟩:∃ k:Nat,p=(k:Int):=⟨p.toNat,by omega⟩;obtain ⟨A,n,cp,rfl,hln,hn1,hr⟩:=hv.at;clear hv;have HRX:=cP hr;have HLN:=Lib.hid hln;clear hr;have HES:=dG HLN HRX;obtain ⟨A2,m,cp2,rfl,hlm,hm1,hr2⟩:=hz.at
 have HCS:Hid (∀ X,Since w X→Cs B cs (.slice A2 m cp2) X):=fun X h=>Cs.lasts B cs _ _ _ hz h
 have HRC:Hid (∀ X,Since w X→Rd X 2 (.slice A2 m cp2) m (fl clc cs)):=fun X h=>hr2.below h
 have HLM:=Lib.hid hlm;clear hz hr2
 go_enter Tryd.func67,Tryd.ntmps67
 go_upto_region 1 with fail;obtain ⟨W0,hW0,hB0,hb⟩:=aT w 79 [vI c,.slice A n cp,.slice A2 m cp2];rw [← hW0];clear hW0
 rcases Nat.lt_or_ge k m with hlt|hlt
 ·obtain ⟨b2,off2,rfl,hbb2,hcx2⟩:=nW (HRC.out _ hb) HLM.out (k:=k) (by omega)
  obtain ⟨y,y9⟩:∃ y,y=cg cs k:=⟨_,rfl⟩;have HY:=Lib.hid y9;clear y9;rw [← HY.out] at hcx2
  change Cl W0 b2 (off2+k * 2) [vI y.day,vI y.place] at hcx2
  have HC:Hid (gU cs (k:Int)=y.place):=by
   show _=_
   unfold gU
   rw [if_pos (by rw [HLM.out];omega),Int.toNat_natCast,← HY.out]
  refine jp ?_;refine jm (vI k) ?_;refine jn (vP w.heap.size 2) ?_;refine jf _ hB0 2 bF ?_;refine jv (vI m) (aJ Tryd.underlying29 _ (by rfl) (some ⟨b2,off2,none⟩) m cp2 (by rfl) _ rfl) ?_;refine cW (k:Int) (m:Int) (by omega) ?_;refine jzb hb fun X1 hX1 hb=>?_;replace hB0:=hB0.bel hX1;have hcx2:=hcx2.below hX1 hbb2;replace hbb2:=Nat.lt_of_lt_of_le hbb2 (hX1).size;go_upto_region 2 with fail;refine jp ?_;refine jn (vP w.heap.size 2) ?_;refine jf _ hB0 2 bF ?_;refine jm (vI k) ?_;refine jv (vP b2 (off2+k * 2)) (aW Tryd.underlying29 cC _ _ (by rfl) b2 (off2) m cp2 k (by omega) (by rfl) (by rfl) rfl) ?_;refine jn (vP b2 (off2+k * 2+1)) ?_;refine jg (vI y.place) (fun X hX hF=>aY 3 _ (by rfl) b2 (off2+k * 2+1) (by rfl) _ X ((hcx2.below hX hbb2) 1 _ rfl) (fun X u h=>aB b2 (off2+k * 2+1) X u h)) ?_;refine jm (vI y.place) ?_;refine jzb hb fun X2 hX2 hb=>?_;replace hB0:=hB0.bel hX2;have hcx2:=hcx2.below hX2 hbb2;replace hbb2:=Nat.lt_of_lt_of_le hbb2 (hX2).size
  go_wp2
  go_ret
  exact ⟨by rw [HC.out];rfl,hb⟩
 ·have HC:Hid (gU cs (k:Int)=4001):=by
   show _=_
   unfold gU
   rw [if_neg (by rw [HLM.out];omega)]
  refine jp ?_;refine jm (vI k) ?_;refine jn (vP w.heap.size 2) ?_;refine jf _ hB0 2 bF ?_;refine jv (vI m) (aJ Tryd.underlying29 _ (by rfl) A2 m cp2 (by rfl) _ rfl) ?_;refine bR (k:Int) (m:Int) (by omega) ?_;refine jzb hb fun X1 hX1 hb=>?_;replace hB0:=hB0.bel hX1;go_upto_region 3 with fail;refine jp ?_;refine jm (vI 4001) ?_;refine jzb hb fun X2 hX2 hb=>?_;replace hB0:=hB0.bel hX2
  go_wp2
  go_ret
  exact ⟨by rw [HC.out];rfl,hb⟩
theorem ptyC (x:En) (o:Int) (w:World):Calls Tryd.prog 68 #[.agg #[vI x.day,vI x.deb,vI x.cre,.bool x.am.1,vS x.am.2.1,vS x.am.2.2,vI x.kd,vI x.pd,vI x.rf,vI x.w1,vI x.w2,vI x.w3,vI x.w4],vI o] w fun e w'=>e=.returned (.tuple #[vI (pty x o),.bool (btw x o)])∧Since w w':=by
 go_enter Tryd.func68,Tryd.ntmps68
 go_upto_region 1 with fail;obtain ⟨W0,hW0,hB0,hb⟩:=aT w 70 (eL x);rw [← hW0];clear hW0;refine jp ?_;refine jm (vI o) ?_;refine jzb hb fun X1 hX1 hb=>?_;replace hB0:=hB0.bel hX1
 rcases (show o=x.deb∨(o≠x.deb∧o=x.cre)∨(o≠x.deb∧o≠x.cre) by omega) with h|h|h
 ·have H1:=Lib.hid h
  clear h;have HB:Hid (btw x o=decide (1<x.cre)):=btw_d H1.out;have HP:Hid (pty x o=x.cre):=if_pos H1.out;go_upto_region 2 with fail;refine jp ?_;refine jn (vP w.heap.size 1) ?_;refine jf _ hB0 1 aB ?_;refine eG o x.deb H1.out ?_;refine jm (.bool true) ?_;refine jzb hb fun X2 hX2 hb=>?_;replace hB0:=hB0.bel hX2;go_upto_region 3 with fail;refine jd ?_;refine jn (vP w.heap.size 2) ?_;refine jf _ hB0 2 aB ?_;refine jn (vP w.heap.size 2) ?_;refine jf _ hB0 2 aB ?_;refine jv (.bool (decide (x.cre > 1))) (fE _ _ _ _ (by rfl) .i64 x.cre 1 (by rfl) (by rfl) (decide (x.cre > 1)) rfl) ?_;refine jm (vI x.cre) ?_;refine jm (.bool (decide (x.cre > 1))) ?_;refine jzb hb fun X3 hX3 hb=>?_;replace hB0:=hB0.bel hX3
  go_wp2
  go_ret2
  exact ⟨by rw [HB.out,HP.out];rfl,hb⟩
 ·have H0:=Lib.hid h.1
  have H1:=Lib.hid h.2;have hne:=h.1;clear h;have HB:Hid (btw x o=decide (1<x.deb)):=btw_c H0.out H1.out;have HP:Hid (pty x o=x.deb):=(if_neg H0.out).trans (if_pos H1.out);go_upto_region 2 with fail;refine jp ?_;refine jn (vP w.heap.size 1) ?_;refine jf _ hB0 1 aB ?_;refine eH o x.deb hne ?_;refine jm (.bool false) ?_;refine jzb hb fun X2 hX2 hb=>?_;replace hB0:=hB0.bel hX2;go_upto_region 4 with fail;refine jp ?_;refine jn (vP w.heap.size 2) ?_;refine jf _ hB0 2 aB ?_;refine eG o x.cre H1.out ?_;refine jm (.bool true) ?_;refine jzb hb fun X3 hX3 hb=>?_;replace hB0:=hB0.bel hX3;go_upto_region 5 with fail;refine jd ?_;refine jn (vP w.heap.size 1) ?_;refine jf _ hB0 1 aB ?_;refine jn (vP w.heap.size 1) ?_;refine jf _ hB0 1 aB ?_;refine jv (.bool (decide (x.deb > 1))) (fE _ _ _ _ (by rfl) .i64 x.deb 1 (by rfl) (by rfl) (decide (x.deb > 1)) rfl) ?_;refine jm (vI x.deb) ?_;refine jm (.bool (decide (x.deb > 1))) ?_;refine jzb hb fun X4 hX4 hb=>?_;replace hB0:=hB0.bel hX4
  go_wp2
  go_ret2
  exact ⟨by rw [HB.out,HP.out];rfl,hb⟩
 ·have HB:Hid (btw x o=false):=btw_n h.1 h.2
  have HP:Hid (pty x o=0):=(if_neg h.1).trans (if_neg h.2);go_upto_region 2 with fail;refine jp ?_;refine jn (vP w.heap.size 1) ?_;refine jf _ hB0 1 aB ?_;refine eH o x.deb h.1 ?_;refine jm (.bool false) ?_;refine jzb hb fun X2 hX2 hb=>?_;replace hB0:=hB0.bel hX2;go_upto_region 4 with fail;refine jp ?_;refine jn (vP w.heap.size 2) ?_;refine jf _ hB0 2 aB ?_;refine eH o x.cre h.2 ?_;refine jm (.bool false) ?_;refine jzb hb fun X3 hX3 hb=>?_;replace hB0:=hB0.bel hX3;go_upto_region 6 with fail;refine jp ?_;refine jm (vI 0) ?_;refine jm (.bool false) ?_;refine jzb hb fun X4 hX4 hb=>?_;replace hB0:=hB0.bel hX4
  go_wp2
  go_ret2
  exact ⟨by rw [HB.out,HP.out];rfl,hb⟩
theorem xQt (B:Nat) (c:Int) (v z:Value) (l:List En) (cs:List Cg) (k:Nat) (w:World) (hv:Es l v w) (hz:Cs B cs z w) (hk:k<l.length) (hp:0≤(en l k).pd):Calls Tryd.prog 52 #[.agg #[vI c,v,z],vI k] w fun e w'=>e=.returned (.tuple #[.bool (decide ((en l k).kd=3)),.bool (cN cs (en l k) k)])∧Since w w':=by
 obtain ⟨A,n,cp,rfl,hln,hn1,hr⟩:=hv.at;clear hv;have HRX:=cP hr;have HLN:=Lib.hid hln;clear hr;have HES:=dG HLN HRX;obtain ⟨A2,m,cp2,rfl,hlm,hm1,hr2⟩:=hz.at
 have HCS:Hid (∀ X,Since w X→Cs B cs (.slice A2 m cp2) X):=fun X h=>Cs.lasts B cs _ _ _ hz h
 have HRC:Hid (∀ X,Since w X→Rd X 2 (.slice A2 m cp2) m (fl clc cs)):=fun X h=>hr2.below h
 have HLM:=Lib.hid hlm;clear hz hr2
 have hlt:k<n:=by rw [← hln];exact hk
 go_enter Tryd.func52,Tryd.ntmps52
 go_upto_region 1 with fail;obtain ⟨W0,hW0,hB0,hb⟩:=aT w 79 [vI c,.slice A n cp,.slice A2 m cp2];rw [← hW0];clear hW0;obtain ⟨b,off,rfl,hbb,hcx⟩:=iW (HRX.out _ hb) HLN.out (k:=k) hlt;obtain ⟨x,x9⟩:∃ x,x=en l k:=⟨_,rfl⟩;have HX:=Lib.hid x9;clear x9;rw [← HX.out] at hcx
 change Cl W0 b (off+k * 13) (eL x) at hcx
 have HES:Hid (∀ X,Since w X→Es l (.slice (some ⟨b,off,none⟩) n cp) X):=fun X h=>by show Rd X 13 _ l.length _;rw [HLN.out];exact HRX.out X h
 have hp0:0≤x.pd:=by rw [HX.out];exact hp
 refine jq 6 ?_;refine jn (vP w.heap.size 0) ?_;refine jn (vP w.heap.size 1) ?_;refine jf _ hB0 1 aZ ?_;refine jm (vI k) ?_;refine jv (vP b (off+k * 13)) (aW Tryd.underlying26 aR _ _ (by rfl) b (off) n cp k hlt (by rfl) (by rfl) rfl) ?_;refine jg (.agg #[vI x.day,vI x.deb,vI x.cre,.bool x.am.1,st x.am.2.1,st x.am.2.2,vI x.kd,vI x.pd,vI x.rf,vI x.w1,vI x.w2,vI x.w3,vI x.w4]) (fun X hX hF=>bY 70 _ (by rfl) b (off+k * 13) (by rfl) Tryd.underlying70 rfl (eL x) X (Cl.part (hcx.below hX hbb) 0 _ (by rfl)) aR) ?_;refine jzb hb fun X1 hX1 hb=>?_;replace hB0:=hB0.bel hX1;have hcx:=hcx.below hX1 hbb;replace hbb:=Nat.lt_of_lt_of_le hbb (hX1).size;go_upto_region 2 with (refine osn 70 6 16 #[vI x.day,vI x.deb,vI x.cre,.bool x.am.1,vS x.am.2.1,vS x.am.2.2,vI x.kd,vI x.pd,vI x.rf,vI x.w1,vI x.w2,vI x.w3,vI x.w4] aR ?_);obtain ⟨Y1,hY9,hD6,hS9⟩:=aT X1 70 (eL x)
 rw [← hY9];clear hY9;have hgs6:=hb.size;have hlt6x0:=hB0.lt;have hcx:=hcx.below hS9 hbb;replace hbb:=Nat.lt_of_lt_of_le hbb (hS9).size;have hB0:=hB0.bel hS9;have hb:=aD hb hS9;clear hS9;generalize X1.heap.size=g6 at *;obtain ⟨ce,ce9⟩:∃ ce,gU cs x.pd=ce:=⟨_,rfl⟩;have HCE:=Lib.hid ce9;clear ce9;obtain ⟨pa,pa9⟩:∃ pa,decide (ce≤(k:Int))=pa:=⟨_,rfl⟩
 have HPA:Hid (decide (gU cs x.pd≤(k:Int))=pa):=by rw [HCE.out];exact pa9
 have HPB:=Lib.hid pa9;clear pa9;refine jp ?_;refine jm (vI k) ?_;refine ja hB0 Tryd.underlying79 (by rfl) mN ?_;refine jn (vP g6 6) ?_;refine jn (vP g6 7) ?_;refine jf _ hD6 7 aB ?_;refine jc (vI ce) (fun X hX hF=>mo (endC B c _ _ l cs x.pd X (HES.out X (Since.next hb hX)) (HCS.out X (Since.next hb hX)) hp0) (by rw [HCE.out])) ?_;refine jv (.bool pa) (kH _ _ _ _ (by rfl) .i64 (k:Int) ce (by rfl) (by rfl) pa HPB.out) ?_;refine jm (vI 0) ?_;refine jm (.bool pa) ?_;refine jzb hb fun X2 hX2 hb=>?_;obtain ⟨hB0,hD6⟩:=bl2 hX2 hB0 hD6
 rcases (show x.kd=3∨x.kd≠3 by omega) with h3|h3
 ·have H3:=Lib.hid h3
  clear h3;have HKD:Hid (decide (x.kd=3)=true):=decide_eq_true H3.out;have HKC:Hid (decide (x.kd=1)=false):=decide_eq_false (by rw [H3.out];decide);obtain ⟨bw,bw9⟩:∃ bw,btw x 1=bw:=⟨_,rfl⟩;have HBW:=Lib.hid bw9;clear bw9;go_upto_region 3 with fail;refine jp ?_;refine jn (vP g6 6) ?_;refine jn (vP g6 6) ?_;refine jf _ hD6 6 aB ?_;refine jv (.bool true) (bP _ _ _ _ (by rfl) .i64 x.kd 3 (by rfl) (by rfl) true HKD.out) ?_;refine jzb hb fun X3 hX3 hb=>?_;obtain ⟨hB0,hD6⟩:=bl2 hX3 hB0 hD6;go_upto_region 4 with fail;refine jp ?_;refine jm (vI 1) ?_;refine jzb hb fun X4 hX4 hb=>?_;obtain ⟨hB0,hD6⟩:=bl2 hX4 hB0 hD6;go_upto_region 5 with fail;refine jp ?_;refine ja hD6 Tryd.underlying70 (by rfl) aR ?_;refine jm (vI 1) ?_;refine jc (.tuple #[vI (pty x 1),.bool bw]) (fun X hX hF=>mo (ptyC x 1 X) (by rw [HBW.out])) ?_;refine jm (.tuple #[vI (pty x 1),.bool bw]) ?_;refine jm (vI (pty x 1)) ?_;refine jm (.bool bw) ?_;refine jm (vI (pty x 1)) ?_;refine jm (.bool bw) ?_;refine jzb hb fun X5 hX5 hb=>?_;obtain ⟨hB0,hD6⟩:=bl2 hX5 hB0 hD6;go_upto_region 6 with fail;refine jp ?_;refine jn (vP g6 6) ?_;refine jn (vP g6 6) ?_;refine jf _ hD6 6 aB ?_;refine jv (.bool true) (bP _ _ _ _ (by rfl) .i64 x.kd 3 (by rfl) (by rfl) true HKD.out) ?_;refine jm (.bool true) ?_;refine jzb hb fun X6 hX6 hb=>?_;obtain ⟨hB0,hD6⟩:=bl2 hX6 hB0 hD6
  rcases bw with _|_
  ·skip
   rcases pa with _|_
   ·skip
    go_upto_region 7 with fail;refine jp ?_;refine jm (.bool true) ?_;refine jm (.bool false) ?_;refine jm (.bool false) ?_;refine js ?_;refine js ?_;refine js ?_;refine js ?_;refine jm (.bool false) ?_;refine jm (.bool false) ?_;refine js ?_;refine js ?_;refine js ?_;refine js ?_;refine js ?_;refine js ?_;refine js ?_;refine js ?_;refine js ?_;refine js ?_;refine js ?_;refine js ?_;refine js ?_;refine js ?_;refine jm (.bool false) ?_;refine jm (.bool true) ?_;refine jm (.bool false) ?_;refine jzb hb fun X7 hX7 hb=>?_;obtain ⟨hB0,hD6⟩:=bl2 hX7 hB0 hD6
    have HC:Hid (cN cs x k=false):=by
     show _=_
     rw [kY H3.out,HBW.out,HPA.out,Bool.false_and,Bool.and_false] <;> rfl
    go_wp2
    go_ret2
    exact ⟨by rw [← HX.out,HKD.out,HC.out];rfl,hb⟩
   ·skip
    go_upto_region 7 with fail;refine jp ?_;refine jm (.bool true) ?_;refine jm (.bool false) ?_;refine jm (.bool false) ?_;refine js ?_;refine js ?_;refine js ?_;refine js ?_;refine jm (.bool false) ?_;refine jm (.bool false) ?_;refine js ?_;refine js ?_;refine js ?_;refine js ?_;refine js ?_;refine js ?_;refine js ?_;refine js ?_;refine js ?_;refine js ?_;refine js ?_;refine js ?_;refine js ?_;refine js ?_;refine jm (.bool false) ?_;refine jm (.bool true) ?_;refine jm (.bool false) ?_;refine jzb hb fun X7 hX7 hb=>?_;obtain ⟨hB0,hD6⟩:=bl2 hX7 hB0 hD6
    have HC:Hid (cN cs x k=false):=by
     show _=_
     rw [kY H3.out,HBW.out,HPA.out,Bool.false_and,Bool.and_false] <;> rfl
    go_wp2
    go_ret2
    exact ⟨by rw [← HX.out,HKD.out,HC.out];rfl,hb⟩
  ·skip
   obtain hrf|hrf:decide (x.rf=-1)=false∨decide (x.rf=-1)=true:=by cases decide (x.rf=-1) <;> simp
   ·have HRF:=Lib.hid hrf
    clear hrf
    rcases pa with _|_
    ·skip
     go_upto_region 7 with fail;refine jp ?_;refine jm (.bool true) ?_;refine jm (.bool true) ?_;refine jm (.bool true) ?_;refine jn (vP g6 6) ?_;refine jn (vP g6 8) ?_;refine jf _ hD6 8 aB ?_;refine jv (.bool false) (bP _ _ _ _ (by rfl) .i64 x.rf (-1) (by rfl) (by rfl) false HRF.out) ?_;refine jm (.bool false) ?_;refine jm (.bool false) ?_;refine js ?_;refine js ?_;refine js ?_;refine js ?_;refine js ?_;refine js ?_;refine js ?_;refine js ?_;refine js ?_;refine js ?_;refine js ?_;refine js ?_;refine js ?_;refine js ?_;refine jm (.bool false) ?_;refine jm (.bool true) ?_;refine jm (.bool false) ?_;refine jzb hb fun X7 hX7 hb=>?_;obtain ⟨hB0,hD6⟩:=bl2 hX7 hB0 hD6
     have HC:Hid (cN cs x k=false):=by
      show _=_
      rw [kY H3.out,HBW.out,HPA.out,HRF.out] <;> rfl
     go_wp2
     go_ret2
     exact ⟨by rw [← HX.out,HKD.out,HC.out];rfl,hb⟩
    ·skip
     go_upto_region 7 with fail;refine jp ?_;refine jm (.bool true) ?_;refine jm (.bool true) ?_;refine jm (.bool true) ?_;refine jn (vP g6 6) ?_;refine jn (vP g6 8) ?_;refine jf _ hD6 8 aB ?_;refine jv (.bool false) (bP _ _ _ _ (by rfl) .i64 x.rf (-1) (by rfl) (by rfl) false HRF.out) ?_;refine jm (.bool false) ?_;refine jm (.bool false) ?_;refine js ?_;refine js ?_;refine js ?_;refine js ?_;refine js ?_;refine js ?_;refine js ?_;refine js ?_;refine js ?_;refine js ?_;refine js ?_;refine js ?_;refine js ?_;refine js ?_;refine jm (.bool false) ?_;refine jm (.bool true) ?_;refine jm (.bool false) ?_;refine jzb hb fun X7 hX7 hb=>?_;obtain ⟨hB0,hD6⟩:=bl2 hX7 hB0 hD6
     have HC:Hid (cN cs x k=false):=by
      show _=_
      rw [kY H3.out,HBW.out,HPA.out,HRF.out] <;> rfl
     go_wp2
     go_ret2
     exact ⟨by rw [← HX.out,HKD.out,HC.out];rfl,hb⟩
   ·have HRF:=Lib.hid hrf
    clear hrf
    rcases pa with _|_
    ·skip
     go_upto_region 7 with fail;refine jp ?_;refine jm (.bool true) ?_;refine jm (.bool true) ?_;refine jm (.bool true) ?_;refine jn (vP g6 6) ?_;refine jn (vP g6 8) ?_;refine jf _ hD6 8 aB ?_;refine jv (.bool true) (bP _ _ _ _ (by rfl) .i64 x.rf (-1) (by rfl) (by rfl) true HRF.out) ?_;refine jm (.bool true) ?_;refine jm (.bool true) ?_;refine jm (.bool true) ?_;refine jm (.bool true) ?_;refine jm (.bool false) ?_;refine jm (.bool false) ?_;refine jm (.bool false) ?_;refine jn (vP g6 6) ?_;refine jn (vP g6 6) ?_;refine jf _ hD6 6 aB ?_;refine jv (.bool false) (bP _ _ _ _ (by rfl) .i64 x.kd 1 (by rfl) (by rfl) false HKC.out) ?_;refine jm (.bool false) ?_;refine js ?_;refine js ?_;refine jm (.bool false) ?_;refine jm (.bool false) ?_;refine jm (.bool false) ?_;refine jm (.bool true) ?_;refine jm (.bool false) ?_;refine jzb hb fun X7 hX7 hb=>?_;obtain ⟨hB0,hD6⟩:=bl2 hX7 hB0 hD6
     have HC:Hid (cN cs x k=false):=by
      show _=_
      rw [kY H3.out,HBW.out,HPA.out,HRF.out] <;> rfl
     go_wp2
     go_ret2
     exact ⟨by rw [← HX.out,HKD.out,HC.out];rfl,hb⟩
    ·skip
     go_upto_region 7 with fail;refine jp ?_;refine jm (.bool true) ?_;refine jm (.bool true) ?_;refine jm (.bool true) ?_;refine jn (vP g6 6) ?_;refine jn (vP g6 8) ?_;refine jf _ hD6 8 aB ?_;refine jv (.bool true) (bP _ _ _ _ (by rfl) .i64 x.rf (-1) (by rfl) (by rfl) true HRF.out) ?_;refine jm (.bool true) ?_;refine jm (.bool true) ?_;refine jm (.bool true) ?_;refine jm (.bool true) ?_;refine jm (.bool true) ?_;refine jm (.bool true) ?_;refine jm (.bool true) ?_;refine js ?_;refine js ?_;refine js ?_;refine js ?_;refine js ?_;refine js ?_;refine js ?_;refine js ?_;refine jm (.bool true) ?_;refine jm (.bool true) ?_;refine jm (.bool true) ?_;refine jm (.bool true) ?_;refine jzb hb fun X7 hX7 hb=>?_;obtain ⟨hB0,hD6⟩:=bl2 hX7 hB0 hD6
     have HC:Hid (cN cs x k=true):=by
      show _=_
      rw [kY H3.out,HBW.out,HPA.out,HRF.out] <;> rfl
     go_wp2
     go_ret2
     exact ⟨by rw [← HX.out,HKD.out,HC.out];rfl,hb⟩
 ·have HKD:Hid (decide (x.kd=3)=false):=decide_eq_false h3
  have H3:=Lib.hid h3;clear h3;obtain ⟨bw,bw9⟩:∃ bw,btw x 0=bw:=⟨_,rfl⟩;have HBW:=Lib.hid bw9;clear bw9;obtain ⟨ka,ka9⟩:∃ ka,decide (x.kd=1)=ka:=⟨_,rfl⟩;have HKA:=Lib.hid ka9;clear ka9;obtain ⟨ra,ra9⟩:∃ ra,decide (x.rf=-1)=ra:=⟨_,rfl⟩;have HRA:=Lib.hid ra9;clear ra9;go_upto_region 3 with fail;refine jp ?_;refine jn (vP g6 6) ?_;refine jn (vP g6 6) ?_;refine jf _ hD6 6 aB ?_;refine jv (.bool false) (bP _ _ _ _ (by rfl) .i64 x.kd 3 (by rfl) (by rfl) false HKD.out) ?_;refine jzb hb fun X3 hX3 hb=>?_;obtain ⟨hB0,hD6⟩:=bl2 hX3 hB0 hD6;go_upto_region 5 with fail;refine jp ?_;refine ja hD6 Tryd.underlying70 (by rfl) aR ?_;refine jm (vI 0) ?_;refine jc (.tuple #[vI (pty x 0),.bool bw]) (fun X hX hF=>mo (ptyC x 0 X) (by rw [HBW.out])) ?_;refine jm (.tuple #[vI (pty x 0),.bool bw]) ?_;refine jm (vI (pty x 0)) ?_;refine jm (.bool bw) ?_;refine jm (vI (pty x 0)) ?_;refine jm (.bool bw) ?_;refine jzb hb fun X4 hX4 hb=>?_;obtain ⟨hB0,hD6⟩:=bl2 hX4 hB0 hD6;go_upto_region 6 with fail;refine jp ?_;refine jn (vP g6 6) ?_;refine jn (vP g6 6) ?_;refine jf _ hD6 6 aB ?_;refine jv (.bool false) (bP _ _ _ _ (by rfl) .i64 x.kd 3 (by rfl) (by rfl) false HKD.out) ?_;refine jm (.bool false) ?_;refine jzb hb fun X5 hX5 hb=>?_;obtain ⟨hB0,hD6⟩:=bl2 hX5 hB0 hD6
  rcases bw with _|_
  ·skip
   rcases ka with _|_
   ·skip
    go_upto_region 7 with fail;refine jp ?_;refine jm (.bool false) ?_;refine jm (.bool false) ?_;refine jm (.bool false) ?_;refine js ?_;refine js ?_;refine js ?_;refine js ?_;refine jm (.bool false) ?_;refine jm (.bool false) ?_;refine js ?_;refine js ?_;refine js ?_;refine js ?_;refine js ?_;refine js ?_;refine js ?_;refine js ?_;refine js ?_;refine js ?_;refine js ?_;refine js ?_;refine js ?_;refine js ?_;refine jm (.bool false) ?_;refine jm (.bool false) ?_;refine jm (.bool false) ?_;refine jzb hb fun X6 hX6 hb=>?_;obtain ⟨hB0,hD6⟩:=bl2 hX6 hB0 hD6
    have HC:Hid (cN cs x k=false):=by
     show _=_
     rw [gF H3.out,HKA.out,Bool.and_false,Bool.false_and,Bool.and_false]
    go_wp2
    go_ret2
    exact ⟨by rw [← HX.out,HKD.out,HC.out];rfl,hb⟩
   ·skip
    rcases pa with _|_
    ·skip
     go_upto_region 7 with fail;refine jp ?_;refine jm (.bool false) ?_;refine jm (.bool false) ?_;refine jm (.bool false) ?_;refine js ?_;refine js ?_;refine js ?_;refine js ?_;refine jm (.bool false) ?_;refine jm (.bool false) ?_;refine js ?_;refine js ?_;refine js ?_;refine js ?_;refine js ?_;refine js ?_;refine js ?_;refine js ?_;refine js ?_;refine js ?_;refine js ?_;refine js ?_;refine js ?_;refine js ?_;refine jm (.bool false) ?_;refine jm (.bool false) ?_;refine jm (.bool false) ?_;refine jzb hb fun X6 hX6 hb=>?_;obtain ⟨hB0,hD6⟩:=bl2 hX6 hB0 hD6
     have HC:Hid (cN cs x k=false):=by
      show _=_
      rw [gF H3.out,HBW.out,HPA.out,HKA.out,HRA.out] <;> first|rfl|exact Bool.and_false _
     go_wp2
     go_ret2
     exact ⟨by rw [← HX.out,HKD.out,HC.out];rfl,hb⟩
    ·skip
     go_upto_region 7 with fail;refine jp ?_;refine jm (.bool false) ?_;refine jm (.bool false) ?_;refine jm (.bool false) ?_;refine js ?_;refine js ?_;refine js ?_;refine js ?_;refine jm (.bool false) ?_;refine jm (.bool false) ?_;refine js ?_;refine js ?_;refine js ?_;refine js ?_;refine js ?_;refine js ?_;refine js ?_;refine js ?_;refine js ?_;refine js ?_;refine js ?_;refine js ?_;refine js ?_;refine js ?_;refine jm (.bool false) ?_;refine jm (.bool false) ?_;refine jm (.bool false) ?_;refine jzb hb fun X6 hX6 hb=>?_;obtain ⟨hB0,hD6⟩:=bl2 hX6 hB0 hD6
     have HC:Hid (cN cs x k=false):=by
      show _=_
      rw [gF H3.out,HBW.out,HPA.out,HKA.out,HRA.out] <;> first|rfl|exact Bool.and_false _
     go_wp2
     go_ret2
     exact ⟨by rw [← HX.out,HKD.out,HC.out];rfl,hb⟩
  ·skip
   rcases ra with _|_
   ·skip
    rcases ka with _|_
    ·skip
     go_upto_region 7 with fail;refine jp ?_;refine jm (.bool false) ?_;refine jm (.bool true) ?_;refine jm (.bool true) ?_;refine jn (vP g6 6) ?_;refine jn (vP g6 8) ?_;refine jf _ hD6 8 aB ?_;refine jv (.bool false) (bP _ _ _ _ (by rfl) .i64 x.rf (-1) (by rfl) (by rfl) false HRA.out) ?_;refine jm (.bool false) ?_;refine jm (.bool false) ?_;refine js ?_;refine js ?_;refine js ?_;refine js ?_;refine js ?_;refine js ?_;refine js ?_;refine js ?_;refine js ?_;refine js ?_;refine js ?_;refine js ?_;refine js ?_;refine js ?_;refine jm (.bool false) ?_;refine jm (.bool false) ?_;refine jm (.bool false) ?_;refine jzb hb fun X6 hX6 hb=>?_;obtain ⟨hB0,hD6⟩:=bl2 hX6 hB0 hD6
     have HC:Hid (cN cs x k=false):=by
      show _=_
      rw [gF H3.out,HKA.out,Bool.and_false,Bool.false_and,Bool.and_false]
     go_wp2
     go_ret2
     exact ⟨by rw [← HX.out,HKD.out,HC.out];rfl,hb⟩
    ·skip
     rcases pa with _|_
     ·skip
      go_upto_region 7 with fail;refine jp ?_;refine jm (.bool false) ?_;refine jm (.bool true) ?_;refine jm (.bool true) ?_;refine jn (vP g6 6) ?_;refine jn (vP g6 8) ?_;refine jf _ hD6 8 aB ?_;refine jv (.bool false) (bP _ _ _ _ (by rfl) .i64 x.rf (-1) (by rfl) (by rfl) false HRA.out) ?_;refine jm (.bool false) ?_;refine jm (.bool false) ?_;refine js ?_;refine js ?_;refine js ?_;refine js ?_;refine js ?_;refine js ?_;refine js ?_;refine js ?_;refine js ?_;refine js ?_;refine js ?_;refine js ?_;refine js ?_;refine js ?_;refine jm (.bool false) ?_;refine jm (.bool false) ?_;refine jm (.bool false) ?_;refine jzb hb fun X6 hX6 hb=>?_;obtain ⟨hB0,hD6⟩:=bl2 hX6 hB0 hD6
      have HC:Hid (cN cs x k=false):=by
       show _=_
       rw [gF H3.out,HBW.out,HPA.out,HKA.out,HRA.out] <;> first|rfl|exact Bool.and_false _
      go_wp2
      go_ret2
      exact ⟨by rw [← HX.out,HKD.out,HC.out];rfl,hb⟩
     ·skip
      go_upto_region 7 with fail;refine jp ?_;refine jm (.bool false) ?_;refine jm (.bool true) ?_;refine jm (.bool true) ?_;refine jn (vP g6 6) ?_;refine jn (vP g6 8) ?_;refine jf _ hD6 8 aB ?_;refine jv (.bool false) (bP _ _ _ _ (by rfl) .i64 x.rf (-1) (by rfl) (by rfl) false HRA.out) ?_;refine jm (.bool false) ?_;refine jm (.bool false) ?_;refine js ?_;refine js ?_;refine js ?_;refine js ?_;refine js ?_;refine js ?_;refine js ?_;refine js ?_;refine js ?_;refine js ?_;refine js ?_;refine js ?_;refine js ?_;refine js ?_;refine jm (.bool false) ?_;refine jm (.bool false) ?_;refine jm (.bool false) ?_;refine jzb hb fun X6 hX6 hb=>?_;obtain ⟨hB0,hD6⟩:=bl2 hX6 hB0 hD6
      have HC:Hid (cN cs x k=false):=by
       show _=_
       rw [gF H3.out,HBW.out,HPA.out,HKA.out,HRA.out] <;> first|rfl|exact Bool.and_false _
      go_wp2
      go_ret2
      exact ⟨by rw [← HX.out,HKD.out,HC.out];rfl,hb⟩
   ·skip
    rcases ka with _|_
    ·skip
     go_upto_region 7 with fail;refine jp ?_;refine jm (.bool false) ?_;refine jm (.bool true) ?_;refine jm (.bool true) ?_;refine jn (vP g6 6) ?_;refine jn (vP g6 8) ?_;refine jf _ hD6 8 aB ?_;refine jv (.bool true) (bP _ _ _ _ (by rfl) .i64 x.rf (-1) (by rfl) (by rfl) true HRA.out) ?_;refine jm (.bool true) ?_;refine jm (.bool true) ?_;refine jm (.bool false) ?_;refine jm (.bool false) ?_;refine js ?_;refine jm (.bool false) ?_;refine jm (.bool false) ?_;refine jn (vP g6 6) ?_;refine jn (vP g6 6) ?_;refine jf _ hD6 6 aB ?_;refine jv (.bool false) (bP _ _ _ _ (by rfl) .i64 x.kd 1 (by rfl) (by rfl) false HKA.out) ?_;refine jm (.bool false) ?_;refine js ?_;refine js ?_;refine jm (.bool false) ?_;refine jm (.bool false) ?_;refine jm (.bool false) ?_;refine jm (.bool false) ?_;refine jm (.bool false) ?_;refine jzb hb fun X6 hX6 hb=>?_;obtain ⟨hB0,hD6⟩:=bl2 hX6 hB0 hD6
     have HC:Hid (cN cs x k=false):=by
      show _=_
      rw [gF H3.out,HKA.out,Bool.and_false,Bool.false_and,Bool.and_false]
     go_wp2
     go_ret2
     exact ⟨by rw [← HX.out,HKD.out,HC.out];rfl,hb⟩
    ·skip
     rcases pa with _|_
     ·skip
      go_upto_region 7 with fail;refine jp ?_;refine jm (.bool false) ?_;refine jm (.bool true) ?_;refine jm (.bool true) ?_;refine jn (vP g6 6) ?_;refine jn (vP g6 8) ?_;refine jf _ hD6 8 aB ?_;refine jv (.bool true) (bP _ _ _ _ (by rfl) .i64 x.rf (-1) (by rfl) (by rfl) true HRA.out) ?_;refine jm (.bool true) ?_;refine jm (.bool true) ?_;refine jm (.bool false) ?_;refine jm (.bool false) ?_;refine js ?_;refine jm (.bool false) ?_;refine jm (.bool false) ?_;refine jn (vP g6 6) ?_;refine jn (vP g6 6) ?_;refine jf _ hD6 6 aB ?_;refine jv (.bool true) (bP _ _ _ _ (by rfl) .i64 x.kd 1 (by rfl) (by rfl) true HKA.out) ?_;refine jm (.bool true) ?_;refine jm (.bool false) ?_;refine jm (.bool true) ?_;refine jm (.bool true) ?_;refine jm (.bool true) ?_;refine jm (.bool true) ?_;refine jm (.bool false) ?_;refine jm (.bool true) ?_;refine jzb hb fun X6 hX6 hb=>?_;obtain ⟨hB0,hD6⟩:=bl2 hX6 hB0 hD6
      have HC:Hid (cN cs x k=true):=by
       show _=_
       rw [gF H3.out,HBW.out,HPA.out,HKA.out,HRA.out] <;> first|rfl|exact Bool.and_false _
      go_wp2
      go_ret2
      exact ⟨by rw [← HX.out,HKD.out,HC.out];rfl,hb⟩
     ·skip
      go_upto_region 7 with fail;refine jp ?_;refine jm (.bool false) ?_;refine jm (.bool true) ?_;refine jm (.bool true) ?_;refine jn (vP g6 6) ?_;refine jn (vP g6 8) ?_;refine jf _ hD6 8 aB ?_;refine jv (.bool true) (bP _ _ _ _ (by rfl) .i64 x.rf (-1) (by rfl) (by rfl) true HRA.out) ?_;refine jm (.bool true) ?_;refine jm (.bool true) ?_;refine jm (.bool false) ?_;refine jm (.bool false) ?_;refine js ?_;refine jm (.bool false) ?_;refine jm (.bool false) ?_;refine jn (vP g6 6) ?_;refine jn (vP g6 6) ?_;refine jf _ hD6 6 aB ?_;refine jv (.bool true) (bP _ _ _ _ (by rfl) .i64 x.kd 1 (by rfl) (by rfl) true HKA.out) ?_;refine jm (.bool true) ?_;refine jm (.bool true) ?_;refine jm (.bool false) ?_;refine jm (.bool false) ?_;refine jm (.bool false) ?_;refine jm (.bool false) ?_;refine jm (.bool false) ?_;refine jm (.bool false) ?_;refine jzb hb fun X6 hX6 hb=>?_;obtain ⟨hB0,hD6⟩:=bl2 hX6 hB0 hD6
      have HC:Hid (cN cs x k=false):=by
       show _=_
       rw [gF H3.out,HBW.out,HPA.out,HKA.out,HRA.out] <;> first|rfl|exact Bool.and_false _
      go_wp2
      go_ret2
      exact ⟨by rw [← HX.out,HKD.out,HC.out];rfl,hb⟩
end Go.Proofs.YtjkfchehkpmhkaaDoor

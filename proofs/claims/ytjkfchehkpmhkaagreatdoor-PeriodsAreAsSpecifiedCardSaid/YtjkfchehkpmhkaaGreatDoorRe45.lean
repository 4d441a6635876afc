/- The reference of layer 45: Carried, Same, Few. -/
import Derived.Test.YtjkfchehkpmhkaaGreatDoorRc45
import Derived.Test.YtjkfchehkpmhkaaGreatDoorBi
import Derived.Test.YtjkfchehkpmhkaaGreatDoorS45
import Derived.Test.YtjkfchehkpmhkaaGreatDoorRa44
set_option linter.unusedSimpArgs false
set_option linter.unusedVariables false
set_option maxRecDepth 100000
set_option maxHeartbeats 1600000
namespace Go.Proofs.YtjkfchehkpmhkaaGreatDoor
open Go.RowKit
theorem sam44 (c:Int) (v v2:Value) (l:List En) (w:World) (hv:Es l v w) (hv2:Es l v2 w):Calls Tryz.prog 31 #[.agg #[vI c,v],.agg #[vI c,v2]] w fun e w'=>e=.returned (.bool true)∧Since w w':=by
 obtain ⟨A,n,c1,rfl,hln,hn1,hr⟩:=hv.at;clear hv;obtain ⟨A2,n2,c2,rfl,hln2,_,hr2⟩:=hv2.at;clear hv2
 obtain rfl:n=n2:=by rw [← hln];exact hln2
 have HRX:Hid (∀ X,Since w X→Rd X 13 (.slice A n c1) n (fl enc l)):=fun X h=>Rd.below hr h
 have HRY:Hid (∀ X,Since w X→Rd X 13 (.slice A2 n c2) n (fl enc l)):=fun X h=>Rd.below hr2 h
 have HLN:=Lib.hid hln;clear hr hr2 hln hln2
 go_enter Tryz.func31,Tryz.ntmps31
 go_upto_region 1 with fail;obtain ⟨W0,hW0,hB0,hB1,hb⟩:=cV w 24 24 [vI c,.slice A n c1] [vI c,.slice A2 n c2];rw [← hW0];clear hW0;refine jp ?_;refine jnf hB0 0 aA ?_;refine jnf hB1 0 aA ?_;refine jv (.bool false) (bA _ _ _ _ (by rfl) .i64 c c (by rfl) (by rfl) false (by rw [decide_eq_true (by omega)];rfl)) ?_;refine jm (.bool false) ?_;refine jnf hB0 1 aO ?_;refine jv (vI n) (aF Tryz.underlying22 _ (by rfl) A n c1 (by rfl) _ rfl) ?_;refine jnf hB1 1 aO ?_;refine jv (vI n) (aF Tryz.underlying22 _ (by rfl) A2 n c2 (by rfl) _ rfl) ?_;refine jv (.bool false) (bA _ _ _ _ (by rfl) .i64 (n:Int) (n:Int) (by rfl) (by rfl) false (by rw [decide_eq_true (by omega)];rfl)) ?_;refine jm (.bool false) ?_;refine aN hb hB0 hB1 fun X1 hX1 hb hB0 hB1=>?_;go_upto_region 3 with fail;refine jp ?_;refine jm (vI 0) ?_;refine aN hb hB0 hB1 fun X2 hX2 hb hB0 hB1=>?_
 go_wp2
 go_loopw [5] (fun kv wr=>∃ k:Nat,k≤n∧kv=vI k∧Blk wr w.heap.size 24 [vI c,.slice A n c1]∧Blk wr (w.heap.size+1) 24 [vI c,.slice A2 n c2]∧Below w.heap.size w wr) (fun kv _=>n-(intOf kv).toNat)
 case atStart=>exact ⟨0,by omega,rfl,hB0,hB1,hb⟩
 case round =>
  clear hB0 hB1 hb;obtain ⟨k,hk,rfl,hB0,hB1,hb⟩:=hrel
  rcases Nat.lt_or_ge k n with hlt|hlt
  ·obtain ⟨b,off,rfl,hbb,hcx⟩:=fL (HRX.out _ hb) HLN.out hlt
   obtain ⟨b2,off2,rfl,hbb2,hcx2⟩:=fL (HRY.out _ hb) HLN.out hlt;obtain ⟨x,x9⟩:∃ x,x=en l k:=⟨_,rfl⟩;rw [← x9] at hcx hcx2;clear x9
   change Cl wr b (off+k * 13) (eL x) at hcx
   change Cl wr b2 (off2+k * 13) (eL x) at hcx2
   go_upto_region 4 with fail;refine jp ?_;refine jm (vI k) ?_;refine jnf hB0 1 aO ?_;refine jv (vI n) (aF Tryz.underlying22 _ (by rfl) (some ⟨b,off,none⟩) n c1 (by rfl) _ rfl) ?_;refine cE (k:Int) (n:Int) (by omega) ?_;refine aN hb hB0 hB1 fun X1 hX1 hb hB0 hB1=>?_;have hcx:=hcx.below hX1 hbb;have hcx2:=hcx2.below hX1 hbb2;replace hbb:=Nat.lt_of_lt_of_le hbb (hX1).size;replace hbb2:=Nat.lt_of_lt_of_le hbb2 (hX1).size;go_upto_region 6 with fail;refine jd ?_;refine jnf hB0 1 aO ?_;refine jm (vI k) ?_;refine jv (vP b (off+k * 13)) (aR Tryz.underlying22 aL _ _ (by rfl) b (off) n c1 k (by omega) (by rfl) (by rfl) rfl) ?_;refine jg (.agg #[vI x.day,vI x.deb,vI x.cre,.bool x.am.1,st x.am.2.1,st x.am.2.2,vI x.kd,vI x.pd,vI x.rf,vI x.w1,vI x.w2,vI x.w3,vI x.w4]) (fun X hX hF=>cW 76 _ (by rfl) b (off+k * 13) (by rfl) Tryz.underlying76 rfl (eL x) X (Cl.part (hcx.below hX hbb) 0 _ (by rfl)) aL) ?_;refine jnf hB1 1 aO ?_;refine jm (vI k) ?_;refine jv (vP b2 (off2+k * 13)) (aR Tryz.underlying22 aL _ _ (by rfl) b2 (off2) n c2 k (by omega) (by rfl) (by rfl) rfl) ?_
   refine jg (.agg #[vI x.day,vI x.deb,vI x.cre,.bool x.am.1,st x.am.2.1,st x.am.2.2,vI x.kd,vI x.pd,vI x.rf,vI x.w1,vI x.w2,vI x.w3,vI x.w4]) (fun X hX hF=>cW 76 _ (by rfl) b2 (off2+k * 13) (by rfl) Tryz.underlying76 rfl (eL x) X (Cl.part (hcx2.below hX hbb2) 0 _ (by rfl)) aL) ?_;refine jv (.bool false) (kA _ _ (by rfl) x x (by rfl) (by rfl) false (by simp)) ?_;refine aN hb hB0 hB1 fun X2 hX2 hb hB0 hB1=>?_;have hcx:=hcx.below hX2 hbb;have hcx2:=hcx2.below hX2 hbb2;replace hbb:=Nat.lt_of_lt_of_le hbb (hX2).size;replace hbb2:=Nat.lt_of_lt_of_le hbb2 (hX2).size;go_upto_region 5 with fail;refine jp ?_;refine jm (vI k) ?_;refine jv (vI ((k+1:Nat):Int)) (bB _ _ _ _ (by rfl) (k:Int) 1 ((k+1:Nat):Int) (by rfl) (by rfl) (by omega) (by omega) (by omega)) ?_;refine jm (vI ((k+1:Nat):Int)) ?_;refine aN hb hB0 hB1 fun X3 hX3 hb hB0 hB1=>?_
   go_wp2
   go_roundw
   case rel=>exact ⟨k+1,by omega,rfl,hB0,hB1,hb⟩
   case measure=>simp [intOf];omega
  ·have hnk:n≤k:=hlt
   go_upto_region 4 with fail;refine jp ?_;refine jm (vI k) ?_;refine jnf hB0 1 aO ?_;refine jv (vI n) (aF Tryz.underlying22 _ (by rfl) A n c1 (by rfl) _ rfl) ?_;refine bI (k:Int) (n:Int) (by omega) ?_;refine aN hb hB0 hB1 fun X1 hX1 hb hB0 hB1=>?_;go_upto_region 8 with fail;refine jp ?_;refine jm (.bool true) ?_;refine aN hb hB0 hB1 fun X2 hX2 hb hB0 hB1=>?_
   go_wp2
   go_ret
   exact ⟨rfl,hb⟩
theorem vXf (B:Nat) (c:Int) (v z v2 z2:Value) (l:List En) (cs:List Cg) (w:World) (hv:Es l v w) (hz:Cs B cs z w) (hv2:Es l v2 w) (hz2:Cs B cs z2 w):Calls Tryz.prog 11 #[.agg #[vI c,v,z],.agg #[vI c,v2,z2]] w fun e w'=>e=.returned (.bool true)∧Since w w':=by
 obtain ⟨A,n,c1,rfl,hln,hn1,hr⟩:=hv.at;obtain ⟨A9,n9,c9,rfl,hln9,_,hr9⟩:=hv2.at
 obtain rfl:n=n9:=by rw [← hln];exact hln9
 obtain ⟨A2,m,cp2,rfl,hlm,hm1,hr2⟩:=hz.at;obtain ⟨A3,m3,cp3,rfl,hlm3,_,hr3⟩:=hz2.at
 obtain rfl:m=m3:=by rw [← hlm];exact hlm3
 have HEA:Hid (∀ X,Since w X→Es l (.slice A n c1) X):=fun X h=>Es.lasts l _ _ _ hv h
 have HEB:Hid (∀ X,Since w X→Es l (.slice A9 n c9) X):=fun X h=>Es.lasts l _ _ _ hv2 h
 have HRC:Hid (∀ X,Since w X→Rd X 2 (.slice A2 m cp2) m (fl clc cs)):=fun X h=>hr2.below h
 have HRD:Hid (∀ X,Since w X→Rd X 2 (.slice A3 m cp3) m (fl clc cs)):=fun X h=>hr3.below h
 have HLM:=Lib.hid hlm;clear hv hv2 hz hz2 hr hr9 hr2 hr3 hln hln9 hlm hlm3
 go_enter Tryz.func11,Tryz.ntmps11
 go_upto_region 1 with fail;obtain ⟨W0,hW0,hB0,hB1,hb⟩:=cV w 27 27 [vI c,.slice A n c1,.slice A2 m cp2] [vI c,.slice A9 n c9,.slice A3 m cp3];rw [← hW0];clear hW0;refine jp ?_;refine jn (vP w.heap.size 0) ?_;refine jg (.agg #[vI c,.slice A n c1]) (fun X hX hF=>aY 24 _ (by rfl) w.heap.size 0 [vI c,.slice A n c1] (by rfl) Tryz.underlying24 rfl X (hB0.bel hX) (by rfl) bT) ?_;refine jn (vP (w.heap.size+1) 0) ?_;refine jg (.agg #[vI c,.slice A9 n c9]) (fun X hX hF=>aY 24 _ (by rfl) (w.heap.size+1) 0 [vI c,.slice A9 n c9] (by rfl) Tryz.underlying24 rfl X (hB1.bel hX) (by rfl) bT) ?_;refine jc (.bool true) (fun X hX hF=>sam44 c _ _ l X (HEA.out X (Since.next hb hX)) (HEB.out X (Since.next hb hX))) ?_;refine jm (.bool true) ?_;refine aN hb hB0 hB1 fun X1 hX1 hb hB0 hB1=>?_;go_upto_region 2 with fail;refine jp ?_;refine aX (.bool true) (.bool false) (.bool false) ?_;refine jnf hB0 2 aZ ?_;refine jv (vI m) (aF Tryz.underlying25 _ (by rfl) A2 m cp2 (by rfl) _ rfl) ?_;refine jnf hB1 2 aZ ?_;refine jv (vI m) (aF Tryz.underlying25 _ (by rfl) A3 m cp3 (by rfl) _ rfl) ?_;refine jv (.bool false) (bA _ _ _ _ (by rfl) .i64 (m:Int) (m:Int) (by rfl) (by rfl) false (by rw [decide_eq_true (by omega)];rfl)) ?_;refine jm (.bool false) ?_;refine aN hb hB0 hB1 fun X2 hX2 hb hB0 hB1=>?_;go_upto_region 4 with fail
 refine jp ?_;refine jm (vI 0) ?_;refine aN hb hB0 hB1 fun X3 hX3 hb hB0 hB1=>?_
 go_wp2
 go_loopw [6] (fun kv wr=>∃ k:Nat,k≤m∧kv=vI k∧Blk wr w.heap.size 27 [vI c,.slice A n c1,.slice A2 m cp2]∧Blk wr (w.heap.size+1) 27 [vI c,.slice A9 n c9,.slice A3 m cp3]∧Below w.heap.size w wr) (fun kv _=>m-(intOf kv).toNat)
 case atStart=>exact ⟨0,by omega,rfl,hB0,hB1,hb⟩
 case round =>
  clear hB0 hB1 hb;obtain ⟨k,hk,rfl,hB0,hB1,hb⟩:=hrel
  rcases Nat.lt_or_ge k m with hlt|hlt
  ·obtain ⟨b,off,rfl,hbb,hcx⟩:=iL (HRC.out _ hb) HLM.out hlt
   obtain ⟨b2,off2,rfl,hbb2,hcx2⟩:=iL (HRD.out _ hb) HLM.out hlt;obtain ⟨y,y9⟩:∃ y,y=cg cs k:=⟨_,rfl⟩;rw [← y9] at hcx hcx2;clear y9
   change Cl wr b (off+k * 2) [vI y.day,vI y.place] at hcx
   change Cl wr b2 (off2+k * 2) [vI y.day,vI y.place] at hcx2
   go_upto_region 5 with fail;refine jp ?_;refine jm (vI k) ?_;refine jnf hB0 2 aZ ?_;refine jv (vI m) (aF Tryz.underlying25 _ (by rfl) (some ⟨b,off,none⟩) m cp2 (by rfl) _ rfl) ?_;refine cE (k:Int) (m:Int) (by omega) ?_;refine aN hb hB0 hB1 fun X1 hX1 hb hB0 hB1=>?_;have hcx:=hcx.below hX1 hbb;have hcx2:=hcx2.below hX1 hbb2;replace hbb:=Nat.lt_of_lt_of_le hbb (hX1).size;replace hbb2:=Nat.lt_of_lt_of_le hbb2 (hX1).size;go_upto_region 7 with fail;refine jd ?_;refine jnf hB0 2 aZ ?_;refine jm (vI k) ?_;refine jv (vP b (off+k * 2)) (aR Tryz.underlying25 bP _ _ (by rfl) b (off) m cp2 k (by omega) (by rfl) (by rfl) rfl) ?_;refine jg (.agg #[vI y.day,vI y.place]) (fun X hX hF=>cW 72 _ (by rfl) b (off+k * 2) (by rfl) Tryz.underlying72 rfl [vI y.day,vI y.place] X (Cl.part (hcx.below hX hbb) 0 _ (by rfl)) bP) ?_;refine jnf hB1 2 aZ ?_;refine jm (vI k) ?_;refine jv (vP b2 (off2+k * 2)) (aR Tryz.underlying25 bP _ _ (by rfl) b2 (off2) m cp3 k (by omega) (by rfl) (by rfl) rfl) ?_;refine jg (.agg #[vI y.day,vI y.place]) (fun X hX hF=>cW 72 _ (by rfl) b2 (off2+k * 2) (by rfl) Tryz.underlying72 rfl [vI y.day,vI y.place] X (Cl.part (hcx2.below hX hbb2) 0 _ (by rfl)) bP) ?_;refine jv (.bool false) (qS _ _ (by rfl) y y (by rfl) (by rfl) false (by simp)) ?_
   refine aN hb hB0 hB1 fun X2 hX2 hb hB0 hB1=>?_;have hcx:=hcx.below hX2 hbb;have hcx2:=hcx2.below hX2 hbb2;replace hbb:=Nat.lt_of_lt_of_le hbb (hX2).size;replace hbb2:=Nat.lt_of_lt_of_le hbb2 (hX2).size;go_upto_region 6 with fail;refine jp ?_;refine jm (vI k) ?_;refine jv (vI ((k+1:Nat):Int)) (bB _ _ _ _ (by rfl) (k:Int) 1 ((k+1:Nat):Int) (by rfl) (by rfl) (by omega) (by omega) (by omega)) ?_;refine jm (vI ((k+1:Nat):Int)) ?_;refine aN hb hB0 hB1 fun X3 hX3 hb hB0 hB1=>?_
   go_wp2
   go_roundw
   case rel=>exact ⟨k+1,by omega,rfl,hB0,hB1,hb⟩
   case measure=>simp [intOf];omega
  ·have hnk:m≤k:=hlt
   go_upto_region 5 with fail;refine jp ?_;refine jm (vI k) ?_;refine jnf hB0 2 aZ ?_;refine jv (vI m) (aF Tryz.underlying25 _ (by rfl) A2 m cp2 (by rfl) _ rfl) ?_;refine bI (k:Int) (m:Int) (by omega) ?_;refine aN hb hB0 hB1 fun X1 hX1 hb hB0 hB1=>?_;go_upto_region 9 with fail;refine jp ?_;refine jm (.bool true) ?_;refine aN hb hB0 hB1 fun X2 hX2 hb hB0 hB1=>?_
   go_wp2
   go_ret
   exact ⟨rfl,hb⟩
def fX (l:List En) (cs:List Cg) (q:Nat):Bool:=iU l q && (decide (cs.length≤20) || (decide (4000<cs.length) && decide (cs.length≤4005)))
theorem xF {l:List En} {cs:List Cg} {q:Nat} (h:fX l cs q=true):iU l q=true:=by
 unfold fX at h
 rw [Bool.and_eq_true] at h;exact h.1
theorem vXg (B:Nat) (c:Int) (v z:Value) (l:List En) (cs:List Cg) (q:Nat) (w:World) (hv:Es l v w) (hz:Cs B cs z w) (hq:q≤3000):Calls Tryz.prog 5 #[.agg #[vI c,v,z],vI q] w fun e w'=>e=.returned (.bool (fX l cs q))∧Since w w':=by
 obtain ⟨A,n,cp,A2,m,cp2,rfl,rfl,hln,hn1,hlm,hm1,HRX,HLN,HES,HCS,HRC,HLM⟩:=eU hv hz;clear hv hz;obtain ⟨fb,fb9⟩:∃ z,iU l q=z:=⟨_,rfl⟩;have HFB:=Lib.hid fb9;clear fb9
 go_enter Tryz.func5,Tryz.ntmps5
 go_upto_region 1 with fail;obtain ⟨W0,hW0,hB0,hb⟩:=aT w 27 [vI c,.slice A n cp,.slice A2 m cp2];rw [← hW0];clear hW0;refine jp ?_;refine jn (vP w.heap.size 0) ?_;refine jg (.agg #[vI c,.slice A n cp]) (fun X hX hF=>aY 24 _ (by rfl) w.heap.size 0 [vI c,.slice A n cp] (by rfl) Tryz.underlying24 rfl X (hB0.bel hX) (by rfl) bT) ?_;refine jm (vI q) ?_;refine jc (.bool fb) (fun X hX hF=>mo (fwbC c _ l q X (HES.out X (Since.next hb hX)) hq) (by rw [HFB.out])) ?_;refine jm (.bool fb) ?_;refine aQ hb hB0 fun X1 hX1 hb hB0=>?_;go_upto_region 2 with fail;refine jp ?_;refine jnf hB0 2 aZ ?_;refine jv (vI m) (aF Tryz.underlying25 _ (by rfl) A2 m cp2 (by rfl) _ rfl) ?_;refine jm (vI m) ?_;refine aQ hb hB0 fun X2 hX2 hb hB0=>?_
 rcases fb with _|_
 ·skip
  go_upto_region 3 with fail;refine jp ?_;refine jmm (.bool false) (.bool false) ?_;refine cN ?_;refine jss ?_;refine jmm (.bool false) (.bool false) ?_;refine aQ hb hB0 fun X3 hX3 hb hB0=>?_
  have HC:Hid (fX l cs q=false):=by
   show _=_
   unfold fX
   rw [HFB.out,HLM.out] <;> rfl
  go_wp2
  go_ret
  exact ⟨by rw [HC.out];rfl,hb⟩
 ·skip
  rcases (show m≤20∨(20<m∧m≤4000)∨(4000<m∧m≤4005)∨4005<m by omega) with h|h|h|h
  ·go_upto_region 3 with fail
   refine jp ?_;refine aX (.bool true) (.bool true) (vI m) ?_;refine nT (m:Int) 20 (by omega) ?_;refine jm (.bool true) ?_;refine bR ?_;refine jss ?_;refine aX (.bool true) (.bool true) (.bool true) ?_;refine aQ hb hB0 fun X3 hX3 hb hB0=>?_
   have HC:Hid (fX l cs q=true):=by
    show _=_
    unfold fX
    rw [HFB.out,HLM.out,decide_eq_true (show (m≤20) by omega)] <;> rfl
   go_wp2
   go_ret
   exact ⟨by rw [HC.out];rfl,hb⟩
  ·go_upto_region 3 with fail
   refine jp ?_;refine aX (.bool true) (.bool true) (vI m) ?_;refine jW (m:Int) 20 (by omega) ?_;refine jmm (.bool false) (vI m) ?_;refine bZ (m:Int) 4000 (by omega) ?_;refine jm (.bool false) ?_;refine jss ?_;refine aX (.bool false) (.bool false) (.bool false) ?_;refine jm (.bool false) ?_;refine aQ hb hB0 fun X3 hX3 hb hB0=>?_
   have HC:Hid (fX l cs q=false):=by
    show _=_
    unfold fX
    rw [HFB.out,HLM.out,decide_eq_false (show ¬ (m≤20) by omega),decide_eq_false (show ¬ (4000<m) by omega)] <;> rfl
   go_wp2
   go_ret
   exact ⟨by rw [HC.out];rfl,hb⟩
  ·go_upto_region 3 with fail
   refine jp ?_;refine aX (.bool true) (.bool true) (vI m) ?_;refine jW (m:Int) 20 (by omega) ?_;refine jmm (.bool false) (vI m) ?_;refine cD (m:Int) 4000 (by omega) ?_;refine jmm (.bool true) (vI m) ?_;refine nT (m:Int) 4005 (by omega) ?_;refine aX (.bool true) (.bool true) (.bool true) ?_;refine jm (.bool true) ?_;refine aQ hb hB0 fun X3 hX3 hb hB0=>?_
   have HC:Hid (fX l cs q=true):=by
    show _=_
    unfold fX
    rw [HFB.out,HLM.out,decide_eq_false (show ¬ (m≤20) by omega),decide_eq_true (show (4000<m) by omega),decide_eq_true (show (m≤4005) by omega)] <;> rfl
   go_wp2
   go_ret
   exact ⟨by rw [HC.out];rfl,hb⟩
  ·go_upto_region 3 with fail
   refine jp ?_;refine aX (.bool true) (.bool true) (vI m) ?_;refine jW (m:Int) 20 (by omega) ?_;refine jmm (.bool false) (vI m) ?_;refine cD (m:Int) 4000 (by omega) ?_;refine jmm (.bool true) (vI m) ?_;refine jW (m:Int) 4005 (by omega) ?_;refine aX (.bool false) (.bool false) (.bool false) ?_;refine jm (.bool false) ?_;refine aQ hb hB0 fun X3 hX3 hb hB0=>?_
   have HC:Hid (fX l cs q=false):=by
    show _=_
    unfold fX
    rw [HFB.out,HLM.out,decide_eq_false (show ¬ (m≤20) by omega),decide_eq_true (show (4000<m) by omega),decide_eq_false (show ¬ (m≤4005) by omega)] <;> rfl
   go_wp2
   go_ret
   exact ⟨by rw [HC.out];rfl,hb⟩
end Go.Proofs.YtjkfchehkpmhkaaGreatDoor

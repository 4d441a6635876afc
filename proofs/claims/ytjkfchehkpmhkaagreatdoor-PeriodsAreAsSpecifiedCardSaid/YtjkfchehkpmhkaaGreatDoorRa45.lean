/- The reference of layer 45: New, Closed, between, Water, IsCa -/
import Derived.Test.YtjkfchehkpmhkaaGreatDoorRa44
import Derived.Test.YtjkfchehkpmhkaaGreatDoorPl45g
import Derived.Test.YtjkfchehkpmhkaaGreatDoorPc45
set_option linter.unusedSimpArgs false
set_option linter.unusedVariables false
set_option maxRecDepth 100000
set_option maxHeartbeats 1600000
namespace Go.Proofs.YtjkfchehkpmhkaaGreatDoor
open Go.RowKit
theorem bJ:(Tryz.prog.info? 35).map (·.size)=some 4:=by kernel_rfl
theorem gL:(Tryz.prog.info? 59).map (·.size)=some 8:=by kernel_rfl
theorem vVd {x:En} {o:Int} (h:(x.deb=o∧1<x.cre)∨(x.cre=o∧1<x.deb)):btw x o=true:=by
 unfold btw
 rw [Bool.or_eq_true,Bool.and_eq_true,Bool.and_eq_true,decide_eq_true_eq,decide_eq_true_eq,decide_eq_true_eq,decide_eq_true_eq];exact h
theorem xL {x:En} {o:Int} (h:¬ ((x.deb=o∧1<x.cre)∨(x.cre=o∧1<x.deb))):btw x o=false:=by
 rw [Bool.eq_false_iff];intro h9
 apply h
 unfold btw at h9
 rwa [Bool.or_eq_true,Bool.and_eq_true,Bool.and_eq_true,decide_eq_true_eq,decide_eq_true_eq,decide_eq_true_eq,decide_eq_true_eq] at h9
def Mo (B:Nat) (c:Int) (l:List En) (cs:List Cg) (e:Int) (v:Value) (X:World):Prop:=∃ u z,v=.agg #[vI c,u,z,vI e]∧Es l u X∧Cs B cs z X
theorem Mo.lasts (B:Nat) (c:Int) (l:List En) (cs:List Cg) (e:Int):eJ (Mo B c l cs e):=by
 rintro v X Y ⟨u,z,h1,h2,h3⟩ hS
 exact ⟨u,z,h1,Es.lasts l _ _ _ h2 hS,Cs.lasts B cs _ _ _ h3 hS⟩
theorem rneC (a:Int) (w:World):Calls Tryz.prog 8 #[vI a] w fun e w'=>e=.returned (.agg #[vI (qC a),.slice none 0 0,.slice none 0 0,vI (qB a)])∧Since w w':=by
 rcases (show a<1∨(1≤a∧98<a)∨(1≤a∧a≤98) by omega) with h|h|h
 ·have HE:Hid (qB a=3):=if_pos (by omega)
  have HC:Hid (qC a=0):=if_pos (by omega)
  go_enter Tryz.func8,Tryz.ntmps8
  go_upto_region 1 with fail;obtain ⟨W0,hW0,hB0,hb⟩:=aT w 35 [vI 0,.slice none 0 0,.slice none 0 0,vI 0];rw [← hW0];clear hW0;refine jp ?_;refine jm (vI a) ?_;refine cE a 1 (by omega) ?_;refine jm (.bool true) ?_;refine jss ?_;refine jm (.bool true) ?_;refine aQ hb hB0 fun X1 hX1 hb hB0=>?_;go_upto_region 2 with fail;refine jq 1 ?_;refine jn (.agg #[vI 0,.slice none 0 0,.slice none 0 0,vI 3]) ?_;refine aQ hb hB0 fun X2 hX2 hb hB0=>?_;refine osb 35 2 9 w.heap.size 35 hB0 [vI 0,.slice none 0 0,.slice none 0 0,vI 3] bJ ?_;intro w9 hR9 hO9 hB9 hs9;have hb9:=hB9 _ _ hb (by omega);clear hO9 hB9
  go_wp2
  refine aU rfl rfl (by rfl) Tryz.underlying35 rfl hR9 bJ ⟨by rw [HE.out,HC.out],hb9⟩
 ·have HE:Hid (qB a=3):=if_pos (by omega)
  have HC:Hid (qC a=0):=if_pos (by omega)
  go_enter Tryz.func8,Tryz.ntmps8
  go_upto_region 1 with fail;obtain ⟨W0,hW0,hB0,hb⟩:=aT w 35 [vI 0,.slice none 0 0,.slice none 0 0,vI 0];rw [← hW0];clear hW0;refine jp ?_;refine jm (vI a) ?_;refine bI a 1 (by omega) ?_;refine jmm (.bool false) (vI a) ?_;refine cD a 98 (by omega) ?_;refine jm (.bool true) ?_;refine aQ hb hB0 fun X1 hX1 hb hB0=>?_;go_upto_region 2 with fail;refine jq 1 ?_;refine jn (.agg #[vI 0,.slice none 0 0,.slice none 0 0,vI 3]) ?_;refine aQ hb hB0 fun X2 hX2 hb hB0=>?_;refine osb 35 2 9 w.heap.size 35 hB0 [vI 0,.slice none 0 0,.slice none 0 0,vI 3] bJ ?_;intro w9 hR9 hO9 hB9 hs9;have hb9:=hB9 _ _ hb (by omega);clear hO9 hB9
  go_wp2
  refine aU rfl rfl (by rfl) Tryz.underlying35 rfl hR9 bJ ⟨by rw [HE.out,HC.out],hb9⟩
 ·have HE:Hid (qB a=0):=if_neg (by omega)
  have HC:Hid (qC a=a+2):=if_neg (by omega)
  go_enter Tryz.func8,Tryz.ntmps8
  go_upto_region 1 with fail;obtain ⟨W0,hW0,hB0,hb⟩:=aT w 35 [vI 0,.slice none 0 0,.slice none 0 0,vI 0];rw [← hW0];clear hW0;refine jp ?_;refine jm (vI a) ?_;refine bI a 1 (by omega) ?_;refine jmm (.bool false) (vI a) ?_;refine bZ a 98 (by omega) ?_;refine jm (.bool false) ?_;refine aQ hb hB0 fun X1 hX1 hb hB0=>?_;go_upto_region 3 with fail;refine jq 5 ?_;refine jm (vI a) ?_;refine jv (vI (a+2)) (bB _ _ _ _ (by rfl) a 2 (a+2) (by rfl) (by rfl) (by omega) (by omega) (by omega)) ?_;refine jnn (.agg #[vI (a+2),.slice none 0 0]) (.agg #[vI (a+2),.slice none 0 0,.slice none 0 0]) ?_;refine jn (.agg #[vI (a+2),.slice none 0 0,.slice none 0 0,vI 0]) ?_;refine aQ hb hB0 fun X2 hX2 hb hB0=>?_;refine osb 35 2 14 w.heap.size 35 hB0 [vI (a+2),.slice none 0 0,.slice none 0 0,vI 0] bJ ?_;intro w9 hR9 hO9 hB9 hs9;have hb9:=hB9 _ _ hb (by omega);clear hO9 hB9
  go_wp2
  refine aU rfl rfl (by rfl) Tryz.underlying35 rfl hR9 bJ ⟨by rw [HE.out,HC.out],hb9⟩
theorem vXm (B:Nat) (c:Int) (v z:Value) (l:List En) (cs:List Cg) (p q:Int) (w:World) (hv:Es l v w) (hz:Cs B cs z w) (hp:0≤p):Calls Tryz.prog 44 #[.agg #[vI c,v,z],vI p,vI q] w fun e w'=>e=.returned (.bool (kT cs p q))∧Since w w':=by
 obtain ⟨i,rfl⟩:∃ i:Nat,p=(i:Int):=⟨p.toNat,by omega⟩;obtain ⟨A,n,cp,A2,m,cp2,rfl,rfl,hln,hn1,hlm,hm1,HRX,HLN,HES,HCS,HRC,HLM⟩:=eU hv hz;clear hv hz
 go_enter Tryz.func44,Tryz.ntmps44
 go_upto_region 1 with fail;obtain ⟨W0,hW0,hB0,hb⟩:=aT w 27 [vI c,.slice A n cp,.slice A2 m cp2];rw [← hW0];clear hW0
 rcases Nat.lt_or_ge i m with hlt|hlt
 ·obtain ⟨b2,off2,rfl,hbb2,hcx2⟩:=iL (HRC.out _ hb) HLM.out (k:=i) (by omega)
  obtain ⟨y,y9⟩:∃ y,y=cg cs i:=⟨_,rfl⟩;have HY:=Lib.hid y9;clear y9;rw [← HY.out] at hcx2
  change Cl W0 b2 (off2+i * 2) [vI y.day,vI y.place] at hcx2
  obtain ⟨pa,pa9⟩:∃ z,decide (y.place≤q)=z:=⟨_,rfl⟩;have HPA:=Lib.hid pa9;clear pa9;refine jp ?_;refine jm (vI i) ?_;refine jnf hB0 2 aZ ?_;refine jv (vI m) (aF Tryz.underlying25 _ (by rfl) (some ⟨b2,off2,none⟩) m cp2 (by rfl) _ rfl) ?_;refine cE (i:Int) (m:Int) (by omega) ?_;refine jmm (.bool true) (vI q) ?_;refine jnf hB0 2 aZ ?_;refine jm (vI i) ?_;refine jv (vP b2 (off2+i * 2)) (aR Tryz.underlying25 bP _ _ (by rfl) b2 (off2) m cp2 i (by omega) (by rfl) (by rfl) rfl) ?_;refine jn (vP b2 (off2+i * 2+1)) ?_;refine jg (vI y.place) (fun X hX hF=>aP 3 _ (by rfl) b2 (off2+i * 2+1) (by rfl) _ X ((hcx2.below hX hbb2) 1 _ rfl) (fun X u h=>aA b2 (off2+i * 2+1) X u h)) ?_;refine jv (.bool pa) (eR _ _ _ _ (by rfl) .i64 q y.place (by rfl) (by rfl) pa HPA.out) ?_;refine jmm (.bool pa) (.bool pa) ?_;refine aQ hb hB0 fun X1 hX1 hb hB0=>?_;have hcx2:=hcx2.below hX1 hbb2;replace hbb2:=Nat.lt_of_lt_of_le hbb2 (hX1).size
  have HC:Hid (kT cs (i:Int) q=pa):=by
   show _=_
   unfold kT
   rw [decide_eq_true (by rw [HLM.out];omega),Bool.true_and,Int.toNat_natCast,← HY.out,HPA.out]
  go_wp2
  go_ret
  exact ⟨by rw [HC.out];rfl,hb⟩
 ·refine jp ?_
  refine jm (vI i) ?_;refine jnf hB0 2 aZ ?_;refine jv (vI m) (aF Tryz.underlying25 _ (by rfl) A2 m cp2 (by rfl) _ rfl) ?_;refine bI (i:Int) (m:Int) (by omega) ?_;refine jm (.bool false) ?_;refine cN ?_;refine jmm (.bool false) (.bool false) ?_;refine aQ hb hB0 fun X1 hX1 hb hB0=>?_
  have HC:Hid (kT cs (i:Int) q=false):=by
   show _=_
   unfold kT
   rw [decide_eq_false (by rw [HLM.out];omega),Bool.false_and]
  go_wp2
  go_ret
  exact ⟨by rw [HC.out];rfl,hb⟩
theorem rbtC (x:En) (o:Int) (w:World):Calls Tryz.prog 63 #[.agg #[vI x.day,vI x.deb,vI x.cre,.bool x.am.1,vS x.am.2.1,vS x.am.2.2,vI x.kd,vI x.pd,vI x.rf,vI x.w1,vI x.w2,vI x.w3,vI x.w4],vI o] w fun e w'=>e=.returned (.bool (btw x o))∧Since w w':=by
 go_enter Tryz.func63,Tryz.ntmps63
 go_upto_region 1 with fail;obtain ⟨W0,hW0,hB0,hb⟩:=aT w 76 (eL x);rw [← hW0];clear hW0
 rcases (show (x.deb=o∧(0:Int)≤0∧1<x.cre)∨(x.deb=o∧¬ x.cre=o∧x.cre≤1)∨(x.deb=o∧x.cre=o∧x.cre≤1∧x.deb≤1)∨(¬ x.deb=o∧x.cre=o∧1<x.deb)∨(¬ x.deb=o∧x.cre=o∧x.deb≤1)∨(¬ x.deb=o∧¬ x.cre=o∧(0:Int)≤0) by omega) with h|h|h|h|h|h
 ·have HD:Hid (x.deb=o):=h.1
  have HC:Hid (btw x o=true):=vVd (.inl ⟨h.1,h.2.2⟩);replace h:=h.2.2;refine jp ?_;refine jnf hB0 1 aA ?_;refine jm (vI o) ?_;refine dA x.deb o HD.out ?_;refine jm (.bool true) ?_;refine jnf hB0 2 aA ?_;refine cD x.cre 1 (by omega) ?_;refine jmm (.bool true) (.bool true) ?_;refine cN ?_;refine js ?_;refine jmm (.bool true) (.bool true) ?_;refine aQ hb hB0 fun X1 hX1 hb hB0=>?_
  go_wp2
  go_ret
  exact ⟨by rw [HC.out];rfl,hb⟩
 ·have HD:Hid (x.deb=o):=h.1
  have HE:Hid (¬ x.cre=o):=h.2.1;have HC:Hid (btw x o=false):=xL (by omega);replace h:=h.2.2;refine jp ?_;refine jnf hB0 1 aA ?_;refine jm (vI o) ?_;refine dA x.deb o HD.out ?_;refine jm (.bool true) ?_;refine jnf hB0 2 aA ?_;refine bZ x.cre 1 (by omega) ?_;refine jmm (.bool false) (.bool false) ?_;refine jnf hB0 2 aA ?_;refine jm (vI o) ?_;refine dN x.cre o HE.out ?_;refine jm (.bool false) ?_;refine jss ?_;refine js ?_;refine aX (.bool false) (.bool false) (.bool false) ?_;refine aQ hb hB0 fun X1 hX1 hb hB0=>?_
  go_wp2
  go_ret
  exact ⟨by rw [HC.out];rfl,hb⟩
 ·have HD:Hid (x.deb=o):=h.1
  have HE:Hid (x.cre=o):=h.2.1;have HC:Hid (btw x o=false):=xL (by omega);replace h:=h.2.2;refine jp ?_;refine jnf hB0 1 aA ?_;refine jm (vI o) ?_;refine dA x.deb o HD.out ?_;refine jm (.bool true) ?_;refine jnf hB0 2 aA ?_;refine bZ x.cre 1 (by omega) ?_;refine jmm (.bool false) (.bool false) ?_;refine jnf hB0 2 aA ?_;refine jm (vI o) ?_;refine dA x.cre o HE.out ?_;refine jm (.bool true) ?_;refine jnf hB0 1 aA ?_;refine bZ x.deb 1 (by omega) ?_;refine aX (.bool false) (.bool false) (.bool false) ?_;refine aQ hb hB0 fun X1 hX1 hb hB0=>?_
  go_wp2
  go_ret
  exact ⟨by rw [HC.out];rfl,hb⟩
 ·have HD:Hid (¬ x.deb=o):=h.1
  have HE:Hid (x.cre=o):=h.2.1;have HC:Hid (btw x o=true):=vVd (.inr ⟨h.2.1,h.2.2⟩);replace h:=h.2.2;refine jp ?_;refine jnf hB0 1 aA ?_;refine jm (vI o) ?_;refine dN x.deb o HD.out ?_;refine jm (.bool false) ?_;refine jss ?_;refine js ?_;refine jmm (.bool false) (.bool false) ?_;refine jnf hB0 2 aA ?_;refine jm (vI o) ?_;refine dA x.cre o HE.out ?_;refine jm (.bool true) ?_;refine jnf hB0 1 aA ?_;refine cD x.deb 1 (by omega) ?_;refine aX (.bool true) (.bool true) (.bool true) ?_;refine aQ hb hB0 fun X1 hX1 hb hB0=>?_
  go_wp2
  go_ret
  exact ⟨by rw [HC.out];rfl,hb⟩
 ·have HD:Hid (¬ x.deb=o):=h.1
  have HE:Hid (x.cre=o):=h.2.1;have HC:Hid (btw x o=false):=xL (by omega);replace h:=h.2.2;refine jp ?_;refine jnf hB0 1 aA ?_;refine jm (vI o) ?_;refine dN x.deb o HD.out ?_;refine jm (.bool false) ?_;refine jss ?_;refine js ?_;refine jmm (.bool false) (.bool false) ?_;refine jnf hB0 2 aA ?_;refine jm (vI o) ?_;refine dA x.cre o HE.out ?_;refine jm (.bool true) ?_;refine jnf hB0 1 aA ?_;refine bZ x.deb 1 (by omega) ?_;refine aX (.bool false) (.bool false) (.bool false) ?_;refine aQ hb hB0 fun X1 hX1 hb hB0=>?_
  go_wp2
  go_ret
  exact ⟨by rw [HC.out];rfl,hb⟩
 ·have HD:Hid (¬ x.deb=o):=h.1
  have HE:Hid (¬ x.cre=o):=h.2.1;have HC:Hid (btw x o=false):=xL (by omega);replace h:=h.2.2;refine jp ?_;refine jnf hB0 1 aA ?_;refine jm (vI o) ?_;refine dN x.deb o HD.out ?_;refine jm (.bool false) ?_;refine jss ?_;refine js ?_;refine jmm (.bool false) (.bool false) ?_;refine jnf hB0 2 aA ?_;refine jm (vI o) ?_;refine dN x.cre o HE.out ?_;refine jm (.bool false) ?_;refine jss ?_;refine js ?_;refine aX (.bool false) (.bool false) (.bool false) ?_;refine aQ hb hB0 fun X1 hX1 hb hB0=>?_
  go_wp2
  go_ret
  exact ⟨by rw [HC.out];rfl,hb⟩
theorem rwaC (B:Nat) (c:Int) (v z:Value) (l:List En) (cs:List Cg) (k:Nat) (w:World) (hv:Es l v w) (hz:Cs B cs z w) (hk:k<l.length) (hp:0≤(en l k).pd):Calls Tryz.prog 29 #[.agg #[vI c,v,z],vI k] w fun e w'=>e=.returned (.bool (jL cs (en l k) (k:Int)))∧Since w w':=by
 obtain ⟨A,n,cp,A2,m,cp2,rfl,rfl,hln,hn1,hlm,hm1,HRX,HLN,HES,HCS,HRC,HLM⟩:=eU hv hz;clear hv hz
 have hlt:k<n:=by rw [← hln];exact hk
 go_enter Tryz.func29,Tryz.ntmps29
 go_upto_region 1 with fail;obtain ⟨W0,hW0,hB0,hb⟩:=aT w 27 [vI c,.slice A n cp,.slice A2 m cp2];rw [← hW0];clear hW0;obtain ⟨b,off,rfl,hbb,hcx⟩:=fL (HRX.out _ hb) HLN.out (k:=k) hlt;obtain ⟨x,x9⟩:∃ x,x=en l k:=⟨_,rfl⟩;have HX:=Lib.hid x9;clear x9;rw [← HX.out] at hcx
 change Cl W0 b (off+k * 13) (eL x) at hcx
 have HES:Hid (∀ X,Since w X→Es l (.slice (some ⟨b,off,none⟩) n cp) X):=fun X h=>by show Rd X 13 _ l.length _;rw [HLN.out];exact HRX.out X h
 have hp0:0≤x.pd:=by rw [HX.out];exact hp
 refine jq 6 ?_;refine jn (vP w.heap.size 0) ?_;refine jnf hB0 1 aO ?_;refine jm (vI k) ?_;refine jv (vP b (off+k * 13)) (aR Tryz.underlying22 aL _ _ (by rfl) b (off) n cp k hlt (by rfl) (by rfl) rfl) ?_;refine jg (.agg #[vI x.day,vI x.deb,vI x.cre,.bool x.am.1,st x.am.2.1,st x.am.2.2,vI x.kd,vI x.pd,vI x.rf,vI x.w1,vI x.w2,vI x.w3,vI x.w4]) (fun X hX hF=>cW 76 _ (by rfl) b (off+k * 13) (by rfl) Tryz.underlying76 rfl (eL x) X (Cl.part (hcx.below hX hbb) 0 _ (by rfl)) aL) ?_;refine aQ hb hB0 fun X1 hX1 hb hB0=>?_;have hcx:=hcx.below hX1 hbb;replace hbb:=Nat.lt_of_lt_of_le hbb (hX1).size;go_upto_region 2 with (refine osn 76 5 13 #[vI x.day,vI x.deb,vI x.cre,.bool x.am.1,vS x.am.2.1,vS x.am.2.2,vI x.kd,vI x.pd,vI x.rf,vI x.w1,vI x.w2,vI x.w3,vI x.w4] aL ?_);obtain ⟨Y1,hY9,hD5,hS9⟩:=aT X1 76 (eL x)
 rw [← hY9];clear hY9;have hgs5:=hb.size;have hlt5x0:=hB0.lt;have hcx:=hcx.below hS9 hbb;replace hbb:=Nat.lt_of_lt_of_le hbb (hS9).size;have hB0:=hB0.bel hS9;have hb:=aI hb hS9;clear hS9;generalize X1.heap.size=g5 at *;obtain ⟨bw,bw9⟩:∃ z,btw x 0=z:=⟨_,rfl⟩;have HBW:=Lib.hid bw9;clear bw9;obtain ⟨cd,cd9⟩:∃ z,kT cs x.pd (k:Int)=z:=⟨_,rfl⟩;have HCD:=Lib.hid cd9;clear cd9;obtain ⟨ka,ka9⟩:∃ z,decide (x.kd=1)=z:=⟨_,rfl⟩;have HKA:=Lib.hid ka9;clear ka9;obtain ⟨ra,ra9⟩:∃ z,decide (x.rf=-1)=z:=⟨_,rfl⟩;have HRA:=Lib.hid ra9;clear ra9;refine jp ?_;refine ja hD5 Tryz.underlying76 (by rfl) aL ?_;refine jc (.bool bw) (fun X hX hF=>mo (rbtC x 0 X) (by rw [HBW.out])) ?_;refine jm (.bool bw) ?_;refine aN hb hB0 hD5 fun X2 hX2 hb hB0 hD5=>?_;go_upto_region 3 with fail;refine jp ?_;refine ja hB0 Tryz.underlying27 (by rfl) aK ?_;refine jn (vP g5 6) ?_;refine jnf hD5 7 aA ?_;refine jm (vI k) ?_;refine jc (.bool cd) (fun X hX hF=>mo (vXm B c _ _ l cs x.pd (k:Int) X (HES.out X (Since.next hb hX)) (HCS.out X (Since.next hb hX)) hp0) (by rw [HCD.out])) ?_;refine jm (.bool cd) ?_;refine aN hb hB0 hD5 fun X3 hX3 hb hB0 hD5=>?_
 rcases bw with _|_
 ·skip
  go_upto_region 4 with fail;refine jp ?_;refine jmm (.bool false) (.bool false) ?_;refine jss ?_;refine jmm (.bool false) (.bool false) ?_;refine bR ?_;refine jmm (.bool false) (.bool false) ?_;refine bR ?_;refine jmm (.bool false) (.bool false) ?_;refine aN hb hB0 hD5 fun X4 hX4 hb hB0 hD5=>?_
  have HC:Hid (jL cs (en l k) (k:Int)=false):=by
   show _=_
   rw [← HX.out]
   unfold jL
   rw [HBW.out,HCD.out,HKA.out,HRA.out] <;> rfl
  go_wp2
  go_ret
  exact ⟨by rw [HC.out];rfl,hb⟩
 ·skip
  rcases cd with _|_
  ·skip
   rcases ka with _|_
   ·skip
    go_upto_region 4 with fail;refine jp ?_;refine aX (.bool true) (.bool true) (.bool false) ?_;refine aX (.bool true) (.bool true) (.bool true) ?_;refine jn (vP g5 6) ?_;refine jnf hD5 6 aA ?_;refine jv (.bool false) (bN _ _ _ _ (by rfl) .i64 x.kd 1 (by rfl) (by rfl) false HKA.out) ?_;refine jmm (.bool false) (.bool false) ?_;refine bR ?_;refine jmm (.bool false) (.bool false) ?_;refine aN hb hB0 hD5 fun X4 hX4 hb hB0 hD5=>?_
    have HC:Hid (jL cs (en l k) (k:Int)=false):=by
     show _=_
     rw [← HX.out]
     unfold jL
     rw [HBW.out,HCD.out,HKA.out,HRA.out] <;> rfl
    go_wp2
    go_ret
    exact ⟨by rw [HC.out];rfl,hb⟩
   ·skip
    rcases ra with _|_
    ·skip
     go_upto_region 4 with fail;refine jp ?_;refine aX (.bool true) (.bool true) (.bool false) ?_;refine aX (.bool true) (.bool true) (.bool true) ?_;refine jn (vP g5 6) ?_;refine jnf hD5 6 aA ?_;refine jv (.bool true) (bN _ _ _ _ (by rfl) .i64 x.kd 1 (by rfl) (by rfl) true HKA.out) ?_;refine eE (.bool true) (.bool true) (vP g5 6) ?_;refine jnf hD5 8 aA ?_;refine jv (.bool false) (bN _ _ _ _ (by rfl) .i64 x.rf (-1) (by rfl) (by rfl) false HRA.out) ?_;refine jmm (.bool false) (.bool false) ?_;refine aN hb hB0 hD5 fun X4 hX4 hb hB0 hD5=>?_
     have HC:Hid (jL cs (en l k) (k:Int)=false):=by
      show _=_
      rw [← HX.out]
      unfold jL
      rw [HBW.out,HCD.out,HKA.out,HRA.out] <;> rfl
     go_wp2
     go_ret
     exact ⟨by rw [HC.out];rfl,hb⟩
    ·skip
     go_upto_region 4 with fail;refine jp ?_;refine aX (.bool true) (.bool true) (.bool false) ?_;refine aX (.bool true) (.bool true) (.bool true) ?_;refine jn (vP g5 6) ?_;refine jnf hD5 6 aA ?_;refine jv (.bool true) (bN _ _ _ _ (by rfl) .i64 x.kd 1 (by rfl) (by rfl) true HKA.out) ?_;refine eE (.bool true) (.bool true) (vP g5 6) ?_;refine jnf hD5 8 aA ?_;refine jv (.bool true) (bN _ _ _ _ (by rfl) .i64 x.rf (-1) (by rfl) (by rfl) true HRA.out) ?_;refine jmm (.bool true) (.bool true) ?_;refine aN hb hB0 hD5 fun X4 hX4 hb hB0 hD5=>?_
     have HC:Hid (jL cs (en l k) (k:Int)=true):=by
      show _=_
      rw [← HX.out]
      unfold jL
      rw [HBW.out,HCD.out,HKA.out,HRA.out] <;> rfl
     go_wp2
     go_ret
     exact ⟨by rw [HC.out];rfl,hb⟩
  ·skip
   go_upto_region 4 with fail;refine jp ?_;refine aX (.bool true) (.bool true) (.bool true) ?_;refine aX (.bool false) (.bool false) (.bool false) ?_;refine bR ?_;refine jmm (.bool false) (.bool false) ?_;refine bR ?_;refine jmm (.bool false) (.bool false) ?_;refine aN hb hB0 hD5 fun X4 hX4 hb hB0 hD5=>?_
   have HC:Hid (jL cs (en l k) (k:Int)=false):=by
    show _=_
    rw [← HX.out]
    unfold jL
    rw [HBW.out,HCD.out,HKA.out,HRA.out] <;> rfl
   go_wp2
   go_ret
   exact ⟨by rw [HC.out];rfl,hb⟩
theorem ricC (B:Nat) (c:Int) (v z:Value) (l:List En) (cs:List Cg) (k:Nat) (w:World) (hv:Es l v w) (hz:Cs B cs z w) (hk:k<l.length) (hp:0≤(en l k).pd):Calls Tryz.prog 30 #[.agg #[vI c,v,z],vI k] w fun e w'=>e=.returned (.bool (kR cs (en l k) (k:Int)))∧Since w w':=by
 obtain ⟨A,n,cp,A2,m,cp2,rfl,rfl,hln,hn1,hlm,hm1,HRX,HLN,HES,HCS,HRC,HLM⟩:=eU hv hz;clear hv hz
 have hlt:k<n:=by rw [← hln];exact hk
 go_enter Tryz.func30,Tryz.ntmps30
 go_upto_region 1 with fail;obtain ⟨W0,hW0,hB0,hb⟩:=aT w 27 [vI c,.slice A n cp,.slice A2 m cp2];rw [← hW0];clear hW0;obtain ⟨b,off,rfl,hbb,hcx⟩:=fL (HRX.out _ hb) HLN.out (k:=k) hlt;obtain ⟨x,x9⟩:∃ x,x=en l k:=⟨_,rfl⟩;have HX:=Lib.hid x9;clear x9;rw [← HX.out] at hcx
 change Cl W0 b (off+k * 13) (eL x) at hcx
 have HES:Hid (∀ X,Since w X→Es l (.slice (some ⟨b,off,none⟩) n cp) X):=fun X h=>by show Rd X 13 _ l.length _;rw [HLN.out];exact HRX.out X h
 have hp0:0≤x.pd:=by rw [HX.out];exact hp
 refine jq 6 ?_;refine jn (vP w.heap.size 0) ?_;refine jnf hB0 1 aO ?_;refine jm (vI k) ?_;refine jv (vP b (off+k * 13)) (aR Tryz.underlying22 aL _ _ (by rfl) b (off) n cp k hlt (by rfl) (by rfl) rfl) ?_;refine jg (.agg #[vI x.day,vI x.deb,vI x.cre,.bool x.am.1,st x.am.2.1,st x.am.2.2,vI x.kd,vI x.pd,vI x.rf,vI x.w1,vI x.w2,vI x.w3,vI x.w4]) (fun X hX hF=>cW 76 _ (by rfl) b (off+k * 13) (by rfl) Tryz.underlying76 rfl (eL x) X (Cl.part (hcx.below hX hbb) 0 _ (by rfl)) aL) ?_;refine aQ hb hB0 fun X1 hX1 hb hB0=>?_;have hcx:=hcx.below hX1 hbb;replace hbb:=Nat.lt_of_lt_of_le hbb (hX1).size;go_upto_region 2 with (refine osn 76 5 13 #[vI x.day,vI x.deb,vI x.cre,.bool x.am.1,vS x.am.2.1,vS x.am.2.2,vI x.kd,vI x.pd,vI x.rf,vI x.w1,vI x.w2,vI x.w3,vI x.w4] aL ?_);obtain ⟨Y1,hY9,hD5,hS9⟩:=aT X1 76 (eL x)
 rw [← hY9];clear hY9;have hgs5:=hb.size;have hlt5x0:=hB0.lt;have hcx:=hcx.below hS9 hbb;replace hbb:=Nat.lt_of_lt_of_le hbb (hS9).size;have hB0:=hB0.bel hS9;have hb:=aI hb hS9;clear hS9;generalize X1.heap.size=g5 at *;obtain ⟨bw,bw9⟩:∃ z,btw x 1=z:=⟨_,rfl⟩;have HBW:=Lib.hid bw9;clear bw9;obtain ⟨cd,cd9⟩:∃ z,kT cs x.pd (k:Int)=z:=⟨_,rfl⟩;have HCD:=Lib.hid cd9;clear cd9;obtain ⟨ka,ka9⟩:∃ z,decide (x.kd=3)=z:=⟨_,rfl⟩;have HKA:=Lib.hid ka9;clear ka9;obtain ⟨ra,ra9⟩:∃ z,decide (x.rf=-1)=z:=⟨_,rfl⟩;have HRA:=Lib.hid ra9;clear ra9;refine jp ?_;refine ja hD5 Tryz.underlying76 (by rfl) aL ?_;refine jc (.bool bw) (fun X hX hF=>mo (rbtC x 1 X) (by rw [HBW.out])) ?_;refine jm (.bool bw) ?_;refine aN hb hB0 hD5 fun X2 hX2 hb hB0 hD5=>?_;go_upto_region 3 with fail;refine jp ?_;refine ja hB0 Tryz.underlying27 (by rfl) aK ?_;refine jn (vP g5 6) ?_;refine jnf hD5 7 aA ?_;refine jm (vI k) ?_;refine jc (.bool cd) (fun X hX hF=>mo (vXm B c _ _ l cs x.pd (k:Int) X (HES.out X (Since.next hb hX)) (HCS.out X (Since.next hb hX)) hp0) (by rw [HCD.out])) ?_;refine jm (.bool cd) ?_;refine aN hb hB0 hD5 fun X3 hX3 hb hB0 hD5=>?_
 rcases bw with _|_
 ·skip
  go_upto_region 4 with fail;refine jp ?_;refine jmm (.bool false) (.bool false) ?_;refine js ?_;refine jmm (.bool false) (.bool false) ?_;refine bR ?_;refine jmm (.bool false) (.bool false) ?_;refine bR ?_;refine jmm (.bool false) (.bool false) ?_;refine aN hb hB0 hD5 fun X4 hX4 hb hB0 hD5=>?_
  have HC:Hid (kR cs (en l k) (k:Int)=false):=by
   show _=_
   rw [← HX.out]
   unfold kR
   rw [HBW.out,HCD.out,HKA.out,HRA.out] <;> rfl
  go_wp2
  go_ret
  exact ⟨by rw [HC.out];rfl,hb⟩
 ·skip
  rcases cd with _|_
  ·skip
   go_upto_region 4 with fail;refine jp ?_;refine aX (.bool true) (.bool true) (.bool false) ?_;refine jmm (.bool false) (.bool false) ?_;refine bR ?_;refine jmm (.bool false) (.bool false) ?_;refine bR ?_;refine jmm (.bool false) (.bool false) ?_;refine aN hb hB0 hD5 fun X4 hX4 hb hB0 hD5=>?_
   have HC:Hid (kR cs (en l k) (k:Int)=false):=by
    show _=_
    rw [← HX.out]
    unfold kR
    rw [HBW.out,HCD.out,HKA.out,HRA.out] <;> rfl
   go_wp2
   go_ret
   exact ⟨by rw [HC.out];rfl,hb⟩
  ·skip
   rcases ka with _|_
   ·skip
    go_upto_region 4 with fail;refine jp ?_;refine aX (.bool true) (.bool true) (.bool true) ?_;refine eE (.bool true) (.bool true) (vP g5 6) ?_;refine jnf hD5 6 aA ?_;refine jv (.bool false) (bN _ _ _ _ (by rfl) .i64 x.kd 3 (by rfl) (by rfl) false HKA.out) ?_;refine jmm (.bool false) (.bool false) ?_;refine bR ?_;refine jmm (.bool false) (.bool false) ?_;refine aN hb hB0 hD5 fun X4 hX4 hb hB0 hD5=>?_
    have HC:Hid (kR cs (en l k) (k:Int)=false):=by
     show _=_
     rw [← HX.out]
     unfold kR
     rw [HBW.out,HCD.out,HKA.out,HRA.out] <;> rfl
    go_wp2
    go_ret
    exact ⟨by rw [HC.out];rfl,hb⟩
   ·skip
    rcases ra with _|_
    ·skip
     go_upto_region 4 with fail;refine jp ?_;refine aX (.bool true) (.bool true) (.bool true) ?_;refine eE (.bool true) (.bool true) (vP g5 6) ?_;refine jnf hD5 6 aA ?_;refine jv (.bool true) (bN _ _ _ _ (by rfl) .i64 x.kd 3 (by rfl) (by rfl) true HKA.out) ?_;refine eE (.bool true) (.bool true) (vP g5 6) ?_;refine jnf hD5 8 aA ?_;refine jv (.bool false) (bN _ _ _ _ (by rfl) .i64 x.rf (-1) (by rfl) (by rfl) false HRA.out) ?_;refine jmm (.bool false) (.bool false) ?_;refine aN hb hB0 hD5 fun X4 hX4 hb hB0 hD5=>?_
     have HC:Hid (kR cs (en l k) (k:Int)=false):=by
      show _=_
      rw [← HX.out]
      unfold kR
      rw [HBW.out,HCD.out,HKA.out,HRA.out] <;> rfl
     go_wp2
     go_ret
     exact ⟨by rw [HC.out];rfl,hb⟩
    ·skip
     go_upto_region 4 with fail;refine jp ?_;refine aX (.bool true) (.bool true) (.bool true) ?_;refine eE (.bool true) (.bool true) (vP g5 6) ?_;refine jnf hD5 6 aA ?_;refine jv (.bool true) (bN _ _ _ _ (by rfl) .i64 x.kd 3 (by rfl) (by rfl) true HKA.out) ?_;refine eE (.bool true) (.bool true) (vP g5 6) ?_;refine jnf hD5 8 aA ?_;refine jv (.bool true) (bN _ _ _ _ (by rfl) .i64 x.rf (-1) (by rfl) (by rfl) true HRA.out) ?_;refine jmm (.bool true) (.bool true) ?_;refine aN hb hB0 hD5 fun X4 hX4 hb hB0 hD5=>?_
     have HC:Hid (kR cs (en l k) (k:Int)=true):=by
      show _=_
      rw [← HX.out]
      unfold kR
      rw [HBW.out,HCD.out,HKA.out,HRA.out] <;> rfl
     go_wp2
     go_ret
     exact ⟨by rw [HC.out];rfl,hb⟩
set_option maxHeartbeats 8000000 in
theorem rcoC (B:Nat) (c:Int) (v z:Value) (l:List En) (cs:List Cg) (k:Nat) (w:World) (hv:Es l v w) (hz:Cs B cs z w) (hk:k<cs.length):Calls Tryz.prog 28 #[.agg #[vI c,v,z],vI k] w fun e w'=>e=.returned (.bool (decide (dS cs l k)))∧Since w w':=by
 obtain ⟨A,n,cp,A2,m,cp2,rfl,rfl,hln,hn1,hlm,hm1,HRX,HLN,HES,HCS,HRC,HLM⟩:=eU hv hz;clear hv hz
 have hlt:k<m:=by rw [← hlm];exact hk
 go_enter Tryz.func28,Tryz.ntmps28
 go_upto_region 1 with fail;obtain ⟨W0,hW0,hB0,hb⟩:=aT w 27 [vI c,.slice A n cp,.slice A2 m cp2];rw [← hW0];clear hW0;obtain ⟨b2,off2,rfl,hbb2,hcx2⟩:=iL (HRC.out _ hb) HLM.out (k:=k) hlt;obtain ⟨y,y9⟩:∃ y,y=cg cs k:=⟨_,rfl⟩;have HY:=Lib.hid y9;clear y9;rw [← HY.out] at hcx2
 change Cl W0 b2 (off2+k * 2) [vI y.day,vI y.place] at hcx2
 refine jq 5 ?_;refine jnf hB0 2 aZ ?_;refine jm (vI k) ?_;refine jv (vP b2 (off2+k * 2)) (aR Tryz.underlying25 bP _ _ (by rfl) b2 (off2) m cp2 k hlt (by rfl) (by rfl) rfl) ?_;refine jg (.agg #[vI y.day,vI y.place]) (fun X hX hF=>cW 72 _ (by rfl) b2 (off2+k * 2) (by rfl) Tryz.underlying72 rfl [vI y.day,vI y.place] X (Cl.part (hcx2.below hX hbb2) 0 _ (by rfl)) bP) ?_;refine aQ hb hB0 fun X1 hX1 hb hB0=>?_;have hcx2:=hcx2.below hX1 hbb2;replace hbb2:=Nat.lt_of_lt_of_le hbb2 (hX1).size;go_upto_region 2 with (refine osn 72 5 11 #[vI y.day,vI y.place] bP ?_);obtain ⟨Y1,hY9,hD5,hS9⟩:=aT X1 72 [vI y.day,vI y.place];rw [← hY9];clear hY9;have hgs5:=hb.size;have hlt5x0:=hB0.lt;have hcx2:=hcx2.below hS9 hbb2;replace hbb2:=Nat.lt_of_lt_of_le hbb2 (hS9).size;have hB0:=hB0.bel hS9;have hb:=aI hb hS9;clear hS9;generalize X1.heap.size=g5 at *;refine jp ?_;refine jn (vP w.heap.size 0) ?_;refine jnf hB0 1 aO ?_;refine jm (.slice A n cp) ?_;refine aN hb hB0 hD5 fun X2 hX2 hb hB0 hD5=>?_
 have HCLO:Hid (dS cs l k↔(0≤y.day∧y.day≤14609∧0≤y.place∧y.place≤(n:Int)∧(0<k→(cg cs (k-1)).day≤y.day∧(cg cs (k-1)).place≤y.place)∧(0<y.place→(en l (y.place.toNat-1)).day≤y.day)∧(y.place<(n:Int)→y.day≤(en l y.place.toNat).day))):=by
  show _↔_
  unfold dS
  rw [← HY.out,HLN.out]
 obtain ⟨p,p9⟩:∃ p,p=cg cs (k-1):=⟨_,rfl⟩;have HP:=Lib.hid p9;clear p9;rw [← HP.out] at HCLO
 rcases (show y.day<0∨(0≤y.day∧14609<y.day)∨(0≤y.day∧y.day≤14609∧y.place<0)∨(0≤y.day∧y.day≤14609∧0≤y.place∧(n:Int)<y.place)∨(0≤y.day∧y.day≤14609∧0≤y.place∧y.place≤(n:Int)) by omega) with h3|h3|h3|h3|h3
 ·go_upto_region 3 with fail
  refine jp ?_;refine jnf hD5 0 aA ?_;refine cE y.day 0 (by omega) ?_;refine jm (.bool true) ?_;refine jss ?_;refine js ?_;refine jmm (.bool true) (.bool true) ?_;refine jss ?_;refine js ?_;refine jmm (.bool true) (.bool true) ?_;refine bR ?_;refine js ?_;refine jm (.bool true) ?_;refine aN hb hB0 hD5 fun X3 hX3 hb hB0 hD5=>?_;go_upto_region 4 with fail;refine jp ?_;refine jm (.bool false) ?_;refine aN hb hB0 hD5 fun X4 hX4 hb hB0 hD5=>?_;have HC:Hid (decide (dS cs l k)=false):=decide_eq_false (fun h9=>by have h8:=HCLO.out.1 h9;omega)
  go_wp2
  go_ret
  exact ⟨by rw [HC.out];rfl,hb⟩
 ·go_upto_region 3 with fail
  refine jp ?_;refine jnf hD5 0 aA ?_;refine bI y.day 0 (by omega) ?_;refine jm (.bool false) ?_;refine jnf hD5 0 aA ?_;refine cD y.day 14609 (by omega) ?_;refine jmm (.bool true) (.bool true) ?_;refine jss ?_;refine js ?_;refine jmm (.bool true) (.bool true) ?_;refine bR ?_;refine js ?_;refine jm (.bool true) ?_;refine aN hb hB0 hD5 fun X3 hX3 hb hB0 hD5=>?_;go_upto_region 4 with fail;refine jp ?_;refine jm (.bool false) ?_;refine aN hb hB0 hD5 fun X4 hX4 hb hB0 hD5=>?_;have HC:Hid (decide (dS cs l k)=false):=decide_eq_false (fun h9=>by have h8:=HCLO.out.1 h9;omega)
  go_wp2
  go_ret
  exact ⟨by rw [HC.out];rfl,hb⟩
 ·go_upto_region 3 with fail
  refine jp ?_;refine jnf hD5 0 aA ?_;refine bI y.day 0 (by omega) ?_;refine jm (.bool false) ?_;refine jnf hD5 0 aA ?_;refine bZ y.day 14609 (by omega) ?_;refine jmm (.bool false) (.bool false) ?_;refine jnf hD5 1 aA ?_;refine cE y.place 0 (by omega) ?_;refine jmm (.bool true) (.bool true) ?_;refine bR ?_;refine js ?_;refine jm (.bool true) ?_;refine aN hb hB0 hD5 fun X3 hX3 hb hB0 hD5=>?_;go_upto_region 4 with fail;refine jp ?_;refine jm (.bool false) ?_;refine aN hb hB0 hD5 fun X4 hX4 hb hB0 hD5=>?_;have HC:Hid (decide (dS cs l k)=false):=decide_eq_false (fun h9=>by have h8:=HCLO.out.1 h9;omega)
  go_wp2
  go_ret
  exact ⟨by rw [HC.out];rfl,hb⟩
 ·go_upto_region 3 with fail
  refine jp ?_;refine jnf hD5 0 aA ?_;refine bI y.day 0 (by omega) ?_;refine jm (.bool false) ?_;refine jnf hD5 0 aA ?_;refine bZ y.day 14609 (by omega) ?_;refine jmm (.bool false) (.bool false) ?_;refine jnf hD5 1 aA ?_;refine bI y.place 0 (by omega) ?_;refine jmm (.bool false) (.bool false) ?_;refine jnf hD5 1 aA ?_;refine jm (.slice A n cp) ?_;refine jv (vI n) (aF Tryz.underlying22 _ (by rfl) A n cp (by rfl) _ rfl) ?_;refine cD y.place (n:Int) (by omega) ?_;refine jm (.bool true) ?_;refine aN hb hB0 hD5 fun X3 hX3 hb hB0 hD5=>?_;go_upto_region 4 with fail;refine jp ?_;refine jm (.bool false) ?_;refine aN hb hB0 hD5 fun X4 hX4 hb hB0 hD5=>?_;have HC:Hid (decide (dS cs l k)=false):=decide_eq_false (fun h9=>by have h8:=HCLO.out.1 h9;omega)
  go_wp2
  go_ret
  exact ⟨by rw [HC.out];rfl,hb⟩
 ·go_upto_region 3 with fail
  refine jp ?_;refine jnf hD5 0 aA ?_;refine bI y.day 0 (by omega) ?_;refine jm (.bool false) ?_;refine jnf hD5 0 aA ?_;refine bZ y.day 14609 (by omega) ?_;refine jmm (.bool false) (.bool false) ?_;refine jnf hD5 1 aA ?_;refine bI y.place 0 (by omega) ?_;refine jmm (.bool false) (.bool false) ?_;refine jnf hD5 1 aA ?_;refine jm (.slice A n cp) ?_;refine jv (vI n) (aF Tryz.underlying22 _ (by rfl) A n cp (by rfl) _ rfl) ?_;refine bZ y.place (n:Int) (by omega) ?_;refine jm (.bool false) ?_;refine aN hb hB0 hD5 fun X3 hX3 hb hB0 hD5=>?_;obtain ⟨q,hq9⟩:∃ q:Nat,y.place=(q:Int):=⟨y.place.toNat,by omega⟩;have HQ:=Lib.hid hq9
  have hqn:q≤n:=by omega
  clear hq9
  have HQN:Hid (y.place.toNat=q):=by
   show _=_
   rw [HQ.out]
   rfl
  obtain ⟨x1,x19⟩:∃ x,x=en l (q-1):=⟨_,rfl⟩;have HX1:=Lib.hid x19;clear x19;obtain ⟨x2,x29⟩:∃ x,x=en l q:=⟨_,rfl⟩;have HX2:=Lib.hid x29;clear x29;rw [HQN.out,← HX1.out,← HX2.out] at HCLO
  have hq0:y.place≤(q:Int):=by rw [HQ.out];exact Int.le_refl _
  have hq1:(q:Int)≤y.place:=by rw [HQ.out];exact Int.le_refl _
  rcases (show (0<k∧(y.day<p.day∨(p.day≤y.day∧y.place<p.place)))∨(0<k→p.day≤y.day∧p.place≤y.place) by omega) with h5|h5
  ·go_upto_region 5 with fail
   refine jO [35,36,37,38,39,40,41,42,43,44,45,46,47,48,49,50,51,52,53,54,55,56,57,58,59,60] (fun f9 X=>(f9 60=.bool true∧True)∧Since X3 X) ?_ ?_
   ·rcases h5.2 with h6|h6
    ·have hk0:=h5.1
     obtain ⟨j,hj9⟩:∃ j,k=j+1:=⟨k-1,by omega⟩;have HJ:=Lib.hid hj9
     have hj1:j<k:=by omega
     have hj2:k≤j+1:=by omega
     clear hj9;obtain ⟨hbp,hcp9⟩:=qXx (HRC.out _ hb) HLM.out (k:=j) (by omega);rw [show cg cs j=p by rw [HP.out,HJ.out,Nat.add_sub_cancel]] at hcp9
     change Cl X3 b2 (off2+j * 2) [vI p.day,vI p.place] at hcp9
     refine jd ?_;refine jm (vI k) ?_;refine cD (k:Int) 0 (by omega) ?_;refine jm (.bool true) ?_;refine jnf hD5 0 aA ?_;refine jnf hB0 2 aZ ?_;refine jm (vI k) ?_;refine jv (vI j) (aW _ _ _ _ (by rfl) (k:Int) 1 (j:Int) (by rfl) (by rfl) (by omega) (by omega) (by omega)) ?_;refine jv (vP b2 (off2+j * 2)) (aR Tryz.underlying25 bP _ _ (by rfl) b2 (off2) m cp2 j (by omega) (by rfl) (by rfl) rfl) ?_;refine jn (vP b2 (off2+j * 2)) ?_;refine jg (vI p.day) (fun X hX hF=>aP 3 _ (by rfl) b2 (off2+j * 2) (by rfl) _ X ((hcp9.below hX hbp) 0 _ rfl) (fun X u h=>aA b2 (off2+j * 2) X u h)) ?_;refine cE y.day p.day (by omega) ?_;refine jm (.bool true) ?_;refine cN ?_;refine jss ?_;refine jmm (.bool true) (.bool true) ?_
     exact aJ fun X hX _=>bK ⟨⟨rfl,trivial⟩,hX⟩
    ·have hk0:=h5.1
     obtain ⟨j,hj9⟩:∃ j,k=j+1:=⟨k-1,by omega⟩;have HJ:=Lib.hid hj9
     have hj1:j<k:=by omega
     have hj2:k≤j+1:=by omega
     clear hj9;obtain ⟨hbp,hcp9⟩:=qXx (HRC.out _ hb) HLM.out (k:=j) (by omega);rw [show cg cs j=p by rw [HP.out,HJ.out,Nat.add_sub_cancel]] at hcp9
     change Cl X3 b2 (off2+j * 2) [vI p.day,vI p.place] at hcp9
     refine jd ?_;refine jm (vI k) ?_;refine cD (k:Int) 0 (by omega) ?_;refine jm (.bool true) ?_;refine jnf hD5 0 aA ?_;refine jnf hB0 2 aZ ?_;refine jm (vI k) ?_;refine jv (vI j) (aW _ _ _ _ (by rfl) (k:Int) 1 (j:Int) (by rfl) (by rfl) (by omega) (by omega) (by omega)) ?_;refine jv (vP b2 (off2+j * 2)) (aR Tryz.underlying25 bP _ _ (by rfl) b2 (off2) m cp2 j (by omega) (by rfl) (by rfl) rfl) ?_;refine jn (vP b2 (off2+j * 2)) ?_;refine jg (vI p.day) (fun X hX hF=>aP 3 _ (by rfl) b2 (off2+j * 2) (by rfl) _ X ((hcp9.below hX hbp) 0 _ rfl) (fun X u h=>aA b2 (off2+j * 2) X u h)) ?_;refine bI y.day p.day (by omega) ?_;refine jm (.bool false) ?_;refine jnf hD5 1 aA ?_;refine jnf hB0 2 aZ ?_;refine jm (vI k) ?_;refine jv (vI j) (aW _ _ _ _ (by rfl) (k:Int) 1 (j:Int) (by rfl) (by rfl) (by omega) (by omega) (by omega)) ?_;refine jv (vP b2 (off2+j * 2)) (aR Tryz.underlying25 bP _ _ (by rfl) b2 (off2) m cp2 j (by omega) (by rfl) (by rfl) rfl) ?_;refine jn (vP b2 (off2+j * 2+1)) ?_;refine jg (vI p.place) (fun X hX hF=>aP 3 _ (by rfl) b2 (off2+j * 2+1) (by rfl) _ X ((hcp9.below hX hbp) 1 _ rfl) (fun X u h=>aA b2 (off2+j * 2+1) X u h)) ?_;refine cE y.place p.place (by omega) ?_;refine jmm (.bool true) (.bool true) ?_
     exact aJ fun X hX _=>bK ⟨⟨rfl,trivial⟩,hX⟩
   ·intro f4 X4 hk9
    obtain ⟨⟨hk4_0,_⟩,hX4⟩:=hk9;simp only [dQ,eC,pX,hk4_0];clear hk4_0;obtain ⟨hB0,hD5⟩:=bl2 hX4 hB0 hD5;have hb:=aI hb hX4;go_upto_region 6 with fail;refine jp ?_;refine jm (.bool false) ?_;refine aN hb hB0 hD5 fun X5 hX5 hb hB0 hD5=>?_;have HC:Hid (decide (dS cs l k)=false):=decide_eq_false (fun h9=>by have h8:=HCLO.out.1 h9;omega)
    go_wp2
    go_ret
    exact ⟨by rw [HC.out];rfl,hb⟩
  ·go_upto_region 5 with fail
   refine jO [35,36,37,38,39,40,41,42,43,44,45,46,47,48,49,50,51,52,53,54,55,56,57,58,59,60] (fun f9 X=>(f9 60=.bool false∧True)∧Since X3 X) ?_ ?_
   ·rcases Nat.eq_zero_or_pos k with hk0|hk0
    ·have HK0:=Lib.hid hk0
     replace hk0:k≤0:=by omega
     refine jd ?_;refine jm (vI k) ?_;refine bZ (k:Int) 0 (by omega) ?_;refine jm (.bool false) ?_;refine cN ?_;refine cN ?_;refine bR ?_;refine jss ?_;refine jm (.bool false) ?_
     exact aJ fun X hX _=>bK ⟨⟨rfl,trivial⟩,hX⟩
    ·have h6:=h5 hk0
     obtain ⟨j,hj9⟩:∃ j,k=j+1:=⟨k-1,by omega⟩;have HJ:=Lib.hid hj9
     have hj1:j<k:=by omega
     have hj2:k≤j+1:=by omega
     clear hj9;obtain ⟨hbp,hcp9⟩:=qXx (HRC.out _ hb) HLM.out (k:=j) (by omega);rw [show cg cs j=p by rw [HP.out,HJ.out,Nat.add_sub_cancel]] at hcp9
     change Cl X3 b2 (off2+j * 2) [vI p.day,vI p.place] at hcp9
     refine jd ?_;refine jm (vI k) ?_;refine cD (k:Int) 0 (by omega) ?_;refine jm (.bool true) ?_;refine jnf hD5 0 aA ?_;refine jnf hB0 2 aZ ?_;refine jm (vI k) ?_;refine jv (vI j) (aW _ _ _ _ (by rfl) (k:Int) 1 (j:Int) (by rfl) (by rfl) (by omega) (by omega) (by omega)) ?_;refine jv (vP b2 (off2+j * 2)) (aR Tryz.underlying25 bP _ _ (by rfl) b2 (off2) m cp2 j (by omega) (by rfl) (by rfl) rfl) ?_;refine jn (vP b2 (off2+j * 2)) ?_;refine jg (vI p.day) (fun X hX hF=>aP 3 _ (by rfl) b2 (off2+j * 2) (by rfl) _ X ((hcp9.below hX hbp) 0 _ rfl) (fun X u h=>aA b2 (off2+j * 2) X u h)) ?_;refine bI y.day p.day (by omega) ?_;refine jm (.bool false) ?_;refine jnf hD5 1 aA ?_;refine jnf hB0 2 aZ ?_;refine jm (vI k) ?_;refine jv (vI j) (aW _ _ _ _ (by rfl) (k:Int) 1 (j:Int) (by rfl) (by rfl) (by omega) (by omega) (by omega)) ?_;refine jv (vP b2 (off2+j * 2)) (aR Tryz.underlying25 bP _ _ (by rfl) b2 (off2) m cp2 j (by omega) (by rfl) (by rfl) rfl) ?_;refine jn (vP b2 (off2+j * 2+1)) ?_;refine jg (vI p.place) (fun X hX hF=>aP 3 _ (by rfl) b2 (off2+j * 2+1) (by rfl) _ X ((hcp9.below hX hbp) 1 _ rfl) (fun X u h=>aA b2 (off2+j * 2+1) X u h)) ?_;refine bI y.place p.place (by omega) ?_;refine jmm (.bool false) (.bool false) ?_
     exact aJ fun X hX _=>bK ⟨⟨rfl,trivial⟩,hX⟩
   ·intro f4 X4 hk9
    obtain ⟨⟨hk4_0,_⟩,hX4⟩:=hk9;simp only [dQ,eC,pX,hk4_0];clear hk4_0;obtain ⟨hB0,hD5⟩:=bl2 hX4 hB0 hD5;have hb:=aI hb hX4
    rcases (show (0<q∧y.day<x1.day)∨(0<q→x1.day≤y.day) by omega) with h7|h7
    ·obtain ⟨i,hi9⟩:∃ i,q=i+1:=⟨q-1,by omega⟩
     have HI:=Lib.hid hi9
     have hi1:i<n:=by omega
     have hi2:y.place≤(i:Int)+1:=by omega
     have hi3:(i:Int)+1≤y.place:=by omega
     clear hi9;obtain ⟨be,oe,hAe,hbe,hce⟩:=fL (HRX.out _ hb) HLN.out (k:=i) hi1;subst hAe;rw [show en l i=x1 by rw [HX1.out,HI.out,Nat.add_sub_cancel]] at hce
     change Cl X4 be (oe+i * 13) (eL x1) at hce
     go_upto_region 7 with fail;refine jd ?_;refine jnf hD5 1 aA ?_;refine cD y.place 0 (by omega) ?_;refine jm (.bool true) ?_;refine jnf hD5 0 aA ?_;refine jm (.slice (some ⟨be,oe,none⟩) n cp) ?_;refine jnf hD5 1 aA ?_;refine jv (vI i) (aW _ _ _ _ (by rfl) y.place 1 (i:Int) (by rfl) (by rfl) (by omega) (by omega) (by omega)) ?_;refine jv (vI i) (dH _ _ (by rfl) .i64 0 (i:Int) (i:Int) (by rfl) (by rfl) (by omega)) ?_;refine jv (vP be (oe+i * 13)) (aR Tryz.underlying22 aL _ _ (by rfl) be (oe) n cp i (by omega) (by rfl) (by rfl) rfl) ?_;refine jn (vP be (oe+i * 13)) ?_;refine jg (vI x1.day) (fun X hX hF=>aP 3 _ (by rfl) be (oe+i * 13) (by rfl) _ X ((hce.below hX hbe) 0 _ rfl) (fun X u h=>aA be (oe+i * 13) X u h)) ?_;refine cE y.day x1.day (by omega) ?_;refine jm (.bool true) ?_;refine aN hb hB0 hD5 fun X5 hX5 hb hB0 hD5=>?_;have hce:=hce.below hX5 hbe;replace hbe:=Nat.lt_of_lt_of_le hbe (hX5).size;go_upto_region 8 with fail;refine jp ?_;refine jm (.bool false) ?_;refine aN hb hB0 hD5 fun X6 hX6 hb hB0 hD5=>?_;have HC:Hid (decide (dS cs l k)=false):=decide_eq_false (fun h9=>by have h8:=HCLO.out.1 h9;omega)
     go_wp2
     go_ret
     exact ⟨by rw [HC.out];rfl,hb⟩
    ·go_upto_region 7 with fail
     refine jO [61,62,63,64,65,66,67,68,69,70,71,72,73,74,75,76] (fun f9 X=>(f9 76=.bool false∧True)∧Since X4 X) ?_ ?_
     ·rcases Nat.eq_zero_or_pos q with hk0|hk0
      ·have HK0:=Lib.hid hk0
       replace hk0:q≤0:=by omega
       refine jd ?_;refine jnf hD5 1 aA ?_;refine bZ y.place 0 (by omega) ?_;refine jm (.bool false) ?_;refine cN ?_;refine jss ?_;refine js ?_;refine jm (.bool false) ?_
       exact aJ fun X hX _=>bK ⟨⟨rfl,trivial⟩,hX⟩
      ·have h8:=h7 hk0
       obtain ⟨i,hi9⟩:∃ i,q=i+1:=⟨q-1,by omega⟩;have HI:=Lib.hid hi9
       have hi1:i<n:=by omega
       have hi2:y.place≤(i:Int)+1:=by omega
       have hi3:(i:Int)+1≤y.place:=by omega
       clear hi9;obtain ⟨be,oe,hAe,hbe,hce⟩:=fL (HRX.out _ hb) HLN.out (k:=i) hi1;subst hAe;rw [show en l i=x1 by rw [HX1.out,HI.out,Nat.add_sub_cancel]] at hce
       change Cl X4 be (oe+i * 13) (eL x1) at hce
       refine jd ?_;refine jnf hD5 1 aA ?_;refine cD y.place 0 (by omega) ?_;refine jm (.bool true) ?_;refine jnf hD5 0 aA ?_;refine jm (.slice (some ⟨be,oe,none⟩) n cp) ?_;refine jnf hD5 1 aA ?_;refine jv (vI i) (aW _ _ _ _ (by rfl) y.place 1 (i:Int) (by rfl) (by rfl) (by omega) (by omega) (by omega)) ?_;refine jv (vI i) (dH _ _ (by rfl) .i64 0 (i:Int) (i:Int) (by rfl) (by rfl) (by omega)) ?_;refine jv (vP be (oe+i * 13)) (aR Tryz.underlying22 aL _ _ (by rfl) be (oe) n cp i (by omega) (by rfl) (by rfl) rfl) ?_;refine jn (vP be (oe+i * 13)) ?_;refine jg (vI x1.day) (fun X hX hF=>aP 3 _ (by rfl) be (oe+i * 13) (by rfl) _ X ((hce.below hX hbe) 0 _ rfl) (fun X u h=>aA be (oe+i * 13) X u h)) ?_;refine bI y.day x1.day (by omega) ?_;refine jm (.bool false) ?_
       exact aJ fun X hX _=>bK ⟨⟨rfl,trivial⟩,hX⟩
     ·intro f5 X5 hk9
      obtain ⟨⟨hk5_0,_⟩,hX5⟩:=hk9;simp only [dQ,eC,pX,hk5_0];clear hk5_0;obtain ⟨hB0,hD5⟩:=bl2 hX5 hB0 hD5;have hb:=aI hb hX5
      rcases (show n≤q∨(q<n∧y.day≤x2.day)∨(q<n∧x2.day<y.day) by omega) with h|h|h
      ·have HQ9:Hid (y.place=(n:Int)):=by show _=_;omega
       go_upto_region 9 with fail;refine jd ?_;refine jnf hD5 1 aA ?_;refine jm (.slice A n cp) ?_;refine jv (vI n) (aF Tryz.underlying22 _ (by rfl) A n cp (by rfl) _ rfl) ?_;refine dA y.place (n:Int) HQ9.out ?_;refine jm (.bool true) ?_;refine cN ?_;refine bR ?_;refine js ?_;refine jmm (.bool true) (.bool true) ?_;refine aN hb hB0 hD5 fun X6 hX6 hb hB0 hD5=>?_;have HC:Hid (decide (dS cs l k)=true):=decide_eq_true (HCLO.out.2 (by omega))
       go_wp2
       go_ret
       exact ⟨by rw [HC.out];rfl,hb⟩
      ·obtain ⟨be,oe,hAe,hbe,hcf⟩:=fL (HRX.out _ hb) HLN.out (k:=q) (by omega)
       subst hAe;rw [← HX2.out] at hcf
       change Cl X5 be (oe+q * 13) (eL x2) at hcf
       go_upto_region 9 with fail;refine jd ?_;refine jnf hD5 1 aA ?_;refine jm (.slice (some ⟨be,oe,none⟩) n cp) ?_;refine jv (vI n) (aF Tryz.underlying22 _ (by rfl) (some ⟨be,oe,none⟩) n cp (by rfl) _ rfl) ?_;refine dN y.place (n:Int) (by omega) ?_;refine jm (.bool false) ?_;refine jnf hD5 0 aA ?_;refine jm (.slice (some ⟨be,oe,none⟩) n cp) ?_;refine jnf hD5 1 aA ?_;refine jm (.slice (some ⟨be,oe,none⟩) n cp) ?_;refine jv (vI n) (aF Tryz.underlying22 _ (by rfl) (some ⟨be,oe,none⟩) n cp (by rfl) _ rfl) ?_;refine jv (vI ((n:Int)-1)) (aW _ _ _ _ (by rfl) (n:Int) 1 ((n:Int)-1) (by rfl) (by rfl) (by omega) (by omega) (by omega)) ?_;refine jv (vI q) (mL _ _ (by rfl) .i64 y.place ((n:Int)-1) (q:Int) (by rfl) (by rfl) (by omega)) ?_;refine jv (vP be (oe+q * 13)) (aR Tryz.underlying22 aL _ _ (by rfl) be (oe) n cp q (by omega) (by rfl) (by rfl) rfl) ?_;refine jn (vP be (oe+q * 13)) ?_;refine jg (vI x2.day) (fun X hX hF=>aP 3 _ (by rfl) be (oe+q * 13) (by rfl) _ X ((hcf.below hX hbe) 0 _ rfl) (fun X u h=>aA be (oe+q * 13) X u h)) ?_;refine nT y.day x2.day (by omega) ?_;refine jmm (.bool true) (.bool true) ?_;refine aN hb hB0 hD5 fun X6 hX6 hb hB0 hD5=>?_;have hcf:=hcf.below hX6 hbe;replace hbe:=Nat.lt_of_lt_of_le hbe (hX6).size;have HC:Hid (decide (dS cs l k)=true):=decide_eq_true (HCLO.out.2 (by omega))
       go_wp2
       go_ret
       exact ⟨by rw [HC.out];rfl,hb⟩
      ·obtain ⟨be,oe,hAe,hbe,hcf⟩:=fL (HRX.out _ hb) HLN.out (k:=q) (by omega)
       subst hAe;rw [← HX2.out] at hcf
       change Cl X5 be (oe+q * 13) (eL x2) at hcf
       go_upto_region 9 with fail;refine jd ?_;refine jnf hD5 1 aA ?_;refine jm (.slice (some ⟨be,oe,none⟩) n cp) ?_;refine jv (vI n) (aF Tryz.underlying22 _ (by rfl) (some ⟨be,oe,none⟩) n cp (by rfl) _ rfl) ?_;refine dN y.place (n:Int) (by omega) ?_;refine jm (.bool false) ?_;refine jnf hD5 0 aA ?_;refine jm (.slice (some ⟨be,oe,none⟩) n cp) ?_;refine jnf hD5 1 aA ?_;refine jm (.slice (some ⟨be,oe,none⟩) n cp) ?_;refine jv (vI n) (aF Tryz.underlying22 _ (by rfl) (some ⟨be,oe,none⟩) n cp (by rfl) _ rfl) ?_;refine jv (vI ((n:Int)-1)) (aW _ _ _ _ (by rfl) (n:Int) 1 ((n:Int)-1) (by rfl) (by rfl) (by omega) (by omega) (by omega)) ?_;refine jv (vI q) (mL _ _ (by rfl) .i64 y.place ((n:Int)-1) (q:Int) (by rfl) (by rfl) (by omega)) ?_;refine jv (vP be (oe+q * 13)) (aR Tryz.underlying22 aL _ _ (by rfl) be (oe) n cp q (by omega) (by rfl) (by rfl) rfl) ?_;refine jn (vP be (oe+q * 13)) ?_;refine jg (vI x2.day) (fun X hX hF=>aP 3 _ (by rfl) be (oe+q * 13) (by rfl) _ X ((hcf.below hX hbe) 0 _ rfl) (fun X u h=>aA be (oe+q * 13) X u h)) ?_;refine jW y.day x2.day (by omega) ?_;refine jmm (.bool false) (.bool false) ?_;refine aN hb hB0 hD5 fun X6 hX6 hb hB0 hD5=>?_;have hcf:=hcf.below hX6 hbe;replace hbe:=Nat.lt_of_lt_of_le hbe (hX6).size;have HC:Hid (decide (dS cs l k)=false):=decide_eq_false (fun h9=>by have h8:=HCLO.out.1 h9;omega)
       go_wp2
       go_ret
       exact ⟨by rw [HC.out];rfl,hb⟩
end Go.Proofs.YtjkfchehkpmhkaaGreatDoor

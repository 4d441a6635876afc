/- period: valid, Check, day, asked, stale. -/
import Derived.Test.YtjkfchehkpmhkaaGreatDoorPa45
import Derived.Test.YtjkfchehkpmhkaaGreatDoorAc
set_option linter.unusedSimpArgs false
set_option linter.unusedVariables false
set_option maxRecDepth 100000
set_option maxHeartbeats 1600000
namespace Go.Proofs.YtjkfchehkpmhkaaGreatDoor
open Go.RowKit
def jI (n:Nat):Code→Option Code
 | .region i o d=>if i=n then some (.region i o d) else none
 | .block _ c=>jI n c
 | .seq a b=>match jI n a with
  | some c=>some c
  | none=>jI n b
 | .cond _ a b=>match jI n a with
  | some c=>some c
  | none=>jI n b
 | .loop c=>jI n c
 | .scope c=>jI n c
 | _=>none
def nN (n:Nat) (f:Func):Option Code:=match f.body with
 | some c=>jI n c
 | none=>none
def vld (c:Int) (l:List En) (cs:List Cg):Bool:=decide (¬ (c<3∨4000<cs.length)∧(∀ k,k<cs.length→dS cs l k)∧(∀ k,k<l.length→cI cs (en l k) k=true))
theorem vY {c:Int} {l:List En} {cs:List Cg} (h:c<3∨4000<cs.length):vld c l cs=false:=decide_eq_false fun h9=>h9.1 h
theorem zP {c:Int} {l:List En} {cs:List Cg} {k:Nat} (hk:k<cs.length) (h:¬ dS cs l k):vld c l cs=false:=decide_eq_false fun h9=>h (h9.2.1 k hk)
theorem vQl {c:Int} {l:List En} {cs:List Cg} {k:Nat} (hk:k<l.length) (h:cI cs (en l k) k=false):vld c l cs=false:=decide_eq_false fun h9=>by
 rw [h9.2.2 k hk] at h
 cases h
theorem qN {c:Int} {l:List En} {cs:List Cg} (h:acE c l=0):peE c l cs=if vld c l cs=true then 0 else 1:=by
 unfold peE vld
 rw [if_neg (fun h9=>h9 h)]
 by_cases h1:c<3∨4000<cs.length
 ·rw [if_pos h1,decide_eq_false (fun h9=>h9.1 h1)]
  rfl
 ·rw [if_neg h1]
  by_cases h2:(∀ k,k<cs.length→dS cs l k)∧(∀ k,k<l.length→cI cs (en l k) k=true)
  ·rw [if_pos h2,decide_eq_true ⟨h1,h2⟩,if_pos rfl]
  ·rw [if_neg h2,decide_eq_false (fun h9=>h2 h9.2)]
   rfl
theorem yJ (z:Int) (w:World):Calls Tryz.prog 46 #[vI z] w fun e w'=>e=.returned (.bool (decide (0≤z) && decide (z≤14609)))∧Since w w':=by
 rcases (show z<0∨14609<z∨(0≤z∧z≤14609) by omega) with hy|hy|hy
 ·have HB:(decide (0≤z) && decide (z≤14609))=false:=by rw [decide_eq_false (show ¬ 0≤z by omega)];rfl
  rw [HB];clear HB
  go_enter Tryz.func46,Tryz.ntmps46
  go_upto_region 1 with fail;refine jp ?_;refine jm (vI z) ?_;refine fW z 0 (by omega) ?_;refine jm (.bool false) ?_;refine jss ?_;refine jmm (.bool false) (.bool false) ?_;refine jz fun X1 hX1=>?_;have hb:Below w.heap.size w X1:=hX1
  go_wp2
  go_ret
  exact ⟨rfl,hb⟩
 ·have HB:(decide (0≤z) && decide (z≤14609))=false:=by rw [decide_eq_false (show ¬ z≤14609 by omega),Bool.and_false]
  rw [HB];clear HB
  go_enter Tryz.func46,Tryz.ntmps46
  go_upto_region 1 with fail;refine jp ?_;refine jm (vI z) ?_;refine iS z 0 (by omega) ?_;refine jmm (.bool true) (vI z) ?_;refine jW z 14609 (by omega) ?_;refine jmm (.bool false) (.bool false) ?_;refine jz fun X1 hX1=>?_;have hb:Below w.heap.size w X1:=hX1
  go_wp2
  go_ret
  exact ⟨rfl,hb⟩
 ·have HB:(decide (0≤z) && decide (z≤14609))=true:=by rw [decide_eq_true hy.1,decide_eq_true hy.2];rfl
  rw [HB];clear HB
  go_enter Tryz.func46,Tryz.ntmps46
  go_upto_region 1 with fail;refine jp ?_;refine jm (vI z) ?_;refine iS z 0 (by omega) ?_;refine jmm (.bool true) (vI z) ?_;refine nT z 14609 (by omega) ?_;refine jmm (.bool true) (.bool true) ?_;refine jz fun X1 hX1=>?_;have hb:Below w.heap.size w X1:=hX1
  go_wp2
  go_ret
  exact ⟨rfl,hb⟩
theorem qYa (c:Int) (v z:Value) (p a d:Int) (w:World):Calls Tryz.prog 33 #[.agg #[vI c,v,z],vI p,vI a,vI d] w fun e w'=>e=.returned (vI (eA c p a d))∧Since w w':=by
 go_enter Tryz.func33,Tryz.ntmps33
 go_upto_region 1 with fail;obtain ⟨W0,hW0,hB0,hb⟩:=aT w 79 [vI c,v,z];rw [← hW0];clear hW0
 rcases (show (p<0∨4000<p∨a≤1∨c≤a∨d<0∨14609<d)∨(0≤p∧p≤4000∧1<a∧a<c∧0≤d∧d≤14609) by omega) with h|h
 ·have HE:Hid (eA c p a d=3):=by
   show _=_
   unfold eA
   rw [if_pos (by omega)]
  refine jO [9,10,11,12,13,14,15,16,17,18,19,20,21,22,23,24,25,26,27,28,29,30] (fun f9 X=>(f9 30=.bool true∧True)∧Since W0 X) ?_ ?_
  ·rcases (show p<0∨(0≤p∧4000<p)∨(0≤p∧p≤4000∧a≤1)∨(0≤p∧p≤4000∧1<a∧c≤a)∨(0≤p∧p≤4000∧1<a∧a<c∧(d<0∨14609<d)) by omega) with h9|h9|h9|h9|h9
   ·refine jp ?_
    refine jm (vI p) ?_;refine cE p 0 (by omega) ?_;refine jm (.bool true) ?_;refine jss ?_;refine jmm (.bool true) (.bool true) ?_;refine jss ?_;refine jmm (.bool true) (.bool true) ?_;refine bR ?_;refine js ?_;refine jmm (.bool true) (.bool true) ?_;refine jss ?_;refine js ?_;refine jm (.bool true) ?_
    exact aJ fun X hX _=>bK ⟨⟨rfl,trivial⟩,hX⟩
   ·refine jp ?_
    refine jm (vI p) ?_;refine bI p 0 (by omega) ?_;refine jmm (.bool false) (vI p) ?_;refine cD p 4000 (by omega) ?_;refine jmm (.bool true) (.bool true) ?_;refine jss ?_;refine jmm (.bool true) (.bool true) ?_;refine bR ?_;refine js ?_;refine jmm (.bool true) (.bool true) ?_;refine jss ?_;refine js ?_;refine jm (.bool true) ?_
    exact aJ fun X hX _=>bK ⟨⟨rfl,trivial⟩,hX⟩
   ·refine jp ?_
    refine jm (vI p) ?_;refine bI p 0 (by omega) ?_;refine jmm (.bool false) (vI p) ?_;refine bZ p 4000 (by omega) ?_;refine aX (.bool false) (.bool false) (vI a) ?_;refine nT a 1 (by omega) ?_;refine jmm (.bool true) (.bool true) ?_;refine bR ?_;refine js ?_;refine jmm (.bool true) (.bool true) ?_;refine jss ?_;refine js ?_;refine jm (.bool true) ?_
    exact aJ fun X hX _=>bK ⟨⟨rfl,trivial⟩,hX⟩
   ·refine jp ?_
    refine jm (vI p) ?_;refine bI p 0 (by omega) ?_;refine jmm (.bool false) (vI p) ?_;refine bZ p 4000 (by omega) ?_;refine aX (.bool false) (.bool false) (vI a) ?_;refine jW a 1 (by omega) ?_;refine aX (.bool false) (.bool false) (vI a) ?_;refine jn (vP w.heap.size 0) ?_;refine jnf hB0 0 aA ?_;refine iS a c (by omega) ?_;refine jmm (.bool true) (.bool true) ?_;refine jss ?_;refine js ?_;refine jm (.bool true) ?_
    exact aJ fun X hX _=>bK ⟨⟨rfl,trivial⟩,hX⟩
   ·have HD:Hid ((decide (0≤d) && decide (d≤14609))=false):=by
     show _=_
     rcases (show d<0∨14609<d by omega) with h9|h9
     ·rw [decide_eq_false (show ¬ 0≤d by omega)];rfl
     ·rw [decide_eq_false (show ¬ d≤14609 by omega),Bool.and_false]
    refine jp ?_;refine jm (vI p) ?_;refine bI p 0 (by omega) ?_;refine jmm (.bool false) (vI p) ?_;refine bZ p 4000 (by omega) ?_;refine aX (.bool false) (.bool false) (vI a) ?_;refine jW a 1 (by omega) ?_;refine aX (.bool false) (.bool false) (vI a) ?_;refine jn (vP w.heap.size 0) ?_;refine jnf hB0 0 aA ?_;refine fW a c (by omega) ?_;refine aX (.bool false) (.bool false) (vI d) ?_;refine jc (.bool false) (fun X hX hF=>mo (yJ d X) (by rw [HD.out])) ?_;refine jmm (.bool true) (.bool true) ?_
    exact aJ fun X hX _=>bK ⟨⟨rfl,trivial⟩,hX⟩
  ·intro f1 X1 hk9
   obtain ⟨⟨hk1_0,_⟩,hX1⟩:=hk9;simp only [dQ,eC,pX,hk1_0];clear hk1_0;have hB0:=hB0.bel hX1;have hb:=aI hb hX1;go_upto_region 2 with fail;refine jp ?_;refine jm (vI 3) ?_;refine aQ hb hB0 fun X2 hX2 hb hB0=>?_
   go_wp2
   go_ret
   exact ⟨by rw [HE.out];rfl,hb⟩
 ·have HE:Hid (eA c p a d=0):=by
   show _=_
   unfold eA
   rw [if_neg (by omega)]
  have HD:Hid ((decide (0≤d) && decide (d≤14609))=true):=by
   show _=_
   rw [decide_eq_true h.2.2.2.2.1,decide_eq_true h.2.2.2.2.2];rfl
  refine jp ?_;refine jm (vI p) ?_;refine bI p 0 (by omega) ?_;refine jmm (.bool false) (vI p) ?_;refine bZ p 4000 (by omega) ?_;refine aX (.bool false) (.bool false) (vI a) ?_;refine jW a 1 (by omega) ?_;refine aX (.bool false) (.bool false) (vI a) ?_;refine jn (vP w.heap.size 0) ?_;refine jnf hB0 0 aA ?_;refine fW a c (by omega) ?_;refine aX (.bool false) (.bool false) (vI d) ?_;refine jc (.bool true) (fun X hX hF=>mo (yJ d X) (by rw [HD.out])) ?_;refine jmm (.bool false) (.bool false) ?_;refine aQ hb hB0 fun X1 hX1 hb hB0=>?_;go_upto_region 3 with fail;refine jp ?_;refine jm (vI 0) ?_;refine aQ hb hB0 fun X2 hX2 hb hB0=>?_
  go_wp2
  go_ret
  exact ⟨by rw [HE.out];rfl,hb⟩
theorem qYp (B:Nat) (c:Int) (v z:Value) (l:List En) (cs:List Cg) (d:Int) (w:World) (hv:Es l v w) (hz:Cs B cs z w):Calls Tryz.prog 34 #[.agg #[vI c,v,z],vI d] w fun e w'=>e=.returned (.bool (stl l cs d))∧Since w w':=by
 obtain ⟨A,n,cp,A2,m,cp2,rfl,rfl,hln,hn1,hlm,hm1,HRX,HLN,HES,HCS,HRC,HLM⟩:=eU hv hz;clear hv hz
 go_enter Tryz.func34,Tryz.ntmps34
 go_upto_region 1 with fail;obtain ⟨W0,hW0,hB0,hb⟩:=aT w 79 [vI c,.slice A n cp,.slice A2 m cp2];rw [← hW0];clear hW0;refine jd ?_;refine jn (vP w.heap.size 0) ?_;refine jnf hB0 1 aO ?_;refine jv (vI n) (aF Tryz.underlying22 _ (by rfl) A n cp (by rfl) _ rfl) ?_;refine jnf hB0 2 aZ ?_;refine jv (vI m) (aF Tryz.underlying25 _ (by rfl) A2 m cp2 (by rfl) _ rfl) ?_;refine jmm (vI n) (vI m) ?_;refine aQ hb hB0 fun X1 hX1 hb hB0=>?_
 rcases Nat.eq_zero_or_pos n with hn0|hn0
 ·have HN0:=Lib.hid hn0
  replace hn0:n≤0:=by omega
  rcases Nat.eq_zero_or_pos m with hm0|hm0
  ·have HM0:=Lib.hid hm0
   replace hm0:m≤0:=by omega
   go_upto_region 2 with fail;refine jp ?_;refine jm (vI n) ?_;refine bZ (n:Int) 0 (by omega) ?_;refine jm (.bool false) ?_;refine cN ?_;refine jss ?_;refine aX (.bool false) (.bool false) (vI m) ?_;refine bZ (m:Int) 0 (by omega) ?_;refine jm (.bool false) ?_;refine cN ?_;refine js ?_;refine aX (.bool false) (.bool false) (.bool false) ?_;refine aQ hb hB0 fun X2 hX2 hb hB0=>?_
   have HS:Hid (stl l cs d=false):=by
    show _=_
    unfold stl
    rw [decide_eq_false (show ¬ 0<l.length by rw [HLN.out];omega),Bool.false_and,decide_eq_false (show ¬ 0<cs.length by rw [HLM.out];omega),Bool.false_and]
    rfl
   go_wp2
   go_ret
   exact ⟨by rw [HS.out];rfl,hb⟩
  ·obtain ⟨i,hi9⟩:∃ i,m=i+1:=⟨m-1,by omega⟩
   have HI:=Lib.hid hi9
   have hi1:i<m:=by omega
   have hi2:m≤i+1:=by omega
   clear hi9;obtain ⟨b2,off2,rfl,hbb2,hcx2⟩:=iL (HRC.out _ hb) HLM.out (k:=i) (by omega);obtain ⟨y,y9⟩:∃ y,y=cg cs i:=⟨_,rfl⟩;have HY:=Lib.hid y9;clear y9;rw [← HY.out] at hcx2
   change Cl X1 b2 (off2+i * 2) [vI y.day,vI y.place] at hcx2
   have HYL:Hid (cg cs (cs.length-1)=y):=by
    show _=_
    rw [HLM.out,HI.out,Nat.add_sub_cancel,HY.out]
   rcases (show d<y.day∨y.day≤d by omega) with hy|hy
   ·go_upto_region 2 with fail
    refine jp ?_;refine jm (vI n) ?_;refine bZ (n:Int) 0 (by omega) ?_;refine jm (.bool false) ?_;refine cN ?_;refine jss ?_;refine aX (.bool false) (.bool false) (vI m) ?_;refine cD (m:Int) 0 (by omega) ?_;refine jmm (.bool true) (vI d) ?_;refine jnf hB0 2 aZ ?_;refine jm (vI m) ?_;refine jv (vI i) (aW _ _ _ _ (by rfl) (m:Int) 1 (i:Int) (by rfl) (by rfl) (by omega) (by omega) (by omega)) ?_;refine jv (vP b2 (off2+i * 2)) (aR Tryz.underlying25 bP _ _ (by rfl) b2 (off2) m cp2 i (by omega) (by rfl) (by rfl) rfl) ?_;refine jn (vP b2 (off2+i * 2)) ?_;refine jg (vI y.day) (fun X hX hF=>aP 3 _ (by rfl) b2 (off2+i * 2) (by rfl) _ X ((hcx2.below hX hbb2) 0 _ rfl) (fun X u h=>aA b2 (off2+i * 2) X u h)) ?_;refine cE d y.day (by omega) ?_;refine aX (.bool true) (.bool true) (.bool true) ?_;refine aQ hb hB0 fun X2 hX2 hb hB0=>?_;have hcx2:=hcx2.below hX2 hbb2;replace hbb2:=Nat.lt_of_lt_of_le hbb2 (hX2).size
    have HS:Hid (stl l cs d=true):=by
     show _=_
     unfold stl
     rw [decide_eq_false (show ¬ 0<l.length by rw [HLN.out];omega),Bool.false_and,decide_eq_true (show 0<cs.length by rw [HLM.out];omega),Bool.true_and,HYL.out,decide_eq_true hy]
     rfl
    go_wp2
    go_ret
    exact ⟨by rw [HS.out];rfl,hb⟩
   ·go_upto_region 2 with fail
    refine jp ?_;refine jm (vI n) ?_;refine bZ (n:Int) 0 (by omega) ?_;refine jm (.bool false) ?_;refine cN ?_;refine jss ?_;refine aX (.bool false) (.bool false) (vI m) ?_;refine cD (m:Int) 0 (by omega) ?_;refine jmm (.bool true) (vI d) ?_;refine jnf hB0 2 aZ ?_;refine jm (vI m) ?_;refine jv (vI i) (aW _ _ _ _ (by rfl) (m:Int) 1 (i:Int) (by rfl) (by rfl) (by omega) (by omega) (by omega)) ?_;refine jv (vP b2 (off2+i * 2)) (aR Tryz.underlying25 bP _ _ (by rfl) b2 (off2) m cp2 i (by omega) (by rfl) (by rfl) rfl) ?_;refine jn (vP b2 (off2+i * 2)) ?_;refine jg (vI y.day) (fun X hX hF=>aP 3 _ (by rfl) b2 (off2+i * 2) (by rfl) _ X ((hcx2.below hX hbb2) 0 _ rfl) (fun X u h=>aA b2 (off2+i * 2) X u h)) ?_;refine bI d y.day (by omega) ?_;refine aX (.bool false) (.bool false) (.bool false) ?_;refine aQ hb hB0 fun X2 hX2 hb hB0=>?_;have hcx2:=hcx2.below hX2 hbb2;replace hbb2:=Nat.lt_of_lt_of_le hbb2 (hX2).size
    have HS:Hid (stl l cs d=false):=by
     show _=_
     unfold stl
     rw [decide_eq_false (show ¬ 0<l.length by rw [HLN.out];omega),Bool.false_and,decide_eq_true (show 0<cs.length by rw [HLM.out];omega),Bool.true_and,HYL.out,decide_eq_false (show ¬ d<y.day by omega)]
     rfl
    go_wp2
    go_ret
    exact ⟨by rw [HS.out];rfl,hb⟩
 ·obtain ⟨j,hj9⟩:∃ j,n=j+1:=⟨n-1,by omega⟩
  have HJ:=Lib.hid hj9
  have hj1:j<n:=by omega
  have hj2:n≤j+1:=by omega
  clear hj9;obtain ⟨b,off,rfl,hbb,hcx⟩:=fL (HRX.out _ hb) HLN.out (k:=j) (by omega);obtain ⟨x,x9⟩:∃ x,x=en l j:=⟨_,rfl⟩;have HX:=Lib.hid x9;clear x9;rw [← HX.out] at hcx
  change Cl X1 b (off+j * 13) (eL x) at hcx
  have HXL:Hid (en l (l.length-1)=x):=by
   show _=_
   rw [HLN.out,HJ.out,Nat.add_sub_cancel,HX.out]
  rcases (show d<x.day∨x.day≤d by omega) with hx|hx
  ·go_upto_region 2 with fail
   refine jp ?_;refine jm (vI n) ?_;refine cD (n:Int) 0 (by omega) ?_;refine eE (.bool true) (vI d) (vP w.heap.size 0) ?_;refine jnf hB0 1 aO ?_;refine jm (vI n) ?_;refine jv (vI j) (aW _ _ _ _ (by rfl) (n:Int) 1 (j:Int) (by rfl) (by rfl) (by omega) (by omega) (by omega)) ?_;refine jv (vP b (off+j * 13)) (aR Tryz.underlying22 aL _ _ (by rfl) b (off) n cp j (by omega) (by rfl) (by rfl) rfl) ?_;refine jn (vP b (off+j * 13)) ?_;refine jg (vI x.day) (fun X hX hF=>aP 3 _ (by rfl) b (off+j * 13) (by rfl) _ X ((hcx.below hX hbb) 0 _ rfl) (fun X u h=>aA b (off+j * 13) X u h)) ?_;refine cE d x.day (by omega) ?_;refine jmm (.bool true) (.bool true) ?_;refine cN ?_;refine bR ?_;refine js ?_;refine jmm (.bool true) (.bool true) ?_;refine aQ hb hB0 fun X2 hX2 hb hB0=>?_;have hcx:=hcx.below hX2 hbb;replace hbb:=Nat.lt_of_lt_of_le hbb (hX2).size
   have HS:Hid (stl l cs d=true):=by
    show _=_
    unfold stl
    rw [decide_eq_true (show 0<l.length by rw [HLN.out];omega),Bool.true_and,HXL.out,decide_eq_true hx]
    rfl
   go_wp2
   go_ret
   exact ⟨by rw [HS.out];rfl,hb⟩
  ·rcases Nat.eq_zero_or_pos m with hm0|hm0
   ·have HM0:=Lib.hid hm0
    replace hm0:m≤0:=by omega
    go_upto_region 2 with fail;refine jp ?_;refine jm (vI n) ?_;refine cD (n:Int) 0 (by omega) ?_;refine eE (.bool true) (vI d) (vP w.heap.size 0) ?_;refine jnf hB0 1 aO ?_;refine jm (vI n) ?_;refine jv (vI j) (aW _ _ _ _ (by rfl) (n:Int) 1 (j:Int) (by rfl) (by rfl) (by omega) (by omega) (by omega)) ?_;refine jv (vP b (off+j * 13)) (aR Tryz.underlying22 aL _ _ (by rfl) b (off) n cp j (by omega) (by rfl) (by rfl) rfl) ?_;refine jn (vP b (off+j * 13)) ?_;refine jg (vI x.day) (fun X hX hF=>aP 3 _ (by rfl) b (off+j * 13) (by rfl) _ X ((hcx.below hX hbb) 0 _ rfl) (fun X u h=>aA b (off+j * 13) X u h)) ?_;refine bI d x.day (by omega) ?_;refine aX (.bool false) (.bool false) (vI m) ?_;refine bZ (m:Int) 0 (by omega) ?_;refine jm (.bool false) ?_;refine cN ?_;refine js ?_;refine aX (.bool false) (.bool false) (.bool false) ?_;refine aQ hb hB0 fun X2 hX2 hb hB0=>?_;have hcx:=hcx.below hX2 hbb;replace hbb:=Nat.lt_of_lt_of_le hbb (hX2).size
    have HS:Hid (stl l cs d=false):=by
     show _=_
     unfold stl
     rw [decide_eq_true (show 0<l.length by rw [HLN.out];omega),Bool.true_and,HXL.out,decide_eq_false (show ¬ d<x.day by omega),decide_eq_false (show ¬ 0<cs.length by rw [HLM.out];omega),Bool.false_and]
     rfl
    go_wp2
    go_ret
    exact ⟨by rw [HS.out];rfl,hb⟩
   ·obtain ⟨i,hi9⟩:∃ i,m=i+1:=⟨m-1,by omega⟩
    have HI:=Lib.hid hi9
    have hi1:i<m:=by omega
    have hi2:m≤i+1:=by omega
    clear hi9;obtain ⟨b2,off2,rfl,hbb2,hcx2⟩:=iL (HRC.out _ hb) HLM.out (k:=i) (by omega);obtain ⟨y,y9⟩:∃ y,y=cg cs i:=⟨_,rfl⟩;have HY:=Lib.hid y9;clear y9;rw [← HY.out] at hcx2
    change Cl X1 b2 (off2+i * 2) [vI y.day,vI y.place] at hcx2
    have HYL:Hid (cg cs (cs.length-1)=y):=by
     show _=_
     rw [HLM.out,HI.out,Nat.add_sub_cancel,HY.out]
    rcases (show d<y.day∨y.day≤d by omega) with hy|hy
    ·go_upto_region 2 with fail
     refine jp ?_;refine jm (vI n) ?_;refine cD (n:Int) 0 (by omega) ?_;refine eE (.bool true) (vI d) (vP w.heap.size 0) ?_;refine jnf hB0 1 aO ?_;refine jm (vI n) ?_;refine jv (vI j) (aW _ _ _ _ (by rfl) (n:Int) 1 (j:Int) (by rfl) (by rfl) (by omega) (by omega) (by omega)) ?_;refine jv (vP b (off+j * 13)) (aR Tryz.underlying22 aL _ _ (by rfl) b (off) n cp j (by omega) (by rfl) (by rfl) rfl) ?_;refine jn (vP b (off+j * 13)) ?_;refine jg (vI x.day) (fun X hX hF=>aP 3 _ (by rfl) b (off+j * 13) (by rfl) _ X ((hcx.below hX hbb) 0 _ rfl) (fun X u h=>aA b (off+j * 13) X u h)) ?_;refine bI d x.day (by omega) ?_;refine aX (.bool false) (.bool false) (vI m) ?_;refine cD (m:Int) 0 (by omega) ?_;refine jmm (.bool true) (vI d) ?_;refine jnf hB0 2 aZ ?_;refine jm (vI m) ?_;refine jv (vI i) (aW _ _ _ _ (by rfl) (m:Int) 1 (i:Int) (by rfl) (by rfl) (by omega) (by omega) (by omega)) ?_;refine jv (vP b2 (off2+i * 2)) (aR Tryz.underlying25 bP _ _ (by rfl) b2 (off2) m cp2 i (by omega) (by rfl) (by rfl) rfl) ?_;refine jn (vP b2 (off2+i * 2)) ?_;refine jg (vI y.day) (fun X hX hF=>aP 3 _ (by rfl) b2 (off2+i * 2) (by rfl) _ X ((hcx2.below hX hbb2) 0 _ rfl) (fun X u h=>aA b2 (off2+i * 2) X u h)) ?_
     refine cE d y.day (by omega) ?_;refine aX (.bool true) (.bool true) (.bool true) ?_;refine aQ hb hB0 fun X2 hX2 hb hB0=>?_;have hcx:=hcx.below hX2 hbb;have hcx2:=hcx2.below hX2 hbb2;replace hbb:=Nat.lt_of_lt_of_le hbb (hX2).size;replace hbb2:=Nat.lt_of_lt_of_le hbb2 (hX2).size
     have HS:Hid (stl l cs d=true):=by
      show _=_
      unfold stl
      rw [decide_eq_true (show 0<l.length by rw [HLN.out];omega),Bool.true_and,HXL.out,decide_eq_false (show ¬ d<x.day by omega),decide_eq_true (show 0<cs.length by rw [HLM.out];omega),Bool.true_and,HYL.out,decide_eq_true hy]
      rfl
     go_wp2
     go_ret
     exact ⟨by rw [HS.out];rfl,hb⟩
    ·go_upto_region 2 with fail
     refine jp ?_;refine jm (vI n) ?_;refine cD (n:Int) 0 (by omega) ?_;refine eE (.bool true) (vI d) (vP w.heap.size 0) ?_;refine jnf hB0 1 aO ?_;refine jm (vI n) ?_;refine jv (vI j) (aW _ _ _ _ (by rfl) (n:Int) 1 (j:Int) (by rfl) (by rfl) (by omega) (by omega) (by omega)) ?_;refine jv (vP b (off+j * 13)) (aR Tryz.underlying22 aL _ _ (by rfl) b (off) n cp j (by omega) (by rfl) (by rfl) rfl) ?_;refine jn (vP b (off+j * 13)) ?_;refine jg (vI x.day) (fun X hX hF=>aP 3 _ (by rfl) b (off+j * 13) (by rfl) _ X ((hcx.below hX hbb) 0 _ rfl) (fun X u h=>aA b (off+j * 13) X u h)) ?_;refine bI d x.day (by omega) ?_;refine aX (.bool false) (.bool false) (vI m) ?_;refine cD (m:Int) 0 (by omega) ?_;refine jmm (.bool true) (vI d) ?_;refine jnf hB0 2 aZ ?_;refine jm (vI m) ?_;refine jv (vI i) (aW _ _ _ _ (by rfl) (m:Int) 1 (i:Int) (by rfl) (by rfl) (by omega) (by omega) (by omega)) ?_;refine jv (vP b2 (off2+i * 2)) (aR Tryz.underlying25 bP _ _ (by rfl) b2 (off2) m cp2 i (by omega) (by rfl) (by rfl) rfl) ?_;refine jn (vP b2 (off2+i * 2)) ?_;refine jg (vI y.day) (fun X hX hF=>aP 3 _ (by rfl) b2 (off2+i * 2) (by rfl) _ X ((hcx2.below hX hbb2) 0 _ rfl) (fun X u h=>aA b2 (off2+i * 2) X u h)) ?_
     refine bI d y.day (by omega) ?_;refine aX (.bool false) (.bool false) (.bool false) ?_;refine aQ hb hB0 fun X2 hX2 hb hB0=>?_;have hcx:=hcx.below hX2 hbb;have hcx2:=hcx2.below hX2 hbb2;replace hbb:=Nat.lt_of_lt_of_le hbb (hX2).size;replace hbb2:=Nat.lt_of_lt_of_le hbb2 (hX2).size
     have HS:Hid (stl l cs d=false):=by
      show _=_
      unfold stl
      rw [decide_eq_true (show 0<l.length by rw [HLN.out];omega),Bool.true_and,HXL.out,decide_eq_false (show ¬ d<x.day by omega),decide_eq_true (show 0<cs.length by rw [HLM.out];omega),Bool.true_and,HYL.out,decide_eq_false (show ¬ d<y.day by omega)]
      rfl
     go_wp2
     go_ret
     exact ⟨by rw [HS.out];rfl,hb⟩
theorem vd7t (c:Int) (l:List En) (cs:List Cg) (A A2:Option Addr) (n cp m cp2 k g5:Nat) (y:Cg) (w W:World) (p:Cg) (C:Code) (Q:Exit→Act→World→Prop) (hC:nN 7 Tryz.f26=some C) (HRX':∀ X,Since w X→Rd X 13 (.slice A n cp) n (fl enc l)) (HLN':l.length=n) (HRC':∀ X,Since w X→Rd X 2 (.slice A2 m cp2) m (fl clc cs)) (HLM':cs.length=m) (hb:Below w.heap.size w W) (hB0:Blk W w.heap.size 79 [vI c,.slice A n cp,.slice A2 m cp2]) (hD5:Blk W g5 72 [vI y.day,vI y.place]) (hlt:k<m) (hm1:m≤9223372036854775807) (hn1:n≤9223372036854775807) (h7:((0<k∧(y.day<p.day∨y.place<p.place))∨y.place<0∨(n:Int)<y.place∨y.day<0∨14609<y.day)) (HP':p=cg cs (k-1)) (z0 z2 z6 z7 z8 z9 z10 z11 z12 z13 z14 z15 z16 z17 z18 z19 z20 z21 z22 z23 z24 z25 z26 z27 z28 z29 z30 z31 z32 z33 z34 z35 z36 z37 z38 z39 z40 z41 z42 z43 z44 z45 z46 z47 z48 z49 z50 z51 z52 z53 z54 z55 z56 z57 z58 z59 z60 z61 z62 z63 z64 z65 z66 z67 z68 z69 z70 z71 z72 z73 z74 z75 z76 z77 z78 z79 z80 z81 z82 z83 z84 z85 z86 z87 z88 z89 z90 z91 z92 z93 z94 z95 z96 z97 z98 z99 z100 z101 z102 z103 z104 z105 z106 z107 z108 z109 z110 z111 z112 z113 z114 z115 z116 z117 z118 z119 z120 z121 z122 z123 z124 z125:Value) (hKt:∀ (y30 y31 y32 y33 y34 y35 y36 y37 y38 y39 y40 y41 y42 y43 y44 y45 y46 y47 y48 y49 y50 y51 y52 y53 y54 y55 y56 y57 y58 y59 y60 y61 y62 y63 y64 y65 y66 y67 y68 y69 y70 y71 y72 y73 y74 y75 y76:Value) (X:World),Since W X→Q .normal ⟨#[z0,.pointer (some ⟨w.heap.size,0,none⟩),z2,.slice A n cp,.int .i64 (k:Int),.pointer (some ⟨g5,0,none⟩),z6,z7,z8,z9,z10,z11,z12,z13,z14,z15,z16,z17,z18,z19,z20,z21,z22,z23,z24,z25,z26,z27,z28,z29,y30,y31,y32,y33,y34,y35,y36,y37,y38,y39,y40,y41,y42,y43,y44,y45,y46,y47,y48,y49,y50,y51,y52,y53,y54,y55,y56,y57,y58,y59,y60,y61,y62,y63,y64,y65,y66,y67,y68,y69,y70,y71,y72,y73,y74,y75,y76,.bool true,z78,z79,z80,z81,z82,z83,z84,z85,z86,z87,z88,z89,z90,z91,z92,z93,z94,z95,z96,z97,z98,z99,z100,z101,z102,z103,z104,z105,z106,z107,z108,z109,z110,z111,z112,z113,z114,z115,z116,z117,z118,z119,z120,z121,z122,z123,z124,z125],[]⟩ X):C.wp Tryz.prog Q ⟨#[z0,.pointer (some ⟨w.heap.size,0,none⟩),z2,.slice A n cp,.int .i64 (k:Int),.pointer (some ⟨g5,0,none⟩),z6,z7,z8,z9,z10,z11,z12,z13,z14,z15,z16,z17,z18,z19,z20,z21,z22,z23,z24,z25,z26,z27,z28,z29,z30,z31,z32,z33,z34,z35,z36,z37,z38,z39,z40,z41,z42,z43,z44,z45,z46,z47,z48,z49,z50,z51,z52,z53,z54,z55,z56,z57,z58,z59,z60,z61,z62,z63,z64,z65,z66,z67,z68,z69,z70,z71,z72,z73,z74,z75,z76,z77,z78,z79,z80,z81,z82,z83,z84,z85,z86,z87,z88,z89,z90,z91,z92,z93,z94,z95,z96,z97,z98,z99,z100,z101,z102,z103,z104,z105,z106,z107,z108,z109,z110,z111,z112,z113,z114,z115,z116,z117,z118,z119,z120,z121,z122,z123,z124,z125],[]⟩ W:=by
 have HRX:=Lib.hid HRX';have HLN:=Lib.hid HLN';have HRC:=Lib.hid HRC';have HLM:=Lib.hid HLM';clear HRX' HLN' HRC' HLM';simp only [nN,jI,Tryz.f26,reduceCtorEq,if_true,if_false,Nat.reduceEqDiff,Option.some.injEq] at hC;subst hC;have HP:=Lib.hid HP';clear HP';refine jO [30,31,32,33,34,35,36,37,38,39,40,41,42,43,44,45,46,47,48,49,50,51,52,53,54,55,56,57,58,59,60,61,62,63,64,65,66,67,68,69,70,71,72,73,74,75,76,77] (fun f9 X=>(f9 77=.bool true∧True)∧Since W X) ?_ ?_
 ·rcases (show (0<k∧y.day<p.day)∨(0<k∧p.day≤y.day∧y.place<p.place)∨(k≤0∧y.place<0)∨(k≤0∧(0≤y.place∧(n:Int)<y.place))∨(k≤0∧(0≤y.place∧y.place≤(n:Int)∧y.day<0))∨(k≤0∧(0≤y.place∧y.place≤(n:Int)∧0≤y.day∧14609<y.day))∨(0<k∧p.day≤y.day∧p.place≤y.place∧y.place<0)∨(0<k∧p.day≤y.day∧p.place≤y.place∧(0≤y.place∧(n:Int)<y.place))∨(0<k∧p.day≤y.day∧p.place≤y.place∧(0≤y.place∧y.place≤(n:Int)∧y.day<0))∨(0<k∧p.day≤y.day∧p.place≤y.place∧(0≤y.place∧y.place≤(n:Int)∧0≤y.day∧14609<y.day)) by omega) with h9|h9|h9|h9|h9|h9|h9|h9|h9|h9
  ·obtain ⟨j,hj9⟩:∃ j,k=j+1:=⟨k-1,by omega⟩
   have HJ:=Lib.hid hj9
   have hj1:j<k:=by omega
   have hj2:k≤j+1:=by omega
   clear hj9;obtain ⟨b2,off2,hA2,hbp,hcp9⟩:=iL (HRC.out _ hb) HLM.out (k:=j) (by omega);subst hA2;rw [show cg cs j=p by rw [HP.out,HJ.out,Nat.add_sub_cancel]] at hcp9
   change Cl W b2 (off2+j * 2) [vI p.day,vI p.place] at hcp9
   refine jd ?_;refine jm (vI k) ?_;refine cD (k:Int) 0 (by omega) ?_;refine jm (.bool true) ?_;refine jnf hD5 0 aA ?_;refine jnf hB0 2 aZ ?_;refine jm (vI k) ?_;refine jv (vI j) (aW _ _ _ _ (by rfl) (k:Int) 1 (j:Int) (by rfl) (by rfl) (by omega) (by omega) (by omega)) ?_;refine jv (vP b2 (off2+j * 2)) (aR Tryz.underlying25 bP _ _ (by rfl) b2 (off2) m cp2 j (by omega) (by rfl) (by rfl) rfl) ?_;refine jn (vP b2 (off2+j * 2)) ?_;refine jg (vI p.day) (fun X hX hF=>aP 3 _ (by rfl) b2 (off2+j * 2) (by rfl) _ X ((hcp9.below hX hbp) 0 _ rfl) (fun X u h=>aA b2 (off2+j * 2) X u h)) ?_;refine cE y.day p.day (by omega) ?_;refine jm (.bool true) ?_;refine cN ?_;refine jss ?_;refine aX (.bool true) (.bool true) (.bool true) ?_;refine jss ?_;refine js ?_;refine jmm (.bool true) (.bool true) ?_;refine bR ?_;refine js ?_;refine jmm (.bool true) (.bool true) ?_;refine jss ?_;refine js ?_;refine jmm (.bool true) (.bool true) ?_;refine jss ?_;refine js ?_;refine jm (.bool true) ?_
   exact aJ fun X hX _=>bK ⟨⟨rfl,trivial⟩,hX⟩
  ·obtain ⟨j,hj9⟩:∃ j,k=j+1:=⟨k-1,by omega⟩
   have HJ:=Lib.hid hj9
   have hj1:j<k:=by omega
   have hj2:k≤j+1:=by omega
   clear hj9;obtain ⟨b2,off2,hA2,hbp,hcp9⟩:=iL (HRC.out _ hb) HLM.out (k:=j) (by omega);subst hA2;rw [show cg cs j=p by rw [HP.out,HJ.out,Nat.add_sub_cancel]] at hcp9
   change Cl W b2 (off2+j * 2) [vI p.day,vI p.place] at hcp9
   refine jd ?_;refine jm (vI k) ?_;refine cD (k:Int) 0 (by omega) ?_;refine jm (.bool true) ?_;refine jnf hD5 0 aA ?_;refine jnf hB0 2 aZ ?_;refine jm (vI k) ?_;refine jv (vI j) (aW _ _ _ _ (by rfl) (k:Int) 1 (j:Int) (by rfl) (by rfl) (by omega) (by omega) (by omega)) ?_;refine jv (vP b2 (off2+j * 2)) (aR Tryz.underlying25 bP _ _ (by rfl) b2 (off2) m cp2 j (by omega) (by rfl) (by rfl) rfl) ?_;refine jn (vP b2 (off2+j * 2)) ?_;refine jg (vI p.day) (fun X hX hF=>aP 3 _ (by rfl) b2 (off2+j * 2) (by rfl) _ X ((hcp9.below hX hbp) 0 _ rfl) (fun X u h=>aA b2 (off2+j * 2) X u h)) ?_;refine bI y.day p.day (by omega) ?_;refine jm (.bool false) ?_;refine jnf hD5 1 aA ?_;refine jnf hB0 2 aZ ?_;refine jm (vI k) ?_;refine jv (vI j) (aW _ _ _ _ (by rfl) (k:Int) 1 (j:Int) (by rfl) (by rfl) (by omega) (by omega) (by omega)) ?_;refine jv (vP b2 (off2+j * 2)) (aR Tryz.underlying25 bP _ _ (by rfl) b2 (off2) m cp2 j (by omega) (by rfl) (by rfl) rfl) ?_;refine jn (vP b2 (off2+j * 2+1)) ?_;refine jg (vI p.place) (fun X hX hF=>aP 3 _ (by rfl) b2 (off2+j * 2+1) (by rfl) _ X ((hcp9.below hX hbp) 1 _ rfl) (fun X u h=>aA b2 (off2+j * 2+1) X u h)) ?_;refine cE y.place p.place (by omega) ?_;refine aX (.bool true) (.bool true) (.bool true) ?_
   refine jss ?_;refine js ?_;refine jmm (.bool true) (.bool true) ?_;refine bR ?_;refine js ?_;refine jmm (.bool true) (.bool true) ?_;refine jss ?_;refine js ?_;refine jmm (.bool true) (.bool true) ?_;refine jss ?_;refine js ?_;refine jm (.bool true) ?_
   exact aJ fun X hX _=>bK ⟨⟨rfl,trivial⟩,hX⟩
  ·refine jd ?_
   refine jm (vI k) ?_;refine bZ (k:Int) 0 (by omega) ?_;refine jm (.bool false) ?_;refine cN ?_;refine cN ?_;refine bR ?_;refine jss ?_;refine jmm (.bool false) (.bool false) ?_;refine jnf hD5 1 aA ?_;refine cE y.place 0 (by omega) ?_;refine jmm (.bool true) (.bool true) ?_;refine bR ?_;refine js ?_;refine jmm (.bool true) (.bool true) ?_;refine jss ?_;refine js ?_;refine jmm (.bool true) (.bool true) ?_;refine jss ?_;refine js ?_;refine jm (.bool true) ?_
   exact aJ fun X hX _=>bK ⟨⟨rfl,trivial⟩,hX⟩
  ·refine jd ?_
   refine jm (vI k) ?_;refine bZ (k:Int) 0 (by omega) ?_;refine jm (.bool false) ?_;refine cN ?_;refine cN ?_;refine bR ?_;refine jss ?_;refine jmm (.bool false) (.bool false) ?_;refine jnf hD5 1 aA ?_;refine bI y.place 0 (by omega) ?_;refine jmm (.bool false) (.bool false) ?_;refine jnf hD5 1 aA ?_;refine jm (.slice A n cp) ?_;refine jv (vI n) (aF Tryz.underlying22 _ (by rfl) A n cp (by rfl) _ rfl) ?_;refine cD y.place (n:Int) (by omega) ?_;refine jmm (.bool true) (.bool true) ?_;refine jss ?_;refine js ?_;refine jmm (.bool true) (.bool true) ?_;refine jss ?_;refine js ?_;refine jm (.bool true) ?_
   exact aJ fun X hX _=>bK ⟨⟨rfl,trivial⟩,hX⟩
  ·refine jd ?_
   refine jm (vI k) ?_;refine bZ (k:Int) 0 (by omega) ?_;refine jm (.bool false) ?_;refine cN ?_;refine cN ?_;refine bR ?_;refine jss ?_;refine jmm (.bool false) (.bool false) ?_;refine jnf hD5 1 aA ?_;refine bI y.place 0 (by omega) ?_;refine jmm (.bool false) (.bool false) ?_;refine jnf hD5 1 aA ?_;refine jm (.slice A n cp) ?_;refine jv (vI n) (aF Tryz.underlying22 _ (by rfl) A n cp (by rfl) _ rfl) ?_;refine bZ y.place (n:Int) (by omega) ?_;refine jmm (.bool false) (.bool false) ?_;refine jnf hD5 0 aA ?_;refine cE y.day 0 (by omega) ?_;refine jmm (.bool true) (.bool true) ?_;refine jss ?_;refine js ?_;refine jm (.bool true) ?_
   exact aJ fun X hX _=>bK ⟨⟨rfl,trivial⟩,hX⟩
  ·refine jd ?_
   refine jm (vI k) ?_;refine bZ (k:Int) 0 (by omega) ?_;refine jm (.bool false) ?_;refine cN ?_;refine cN ?_;refine bR ?_;refine jss ?_;refine jmm (.bool false) (.bool false) ?_;refine jnf hD5 1 aA ?_;refine bI y.place 0 (by omega) ?_;refine jmm (.bool false) (.bool false) ?_;refine jnf hD5 1 aA ?_;refine jm (.slice A n cp) ?_;refine jv (vI n) (aF Tryz.underlying22 _ (by rfl) A n cp (by rfl) _ rfl) ?_;refine bZ y.place (n:Int) (by omega) ?_;refine jmm (.bool false) (.bool false) ?_;refine jnf hD5 0 aA ?_;refine bI y.day 0 (by omega) ?_;refine jmm (.bool false) (.bool false) ?_;refine jnf hD5 0 aA ?_;refine cD y.day 14609 (by omega) ?_;refine jm (.bool true) ?_
   exact aJ fun X hX _=>bK ⟨⟨rfl,trivial⟩,hX⟩
  ·obtain ⟨j,hj9⟩:∃ j,k=j+1:=⟨k-1,by omega⟩
   have HJ:=Lib.hid hj9
   have hj1:j<k:=by omega
   have hj2:k≤j+1:=by omega
   clear hj9;obtain ⟨b2,off2,hA2,hbp,hcp9⟩:=iL (HRC.out _ hb) HLM.out (k:=j) (by omega);subst hA2;rw [show cg cs j=p by rw [HP.out,HJ.out,Nat.add_sub_cancel]] at hcp9
   change Cl W b2 (off2+j * 2) [vI p.day,vI p.place] at hcp9
   refine jd ?_;refine jm (vI k) ?_;refine cD (k:Int) 0 (by omega) ?_;refine jm (.bool true) ?_;refine jnf hD5 0 aA ?_;refine jnf hB0 2 aZ ?_;refine jm (vI k) ?_;refine jv (vI j) (aW _ _ _ _ (by rfl) (k:Int) 1 (j:Int) (by rfl) (by rfl) (by omega) (by omega) (by omega)) ?_;refine jv (vP b2 (off2+j * 2)) (aR Tryz.underlying25 bP _ _ (by rfl) b2 (off2) m cp2 j (by omega) (by rfl) (by rfl) rfl) ?_;refine jn (vP b2 (off2+j * 2)) ?_;refine jg (vI p.day) (fun X hX hF=>aP 3 _ (by rfl) b2 (off2+j * 2) (by rfl) _ X ((hcp9.below hX hbp) 0 _ rfl) (fun X u h=>aA b2 (off2+j * 2) X u h)) ?_;refine bI y.day p.day (by omega) ?_;refine jm (.bool false) ?_;refine jnf hD5 1 aA ?_;refine jnf hB0 2 aZ ?_;refine jm (vI k) ?_;refine jv (vI j) (aW _ _ _ _ (by rfl) (k:Int) 1 (j:Int) (by rfl) (by rfl) (by omega) (by omega) (by omega)) ?_;refine jv (vP b2 (off2+j * 2)) (aR Tryz.underlying25 bP _ _ (by rfl) b2 (off2) m cp2 j (by omega) (by rfl) (by rfl) rfl) ?_;refine jn (vP b2 (off2+j * 2+1)) ?_;refine jg (vI p.place) (fun X hX hF=>aP 3 _ (by rfl) b2 (off2+j * 2+1) (by rfl) _ X ((hcp9.below hX hbp) 1 _ rfl) (fun X u h=>aA b2 (off2+j * 2+1) X u h)) ?_;refine bI y.place p.place (by omega) ?_;refine aX (.bool false) (.bool false) (.bool false) ?_
   refine jnf hD5 1 aA ?_;refine cE y.place 0 (by omega) ?_;refine jmm (.bool true) (.bool true) ?_;refine bR ?_;refine js ?_;refine jmm (.bool true) (.bool true) ?_;refine jss ?_;refine js ?_;refine jmm (.bool true) (.bool true) ?_;refine jss ?_;refine js ?_;refine jm (.bool true) ?_
   exact aJ fun X hX _=>bK ⟨⟨rfl,trivial⟩,hX⟩
  ·obtain ⟨j,hj9⟩:∃ j,k=j+1:=⟨k-1,by omega⟩
   have HJ:=Lib.hid hj9
   have hj1:j<k:=by omega
   have hj2:k≤j+1:=by omega
   clear hj9;obtain ⟨b2,off2,hA2,hbp,hcp9⟩:=iL (HRC.out _ hb) HLM.out (k:=j) (by omega);subst hA2;rw [show cg cs j=p by rw [HP.out,HJ.out,Nat.add_sub_cancel]] at hcp9
   change Cl W b2 (off2+j * 2) [vI p.day,vI p.place] at hcp9
   refine jd ?_;refine jm (vI k) ?_;refine cD (k:Int) 0 (by omega) ?_;refine jm (.bool true) ?_;refine jnf hD5 0 aA ?_;refine jnf hB0 2 aZ ?_;refine jm (vI k) ?_;refine jv (vI j) (aW _ _ _ _ (by rfl) (k:Int) 1 (j:Int) (by rfl) (by rfl) (by omega) (by omega) (by omega)) ?_;refine jv (vP b2 (off2+j * 2)) (aR Tryz.underlying25 bP _ _ (by rfl) b2 (off2) m cp2 j (by omega) (by rfl) (by rfl) rfl) ?_;refine jn (vP b2 (off2+j * 2)) ?_;refine jg (vI p.day) (fun X hX hF=>aP 3 _ (by rfl) b2 (off2+j * 2) (by rfl) _ X ((hcp9.below hX hbp) 0 _ rfl) (fun X u h=>aA b2 (off2+j * 2) X u h)) ?_;refine bI y.day p.day (by omega) ?_;refine jm (.bool false) ?_;refine jnf hD5 1 aA ?_;refine jnf hB0 2 aZ ?_;refine jm (vI k) ?_;refine jv (vI j) (aW _ _ _ _ (by rfl) (k:Int) 1 (j:Int) (by rfl) (by rfl) (by omega) (by omega) (by omega)) ?_;refine jv (vP b2 (off2+j * 2)) (aR Tryz.underlying25 bP _ _ (by rfl) b2 (off2) m cp2 j (by omega) (by rfl) (by rfl) rfl) ?_;refine jn (vP b2 (off2+j * 2+1)) ?_;refine jg (vI p.place) (fun X hX hF=>aP 3 _ (by rfl) b2 (off2+j * 2+1) (by rfl) _ X ((hcp9.below hX hbp) 1 _ rfl) (fun X u h=>aA b2 (off2+j * 2+1) X u h)) ?_;refine bI y.place p.place (by omega) ?_;refine aX (.bool false) (.bool false) (.bool false) ?_
   refine jnf hD5 1 aA ?_;refine bI y.place 0 (by omega) ?_;refine jmm (.bool false) (.bool false) ?_;refine jnf hD5 1 aA ?_;refine jm (.slice A n cp) ?_;refine jv (vI n) (aF Tryz.underlying22 _ (by rfl) A n cp (by rfl) _ rfl) ?_;refine cD y.place (n:Int) (by omega) ?_;refine jmm (.bool true) (.bool true) ?_;refine jss ?_;refine js ?_;refine jmm (.bool true) (.bool true) ?_;refine jss ?_;refine js ?_;refine jm (.bool true) ?_
   exact aJ fun X hX _=>bK ⟨⟨rfl,trivial⟩,hX⟩
  ·obtain ⟨j,hj9⟩:∃ j,k=j+1:=⟨k-1,by omega⟩
   have HJ:=Lib.hid hj9
   have hj1:j<k:=by omega
   have hj2:k≤j+1:=by omega
   clear hj9;obtain ⟨b2,off2,hA2,hbp,hcp9⟩:=iL (HRC.out _ hb) HLM.out (k:=j) (by omega);subst hA2;rw [show cg cs j=p by rw [HP.out,HJ.out,Nat.add_sub_cancel]] at hcp9
   change Cl W b2 (off2+j * 2) [vI p.day,vI p.place] at hcp9
   refine jd ?_;refine jm (vI k) ?_;refine cD (k:Int) 0 (by omega) ?_;refine jm (.bool true) ?_;refine jnf hD5 0 aA ?_;refine jnf hB0 2 aZ ?_;refine jm (vI k) ?_;refine jv (vI j) (aW _ _ _ _ (by rfl) (k:Int) 1 (j:Int) (by rfl) (by rfl) (by omega) (by omega) (by omega)) ?_;refine jv (vP b2 (off2+j * 2)) (aR Tryz.underlying25 bP _ _ (by rfl) b2 (off2) m cp2 j (by omega) (by rfl) (by rfl) rfl) ?_;refine jn (vP b2 (off2+j * 2)) ?_;refine jg (vI p.day) (fun X hX hF=>aP 3 _ (by rfl) b2 (off2+j * 2) (by rfl) _ X ((hcp9.below hX hbp) 0 _ rfl) (fun X u h=>aA b2 (off2+j * 2) X u h)) ?_;refine bI y.day p.day (by omega) ?_;refine jm (.bool false) ?_;refine jnf hD5 1 aA ?_;refine jnf hB0 2 aZ ?_;refine jm (vI k) ?_;refine jv (vI j) (aW _ _ _ _ (by rfl) (k:Int) 1 (j:Int) (by rfl) (by rfl) (by omega) (by omega) (by omega)) ?_;refine jv (vP b2 (off2+j * 2)) (aR Tryz.underlying25 bP _ _ (by rfl) b2 (off2) m cp2 j (by omega) (by rfl) (by rfl) rfl) ?_;refine jn (vP b2 (off2+j * 2+1)) ?_;refine jg (vI p.place) (fun X hX hF=>aP 3 _ (by rfl) b2 (off2+j * 2+1) (by rfl) _ X ((hcp9.below hX hbp) 1 _ rfl) (fun X u h=>aA b2 (off2+j * 2+1) X u h)) ?_;refine bI y.place p.place (by omega) ?_;refine aX (.bool false) (.bool false) (.bool false) ?_
   refine jnf hD5 1 aA ?_;refine bI y.place 0 (by omega) ?_;refine jmm (.bool false) (.bool false) ?_;refine jnf hD5 1 aA ?_;refine jm (.slice A n cp) ?_;refine jv (vI n) (aF Tryz.underlying22 _ (by rfl) A n cp (by rfl) _ rfl) ?_;refine bZ y.place (n:Int) (by omega) ?_;refine jmm (.bool false) (.bool false) ?_;refine jnf hD5 0 aA ?_;refine cE y.day 0 (by omega) ?_;refine jmm (.bool true) (.bool true) ?_;refine jss ?_;refine js ?_;refine jm (.bool true) ?_
   exact aJ fun X hX _=>bK ⟨⟨rfl,trivial⟩,hX⟩
  ·obtain ⟨j,hj9⟩:∃ j,k=j+1:=⟨k-1,by omega⟩
   have HJ:=Lib.hid hj9
   have hj1:j<k:=by omega
   have hj2:k≤j+1:=by omega
   clear hj9;obtain ⟨b2,off2,hA2,hbp,hcp9⟩:=iL (HRC.out _ hb) HLM.out (k:=j) (by omega);subst hA2;rw [show cg cs j=p by rw [HP.out,HJ.out,Nat.add_sub_cancel]] at hcp9
   change Cl W b2 (off2+j * 2) [vI p.day,vI p.place] at hcp9
   refine jd ?_;refine jm (vI k) ?_;refine cD (k:Int) 0 (by omega) ?_;refine jm (.bool true) ?_;refine jnf hD5 0 aA ?_;refine jnf hB0 2 aZ ?_;refine jm (vI k) ?_;refine jv (vI j) (aW _ _ _ _ (by rfl) (k:Int) 1 (j:Int) (by rfl) (by rfl) (by omega) (by omega) (by omega)) ?_;refine jv (vP b2 (off2+j * 2)) (aR Tryz.underlying25 bP _ _ (by rfl) b2 (off2) m cp2 j (by omega) (by rfl) (by rfl) rfl) ?_;refine jn (vP b2 (off2+j * 2)) ?_;refine jg (vI p.day) (fun X hX hF=>aP 3 _ (by rfl) b2 (off2+j * 2) (by rfl) _ X ((hcp9.below hX hbp) 0 _ rfl) (fun X u h=>aA b2 (off2+j * 2) X u h)) ?_;refine bI y.day p.day (by omega) ?_;refine jm (.bool false) ?_;refine jnf hD5 1 aA ?_;refine jnf hB0 2 aZ ?_;refine jm (vI k) ?_;refine jv (vI j) (aW _ _ _ _ (by rfl) (k:Int) 1 (j:Int) (by rfl) (by rfl) (by omega) (by omega) (by omega)) ?_;refine jv (vP b2 (off2+j * 2)) (aR Tryz.underlying25 bP _ _ (by rfl) b2 (off2) m cp2 j (by omega) (by rfl) (by rfl) rfl) ?_;refine jn (vP b2 (off2+j * 2+1)) ?_;refine jg (vI p.place) (fun X hX hF=>aP 3 _ (by rfl) b2 (off2+j * 2+1) (by rfl) _ X ((hcp9.below hX hbp) 1 _ rfl) (fun X u h=>aA b2 (off2+j * 2+1) X u h)) ?_;refine bI y.place p.place (by omega) ?_;refine aX (.bool false) (.bool false) (.bool false) ?_
   refine jnf hD5 1 aA ?_;refine bI y.place 0 (by omega) ?_;refine jmm (.bool false) (.bool false) ?_;refine jnf hD5 1 aA ?_;refine jm (.slice A n cp) ?_;refine jv (vI n) (aF Tryz.underlying22 _ (by rfl) A n cp (by rfl) _ rfl) ?_;refine bZ y.place (n:Int) (by omega) ?_;refine jmm (.bool false) (.bool false) ?_;refine jnf hD5 0 aA ?_;refine bI y.day 0 (by omega) ?_;refine jmm (.bool false) (.bool false) ?_;refine jnf hD5 0 aA ?_;refine cD y.day 14609 (by omega) ?_;refine jm (.bool true) ?_
   exact aJ fun X hX _=>bK ⟨⟨rfl,trivial⟩,hX⟩
 ·intro f2 X2 hk9
  obtain ⟨⟨hk2_0,_⟩,hX2⟩:=hk9;simp only [dQ,eC,pX,hk2_0];clear hk2_0;have hSX:=hX2;obtain ⟨hB0,hD5⟩:=bl2 hX2 hB0 hD5;have hb:=aI hb hX2;exact hKt _ _ _ _ _ _ _ _ _ _ _ _ _ _ _ _ _ _ _ _ _ _ _ _ _ _ _ _ _ _ _ _ _ _ _ _ _ _ _ _ _ _ _ _ _ _ _ _ hSX
theorem vd7f (c:Int) (l:List En) (cs:List Cg) (A A2:Option Addr) (n cp m cp2 k g5:Nat) (y:Cg) (w W:World) (p:Cg) (C:Code) (Q:Exit→Act→World→Prop) (hC:nN 7 Tryz.f26=some C) (HRX':∀ X,Since w X→Rd X 13 (.slice A n cp) n (fl enc l)) (HLN':l.length=n) (HRC':∀ X,Since w X→Rd X 2 (.slice A2 m cp2) m (fl clc cs)) (HLM':cs.length=m) (hb:Below w.heap.size w W) (hB0:Blk W w.heap.size 79 [vI c,.slice A n cp,.slice A2 m cp2]) (hD5:Blk W g5 72 [vI y.day,vI y.place]) (hlt:k<m) (hm1:m≤9223372036854775807) (hn1:n≤9223372036854775807) (h7:((0<k→p.day≤y.day∧p.place≤y.place)∧0≤y.place∧y.place≤(n:Int)∧0≤y.day∧y.day≤14609)) (HP':p=cg cs (k-1)) (z0 z2 z6 z7 z8 z9 z10 z11 z12 z13 z14 z15 z16 z17 z18 z19 z20 z21 z22 z23 z24 z25 z26 z27 z28 z29 z30 z31 z32 z33 z34 z35 z36 z37 z38 z39 z40 z41 z42 z43 z44 z45 z46 z47 z48 z49 z50 z51 z52 z53 z54 z55 z56 z57 z58 z59 z60 z61 z62 z63 z64 z65 z66 z67 z68 z69 z70 z71 z72 z73 z74 z75 z76 z77 z78 z79 z80 z81 z82 z83 z84 z85 z86 z87 z88 z89 z90 z91 z92 z93 z94 z95 z96 z97 z98 z99 z100 z101 z102 z103 z104 z105 z106 z107 z108 z109 z110 z111 z112 z113 z114 z115 z116 z117 z118 z119 z120 z121 z122 z123 z124 z125:Value) (hKt:∀ (y30 y31 y32 y33 y34 y35 y36 y37 y38 y39 y40 y41 y42 y43 y44 y45 y46 y47 y48 y49 y50 y51 y52 y53 y54 y55 y56 y57 y58 y59 y60 y61 y62 y63 y64 y65 y66 y67 y68 y69 y70 y71 y72 y73 y74 y75 y76:Value) (X:World),Since W X→Q .normal ⟨#[z0,.pointer (some ⟨w.heap.size,0,none⟩),z2,.slice A n cp,.int .i64 (k:Int),.pointer (some ⟨g5,0,none⟩),z6,z7,z8,z9,z10,z11,z12,z13,z14,z15,z16,z17,z18,z19,z20,z21,z22,z23,z24,z25,z26,z27,z28,z29,y30,y31,y32,y33,y34,y35,y36,y37,y38,y39,y40,y41,y42,y43,y44,y45,y46,y47,y48,y49,y50,y51,y52,y53,y54,y55,y56,y57,y58,y59,y60,y61,y62,y63,y64,y65,y66,y67,y68,y69,y70,y71,y72,y73,y74,y75,y76,.bool false,z78,z79,z80,z81,z82,z83,z84,z85,z86,z87,z88,z89,z90,z91,z92,z93,z94,z95,z96,z97,z98,z99,z100,z101,z102,z103,z104,z105,z106,z107,z108,z109,z110,z111,z112,z113,z114,z115,z116,z117,z118,z119,z120,z121,z122,z123,z124,z125],[]⟩ X):C.wp Tryz.prog Q ⟨#[z0,.pointer (some ⟨w.heap.size,0,none⟩),z2,.slice A n cp,.int .i64 (k:Int),.pointer (some ⟨g5,0,none⟩),z6,z7,z8,z9,z10,z11,z12,z13,z14,z15,z16,z17,z18,z19,z20,z21,z22,z23,z24,z25,z26,z27,z28,z29,z30,z31,z32,z33,z34,z35,z36,z37,z38,z39,z40,z41,z42,z43,z44,z45,z46,z47,z48,z49,z50,z51,z52,z53,z54,z55,z56,z57,z58,z59,z60,z61,z62,z63,z64,z65,z66,z67,z68,z69,z70,z71,z72,z73,z74,z75,z76,z77,z78,z79,z80,z81,z82,z83,z84,z85,z86,z87,z88,z89,z90,z91,z92,z93,z94,z95,z96,z97,z98,z99,z100,z101,z102,z103,z104,z105,z106,z107,z108,z109,z110,z111,z112,z113,z114,z115,z116,z117,z118,z119,z120,z121,z122,z123,z124,z125],[]⟩ W:=by
 have HRX:=Lib.hid HRX';have HLN:=Lib.hid HLN';have HRC:=Lib.hid HRC';have HLM:=Lib.hid HLM';clear HRX' HLN' HRC' HLM';simp only [nN,jI,Tryz.f26,reduceCtorEq,if_true,if_false,Nat.reduceEqDiff,Option.some.injEq] at hC;subst hC;have HP:=Lib.hid HP';clear HP';refine jO [30,31,32,33,34,35,36,37,38,39,40,41,42,43,44,45,46,47,48,49,50,51,52,53,54,55,56,57,58,59,60,61,62,63,64,65,66,67,68,69,70,71,72,73,74,75,76,77] (fun f9 X=>(f9 77=.bool false∧True)∧Since W X) ?_ ?_
 ·rcases Nat.eq_zero_or_pos k with hk0|hk0
  ·have HK0:=Lib.hid hk0
   replace hk0:k≤0:=by omega
   refine jd ?_;refine jm (vI k) ?_;refine bZ (k:Int) 0 (by omega) ?_;refine jm (.bool false) ?_;refine cN ?_;refine cN ?_;refine bR ?_;refine jss ?_;refine jmm (.bool false) (.bool false) ?_;refine jnf hD5 1 aA ?_;refine bI y.place 0 (by omega) ?_;refine jmm (.bool false) (.bool false) ?_;refine jnf hD5 1 aA ?_;refine jm (.slice A n cp) ?_;refine jv (vI n) (aF Tryz.underlying22 _ (by rfl) A n cp (by rfl) _ rfl) ?_;refine bZ y.place (n:Int) (by omega) ?_;refine jmm (.bool false) (.bool false) ?_;refine jnf hD5 0 aA ?_;refine bI y.day 0 (by omega) ?_;refine jmm (.bool false) (.bool false) ?_;refine jnf hD5 0 aA ?_;refine bZ y.day 14609 (by omega) ?_;refine jm (.bool false) ?_
   exact aJ fun X hX _=>bK ⟨⟨rfl,trivial⟩,hX⟩
  ·obtain ⟨j,hj9⟩:∃ j,k=j+1:=⟨k-1,by omega⟩
   have HJ:=Lib.hid hj9
   have hj1:j<k:=by omega
   have hj2:k≤j+1:=by omega
   clear hj9;obtain ⟨b2,off2,hA2,hbp,hcp9⟩:=iL (HRC.out _ hb) HLM.out (k:=j) (by omega);subst hA2;rw [show cg cs j=p by rw [HP.out,HJ.out,Nat.add_sub_cancel]] at hcp9
   change Cl W b2 (off2+j * 2) [vI p.day,vI p.place] at hcp9
   refine jd ?_;refine jm (vI k) ?_;refine cD (k:Int) 0 (by omega) ?_;refine jm (.bool true) ?_;refine jnf hD5 0 aA ?_;refine jnf hB0 2 aZ ?_;refine jm (vI k) ?_;refine jv (vI j) (aW _ _ _ _ (by rfl) (k:Int) 1 (j:Int) (by rfl) (by rfl) (by omega) (by omega) (by omega)) ?_;refine jv (vP b2 (off2+j * 2)) (aR Tryz.underlying25 bP _ _ (by rfl) b2 (off2) m cp2 j (by omega) (by rfl) (by rfl) rfl) ?_;refine jn (vP b2 (off2+j * 2)) ?_;refine jg (vI p.day) (fun X hX hF=>aP 3 _ (by rfl) b2 (off2+j * 2) (by rfl) _ X ((hcp9.below hX hbp) 0 _ rfl) (fun X u h=>aA b2 (off2+j * 2) X u h)) ?_;refine bI y.day p.day (by omega) ?_;refine jm (.bool false) ?_;refine jnf hD5 1 aA ?_;refine jnf hB0 2 aZ ?_;refine jm (vI k) ?_;refine jv (vI j) (aW _ _ _ _ (by rfl) (k:Int) 1 (j:Int) (by rfl) (by rfl) (by omega) (by omega) (by omega)) ?_;refine jv (vP b2 (off2+j * 2)) (aR Tryz.underlying25 bP _ _ (by rfl) b2 (off2) m cp2 j (by omega) (by rfl) (by rfl) rfl) ?_;refine jn (vP b2 (off2+j * 2+1)) ?_;refine jg (vI p.place) (fun X hX hF=>aP 3 _ (by rfl) b2 (off2+j * 2+1) (by rfl) _ X ((hcp9.below hX hbp) 1 _ rfl) (fun X u h=>aA b2 (off2+j * 2+1) X u h)) ?_;refine bI y.place p.place (by omega) ?_;refine aX (.bool false) (.bool false) (.bool false) ?_
   refine jnf hD5 1 aA ?_;refine bI y.place 0 (by omega) ?_;refine jmm (.bool false) (.bool false) ?_;refine jnf hD5 1 aA ?_;refine jm (.slice A n cp) ?_;refine jv (vI n) (aF Tryz.underlying22 _ (by rfl) A n cp (by rfl) _ rfl) ?_;refine bZ y.place (n:Int) (by omega) ?_;refine jmm (.bool false) (.bool false) ?_;refine jnf hD5 0 aA ?_;refine bI y.day 0 (by omega) ?_;refine jmm (.bool false) (.bool false) ?_;refine jnf hD5 0 aA ?_;refine bZ y.day 14609 (by omega) ?_;refine jm (.bool false) ?_
   exact aJ fun X hX _=>bK ⟨⟨rfl,trivial⟩,hX⟩
 ·intro f2 X2 hk9
  obtain ⟨⟨hk2_0,_⟩,hX2⟩:=hk9;simp only [dQ,eC,pX,hk2_0];clear hk2_0;have hSX:=hX2;obtain ⟨hB0,hD5⟩:=bl2 hX2 hB0 hD5;have hb:=aI hb hX2;exact hKt _ _ _ _ _ _ _ _ _ _ _ _ _ _ _ _ _ _ _ _ _ _ _ _ _ _ _ _ _ _ _ _ _ _ _ _ _ _ _ _ _ _ _ _ _ _ _ _ hSX
theorem vd9t (c:Int) (l:List En) (cs:List Cg) (A A2:Option Addr) (n cp m cp2 k g5:Nat) (y:Cg) (w W:World) (q:Nat) (x1 x2:En) (C:Code) (Q:Exit→Act→World→Prop) (hC:nN 9 Tryz.f26=some C) (HRX':∀ X,Since w X→Rd X 13 (.slice A n cp) n (fl enc l)) (HLN':l.length=n) (HRC':∀ X,Since w X→Rd X 2 (.slice A2 m cp2) m (fl clc cs)) (HLM':cs.length=m) (hb:Below w.heap.size w W) (hB0:Blk W w.heap.size 79 [vI c,.slice A n cp,.slice A2 m cp2]) (hD5:Blk W g5 72 [vI y.day,vI y.place]) (hlt:k<m) (hm1:m≤9223372036854775807) (hn1:n≤9223372036854775807) (h9:((0<q∧y.day<x1.day)∨(q<n∧x2.day<y.day))) (HQ':y.place=(q:Int)) (hqn:q≤n) (HX1':x1=en l (q-1)) (HX2':x2=en l q) (z0 z2 z6 z7 z8 z9 z10 z11 z12 z13 z14 z15 z16 z17 z18 z19 z20 z21 z22 z23 z24 z25 z26 z27 z28 z29 z30 z31 z32 z33 z34 z35 z36 z37 z38 z39 z40 z41 z42 z43 z44 z45 z46 z47 z48 z49 z50 z51 z52 z53 z54 z55 z56 z57 z58 z59 z60 z61 z62 z63 z64 z65 z66 z67 z68 z69 z70 z71 z72 z73 z74 z75 z76 z77 z78 z79 z80 z81 z82 z83 z84 z85 z86 z87 z88 z89 z90 z91 z92 z93 z94 z95 z96 z97 z98 z99 z100 z101 z102 z103 z104 z105 z106 z107 z108 z109 z110 z111 z112 z113 z114 z115 z116 z117 z118 z119 z120 z121 z122 z123 z124 z125:Value) (hKt:∀ (y78 y79 y80 y81 y82 y83 y84 y85 y86 y87 y88 y89 y90 y91 y92 y93 y94 y95 y96 y97 y98 y99 y100 y101 y102 y103 y104 y105 y106 y107 y108 y109:Value) (X:World),Since W X→Q .normal ⟨#[z0,.pointer (some ⟨w.heap.size,0,none⟩),z2,.slice A n cp,.int .i64 (k:Int),.pointer (some ⟨g5,0,none⟩),z6,z7,z8,z9,z10,z11,z12,z13,z14,z15,z16,z17,z18,z19,z20,z21,z22,z23,z24,z25,z26,z27,z28,z29,z30,z31,z32,z33,z34,z35,z36,z37,z38,z39,z40,z41,z42,z43,z44,z45,z46,z47,z48,z49,z50,z51,z52,z53,z54,z55,z56,z57,z58,z59,z60,z61,z62,z63,z64,z65,z66,z67,z68,z69,z70,z71,z72,z73,z74,z75,z76,z77,y78,y79,y80,y81,y82,y83,y84,y85,y86,y87,y88,y89,y90,y91,y92,y93,y94,y95,y96,y97,y98,y99,y100,y101,y102,y103,y104,y105,y106,y107,y108,y109,.bool true,z111,z112,z113,z114,z115,z116,z117,z118,z119,z120,z121,z122,z123,z124,z125],[]⟩ X):C.wp Tryz.prog Q ⟨#[z0,.pointer (some ⟨w.heap.size,0,none⟩),z2,.slice A n cp,.int .i64 (k:Int),.pointer (some ⟨g5,0,none⟩),z6,z7,z8,z9,z10,z11,z12,z13,z14,z15,z16,z17,z18,z19,z20,z21,z22,z23,z24,z25,z26,z27,z28,z29,z30,z31,z32,z33,z34,z35,z36,z37,z38,z39,z40,z41,z42,z43,z44,z45,z46,z47,z48,z49,z50,z51,z52,z53,z54,z55,z56,z57,z58,z59,z60,z61,z62,z63,z64,z65,z66,z67,z68,z69,z70,z71,z72,z73,z74,z75,z76,z77,z78,z79,z80,z81,z82,z83,z84,z85,z86,z87,z88,z89,z90,z91,z92,z93,z94,z95,z96,z97,z98,z99,z100,z101,z102,z103,z104,z105,z106,z107,z108,z109,z110,z111,z112,z113,z114,z115,z116,z117,z118,z119,z120,z121,z122,z123,z124,z125],[]⟩ W:=by
 have HRX:=Lib.hid HRX';have HLN:=Lib.hid HLN';have HRC:=Lib.hid HRC';have HLM:=Lib.hid HLM';clear HRX' HLN' HRC' HLM';simp only [nN,jI,Tryz.f26,reduceCtorEq,if_true,if_false,Nat.reduceEqDiff,Option.some.injEq] at hC;subst hC;have HQ:=Lib.hid HQ'
 have hq0:y.place≤(q:Int):=by omega
 have hq1:(q:Int)≤y.place:=by omega
 have HX1:=Lib.hid HX1';have HX2:=Lib.hid HX2';clear HQ' HX1' HX2';refine jO [78,79,80,81,82,83,84,85,86,87,88,89,90,91,92,93,94,95,96,97,98,99,100,101,102,103,104,105,106,107,108,109,110] (fun f9 X=>(f9 110=.bool true∧True)∧Since W X) ?_ ?_
 ·rcases (show (0<q∧y.day<x1.day)∨(q≤0∧q<n∧x2.day<y.day)∨(0<q∧x1.day≤y.day∧q<n∧x2.day<y.day) by omega) with h8|h8|h8
  ·obtain ⟨i,hi9⟩:∃ i,q=i+1:=⟨q-1,by omega⟩
   have HI:=Lib.hid hi9
   have hi1:i<n:=by omega
   have hi2:y.place≤(i:Int)+1:=by omega
   have hi3:(i:Int)+1≤y.place:=by omega
   clear hi9;obtain ⟨be,oe,hAe,hbe,hce⟩:=fL (HRX.out _ hb) HLN.out (k:=i) hi1;subst hAe;rw [show en l i=x1 by rw [HX1.out,HI.out,Nat.add_sub_cancel]] at hce
   change Cl W be (oe+i * 13) (eL x1) at hce
   refine jd ?_;refine jnf hD5 1 aA ?_;refine cD y.place 0 (by omega) ?_;refine jm (.bool true) ?_;refine jnf hD5 0 aA ?_;refine jm (.slice (some ⟨be,oe,none⟩) n cp) ?_;refine jnf hD5 1 aA ?_;refine jv (vI i) (aW _ _ _ _ (by rfl) y.place 1 (i:Int) (by rfl) (by rfl) (by omega) (by omega) (by omega)) ?_;refine jv (vP be (oe+i * 13)) (aR Tryz.underlying22 aL _ _ (by rfl) be (oe) n cp i (by omega) (by rfl) (by rfl) rfl) ?_;refine jn (vP be (oe+i * 13)) ?_;refine jg (vI x1.day) (fun X hX hF=>aP 3 _ (by rfl) be (oe+i * 13) (by rfl) _ X ((hce.below hX hbe) 0 _ rfl) (fun X u h=>aA be (oe+i * 13) X u h)) ?_;refine cE y.day x1.day (by omega) ?_;refine jmm (.bool true) (.bool true) ?_;refine cN ?_;refine cN ?_;refine jm (.bool true) ?_
   exact aJ fun X hX _=>bK ⟨⟨rfl,trivial⟩,hX⟩
  ·obtain ⟨be,oe,hAe,hbe,hcf⟩:=fL (HRX.out _ hb) HLN.out (k:=q) (by omega)
   subst hAe;rw [← HX2.out] at hcf
   change Cl W be (oe+q * 13) (eL x2) at hcf
   refine jd ?_;refine jnf hD5 1 aA ?_;refine bZ y.place 0 (by omega) ?_;refine jm (.bool false) ?_;refine cN ?_;refine jss ?_;refine jmm (.bool false) (.bool false) ?_;refine jnf hD5 1 aA ?_;refine jm (.slice (some ⟨be,oe,none⟩) n cp) ?_;refine jv (vI n) (aF Tryz.underlying22 _ (by rfl) (some ⟨be,oe,none⟩) n cp (by rfl) _ rfl) ?_;refine cE y.place (n:Int) (by omega) ?_;refine jm (.bool true) ?_;refine jnf hD5 0 aA ?_;refine jm (.slice (some ⟨be,oe,none⟩) n cp) ?_;refine jnf hD5 1 aA ?_;refine jv (vP be (oe+q * 13)) (aR Tryz.underlying22 aL _ _ (by rfl) be (oe) n cp q (by omega) (by rfl) (by rfl) HQ.out) ?_;refine jn (vP be (oe+q * 13)) ?_;refine jg (vI x2.day) (fun X hX hF=>aP 3 _ (by rfl) be (oe+q * 13) (by rfl) _ X ((hcf.below hX hbe) 0 _ rfl) (fun X u h=>aA be (oe+q * 13) X u h)) ?_;refine cD y.day x2.day (by omega) ?_;refine jmm (.bool true) (.bool true) ?_
   exact aJ fun X hX _=>bK ⟨⟨rfl,trivial⟩,hX⟩
  ·obtain ⟨i,hi9⟩:∃ i,q=i+1:=⟨q-1,by omega⟩
   have HI:=Lib.hid hi9
   have hi1:i<n:=by omega
   have hi2:y.place≤(i:Int)+1:=by omega
   have hi3:(i:Int)+1≤y.place:=by omega
   clear hi9;obtain ⟨be,oe,hAe,hbe,hce⟩:=fL (HRX.out _ hb) HLN.out (k:=i) hi1;subst hAe;rw [show en l i=x1 by rw [HX1.out,HI.out,Nat.add_sub_cancel]] at hce
   change Cl W be (oe+i * 13) (eL x1) at hce
   obtain ⟨hbf,hcf⟩:=tY (HRX.out _ hb) HLN.out (k:=q) (by omega);rw [← HX2.out] at hcf
   change Cl W be (oe+q * 13) (eL x2) at hcf
   refine jd ?_;refine jnf hD5 1 aA ?_;refine cD y.place 0 (by omega) ?_;refine jm (.bool true) ?_;refine jnf hD5 0 aA ?_;refine jm (.slice (some ⟨be,oe,none⟩) n cp) ?_;refine jnf hD5 1 aA ?_;refine jv (vI i) (aW _ _ _ _ (by rfl) y.place 1 (i:Int) (by rfl) (by rfl) (by omega) (by omega) (by omega)) ?_;refine jv (vP be (oe+i * 13)) (aR Tryz.underlying22 aL _ _ (by rfl) be (oe) n cp i (by omega) (by rfl) (by rfl) rfl) ?_;refine jn (vP be (oe+i * 13)) ?_;refine jg (vI x1.day) (fun X hX hF=>aP 3 _ (by rfl) be (oe+i * 13) (by rfl) _ X ((hce.below hX hbe) 0 _ rfl) (fun X u h=>aA be (oe+i * 13) X u h)) ?_;refine bI y.day x1.day (by omega) ?_;refine jmm (.bool false) (.bool false) ?_;refine jnf hD5 1 aA ?_;refine jm (.slice (some ⟨be,oe,none⟩) n cp) ?_;refine jv (vI n) (aF Tryz.underlying22 _ (by rfl) (some ⟨be,oe,none⟩) n cp (by rfl) _ rfl) ?_;refine cE y.place (n:Int) (by omega) ?_;refine jm (.bool true) ?_;refine jnf hD5 0 aA ?_;refine jm (.slice (some ⟨be,oe,none⟩) n cp) ?_;refine jnf hD5 1 aA ?_;refine jv (vP be (oe+q * 13)) (aR Tryz.underlying22 aL _ _ (by rfl) be (oe) n cp q (by omega) (by rfl) (by rfl) HQ.out) ?_;refine jn (vP be (oe+q * 13)) ?_;refine jg (vI x2.day) (fun X hX hF=>aP 3 _ (by rfl) be (oe+q * 13) (by rfl) _ X ((hcf.below hX hbf) 0 _ rfl) (fun X u h=>aA be (oe+q * 13) X u h)) ?_
   refine cD y.day x2.day (by omega) ?_;refine jmm (.bool true) (.bool true) ?_
   exact aJ fun X hX _=>bK ⟨⟨rfl,trivial⟩,hX⟩
 ·intro f2 X2 hk9
  obtain ⟨⟨hk2_0,_⟩,hX2⟩:=hk9;simp only [dQ,eC,pX,hk2_0];clear hk2_0;have hSX:=hX2;obtain ⟨hB0,hD5⟩:=bl2 hX2 hB0 hD5;have hb:=aI hb hX2;exact hKt _ _ _ _ _ _ _ _ _ _ _ _ _ _ _ _ _ _ _ _ _ _ _ _ _ _ _ _ _ _ _ _ _ hSX
theorem vd9f (c:Int) (l:List En) (cs:List Cg) (A A2:Option Addr) (n cp m cp2 k g5:Nat) (y:Cg) (w W:World) (q:Nat) (x1 x2:En) (C:Code) (Q:Exit→Act→World→Prop) (hC:nN 9 Tryz.f26=some C) (HRX':∀ X,Since w X→Rd X 13 (.slice A n cp) n (fl enc l)) (HLN':l.length=n) (HRC':∀ X,Since w X→Rd X 2 (.slice A2 m cp2) m (fl clc cs)) (HLM':cs.length=m) (hb:Below w.heap.size w W) (hB0:Blk W w.heap.size 79 [vI c,.slice A n cp,.slice A2 m cp2]) (hD5:Blk W g5 72 [vI y.day,vI y.place]) (hlt:k<m) (hm1:m≤9223372036854775807) (hn1:n≤9223372036854775807) (h9:((0<q→x1.day≤y.day)∧(q<n→y.day≤x2.day))) (HQ':y.place=(q:Int)) (hqn:q≤n) (HX1':x1=en l (q-1)) (HX2':x2=en l q) (z0 z2 z6 z7 z8 z9 z10 z11 z12 z13 z14 z15 z16 z17 z18 z19 z20 z21 z22 z23 z24 z25 z26 z27 z28 z29 z30 z31 z32 z33 z34 z35 z36 z37 z38 z39 z40 z41 z42 z43 z44 z45 z46 z47 z48 z49 z50 z51 z52 z53 z54 z55 z56 z57 z58 z59 z60 z61 z62 z63 z64 z65 z66 z67 z68 z69 z70 z71 z72 z73 z74 z75 z76 z77 z78 z79 z80 z81 z82 z83 z84 z85 z86 z87 z88 z89 z90 z91 z92 z93 z94 z95 z96 z97 z98 z99 z100 z101 z102 z103 z104 z105 z106 z107 z108 z109 z110 z111 z112 z113 z114 z115 z116 z117 z118 z119 z120 z121 z122 z123 z124 z125:Value) (hKt:∀ (y78 y79 y80 y81 y82 y83 y84 y85 y86 y87 y88 y89 y90 y91 y92 y93 y94 y95 y96 y97 y98 y99 y100 y101 y102 y103 y104 y105 y106 y107 y108 y109:Value) (X:World),Since W X→Q .normal ⟨#[z0,.pointer (some ⟨w.heap.size,0,none⟩),z2,.slice A n cp,.int .i64 (k:Int),.pointer (some ⟨g5,0,none⟩),z6,z7,z8,z9,z10,z11,z12,z13,z14,z15,z16,z17,z18,z19,z20,z21,z22,z23,z24,z25,z26,z27,z28,z29,z30,z31,z32,z33,z34,z35,z36,z37,z38,z39,z40,z41,z42,z43,z44,z45,z46,z47,z48,z49,z50,z51,z52,z53,z54,z55,z56,z57,z58,z59,z60,z61,z62,z63,z64,z65,z66,z67,z68,z69,z70,z71,z72,z73,z74,z75,z76,z77,y78,y79,y80,y81,y82,y83,y84,y85,y86,y87,y88,y89,y90,y91,y92,y93,y94,y95,y96,y97,y98,y99,y100,y101,y102,y103,y104,y105,y106,y107,y108,y109,.bool false,z111,z112,z113,z114,z115,z116,z117,z118,z119,z120,z121,z122,z123,z124,z125],[]⟩ X):C.wp Tryz.prog Q ⟨#[z0,.pointer (some ⟨w.heap.size,0,none⟩),z2,.slice A n cp,.int .i64 (k:Int),.pointer (some ⟨g5,0,none⟩),z6,z7,z8,z9,z10,z11,z12,z13,z14,z15,z16,z17,z18,z19,z20,z21,z22,z23,z24,z25,z26,z27,z28,z29,z30,z31,z32,z33,z34,z35,z36,z37,z38,z39,z40,z41,z42,z43,z44,z45,z46,z47,z48,z49,z50,z51,z52,z53,z54,z55,z56,z57,z58,z59,z60,z61,z62,z63,z64,z65,z66,z67,z68,z69,z70,z71,z72,z73,z74,z75,z76,z77,z78,z79,z80,z81,z82,z83,z84,z85,z86,z87,z88,z89,z90,z91,z92,z93,z94,z95,z96,z97,z98,z99,z100,z101,z102,z103,z104,z105,z106,z107,z108,z109,z110,z111,z112,z113,z114,z115,z116,z117,z118,z119,z120,z121,z122,z123,z124,z125],[]⟩ W:=by
 have HRX:=Lib.hid HRX';have HLN:=Lib.hid HLN';have HRC:=Lib.hid HRC';have HLM:=Lib.hid HLM';clear HRX' HLN' HRC' HLM';simp only [nN,jI,Tryz.f26,reduceCtorEq,if_true,if_false,Nat.reduceEqDiff,Option.some.injEq] at hC;subst hC;have HQ:=Lib.hid HQ'
 have hq0:y.place≤(q:Int):=by omega
 have hq1:(q:Int)≤y.place:=by omega
 have HX1:=Lib.hid HX1';have HX2:=Lib.hid HX2';clear HQ' HX1' HX2';refine jO [78,79,80,81,82,83,84,85,86,87,88,89,90,91,92,93,94,95,96,97,98,99,100,101,102,103,104,105,106,107,108,109,110] (fun f9 X=>(f9 110=.bool false∧True)∧Since W X) ?_ ?_
 ·rcases (show (q≤0∧n≤q)∨(q≤0∧q<n)∨(0<q∧n≤q)∨(0<q∧q<n) by omega) with h8|h8|h8|h8
  ·refine jd ?_
   refine jnf hD5 1 aA ?_;refine bZ y.place 0 (by omega) ?_;refine jm (.bool false) ?_;refine cN ?_;refine jss ?_;refine jmm (.bool false) (.bool false) ?_;refine jnf hD5 1 aA ?_;refine jm (.slice A n cp) ?_;refine jv (vI n) (aF Tryz.underlying22 _ (by rfl) A n cp (by rfl) _ rfl) ?_;refine bI y.place (n:Int) (by omega) ?_;refine jm (.bool false) ?_;refine cN ?_;refine js ?_;refine jmm (.bool false) (.bool false) ?_
   exact aJ fun X hX _=>bK ⟨⟨rfl,trivial⟩,hX⟩
  ·obtain ⟨be,oe,hAe,hbe,hcf⟩:=fL (HRX.out _ hb) HLN.out (k:=q) (by omega)
   subst hAe;rw [← HX2.out] at hcf
   change Cl W be (oe+q * 13) (eL x2) at hcf
   refine jd ?_;refine jnf hD5 1 aA ?_;refine bZ y.place 0 (by omega) ?_;refine jm (.bool false) ?_;refine cN ?_;refine jss ?_;refine jmm (.bool false) (.bool false) ?_;refine jnf hD5 1 aA ?_;refine jm (.slice (some ⟨be,oe,none⟩) n cp) ?_;refine jv (vI n) (aF Tryz.underlying22 _ (by rfl) (some ⟨be,oe,none⟩) n cp (by rfl) _ rfl) ?_;refine cE y.place (n:Int) (by omega) ?_;refine jm (.bool true) ?_;refine jnf hD5 0 aA ?_;refine jm (.slice (some ⟨be,oe,none⟩) n cp) ?_;refine jnf hD5 1 aA ?_;refine jv (vP be (oe+q * 13)) (aR Tryz.underlying22 aL _ _ (by rfl) be (oe) n cp q (by omega) (by rfl) (by rfl) HQ.out) ?_;refine jn (vP be (oe+q * 13)) ?_;refine jg (vI x2.day) (fun X hX hF=>aP 3 _ (by rfl) be (oe+q * 13) (by rfl) _ X ((hcf.below hX hbe) 0 _ rfl) (fun X u h=>aA be (oe+q * 13) X u h)) ?_;refine bZ y.day x2.day (by omega) ?_;refine jmm (.bool false) (.bool false) ?_
   exact aJ fun X hX _=>bK ⟨⟨rfl,trivial⟩,hX⟩
  ·obtain ⟨i,hi9⟩:∃ i,q=i+1:=⟨q-1,by omega⟩
   have HI:=Lib.hid hi9
   have hi1:i<n:=by omega
   have hi2:y.place≤(i:Int)+1:=by omega
   have hi3:(i:Int)+1≤y.place:=by omega
   clear hi9;obtain ⟨be,oe,hAe,hbe,hce⟩:=fL (HRX.out _ hb) HLN.out (k:=i) hi1;subst hAe;rw [show en l i=x1 by rw [HX1.out,HI.out,Nat.add_sub_cancel]] at hce
   change Cl W be (oe+i * 13) (eL x1) at hce
   refine jd ?_;refine jnf hD5 1 aA ?_;refine cD y.place 0 (by omega) ?_;refine jm (.bool true) ?_;refine jnf hD5 0 aA ?_;refine jm (.slice (some ⟨be,oe,none⟩) n cp) ?_;refine jnf hD5 1 aA ?_;refine jv (vI i) (aW _ _ _ _ (by rfl) y.place 1 (i:Int) (by rfl) (by rfl) (by omega) (by omega) (by omega)) ?_;refine jv (vP be (oe+i * 13)) (aR Tryz.underlying22 aL _ _ (by rfl) be (oe) n cp i (by omega) (by rfl) (by rfl) rfl) ?_;refine jn (vP be (oe+i * 13)) ?_;refine jg (vI x1.day) (fun X hX hF=>aP 3 _ (by rfl) be (oe+i * 13) (by rfl) _ X ((hce.below hX hbe) 0 _ rfl) (fun X u h=>aA be (oe+i * 13) X u h)) ?_;refine bI y.day x1.day (by omega) ?_;refine jmm (.bool false) (.bool false) ?_;refine jnf hD5 1 aA ?_;refine jm (.slice (some ⟨be,oe,none⟩) n cp) ?_;refine jv (vI n) (aF Tryz.underlying22 _ (by rfl) (some ⟨be,oe,none⟩) n cp (by rfl) _ rfl) ?_;refine bI y.place (n:Int) (by omega) ?_;refine jm (.bool false) ?_;refine cN ?_;refine js ?_;refine jmm (.bool false) (.bool false) ?_
   exact aJ fun X hX _=>bK ⟨⟨rfl,trivial⟩,hX⟩
  ·obtain ⟨i,hi9⟩:∃ i,q=i+1:=⟨q-1,by omega⟩
   have HI:=Lib.hid hi9
   have hi1:i<n:=by omega
   have hi2:y.place≤(i:Int)+1:=by omega
   have hi3:(i:Int)+1≤y.place:=by omega
   clear hi9;obtain ⟨be,oe,hAe,hbe,hce⟩:=fL (HRX.out _ hb) HLN.out (k:=i) hi1;subst hAe;rw [show en l i=x1 by rw [HX1.out,HI.out,Nat.add_sub_cancel]] at hce
   change Cl W be (oe+i * 13) (eL x1) at hce
   obtain ⟨hbf,hcf⟩:=tY (HRX.out _ hb) HLN.out (k:=q) (by omega);rw [← HX2.out] at hcf
   change Cl W be (oe+q * 13) (eL x2) at hcf
   refine jd ?_;refine jnf hD5 1 aA ?_;refine cD y.place 0 (by omega) ?_;refine jm (.bool true) ?_;refine jnf hD5 0 aA ?_;refine jm (.slice (some ⟨be,oe,none⟩) n cp) ?_;refine jnf hD5 1 aA ?_;refine jv (vI i) (aW _ _ _ _ (by rfl) y.place 1 (i:Int) (by rfl) (by rfl) (by omega) (by omega) (by omega)) ?_;refine jv (vP be (oe+i * 13)) (aR Tryz.underlying22 aL _ _ (by rfl) be (oe) n cp i (by omega) (by rfl) (by rfl) rfl) ?_;refine jn (vP be (oe+i * 13)) ?_;refine jg (vI x1.day) (fun X hX hF=>aP 3 _ (by rfl) be (oe+i * 13) (by rfl) _ X ((hce.below hX hbe) 0 _ rfl) (fun X u h=>aA be (oe+i * 13) X u h)) ?_;refine bI y.day x1.day (by omega) ?_;refine jmm (.bool false) (.bool false) ?_;refine jnf hD5 1 aA ?_;refine jm (.slice (some ⟨be,oe,none⟩) n cp) ?_;refine jv (vI n) (aF Tryz.underlying22 _ (by rfl) (some ⟨be,oe,none⟩) n cp (by rfl) _ rfl) ?_;refine cE y.place (n:Int) (by omega) ?_;refine jm (.bool true) ?_;refine jnf hD5 0 aA ?_;refine jm (.slice (some ⟨be,oe,none⟩) n cp) ?_;refine jnf hD5 1 aA ?_;refine jv (vP be (oe+q * 13)) (aR Tryz.underlying22 aL _ _ (by rfl) be (oe) n cp q (by omega) (by rfl) (by rfl) HQ.out) ?_;refine jn (vP be (oe+q * 13)) ?_;refine jg (vI x2.day) (fun X hX hF=>aP 3 _ (by rfl) be (oe+q * 13) (by rfl) _ X ((hcf.below hX hbf) 0 _ rfl) (fun X u h=>aA be (oe+q * 13) X u h)) ?_
   refine bZ y.day x2.day (by omega) ?_;refine jmm (.bool false) (.bool false) ?_
   exact aJ fun X hX _=>bK ⟨⟨rfl,trivial⟩,hX⟩
 ·intro f2 X2 hk9
  obtain ⟨⟨hk2_0,_⟩,hX2⟩:=hk9;simp only [dQ,eC,pX,hk2_0];clear hk2_0;have hSX:=hX2;obtain ⟨hB0,hD5⟩:=bl2 hX2 hB0 hD5;have hb:=aI hb hX2;exact hKt _ _ _ _ _ _ _ _ _ _ _ _ _ _ _ _ _ _ _ _ _ _ _ _ _ _ _ _ _ _ _ _ _ hSX
end Go.Proofs.YtjkfchehkpmhkaaGreatDoor

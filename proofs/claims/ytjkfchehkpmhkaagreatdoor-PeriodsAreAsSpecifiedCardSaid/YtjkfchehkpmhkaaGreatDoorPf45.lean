/- period: Figure, Close. -/
import Derived.Test.YtjkfchehkpmhkaaGreatDoorPe45
import Derived.Test.YtjkfchehkpmhkaaGreatDoorLp
set_option linter.unusedSimpArgs false
set_option linter.unusedVariables false
set_option maxRecDepth 100000
set_option maxHeartbeats 1600000
namespace Go.Proofs.YtjkfchehkpmhkaaGreatDoor
open Go.RowKit
theorem tR {f:Operand→Value} {o:Oper} (x y:Operand) (ho:o.op=.store 25 x y) (g j:Nat) {A:Option Addr} {n c:Nat} (hx:f x=vP g j) (hy:f y=.slice A n c) (u:Value) (X:World) (hc:X.cell? ⟨g,j,none⟩=some u) (hf:X.frozen? ⟨g,j,none⟩=false) :
  (execOp f o).run Tryz.prog X=.ok .skip (X.setCell ⟨g,j,none⟩ (.slice A n c)):=by
 unfold execOp
 simp only [ho,hx,hy]
 go_simp
theorem mD:(Tryz.prog.info? 72).map (fun i=>(i.zero,i.size,i.bytes))=some (some (.agg #[vI 0,vI 0]),2,16):=by kernel_rfl
theorem tO (l:List Cg) (x:Cg):fl clc l++clc x=fl clc (l++[x]):=by simp [fl]
theorem sB {c:Int} {l:List En} {cs:List Cg} {p a d:Int} (h:fK c l cs p a d≠0):gF c l cs p a d=0∧gG c l cs p a d=0∧mG c l cs p a d=false:=by
 unfold gF gG mG
 rw [if_neg h,if_neg h,if_neg h];exact ⟨rfl,rfl,rfl⟩
theorem vF {c:Int} {l:List En} {cs:List Cg} {p a d:Int} (h:fK c l cs p a d=0):gF c l cs p a d=knw l p a d∧gG c l cs p a d=dR (gU cs p d) (frz l p a d)∧mG c l cs p a d=gU cs p d:=by
 unfold gF gG mG dR
 rw [if_pos h,if_pos h,if_pos h];exact ⟨rfl,rfl,rfl⟩
set_option maxHeartbeats 8000000 in
theorem fgrC (B:Nat) (c:Int) (v z:Value) (l:List En) (cs:List Cg) (p a d:Int) (w:World) (hv:Es l v w) (hz:Cs B cs z w) (hs1:Hid (Sz45 l)):Calls Tryz.prog 16 #[.agg #[vI c,v,z],vI p,vI a,vI d] w fun e w'=>e=.returned (.tuple #[.agg #[.bool (rN (gF c l cs p a d)),vS (rP (gF c l cs p a d)),vS (rD (gF c l cs p a d)),.bool (rN (gG c l cs p a d)),vS (rP (gG c l cs p a d)),vS (rD (gG c l cs p a d)),.bool (mG c l cs p a d)],vI (fK c l cs p a d)])∧Since w w':=by
 have hs:Hid (∀ k,tz (en l k).am.2.1 (en l k).am.2.2 1000000):=fun k=>(hs1.out.1 k).mono (by decide)
 obtain ⟨A,n,cp,A2,m,cp2,rfl,rfl,hln,hn1,hlm,hm1,HRX,HLN,HES,HCS,HRC,HLM⟩:=eU hv hz;clear hv hz;obtain ⟨z0,z09⟩:∃ z,peE c l cs=z:=⟨_,rfl⟩;have HZ:=Lib.hid z09;clear z09
 go_enter Tryz.func16,Tryz.ntmps16
 go_upto_region 1 with fail;obtain ⟨W0,hW0,hB0,hB1,hb⟩:=cV w 27 55 [vI c,.slice A n cp,.slice A2 m cp2] [.bool false,.string ⟨#[]⟩,.string ⟨#[]⟩,.bool false,.string ⟨#[]⟩,.string ⟨#[]⟩,.bool false];rw [← hW0];clear hW0;refine jp ?_;refine ja hB0 Tryz.underlying27 (by rfl) aK ?_;refine jc (vI z0) (fun X hX hF=>mo (sZ B c _ _ l cs X (HES.out X (Since.next hb hX)) (HCS.out X (Since.next hb hX)) hs) (by rw [HZ.out])) ?_;refine jm (vI z0) ?_;refine aN hb hB0 hB1 fun X1 hX1 hb hB0 hB1=>?_
 by_cases hz0:z0=0
 ·have HC:Hid (peE c l cs=0):=HZ.out.trans hz0
  have HZ0:=Lib.hid hz0;clear hz0;go_upto_region 2 with fail;refine jp ?_;refine jm (vI z0) ?_;refine jv (.bool false) (bA _ _ _ _ (by rfl) .i64 z0 0 (by rfl) (by rfl) false (by rw [HZ0.out];rfl)) ?_;refine aN hb hB0 hB1 fun X2 hX2 hb hB0 hB1=>?_;obtain ⟨k0,k09⟩:∃ z,eA c p a d=z:=⟨_,rfl⟩;have HK9:=Lib.hid k09;clear k09;go_upto_region 4 with fail;refine jp ?_;refine ja hB0 Tryz.underlying27 (by rfl) aK ?_;refine aX (vI p) (vI a) (vI d) ?_;refine jc (vI k0) (fun X hX hF=>mo (qYa c _ _ p a d X) (by rw [HK9.out])) ?_;refine jm (vI k0) ?_;refine aN hb hB0 hB1 fun X3 hX3 hb hB0 hB1=>?_
  by_cases hk0:k0=0
  ·have HA:Hid (eA c p a d=0):=HK9.out.trans hk0
   have HKZ:=Lib.hid hk0;clear hk0
   have HE:Hid (fK c l cs p a d=0):=by
    show _=_
    unfold fK
    rw [HC.out,if_neg (by decide),HA.out]
   have hp0:0≤p:=(fS HA.out).1;have HK:Hid (Ok44 c l):=(peE_ok.1 HC.out).ac;obtain ⟨q1,q2,q3⟩:=vF HE.out;have HQ1:=Lib.hid q1;have HQ2:=Lib.hid q2;have HQ3:=Lib.hid q3;clear q1 q2 q3;obtain ⟨K0,hK0⟩:∃ z,knw l p a d=z:=⟨_,rfl⟩;obtain ⟨F0,hF0⟩:∃ z,dR (gU cs p d) (frz l p a d)=z:=⟨_,rfl⟩;obtain ⟨C0,hC0⟩:∃ z,gU cs p d=z:=⟨_,rfl⟩;have HK0:=Lib.hid hK0;have HF0:=Lib.hid hF0;have HC0:=Lib.hid hC0;clear hK0 hF0 hC0;go_upto_region 5 with fail;refine jp ?_;refine jm (vI k0) ?_;refine jv (.bool false) (bA _ _ _ _ (by rfl) .i64 k0 0 (by rfl) (by rfl) false (by rw [HKZ.out];rfl)) ?_;refine aN hb hB0 hB1 fun X4 hX4 hb hB0 hB1=>?_;go_upto_region 7 with fail;refine jq 5 ?_;refine ja hB0 Tryz.underlying27 (by rfl) aK ?_;refine aX (vI p) (vI a) (vI d) ?_;refine jc (.agg #[.bool (rN K0),st (rP K0),st (rD K0),.bool (rN F0),st (rP F0),st (rD F0),.bool C0]) (fun X hX hF=>mo (vQy B c _ _ l cs p a d X (HES.out X (Since.next hb hX)) (HCS.out X (Since.next hb hX)) hs1 HK hp0) (by rw [HF0.out,HK0.out,HC0.out])) ?_;refine aN hb hB0 hB1 fun X5 hX5 hb hB0 hB1=>?_;refine osb 55 8 31 (w.heap.size+1) 55 hB1 [.bool (rN K0),vS (rP K0),vS (rD K0),.bool (rN F0),vS (rP F0),vS (rD F0),.bool C0] dY ?_;intro w9 hR9 hO9 hB9 hs9;have hb9:=hB9 _ _ hb (by omega);have hB0:=hO9 _ _ _ (by omega) hB0;clear hO9 hB9
   go_wp2
   refine bQ (v:=vI 0) rfl rfl (by rfl) (by rfl) Tryz.underlying55 rfl hR9 dY ⟨by rw [HE.out,HQ1.out,HQ2.out,HQ3.out,HF0.out,HK0.out,HC0.out],hb9⟩
  ·have HA:=HK9
   have HE:Hid (fK c l cs p a d=k0):=by
    show _=_
    unfold fK
    rw [HC.out,if_neg (by decide),HA.out]
   go_upto_region 5 with fail;refine jp ?_;refine jm (vI k0) ?_;refine jv (.bool true) (bA _ _ _ _ (by rfl) .i64 k0 0 (by rfl) (by rfl) true (by rw [decide_eq_false (by omega)];rfl)) ?_;refine aN hb hB0 hB1 fun X4 hX4 hb hB0 hB1=>?_;obtain ⟨q1,q2,q3⟩:=sB (c:=c) (l:=l) (cs:=cs) (p:=p) (a:=a) (d:=d) (by rw [HE.out];exact hk0);have HQ1:=Lib.hid q1;have HQ2:=Lib.hid q2;have HQ3:=Lib.hid q3;clear q1 q2 q3;go_upto_region 6 with fail;refine jq 2 ?_;refine jn (.agg #[.bool false,.string ⟨#[]⟩,.string ⟨#[]⟩,.bool false,.string ⟨#[]⟩,.string ⟨#[]⟩,.bool false]) ?_;refine jm (vI k0) ?_;refine aN hb hB0 hB1 fun X5 hX5 hb hB0 hB1=>?_;refine osb 55 8 25 (w.heap.size+1) 55 hB1 [.bool false,.string ⟨#[]⟩,.string ⟨#[]⟩,.bool false,.string ⟨#[]⟩,.string ⟨#[]⟩,.bool false] dY ?_;intro w9 hR9 hO9 hB9 hs9;have hb9:=hB9 _ _ hb (by omega);have hB0:=hO9 _ _ _ (by omega) hB0;clear hO9 hB9
   go_wp2
   refine bQ (v:=vI k0) rfl rfl (by rfl) (by rfl) Tryz.underlying55 rfl hR9 dY ⟨by rw [HE.out,HQ1.out,HQ2.out,HQ3.out];rfl,hb9⟩
 ·have HE:Hid (fK c l cs p a d=z0):=by
   show _=_
   unfold fK
   rw [HZ.out,if_pos hz0]
  go_upto_region 2 with fail;refine jp ?_;refine jm (vI z0) ?_;refine jv (.bool true) (bA _ _ _ _ (by rfl) .i64 z0 0 (by rfl) (by rfl) true (by rw [decide_eq_false (by omega)];rfl)) ?_;refine aN hb hB0 hB1 fun X2 hX2 hb hB0 hB1=>?_;obtain ⟨q1,q2,q3⟩:=sB (c:=c) (l:=l) (cs:=cs) (p:=p) (a:=a) (d:=d) (by rw [HE.out];exact hz0);have HQ1:=Lib.hid q1;have HQ2:=Lib.hid q2;have HQ3:=Lib.hid q3;clear q1 q2 q3;go_upto_region 3 with fail;refine jq 2 ?_;refine jn (.agg #[.bool false,.string ⟨#[]⟩,.string ⟨#[]⟩,.bool false,.string ⟨#[]⟩,.string ⟨#[]⟩,.bool false]) ?_;refine jm (vI z0) ?_;refine aN hb hB0 hB1 fun X3 hX3 hb hB0 hB1=>?_;refine osb 55 8 16 (w.heap.size+1) 55 hB1 [.bool false,.string ⟨#[]⟩,.string ⟨#[]⟩,.bool false,.string ⟨#[]⟩,.string ⟨#[]⟩,.bool false] dY ?_;intro w9 hR9 hO9 hB9 hs9;have hb9:=hB9 _ _ hb (by omega);have hB0:=hO9 _ _ _ (by omega) hB0;clear hO9 hB9
  go_wp2
  refine bQ (v:=vI z0) rfl rfl (by rfl) (by rfl) Tryz.underlying55 rfl hR9 dY ⟨by rw [HE.out,HQ1.out,HQ2.out,HQ3.out];rfl,hb9⟩
def cY {α:Type} (e:Int) (l:List α):List α:=if e=0 then l else []
set_option maxHeartbeats 8000000 in
theorem clsC (B:Nat) (c:Int) (v z:Value) (l:List En) (cs:List Cg) (d:Int) (w:World) (hv:Es l v w) (hz:Cs B cs z w) (hs:Hid (∀ k,tz (en l k).am.2.1 (en l k).am.2.2 1000000)):Calls Tryz.prog 14 #[.agg #[vI c,v,z],vI d] w fun e w'=>∃ u,e=.returned u∧Tp (Prs B (ifz (cO c l cs d) c) (cY (cO c l cs d) l) (eS c l cs d)) (cO c l cs d) u w'∧Since w w':=by
 obtain ⟨A,n,cp,A2,m,cp2,rfl,rfl,hln,hn1,hlm,hm1,HRX,HLN,HES,HCS,HRC,HLM⟩:=eU hv hz;clear hv hz;obtain ⟨z0,z09⟩:∃ z,peE c l cs=z:=⟨_,rfl⟩;have HZ:=Lib.hid z09;clear z09
 go_enter Tryz.func14,Tryz.ntmps14
 go_upto_region 1 with fail;obtain ⟨W0,hW0,hB0,hB1,hb⟩:=cV w 27 27 [vI c,.slice A n cp,.slice A2 m cp2] [vI 0,.slice none 0 0,.slice none 0 0];rw [← hW0];clear hW0;refine jp ?_;refine ja hB0 Tryz.underlying27 (by rfl) aK ?_;refine jc (vI z0) (fun X hX hF=>mo (sZ B c _ _ l cs X (HES.out X (Since.next hb hX)) (HCS.out X (Since.next hb hX)) hs) (by rw [HZ.out])) ?_;refine jm (vI z0) ?_;refine aN hb hB0 hB1 fun X1 hX1 hb hB0 hB1=>?_
 by_cases hz0:z0=0
 ·have HC:Hid (peE c l cs=0):=HZ.out.trans hz0
  have HZ0:=Lib.hid hz0;clear hz0;go_upto_region 2 with fail;refine jp ?_;refine jm (vI z0) ?_;refine jv (.bool false) (bA _ _ _ _ (by rfl) .i64 z0 0 (by rfl) (by rfl) false (by rw [HZ0.out];rfl)) ?_;refine aN hb hB0 hB1 fun X2 hX2 hb hB0 hB1=>?_
  rcases (show (d<0∨14609<d)∨(0≤d∧d≤14609) by omega) with h|h
  ·have HD:Hid ((decide (0≤d) && decide (d≤14609))=false):=by
    show _=_
    rcases h with h9|h9
    ·rw [decide_eq_false (show ¬ 0≤d by omega)];rfl
    ·rw [decide_eq_false (show ¬ d≤14609 by omega),Bool.and_false]
   have HE:Hid (cO c l cs d=3):=by
    show _=_
    unfold cO
    rw [HC.out,if_neg (by decide),if_pos h]
   go_upto_region 4 with fail;refine jp ?_;refine jm (vI d) ?_;refine jc (.bool false) (fun X hX hF=>mo (yJ d X) (by rw [HD.out])) ?_;refine jmm (.bool true) (.bool true) ?_;refine aN hb hB0 hB1 fun X3 hX3 hb hB0 hB1=>?_
   have HL:Hid (eS c l cs d=[]):=by
    show _=_
    unfold eS
    rw [HE.out,if_neg (by decide)]
   have HI:Hid (cY (cO c l cs d) l=[]):=by
    show _=_
    unfold cY
    rw [HE.out,if_neg (by decide)]
   have HJ:Hid (ifz (cO c l cs d) c=0):=by
    show _=_
    unfold ifz
    rw [HE.out,if_neg (by decide)]
   go_upto_region 5 with fail;refine jq 1 ?_;refine jn (.agg #[vI 0,.slice none 0 0,.slice none 0 0]) ?_;refine aN hb hB0 hB1 fun X4 hX4 hb hB0 hB1=>?_;refine osb 27 4 17 (w.heap.size+1) 27 hB1 [vI 0,.slice none 0 0,.slice none 0 0] aK ?_;intro w9 hR9 hO9 hB9 hs9;have hb9:=hB9 _ _ hb (by omega);have hB0:=hO9 _ _ _ (by omega) hB0;clear hO9 hB9
   go_wp2
   refine bQ (v:=vI 3) rfl rfl (by rfl) (by rfl) Tryz.underlying27 rfl hR9 aK ⟨_,rfl,⟨_,by rw [HE.out],by rw [HJ.out,HI.out,HL.out];exact ⟨_,_,rfl,dV _,dW _ _⟩⟩,hb9⟩
  ·have hd:=h
   clear h
   have HD:Hid ((decide (0≤d) && decide (d≤14609))=true):=by
    show _=_
    rw [decide_eq_true hd.1,decide_eq_true hd.2];rfl
   obtain ⟨st9,st99⟩:∃ z,stl l cs d=z:=⟨_,rfl⟩;have HST:=Lib.hid st99;clear st99;go_upto_region 4 with fail;refine jp ?_;refine jm (vI d) ?_;refine jc (.bool true) (fun X hX hF=>mo (yJ d X) (by rw [HD.out])) ?_;refine jmm (.bool false) (.bool false) ?_;refine aN hb hB0 hB1 fun X3 hX3 hb hB0 hB1=>?_;go_upto_region 6 with fail
   rcases st9 with _|_
   ·skip
    refine jp ?_;refine ja hB0 Tryz.underlying27 (by rfl) aK ?_;refine jm (vI d) ?_;refine jc (.bool false) (fun X hX hF=>mo (qYp B c _ _ l cs d X (HES.out X (Since.next hb hX)) (HCS.out X (Since.next hb hX))) (by rw [HST.out])) ?_;refine jm (.bool false) ?_;refine aN hb hB0 hB1 fun X4 hX4 hb hB0 hB1=>?_
    by_cases hn:cs.length=4000
    ·have HE:Hid (cO c l cs d=2):=by
      show _=_
      unfold cO
      rw [HC.out,if_neg (by decide),if_neg (by omega),if_neg (by rw [HST.out];decide),if_pos hn]
     have HM4:Hid (m=4000):=by show _=_;rw [← HLM.out];exact hn
     clear hn;go_upto_region 8 with fail;refine jp ?_;refine jnf hB0 2 aZ ?_;refine jv (vI m) (aF Tryz.underlying25 _ (by rfl) A2 m cp2 (by rfl) _ rfl) ?_;refine dA (m:Int) 4000 (by rw [HM4.out];rfl) ?_;refine jm (.bool true) ?_;refine aN hb hB0 hB1 fun X5 hX5 hb hB0 hB1=>?_
     have HL:Hid (eS c l cs d=[]):=by
      show _=_
      unfold eS
      rw [HE.out,if_neg (by decide)]
     have HI:Hid (cY (cO c l cs d) l=[]):=by
      show _=_
      unfold cY
      rw [HE.out,if_neg (by decide)]
     have HJ:Hid (ifz (cO c l cs d) c=0):=by
      show _=_
      unfold ifz
      rw [HE.out,if_neg (by decide)]
     go_upto_region 9 with fail;refine jq 1 ?_;refine jn (.agg #[vI 0,.slice none 0 0,.slice none 0 0]) ?_;refine aN hb hB0 hB1 fun X6 hX6 hb hB0 hB1=>?_;refine osb 27 4 28 (w.heap.size+1) 27 hB1 [vI 0,.slice none 0 0,.slice none 0 0] aK ?_;intro w9 hR9 hO9 hB9 hs9;have hb9:=hB9 _ _ hb (by omega);have hB0:=hO9 _ _ _ (by omega) hB0;clear hO9 hB9
     go_wp2
     refine bQ (v:=vI 2) rfl rfl (by rfl) (by rfl) Tryz.underlying27 rfl hR9 aK ⟨_,rfl,⟨_,by rw [HE.out],by rw [HJ.out,HI.out,HL.out];exact ⟨_,_,rfl,dV _,dW _ _⟩⟩,hb9⟩
    ·have HE:Hid (cO c l cs d=0):=by
      show _=_
      unfold cO
      rw [HC.out,if_neg (by decide),if_neg (by omega),if_neg (by rw [HST.out];decide),if_neg hn]
     have HL:Hid (eS c l cs d=cs++[⟨d,(l.length:Int)⟩]):=by
      show _=_
      unfold eS
      rw [if_pos HE.out]
     have HI:Hid (cY (cO c l cs d) l=l):=by
      show _=_
      unfold cY
      rw [if_pos HE.out]
     have HJ:Hid (ifz (cO c l cs d) c=c):=by
      show _=_
      unfold ifz
      rw [if_pos HE.out]
     have hf4:=(peE_ok.1 HC.out).few;rw [HLM.out] at hn hf4;go_upto_region 8 with fail;refine jp ?_;refine jnf hB0 2 aZ ?_;refine jv (vI m) (aF Tryz.underlying25 _ (by rfl) A2 m cp2 (by rfl) _ rfl) ?_;refine dN (m:Int) 4000 (by omega) ?_;refine jm (.bool false) ?_;refine aN hb hB0 hB1 fun X5 hX5 hb hB0 hB1=>?_
     have hlX:(fl clc cs).length=m * 2:=by rw [xK,HLM.out]
     have hgw2:=hB1.lt;go_upto_region 10 with fail;refine rU 11 [some (fun v _=>(fun v=>∃ g,v=.slice (some ⟨g,0,none⟩) 0 0) v),none,none,some (lM (Pcp X5.heap.size 72 2 m (fl clc cs))),none,none,none,none,none,none,some (lM (fun v X=>∃ g,v=.slice (some ⟨g,0,none⟩) 1 1∧Blk X g 72 [vI d,vI n])),some (zI (fun v X=>X.ownsRow X5.heap.size 72 2 v (m+1) ((fl clc cs)++[vI d,vI n])))] (by kernel_rfl) (by kernel_rfl) (by kernel_rfl) rfl (uX (dD (dD (mZ (Pcp.lasts _ _ _ _ _) (dD (dD (dD (dD (dD (dD (mZ (fun _ _ _ ⟨g,h1,h2⟩ hS=>⟨g,h1,h2.bel hS⟩) (uZ (S0:=fun v X=>X.ownsRow X5.heap.size 72 2 v (m+1) ((fl clc cs)++[vI d,vI n])) (fun _ _ _ h hS=>cH h hS) (uY))))))))))))) ?_;simp only [iB,List.dropLast,Nat.reduceAdd];refine qQp (fun v=>∃ g,v=.slice (some ⟨g,0,none⟩) 0 0) (fun X hX hF=>⟨_,_,vXr 72 (by unfold execOp;go_simp),⟨_,rfl⟩,bL X _⟩) (Nat.le_refl _) fun v29=>?_;simp only [pX];refine pg (vP w.heap.size 2) (fun X hX hF=>by (unfold execOp;go_simp)) ?_;simp only [pX];refine pg (.slice A2 m cp2) (fun X hX hF=>aP 25 _ (by rfl) w.heap.size 2 (by rfl) _ X ((hB0.bel hX).cell (j:=2) rfl) (fun X u h=>aZ w.heap.size 2 X u h)) ?_;simp only [pX]
     refine yG (Pcp X5.heap.size 72 2 m (fl clc cs)) (fun X hX hF=>by
      obtain ⟨_,g9,h9⟩:=hF _ _ List.mem_cons_self rfl;obtain ⟨v',X',h1,h2,h3⟩:=jR (P:=Tryz.prog) X _ _ 72 _ 2 16 Tryz.underlying25 mD rfl (by decide) g9 _ m (fl clc cs) (HRC.out X (Since.next hb hX)) (by omega) (by unfold maxLen;omega);refine ⟨v',X',gN _ _ _ (by rfl) (show _=.slice (some ⟨g9,0,none⟩) 0 0 from h9) (by rfl) h1,?_,h3⟩
      rcases h2 with ⟨h4,h5⟩|h4
      ·exact .inl ⟨h4,g9,h5⟩
      ·exact .inr (fC h4 hX.size)) (Nat.le_refl _) fun v32=>?_
     simp only [pX];refine pg (vI d) (fun X hX hF=>by rfl) ?_;simp only [pX];refine pg (vP w.heap.size 0) (fun X hX hF=>by (unfold execOp;go_simp)) ?_;simp only [pX];refine pg (vP w.heap.size 1) (fun X hX hF=>by (unfold execOp;go_simp)) ?_;simp only [pX];refine pg (.slice A n cp) (fun X hX hF=>aP 22 _ (by rfl) w.heap.size 1 (by rfl) _ X ((hB0.bel hX).cell (j:=1) rfl) (fun X u h=>aO w.heap.size 1 X u h)) ?_;simp only [pX];refine pg (vI n) (fun X hX hF=>aF Tryz.underlying22 _ (by rfl) A n cp (by rfl) _ rfl X) ?_;simp only [pX];refine pg (.agg #[vI d,vI n]) (fun X hX hF=>by (unfold execOp;go_simp)) ?_;simp only [pX];refine yG (fun v X=>∃ g,v=.slice (some ⟨g,0,none⟩) 1 1∧Blk X g 72 [vI d,vI n]) (fun X hX hF=>⟨_,_,vXq 72 [vI d,vI n] (by unfold execOp;go_simp),⟨_,rfl,Blk.new rfl⟩,bL X _⟩) (Nat.le_refl _) fun v39=>?_;simp only [pX];refine pap (hw:=?hw9) (fun v X=>X.ownsRow X5.heap.size 72 2 v (m+1) ((fl clc cs)++[vI d,vI n])) ?hr9 ?_
     case hw9=>rfl
     case hr9 =>
      intro X hX hF;have h8:=hF _ (lM (Pcp X5.heap.size 72 2 m (fl clc cs)) v32) (List.mem_cons_of_mem _ List.mem_cons_self) rfl rfl;obtain ⟨g9,h9,h7⟩:=hF _ (lM (fun v X=>∃ g,v=.slice (some ⟨g,0,none⟩) 1 1∧Blk X g 72 [vI d,vI n]) v39) List.mem_cons_self rfl rfl;obtain ⟨v',X',h1,h2,h3⟩:=jQ (P:=Tryz.prog) X X5.heap.size _ _ 72 _ 2 16 Tryz.underlying25 mD rfl (by decide) h8 (hlX) h7 rfl (al2 rfl rfl) (by omega) (by unfold maxLen;omega) hX.size;exact ⟨v',X',gN _ _ _ (by rfl) (by rfl) (show _=.slice (some ⟨g9,0,none⟩) 1 1 from h9) h1,h2,h3⟩
     intro v40;simp only [pX];refine pg (vP w.heap.size 2) (fun X hX hF=>by (unfold execOp;go_simp)) ?_;simp only [pX];refine pz ?_;intro X6 hX hF;obtain ⟨_,_,hO40⟩:=hF _ _ List.mem_cons_self;replace hO40:X6.ownsRow X5.heap.size 72 2 v40 (m+1) ((fl clc cs)++[vI d,vI n]):=hO40;obtain ⟨hB0,hB1⟩:=bl2 hX hB0 hB1;have hb:=aI hb hX;clear hF hX;obtain ⟨A6,c6,rfl,_,_⟩:=(Rd.of_own hO40).form;have hOw:=hO40;clear hO40;refine cB rfl w.heap.size 2 27 _ hB0 (.slice A6 (m+1) c6) (by simp) (fun X u h1 h2=>tR _ _ (by rfl) _ _ (by rfl) (by rfl) u X h1 h2) ?_;intro w10 hR9 hG9;have hb:=aV hG9 hb hb.size (by omega);replace hB1:=aE hG9 hB1 (by omega);have hOw:=eD hOw hG9 (fun g h h9=>by injection h with h;have h8:=(dG hOw _ h9).1;omega);have hB0:=hR9;clear hR9 hG9;refine wpList_nil ?_;go_upto_region 11 with fail;refine jq 1 ?_;refine ja hB0 Tryz.underlying27 (by rfl) aK ?_;refine aN hb hB0 hB1 fun X7 hX7 hb hB0 hB1=>?_;replace hOw:=cH hOw hX7;refine bG rfl 27 (.tmp 4) (.tmp 42) rfl (w.heap.size+1) 27 _ hB1 rfl [vI c,.slice A n cp,.slice A6 (m+1) c6] rfl (by rfl) (al3 rfl rfl rfl) aK ?_;intro w9 hR9 hG9;have hb:=aV hG9 hb hb.size (by omega);have hOw:=eD hOw hG9 (fun g h h9=>by injection h with h;have h8:=(dG hOw _ h9).1;omega);have hES9:=HES.out _ hb
     go_wp2
     refine bQ (v:=vI 0) rfl rfl (by rfl) (by rfl) Tryz.underlying27 rfl hR9 aK ⟨_,rfl,⟨_,by rw [HE.out],by rw [HJ.out,HI.out,HL.out];exact ⟨_,_,rfl,hES9,qXr (by rw [← tO];show World.ownsRow _ _ _ _ _ _ (fl clc cs++[vI d,vI (l.length:Int)]);rw [HLN.out];exact hOw) (by rw [List.length_append,HLM.out];rfl)⟩⟩,hb⟩
   ·skip
    refine jp ?_;refine ja hB0 Tryz.underlying27 (by rfl) aK ?_;refine jm (vI d) ?_;refine jc (.bool true) (fun X hX hF=>mo (qYp B c _ _ l cs d X (HES.out X (Since.next hb hX)) (HCS.out X (Since.next hb hX))) (by rw [HST.out])) ?_;refine jm (.bool true) ?_;refine aN hb hB0 hB1 fun X4 hX4 hb hB0 hB1=>?_
    have HE:Hid (cO c l cs d=15):=by
     show _=_
     unfold cO
     rw [HC.out,if_neg (by decide),if_neg (by omega),if_pos HST.out]
    have HL:Hid (eS c l cs d=[]):=by
     show _=_
     unfold eS
     rw [HE.out,if_neg (by decide)]
    have HI:Hid (cY (cO c l cs d) l=[]):=by
     show _=_
     unfold cY
     rw [HE.out,if_neg (by decide)]
    have HJ:Hid (ifz (cO c l cs d) c=0):=by
     show _=_
     unfold ifz
     rw [HE.out,if_neg (by decide)]
    go_upto_region 7 with fail;refine jq 1 ?_;refine jn (.agg #[vI 0,.slice none 0 0,.slice none 0 0]) ?_;refine aN hb hB0 hB1 fun X5 hX5 hb hB0 hB1=>?_;refine osb 27 4 22 (w.heap.size+1) 27 hB1 [vI 0,.slice none 0 0,.slice none 0 0] aK ?_;intro w9 hR9 hO9 hB9 hs9;have hb9:=hB9 _ _ hb (by omega);have hB0:=hO9 _ _ _ (by omega) hB0;clear hO9 hB9
    go_wp2
    refine bQ (v:=vI 15) rfl rfl (by rfl) (by rfl) Tryz.underlying27 rfl hR9 aK ⟨_,rfl,⟨_,by rw [HE.out],by rw [HJ.out,HI.out,HL.out];exact ⟨_,_,rfl,dV _,dW _ _⟩⟩,hb9⟩
 ·have HE:Hid (cO c l cs d=z0):=by
   show _=_
   unfold cO
   rw [HZ.out,if_pos hz0]
  go_upto_region 2 with fail;refine jp ?_;refine jm (vI z0) ?_;refine jv (.bool true) (bA _ _ _ _ (by rfl) .i64 z0 0 (by rfl) (by rfl) true (by rw [decide_eq_false (by omega)];rfl)) ?_;refine aN hb hB0 hB1 fun X2 hX2 hb hB0 hB1=>?_
  have HL:Hid (eS c l cs d=[]):=by
   show _=_
   unfold eS
   rw [HE.out,if_neg hz0]
  have HI:Hid (cY (cO c l cs d) l=[]):=by
   show _=_
   unfold cY
   rw [HE.out,if_neg hz0]
  have HJ:Hid (ifz (cO c l cs d) c=0):=by
   show _=_
   unfold ifz
   rw [HE.out,if_neg hz0]
  go_upto_region 3 with fail;refine jq 2 ?_;refine jn (.agg #[vI 0,.slice none 0 0,.slice none 0 0]) ?_;refine jm (vI z0) ?_;refine aN hb hB0 hB1 fun X3 hX3 hb hB0 hB1=>?_;refine osb 27 4 11 (w.heap.size+1) 27 hB1 [vI 0,.slice none 0 0,.slice none 0 0] aK ?_;intro w9 hR9 hO9 hB9 hs9;have hb9:=hB9 _ _ hb (by omega);have hB0:=hO9 _ _ _ (by omega) hB0;clear hO9 hB9
  go_wp2
  refine bQ (v:=vI z0) rfl rfl (by rfl) (by rfl) Tryz.underlying27 rfl hR9 aK ⟨_,rfl,⟨_,by rw [HE.out],by rw [HJ.out,HI.out,HL.out];exact ⟨_,_,rfl,dV _,dW _ _⟩⟩,hb9⟩
end Go.Proofs.YtjkfchehkpmhkaaGreatDoor

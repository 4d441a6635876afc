/- The reference of layer 45: Carried, Same, Few. -/
import Derived.Test.YtjkfchehkpmhkaaGreatDoorRc45
import Derived.Test.YtjkfchehkpmhkaaGreatDoorBi
import Derived.Test.YtjkfchehkpmhkaaGreatDoorRa44
import Derived.Test.YtjkfchehkpmhkaaGreatDoorS45
set_option linter.unusedSimpArgs false
set_option linter.unusedVariables false
set_option maxRecDepth 100000
set_option maxHeartbeats 1600000
namespace Go.Proofs.YtjkfchehkpmhkaaGreatDoor
open Go.RowKit
def Sm45 (y:Rat) (N:List Int) (e:Int) (v:Value) (X:World):Prop:=∃ u,v=.agg #[.bool (rN y),vS (rP y),vS (rD y),u,vI e]∧Ks N u X
theorem Sm45.lasts (y:Rat) (N:List Int) (e:Int):dB (Sm45 y N e):=by
 rintro v X Y ⟨u,h1,h2⟩ hS
 exact ⟨u,h1,Ks.lasts N _ _ _ h2 hS⟩
theorem tS {f:Operand→Value} {o:Oper} (x y:Operand) (ho:o.op=.store 61 x y) (g j:Nat) {A:Option Addr} {n c:Nat} (hx:f x=vP g j) (hy:f y=.slice A n c) (u:Value) (X:World) (hc:X.cell? ⟨g,j,none⟩=some u) (hf:X.frozen? ⟨g,j,none⟩=false) :
  (execOp f o).run Tryz.prog X=.ok .skip (X.setCell ⟨g,j,none⟩ (.slice A n c)):=by
 unfold execOp
 simp only [ho,hx,hy]
 go_simp
theorem tK:(Tryz.prog.info? 3).map (fun i=>(i.zero,i.size,i.bytes))=some (some (vI 0),1,8):=by kernel_rfl
theorem vYe {X:World} {B n:Nat} {v:Value} {S:List Int} (h:X.ownsRow B 3 1 v n (S.map I64)) (hn:S.length=n):Ks S v X:=by
 subst hn;have h9:=Rd.of_own h;obtain ⟨A,c,rfl,_,_⟩:=h9.form;exact ⟨A,c,rfl,h9⟩
theorem pF (b k:Nat) (X:World) (v:Value) (h:X.cell? ⟨b,k,none⟩=some v):(loadVar 61 ⟨b,k,none⟩).run Tryz.prog X=.ok v X:=by
 go_simp
theorem rca0 (B:Nat) (c:Int) (v z:Value) (l:List En) (cs:List Cg) (a f t:Int) (w:World) (hv:Es l v w) (hz:Cs B cs z w) (hs1:Hid (Sz45 l)) (h0:peE c l cs≠0):Calls Tryz.prog 19 #[.agg #[vI c,v,z],vI a,vI f,vI t] w fun e w'=>∃ u,e=.returned u∧Sm45 (fI c l cs a f t) (jO c l cs a f t) (eP c l cs a f t) u w'∧Since w w':=by
 have hs:Hid (∀ k,tz (en l k).am.2.1 (en l k).am.2.2 1000000):=fun k=>(hs1.out.sz k).mono (by decide)
 obtain ⟨z0,z9⟩:∃ z,peE c l cs=z:=⟨_,rfl⟩;have HZ:=Lib.hid z9
 have hz0:z0≠0:=by rw [← z9];exact h0
 clear z9 h0
 have HE:Hid (eP c l cs a f t=z0):=by
  show _=_
  unfold eP
  rw [HZ.out,if_pos hz0]
 obtain ⟨A,n,cp,A2,m,cp2,rfl,rfl,hln,hn1,hlm,hm1,HRX,HLN,HES,HCS,HRC,HLM⟩:=eR hv hz;clear hv hz
 go_enter Tryz.func19,Tryz.ntmps19
 go_upto_region 1 with fail;obtain ⟨W0,hW0,hB0,hB1,hb⟩:=cK w 27 65 [vI c,.slice A n cp,.slice A2 m cp2] [.bool false,.string ⟨#[]⟩,.string ⟨#[]⟩,.slice none 0 0,vI 0];rw [← hW0];clear hW0;refine jp ?_;refine ja hB0 Tryz.underlying27 (by rfl) aM ?_;refine jc (vI z0) (fun X hX hF=>mo (uL B c _ _ l cs X (HES.out X (Since.next hb hX)) (HCS.out X (Since.next hb hX)) hs) (by rw [HZ.out])) ?_;refine jm (vI z0) ?_;refine aN hb hB0 hB1 fun X1 hX1 hb hB0 hB1=>?_;go_upto_region 2 with fail;refine jp ?_;refine jm (vI z0) ?_;refine dF z0 0 (by omega) ?_;refine aN hb hB0 hB1 fun X2 hX2 hb hB0 hB1=>?_;go_upto_region 4 with fail;refine jp ?_;refine jm (vI z0) ?_;refine dF z0 0 (by omega) ?_;refine aN hb hB0 hB1 fun X3 hX3 hb hB0 hB1=>?_;obtain ⟨q1,q2⟩:=nQ (c:=c) (l:=l) (cs:=cs) (a:=a) (f:=f) (t:=t) (by rw [HE.out];exact hz0);have HQ1:=Lib.hid q1;have HQ2:=Lib.hid q2;clear q1 q2;go_upto_region 6 with fail;refine jp ?_;refine jm (vI z0) ?_;refine jv (.bool true) (aZ _ _ _ _ (by rfl) .i64 z0 0 (by rfl) (by rfl) true (by rw [decide_eq_false (by omega)];rfl)) ?_;refine aN hb hB0 hB1 fun X4 hX4 hb hB0 hB1=>?_;go_upto_region 7 with fail;refine jq 2 ?_;refine jmn (vI z0) (.agg #[.bool false,.string ⟨#[]⟩,.string ⟨#[]⟩,.slice none 0 0,vI z0]) ?_;refine aN hb hB0 hB1 fun X5 hX5 hb hB0 hB1=>?_;refine osb 65 8 31 (w.heap.size+1) 65 hB1 [.bool false,.string ⟨#[]⟩,.string ⟨#[]⟩,.slice none 0 0,vI z0] dZ ?_
 intro w9 hR9 hO9 hB9 hs9;have hb9:=hB9 _ _ hb (by omega);have hB0:=hO9 _ _ _ (by omega) hB0;clear hO9 hB9
 go_wp2
 refine aY rfl rfl (by rfl) Tryz.underlying65 rfl hR9 dZ ⟨_,rfl,⟨.slice none 0 0,by rw [HE.out,HQ1.out];rfl,by rw [HQ2.out];exact nI _⟩,hb9⟩
theorem rca1 (B:Nat) (c:Int) (v z:Value) (l:List En) (cs:List Cg) (a f t:Int) (w:World) (hv:Es l v w) (hz:Cs B cs z w) (hs1:Hid (Sz45 l)) (HC:Hid (peE c l cs=0)) (h0:dK c 0 a f≠0):Calls Tryz.prog 19 #[.agg #[vI c,v,z],vI a,vI f,vI t] w fun e w'=>∃ u,e=.returned u∧Sm45 (fI c l cs a f t) (jO c l cs a f t) (eP c l cs a f t) u w'∧Since w w':=by
 have hs:Hid (∀ k,tz (en l k).am.2.1 (en l k).am.2.2 1000000):=fun k=>(hs1.out.sz k).mono (by decide)
 have HE:Hid (eP c l cs a f t=3):=by
  show _=_
  unfold eP
  rw [if_neg (fun h9=>h9 HC.out),if_pos h0]
 have HA:Hid (dK c 0 a f=3):=by
  show _=_
  unfold dK at h0 ⊢
  split
  ·rfl
  ·rename_i h9
   rw [if_neg h9] at h0;exact absurd rfl h0
 obtain ⟨A,n,cp,A2,m,cp2,rfl,rfl,hln,hn1,hlm,hm1,HRX,HLN,HES,HCS,HRC,HLM⟩:=eR hv hz;clear hv hz
 go_enter Tryz.func19,Tryz.ntmps19
 go_upto_region 1 with fail;obtain ⟨W0,hW0,hB0,hB1,hb⟩:=cK w 27 65 [vI c,.slice A n cp,.slice A2 m cp2] [.bool false,.string ⟨#[]⟩,.string ⟨#[]⟩,.slice none 0 0,vI 0];rw [← hW0];clear hW0;refine jp ?_;refine ja hB0 Tryz.underlying27 (by rfl) aM ?_;refine jc (vI 0) (fun X hX hF=>mo (uL B c _ _ l cs X (HES.out X (Since.next hb hX)) (HCS.out X (Since.next hb hX)) hs) (by rw [HC.out])) ?_;refine jm (vI 0) ?_;refine aN hb hB0 hB1 fun X1 hX1 hb hB0 hB1=>?_;go_upto_region 2 with fail;refine jp ?_;refine jm (vI 0) ?_;refine cP 0 0 (by omega) ?_;refine aN hb hB0 hB1 fun X2 hX2 hb hB0 hB1=>?_;go_upto_region 3 with fail;refine jp ?_;refine ja hB0 Tryz.underlying27 (by rfl) aM ?_;refine jmm (vI a) (vI f) ?_;refine jc (vI 3) (fun X hX hF=>mo (uN B c _ _ l cs 0 a f X (HES.out X (Since.next hb hX)) (HCS.out X (Since.next hb hX))) (by rw [HA.out])) ?_;refine jm (vI 3) ?_;refine aN hb hB0 hB1 fun X3 hX3 hb hB0 hB1=>?_;go_upto_region 4 with fail;refine jp ?_;refine jm (vI 3) ?_;refine dF 3 0 (by omega) ?_;refine aN hb hB0 hB1 fun X4 hX4 hb hB0 hB1=>?_;obtain ⟨q1,q2⟩:=nQ (c:=c) (l:=l) (cs:=cs) (a:=a) (f:=f) (t:=t) (by rw [HE.out];decide);have HQ1:=Lib.hid q1;have HQ2:=Lib.hid q2;clear q1 q2;go_upto_region 6 with fail;refine jp ?_;refine jm (vI 3) ?_;refine jv (.bool true) (aZ _ _ _ _ (by rfl) .i64 3 0 (by rfl) (by rfl) true (by rw [decide_eq_false (by omega)];rfl)) ?_
 refine aN hb hB0 hB1 fun X5 hX5 hb hB0 hB1=>?_;go_upto_region 7 with fail;refine jq 2 ?_;refine jmn (vI 3) (.agg #[.bool false,.string ⟨#[]⟩,.string ⟨#[]⟩,.slice none 0 0,vI 3]) ?_;refine aN hb hB0 hB1 fun X6 hX6 hb hB0 hB1=>?_;refine osb 65 8 31 (w.heap.size+1) 65 hB1 [.bool false,.string ⟨#[]⟩,.string ⟨#[]⟩,.slice none 0 0,vI 3] dZ ?_;intro w9 hR9 hO9 hB9 hs9;have hb9:=hB9 _ _ hb (by omega);have hB0:=hO9 _ _ _ (by omega) hB0;clear hO9 hB9
 go_wp2
 refine aY rfl rfl (by rfl) Tryz.underlying65 rfl hR9 dZ ⟨_,rfl,⟨.slice none 0 0,by rw [HE.out,HQ1.out];rfl,by rw [HQ2.out];exact nI _⟩,hb9⟩
theorem rca2 (B:Nat) (c:Int) (v z:Value) (l:List En) (cs:List Cg) (a f t:Int) (w:World) (hv:Es l v w) (hz:Cs B cs z w) (hs1:Hid (Sz45 l)) (HC:Hid (peE c l cs=0)) (HA:Hid (dK c 0 a f=0)) (ht:t<0∨14609<t):Calls Tryz.prog 19 #[.agg #[vI c,v,z],vI a,vI f,vI t] w fun e w'=>∃ u,e=.returned u∧Sm45 (fI c l cs a f t) (jO c l cs a f t) (eP c l cs a f t) u w'∧Since w w':=by
 have hs:Hid (∀ k,tz (en l k).am.2.1 (en l k).am.2.2 1000000):=fun k=>(hs1.out.sz k).mono (by decide)
 have HE:Hid (eP c l cs a f t=3):=by
  show _=_
  unfold eP
  rw [if_neg (fun h9=>h9 HC.out),if_neg (fun h9=>h9 HA.out),if_pos ht]
 have HA2:Hid (dK c 0 a t=3):=if_pos (by omega);obtain ⟨A,n,cp,A2,m,cp2,rfl,rfl,hln,hn1,hlm,hm1,HRX,HLN,HES,HCS,HRC,HLM⟩:=eR hv hz;clear hv hz
 go_enter Tryz.func19,Tryz.ntmps19
 go_upto_region 1 with fail;obtain ⟨W0,hW0,hB0,hB1,hb⟩:=cK w 27 65 [vI c,.slice A n cp,.slice A2 m cp2] [.bool false,.string ⟨#[]⟩,.string ⟨#[]⟩,.slice none 0 0,vI 0];rw [← hW0];clear hW0;refine jp ?_;refine ja hB0 Tryz.underlying27 (by rfl) aM ?_;refine jc (vI 0) (fun X hX hF=>mo (uL B c _ _ l cs X (HES.out X (Since.next hb hX)) (HCS.out X (Since.next hb hX)) hs) (by rw [HC.out])) ?_;refine jm (vI 0) ?_;refine aN hb hB0 hB1 fun X1 hX1 hb hB0 hB1=>?_;go_upto_region 2 with fail;refine jp ?_;refine jm (vI 0) ?_;refine cP 0 0 (by omega) ?_;refine aN hb hB0 hB1 fun X2 hX2 hb hB0 hB1=>?_;go_upto_region 3 with fail;refine jp ?_;refine ja hB0 Tryz.underlying27 (by rfl) aM ?_;refine jmm (vI a) (vI f) ?_;refine jc (vI 0) (fun X hX hF=>mo (uN B c _ _ l cs 0 a f X (HES.out X (Since.next hb hX)) (HCS.out X (Since.next hb hX))) (by rw [HA.out])) ?_;refine jm (vI 0) ?_;refine aN hb hB0 hB1 fun X3 hX3 hb hB0 hB1=>?_;go_upto_region 4 with fail;refine jp ?_;refine jm (vI 0) ?_;refine cP 0 0 (by omega) ?_;refine aN hb hB0 hB1 fun X4 hX4 hb hB0 hB1=>?_;go_upto_region 5 with fail;refine jp ?_;refine ja hB0 Tryz.underlying27 (by rfl) aM ?_;refine jmm (vI a) (vI t) ?_;refine jc (vI 3) (fun X hX hF=>mo (uN B c _ _ l cs 0 a t X (HES.out X (Since.next hb hX)) (HCS.out X (Since.next hb hX))) (by rw [HA2.out])) ?_;refine jm (vI 3) ?_;refine aN hb hB0 hB1 fun X5 hX5 hb hB0 hB1=>?_
 obtain ⟨q1,q2⟩:=nQ (c:=c) (l:=l) (cs:=cs) (a:=a) (f:=f) (t:=t) (by rw [HE.out];decide);have HQ1:=Lib.hid q1;have HQ2:=Lib.hid q2;clear q1 q2;go_upto_region 6 with fail;refine jp ?_;refine jm (vI 3) ?_;refine jv (.bool true) (aZ _ _ _ _ (by rfl) .i64 3 0 (by rfl) (by rfl) true (by rw [decide_eq_false (by omega)];rfl)) ?_;refine aN hb hB0 hB1 fun X6 hX6 hb hB0 hB1=>?_;go_upto_region 7 with fail;refine jq 2 ?_;refine jmn (vI 3) (.agg #[.bool false,.string ⟨#[]⟩,.string ⟨#[]⟩,.slice none 0 0,vI 3]) ?_;refine aN hb hB0 hB1 fun X7 hX7 hb hB0 hB1=>?_;refine osb 65 8 31 (w.heap.size+1) 65 hB1 [.bool false,.string ⟨#[]⟩,.string ⟨#[]⟩,.slice none 0 0,vI 3] dZ ?_;intro w9 hR9 hO9 hB9 hs9;have hb9:=hB9 _ _ hb (by omega);have hB0:=hO9 _ _ _ (by omega) hB0;clear hO9 hB9
 go_wp2
 refine aY rfl rfl (by rfl) Tryz.underlying65 rfl hR9 dZ ⟨_,rfl,⟨.slice none 0 0,by rw [HE.out,HQ1.out];rfl,by rw [HQ2.out];exact nI _⟩,hb9⟩
set_option maxHeartbeats 8000000 in
theorem rca3 (B:Nat) (c:Int) (v z:Value) (l:List En) (cs:List Cg) (a f t:Int) (w:World) (hv:Es l v w) (hz:Cs B cs z w) (hs1:Hid (Sz45 l)) (HC:Hid (peE c l cs=0)) (HA:Hid (dK c 0 a f=0)) (ht:0≤t∧t≤14609):Calls Tryz.prog 19 #[.agg #[vI c,v,z],vI a,vI f,vI t] w fun e w'=>∃ u,e=.returned u∧Sm45 (fI c l cs a f t) (jO c l cs a f t) (eP c l cs a f t) u w'∧Since w w':=by
 have hs:Hid (∀ k,tz (en l k).am.2.1 (en l k).am.2.2 1000000):=fun k=>(hs1.out.sz k).mono (by decide)
 have HE:Hid (eP c l cs a f t=0):=by
  show _=_
  unfold eP
  rw [if_neg (fun h9=>h9 HC.out),if_neg (fun h9=>h9 HA.out),if_neg (by omega)]
 have HA2:Hid (dK c 0 a t=0):=by
  show _=_
  have h9:=gQ HA.out;exact if_neg (by omega)
 obtain ⟨q1,q2⟩:=qXv HE.out;have HQ1:=Lib.hid q1;have HQ2:=Lib.hid q2;clear q1 q2;have HOK:Hid (Ok45 c l cs):=peE_ok.1 HC.out;have HK:Hid (Ok44 c l):=HOK.out.ac;have hlen:=hs1.out.ln HK.out.len;obtain ⟨A,n,cp,A2,m,cp2,rfl,rfl,hln,hn1,hlm,hm1,HRX,HLN,HES,HCS,HRC,HLM⟩:=eR hv hz;clear hv hz
 go_enter Tryz.func19,Tryz.ntmps19
 go_upto_region 1 with fail;obtain ⟨W0,hW0,hB0,hB1,hb⟩:=cK w 27 65 [vI c,.slice A n cp,.slice A2 m cp2] [.bool false,.string ⟨#[]⟩,.string ⟨#[]⟩,.slice none 0 0,vI 0];rw [← hW0];clear hW0;refine jp ?_;refine ja hB0 Tryz.underlying27 (by rfl) aM ?_;refine jc (vI 0) (fun X hX hF=>mo (uL B c _ _ l cs X (HES.out X (Since.next hb hX)) (HCS.out X (Since.next hb hX)) hs) (by rw [HC.out])) ?_;refine jm (vI 0) ?_;refine aN hb hB0 hB1 fun X1 hX1 hb hB0 hB1=>?_;go_upto_region 2 with fail;refine jp ?_;refine jm (vI 0) ?_;refine cP 0 0 (by omega) ?_;refine aN hb hB0 hB1 fun X2 hX2 hb hB0 hB1=>?_;rw [HLN.out] at hlen;go_upto_region 3 with fail;refine jp ?_;refine ja hB0 Tryz.underlying27 (by rfl) aM ?_;refine jmm (vI a) (vI f) ?_;refine jc (vI 0) (fun X hX hF=>mo (uN B c _ _ l cs 0 a f X (HES.out X (Since.next hb hX)) (HCS.out X (Since.next hb hX))) (by rw [HA.out])) ?_;refine jm (vI 0) ?_;refine aN hb hB0 hB1 fun X3 hX3 hb hB0 hB1=>?_;go_upto_region 4 with fail;refine jp ?_;refine jm (vI 0) ?_;refine cP 0 0 (by omega) ?_;refine aN hb hB0 hB1 fun X4 hX4 hb hB0 hB1=>?_;go_upto_region 5 with fail;refine jp ?_;refine ja hB0 Tryz.underlying27 (by rfl) aM ?_;refine jmm (vI a) (vI t) ?_;refine jc (vI 0) (fun X hX hF=>mo (uN B c _ _ l cs 0 a t X (HES.out X (Since.next hb hX)) (HCS.out X (Since.next hb hX))) (by rw [HA2.out])) ?_;refine jm (vI 0) ?_
 refine aN hb hB0 hB1 fun X5 hX5 hb hB0 hB1=>?_;go_upto_region 6 with fail;refine jp ?_;refine jm (vI 0) ?_;refine jv (.bool false) (aZ _ _ _ _ (by rfl) .i64 0 0 (by rfl) (by rfl) false (by rw [decide_eq_true (by omega)];rfl)) ?_;refine aN hb hB0 hB1 fun X6 hX6 hb hB0 hB1=>?_;go_upto_region 8 with fail;refine jq 1 ?_;refine jn (.agg #[.bool false,.string ⟨#[]⟩,.string ⟨#[]⟩,.slice none 0 0,vI 0]) ?_;refine aN hb hB0 hB1 fun X7 hX7 hb hB0 hB1=>?_;go_upto_region 9 with (refine osn 65 10 32 #[.bool false,.string ⟨#[]⟩,.string ⟨#[]⟩,.slice none 0 0,vI 0] dZ ?_);obtain ⟨Y7,hY9,hD10,hS9⟩:=aP X7 65 [.bool false,.string ⟨#[]⟩,.string ⟨#[]⟩,.slice none 0 0,vI 0];rw [← hY9];clear hY9;have hgs10:=hb.size;have hlt10x0:=hB0.lt;have hlt10x1:=hB1.lt;obtain ⟨hB0,hB1⟩:=bl2 hS9 hB0 hB1;have hb:=aF hb hS9;clear hS9;generalize X7.heap.size=g10 at *;refine jp ?_;refine jm (vI 0) ?_;refine bE hb hB0 hB1 hD10 fun X8 hX8 hb hB0 hB1 hD10=>?_;obtain ⟨WB,rfl⟩:∃ W,W=X8:=⟨_,rfl⟩;have hbwWB:=hb
 have KB0:Hid (∀ X,Since WB X→Blk X w.heap.size 27 [vI c,.slice A n cp,.slice A2 m cp2]):=fun X h=>hB0.bel h
 have KB1:Hid (∀ X,Since WB X→Blk X (w.heap.size+1) 65 [.bool false,.string ⟨#[]⟩,.string ⟨#[]⟩,.slice none 0 0,vI 0]):=fun X h=>hB1.bel h
 have hl1:=hB1.lt;have hl10:=hD10.lt;clear KB0 KB1
 go_wp2
 go_loopw [11] (fun kv wr=>∃ (k n5 c5:Nat) (A5:Option Addr),k≤n∧n5≤k∧kv=vI k∧Blk wr g10 65 [.bool (rN (iP l a f t k)),vS (rP (iP l a f t k)),vS (rD (iP l a f t k)),.slice A5 n5 c5,vI 0]∧Blk wr w.heap.size 27 [vI c,.slice A n cp,.slice A2 m cp2]∧Blk wr (w.heap.size+1) 65 [.bool false,.string ⟨#[]⟩,.string ⟨#[]⟩,.slice none 0 0,vI 0]∧Hid ((dX l a f t k).length=n5)∧wr.ownsRow WB.heap.size 3 1 (.slice A5 n5 c5) n5 ((dX l a f t k).map I64)∧Below w.heap.size w wr∧WB.heap.size≤wr.heap.size) (fun kv _=>n-(intOf kv).toNat)
 case atStart=>exact ⟨0,0,0,none,by omega,by omega,rfl,hD10,hB0,hB1,rfl,⟨rfl,.inl ⟨rfl,rfl⟩⟩,hb,Nat.le_refl _⟩
 case round =>
  clear hD10 hB0 hB1 hb;obtain ⟨k,n5,c5,A5,hk,hn5,rfl,hD10,hB0,hB1,HPL,hOW,hb,hWB⟩:=hrel
  rcases Nat.lt_or_ge k n with hlt|hlt
  ·have HNK:Hid (iP l a f t (k+1)=(iP l a f t k)+(if eX (en l k) a f t=true then ent (en l k) a else 0)):=rfl
   have HNP:Hid (dX l a f t (k+1)=if eX (en l k) a f t=true then dX l a f t k++[(k:Int)] else dX l a f t k):=rfl;have hsK:szR (iP l a f t k) 900000:=(vQg (by decide) hs1.out.sz _ _ _ _).mono (by omega);obtain ⟨K0,hK0⟩:∃ z,(iP l a f t k)=z:=⟨_,rfl⟩;have HK0:=Lib.hid hK0;rw [hK0] at hD10 hsK HNK;clear hK0
   have hkl:k<l.length:=by rw [HLN.out];exact hlt
   have hrg:=HK.out.rg hkl;obtain ⟨b,off,rfl,hbb,hcx⟩:=fZ (HRX.out _ hb) HLN.out (k:=k) hlt;obtain ⟨x,x9⟩:∃ x,x=en l k:=⟨_,rfl⟩;have HX:=Lib.hid x9;clear x9;rw [← HX.out] at hcx
   change Cl wr b (off+k * 13) (eL x) at hcx
   have HES:Hid (∀ X,Since w X→Es l (.slice (some ⟨b,off,none⟩) n cp) X):=fun X h=>by show Rd X 13 _ l.length _;rw [HLN.out];exact HRX.out X h
   have hvl:=hrg.vl;have hne:=hrg.ne;have hpd:=hrg.p0
   have hxs:tz x.am.2.1 x.am.2.2 420:=by rw [HX.out];exact hs1.out.sz k
   have HIC:=HOK.out.icr hkl;rw [← HX.out] at hvl hne HNK HNP;have HVL:=Lib.hid hvl;have HIC:=Lib.hid HIC;clear hvl hrg;have hsE:szR (ent x a) 1000:=(iN (by decide) hxs a).mono (by decide);go_upto_region 10 with fail;refine jp ?_;refine jmn (vI k) (vP w.heap.size 0) ?_;refine jn (vP w.heap.size 1) ?_;refine jf _ hB0 1 aS ?_;refine jv (vI n) (aH Tryz.underlying22 _ (by rfl) (some ⟨b,off,none⟩) n cp (by rfl) _ rfl) ?_;refine cF (k:Int) (n:Int) (by omega) ?_;refine bE hb hB0 hB1 hD10 fun X1 hX1 hb hB0 hB1 hD10=>?_;have hOW:=bL hOW hX1;replace hWB:=Nat.le_trans hWB (hX1).size;have hcx:=hcx.below hX1 hbb;replace hbb:=Nat.lt_of_lt_of_le hbb (hX1).size;go_upto_region 12 with fail;refine jq 6 ?_;refine jnn (vP w.heap.size 0) (vP w.heap.size 1) ?_;refine jf _ hB0 1 aS ?_;refine jm (vI k) ?_;refine jv (vP b (off+k * 13)) (aT Tryz.underlying22 aL _ _ (by rfl) b (off) n cp k hlt (by rfl) (by rfl) rfl) ?_;refine jg (.agg #[vI x.day,vI x.deb,vI x.cre,.bool x.am.1,st x.am.2.1,st x.am.2.2,vI x.kd,vI x.pd,vI x.rf,vI x.w1,vI x.w2,vI x.w3,vI x.w4]) (fun X hX hF=>dV 76 _ (by rfl) b (off+k * 13) (by rfl) Tryz.underlying76 rfl (eL x) X (Cl.part (hcx.below hX hbb) 0 _ (by rfl)) aL) ?_
   refine bE hb hB0 hB1 hD10 fun X2 hX2 hb hB0 hB1 hD10=>?_;have hOW:=bL hOW hX2;replace hWB:=Nat.le_trans hWB (hX2).size;have hcx:=hcx.below hX2 hbb;replace hbb:=Nat.lt_of_lt_of_le hbb (hX2).size;go_upto_region 13 with (refine osn 76 12 46 #[vI x.day,vI x.deb,vI x.cre,.bool x.am.1,vS x.am.2.1,vS x.am.2.2,vI x.kd,vI x.pd,vI x.rf,vI x.w1,vI x.w2,vI x.w3,vI x.w4] aL ?_);obtain ⟨Y2,hY9,hD12,hS9⟩:=aP X2 76 (eL x);rw [← hY9];clear hY9;have hgs12:=hb.size;have hlt12x0:=hB0.lt;have hlt12x1:=hB1.lt;have hlt12x2:=hD10.lt;have hOW:=bL hOW hS9;replace hWB:=Nat.le_trans hWB (hS9).size;have hcx:=hcx.below hS9 hbb;replace hbb:=Nat.lt_of_lt_of_le hbb (hS9).size;obtain ⟨hB0,hB1,hD10⟩:=bl3 hS9 hB0 hB1 hD10;have hb:=aF hb hS9;clear hS9;generalize X2.heap.size=g12 at *;have LB0:szR K0 900000:=hsK;have LB1:szR (ent x a) 1000:=hsE;obtain ⟨ic9,ic99⟩:∃ z,jM cs (en l k) (k:Int)=z:=⟨_,rfl⟩;have HW9:=Lib.hid ic99;clear ic99;go_upto_region 13 with fail;refine jp ?_;refine ja hB0 Tryz.underlying27 (by rfl) aM ?_;refine jm (vI k) ?_;refine jc (.bool ic9) (fun X hX hF=>mo (ricC B c _ _ l cs k X (HES.out X (Since.next hb hX)) (HCS.out X (Since.next hb hX)) hkl hpd) (by rw [HW9.out])) ?_
   refine jm (.bool ic9) ?_;refine cO hb hB0 hB1 hD10 hD12 fun X3 hX3 hb hB0 hB1 hD10 hD12=>?_;have hOW:=bL hOW hX3;replace hWB:=Nat.le_trans hWB (hX3).size
   rcases ic9 with _|_
   ·skip
    have H3:Hid ((en l k).kd≠3):=by
     show (en l k).kd≠3
     have h9:=HIC.out;rw [HW9.out] at h9
     simpa using h9
    go_upto_region 14 with fail;refine jp ?_;refine jmm (.bool false) (.bool false) ?_;refine bS ?_;refine jmm (.bool false) (.bool false) ?_;refine bS ?_;refine jmm (.bool false) (.bool false) ?_;refine cU ?_;refine jss ?_;refine jm (.bool false) ?_;refine cO hb hB0 hB1 hD10 hD12 fun X4 hX4 hb hB0 hB1 hD10 hD12=>?_;have hOW:=bL hOW hX4;replace hWB:=Nat.le_trans hWB (hX4).size
    have HCB:Hid (eX x a f t=false):=by
     rw [Bool.eq_false_iff];intro h9
     unfold eX at h9
     rw [Bool.and_eq_true,Bool.and_eq_true,Bool.and_eq_true,Bool.or_eq_true,decide_eq_true_eq,decide_eq_true_eq,decide_eq_true_eq,decide_eq_true_eq,decide_eq_true_eq] at h9;exact H3.out (by rw [← HX.out];exact h9.1.1.1)
    have HK1:Hid (K0=iP l a f t (k+1)):=by
     show _=_
     rw [HNK.out,if_neg (by rw [HCB.out];decide),Rat.add_zero]
    have HP1:Hid (dX l a f t (k+1)=dX l a f t k):=by
     show _=_
     rw [HNP.out,if_neg (by rw [HCB.out];decide)]
    rw [HK1.out] at hD10;rw [← HP1.out] at hOW HPL;go_upto_region 11 with fail;refine jp ?_;refine jm (vI k) ?_;refine jv (vI ((k+1:Nat):Int)) (aW _ _ _ _ (by rfl) (k:Int) 1 ((k+1:Nat):Int) (by rfl) (by rfl) (by omega) (by omega) (by omega)) ?_;refine jm (vI ((k+1:Nat):Int)) ?_;refine bE hb hB0 hB1 hD10 fun X5 hX5 hb hB0 hB1 hD10=>?_;have hOW:=bL hOW hX5;replace hWB:=Nat.le_trans hWB (hX5).size
    go_wp2
    go_roundw
    case rel=>exact ⟨k+1,n5,c5,A5,by omega,by omega,rfl,hD10,hB0,hB1,HPL,hOW,hb,hWB⟩
    case measure=>simp [intOf];omega
   ·skip
    have H3:Hid ((en l k).kd=3):=by
     show (en l k).kd=3
     have h9:=HIC.out;rw [HW9.out] at h9
     simpa using h9
    rcases (show x.day<f∨(f≤x.day∧t<x.day)∨((f≤x.day∧x.day≤t)∧¬ x.deb=a∧¬ x.cre=a)∨((f≤x.day∧x.day≤t)∧x.deb=a)∨((f≤x.day∧x.day≤t)∧¬ x.deb=a∧x.cre=a) by omega) with h|h|h|h|h
    ·go_upto_region 14 with fail
     refine jp ?_;refine bH (.bool true) (.bool true) (vP g12 0) ?_;refine jf _ hD12 0 aA ?_;refine jm (vI f) ?_;refine fN x.day f (by omega) ?_;refine jmm (.bool false) (.bool false) ?_;refine bS ?_;refine jmm (.bool false) (.bool false) ?_;refine cU ?_;refine jss ?_;refine jm (.bool false) ?_;refine cO hb hB0 hB1 hD10 hD12 fun X4 hX4 hb hB0 hB1 hD10 hD12=>?_;have hOW:=bL hOW hX4;replace hWB:=Nat.le_trans hWB (hX4).size
     have HCB:Hid (eX x a f t=false):=by
      rw [Bool.eq_false_iff];intro h9
      unfold eX at h9
      rw [Bool.and_eq_true,Bool.and_eq_true,Bool.and_eq_true,Bool.or_eq_true,decide_eq_true_eq,decide_eq_true_eq,decide_eq_true_eq,decide_eq_true_eq,decide_eq_true_eq] at h9
      omega
     have HK1:Hid (K0=iP l a f t (k+1)):=by
      show _=_
      rw [HNK.out,if_neg (by rw [HCB.out];decide),Rat.add_zero]
     have HP1:Hid (dX l a f t (k+1)=dX l a f t k):=by
      show _=_
      rw [HNP.out,if_neg (by rw [HCB.out];decide)]
     rw [HK1.out] at hD10;rw [← HP1.out] at hOW HPL;go_upto_region 11 with fail;refine jp ?_;refine jm (vI k) ?_;refine jv (vI ((k+1:Nat):Int)) (aW _ _ _ _ (by rfl) (k:Int) 1 ((k+1:Nat):Int) (by rfl) (by rfl) (by omega) (by omega) (by omega)) ?_;refine jm (vI ((k+1:Nat):Int)) ?_;refine bE hb hB0 hB1 hD10 fun X5 hX5 hb hB0 hB1 hD10=>?_;have hOW:=bL hOW hX5;replace hWB:=Nat.le_trans hWB (hX5).size
     go_wp2
     go_roundw
     case rel=>exact ⟨k+1,n5,c5,A5,by omega,by omega,rfl,hD10,hB0,hB1,HPL,hOW,hb,hWB⟩
     case measure=>simp [intOf];omega
    ·go_upto_region 14 with fail
     refine jp ?_;refine bH (.bool true) (.bool true) (vP g12 0) ?_;refine jf _ hD12 0 aA ?_;refine jm (vI f) ?_;refine gK x.day f (by omega) ?_;refine bH (.bool true) (.bool true) (vP g12 0) ?_;refine jf _ hD12 0 aA ?_;refine jm (vI t) ?_;refine jV x.day t (by omega) ?_;refine jmm (.bool false) (.bool false) ?_;refine cU ?_;refine jss ?_;refine jm (.bool false) ?_;refine cO hb hB0 hB1 hD10 hD12 fun X4 hX4 hb hB0 hB1 hD10 hD12=>?_;have hOW:=bL hOW hX4;replace hWB:=Nat.le_trans hWB (hX4).size
     have HCB:Hid (eX x a f t=false):=by
      rw [Bool.eq_false_iff];intro h9
      unfold eX at h9
      rw [Bool.and_eq_true,Bool.and_eq_true,Bool.and_eq_true,Bool.or_eq_true,decide_eq_true_eq,decide_eq_true_eq,decide_eq_true_eq,decide_eq_true_eq,decide_eq_true_eq] at h9
      omega
     have HK1:Hid (K0=iP l a f t (k+1)):=by
      show _=_
      rw [HNK.out,if_neg (by rw [HCB.out];decide),Rat.add_zero]
     have HP1:Hid (dX l a f t (k+1)=dX l a f t k):=by
      show _=_
      rw [HNP.out,if_neg (by rw [HCB.out];decide)]
     rw [HK1.out] at hD10;rw [← HP1.out] at hOW HPL;go_upto_region 11 with fail;refine jp ?_;refine jm (vI k) ?_;refine jv (vI ((k+1:Nat):Int)) (aW _ _ _ _ (by rfl) (k:Int) 1 ((k+1:Nat):Int) (by rfl) (by rfl) (by omega) (by omega) (by omega)) ?_;refine jm (vI ((k+1:Nat):Int)) ?_;refine bE hb hB0 hB1 hD10 fun X5 hX5 hb hB0 hB1 hD10=>?_;have hOW:=bL hOW hX5;replace hWB:=Nat.le_trans hWB (hX5).size
     go_wp2
     go_roundw
     case rel=>exact ⟨k+1,n5,c5,A5,by omega,by omega,rfl,hD10,hB0,hB1,HPL,hOW,hb,hWB⟩
     case measure=>simp [intOf];omega
    ·have HD9:=Lib.hid h.2.1
     have HE9:=Lib.hid h.2.2;replace h:=h.1;go_upto_region 14 with fail;refine jp ?_;refine bH (.bool true) (.bool true) (vP g12 0) ?_;refine jf _ hD12 0 aA ?_;refine jm (vI f) ?_;refine gK x.day f (by omega) ?_;refine bH (.bool true) (.bool true) (vP g12 0) ?_;refine jf _ hD12 0 aA ?_;refine jm (vI t) ?_;refine lJ x.day t (by omega) ?_;refine bH (.bool true) (.bool true) (vP g12 1) ?_;refine jf _ hD12 1 aA ?_;refine jm (vI a) ?_;refine dF x.deb a HD9.out ?_;refine jmn (.bool false) (vP g12 2) ?_;refine jf _ hD12 2 aA ?_;refine jm (vI a) ?_;refine dF x.cre a HE9.out ?_;refine jmm (.bool false) (.bool false) ?_;refine cO hb hB0 hB1 hD10 hD12 fun X4 hX4 hb hB0 hB1 hD10 hD12=>?_;have hOW:=bL hOW hX4;replace hWB:=Nat.le_trans hWB (hX4).size
     have HCB:Hid (eX x a f t=false):=by
      rw [Bool.eq_false_iff];intro h9
      unfold eX at h9
      rw [Bool.and_eq_true,Bool.and_eq_true,Bool.and_eq_true,Bool.or_eq_true,decide_eq_true_eq,decide_eq_true_eq,decide_eq_true_eq,decide_eq_true_eq,decide_eq_true_eq] at h9;exact h9.2.elim HD9.out HE9.out
     have HK1:Hid (K0=iP l a f t (k+1)):=by
      show _=_
      rw [HNK.out,if_neg (by rw [HCB.out];decide),Rat.add_zero]
     have HP1:Hid (dX l a f t (k+1)=dX l a f t k):=by
      show _=_
      rw [HNP.out,if_neg (by rw [HCB.out];decide)]
     rw [HK1.out] at hD10;rw [← HP1.out] at hOW HPL;go_upto_region 11 with fail;refine jp ?_;refine jm (vI k) ?_;refine jv (vI ((k+1:Nat):Int)) (aW _ _ _ _ (by rfl) (k:Int) 1 ((k+1:Nat):Int) (by rfl) (by rfl) (by omega) (by omega) (by omega)) ?_;refine jm (vI ((k+1:Nat):Int)) ?_;refine bE hb hB0 hB1 hD10 fun X5 hX5 hb hB0 hB1 hD10=>?_;have hOW:=bL hOW hX5;replace hWB:=Nat.le_trans hWB (hX5).size
     go_wp2
     go_roundw
     case rel=>exact ⟨k+1,n5,c5,A5,by omega,by omega,rfl,hD10,hB0,hB1,HPL,hOW,hb,hWB⟩
     case measure=>simp [intOf];omega
    ·have HD9:=Lib.hid h.2
     have HDC:Hid (x.deb=a∨x.cre=a):=.inl HD9.out;replace h:=h.1
     have HCB:Hid (eX x a f t=true):=by
      show _=_
      unfold eX
      rw [Bool.and_eq_true,Bool.and_eq_true,Bool.and_eq_true,Bool.or_eq_true,decide_eq_true_eq,decide_eq_true_eq,decide_eq_true_eq,decide_eq_true_eq,decide_eq_true_eq];exact ⟨⟨⟨by rw [HX.out];exact H3.out,h.1⟩,h.2⟩,HDC.out⟩
     go_upto_region 14 with fail;refine jp ?_;refine bH (.bool true) (.bool true) (vP g12 0) ?_;refine jf _ hD12 0 aA ?_;refine jm (vI f) ?_;refine gK x.day f (by omega) ?_;refine bH (.bool true) (.bool true) (vP g12 0) ?_;refine jf _ hD12 0 aA ?_;refine jm (vI t) ?_;refine lJ x.day t (by omega) ?_;refine bH (.bool true) (.bool true) (vP g12 1) ?_;refine jf _ hD12 1 aA ?_;refine jm (vI a) ?_;refine cP x.deb a HD9.out ?_;refine jm (.bool true) ?_;refine bS ?_;refine jmm (.bool true) (.bool true) ?_;refine cO hb hB0 hB1 hD10 hD12 fun X4 hX4 hb hB0 hB1 hD10 hD12=>?_;have hOW:=bL hOW hX4;replace hWB:=Nat.le_trans hWB (hX4).size;go_upto_region 15 with fail;refine bB [] (by kernel_rfl) (by kernel_rfl) (by kernel_rfl) rfl (aG) ?_;simp only [its,List.dropLast,Nat.zero_add,Nat.reduceAdd];refine jn (vP g10 0) ?_;refine jg (rt (rN K0) (rP K0) (rD K0)) (fun X hX hF=>aX 40 _ (by rfl) g10 0 [.bool (rN K0),vS (rP K0),vS (rD K0)] (by rfl) Tryz.underlying40 rfl X (hD10.bel hX) (by rfl) aC) ?_;refine ja hD12 Tryz.underlying76 (by rfl) aL ?_;refine jm (vI a) ?_;refine jc (rt (rN (ent x a)) (rP (ent x a)) (rD (ent x a))) (fun X hX hF=>qZb x a X HVL.out hne (hxs.mono (by decide))) ?_;refine jc (rt (rN (K0+(ent x a))) (rP (K0+(ent x a))) (rD (K0+(ent x a)))) (fun X hX hF=>vQl (rN K0) (rP K0) (rD K0) (rN (ent x a)) (rP (ent x a)) (rD (ent x a)) (eK K0) (eK (ent x a)) X (tzR LB0 (by omega)) (tzR LB1 (by omega))) ?_
     refine jn (vP g10 0) ?_;refine cO hb hB0 hB1 hD10 hD12 fun X5 hX5 hb hB0 hB1 hD10 hD12=>?_;have hOW:=bL hOW hX5;replace hWB:=Nat.le_trans hWB (hX5).size;refine cL rfl 40 (.tmp 81) (.tmp 80) rfl g10 65 _ hD10 0 rfl [.bool (rN (K0+(ent x a))),.string ⟨(rP (K0+(ent x a))).toArray⟩,.string ⟨(rD (K0+(ent x a))).toArray⟩] rfl (by simp) (al3 rfl rfl rfl) aC ?_;intro w15 hR9 hG9 hs9;have hb:=bA hG9 hb hb.size (by omega);have hOW:=dT hOW hG9 (fun g h h9=>by injection h with h;have h8:=(cD hOW _ h9).1;omega);replace hWB:=Nat.le_trans hWB hG9.size;replace hB0:=aJ hG9 hB0 (by omega);replace hB1:=aJ hG9 hB1 (by omega);replace hD12:=aJ hG9 hD12 (by omega)
     change Blk w15 g10 65 [.bool (rN (K0+(ent x a))),.string ⟨(rP (K0+(ent x a))).toArray⟩,.string ⟨(rD (K0+(ent x a))).toArray⟩,.slice A5 n5 c5,vI 0] at hR9
     have hD10:=hR9;clear hR9 hG9 hs9;refine wpList_nil ?_;go_upto_region 16 with fail
     have hbA:WB.heap.size≤w15.heap.size:=by omega
     have hn_hB0:(Value.ownBlock (.slice A5 n5 c5))≠some w.heap.size:=fun h9=>by have h8:=cD hOW _ h9;omega
     have hn_hB1:(Value.ownBlock (.slice A5 n5 c5))≠some (w.heap.size+1):=fun h9=>by have h8:=cD hOW _ h9;omega
     have hn_hD10:(Value.ownBlock (.slice A5 n5 c5))≠some g10:=fun h9=>by have h8:=cD hOW _ h9;omega
     refine nX 6 (⟨WB.heap.size,3,1,.slice A5 n5 c5,n5,((dX l a f t k).map I64),[vI k]⟩:Ar) 4 [none,none,none,some (Anew (⟨WB.heap.size,3,1,.slice A5 n5 c5,n5,((dX l a f t k).map I64),[vI k]⟩:Ar) 3),some (Aout (⟨WB.heap.size,3,1,.slice A5 n5 c5,n5,((dX l a f t k).map I64),[vI k]⟩:Ar))] (kN (kN (kN (oH (fun v X Y h hR=>Anew.lasts v X Y h hR) (oH (fun v X Y h hR=>Aout.lasts v X Y h hR) (qVm)))))) ?_;simp only [iB,List.take,List.drop,Nat.reduceAdd];refine an (vP g10 3) ?_;refine ag hOW hbA (.slice A5 n5 c5) (fun X σ hX hF=>aR 61 _ (by rfl) g10 3 (by rfl) _ X ((hX.blk hD10 hn_hD10).cell (j:=3) rfl) (fun X u h=>pF g10 3 X u h)) ?_;refine am (vI k) ?_;refine ab hOW 3 (fun X=>by unfold execOp;go_simp) ?_;intro v85;refine aa hOW hbA 3 3 v85 List.mem_cons_self Tryz.underlying61 tK rfl (show 0<1 by decide) (by rfl) (by intro u hu;simp only [List.mem_cons,List.not_mem_nil,or_false] at hu;rcases hu with rfl <;> rfl) (show n5+1≤maxLen by unfold maxLen;omega) (show (n5+1) * 8≤140737488355328 by omega) ?_;intro v86;refine an (vP g10 3) ?_;refine az hOW hbA ?_;intro X6 σ hX hF;have hO86:X6.ownsRow WB.heap.size 3 1 v86 (n5+1) (((dX l a f t k).map I64)++[vI k]):=(hF _ _ List.mem_cons_self).2;have hB0:=hX.blk hB0 hn_hB0;have hB1:=hX.blk hB1 hn_hB1
     have hD10:=hX.blk hD10 hn_hD10;have hb:=hb.trans (hX.below.mono (show w.heap.size≤WB.heap.size by omega));clear hF hn_hB0 hn_hB1 hn_hD10;replace hWB:=Nat.le_trans hWB hX.below.size;obtain ⟨A7,c7,rfl,_,_⟩:=(Rd.of_own hO86).form;have hOW:_:=hO86;rw [show (dX l a f t k).map I64++[vI k]=((dX l a f t k)++[(k:Int)]).map I64 by rw [List.map_append];rfl] at hOW
     replace HPL:Hid (((dX l a f t k)++[(k:Int)]).length=n5+1):=by
      show _=_
      rw [List.length_append,HPL.out]
      rfl
     refine cX rfl g10 3 65 _ hD10 (.slice A7 (n5+1) c7) (by simp) (fun X u h1 h2=>tS _ _ (by rfl) _ _ (by rfl) (by rfl) u X h1 h2) ?_;intro w16 hR9 hG9;have hb:=bA hG9 hb hb.size (by omega);have hOW:=dT hOW hG9 (fun g h h9=>by injection h with h;have h8:=(cD hOW _ h9).1;omega);replace hWB:=Nat.le_trans hWB hG9.size;replace hB0:=aJ hG9 hB0 (by omega);replace hB1:=aJ hG9 hB1 (by omega)
     change Blk w16 g10 65 [.bool (rN (K0+(ent x a))),.string ⟨(rP (K0+(ent x a))).toArray⟩,.string ⟨(rD (K0+(ent x a))).toArray⟩,.slice A7 (n5+1) c7,vI 0] at hR9
     have hD10:=hR9;clear hR9 hG9;refine wpList_nil ?_
     have HK1:Hid ((K0+(ent x a))=iP l a f t (k+1)):=by
      show _=_
      rw [HNK.out,if_pos HCB.out]
     have HP1:Hid (dX l a f t (k+1)=dX l a f t k++[(k:Int)]):=by
      show _=_
      rw [HNP.out,if_pos HCB.out]
     rw [HK1.out] at hD10;rw [← HP1.out] at hOW HPL;go_upto_region 11 with fail;refine jp ?_;refine jm (vI k) ?_;refine jv (vI ((k+1:Nat):Int)) (aW _ _ _ _ (by rfl) (k:Int) 1 ((k+1:Nat):Int) (by rfl) (by rfl) (by omega) (by omega) (by omega)) ?_;refine jm (vI ((k+1:Nat):Int)) ?_;refine bE hb hB0 hB1 hD10 fun X7 hX7 hb hB0 hB1 hD10=>?_;have hOW:=bL hOW hX7;replace hWB:=Nat.le_trans hWB (hX7).size
     go_wp2
     go_roundw
     case rel=>exact ⟨k+1,n5+1,c7,A7,by omega,by omega,rfl,hD10,hB0,hB1,HPL,hOW,hb,hWB⟩
     case measure=>simp [intOf];omega
    ·have HD9:=Lib.hid h.2.1
     have HE9:=Lib.hid h.2.2;have HDC:Hid (x.deb=a∨x.cre=a):=.inr HE9.out;replace h:=h.1
     have HCB:Hid (eX x a f t=true):=by
      show _=_
      unfold eX
      rw [Bool.and_eq_true,Bool.and_eq_true,Bool.and_eq_true,Bool.or_eq_true,decide_eq_true_eq,decide_eq_true_eq,decide_eq_true_eq,decide_eq_true_eq,decide_eq_true_eq];exact ⟨⟨⟨by rw [HX.out];exact H3.out,h.1⟩,h.2⟩,HDC.out⟩
     go_upto_region 14 with fail;refine jp ?_;refine bH (.bool true) (.bool true) (vP g12 0) ?_;refine jf _ hD12 0 aA ?_;refine jm (vI f) ?_;refine gK x.day f (by omega) ?_;refine bH (.bool true) (.bool true) (vP g12 0) ?_;refine jf _ hD12 0 aA ?_;refine jm (vI t) ?_;refine lJ x.day t (by omega) ?_;refine bH (.bool true) (.bool true) (vP g12 1) ?_;refine jf _ hD12 1 aA ?_;refine jm (vI a) ?_;refine dF x.deb a HD9.out ?_;refine jmn (.bool false) (vP g12 2) ?_;refine jf _ hD12 2 aA ?_;refine jm (vI a) ?_;refine cP x.cre a HE9.out ?_;refine jmm (.bool true) (.bool true) ?_;refine cO hb hB0 hB1 hD10 hD12 fun X4 hX4 hb hB0 hB1 hD10 hD12=>?_;have hOW:=bL hOW hX4;replace hWB:=Nat.le_trans hWB (hX4).size;go_upto_region 15 with fail;refine bB [] (by kernel_rfl) (by kernel_rfl) (by kernel_rfl) rfl (aG) ?_;simp only [its,List.dropLast,Nat.zero_add,Nat.reduceAdd];refine jn (vP g10 0) ?_;refine jg (rt (rN K0) (rP K0) (rD K0)) (fun X hX hF=>aX 40 _ (by rfl) g10 0 [.bool (rN K0),vS (rP K0),vS (rD K0)] (by rfl) Tryz.underlying40 rfl X (hD10.bel hX) (by rfl) aC) ?_;refine ja hD12 Tryz.underlying76 (by rfl) aL ?_;refine jm (vI a) ?_;refine jc (rt (rN (ent x a)) (rP (ent x a)) (rD (ent x a))) (fun X hX hF=>qZb x a X HVL.out hne (hxs.mono (by decide))) ?_
     refine jc (rt (rN (K0+(ent x a))) (rP (K0+(ent x a))) (rD (K0+(ent x a)))) (fun X hX hF=>vQl (rN K0) (rP K0) (rD K0) (rN (ent x a)) (rP (ent x a)) (rD (ent x a)) (eK K0) (eK (ent x a)) X (tzR LB0 (by omega)) (tzR LB1 (by omega))) ?_;refine jn (vP g10 0) ?_;refine cO hb hB0 hB1 hD10 hD12 fun X5 hX5 hb hB0 hB1 hD10 hD12=>?_;have hOW:=bL hOW hX5;replace hWB:=Nat.le_trans hWB (hX5).size;refine cL rfl 40 (.tmp 81) (.tmp 80) rfl g10 65 _ hD10 0 rfl [.bool (rN (K0+(ent x a))),.string ⟨(rP (K0+(ent x a))).toArray⟩,.string ⟨(rD (K0+(ent x a))).toArray⟩] rfl (by simp) (al3 rfl rfl rfl) aC ?_;intro w15 hR9 hG9 hs9;have hb:=bA hG9 hb hb.size (by omega);have hOW:=dT hOW hG9 (fun g h h9=>by injection h with h;have h8:=(cD hOW _ h9).1;omega);replace hWB:=Nat.le_trans hWB hG9.size;replace hB0:=aJ hG9 hB0 (by omega);replace hB1:=aJ hG9 hB1 (by omega);replace hD12:=aJ hG9 hD12 (by omega)
     change Blk w15 g10 65 [.bool (rN (K0+(ent x a))),.string ⟨(rP (K0+(ent x a))).toArray⟩,.string ⟨(rD (K0+(ent x a))).toArray⟩,.slice A5 n5 c5,vI 0] at hR9
     have hD10:=hR9;clear hR9 hG9 hs9;refine wpList_nil ?_;go_upto_region 16 with fail
     have hbA:WB.heap.size≤w15.heap.size:=by omega
     have hn_hB0:(Value.ownBlock (.slice A5 n5 c5))≠some w.heap.size:=fun h9=>by have h8:=cD hOW _ h9;omega
     have hn_hB1:(Value.ownBlock (.slice A5 n5 c5))≠some (w.heap.size+1):=fun h9=>by have h8:=cD hOW _ h9;omega
     have hn_hD10:(Value.ownBlock (.slice A5 n5 c5))≠some g10:=fun h9=>by have h8:=cD hOW _ h9;omega
     refine nX 6 (⟨WB.heap.size,3,1,.slice A5 n5 c5,n5,((dX l a f t k).map I64),[vI k]⟩:Ar) 4 [none,none,none,some (Anew (⟨WB.heap.size,3,1,.slice A5 n5 c5,n5,((dX l a f t k).map I64),[vI k]⟩:Ar) 3),some (Aout (⟨WB.heap.size,3,1,.slice A5 n5 c5,n5,((dX l a f t k).map I64),[vI k]⟩:Ar))] (kN (kN (kN (oH (fun v X Y h hR=>Anew.lasts v X Y h hR) (oH (fun v X Y h hR=>Aout.lasts v X Y h hR) (qVm)))))) ?_;simp only [iB,List.take,List.drop,Nat.reduceAdd];refine an (vP g10 3) ?_;refine ag hOW hbA (.slice A5 n5 c5) (fun X σ hX hF=>aR 61 _ (by rfl) g10 3 (by rfl) _ X ((hX.blk hD10 hn_hD10).cell (j:=3) rfl) (fun X u h=>pF g10 3 X u h)) ?_;refine am (vI k) ?_;refine ab hOW 3 (fun X=>by unfold execOp;go_simp) ?_;intro v85;refine aa hOW hbA 3 3 v85 List.mem_cons_self Tryz.underlying61 tK rfl (show 0<1 by decide) (by rfl) (by intro u hu;simp only [List.mem_cons,List.not_mem_nil,or_false] at hu;rcases hu with rfl <;> rfl) (show n5+1≤maxLen by unfold maxLen;omega) (show (n5+1) * 8≤140737488355328 by omega) ?_;intro v86;refine an (vP g10 3) ?_;refine az hOW hbA ?_;intro X6 σ hX hF;have hO86:X6.ownsRow WB.heap.size 3 1 v86 (n5+1) (((dX l a f t k).map I64)++[vI k]):=(hF _ _ List.mem_cons_self).2;have hB0:=hX.blk hB0 hn_hB0;have hB1:=hX.blk hB1 hn_hB1
     have hD10:=hX.blk hD10 hn_hD10;have hb:=hb.trans (hX.below.mono (show w.heap.size≤WB.heap.size by omega));clear hF hn_hB0 hn_hB1 hn_hD10;replace hWB:=Nat.le_trans hWB hX.below.size;obtain ⟨A7,c7,rfl,_,_⟩:=(Rd.of_own hO86).form;have hOW:_:=hO86;rw [show (dX l a f t k).map I64++[vI k]=((dX l a f t k)++[(k:Int)]).map I64 by rw [List.map_append];rfl] at hOW
     replace HPL:Hid (((dX l a f t k)++[(k:Int)]).length=n5+1):=by
      show _=_
      rw [List.length_append,HPL.out]
      rfl
     refine cX rfl g10 3 65 _ hD10 (.slice A7 (n5+1) c7) (by simp) (fun X u h1 h2=>tS _ _ (by rfl) _ _ (by rfl) (by rfl) u X h1 h2) ?_;intro w16 hR9 hG9;have hb:=bA hG9 hb hb.size (by omega);have hOW:=dT hOW hG9 (fun g h h9=>by injection h with h;have h8:=(cD hOW _ h9).1;omega);replace hWB:=Nat.le_trans hWB hG9.size;replace hB0:=aJ hG9 hB0 (by omega);replace hB1:=aJ hG9 hB1 (by omega)
     change Blk w16 g10 65 [.bool (rN (K0+(ent x a))),.string ⟨(rP (K0+(ent x a))).toArray⟩,.string ⟨(rD (K0+(ent x a))).toArray⟩,.slice A7 (n5+1) c7,vI 0] at hR9
     have hD10:=hR9;clear hR9 hG9;refine wpList_nil ?_
     have HK1:Hid ((K0+(ent x a))=iP l a f t (k+1)):=by
      show _=_
      rw [HNK.out,if_pos HCB.out]
     have HP1:Hid (dX l a f t (k+1)=dX l a f t k++[(k:Int)]):=by
      show _=_
      rw [HNP.out,if_pos HCB.out]
     rw [HK1.out] at hD10;rw [← HP1.out] at hOW HPL;go_upto_region 11 with fail;refine jp ?_;refine jm (vI k) ?_;refine jv (vI ((k+1:Nat):Int)) (aW _ _ _ _ (by rfl) (k:Int) 1 ((k+1:Nat):Int) (by rfl) (by rfl) (by omega) (by omega) (by omega)) ?_;refine jm (vI ((k+1:Nat):Int)) ?_;refine bE hb hB0 hB1 hD10 fun X7 hX7 hb hB0 hB1 hD10=>?_;have hOW:=bL hOW hX7;replace hWB:=Nat.le_trans hWB (hX7).size
     go_wp2
     go_roundw
     case rel=>exact ⟨k+1,n5+1,c7,A7,by omega,by omega,rfl,hD10,hB0,hB1,HPL,hOW,hb,hWB⟩
     case measure=>simp [intOf];omega
  ·have HKN:Hid (k=l.length):=by show _=_;rw [HLN.out];omega
   go_upto_region 10 with fail;refine jp ?_;refine jmn (vI k) (vP w.heap.size 0) ?_;refine jn (vP w.heap.size 1) ?_;refine jf _ hB0 1 aS ?_;refine jv (vI n) (aH Tryz.underlying22 _ (by rfl) A n cp (by rfl) _ rfl) ?_;refine bK (k:Int) (n:Int) (by omega) ?_;refine bE hb hB0 hB1 hD10 fun X1 hX1 hb hB0 hB1 hD10=>?_;have hOW:=bL hOW hX1;replace hWB:=Nat.le_trans hWB (hX1).size;go_upto_region 17 with fail;refine jq 1 ?_;refine ja hD10 Tryz.underlying65 (by rfl) dZ ?_;refine bE hb hB0 hB1 hD10 fun X2 hX2 hb hB0 hB1 hD10=>?_;have hOW:=bL hOW hX2;replace hWB:=Nat.le_trans hWB (hX2).size;refine bM rfl 65 (.tmp 8) (.tmp 88) rfl (w.heap.size+1) 65 _ hB1 rfl [.bool (rN (iP l a f t k)),vS (rP (iP l a f t k)),vS (rD (iP l a f t k)),.slice A5 n5 c5,vI 0] rfl (by rfl) (al5 rfl rfl rfl rfl rfl) dZ ?_;intro w9 hR9 hG9;have hb:=bA hG9 hb hb.size (by omega);have hOW:=dT hOW hG9 (fun g h h9=>by injection h with h;have h8:=(cD hOW _ h9).1;omega)
   go_wp2
   refine aY rfl rfl (by rfl) Tryz.underlying65 rfl hR9 dZ ⟨_,rfl,⟨_,by rw [HE.out,HQ1.out,← HKN.out],by rw [HQ2.out,← HKN.out];exact vYe hOW HPL.out⟩,hb⟩
theorem rcaC (B:Nat) (c:Int) (v z:Value) (l:List En) (cs:List Cg) (a f t:Int) (w:World) (hv:Es l v w) (hz:Cs B cs z w) (hs1:Hid (Sz45 l)):Calls Tryz.prog 19 #[.agg #[vI c,v,z],vI a,vI f,vI t] w fun e w'=>∃ u,e=.returned u∧Sm45 (fI c l cs a f t) (jO c l cs a f t) (eP c l cs a f t) u w'∧Since w w':=by
 by_cases h0:peE c l cs=0
 ·by_cases h1:dK c 0 a f=0
  ·rcases (show (t<0∨14609<t)∨(0≤t∧t≤14609) by omega) with h|h
   ·exact rca2 B c v z l cs a f t w hv hz hs1 h0 h1 h
   ·exact rca3 B c v z l cs a f t w hv hz hs1 h0 h1 h
  ·exact rca1 B c v z l cs a f t w hv hz hs1 h0 h1
 ·exact rca0 B c v z l cs a f t w hv hz hs1 h0
def gI (l:List En) (cs:List Cg) (q:Nat):Bool:=iZ l q && (decide (cs.length≤20) || (decide (4000<cs.length) && decide (cs.length≤4005)))
theorem wZ {l:List En} {cs:List Cg} {q:Nat} (h:gI l cs q=true):iZ l q=true:=by
 unfold gI at h
 rw [Bool.and_eq_true] at h;exact h.1
theorem rfwC (B:Nat) (c:Int) (v z:Value) (l:List En) (cs:List Cg) (q:Nat) (w:World) (hv:Es l v w) (hz:Cs B cs z w) (hq:q≤3000):Calls Tryz.prog 5 #[.agg #[vI c,v,z],vI q] w fun e w'=>e=.returned (.bool (gI l cs q))∧Since w w':=by
 obtain ⟨A,n,cp,A2,m,cp2,rfl,rfl,hln,hn1,hlm,hm1,HRX,HLN,HES,HCS,HRC,HLM⟩:=eR hv hz;clear hv hz;obtain ⟨fb,fb9⟩:∃ z,iZ l q=z:=⟨_,rfl⟩;have HFB:=Lib.hid fb9;clear fb9
 go_enter Tryz.func5,Tryz.ntmps5
 go_upto_region 1 with fail;obtain ⟨W0,hW0,hB0,hb⟩:=aP w 27 [vI c,.slice A n cp,.slice A2 m cp2];rw [← hW0];clear hW0;refine jp ?_;refine jn (vP w.heap.size 0) ?_;refine jg (.agg #[vI c,.slice A n cp]) (fun X hX hF=>aX 24 _ (by rfl) w.heap.size 0 [vI c,.slice A n cp] (by rfl) Tryz.underlying24 rfl X (hB0.bel hX) (by rfl) bW) ?_;refine jm (vI q) ?_;refine jc (.bool fb) (fun X hX hF=>mo (fwbC c _ l q X (HES.out X (Since.next hb hX)) hq) (by rw [HFB.out])) ?_;refine jm (.bool fb) ?_;refine aQ hb hB0 fun X1 hX1 hb hB0=>?_;go_upto_region 2 with fail;refine jp ?_;refine jn (vP w.heap.size 2) ?_;refine jf _ hB0 2 bD ?_;refine jv (vI m) (aH Tryz.underlying25 _ (by rfl) A2 m cp2 (by rfl) _ rfl) ?_;refine jm (vI m) ?_;refine aQ hb hB0 fun X2 hX2 hb hB0=>?_
 rcases fb with _|_
 ·skip
  go_upto_region 3 with fail;refine jp ?_;refine jmm (.bool false) (.bool false) ?_;refine cU ?_;refine jss ?_;refine jmm (.bool false) (.bool false) ?_;refine aQ hb hB0 fun X3 hX3 hb hB0=>?_
  have HC:Hid (gI l cs q=false):=by
   show _=_
   unfold gI
   rw [HFB.out,HLM.out] <;> rfl
  go_wp2
  go_ret
  exact ⟨by rw [HC.out];rfl,hb⟩
 ·skip
  rcases (show m≤20∨(20<m∧m≤4000)∨(4000<m∧m≤4005)∨4005<m by omega) with h|h|h|h
  ·go_upto_region 3 with fail
   refine jp ?_;refine aU (.bool true) (.bool true) (vI m) ?_;refine lJ (m:Int) 20 (by omega) ?_;refine jm (.bool true) ?_;refine bS ?_;refine jss ?_;refine aU (.bool true) (.bool true) (.bool true) ?_;refine aQ hb hB0 fun X3 hX3 hb hB0=>?_
   have HC:Hid (gI l cs q=true):=by
    show _=_
    unfold gI
    rw [HFB.out,HLM.out,decide_eq_true (show (m≤20) by omega)] <;> rfl
   go_wp2
   go_ret
   exact ⟨by rw [HC.out];rfl,hb⟩
  ·go_upto_region 3 with fail
   refine jp ?_;refine aU (.bool true) (.bool true) (vI m) ?_;refine jV (m:Int) 20 (by omega) ?_;refine jmm (.bool false) (vI m) ?_;refine cB (m:Int) 4000 (by omega) ?_;refine jm (.bool false) ?_;refine jss ?_;refine aU (.bool false) (.bool false) (.bool false) ?_;refine jm (.bool false) ?_;refine aQ hb hB0 fun X3 hX3 hb hB0=>?_
   have HC:Hid (gI l cs q=false):=by
    show _=_
    unfold gI
    rw [HFB.out,HLM.out,decide_eq_false (show ¬ (m≤20) by omega),decide_eq_false (show ¬ (4000<m) by omega)] <;> rfl
   go_wp2
   go_ret
   exact ⟨by rw [HC.out];rfl,hb⟩
  ·go_upto_region 3 with fail
   refine jp ?_;refine aU (.bool true) (.bool true) (vI m) ?_;refine jV (m:Int) 20 (by omega) ?_;refine jmm (.bool false) (vI m) ?_;refine cI (m:Int) 4000 (by omega) ?_;refine jmm (.bool true) (vI m) ?_;refine lJ (m:Int) 4005 (by omega) ?_;refine aU (.bool true) (.bool true) (.bool true) ?_;refine jm (.bool true) ?_;refine aQ hb hB0 fun X3 hX3 hb hB0=>?_
   have HC:Hid (gI l cs q=true):=by
    show _=_
    unfold gI
    rw [HFB.out,HLM.out,decide_eq_false (show ¬ (m≤20) by omega),decide_eq_true (show (4000<m) by omega),decide_eq_true (show (m≤4005) by omega)] <;> rfl
   go_wp2
   go_ret
   exact ⟨by rw [HC.out];rfl,hb⟩
  ·go_upto_region 3 with fail
   refine jp ?_;refine aU (.bool true) (.bool true) (vI m) ?_;refine jV (m:Int) 20 (by omega) ?_;refine jmm (.bool false) (vI m) ?_;refine cI (m:Int) 4000 (by omega) ?_;refine jmm (.bool true) (vI m) ?_;refine jV (m:Int) 4005 (by omega) ?_;refine aU (.bool false) (.bool false) (.bool false) ?_;refine jm (.bool false) ?_;refine aQ hb hB0 fun X3 hX3 hb hB0=>?_
   have HC:Hid (gI l cs q=false):=by
    show _=_
    unfold gI
    rw [HFB.out,HLM.out,decide_eq_false (show ¬ (m≤20) by omega),decide_eq_true (show (4000<m) by omega),decide_eq_false (show ¬ (m≤4005) by omega)] <;> rfl
   go_wp2
   go_ret
   exact ⟨by rw [HC.out];rfl,hb⟩
end Go.Proofs.YtjkfchehkpmhkaaGreatDoor

/- period: New, end, party, carried. -/
import Derived.Test.YtjkfchehkpmhkaaGreatDoorAe
import Derived.Test.YtjkfchehkpmhkaaGreatDoorPl45b
set_option linter.unusedSimpArgs false
set_option linter.unusedVariables false
set_option maxRecDepth 100000
set_option maxHeartbeats 1600000
namespace Go.Proofs.YtjkfchehkpmhkaaGreatDoor
open Go.RowKit
theorem aK:(Tryz.prog.info? 27).map (·.size)=some 3:=by kernel_rfl
theorem mE:(Tryz.prog.info? 79).map (·.size)=some 3:=by kernel_rfl
theorem bP:(Tryz.prog.info? 72).map (·.size)=some 2:=by kernel_rfl
theorem xB:(Tryz.prog.info? 44).map (·.size)=some 10:=by kernel_rfl
theorem dY:(Tryz.prog.info? 55).map (·.size)=some 7:=by kernel_rfl
theorem jD:(Tryz.prog.info? 96).map (·.size)=some 18:=by kernel_rfl
theorem aZ (b k:Nat) (X:World) (v:Value) (h:X.cell? ⟨b,k,none⟩=some v):(loadVar 25 ⟨b,k,none⟩).run Tryz.prog X=.ok v X:=by
 go_simp
def clc (x:Cg):List Value:=[vI x.day,vI x.place]
theorem sI (x:Cg):(clc x).length=2:=rfl
theorem xK (l:List Cg):(fl clc l).length=l.length * 2:=nD (fun x _=>sI x)
def Cs (B:Nat) (l:List Cg) (v:Value) (X:World):Prop:=Rd X 2 v l.length (fl clc l)∧∀ b off n c,v=.slice (some ⟨b,off,none⟩) n c→0<n→b<B∨∃ arr fr,X.heap[b]?=some (.cells arr 72 fr)
theorem Cs.rd {B:Nat} {l:List Cg} {v:Value} {X:World} (h:Cs B l v X):Rd X 2 v l.length (fl clc l):=h.1
theorem Cs.mono {B B':Nat} {l:List Cg} {v:Value} {X:World} (h:Cs B l v X) (hB:B≤B'):Cs B' l v X:=⟨h.1,fun b off n c h1 h2=>(h.2 b off n c h1 h2).imp (fun h3=>by omega) id⟩
theorem Cs.low {l:List Cg} {v:Value} {X:World} (h:Rd X 2 v l.length (fl clc l)):Cs X.heap.size l v X:=⟨h,fun b off n c h1 h2=>.inl (by
 obtain ⟨_,A,c',h3,_,_,_,h4⟩:=h;rw [h1] at h3
 injection h3 with e1 e2 e3
 obtain ⟨b',off',h5,h6,_⟩:=h4 (by omega);rw [← e1] at h5
 injection h5 with h5
 injection h5 with h5 _
 omega)⟩
theorem Cs.lasts (B:Nat) (l:List Cg):eJ (Cs B l):=by
 rintro v X Y ⟨h1,h2⟩ hS
 refine ⟨Rd.below h1 hS,fun b off n c h3 h4=>?_⟩
 rcases h2 b off n c h3 h4 with h5|⟨arr,fr,h5⟩
 ·exact .inl h5
 ·exact .inr ⟨arr,fr,(hS.block b (Array.getElem?_eq_some_iff.1 h5).1).trans h5⟩
theorem Cs.form {B:Nat} {l:List Cg} {v:Value} {X:World} (h:Cs B l v X):∃ A c,v=.slice A l.length c:=by
 obtain ⟨⟨_,A,c,h1,_⟩,_⟩:=h;exact ⟨A,c,h1⟩
theorem Cs.at {B:Nat} {l:List Cg} {v:Value} {w:World} (h:Cs B l v w):∃ A n c,v=.slice A n c∧l.length=n∧n≤9223372036854775807∧Rd w 2 (.slice A n c) n (fl clc l):=by
 have h8:=h.1;obtain ⟨hl,A,c,h2,hc,hm,hx⟩:=h.1;subst h2;refine ⟨A,l.length,c,rfl,rfl,?_,h8⟩
 unfold maxLen at hm
 omega
theorem Cs.grown {X Y:World} {B g:Nat} {T:TypeId} {l:List Cg} {v:Value} {ys:List Value} (hG:X.grownBy Y (some g)) (h:Cs B l v X) (hB:Blk X g T ys) (hg:B≤g) (hT:(T == 72)=false):Cs B l v Y:=by
 have hne:∀ b off n c,v=.slice (some ⟨b,off,none⟩) n c→0<n→b≠g:=fun b off n c h1 h2 h9=>by
  subst h9
  rcases h.2 b off n c h1 h2 with h3|⟨arr,fr,h3⟩
  ·omega
  ·have h4:X.heap[b]?=some (.cells ys.toArray T (0,0)):=hB
   rw [h3] at h4
   injection h4 with h4
   injection h4 with _ h5 _
   rw [← h5] at hT
   simp at hT
 obtain ⟨⟨hl,A,c,hv,hc,hm,hz,hx⟩,h2⟩:=h;refine ⟨⟨hl,A,c,hv,hc,hm,hz,fun hn=>?_⟩,fun b off n c h3 h4=>?_⟩
 ·obtain ⟨b,off,hA,hb,hcell⟩:=hx hn
  refine ⟨b,off,hA,Nat.lt_of_lt_of_le hb hG.size,fun j u hj=>?_⟩;have h1:=hcell j u hj;subst hA;have hn9:b≠g:=hne b off l.length c hv hn;exact (World.cell?_of_block (w:=X) (a:=⟨b,off+j,none⟩) (hG.block b hb (fun e=>hn9 (by injection e)))).trans h1
 ·rcases h2 b off n c h3 h4 with h5|⟨arr,fr,h5⟩
  ·exact .inl h5
  ·exact .inr ⟨arr,fr,(hG.block b (Array.getElem?_eq_some_iff.1 h5).1 (fun e=>hne b off n c h3 h4 (by injection e))).trans h5⟩
theorem dW (B:Nat) (X:World):Cs B [] (.slice none 0 0) X:=⟨Rd.nil_ _ _,fun b off n c h1=>by cases h1⟩
theorem qXr {X:World} {B base k:Nat} {v:Value} {l:List Cg} (h:X.ownsRow base 72 2 v k (fl clc l)) (hk:l.length=k):Cs B l v X:=by
 refine ⟨by rw [hk];exact Rd.of_own h,fun b off n c h1 h2=>.inr ?_⟩
 rcases h.2 with ⟨h3,_⟩|⟨g,cap,cur,h3,_,h4,_⟩
 ·rw [h1] at h3
  cases h3
 ·rw [h1] at h3
  injection h3 with h3
  injection h3 with h3
  injection h3 with h3
  subst h3;exact ⟨_,_,h4⟩
theorem iL {w:World} {A:Option Addr} {n c:Nat} {l:List Cg} (h:Rd w 2 (.slice A n c) n (fl clc l)) (hl:l.length=n) {k:Nat} (hk:k<n):∃ b off,A=some ⟨b,off,none⟩∧b<w.heap.size∧Cl w b (off+k * 2) (clc (cg l k)):=by
 obtain ⟨b,off,x,hA,hb,hc,_,hd⟩:=h.atF (m:=2) (fun x _=>sI x) (by omega) (k:=k) (by omega);have h1:=congrArg (·[0]?) hd.out;rw [cg_in (by omega)]
 have h2:l[k]=x:=by
  have h3:l[k]?=some x:=by simpa [List.getElem?_drop] using h1
  rw [List.getElem?_eq_getElem (by omega)] at h3
  injection h3
 rw [h2];exact ⟨b,off,hA,hb,hc⟩
theorem qXx {w:World} {b off n c:Nat} {l:List Cg} (h:Rd w 2 (.slice (some ⟨b,off,none⟩) n c) n (fl clc l)) (hl:l.length=n) {k:Nat} (hk:k<n):b<w.heap.size∧Cl w b (off+k * 2) (clc (cg l k)):=by
 obtain ⟨b2,off2,h1,h2,h3⟩:=iL h hl hk
 injection h1 with h1
 injection h1 with h4 h5
 subst h4 h5;exact ⟨h2,h3⟩
theorem eU {w:World} {B:Nat} {l:List En} {cs:List Cg} {v z:Value} (hv:Es l v w) (hz:Cs B cs z w):∃ (A:Option Addr) (n cp:Nat) (A2:Option Addr) (m cp2:Nat),v=.slice A n cp∧z=.slice A2 m cp2∧l.length=n∧n≤9223372036854775807∧cs.length=m∧m≤9223372036854775807∧Hid (∀ X,Since w X→Rd X 13 (.slice A n cp) n (fl enc l))∧Hid (l.length=n)∧Hid (∀ X,Since w X→Es l (.slice A n cp) X)∧Hid (∀ X,Since w X→Cs B cs (.slice A2 m cp2) X)∧Hid (∀ X,Since w X→Rd X 2 (.slice A2 m cp2) m (fl clc cs))∧Hid (cs.length=m):=by
 obtain ⟨A,n,cp,rfl,hln,hn1,hr⟩:=hv.at;obtain ⟨A2,m,cp2,rfl,hlm,hm1,hr2⟩:=hz.at;exact ⟨A,n,cp,A2,m,cp2,rfl,rfl,hln,hn1,hlm,hm1,fun X h=>Rd.below hr h,hln,fun X h=>Es.lasts l _ _ _ hv h,fun X h=>Cs.lasts B cs _ _ _ hz h,fun X h=>Rd.below hr2 h,hlm⟩
def Prs (B:Nat) (c:Int) (l:List En) (cs:List Cg) (v:Value) (X:World):Prop:=∃ u z,v=.agg #[vI c,u,z]∧Es l u X∧Cs B cs z X
theorem Prs.lasts (B:Nat) (c:Int) (l:List En) (cs:List Cg):eJ (Prs B c l cs):=by
 rintro v X Y ⟨u,z,h1,h2,h3⟩ hS
 exact ⟨u,z,h1,Es.lasts l _ _ _ h2 hS,Cs.lasts B cs _ _ _ h3 hS⟩
def sgc (q:Stg):List Value:=[vI q.day,vI q.pd,vI q.ac,.bool q.am.1,vS q.am.2.1,vS q.am.2.2,vI q.w1,vI q.w2,vI q.w3,vI q.w4]
theorem kM {cs:List Cg} {x:En} {k:Nat} (h:x.kd=3):cI cs x k=(decide (x.rf=-1) && (btw x 1 && decide (gI cs x.pd≤(k:Int)))):=by
 unfold cI
 rw [if_pos h]
theorem gH {cs:List Cg} {x:En} {k:Nat} (h:x.kd≠3):cI cs x k=(decide (x.rf=-1) && (btw x 0 && decide (x.kd=1) && !decide (gI cs x.pd≤(k:Int)))):=by
 unfold cI
 rw [if_neg h]
def pty (x:En) (o:Int):Int:=if o=x.deb then x.cre else if o=x.cre then x.deb else 0
theorem btw_d {x:En} {o:Int} (h:o=x.deb):btw x o=decide (1<x.cre):=by
 unfold btw
 rw [decide_eq_true h.symm,Bool.true_and]
 by_cases h2:x.cre=o
 ·rw [decide_eq_true h2,Bool.true_and,← h,← h2,Bool.or_self]
 ·rw [decide_eq_false h2,Bool.false_and,Bool.or_false]
theorem btw_c {x:En} {o:Int} (h0:o≠x.deb) (h:o=x.cre):btw x o=decide (1<x.deb):=by
 unfold btw
 rw [decide_eq_false (fun h9=>h0 h9.symm),Bool.false_and,Bool.false_or,decide_eq_true h.symm,Bool.true_and]
theorem btw_n {x:En} {o:Int} (h0:o≠x.deb) (h:o≠x.cre):btw x o=false:=by
 unfold btw
 rw [decide_eq_false (show ¬ x.deb=o from fun h9=>h0 h9.symm),decide_eq_false (show ¬ x.cre=o from fun h9=>h h9.symm)]
 rfl
theorem vQs (a:Int) (w:World):Calls Tryz.prog 7 #[vI a] w fun e w'=>e=.returned (.tuple #[.agg #[vI (qC a),.slice none 0 0,.slice none 0 0],vI (qB a)])∧Since w w':=by
 rcases (show a<1∨(1≤a∧98<a)∨(1≤a∧a≤98) by omega) with h|h|h
 ·have HE:Hid (qB a=3):=if_pos (by omega)
  have HC:Hid (qC a=0):=if_pos (by omega)
  go_enter Tryz.func7,Tryz.ntmps7
  go_upto_region 1 with fail;obtain ⟨W0,hW0,hB0,hb⟩:=aT w 27 [vI 0,.slice none 0 0,.slice none 0 0];rw [← hW0];clear hW0;refine jp ?_;refine jm (vI a) ?_;refine cE a 1 (by omega) ?_;refine jm (.bool true) ?_;refine jss ?_;refine jm (.bool true) ?_;refine aQ hb hB0 fun X1 hX1 hb hB0=>?_;go_upto_region 2 with fail;refine jq 1 ?_;refine jn (.agg #[vI 0,.slice none 0 0,.slice none 0 0]) ?_;refine aQ hb hB0 fun X2 hX2 hb hB0=>?_;refine osb 27 2 10 w.heap.size 27 hB0 [vI 0,.slice none 0 0,.slice none 0 0] aK ?_;intro w9 hR9 hO9 hB9 hs9;have hb9:=hB9 _ _ hb (by omega);clear hO9 hB9
  go_wp2
  refine bQ (v:=vI 3) rfl rfl (by rfl) (by rfl) Tryz.underlying27 rfl hR9 aK ⟨by rw [HE.out,HC.out],hb9⟩
 ·have HE:Hid (qB a=3):=if_pos (by omega)
  have HC:Hid (qC a=0):=if_pos (by omega)
  go_enter Tryz.func7,Tryz.ntmps7
  go_upto_region 1 with fail;obtain ⟨W0,hW0,hB0,hb⟩:=aT w 27 [vI 0,.slice none 0 0,.slice none 0 0];rw [← hW0];clear hW0;refine jp ?_;refine jm (vI a) ?_;refine bI a 1 (by omega) ?_;refine jmm (.bool false) (vI a) ?_;refine cD a 98 (by omega) ?_;refine jm (.bool true) ?_;refine aQ hb hB0 fun X1 hX1 hb hB0=>?_;go_upto_region 2 with fail;refine jq 1 ?_;refine jn (.agg #[vI 0,.slice none 0 0,.slice none 0 0]) ?_;refine aQ hb hB0 fun X2 hX2 hb hB0=>?_;refine osb 27 2 10 w.heap.size 27 hB0 [vI 0,.slice none 0 0,.slice none 0 0] aK ?_;intro w9 hR9 hO9 hB9 hs9;have hb9:=hB9 _ _ hb (by omega);clear hO9 hB9
  go_wp2
  refine bQ (v:=vI 3) rfl rfl (by rfl) (by rfl) Tryz.underlying27 rfl hR9 aK ⟨by rw [HE.out,HC.out],hb9⟩
 ·have HE:Hid (qB a=0):=if_neg (by omega)
  have HC:Hid (qC a=a+2):=if_neg (by omega)
  go_enter Tryz.func7,Tryz.ntmps7
  go_upto_region 1 with fail;obtain ⟨W0,hW0,hB0,hb⟩:=aT w 27 [vI 0,.slice none 0 0,.slice none 0 0];rw [← hW0];clear hW0;refine jp ?_;refine jm (vI a) ?_;refine bI a 1 (by omega) ?_;refine jmm (.bool false) (vI a) ?_;refine bZ a 98 (by omega) ?_;refine jm (.bool false) ?_;refine aQ hb hB0 fun X1 hX1 hb hB0=>?_;go_upto_region 3 with fail;refine jq 4 ?_;refine jm (vI a) ?_;refine jv (vI (a+2)) (bB _ _ _ _ (by rfl) a 2 (a+2) (by rfl) (by rfl) (by omega) (by omega) (by omega)) ?_;refine jnn (.agg #[vI (a+2),.slice none 0 0]) (.agg #[vI (a+2),.slice none 0 0,.slice none 0 0]) ?_;refine aQ hb hB0 fun X2 hX2 hb hB0=>?_;refine osb 27 2 14 w.heap.size 27 hB0 [vI (a+2),.slice none 0 0,.slice none 0 0] aK ?_;intro w9 hR9 hO9 hB9 hs9;have hb9:=hB9 _ _ hb (by omega);clear hO9 hB9
  go_wp2
  refine bQ (v:=vI 0) rfl rfl (by rfl) (by rfl) Tryz.underlying27 rfl hR9 aK ⟨by rw [HE.out,HC.out],hb9⟩
theorem endC (B:Nat) (c:Int) (v z:Value) (l:List En) (cs:List Cg) (p:Int) (w:World) (hv:Es l v w) (hz:Cs B cs z w) (hp:0≤p):Calls Tryz.prog 84 #[.agg #[vI c,v,z],vI p] w fun e w'=>e=.returned (vI (gI cs p))∧Since w w':=by
 obtain ⟨k,rfl⟩:∃ k:Nat,p=(k:Int):=⟨p.toNat,by omega⟩;obtain ⟨A,n,cp,A2,m,cp2,rfl,rfl,hln,hn1,hlm,hm1,HRX,HLN,HES,HCS,HRC,HLM⟩:=eU hv hz;clear hv hz
 go_enter Tryz.func84,Tryz.ntmps84
 go_upto_region 1 with fail;obtain ⟨W0,hW0,hB0,hb⟩:=aT w 79 [vI c,.slice A n cp,.slice A2 m cp2];rw [← hW0];clear hW0
 rcases Nat.lt_or_ge k m with hlt|hlt
 ·obtain ⟨b2,off2,rfl,hbb2,hcx2⟩:=iL (HRC.out _ hb) HLM.out (k:=k) (by omega)
  obtain ⟨y,y9⟩:∃ y,y=cg cs k:=⟨_,rfl⟩;have HY:=Lib.hid y9;clear y9;rw [← HY.out] at hcx2
  change Cl W0 b2 (off2+k * 2) [vI y.day,vI y.place] at hcx2
  have HC:Hid (gI cs (k:Int)=y.place):=by
   show _=_
   unfold gI
   rw [if_pos (by rw [HLM.out];omega),Int.toNat_natCast,← HY.out]
  refine jp ?_;refine jm (vI k) ?_;refine jnf hB0 2 aZ ?_;refine jv (vI m) (aF Tryz.underlying25 _ (by rfl) (some ⟨b2,off2,none⟩) m cp2 (by rfl) _ rfl) ?_;refine cE (k:Int) (m:Int) (by omega) ?_;refine aQ hb hB0 fun X1 hX1 hb hB0=>?_;have hcx2:=hcx2.below hX1 hbb2;replace hbb2:=Nat.lt_of_lt_of_le hbb2 (hX1).size;go_upto_region 2 with fail;refine jp ?_;refine jnf hB0 2 aZ ?_;refine jm (vI k) ?_;refine jv (vP b2 (off2+k * 2)) (aR Tryz.underlying25 bP _ _ (by rfl) b2 (off2) m cp2 k (by omega) (by rfl) (by rfl) rfl) ?_;refine jn (vP b2 (off2+k * 2+1)) ?_;refine jg (vI y.place) (fun X hX hF=>aP 3 _ (by rfl) b2 (off2+k * 2+1) (by rfl) _ X ((hcx2.below hX hbb2) 1 _ rfl) (fun X u h=>aA b2 (off2+k * 2+1) X u h)) ?_;refine jm (vI y.place) ?_;refine aQ hb hB0 fun X2 hX2 hb hB0=>?_;have hcx2:=hcx2.below hX2 hbb2;replace hbb2:=Nat.lt_of_lt_of_le hbb2 (hX2).size
  go_wp2
  go_ret
  exact ⟨by rw [HC.out];rfl,hb⟩
 ·have HC:Hid (gI cs (k:Int)=4001):=by
   show _=_
   unfold gI
   rw [if_neg (by rw [HLM.out];omega)]
  refine jp ?_;refine jm (vI k) ?_;refine jnf hB0 2 aZ ?_;refine jv (vI m) (aF Tryz.underlying25 _ (by rfl) A2 m cp2 (by rfl) _ rfl) ?_;refine bI (k:Int) (m:Int) (by omega) ?_;refine aQ hb hB0 fun X1 hX1 hb hB0=>?_;go_upto_region 3 with fail;refine jp ?_;refine jm (vI 4001) ?_;refine aQ hb hB0 fun X2 hX2 hb hB0=>?_
  go_wp2
  go_ret
  exact ⟨by rw [HC.out];rfl,hb⟩
theorem ptyC (x:En) (o:Int) (w:World):Calls Tryz.prog 85 #[.agg #[vI x.day,vI x.deb,vI x.cre,.bool x.am.1,vS x.am.2.1,vS x.am.2.2,vI x.kd,vI x.pd,vI x.rf,vI x.w1,vI x.w2,vI x.w3,vI x.w4],vI o] w fun e w'=>e=.returned (.tuple #[vI (pty x o),.bool (btw x o)])∧Since w w':=by
 go_enter Tryz.func85,Tryz.ntmps85
 go_upto_region 1 with fail;obtain ⟨W0,hW0,hB0,hb⟩:=aT w 76 (eL x);rw [← hW0];clear hW0;refine jp ?_;refine jm (vI o) ?_;refine aQ hb hB0 fun X1 hX1 hb hB0=>?_
 rcases (show o=x.deb∨(o≠x.deb∧o=x.cre)∨(o≠x.deb∧o≠x.cre) by omega) with h|h|h
 ·have H1:=Lib.hid h
  clear h;have HB:Hid (btw x o=decide (1<x.cre)):=btw_d H1.out;have HP:Hid (pty x o=x.cre):=if_pos H1.out;go_upto_region 2 with fail;refine jp ?_;refine jnf hB0 1 aA ?_;refine dA o x.deb H1.out ?_;refine jm (.bool true) ?_;refine aQ hb hB0 fun X2 hX2 hb hB0=>?_;go_upto_region 3 with fail;refine jd ?_;refine jnf hB0 2 aA ?_;refine jnf hB0 2 aA ?_;refine jv (.bool (decide (x.cre > 1))) (fH _ _ _ _ (by rfl) .i64 x.cre 1 (by rfl) (by rfl) (decide (x.cre > 1)) rfl) ?_;refine jmm (vI x.cre) (.bool (decide (x.cre > 1))) ?_;refine aQ hb hB0 fun X3 hX3 hb hB0=>?_
  go_wp2
  go_ret2
  exact ⟨by rw [HB.out,HP.out];rfl,hb⟩
 ·have H0:=Lib.hid h.1
  have H1:=Lib.hid h.2;have hne:=h.1;clear h;have HB:Hid (btw x o=decide (1<x.deb)):=btw_c H0.out H1.out;have HP:Hid (pty x o=x.deb):=(if_neg H0.out).trans (if_pos H1.out);go_upto_region 2 with fail;refine jp ?_;refine jnf hB0 1 aA ?_;refine dN o x.deb hne ?_;refine jm (.bool false) ?_;refine aQ hb hB0 fun X2 hX2 hb hB0=>?_;go_upto_region 4 with fail;refine jp ?_;refine jnf hB0 2 aA ?_;refine dA o x.cre H1.out ?_;refine jm (.bool true) ?_;refine aQ hb hB0 fun X3 hX3 hb hB0=>?_;go_upto_region 5 with fail;refine jd ?_;refine jnf hB0 1 aA ?_;refine jnf hB0 1 aA ?_;refine jv (.bool (decide (x.deb > 1))) (fH _ _ _ _ (by rfl) .i64 x.deb 1 (by rfl) (by rfl) (decide (x.deb > 1)) rfl) ?_;refine jmm (vI x.deb) (.bool (decide (x.deb > 1))) ?_;refine aQ hb hB0 fun X4 hX4 hb hB0=>?_
  go_wp2
  go_ret2
  exact ⟨by rw [HB.out,HP.out];rfl,hb⟩
 ·have HB:Hid (btw x o=false):=btw_n h.1 h.2
  have HP:Hid (pty x o=0):=(if_neg h.1).trans (if_neg h.2);go_upto_region 2 with fail;refine jp ?_;refine jnf hB0 1 aA ?_;refine dN o x.deb h.1 ?_;refine jm (.bool false) ?_;refine aQ hb hB0 fun X2 hX2 hb hB0=>?_;go_upto_region 4 with fail;refine jp ?_;refine jnf hB0 2 aA ?_;refine dN o x.cre h.2 ?_;refine jm (.bool false) ?_;refine aQ hb hB0 fun X3 hX3 hb hB0=>?_;go_upto_region 6 with fail;refine jp ?_;refine jmm (vI 0) (.bool false) ?_;refine aQ hb hB0 fun X4 hX4 hb hB0=>?_
  go_wp2
  go_ret2
  exact ⟨by rw [HB.out,HP.out];rfl,hb⟩
theorem vZe (B:Nat) (c:Int) (v z:Value) (l:List En) (cs:List Cg) (k:Nat) (w:World) (hv:Es l v w) (hz:Cs B cs z w) (hk:k<l.length) (hp:0≤(en l k).pd):Calls Tryz.prog 60 #[.agg #[vI c,v,z],vI k] w fun e w'=>e=.returned (.tuple #[.bool (decide ((en l k).kd=3)),.bool (cI cs (en l k) k)])∧Since w w':=by
 obtain ⟨A,n,cp,A2,m,cp2,rfl,rfl,hln,hn1,hlm,hm1,HRX,HLN,HES,HCS,HRC,HLM⟩:=eU hv hz;clear hv hz
 have hlt:k<n:=by rw [← hln];exact hk
 go_enter Tryz.func60,Tryz.ntmps60
 go_upto_region 1 with fail;obtain ⟨W0,hW0,hB0,hb⟩:=aT w 79 [vI c,.slice A n cp,.slice A2 m cp2];rw [← hW0];clear hW0;obtain ⟨b,off,rfl,hbb,hcx⟩:=fL (HRX.out _ hb) HLN.out (k:=k) hlt;obtain ⟨x,x9⟩:∃ x,x=en l k:=⟨_,rfl⟩;have HX:=Lib.hid x9;clear x9;rw [← HX.out] at hcx
 change Cl W0 b (off+k * 13) (eL x) at hcx
 have HES:Hid (∀ X,Since w X→Es l (.slice (some ⟨b,off,none⟩) n cp) X):=fun X h=>by show Rd X 13 _ l.length _;rw [HLN.out];exact HRX.out X h
 have hp0:0≤x.pd:=by rw [HX.out];exact hp
 refine jq 6 ?_;refine jn (vP w.heap.size 0) ?_;refine jnf hB0 1 aO ?_;refine jm (vI k) ?_;refine jv (vP b (off+k * 13)) (aR Tryz.underlying22 aL _ _ (by rfl) b (off) n cp k hlt (by rfl) (by rfl) rfl) ?_;refine jg (.agg #[vI x.day,vI x.deb,vI x.cre,.bool x.am.1,st x.am.2.1,st x.am.2.2,vI x.kd,vI x.pd,vI x.rf,vI x.w1,vI x.w2,vI x.w3,vI x.w4]) (fun X hX hF=>cW 76 _ (by rfl) b (off+k * 13) (by rfl) Tryz.underlying76 rfl (eL x) X (Cl.part (hcx.below hX hbb) 0 _ (by rfl)) aL) ?_;refine aQ hb hB0 fun X1 hX1 hb hB0=>?_;have hcx:=hcx.below hX1 hbb;replace hbb:=Nat.lt_of_lt_of_le hbb (hX1).size;go_upto_region 2 with (refine osn 76 6 16 #[vI x.day,vI x.deb,vI x.cre,.bool x.am.1,vS x.am.2.1,vS x.am.2.2,vI x.kd,vI x.pd,vI x.rf,vI x.w1,vI x.w2,vI x.w3,vI x.w4] aL ?_);obtain ⟨Y1,hY9,hD6,hS9⟩:=aT X1 76 (eL x)
 rw [← hY9];clear hY9;have hgs6:=hb.size;have hlt6x0:=hB0.lt;have hcx:=hcx.below hS9 hbb;replace hbb:=Nat.lt_of_lt_of_le hbb (hS9).size;have hB0:=hB0.bel hS9;have hb:=aI hb hS9;clear hS9;generalize X1.heap.size=g6 at *;obtain ⟨ce,ce9⟩:∃ ce,gI cs x.pd=ce:=⟨_,rfl⟩;have HCE:=Lib.hid ce9;clear ce9;obtain ⟨pa,pa9⟩:∃ pa,decide (ce≤(k:Int))=pa:=⟨_,rfl⟩
 have HPA:Hid (decide (gI cs x.pd≤(k:Int))=pa):=by rw [HCE.out];exact pa9
 have HPB:=Lib.hid pa9;clear pa9;refine jp ?_;refine jm (vI k) ?_;refine ja hB0 Tryz.underlying79 (by rfl) mE ?_;refine jn (vP g6 6) ?_;refine jnf hD6 7 aA ?_;refine jc (vI ce) (fun X hX hF=>mo (endC B c _ _ l cs x.pd X (HES.out X (Since.next hb hX)) (HCS.out X (Since.next hb hX)) hp0) (by rw [HCE.out])) ?_;refine jv (.bool pa) (eR _ _ _ _ (by rfl) .i64 (k:Int) ce (by rfl) (by rfl) pa HPB.out) ?_;refine jmm (vI 0) (.bool pa) ?_;refine aN hb hB0 hD6 fun X2 hX2 hb hB0 hD6=>?_
 rcases (show x.kd=3∨x.kd≠3 by omega) with h3|h3
 ·have H3:=Lib.hid h3
  clear h3;have HKD:Hid (decide (x.kd=3)=true):=decide_eq_true H3.out;have HKC:Hid (decide (x.kd=1)=false):=decide_eq_false (by rw [H3.out];decide);obtain ⟨bw,bw9⟩:∃ bw,btw x 1=bw:=⟨_,rfl⟩;have HBW:=Lib.hid bw9;clear bw9;go_upto_region 3 with fail;refine jp ?_;refine jn (vP g6 6) ?_;refine jnf hD6 6 aA ?_;refine jv (.bool true) (bN _ _ _ _ (by rfl) .i64 x.kd 3 (by rfl) (by rfl) true HKD.out) ?_;refine aN hb hB0 hD6 fun X3 hX3 hb hB0 hD6=>?_;go_upto_region 4 with fail;refine jp ?_;refine jm (vI 1) ?_;refine aN hb hB0 hD6 fun X4 hX4 hb hB0 hD6=>?_;go_upto_region 5 with fail;refine jp ?_;refine ja hD6 Tryz.underlying76 (by rfl) aL ?_;refine jm (vI 1) ?_;refine jc (.tuple #[vI (pty x 1),.bool bw]) (fun X hX hF=>mo (ptyC x 1 X) (by rw [HBW.out])) ?_;refine aX (.tuple #[vI (pty x 1),.bool bw]) (vI (pty x 1)) (.bool bw) ?_;refine jmm (vI (pty x 1)) (.bool bw) ?_;refine aN hb hB0 hD6 fun X5 hX5 hb hB0 hD6=>?_;go_upto_region 6 with fail;refine jp ?_;refine jn (vP g6 6) ?_;refine jnf hD6 6 aA ?_;refine jv (.bool true) (bN _ _ _ _ (by rfl) .i64 x.kd 3 (by rfl) (by rfl) true HKD.out) ?_;refine jm (.bool true) ?_;refine aN hb hB0 hD6 fun X6 hX6 hb hB0 hD6=>?_
  rcases bw with _|_
  ·skip
   rcases pa with _|_
   ·skip
    go_upto_region 7 with fail;refine jp ?_;refine aX (.bool true) (.bool false) (.bool false) ?_;refine bR ?_;refine jmm (.bool false) (.bool false) ?_;refine cN ?_;refine bR ?_;refine jss ?_;refine aX (.bool false) (.bool true) (.bool false) ?_;refine aN hb hB0 hD6 fun X7 hX7 hb hB0 hD6=>?_
    have HC:Hid (cI cs x k=false):=by
     show _=_
     rw [kM H3.out,HBW.out,HPA.out,Bool.false_and,Bool.and_false] <;> rfl
    go_wp2
    go_ret2
    exact ⟨by rw [← HX.out,HKD.out,HC.out];rfl,hb⟩
   ·skip
    go_upto_region 7 with fail;refine jp ?_;refine aX (.bool true) (.bool false) (.bool false) ?_;refine bR ?_;refine jmm (.bool false) (.bool false) ?_;refine cN ?_;refine bR ?_;refine jss ?_;refine aX (.bool false) (.bool true) (.bool false) ?_;refine aN hb hB0 hD6 fun X7 hX7 hb hB0 hD6=>?_
    have HC:Hid (cI cs x k=false):=by
     show _=_
     rw [kM H3.out,HBW.out,HPA.out,Bool.false_and,Bool.and_false] <;> rfl
    go_wp2
    go_ret2
    exact ⟨by rw [← HX.out,HKD.out,HC.out];rfl,hb⟩
  ·skip
   obtain hrf|hrf:decide (x.rf=-1)=false∨decide (x.rf=-1)=true:=by cases decide (x.rf=-1) <;> simp
   ·have HRF:=Lib.hid hrf
    clear hrf
    rcases pa with _|_
    ·skip
     go_upto_region 7 with fail;refine jp ?_;refine aX (.bool true) (.bool true) (.bool true) ?_;refine jn (vP g6 6) ?_;refine jnf hD6 8 aA ?_;refine jv (.bool false) (bN _ _ _ _ (by rfl) .i64 x.rf (-1) (by rfl) (by rfl) false HRF.out) ?_;refine jmm (.bool false) (.bool false) ?_;refine cN ?_;refine bR ?_;refine jss ?_;refine aX (.bool false) (.bool true) (.bool false) ?_;refine aN hb hB0 hD6 fun X7 hX7 hb hB0 hD6=>?_
     have HC:Hid (cI cs x k=false):=by
      show _=_
      rw [kM H3.out,HBW.out,HPA.out,HRF.out] <;> rfl
     go_wp2
     go_ret2
     exact ⟨by rw [← HX.out,HKD.out,HC.out];rfl,hb⟩
    ·skip
     go_upto_region 7 with fail;refine jp ?_;refine aX (.bool true) (.bool true) (.bool true) ?_;refine jn (vP g6 6) ?_;refine jnf hD6 8 aA ?_;refine jv (.bool false) (bN _ _ _ _ (by rfl) .i64 x.rf (-1) (by rfl) (by rfl) false HRF.out) ?_;refine jmm (.bool false) (.bool false) ?_;refine cN ?_;refine bR ?_;refine jss ?_;refine aX (.bool false) (.bool true) (.bool false) ?_;refine aN hb hB0 hD6 fun X7 hX7 hb hB0 hD6=>?_
     have HC:Hid (cI cs x k=false):=by
      show _=_
      rw [kM H3.out,HBW.out,HPA.out,HRF.out] <;> rfl
     go_wp2
     go_ret2
     exact ⟨by rw [← HX.out,HKD.out,HC.out];rfl,hb⟩
   ·have HRF:=Lib.hid hrf
    clear hrf
    rcases pa with _|_
    ·skip
     go_upto_region 7 with fail;refine jp ?_;refine aX (.bool true) (.bool true) (.bool true) ?_;refine jn (vP g6 6) ?_;refine jnf hD6 8 aA ?_;refine jv (.bool true) (bN _ _ _ _ (by rfl) .i64 x.rf (-1) (by rfl) (by rfl) true HRF.out) ?_;refine aX (.bool true) (.bool true) (.bool true) ?_;refine aX (.bool true) (.bool false) (.bool false) ?_;refine jmn (.bool false) (vP g6 6) ?_;refine jnf hD6 6 aA ?_;refine jv (.bool false) (bN _ _ _ _ (by rfl) .i64 x.kd 1 (by rfl) (by rfl) false HKC.out) ?_;refine jm (.bool false) ?_;refine jss ?_;refine aX (.bool false) (.bool false) (.bool false) ?_;refine jmm (.bool true) (.bool false) ?_;refine aN hb hB0 hD6 fun X7 hX7 hb hB0 hD6=>?_
     have HC:Hid (cI cs x k=false):=by
      show _=_
      rw [kM H3.out,HBW.out,HPA.out,HRF.out] <;> rfl
     go_wp2
     go_ret2
     exact ⟨by rw [← HX.out,HKD.out,HC.out];rfl,hb⟩
    ·skip
     go_upto_region 7 with fail;refine jp ?_;refine aX (.bool true) (.bool true) (.bool true) ?_;refine jn (vP g6 6) ?_;refine jnf hD6 8 aA ?_;refine jv (.bool true) (bN _ _ _ _ (by rfl) .i64 x.rf (-1) (by rfl) (by rfl) true HRF.out) ?_;refine aX (.bool true) (.bool true) (.bool true) ?_;refine aX (.bool true) (.bool true) (.bool true) ?_;refine jm (.bool true) ?_;refine cN ?_;refine aX (.bool true) (.bool true) (.bool true) ?_;refine jm (.bool true) ?_;refine aN hb hB0 hD6 fun X7 hX7 hb hB0 hD6=>?_
     have HC:Hid (cI cs x k=true):=by
      show _=_
      rw [kM H3.out,HBW.out,HPA.out,HRF.out] <;> rfl
     go_wp2
     go_ret2
     exact ⟨by rw [← HX.out,HKD.out,HC.out];rfl,hb⟩
 ·have HKD:Hid (decide (x.kd=3)=false):=decide_eq_false h3
  have H3:=Lib.hid h3;clear h3;obtain ⟨bw,bw9⟩:∃ bw,btw x 0=bw:=⟨_,rfl⟩;have HBW:=Lib.hid bw9;clear bw9;obtain ⟨ka,ka9⟩:∃ ka,decide (x.kd=1)=ka:=⟨_,rfl⟩;have HKA:=Lib.hid ka9;clear ka9;obtain ⟨ra,ra9⟩:∃ ra,decide (x.rf=-1)=ra:=⟨_,rfl⟩;have HRA:=Lib.hid ra9;clear ra9;go_upto_region 3 with fail;refine jp ?_;refine jn (vP g6 6) ?_;refine jnf hD6 6 aA ?_;refine jv (.bool false) (bN _ _ _ _ (by rfl) .i64 x.kd 3 (by rfl) (by rfl) false HKD.out) ?_;refine aN hb hB0 hD6 fun X3 hX3 hb hB0 hD6=>?_;go_upto_region 5 with fail;refine jp ?_;refine ja hD6 Tryz.underlying76 (by rfl) aL ?_;refine jm (vI 0) ?_;refine jc (.tuple #[vI (pty x 0),.bool bw]) (fun X hX hF=>mo (ptyC x 0 X) (by rw [HBW.out])) ?_;refine aX (.tuple #[vI (pty x 0),.bool bw]) (vI (pty x 0)) (.bool bw) ?_;refine jmm (vI (pty x 0)) (.bool bw) ?_;refine aN hb hB0 hD6 fun X4 hX4 hb hB0 hD6=>?_;go_upto_region 6 with fail;refine jp ?_;refine jn (vP g6 6) ?_;refine jnf hD6 6 aA ?_;refine jv (.bool false) (bN _ _ _ _ (by rfl) .i64 x.kd 3 (by rfl) (by rfl) false HKD.out) ?_;refine jm (.bool false) ?_;refine aN hb hB0 hD6 fun X5 hX5 hb hB0 hD6=>?_
  rcases bw with _|_
  ·skip
   rcases ka with _|_
   ·skip
    go_upto_region 7 with fail;refine jp ?_;refine aX (.bool false) (.bool false) (.bool false) ?_;refine bR ?_;refine jmm (.bool false) (.bool false) ?_;refine cN ?_;refine bR ?_;refine jss ?_;refine aX (.bool false) (.bool false) (.bool false) ?_;refine aN hb hB0 hD6 fun X6 hX6 hb hB0 hD6=>?_
    have HC:Hid (cI cs x k=false):=by
     show _=_
     rw [gH H3.out,HKA.out,Bool.and_false,Bool.false_and,Bool.and_false]
    go_wp2
    go_ret2
    exact ⟨by rw [← HX.out,HKD.out,HC.out];rfl,hb⟩
   ·skip
    rcases pa with _|_
    ·skip
     go_upto_region 7 with fail;refine jp ?_;refine aX (.bool false) (.bool false) (.bool false) ?_;refine bR ?_;refine jmm (.bool false) (.bool false) ?_;refine cN ?_;refine bR ?_;refine jss ?_;refine aX (.bool false) (.bool false) (.bool false) ?_;refine aN hb hB0 hD6 fun X6 hX6 hb hB0 hD6=>?_
     have HC:Hid (cI cs x k=false):=by
      show _=_
      rw [gH H3.out,HBW.out,HPA.out,HKA.out,HRA.out] <;> first|rfl|exact Bool.and_false _
     go_wp2
     go_ret2
     exact ⟨by rw [← HX.out,HKD.out,HC.out];rfl,hb⟩
    ·skip
     go_upto_region 7 with fail;refine jp ?_;refine aX (.bool false) (.bool false) (.bool false) ?_;refine bR ?_;refine jmm (.bool false) (.bool false) ?_;refine cN ?_;refine bR ?_;refine jss ?_;refine aX (.bool false) (.bool false) (.bool false) ?_;refine aN hb hB0 hD6 fun X6 hX6 hb hB0 hD6=>?_
     have HC:Hid (cI cs x k=false):=by
      show _=_
      rw [gH H3.out,HBW.out,HPA.out,HKA.out,HRA.out] <;> first|rfl|exact Bool.and_false _
     go_wp2
     go_ret2
     exact ⟨by rw [← HX.out,HKD.out,HC.out];rfl,hb⟩
  ·skip
   rcases ra with _|_
   ·skip
    rcases ka with _|_
    ·skip
     go_upto_region 7 with fail;refine jp ?_;refine aX (.bool false) (.bool true) (.bool true) ?_;refine jn (vP g6 6) ?_;refine jnf hD6 8 aA ?_;refine jv (.bool false) (bN _ _ _ _ (by rfl) .i64 x.rf (-1) (by rfl) (by rfl) false HRA.out) ?_;refine jmm (.bool false) (.bool false) ?_;refine cN ?_;refine bR ?_;refine jss ?_;refine aX (.bool false) (.bool false) (.bool false) ?_;refine aN hb hB0 hD6 fun X6 hX6 hb hB0 hD6=>?_
     have HC:Hid (cI cs x k=false):=by
      show _=_
      rw [gH H3.out,HKA.out,Bool.and_false,Bool.false_and,Bool.and_false]
     go_wp2
     go_ret2
     exact ⟨by rw [← HX.out,HKD.out,HC.out];rfl,hb⟩
    ·skip
     rcases pa with _|_
     ·skip
      go_upto_region 7 with fail;refine jp ?_;refine aX (.bool false) (.bool true) (.bool true) ?_;refine jn (vP g6 6) ?_;refine jnf hD6 8 aA ?_;refine jv (.bool false) (bN _ _ _ _ (by rfl) .i64 x.rf (-1) (by rfl) (by rfl) false HRA.out) ?_;refine jmm (.bool false) (.bool false) ?_;refine cN ?_;refine bR ?_;refine jss ?_;refine aX (.bool false) (.bool false) (.bool false) ?_;refine aN hb hB0 hD6 fun X6 hX6 hb hB0 hD6=>?_
      have HC:Hid (cI cs x k=false):=by
       show _=_
       rw [gH H3.out,HBW.out,HPA.out,HKA.out,HRA.out] <;> first|rfl|exact Bool.and_false _
      go_wp2
      go_ret2
      exact ⟨by rw [← HX.out,HKD.out,HC.out];rfl,hb⟩
     ·skip
      go_upto_region 7 with fail;refine jp ?_;refine aX (.bool false) (.bool true) (.bool true) ?_;refine jn (vP g6 6) ?_;refine jnf hD6 8 aA ?_;refine jv (.bool false) (bN _ _ _ _ (by rfl) .i64 x.rf (-1) (by rfl) (by rfl) false HRA.out) ?_;refine jmm (.bool false) (.bool false) ?_;refine cN ?_;refine bR ?_;refine jss ?_;refine aX (.bool false) (.bool false) (.bool false) ?_;refine aN hb hB0 hD6 fun X6 hX6 hb hB0 hD6=>?_
      have HC:Hid (cI cs x k=false):=by
       show _=_
       rw [gH H3.out,HBW.out,HPA.out,HKA.out,HRA.out] <;> first|rfl|exact Bool.and_false _
      go_wp2
      go_ret2
      exact ⟨by rw [← HX.out,HKD.out,HC.out];rfl,hb⟩
   ·skip
    rcases ka with _|_
    ·skip
     go_upto_region 7 with fail;refine jp ?_;refine aX (.bool false) (.bool true) (.bool true) ?_;refine jn (vP g6 6) ?_;refine jnf hD6 8 aA ?_;refine jv (.bool true) (bN _ _ _ _ (by rfl) .i64 x.rf (-1) (by rfl) (by rfl) true HRA.out) ?_;refine aX (.bool true) (.bool true) (.bool false) ?_;refine jm (.bool false) ?_;refine js ?_;refine eE (.bool false) (.bool false) (vP g6 6) ?_;refine jnf hD6 6 aA ?_;refine jv (.bool false) (bN _ _ _ _ (by rfl) .i64 x.kd 1 (by rfl) (by rfl) false HKA.out) ?_;refine jm (.bool false) ?_;refine jss ?_;refine aX (.bool false) (.bool false) (.bool false) ?_;refine jmm (.bool false) (.bool false) ?_;refine aN hb hB0 hD6 fun X6 hX6 hb hB0 hD6=>?_
     have HC:Hid (cI cs x k=false):=by
      show _=_
      rw [gH H3.out,HKA.out,Bool.and_false,Bool.false_and,Bool.and_false]
     go_wp2
     go_ret2
     exact ⟨by rw [← HX.out,HKD.out,HC.out];rfl,hb⟩
    ·skip
     rcases pa with _|_
     ·skip
      go_upto_region 7 with fail;refine jp ?_;refine aX (.bool false) (.bool true) (.bool true) ?_;refine jn (vP g6 6) ?_;refine jnf hD6 8 aA ?_;refine jv (.bool true) (bN _ _ _ _ (by rfl) .i64 x.rf (-1) (by rfl) (by rfl) true HRA.out) ?_;refine aX (.bool true) (.bool true) (.bool false) ?_;refine jm (.bool false) ?_;refine js ?_;refine eE (.bool false) (.bool false) (vP g6 6) ?_;refine jnf hD6 6 aA ?_;refine jv (.bool true) (bN _ _ _ _ (by rfl) .i64 x.kd 1 (by rfl) (by rfl) true HKA.out) ?_;refine aX (.bool true) (.bool false) (.bool true) ?_;refine aX (.bool true) (.bool true) (.bool true) ?_;refine jmm (.bool false) (.bool true) ?_;refine aN hb hB0 hD6 fun X6 hX6 hb hB0 hD6=>?_
      have HC:Hid (cI cs x k=true):=by
       show _=_
       rw [gH H3.out,HBW.out,HPA.out,HKA.out,HRA.out] <;> first|rfl|exact Bool.and_false _
      go_wp2
      go_ret2
      exact ⟨by rw [← HX.out,HKD.out,HC.out];rfl,hb⟩
     ·skip
      go_upto_region 7 with fail;refine jp ?_;refine aX (.bool false) (.bool true) (.bool true) ?_;refine jn (vP g6 6) ?_;refine jnf hD6 8 aA ?_;refine jv (.bool true) (bN _ _ _ _ (by rfl) .i64 x.rf (-1) (by rfl) (by rfl) true HRA.out) ?_;refine aX (.bool true) (.bool true) (.bool false) ?_;refine jm (.bool false) ?_;refine js ?_;refine eE (.bool false) (.bool false) (vP g6 6) ?_;refine jnf hD6 6 aA ?_;refine jv (.bool true) (bN _ _ _ _ (by rfl) .i64 x.kd 1 (by rfl) (by rfl) true HKA.out) ?_;refine aX (.bool true) (.bool true) (.bool false) ?_;refine aX (.bool false) (.bool false) (.bool false) ?_;refine jmm (.bool false) (.bool false) ?_;refine aN hb hB0 hD6 fun X6 hX6 hb hB0 hD6=>?_
      have HC:Hid (cI cs x k=false):=by
       show _=_
       rw [gH H3.out,HBW.out,HPA.out,HKA.out,HRA.out] <;> first|rfl|exact Bool.and_false _
      go_wp2
      go_ret2
      exact ⟨by rw [← HX.out,HKD.out,HC.out];rfl,hb⟩
end Go.Proofs.YtjkfchehkpmhkaaGreatDoor

/- law 45: contracts over values; half, short, run. -/
import Derived.Test.YtjkfchehkpmhkaaDoorPh45
import Derived.Test.YtjkfchehkpmhkaaDoorPl45d
import Derived.Test.YtjkfchehkpmhkaaDoorBg
import Derived.Test.YtjkfchehkpmhkaaDoorBh
import Derived.Test.YtjkfchehkpmhkaaDoorBa
import Derived.Test.YtjkfchehkpmhkaaDoorLlz
set_option linter.unusedSimpArgs false
set_option linter.unusedVariables false
set_option maxRecDepth 100000
set_option maxHeartbeats 1600000
namespace Go.Proofs.YtjkfchehkpmhkaaDoor
open Go.RowKit
theorem qQd {l:List En} (h:Hid (∀ k,tz (en l k).am.2.1 (en l k).am.2.2 100)):Hid (∀ k,tz (en l k).am.2.1 (en l k).am.2.2 1000000):=fun k=>(h.out k).mono (by decide)
theorem szL {l:List En} (h:(l.all fun x=>few x.am.2.1 x.am.2.2 100)=true):Hid (∀ k,tz (en l k).am.2.1 (en l k).am.2.2 100):=fun k=>by
 rcases Nat.lt_or_ge k l.length with h1|h1
 ·have h2:=List.all_eq_true.1 h _ (List.getElem_mem h1)
  rw [qYt h1]
  unfold few at h2
  rw [Bool.and_eq_true] at h2;exact ⟨of_decide_eq_true h2.1,of_decide_eq_true h2.2⟩
 ·unfold en
  rw [List.getD_eq_getElem?_getD,List.getElem?_eq_none h1];exact lI
theorem xQx (c:Int) (v:Value) (l:List En) (a day:Int) (w:World) (hv:Es l v w) (hs1:Hid (∀ k,tz (en l k).am.2.1 (en l k).am.2.2 100)) {E:Int} (hE:blE c l a day=E) {y:Rat} (hV:blV c l a day=y):Calls Tryd.prog 12 #[.agg #[vI c,v],vI a,vI day] w fun e w'=>e=.returned (.tuple #[rbv y,vI E])∧Since w w':=by
 subst hE hV;exact blcC c v l a day w hv hs1
theorem cE:(Tryd.prog.info? 45).map (·.size)=some 11:=by kernel_rfl
theorem Cs.grownW {X Y:World} {B g:Nat} {T:TypeId} {l:List Cg} {v:Value} {ys:List Value} (hG:X.grownBy Y (some g)) (h:Cs B l v X) (hB:Blk X g T ys) (hg:B≤g:=by omega) (hT:(T == 76)=false:=by rfl):Cs B l v Y:=Cs.grown hG h hB hg hT
def spc (s:Stp):List Value:=[vI s.q.day,vI s.q.pd,vI s.q.ac,.bool s.q.am.1,vS s.q.am.2.1,vS s.q.am.2.2,vI s.q.w1,vI s.q.w2,vI s.q.w3,vI s.q.w4,.bool s.cl]
theorem xK (s:Stp):(spc s).length=11:=rfl
def Sts (l:List Stp) (v:Value) (X:World):Prop:=Rd X 11 v l.length (fl spc l)
theorem Sts.lasts (l:List Stp):dM (Sts l):=fun _ _ _ h hS=>Rd.below h hS
theorem Sts.at {l:List Stp} {v:Value} {w:World} (h:Sts l v w):∃ A n c,v=.slice A n c∧l.length=n∧n≤9223372036854775807∧Rd w 11 (.slice A n c) n (fl spc l):=by
 obtain ⟨hl,A,c,hv,hc,hm,hz,hx⟩:=h;refine ⟨A,l.length,c,hv,rfl,?_,hl,A,c,rfl,hc,hm,hz,hx⟩
 unfold maxLen at hm
 omega
theorem tX {w:World} {A:Option Addr} {n c:Nat} {l:List Stp} (h:Rd w 11 (.slice A n c) n (fl spc l)) (hl:l.length=n) {k:Nat} (hk:k<n):∃ b off,A=some ⟨b,off,none⟩∧b<w.heap.size∧Cl w b (off+k * 11) (spc (sp l k)):=by
 obtain ⟨b,off,x,hA,hb,hc,_,hd⟩:=h.atF (m:=11) (fun x _=>xK x) (by omega) (k:=k) (by omega);have h1:=congrArg (·[0]?) hd.out;rw [iL (by omega)]
 have h2:l[k]=x:=by
  have h3:l[k]?=some x:=by simpa [List.getElem?_drop] using h1
  rw [List.getElem?_eq_getElem (by omega)] at h3
  injection h3
 rw [h2];exact ⟨b,off,hA,hb,hc⟩
def Tr45 (y:Rat) (N:List Int) (e:Int) (v:Value) (X:World):Prop:=∃ u,v=.tuple #[.agg #[.bool (rN y),vS (rP y),vS (rD y)],u,vI e]∧Ks N u X
theorem Tr45.lasts (y:Rat) (N:List Int) (e:Int):dM (Tr45 y N e):=by
 rintro v X Y ⟨u,h1,h2⟩ hS
 exact ⟨u,h1,Ks.lasts N _ _ _ h2 hS⟩
def eB (l:List Stp):Bool:=decide (l.length≤24) && l.all fun s=>decide (s.q.am.2.1.length≤12) && decide (s.q.am.2.2.length≤12)
theorem vYz {l:List Stp} (h:24<l.length):eB l=false:=by
 unfold eB
 rw [decide_eq_false (by omega),Bool.false_and]
theorem qVk {l:List Stp} {k:Nat} (hk:k<l.length) (h:12<(sp l k).q.am.2.1.length∨12<(sp l k).q.am.2.2.length):eB l=false:=by
 unfold eB
 rw [Bool.and_eq_false_iff];refine .inr (List.all_eq_false.2 ⟨l[k],List.getElem_mem hk,?_⟩);rw [← iL hk,Bool.and_eq_true,decide_eq_true_eq,decide_eq_true_eq]
 omega
theorem dO {l:List Stp} (h:eB l=true):l.length≤24∧∀ s∈l,tz s.q.am.2.1 s.q.am.2.2 12:=by
 unfold eB at h
 rw [Bool.and_eq_true,decide_eq_true_eq] at h;refine ⟨h.1,fun s hs=>?_⟩;have h9:=List.all_eq_true.1 h.2 s hs;rw [Bool.and_eq_true,decide_eq_true_eq,decide_eq_true_eq] at h9;exact h9
theorem vZa {l:List Stp} (h:l.length≤24) (hz:∀ j,j<l.length→tz (sp l j).q.am.2.1 (sp l j).q.am.2.2 12):eB l=true:=by
 unfold eB
 rw [decide_eq_true h,Bool.true_and,List.all_eq_true];intro s hs;obtain ⟨j,hj,rfl⟩:=List.getElem_of_mem hs;have h9:=hz j hj;rw [iL hj] at h9;rw [Bool.and_eq_true,decide_eq_true_eq,decide_eq_true_eq];exact h9
theorem xJ {c:Int} {L:List En} {C:List Cg} {s:Stp} (h:s.cl=true):stp c (L,C) s=if cQ c L C s.q.day=0 then (L,dL c L C s.q.day) else (L,C):=if_pos h
theorem xI {c:Int} {L:List En} {C:List Cg} {s:Stp} (h:s.cl=false):stp c (L,C) s=if bN c L C s.q=0 then (bT c L C s.q,C) else (L,C):=if_neg (by rw [h];decide)
theorem rG (B:Nat) (c:Int) (v z:Value) (l:List En) (cs:List Cg) (q:Stg) (w:World) (hv:Es l v w) (hz:Cs B cs z w) (hs1:Hid (∀ k,tz (en l k).am.2.1 (en l k).am.2.2 100)) (hq1:tz q.am.2.1 q.am.2.2 100) {E:Int} (hE:bN c l cs q=E) {C:Int} (hC:ifz E c=C) {L:List En} (hL:bT c l cs q=L) {D:List Cg} (hD:dB E cs=D):Calls Tryd.prog 16 #[.agg #[vI c,v,z],.agg #[vI q.day,vI q.pd,vI q.ac,.bool q.am.1,vS q.am.2.1,vS q.am.2.2,vI q.w1,vI q.w2,vI q.w3,vI q.w4]] w fun e w'=>∃ u,e=.returned u∧Tp (Prs B C L D) E u w'∧Since w w':=by
 subst hE hC hL hD;exact stC45 B c v z l cs q w hv hz hs1 hq1
theorem yU (B:Nat) (c:Int) (v z:Value) (l:List En) (cs:List Cg) (d:Int) (w:World) (hv:Es l v w) (hz:Cs B cs z w) (hs:Hid (∀ k,tz (en l k).am.2.1 (en l k).am.2.2 1000000)) {E:Int} (hE:cQ c l cs d=E) {C:Int} (hC:ifz E c=C) {L:List En} (hL:dB E l=L) {D:List Cg} (hD:dL c l cs d=D):Calls Tryd.prog 15 #[.agg #[vI c,v,z],vI d] w fun e w'=>∃ u,e=.returned u∧Tp (Prs B C L D) E u w'∧Since w w':=by
 subst hE hC hL hD;exact clsC B c v z l cs d w hv hz hs
theorem mQ (B:Nat) (c:Int) (v z:Value) (l:List En) (cs:List Cg) (p a d:Int) (w:World) (hv:Es l v w) (hz:Cs B cs z w) (hs1:Hid (∀ k,tz (en l k).am.2.1 (en l k).am.2.2 100)) {E:Int} (hE:fA c l cs p a d=E) {K:Rat} (hK:dY c l cs p a d=K) {F:Rat} (hF:dR c l cs p a d=F) {C:Bool} (hC:eN c l cs p a d=C):Calls Tryd.prog 10 #[.agg #[vI c,v,z],vI p,vI a,vI d] w fun e w'=>e=.returned (.tuple #[.agg #[.bool (rN K),vS (rP K),vS (rD K),.bool (rN F),vS (rP F),vS (rD F),.bool C],vI E])∧Since w w':=by
 subst hE hK hF hC;exact fgrC B c v z l cs p a d w hv hz hs1
theorem yR (B:Nat) (c:Int) (v z:Value) (l:List En) (cs:List Cg) (a f t:Int) (w:World) (hv:Es l v w) (hz:Cs B cs z w) (hs1:Hid (∀ k,tz (en l k).am.2.1 (en l k).am.2.2 100)) {E:Int} (hE:gG c l cs a f t=E) {A:Rat} (hA:gH c l cs a f t=A) {N:List Int} (hN:nA c l cs a f t=N):Calls Tryd.prog 13 #[.agg #[vI c,v,z],vI a,vI f,vI t] w fun e w'=>∃ u,e=.returned u∧Tr45 A N E u w'∧Since w w':=by
 subst hE hA hN
 exact (crrC B c v z l cs a f t w hv hz hs1).mono fun e X' ⟨u,h1,h2,h3⟩=>⟨_,h1,⟨u,rfl,h2⟩,h3⟩
theorem vXg (B:Nat) (c:Int) (v z:Value) (l:List En) (cs:List Cg) (w:World) (hv:Es l v w) (hz:Cs B cs z w) (hs:Hid (∀ k,tz (en l k).am.2.1 (en l k).am.2.2 1000000)) {E:Int} (hE:peE c l cs=E):Calls Tryd.prog 18 #[.agg #[vI c,v,z]] w fun e w'=>e=.returned (vI E)∧Since w w':=by
 subst hE;exact gV B c v z l cs w hv hz hs
theorem qE (x:Int) (w:World) (hx:fX x=true):Calls Tryd.prog 20 #[vI x] w fun e w'=>e=.returned (rbv (rk x 2))∧Since w w':=by
 go_enter Tryd.func20,Tryd.ntmps20
 go_upto_region 1 with fail;obtain ⟨W0,hW0,hB0,hb⟩:=aT w 39 [.bool false,.string ⟨#[]⟩,.string ⟨#[]⟩];rw [← hW0];clear hW0;refine jq 5 ?_;refine jm (vI x) ?_;refine jc (.tuple #[rt (rN (rk x 2)) (rP (rk x 2)) (rD (rk x 2)),vI 0]) (fun X hX hF=>makeC x 2 X hx (by decide) (by decide)) ?_;refine jm (.tuple #[rt (rN (rk x 2)) (rP (rk x 2)) (rD (rk x 2)),vI 0]) ?_;refine jm (rt (rN (rk x 2)) (rP (rk x 2)) (rD (rk x 2))) ?_;refine jm (vI 0) ?_;refine jzb hb fun X1 hX1 hb=>?_;replace hB0:=hB0.bel hX1;go_upto_region 2 with (refine osn 39 3 8 #[.bool (rN (rk x 2)),vS (rP (rk x 2)),vS (rD (rk x 2))] aF ?_);obtain ⟨Y1,hY9,hD3,hS9⟩:=aT X1 39 [.bool (rN (rk x 2)),vS (rP (rk x 2)),vS (rD (rk x 2))];rw [← hY9];clear hY9;have hgs3:=hb.size;have hlt3x0:=hB0.lt;have hB0:=hB0.bel hS9;have hb:=aD hb hS9;clear hS9;generalize X1.heap.size=g3 at *;refine jq 1 ?_;refine ja hD3 Tryd.underlying39 (by rfl) aF ?_;refine jzb hb fun X2 hX2 hb=>?_;obtain ⟨hB0,hD3⟩:=bl2 hX2 hB0 hD3;refine osb 39 2 10 w.heap.size 39 hB0 [.bool (rN (rk x 2)),vS (rP (rk x 2)),vS (rD (rk x 2))] aF ?_;intro w9 hR9 hO9 hB9 hs9;have hb9:=hB9 _ _ hb (by omega);clear hO9 hB9
 go_wp2
 refine bL rfl rfl (by rfl) Tryd.underlying39 rfl hR9 aF ⟨rfl,hb9⟩
theorem sht0 (ss:List Stp) (u:Value) (w:World) (hu:Sts ss u w) (h:24<ss.length):Calls Tryd.prog 7 #[u] w fun e w'=>e=.returned (.bool (eB ss))∧Since w w':=by
 obtain ⟨A3,ns,cp3,rfl,hls3,hn3,hr3⟩:=hu.at
 have HRS3:Hid (∀ X,Since w X→Rd X 11 (.slice A3 ns cp3) ns (fl spc ss)):=fun X h=>hr3.below h
 have HLS3:=Lib.hid hls3;clear hu hr3;have HS:Hid (eB ss=false):=vYz h
 have h24:24<ns:=by rw [← HLS3.out];exact h
 clear h
 go_enter Tryd.func7,Tryd.ntmps7
 have hb:Below w.heap.size w w:=Below.refl _ _;go_upto_region 1 with fail;refine jp ?_;refine jm (.slice A3 ns cp3) ?_;refine jv (vI ns) (aJ Tryd.underlying22 _ (by rfl) A3 ns cp3 (by rfl) _ rfl) ?_;refine dN (ns:Int) 24 (by omega) ?_;refine jzb hb fun X1 hX1 hb=>?_;go_upto_region 2 with fail;refine jp ?_;refine jm (.bool false) ?_;refine jzb hb fun X2 hX2 hb=>?_
 go_wp2
 go_ret
 exact ⟨by rw [HS.out];rfl,hb⟩
theorem shtM (ss:List Stp) (u:Value) (w:World) (hu:Sts ss u w) (h:ss.length≤24):Calls Tryd.prog 7 #[u] w fun e w'=>e=.returned (.bool (eB ss))∧Since w w':=by
 obtain ⟨A3,ns,cp3,rfl,hls3,hn3,hr3⟩:=hu.at
 have HRS3:Hid (∀ X,Since w X→Rd X 11 (.slice A3 ns cp3) ns (fl spc ss)):=fun X h=>hr3.below h
 have HLS3:=Lib.hid hls3;clear hu hr3
 have h24:ns≤24:=by rw [← HLS3.out];exact h
 go_enter Tryd.func7,Tryd.ntmps7
 have hb:Below w.heap.size w w:=Below.refl _ _;go_upto_region 1 with fail;refine jp ?_;refine jm (.slice A3 ns cp3) ?_;refine jv (vI ns) (aJ Tryd.underlying22 _ (by rfl) A3 ns cp3 (by rfl) _ rfl) ?_;refine dF (ns:Int) 24 (by omega) ?_;refine jzb hb fun X1 hX1 hb=>?_;go_upto_region 3 with fail;refine jp ?_;refine jm (.slice A3 ns cp3) ?_;refine jv (vI ns) (aJ Tryd.underlying22 _ (by rfl) A3 ns cp3 (by rfl) _ rfl) ?_;refine jm (vI 0) ?_;refine jzb hb fun X2 hX2 hb=>?_
 go_wp2
 go_loopw [10] (fun kv wr=>∃ k:Nat,k≤ns∧kv=vI k∧Hid (∀ j,j<k→tz (sp ss j).q.am.2.1 (sp ss j).q.am.2.2 12)∧Below w.heap.size w wr) (fun kv _=>ns-(intOf kv).toNat)
 case atStart=>exact ⟨0,by omega,rfl,(fun j hj=>by omega),hb⟩
 case round =>
  clear hb;obtain ⟨k,hk,rfl,HZ,hb⟩:=hrel
  rcases Nat.lt_or_ge k ns with hlt|hlt
  ·skip
   obtain ⟨b3,off3,rfl,hbb3,hcx3⟩:=tX (HRS3.out _ hb) HLS3.out (k:=k) hlt;obtain ⟨s,s9⟩:∃ s,s=sp ss k:=⟨_,rfl⟩;have HS:=Lib.hid s9;clear s9;rw [← HS.out] at hcx3
   change Cl wr b3 (off3+k * 11) [vI s.q.day,vI s.q.pd,vI s.q.ac,.bool s.q.am.1,vS s.q.am.2.1,vS s.q.am.2.2,vI s.q.w1,vI s.q.w2,vI s.q.w3,vI s.q.w4,.bool s.cl] at hcx3
   go_upto_region 4 with fail;refine jp ?_;refine cW (k:Int) (ns:Int) (by omega) ?_;refine jzb hb fun X1 hX1 hb=>?_;have hcx3:=hcx3.below hX1 hbb3;replace hbb3:=Nat.lt_of_lt_of_le hbb3 (hX1).size;go_upto_region 5 with fail;refine jq 2 ?_;refine jv (vP b3 (off3+k * 11)) (aW Tryd.underlying22 cE _ _ (by rfl) b3 (off3) ns cp3 k hlt (by rfl) (by rfl) rfl) ?_;refine jg (.agg #[vI s.q.day,vI s.q.pd,vI s.q.ac,.bool s.q.am.1,st s.q.am.2.1,st s.q.am.2.2,vI s.q.w1,vI s.q.w2,vI s.q.w3,vI s.q.w4,.bool s.cl]) (fun X hX hF=>bY 45 _ (by rfl) b3 (off3+k * 11) (by rfl) Tryd.underlying45 rfl [vI s.q.day,vI s.q.pd,vI s.q.ac,.bool s.q.am.1,vS s.q.am.2.1,vS s.q.am.2.2,vI s.q.w1,vI s.q.w2,vI s.q.w3,vI s.q.w4,.bool s.cl] X (Cl.part (hcx3.below hX hbb3) 0 _ (by rfl)) cE) ?_;refine jzb hb fun X2 hX2 hb=>?_;have hcx3:=hcx3.below hX2 hbb3;replace hbb3:=Nat.lt_of_lt_of_le hbb3 (hX2).size;go_upto_region 6 with (refine osn 45 4 13 #[vI s.q.day,vI s.q.pd,vI s.q.ac,.bool s.q.am.1,vS s.q.am.2.1,vS s.q.am.2.2,vI s.q.w1,vI s.q.w2,vI s.q.w3,vI s.q.w4,.bool s.cl] cE ?_);obtain ⟨Y2,hY9,hD4,hS9⟩:=aT X2 45 [vI s.q.day,vI s.q.pd,vI s.q.ac,.bool s.q.am.1,vS s.q.am.2.1,vS s.q.am.2.2,vI s.q.w1,vI s.q.w2,vI s.q.w3,vI s.q.w4,.bool s.cl]
   rw [← hY9];clear hY9;have hgs4:=hb.size;have hcx3:=hcx3.below hS9 hbb3;replace hbb3:=Nat.lt_of_lt_of_le hbb3 (hS9).size;have hb:=aD hb hS9;clear hS9;generalize X2.heap.size=g4 at *
   rcases (show 12<s.q.am.2.1.length∨(s.q.am.2.1.length≤12∧12<s.q.am.2.2.length)∨tz s.q.am.2.1 s.q.am.2.2 12 by unfold tz;omega) with hq|hq|hq
   ·have HS:Hid (eB ss=false):=qVk (k:=k) (by rw [HLS3.out];exact hlt) (by rw [← HS.out];exact .inl hq)
    refine jp ?_;refine jn (vP g4 0) ?_;refine jn (vP g4 3) ?_;refine jn (vP g4 4) ?_;refine jf _ hD4 4 aM ?_;refine jv (vI (s.q.am.2.1.length:Int)) (eJ Tryd.underlying9 _ (by rfl) s.q.am.2.1 (by rfl) _ rfl) ?_;refine dN (s.q.am.2.1.length:Int) 12 (by omega) ?_;refine jm (.bool true) ?_;refine js ?_;refine js ?_;refine js ?_;refine js ?_;refine js ?_;refine js ?_;refine jm (.bool true) ?_;refine jzb hb fun X3 hX3 hb=>?_;replace hD4:=hD4.bel hX3;go_upto_region 7 with fail;refine jp ?_;refine jm (.bool false) ?_;refine jzb hb fun X4 hX4 hb=>?_;replace hD4:=hD4.bel hX4
    go_wp2
    go_ret
    exact ⟨by rw [HS.out];rfl,hb⟩
   ·have HS:Hid (eB ss=false):=qVk (k:=k) (by rw [HLS3.out];exact hlt) (by rw [← HS.out];exact .inr hq.2)
    refine jp ?_;refine jn (vP g4 0) ?_;refine jn (vP g4 3) ?_;refine jn (vP g4 4) ?_;refine jf _ hD4 4 aM ?_;refine jv (vI (s.q.am.2.1.length:Int)) (eJ Tryd.underlying9 _ (by rfl) s.q.am.2.1 (by rfl) _ rfl) ?_;refine dF (s.q.am.2.1.length:Int) 12 (by omega) ?_;refine jm (.bool false) ?_;refine jn (vP g4 0) ?_;refine jn (vP g4 3) ?_;refine jn (vP g4 5) ?_;refine jf _ hD4 5 aM ?_;refine jv (vI (s.q.am.2.2.length:Int)) (eJ Tryd.underlying9 _ (by rfl) s.q.am.2.2 (by rfl) _ rfl) ?_;refine dN (s.q.am.2.2.length:Int) 12 (by omega) ?_;refine jm (.bool true) ?_;refine jzb hb fun X3 hX3 hb=>?_;replace hD4:=hD4.bel hX3;go_upto_region 7 with fail;refine jp ?_;refine jm (.bool false) ?_;refine jzb hb fun X4 hX4 hb=>?_;replace hD4:=hD4.bel hX4
    go_wp2
    go_ret
    exact ⟨by rw [HS.out];rfl,hb⟩
   ·have HZ2:Hid (∀ j,j<k+1→tz (sp ss j).q.am.2.1 (sp ss j).q.am.2.2 12):=fun j hj=>by
     rcases Nat.lt_or_ge j k with h9|h9
     ·exact HZ.out j h9
     ·rw [show j=k by omega,← HS.out];exact hq
    refine jp ?_;refine jn (vP g4 0) ?_;refine jn (vP g4 3) ?_;refine jn (vP g4 4) ?_;refine jf _ hD4 4 aM ?_;refine jv (vI (s.q.am.2.1.length:Int)) (eJ Tryd.underlying9 _ (by rfl) s.q.am.2.1 (by rfl) _ rfl) ?_;refine dF (s.q.am.2.1.length:Int) 12 (by have:=hq.1;omega) ?_;refine jm (.bool false) ?_;refine jn (vP g4 0) ?_;refine jn (vP g4 3) ?_;refine jn (vP g4 5) ?_;refine jf _ hD4 5 aM ?_;refine jv (vI (s.q.am.2.2.length:Int)) (eJ Tryd.underlying9 _ (by rfl) s.q.am.2.2 (by rfl) _ rfl) ?_;refine dF (s.q.am.2.2.length:Int) 12 (by have:=hq.2;omega) ?_;refine jm (.bool false) ?_;refine jzb hb fun X3 hX3 hb=>?_;replace hD4:=hD4.bel hX3;go_upto_region 8 with fail;refine jp ?_;refine jv (vI ((k+1:Nat):Int)) (aX _ _ _ _ (by rfl) (k:Int) 1 ((k+1:Nat):Int) (by rfl) (by rfl) (by omega) (by omega) (by omega)) ?_;refine jm (vI ((k+1:Nat):Int)) ?_;refine jzb hb fun X4 hX4 hb=>?_;replace hD4:=hD4.bel hX4
    go_wp2
    go_roundw
    case rel=>exact ⟨k+1,by omega,rfl,HZ2,hb⟩
    case measure=>simp [intOf];omega
  ·obtain rfl:k=ns:=by omega
   have HS:Hid (eB ss=true):=vZa h (fun j hj=>HZ.out j (by rw [HLS3.out] at hj;exact hj));go_upto_region 4 with fail;refine jp ?_;refine bR (k:Int) (k:Int) (by omega) ?_;refine jzb hb fun X1 hX1 hb=>?_;go_upto_region 9 with fail;refine jp ?_;refine jm (.bool true) ?_;refine jzb hb fun X2 hX2 hb=>?_
   go_wp2
   go_ret
   exact ⟨by rw [HS.out];rfl,hb⟩
theorem sE (ss:List Stp) (u:Value) (w:World) (hu:Sts ss u w):Calls Tryd.prog 7 #[u] w fun e w'=>e=.returned (.bool (eB ss))∧Since w w':=by
 by_cases h:ss.length≤24
 ·exact shtM ss u w hu h
 ·exact sht0 ss u w hu (by omega)
set_option maxHeartbeats 8000000 in
theorem runC (B:Nat) (c:Int) (v z:Value) (l:List En) (cs:List Cg) (ss:List Stp) (m9:Nat) (u:Value) (w:World) (hv:Es l v w) (hz:Cs B cs z w) (hu:Sts ss u w) (hBw:B≤w.heap.size) (hI:In45 c (l,cs) m9) (hm9:m9+ss.length≤4000) (hss:∀ s∈ss,tz s.q.am.2.1 s.q.am.2.2 12):Calls Tryd.prog 9 #[.agg #[vI c,v,z],u] w fun e w'=>∃ r,e=.returned r∧Prs B c (rn c (l,cs) ss).1 (rn c (l,cs) ss).2 r w'∧Since w w':=by
 obtain ⟨A,n,cp,rfl,hln,hn1,hr⟩:=hv.at;clear hv;have HRX:=cP hr;have HLN:=Lib.hid hln;clear hr;have HES:=dG HLN HRX;obtain ⟨A2,m,cp2,rfl,hlm,hm1,hr2⟩:=hz.at
 have HCS:Hid (∀ X,Since w X→Cs B cs (.slice A2 m cp2) X):=fun X h=>Cs.lasts B cs _ _ _ hz h
 have HRC:Hid (∀ X,Since w X→Rd X 2 (.slice A2 m cp2) m (fl clc cs)):=fun X h=>hr2.below h
 have HLM:=Lib.hid hlm;clear hz hr2;obtain ⟨A3,ns,cp3,rfl,hls3,hn3,hr3⟩:=hu.at
 have HRS3:Hid (∀ X,Since w X→Rd X 11 (.slice A3 ns cp3) ns (fl spc ss)):=fun X h=>hr3.below h
 have HLS3:=Lib.hid hls3;clear hu hr3
 have HIN:Hid (∀ k,In45 c (rn c (l,cs) (ss.take k)) (m9+ss.length)):=fun k=>hI.rnT hm9 hss k
 have HSZ:Hid (∀ k,tz (sp ss k).q.am.2.1 (sp ss k).q.am.2.2 100):=fun k=>(qVf hss k).mono (by decide)
 clear hI hss
 go_enter Tryd.func9,Tryd.ntmps9
 go_upto_region 1 with fail;obtain ⟨W0,hW0,hB0,hB1,hb⟩:=cF w 31 31 [vI c,.slice A n cp,.slice A2 m cp2] [vI 0,.slice none 0 0,.slice none 0 0];rw [← hW0];clear hW0;refine jp ?_;refine jm (.slice A3 ns cp3) ?_;refine jv (vI ns) (aJ Tryd.underlying22 _ (by rfl) A3 ns cp3 (by rfl) _ rfl) ?_;refine jm (vI 0) ?_;refine jzb hb fun X1 hX1 hb=>?_;obtain ⟨hB0,hB1⟩:=bl2 hX1 hB0 hB1;have hU0:=HES.out _ hb;have hZ0:=HCS.out _ hb
 go_wp2
 go_loopw [11] (fun kv wr=>∃ (k:Nat) (U Z:Value),k≤ns∧kv=vI k∧Blk wr w.heap.size 31 [vI c,U,Z]∧Blk wr (w.heap.size+1) 31 [vI 0,.slice none 0 0,.slice none 0 0]∧Es (rn c (l,cs) (ss.take k)).1 U wr∧Cs B (rn c (l,cs) (ss.take k)).2 Z wr∧Below w.heap.size w wr) (fun kv _=>ns-(intOf kv).toNat)
 case atStart=>exact ⟨0,_,_,by omega,rfl,hB0,hB1,hU0,hZ0,hb⟩
 case round =>
  clear hb hB0 hB1 hU0 hZ0;obtain ⟨k,U,Z,hk,rfl,hB0,hB1,hU,hZ,hb⟩:=hrel
  rcases Nat.lt_or_ge k ns with hlt|hlt
  ·obtain ⟨⟨L,C⟩,hS⟩:∃ S,rn c (l,cs) (ss.take k)=S:=⟨_,rfl⟩
   have HIK:Hid (In45 c (L,C) (m9+ss.length)):=by
    show In45 _ _ _
    rw [← hS];exact HIN.out k
   have HNX:Hid (rn c (l,cs) (ss.take (k+1))=stp c (L,C) (sp ss k)):=by
    show _=_
    rw [xP c (l,cs) (by rw [HLS3.out];exact hlt),hS]
   rw [hS] at hU hZ
   change Es L U wr at hU
   change Cs B C Z wr at hZ
   clear hS
   have HL1:Hid (∀ j,tz (en L j).am.2.1 (en L j).am.2.2 100):=fun j=>(HIK.out.sz j).mono (by decide)
   have hq1:tz (sp ss k).q.am.2.1 (sp ss k).q.am.2.2 100:=HSZ.out k;obtain ⟨b3,off3,rfl,hbb3,hcx3⟩:=tX (HRS3.out _ hb) HLS3.out (k:=k) hlt;obtain ⟨s,s9⟩:∃ s,s=sp ss k:=⟨_,rfl⟩;have HS:=Lib.hid s9;clear s9;rw [← HS.out] at hcx3
   change Cl wr b3 (off3+k * 11) [vI s.q.day,vI s.q.pd,vI s.q.ac,.bool s.q.am.1,vS s.q.am.2.1,vS s.q.am.2.2,vI s.q.w1,vI s.q.w2,vI s.q.w3,vI s.q.w4,.bool s.cl] at hcx3
   have hq2:tz s.q.am.2.1 s.q.am.2.2 100:=by rw [HS.out];exact hq1
   have HNY:Hid (rn c (l,cs) (ss.take (k+1))=stp c (L,C) s):=by rw [HS.out];exact HNX.out
   clear hq1 HNX;go_upto_region 2 with fail;refine jp ?_;refine cW (k:Int) (ns:Int) (by omega) ?_;refine jzb hb fun X1 hX1 hb=>?_;replace hU:=(Es.lasts L) _ _ _ hU hX1;replace hZ:=(Cs.lasts B C) _ _ _ hZ hX1;obtain ⟨hB0,hB1⟩:=bl2 hX1 hB0 hB1;have hcx3:=hcx3.below hX1 hbb3;replace hbb3:=Nat.lt_of_lt_of_le hbb3 (hX1).size;go_upto_region 3 with fail;refine jq 2 ?_;refine jv (vP b3 (off3+k * 11)) (aW Tryd.underlying22 cE _ _ (by rfl) b3 (off3) ns cp3 k hlt (by rfl) (by rfl) rfl) ?_;refine jg (.agg #[vI s.q.day,vI s.q.pd,vI s.q.ac,.bool s.q.am.1,st s.q.am.2.1,st s.q.am.2.2,vI s.q.w1,vI s.q.w2,vI s.q.w3,vI s.q.w4,.bool s.cl]) (fun X hX hF=>bY 45 _ (by rfl) b3 (off3+k * 11) (by rfl) Tryd.underlying45 rfl [vI s.q.day,vI s.q.pd,vI s.q.ac,.bool s.q.am.1,vS s.q.am.2.1,vS s.q.am.2.2,vI s.q.w1,vI s.q.w2,vI s.q.w3,vI s.q.w4,.bool s.cl] X (Cl.part (hcx3.below hX hbb3) 0 _ (by rfl)) cE) ?_;refine jzb hb fun X2 hX2 hb=>?_;replace hU:=(Es.lasts L) _ _ _ hU hX2;replace hZ:=(Cs.lasts B C) _ _ _ hZ hX2;obtain ⟨hB0,hB1⟩:=bl2 hX2 hB0 hB1;have hcx3:=hcx3.below hX2 hbb3;replace hbb3:=Nat.lt_of_lt_of_le hbb3 (hX2).size;go_upto_region 4 with (refine osn 45 6 14 #[vI s.q.day,vI s.q.pd,vI s.q.ac,.bool s.q.am.1,vS s.q.am.2.1,vS s.q.am.2.2,vI s.q.w1,vI s.q.w2,vI s.q.w3,vI s.q.w4,.bool s.cl] cE ?_)
   obtain ⟨Y2,hY9,hD6,hS9⟩:=aT X2 45 [vI s.q.day,vI s.q.pd,vI s.q.ac,.bool s.q.am.1,vS s.q.am.2.1,vS s.q.am.2.2,vI s.q.w1,vI s.q.w2,vI s.q.w3,vI s.q.w4,.bool s.cl];rw [← hY9];clear hY9;have hgs6:=hb.size;have hlt6x0:=hB0.lt;have hlt6x1:=hB1.lt;have hcx3:=hcx3.below hS9 hbb3;replace hbb3:=Nat.lt_of_lt_of_le hbb3 (hS9).size;obtain ⟨hB0,hB1⟩:=bl2 hS9 hB0 hB1;have hU:=(Es.lasts L) _ _ _ hU hS9;have hZ:=(Cs.lasts B C) _ _ _ hZ hS9;have hb:=aD hb hS9;clear hS9;generalize X2.heap.size=g6 at *;obtain ⟨E1,hE1⟩:∃ z,bN c L C s.q=z:=⟨_,rfl⟩;obtain ⟨C1,hC1⟩:∃ z,ifz E1 c=z:=⟨_,rfl⟩;obtain ⟨L1,hL1⟩:∃ z,bT c L C s.q=z:=⟨_,rfl⟩;obtain ⟨D1,hD1⟩:∃ z,dB E1 C=z:=⟨_,rfl⟩;have HE1:=Lib.hid hE1;have HC1:=Lib.hid hC1;have HL1':=Lib.hid hL1;have HD1:=Lib.hid hD1;clear hE1 hC1 hL1 hD1;refine bA 7 [none,none,none,some (Tp (Prs B C1 L1 D1) E1),none,some (Prs B C1 L1 D1)] (aA (aA (aA (aC (Tp.lasts (Prs.lasts B C1 L1 D1) _) (aA (aC (Prs.lasts B C1 L1 D1) (aG))))))) ?_;simp only [its,List.take,List.drop,Nat.zero_add,Nat.reduceAdd];refine ja hB0 Tryd.underlying31 (by rfl) aH ?_;refine jn (vP g6 0) ?_;refine jg (.agg #[vI s.q.day,vI s.q.pd,vI s.q.ac,.bool s.q.am.1,st s.q.am.2.1,st s.q.am.2.2,vI s.q.w1,vI s.q.w2,vI s.q.w3,vI s.q.w4]) (fun X hX hF=>aO 43 _ (by rfl) g6 0 [vI s.q.day,vI s.q.pd,vI s.q.ac,.bool s.q.am.1,vS s.q.am.2.1,vS s.q.am.2.2,vI s.q.w1,vI s.q.w2,vI s.q.w3,vI s.q.w4] (by rfl) Tryd.underlying43 rfl X (hD6.bel hX) (by rfl) yF) ?_
   refine jk (fun X hX hF=>rG B c (U) (Z) L C s.q X ((Es.lasts L) _ _ _ hU hX) ((Cs.lasts B C) _ _ _ hZ hX) HL1 hq2 HE1.out HC1.out HL1'.out HD1.out) ?_;intro v19;refine jm (v19) ?_;refine bJ (by rfl) (fun X hX hF=>by obtain ⟨u9,h9,h8⟩:=(hF _ _ List.mem_cons_self rfl);subst h9;exact ⟨u9,X,rfl,h8,Below.refl _ _⟩) ?_;intro v20;simp only [pX];refine jg (vI E1) (fun X hX hF=>by obtain ⟨u9,h9,_⟩:=(hF _ _ (List.mem_cons_of_mem _ List.mem_cons_self) rfl);subst h9;rfl) ?_;refine aI ?_;intro X3 hX3 hF;replace hU:=(Es.lasts L) _ _ _ hU hX3;replace hZ:=(Cs.lasts B C) _ _ _ hZ hX3;have hv19:=hF _ _ (List.mem_cons_of_mem _ List.mem_cons_self);have hv20:=hF _ _ List.mem_cons_self;obtain ⟨hB0,hB1,hD6⟩:=bl3 hX3 hB0 hB1 hD6;have hb:=aD hb hX3;clear hF hX3;obtain ⟨u20,z20,rfl,hu20,hz20⟩:=hv20;obtain ⟨A20,c20,rfl⟩:=Es.form hu20;obtain ⟨E20,k20,rfl⟩:=Cs.form hz20;go_upto_region 5 with (refine osn 31 7 20 #[vI C1,.slice A20 (L1).length c20,.slice E20 (D1).length k20] aH ?_);obtain ⟨Y3,hY9,hD7,hS9⟩:=aT X3 31 [vI C1,.slice A20 (L1).length c20,.slice E20 (D1).length k20];rw [← hY9];clear hY9;have hgs7:=hb.size;have hlt7x0:=hB0.lt;have hlt7x1:=hB1.lt;have hlt7x2:=hD6.lt;obtain ⟨hB0,hB1,hD6⟩:=bl3 hS9 hB0 hB1 hD6;replace hU:=(Es.lasts L) _ _ _ hU hS9;replace hZ:=(Cs.lasts B C) _ _ _ hZ hS9;replace hv19:=(Tp.lasts (Prs.lasts B C1 L1 D1) _) _ _ _ hv19 hS9;replace hu20:=(Es.lasts L1) _ _ _ hu20 hS9
   replace hz20:=(Cs.lasts B D1) _ _ _ hz20 hS9;have hb:=aD hb hS9;clear hS9;generalize X3.heap.size=g7 at *
   rcases hcl:s.cl with _|_
   ·skip
    have HCL:=Lib.hid hcl;rw [hcl] at hD6;clear hcl;go_upto_region 5 with fail;refine jp ?_;refine jn (vP g6 10) ?_;refine jf _ hD6 10 aS ?_;refine jzb hb fun X4 hX4 hb=>?_;replace hU:=(Es.lasts L) _ _ _ hU hX4;replace hZ:=(Cs.lasts B C) _ _ _ hZ hX4;replace hv19:=(Tp.lasts (Prs.lasts B C1 L1 D1) _) _ _ _ hv19 hX4;replace hu20:=(Es.lasts L1) _ _ _ hu20 hX4;replace hz20:=(Cs.lasts B D1) _ _ _ hz20 hX4;obtain ⟨hB0,hB1,hD6,hD7⟩:=bl4 hX4 hB0 hB1 hD6 hD7
    by_cases hz0:E1=0
    ·have HE0:=Lib.hid hz0
     have HCC:Hid (C1=c):=HC1.out.symm.trans (if_pos hz0);have HDD:Hid (D1=C):=HD1.out.symm.trans (if_pos hz0)
     have HN9:Hid (rn c (l,cs) (ss.take (k+1))=(L1,D1)):=by
      show _=_
      rw [HNY.out,xI HCL.out,if_pos (HE1.out.trans hz0),HL1'.out,HDD.out]
     clear hz0;rw [HCC.out] at hD7;go_upto_region 7 with fail;refine jp ?_;refine jm (vI E1) ?_;refine jv (.bool true) (bP _ _ _ _ (by rfl) .i64 E1 0 (by rfl) (by rfl) true (by rw [HE0.out];rfl)) ?_;refine jzb hb fun X5 hX5 hb=>?_;replace hU:=(Es.lasts L) _ _ _ hU hX5;replace hZ:=(Cs.lasts B C) _ _ _ hZ hX5;replace hv19:=(Tp.lasts (Prs.lasts B C1 L1 D1) _) _ _ _ hv19 hX5;replace hu20:=(Es.lasts L1) _ _ _ hu20 hX5;replace hz20:=(Cs.lasts B D1) _ _ _ hz20 hX5;obtain ⟨hB0,hB1,hD6,hD7⟩:=bl4 hX5 hB0 hB1 hD6 hD7;go_upto_region 8 with fail;refine jq 1 ?_;refine ja hD7 Tryd.underlying31 (by rfl) aH ?_;refine jzb hb fun X6 hX6 hb=>?_;replace hU:=(Es.lasts L) _ _ _ hU hX6;replace hZ:=(Cs.lasts B C) _ _ _ hZ hX6;replace hv19:=(Tp.lasts (Prs.lasts B C1 L1 D1) _) _ _ _ hv19 hX6;replace hu20:=(Es.lasts L1) _ _ _ hu20 hX6;replace hz20:=(Cs.lasts B D1) _ _ _ hz20 hX6;obtain ⟨hB0,hB1,hD6,hD7⟩:=bl4 hX6 hB0 hB1 hD6 hD7;refine aN rfl 31 (.tmp 2) (.tmp 34) rfl w.heap.size 31 _ hB0 rfl [vI c,.slice A20 (L1).length c20,.slice E20 (D1).length k20] rfl (by rfl) (by intro u hu;simp only [List.mem_cons,List.not_mem_nil,or_false] at hu;rcases hu with rfl|rfl|rfl <;> rfl) aH ?_;intro w8s hR9 hG9;have hb:=aK hG9 hb hb.size (by omega);replace hB1:=aE hG9 hB1 (by omega);replace hD6:=aE hG9 hD6 (by omega);replace hD7:=aE hG9 hD7 (by omega);replace hU:=Es.grown hG9 hU hB0;replace hZ:=Cs.grownW hG9 hZ hB0
     clear hv19;replace hu20:=Es.grown hG9 hu20 hB0;replace hz20:=Cs.grownW hG9 hz20 hB0;have hB0:=hR9;clear hG9 hR9;refine wpList_nil ?_;go_upto_region 9 with fail;refine jp ?_;refine jv (vI ((k+1:Nat):Int)) (aX _ _ _ _ (by rfl) (k:Int) 1 ((k+1:Nat):Int) (by rfl) (by rfl) (by omega) (by omega) (by omega)) ?_;refine jm (vI ((k+1:Nat):Int)) ?_;refine jzb hb fun X7 hX7 hb=>?_;replace hU:=(Es.lasts L) _ _ _ hU hX7;replace hZ:=(Cs.lasts B C) _ _ _ hZ hX7;replace hu20:=(Es.lasts L1) _ _ _ hu20 hX7;replace hz20:=(Cs.lasts B D1) _ _ _ hz20 hX7;obtain ⟨hB0,hB1,hD6,hD7⟩:=bl4 hX7 hB0 hB1 hD6 hD7
     have hU9:Es (rn c (l,cs) (ss.take (k+1))).1 (.slice A20 (L1).length c20) X7:=by rw [HN9.out];exact hu20
     have hZ9:Cs B (rn c (l,cs) (ss.take (k+1))).2 (.slice E20 (D1).length k20) X7:=by rw [HN9.out];exact hz20
     go_wp2
     go_roundw
     case rel=>exact ⟨k+1,(.slice A20 (L1).length c20),(.slice E20 (D1).length k20),by omega,rfl,hB0,hB1,hU9,hZ9,hb⟩
     case measure=>simp [intOf];omega
    ·have HE0:Hid (E1≠0):=hz0
     have HN9:Hid (rn c (l,cs) (ss.take (k+1))=(L,C)):=by
      show _=_
      rw [HNY.out,xI HCL.out,if_neg (fun h9=>hz0 (HE1.out.symm.trans h9))]
     clear hz0;go_upto_region 7 with fail;refine jp ?_;refine jm (vI E1) ?_;refine eH E1 0 HE0.out ?_;refine jzb hb fun X5 hX5 hb=>?_;replace hU:=(Es.lasts L) _ _ _ hU hX5;replace hZ:=(Cs.lasts B C) _ _ _ hZ hX5;replace hv19:=(Tp.lasts (Prs.lasts B C1 L1 D1) _) _ _ _ hv19 hX5;replace hu20:=(Es.lasts L1) _ _ _ hu20 hX5;replace hz20:=(Cs.lasts B D1) _ _ _ hz20 hX5;obtain ⟨hB0,hB1,hD6,hD7⟩:=bl4 hX5 hB0 hB1 hD6 hD7;go_upto_region 9 with fail;refine jp ?_;refine jv (vI ((k+1:Nat):Int)) (aX _ _ _ _ (by rfl) (k:Int) 1 ((k+1:Nat):Int) (by rfl) (by rfl) (by omega) (by omega) (by omega)) ?_;refine jm (vI ((k+1:Nat):Int)) ?_;refine jzb hb fun X6 hX6 hb=>?_;replace hU:=(Es.lasts L) _ _ _ hU hX6;replace hZ:=(Cs.lasts B C) _ _ _ hZ hX6;replace hv19:=(Tp.lasts (Prs.lasts B C1 L1 D1) _) _ _ _ hv19 hX6;replace hu20:=(Es.lasts L1) _ _ _ hu20 hX6;replace hz20:=(Cs.lasts B D1) _ _ _ hz20 hX6;obtain ⟨hB0,hB1,hD6,hD7⟩:=bl4 hX6 hB0 hB1 hD6 hD7
     have hU9:Es (rn c (l,cs) (ss.take (k+1))).1 (U) X6:=by rw [HN9.out];exact hU
     have hZ9:Cs B (rn c (l,cs) (ss.take (k+1))).2 (Z) X6:=by rw [HN9.out];exact hZ
     go_wp2
     go_roundw
     case rel=>exact ⟨k+1,(U),(Z),by omega,rfl,hB0,hB1,hU9,hZ9,hb⟩
     case measure=>simp [intOf];omega
   ·skip
    have HCL:=Lib.hid hcl;rw [hcl] at hD6;clear hcl;go_upto_region 5 with fail;refine jp ?_;refine jn (vP g6 10) ?_;refine jf _ hD6 10 aS ?_;refine jzb hb fun X4 hX4 hb=>?_;replace hU:=(Es.lasts L) _ _ _ hU hX4;replace hZ:=(Cs.lasts B C) _ _ _ hZ hX4;replace hv19:=(Tp.lasts (Prs.lasts B C1 L1 D1) _) _ _ _ hv19 hX4;replace hu20:=(Es.lasts L1) _ _ _ hu20 hX4;replace hz20:=(Cs.lasts B D1) _ _ _ hz20 hX4;obtain ⟨hB0,hB1,hD6,hD7⟩:=bl4 hX4 hB0 hB1 hD6 hD7;obtain ⟨E2,hE2⟩:∃ z,cQ c L C s.q.day=z:=⟨_,rfl⟩;obtain ⟨C2,hC2⟩:∃ z,ifz E2 c=z:=⟨_,rfl⟩;obtain ⟨L2,hL2⟩:∃ z,dB E2 L=z:=⟨_,rfl⟩;obtain ⟨D2,hD2⟩:∃ z,dL c L C s.q.day=z:=⟨_,rfl⟩;have HE2:=Lib.hid hE2;have HC2:=Lib.hid hC2;have HL2:=Lib.hid hL2;have HD2:=Lib.hid hD2;clear hE2 hC2 hL2 hD2;go_upto_region 6 with fail;refine bA 8 [none,none,none,none,some (Tp (Prs B C2 L2 D2) E2),none,some (Prs B C2 L2 D2)] (aA (aA (aA (aA (aC (Tp.lasts (Prs.lasts B C2 L2 D2) _) (aA (aC (Prs.lasts B C2 L2 D2) (aG)))))))) ?_;simp only [its,List.take,List.drop,Nat.zero_add,Nat.reduceAdd];refine ja hB0 Tryd.underlying31 (by rfl) aH ?_;refine jn (vP g6 0) ?_;refine jn (vP g6 0) ?_;refine jf _ hD6 0 aB ?_;refine jk (fun X hX hF=>yU B c (U) (Z) L C s.q.day X ((Es.lasts L) _ _ _ hU hX) ((Cs.lasts B C) _ _ _ hZ hX) (qQd HL1) HE2.out HC2.out HL2.out HD2.out) ?_
    intro v29;refine jm (v29) ?_;refine bJ (by rfl) (fun X hX hF=>by obtain ⟨u9,h9,h8⟩:=(hF _ _ List.mem_cons_self rfl);subst h9;exact ⟨u9,X,rfl,h8,Below.refl _ _⟩) ?_;intro v30;simp only [pX];refine jg (vI E2) (fun X hX hF=>by obtain ⟨u9,h9,_⟩:=(hF _ _ (List.mem_cons_of_mem _ List.mem_cons_self) rfl);subst h9;rfl) ?_;refine aI ?_;intro X5 hX5 hF;replace hU:=(Es.lasts L) _ _ _ hU hX5;replace hZ:=(Cs.lasts B C) _ _ _ hZ hX5;replace hv19:=(Tp.lasts (Prs.lasts B C1 L1 D1) _) _ _ _ hv19 hX5;replace hu20:=(Es.lasts L1) _ _ _ hu20 hX5;replace hz20:=(Cs.lasts B D1) _ _ _ hz20 hX5;have hv29:=hF _ _ (List.mem_cons_of_mem _ List.mem_cons_self);have hv30:=hF _ _ List.mem_cons_self;obtain ⟨hB0,hB1,hD6,hD7⟩:=bl4 hX5 hB0 hB1 hD6 hD7;have hb:=aD hb hX5;clear hF hX5;obtain ⟨u30,z30,rfl,hu30,hz30⟩:=hv30;obtain ⟨A30,c30,rfl⟩:=Es.form hu30;obtain ⟨E30,k30,rfl⟩:=Cs.form hz30;refine aN rfl 31 (.tmp 7) (.tmp 30) rfl g7 31 _ hD7 rfl [vI C2,.slice A30 (L2).length c30,.slice E30 (D2).length k30] rfl (by rfl) (by intro u hu;simp only [List.mem_cons,List.not_mem_nil,or_false] at hu;rcases hu with rfl|rfl|rfl <;> rfl) aH ?_;intro w6s hR9 hG9;have hb:=aK hG9 hb hb.size (by omega);replace hB0:=aE hG9 hB0 (by omega);replace hB1:=aE hG9 hB1 (by omega);replace hD6:=aE hG9 hD6 (by omega);replace hU:=Es.grown hG9 hU hD7;replace hZ:=Cs.grownW hG9 hZ hD7;clear hv19;replace hu20:=Es.grown hG9 hu20 hD7
    replace hz20:=Cs.grownW hG9 hz20 hD7;clear hv29;replace hu30:=Es.grown hG9 hu30 hD7;replace hz30:=Cs.grownW hG9 hz30 hD7;have hD7:=hR9;clear hG9 hR9;refine dV rfl (vI E2) (by rfl) ?_;refine wpList_nil ?_
    by_cases hz0:E2=0
    ·have HE0:=Lib.hid hz0
     have HCC:Hid (C2=c):=HC2.out.symm.trans (if_pos hz0);have HLL:Hid (L2=L):=HL2.out.symm.trans (if_pos hz0)
     have HN9:Hid (rn c (l,cs) (ss.take (k+1))=(L2,D2)):=by
      show _=_
      rw [HNY.out,xJ HCL.out,if_pos (HE2.out.trans hz0),HD2.out,HLL.out]
     clear hz0;rw [HCC.out] at hD7;go_upto_region 7 with fail;refine jp ?_;refine jm (vI E2) ?_;refine jv (.bool true) (bP _ _ _ _ (by rfl) .i64 E2 0 (by rfl) (by rfl) true (by rw [HE0.out];rfl)) ?_;refine jzb hb fun X6 hX6 hb=>?_;replace hU:=(Es.lasts L) _ _ _ hU hX6;replace hZ:=(Cs.lasts B C) _ _ _ hZ hX6;replace hu20:=(Es.lasts L1) _ _ _ hu20 hX6;replace hz20:=(Cs.lasts B D1) _ _ _ hz20 hX6;replace hu30:=(Es.lasts L2) _ _ _ hu30 hX6;replace hz30:=(Cs.lasts B D2) _ _ _ hz30 hX6;obtain ⟨hB0,hB1,hD6,hD7⟩:=bl4 hX6 hB0 hB1 hD6 hD7;go_upto_region 8 with fail;refine jq 1 ?_;refine ja hD7 Tryd.underlying31 (by rfl) aH ?_;refine jzb hb fun X7 hX7 hb=>?_;replace hU:=(Es.lasts L) _ _ _ hU hX7;replace hZ:=(Cs.lasts B C) _ _ _ hZ hX7;replace hu20:=(Es.lasts L1) _ _ _ hu20 hX7;replace hz20:=(Cs.lasts B D1) _ _ _ hz20 hX7;replace hu30:=(Es.lasts L2) _ _ _ hu30 hX7;replace hz30:=(Cs.lasts B D2) _ _ _ hz30 hX7;obtain ⟨hB0,hB1,hD6,hD7⟩:=bl4 hX7 hB0 hB1 hD6 hD7;refine aN rfl 31 (.tmp 2) (.tmp 34) rfl w.heap.size 31 _ hB0 rfl [vI c,.slice A30 (L2).length c30,.slice E30 (D2).length k30] rfl (by rfl) (by intro u hu;simp only [List.mem_cons,List.not_mem_nil,or_false] at hu;rcases hu with rfl|rfl|rfl <;> rfl) aH ?_;intro w8s hR9 hG9;have hb:=aK hG9 hb hb.size (by omega);replace hB1:=aE hG9 hB1 (by omega);replace hD6:=aE hG9 hD6 (by omega);replace hD7:=aE hG9 hD7 (by omega);replace hU:=Es.grown hG9 hU hB0
     replace hZ:=Cs.grownW hG9 hZ hB0;replace hu20:=Es.grown hG9 hu20 hB0;replace hz20:=Cs.grownW hG9 hz20 hB0;replace hu30:=Es.grown hG9 hu30 hB0;replace hz30:=Cs.grownW hG9 hz30 hB0;have hB0:=hR9;clear hG9 hR9;refine wpList_nil ?_;go_upto_region 9 with fail;refine jp ?_;refine jv (vI ((k+1:Nat):Int)) (aX _ _ _ _ (by rfl) (k:Int) 1 ((k+1:Nat):Int) (by rfl) (by rfl) (by omega) (by omega) (by omega)) ?_;refine jm (vI ((k+1:Nat):Int)) ?_;refine jzb hb fun X8 hX8 hb=>?_;replace hU:=(Es.lasts L) _ _ _ hU hX8;replace hZ:=(Cs.lasts B C) _ _ _ hZ hX8;replace hu20:=(Es.lasts L1) _ _ _ hu20 hX8;replace hz20:=(Cs.lasts B D1) _ _ _ hz20 hX8;replace hu30:=(Es.lasts L2) _ _ _ hu30 hX8;replace hz30:=(Cs.lasts B D2) _ _ _ hz30 hX8;obtain ⟨hB0,hB1,hD6,hD7⟩:=bl4 hX8 hB0 hB1 hD6 hD7
     have hU9:Es (rn c (l,cs) (ss.take (k+1))).1 (.slice A30 (L2).length c30) X8:=by rw [HN9.out];exact hu30
     have hZ9:Cs B (rn c (l,cs) (ss.take (k+1))).2 (.slice E30 (D2).length k30) X8:=by rw [HN9.out];exact hz30
     go_wp2
     go_roundw
     case rel=>exact ⟨k+1,(.slice A30 (L2).length c30),(.slice E30 (D2).length k30),by omega,rfl,hB0,hB1,hU9,hZ9,hb⟩
     case measure=>simp [intOf];omega
    ·have HE0:Hid (E2≠0):=hz0
     have HN9:Hid (rn c (l,cs) (ss.take (k+1))=(L,C)):=by
      show _=_
      rw [HNY.out,xJ HCL.out,if_neg (fun h9=>hz0 (HE2.out.symm.trans h9))]
     clear hz0;go_upto_region 7 with fail;refine jp ?_;refine jm (vI E2) ?_;refine eH E2 0 HE0.out ?_;refine jzb hb fun X6 hX6 hb=>?_;replace hU:=(Es.lasts L) _ _ _ hU hX6;replace hZ:=(Cs.lasts B C) _ _ _ hZ hX6;replace hu20:=(Es.lasts L1) _ _ _ hu20 hX6;replace hz20:=(Cs.lasts B D1) _ _ _ hz20 hX6;replace hu30:=(Es.lasts L2) _ _ _ hu30 hX6;replace hz30:=(Cs.lasts B D2) _ _ _ hz30 hX6;obtain ⟨hB0,hB1,hD6,hD7⟩:=bl4 hX6 hB0 hB1 hD6 hD7;go_upto_region 9 with fail;refine jp ?_;refine jv (vI ((k+1:Nat):Int)) (aX _ _ _ _ (by rfl) (k:Int) 1 ((k+1:Nat):Int) (by rfl) (by rfl) (by omega) (by omega) (by omega)) ?_;refine jm (vI ((k+1:Nat):Int)) ?_;refine jzb hb fun X7 hX7 hb=>?_;replace hU:=(Es.lasts L) _ _ _ hU hX7;replace hZ:=(Cs.lasts B C) _ _ _ hZ hX7;replace hu20:=(Es.lasts L1) _ _ _ hu20 hX7;replace hz20:=(Cs.lasts B D1) _ _ _ hz20 hX7;replace hu30:=(Es.lasts L2) _ _ _ hu30 hX7;replace hz30:=(Cs.lasts B D2) _ _ _ hz30 hX7;obtain ⟨hB0,hB1,hD6,hD7⟩:=bl4 hX7 hB0 hB1 hD6 hD7
     have hU9:Es (rn c (l,cs) (ss.take (k+1))).1 (U) X7:=by rw [HN9.out];exact hU
     have hZ9:Cs B (rn c (l,cs) (ss.take (k+1))).2 (Z) X7:=by rw [HN9.out];exact hZ
     go_wp2
     go_roundw
     case rel=>exact ⟨k+1,(U),(Z),by omega,rfl,hB0,hB1,hU9,hZ9,hb⟩
     case measure=>simp [intOf];omega
  ·obtain rfl:k=ns:=by omega
   rw [show ss.take k=ss by rw [← HLS3.out,List.take_length]] at hU hZ;obtain ⟨A9,c9,rfl⟩:=Es.form hU;obtain ⟨A8,c8,rfl⟩:=Cs.form hZ;go_upto_region 2 with fail;refine jp ?_;refine bR (k:Int) (k:Int) (by omega) ?_;refine jzb hb fun X1 hX1 hb=>?_;replace hU:=(Es.lasts (rn c (l,cs) ss).1) _ _ _ hU hX1;replace hZ:=(Cs.lasts B (rn c (l,cs) ss).2) _ _ _ hZ hX1;obtain ⟨hB0,hB1⟩:=bl2 hX1 hB0 hB1;go_upto_region 10 with fail;refine jq 1 ?_;refine ja hB0 Tryd.underlying31 (by rfl) aH ?_;refine jzb hb fun X2 hX2 hb=>?_;replace hU:=(Es.lasts (rn c (l,cs) ss).1) _ _ _ hU hX2;replace hZ:=(Cs.lasts B (rn c (l,cs) ss).2) _ _ _ hZ hX2;obtain ⟨hB0,hB1⟩:=bl2 hX2 hB0 hB1;refine aN rfl 31 (.tmp 4) (.tmp 36) rfl (w.heap.size+1) 31 _ hB1 rfl [vI c,.slice A9 (rn c (l,cs) ss).1.length c9,.slice A8 (rn c (l,cs) ss).2.length c8] rfl (by rfl) (by intro u hu;simp only [List.mem_cons,List.not_mem_nil,or_false] at hu;rcases hu with rfl|rfl|rfl <;> rfl) aH ?_;intro w10s hR9 hG9;have hb:=aK hG9 hb hb.size (by omega);replace hB0:=aE hG9 hB0 (by omega);replace hU:=Es.grown hG9 hU hB1;replace hZ:=Cs.grownW hG9 hZ hB1;have hB1:=hR9;clear hG9 hR9
   go_wp2
   refine bL rfl rfl (by rfl) Tryd.underlying31 rfl hB1 aH ⟨_,rfl,⟨_,_,rfl,hU,hZ⟩,hb⟩
end Go.Proofs.YtjkfchehkpmhkaaDoor

/- A world for the witness: the listed tables hold what the pro -/
import Derived.Test.YtjkfchehkpmhkaaGreatDoorCards
import Derived.Test.YtjkfchehkpmhkaaGreatDoorTie
import Derived.WalkKit
import Derived.ProofKit
import Derived.OpenShut
import Derived.Deep.DeepHandedRow
import Derived.Lib.LaidTab
import Derived.Stop.LaidErr
import Derived.Test.YtjkfchehkpmhkaaGreatDoorPh45
import Derived.Test.YtjkfchehkpmhkaaGreatDoorPl45d
import Derived.Test.YtjkfchehkpmhkaaGreatDoorBi
set_option linter.unusedSimpArgs false
set_option linter.unusedVariables false
set_option maxRecDepth 100000
set_option maxHeartbeats 1600000
namespace Go.Proofs.YtjkfchehkpmhkaaGreatDoor
open Go.RowKit
theorem szL {l:List En} (h:(l.all fun x=>few x.am.2.1 x.am.2.2 100)=true):Hid (∀ k,tz (en l k).am.2.1 (en l k).am.2.2 100):=fun k=>by
 rcases Nat.lt_or_ge k l.length with h1|h1
 ·have h2:=List.all_eq_true.1 h _ (List.getElem_mem h1)
  rw [mN h1]
  unfold few at h2
  rw [Bool.and_eq_true] at h2;exact ⟨of_decide_eq_true h2.1,of_decide_eq_true h2.2⟩
 ·unfold en
  rw [List.getD_eq_getElem?_getD,List.getElem?_eq_none h1];exact mS
theorem rY:(Tryz.prog.info? 46).map (·.size)=some 11:=by kernel_rfl
theorem Cs.grownW {X Y:World} {B g:Nat} {T:TypeId} {l:List Cg} {v:Value} {ys:List Value} (hG:X.grownBy Y (some g)) (h:Cs B l v X) (hB:Blk X g T ys) (hg:B≤g:=by omega) (hT:(T == 72)=false:=by rfl):Cs B l v Y:=Cs.grown hG h hB hg hT
def spc (s:Stp):List Value:=[vI s.q.day,vI s.q.pd,vI s.q.ac,.bool s.q.am.1,vS s.q.am.2.1,vS s.q.am.2.2,vI s.q.w1,vI s.q.w2,vI s.q.w3,vI s.q.w4,.bool s.cl]
theorem wF (s:Stp):(spc s).length=11:=rfl
def Sts (l:List Stp) (v:Value) (X:World):Prop:=Rd X 11 v l.length (fl spc l)
theorem Sts.at {l:List Stp} {v:Value} {w:World} (h:Sts l v w):∃ A n c,v=.slice A n c∧l.length=n∧n≤9223372036854775807∧Rd w 11 (.slice A n c) n (fl spc l):=by
 obtain ⟨hl,A,c,hv,hc,hm,hz,hx⟩:=h;refine ⟨A,l.length,c,hv,rfl,?_,hl,A,c,rfl,hc,hm,hz,hx⟩
 unfold maxLen at hm
 omega
theorem spAt {w:World} {A:Option Addr} {n c:Nat} {l:List Stp} (h:Rd w 11 (.slice A n c) n (fl spc l)) (hl:l.length=n) {k:Nat} (hk:k<n):∃ b off,A=some ⟨b,off,none⟩∧b<w.heap.size∧Cl w b (off+k * 11) (spc (sp l k)):=by
 obtain ⟨b,off,x,hA,hb,hc,_,hd⟩:=h.atF (m:=11) (fun x _=>wF x) (by omega) (k:=k) (by omega);have h1:=congrArg (·[0]?) hd.out;rw [sp_in (by omega)]
 have h2:l[k]=x:=by
  have h3:l[k]?=some x:=by simpa [List.getElem?_drop] using h1
  rw [List.getElem?_eq_getElem (by omega)] at h3
  injection h3
 rw [h2];exact ⟨b,off,hA,hb,hc⟩
def Tr45 (y:Rat) (N:List Int) (e:Int) (v:Value) (X:World):Prop:=∃ u,v=.tuple #[.agg #[.bool (rN y),vS (rP y),vS (rD y)],u,vI e]∧Ks N u X
theorem Tr45.lasts (y:Rat) (N:List Int) (e:Int):eJ (Tr45 y N e):=by
 rintro v X Y ⟨u,h1,h2⟩ hS
 exact ⟨u,h1,Ks.lasts N _ _ _ h2 hS⟩
theorem oK {l:List En} (h:Hid (Sz45 l)):Hid (∀ k,tz (en l k).am.2.1 (en l k).am.2.2 1000000):=fun k=>(h.out.sz k).mono (by decide)
theorem sU (B:Nat) (c:Int) (v z:Value) (l:List En) (cs:List Cg) (q:Stg) (w:World) (hv:Es l v w) (hz:Cs B cs z w) (hs1:Hid (Sz45 l)) (hq1:tz q.am.2.1 q.am.2.2 100) {E:Int} (hE:cF c l cs q=E) {C:Int} (hC:ifz E c=C) {L:List En} (hL:cX c l cs q=L) {D:List Cg} (hD:cY E cs=D):Calls Tryz.prog 12 #[.agg #[vI c,v,z],.agg #[vI q.day,vI q.pd,vI q.ac,.bool q.am.1,vS q.am.2.1,vS q.am.2.2,vI q.w1,vI q.w2,vI q.w3,vI q.w4]] w fun e w'=>∃ u,e=.returned u∧Tp (Prs B C L D) E u w'∧Since w w':=by
 subst hE hC hL hD;exact stC45 B c v z l cs q w hv hz hs1 hq1
theorem qXw (B:Nat) (c:Int) (v z:Value) (l:List En) (cs:List Cg) (d:Int) (w:World) (hv:Es l v w) (hz:Cs B cs z w) (hs:Hid (∀ k,tz (en l k).am.2.1 (en l k).am.2.2 1000000)) {E:Int} (hE:cO c l cs d=E) {C:Int} (hC:ifz E c=C) {L:List En} (hL:cY E l=L) {D:List Cg} (hD:eS c l cs d=D):Calls Tryz.prog 14 #[.agg #[vI c,v,z],vI d] w fun e w'=>∃ u,e=.returned u∧Tp (Prs B C L D) E u w'∧Since w w':=by
 subst hE hC hL hD;exact clsC B c v z l cs d w hv hz hs
theorem qXc (B:Nat) (c:Int) (v z:Value) (l:List En) (cs:List Cg) (p a d:Int) (w:World) (hv:Es l v w) (hz:Cs B cs z w) (hs1:Hid (Sz45 l)) {E:Int} (hE:fK c l cs p a d=E) {K:Rat} (hK:gF c l cs p a d=K) {F:Rat} (hF:gG c l cs p a d=F) {C:Bool} (hC:mG c l cs p a d=C):Calls Tryz.prog 16 #[.agg #[vI c,v,z],vI p,vI a,vI d] w fun e w'=>e=.returned (.tuple #[.agg #[.bool (rN K),vS (rP K),vS (rD K),.bool (rN F),vS (rP F),vS (rD F),.bool C],vI E])∧Since w w':=by
 subst hE hK hF hC;exact fgrC B c v z l cs p a d w hv hz hs1
theorem vVc (B:Nat) (c:Int) (v z:Value) (l:List En) (cs:List Cg) (a f t:Int) (w:World) (hv:Es l v w) (hz:Cs B cs z w) (hs1:Hid (Sz45 l)) {E:Int} (hE:iZ c l cs a f t=E) {A:Rat} (hA:gX c l cs a f t=A) {N:List Int} (hN:nU c l cs a f t=N):Calls Tryz.prog 18 #[.agg #[vI c,v,z],vI a,vI f,vI t] w fun e w'=>∃ u,e=.returned u∧Tr45 A N E u w'∧Since w w':=by
 subst hE hA hN
 exact (crrC B c v z l cs a f t w hv hz hs1).mono fun e X' ⟨u,h1,h2,h3⟩=>⟨_,h1,⟨u,rfl,h2⟩,h3⟩
theorem vQq (B:Nat) (c:Int) (v z:Value) (l:List En) (cs:List Cg) (w:World) (hv:Es l v w) (hz:Cs B cs z w) (hs:Hid (∀ k,tz (en l k).am.2.1 (en l k).am.2.2 1000000)) {E:Int} (hE:peE c l cs=E):Calls Tryz.prog 9 #[.agg #[vI c,v,z]] w fun e w'=>e=.returned (vI E)∧Since w w':=by
 subst hE;exact sZ B c v z l cs w hv hz hs
theorem pE (x:Int) (w:World) (hx:gB x=true):Calls Tryz.prog 23 #[vI x] w fun e w'=>e=.returned (rbv (rk x 2))∧Since w w':=by
 go_enter Tryz.func23,Tryz.ntmps23
 go_upto_region 1 with fail;obtain ⟨W0,hW0,hB0,hb⟩:=aT w 40 [.bool false,.string ⟨#[]⟩,.string ⟨#[]⟩];rw [← hW0];clear hW0;refine jq 5 ?_;refine jm (vI x) ?_;refine jc (.tuple #[rt (rN (rk x 2)) (rP (rk x 2)) (rD (rk x 2)),vI 0]) (fun X hX hF=>makeC x 2 X hx (by decide) (by decide)) ?_;refine aX (.tuple #[rt (rN (rk x 2)) (rP (rk x 2)) (rD (rk x 2)),vI 0]) (rt (rN (rk x 2)) (rP (rk x 2)) (rD (rk x 2))) (vI 0) ?_;refine aQ hb hB0 fun X1 hX1 hb hB0=>?_;go_upto_region 2 with (refine osn 40 3 8 #[.bool (rN (rk x 2)),vS (rP (rk x 2)),vS (rD (rk x 2))] aC ?_);obtain ⟨Y1,hY9,hD3,hS9⟩:=aT X1 40 [.bool (rN (rk x 2)),vS (rP (rk x 2)),vS (rD (rk x 2))];rw [← hY9];clear hY9;have hgs3:=hb.size;have hlt3x0:=hB0.lt;have hB0:=hB0.bel hS9;have hb:=aI hb hS9;clear hS9;generalize X1.heap.size=g3 at *;refine jq 1 ?_;refine ja hD3 Tryz.underlying40 (by rfl) aC ?_;refine aN hb hB0 hD3 fun X2 hX2 hb hB0 hD3=>?_;refine osb 40 2 10 w.heap.size 40 hB0 [.bool (rN (rk x 2)),vS (rP (rk x 2)),vS (rD (rk x 2))] aC ?_;intro w9 hR9 hO9 hB9 hs9;have hb9:=hB9 _ _ hb (by omega);clear hO9 hB9
 go_wp2
 refine aU rfl rfl (by rfl) Tryz.underlying40 rfl hR9 aC ⟨rfl,hb9⟩
open Go.ChangeShapes Go.WideShapes Go.ChangeAt Go.RowKit
def qVr:Obj→Obj
 | .cells _ t frozen=>.cells (Go.Pinned.utf8FirstZ.map fun n:Nat=>Value.int .u8 (n:Int)).toArray t frozen
 | o=>o
def yS:Obj→Obj
 | .cells _ t frozen=>.cells (([128,191,160,191,128,159,144,191,128,143]++List.replicate 22 0).map fun n:Nat=>Value.int .u8 (n:Int)).toArray t frozen
 | o=>o
noncomputable def laidWorld (os:Os):World :=
 { World.holding Tryz.prog os ⟨#[],#[],[]⟩ with heap:=((World.holding Tryz.prog os ⟨#[],#[],[]⟩).heap.modify 0 qVr).modify 1 yS }
end Go.Proofs.YtjkfchehkpmhkaaGreatDoor

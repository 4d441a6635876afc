/- Layer 45: closings and periods as values. -/
import Derived.Test.YtjkfchehkpmhkaaDoorAe
import Derived.Test.YtjkfchehkpmhkaaDoorPl45b
set_option linter.unusedSimpArgs false
set_option linter.unusedVariables false
set_option maxRecDepth 100000
set_option maxHeartbeats 1600000
namespace Go.Proofs.YtjkfchehkpmhkaaDoor
open Go.RowKit
theorem aH:(Tryd.prog.info? 31).map (·.size)=some 3:=by kernel_rfl
theorem mN:(Tryd.prog.info? 79).map (·.size)=some 3:=by kernel_rfl
theorem cC:(Tryd.prog.info? 76).map (·.size)=some 2:=by kernel_rfl
theorem yF:(Tryd.prog.info? 43).map (·.size)=some 10:=by kernel_rfl
theorem bZ:(Tryd.prog.info? 47).map (·.size)=some 7:=by kernel_rfl
theorem jF:(Tryd.prog.info? 92).map (·.size)=some 18:=by kernel_rfl
theorem bF (b k:Nat) (X:World) (v:Value) (h:X.cell? ⟨b,k,none⟩=some v):(loadVar 29 ⟨b,k,none⟩).run Tryd.prog X=.ok v X:=by
 go_simp
def clc (x:Cg):List Value:=[vI x.day,vI x.place]
theorem yT (x:Cg):(clc x).length=2:=rfl
theorem vVn (l:List Cg):(fl clc l).length=l.length * 2:=nR (fun x _=>yT x)
def Cs (B:Nat) (l:List Cg) (v:Value) (X:World):Prop:=Rd X 2 v l.length (fl clc l)∧∀ b off n c,v=.slice (some ⟨b,off,none⟩) n c→0<n→b<B∨∃ arr fr,X.heap[b]?=some (.cells arr 76 fr)
theorem Cs.rd {B:Nat} {l:List Cg} {v:Value} {X:World} (h:Cs B l v X):Rd X 2 v l.length (fl clc l):=h.1
theorem Cs.mono {B B':Nat} {l:List Cg} {v:Value} {X:World} (h:Cs B l v X) (hB:B≤B'):Cs B' l v X:=⟨h.1,fun b off n c h1 h2=>(h.2 b off n c h1 h2).imp (fun h3=>by omega) id⟩
theorem Cs.low {l:List Cg} {v:Value} {X:World} (h:Rd X 2 v l.length (fl clc l)):Cs X.heap.size l v X:=⟨h,fun b off n c h1 h2=>.inl (by
 obtain ⟨_,A,c',h3,_,_,_,h4⟩:=h;rw [h1] at h3
 injection h3 with e1 e2 e3
 obtain ⟨b',off',h5,h6,_⟩:=h4 (by omega);rw [← e1] at h5
 injection h5 with h5
 injection h5 with h5 _
 omega)⟩
theorem Cs.lasts (B:Nat) (l:List Cg):dM (Cs B l):=by
 rintro v X Y ⟨h1,h2⟩ hS
 refine ⟨Rd.below h1 hS,fun b off n c h3 h4=>?_⟩
 rcases h2 b off n c h3 h4 with h5|⟨arr,fr,h5⟩
 ·exact .inl h5
 ·exact .inr ⟨arr,fr,(hS.block b (Array.getElem?_eq_some_iff.1 h5).1).trans h5⟩
theorem Cs.form {B:Nat} {l:List Cg} {v:Value} {X:World} (h:Cs B l v X):∃ A c,v=.slice A l.length c:=by
 obtain ⟨⟨_,A,c,h1,_⟩,_⟩:=h;exact ⟨A,c,h1⟩
theorem Cs.at {B:Nat} {l:List Cg} {v:Value} {w:World} (h:Cs B l v w):∃ A n c,v=.slice A n c∧l.length=n∧n≤9223372036854775807∧Rd w 2 (.slice A n c) n (fl clc l):=by
 have h8:=h.1;obtain ⟨hl,A,c,h2,hc,hm,hx⟩:=h.1;subst h2;refine ⟨A,l.length,c,rfl,rfl,?_,h8⟩
 unfold maxLen at hm
 omega
theorem Cs.grown {X Y:World} {B g:Nat} {T:TypeId} {l:List Cg} {v:Value} {ys:List Value} (hG:X.grownBy Y (some g)) (h:Cs B l v X) (hB:Blk X g T ys) (hg:B≤g) (hT:(T == 76)=false):Cs B l v Y:=by
 have hne:∀ b off n c,v=.slice (some ⟨b,off,none⟩) n c→0<n→b≠g:=fun b off n c h1 h2 h9=>by
  subst h9
  rcases h.2 b off n c h1 h2 with h3|⟨arr,fr,h3⟩
  ·omega
  ·have h4:X.heap[b]?=some (.cells ys.toArray T (0,0)):=hB
   rw [h3] at h4
   injection h4 with h4
   injection h4 with _ h5 _
   rw [← h5] at hT
   simp at hT
 obtain ⟨⟨hl,A,c,hv,hc,hm,hz,hx⟩,h2⟩:=h;refine ⟨⟨hl,A,c,hv,hc,hm,hz,fun hn=>?_⟩,fun b off n c h3 h4=>?_⟩
 ·obtain ⟨b,off,hA,hb,hcell⟩:=hx hn
  refine ⟨b,off,hA,Nat.lt_of_lt_of_le hb hG.size,fun j u hj=>?_⟩;have h1:=hcell j u hj;subst hA;have hn9:b≠g:=hne b off l.length c hv hn;exact (World.cell?_of_block (w:=X) (a:=⟨b,off+j,none⟩) (hG.block b hb (fun e=>hn9 (by injection e)))).trans h1
 ·rcases h2 b off n c h3 h4 with h5|⟨arr,fr,h5⟩
  ·exact .inl h5
  ·exact .inr ⟨arr,fr,(hG.block b (Array.getElem?_eq_some_iff.1 h5).1 (fun e=>hne b off n c h3 h4 (by injection e))).trans h5⟩
theorem fK (B:Nat) (X:World):Cs B [] (.slice none 0 0) X:=⟨Rd.nil_ _ _,fun b off n c h1=>by cases h1⟩
theorem xQm {X:World} {B base k:Nat} {v:Value} {l:List Cg} (h:X.ownsRow base 76 2 v k (fl clc l)) (hk:l.length=k):Cs B l v X:=by
 refine ⟨by rw [hk];exact Rd.of_own h,fun b off n c h1 h2=>.inr ?_⟩
 rcases h.2 with ⟨h3,_⟩|⟨g,cap,cur,h3,_,h4,_⟩
 ·rw [h1] at h3
  cases h3
 ·rw [h1] at h3
  injection h3 with h3
  injection h3 with h3
  injection h3 with h3
  subst h3;exact ⟨_,_,h4⟩
theorem nW {w:World} {A:Option Addr} {n c:Nat} {l:List Cg} (h:Rd w 2 (.slice A n c) n (fl clc l)) (hl:l.length=n) {k:Nat} (hk:k<n):∃ b off,A=some ⟨b,off,none⟩∧b<w.heap.size∧Cl w b (off+k * 2) (clc (cg l k)):=by
 obtain ⟨b,off,x,hA,hb,hc,_,hd⟩:=h.atF (m:=2) (fun x _=>yT x) (by omega) (k:=k) (by omega);have h1:=congrArg (·[0]?) hd.out;rw [cg_in (by omega)]
 have h2:l[k]=x:=by
  have h3:l[k]?=some x:=by simpa [List.getElem?_drop] using h1
  rw [List.getElem?_eq_getElem (by omega)] at h3
  injection h3
 rw [h2];exact ⟨b,off,hA,hb,hc⟩
def Prs (B:Nat) (c:Int) (l:List En) (cs:List Cg) (v:Value) (X:World):Prop:=∃ u z,v=.agg #[vI c,u,z]∧Es l u X∧Cs B cs z X
theorem Prs.lasts (B:Nat) (c:Int) (l:List En) (cs:List Cg):dM (Prs B c l cs):=by
 rintro v X Y ⟨u,z,h1,h2,h3⟩ hS
 exact ⟨u,z,h1,Es.lasts l _ _ _ h2 hS,Cs.lasts B cs _ _ _ h3 hS⟩
def sgc (q:Stg):List Value:=[vI q.day,vI q.pd,vI q.ac,.bool q.am.1,vS q.am.2.1,vS q.am.2.2,vI q.w1,vI q.w2,vI q.w3,vI q.w4]
end Go.Proofs.YtjkfchehkpmhkaaDoor

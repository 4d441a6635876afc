/- Drawn regions with one append to a row of the call's own. -/
import Derived.Test.YtjkfchehkpmhkaaGreatDoorMI
set_option linter.unusedSimpArgs false
set_option linter.unusedVariables false
set_option maxRecDepth 100000
set_option maxHeartbeats 1600000
namespace Go.Proofs.YtjkfchehkpmhkaaGreatDoor
open Go.RowKit
structure Vq where
 T:TypeId
 z:List Value
 p:List Value→World×Gh→Prop
def Un (X:World×Gh) (b:Nat):Prop:=b<X.1.heap.size∧X.2 b=none
structure Qr (B:Nat) (X Y:World×Gh):Prop where
 below:Below B X.1 Y.1
 un:∀ b,Un X b→Un Y b∧Y.1.heap[b]?=X.1.heap[b]?
 tag:∀ g i,X.2 g=some i→Y.2 g=some i
theorem Qr.trans {B:Nat} {X Y Z:World×Gh} (h:Qr B X Y) (h':Qr B Y Z):Qr B X Z :=
 ⟨h.below.trans h'.below,fun b hb=>⟨(h'.un b (h.un b hb).1).1,(h'.un b (h.un b hb).1).2.trans (h.un b hb).2⟩,fun g i hi=>h'.tag g i (h.tag g i hi)⟩
theorem Qr.since {B:Nat} {X:World×Gh} (hB:B≤X.1.heap.size) {Y:World} (hS:Since X.1 Y):Qr B X (Y,X.2) :=
 ⟨hS.mono hB,fun b hb=>⟨⟨Nat.lt_of_lt_of_le hb.1 hS.size,hb.2⟩,hS.block b hb.1⟩,fun _ _ h=>h⟩
def LastQ (B:Nat) (p:World×Gh→Prop):Prop:=∀ X Y,p X→Qr B X Y→p Y
def vZm (V:Nat→Vq) (i g:Nat) (X:World×Gh):Prop:=∃ vs,Blk X.1 g (V i).T vs∧(V i).p vs X
structure Qok (V:Nat→Vq) (B:Nat) (X:World×Gh):Prop where
 at_:∀ g i,X.2 g=some i→B≤g∧g<X.1.heap.size∧∃ zs,Blk X.1 g (V i).T zs∧zs.length=(V i).z.length
 one:∀ g g' i,X.2 g=some i→X.2 g'=some i→g=g'
 las:∀ i vs,LastQ B ((V i).p vs)
structure Gq (V:Nat→Vq) (B:Nat) (X Y:World×Gh):Prop where
 l:Qok V B X
 r:Qok V B Y
 q:Qr B X Y
 laid:∀ g i,X.2 g=some i→vZm V i g X→vZm V i g Y
section
variable {V:Nat→Vq} {B:Nat}
theorem Gq.trans {X Y Z:World×Gh} (h:Gq V B X Y) (h':Gq V B Y Z):Gq V B X Z :=
 ⟨h.l,h'.r,h.q.trans h'.q,fun g i hi hl=>h'.laid g i (h.q.tag g i hi) (h.laid g i hi hl)⟩
theorem Qok.since {X:World×Gh} (h:Qok V B X) {Y:World} (hS:Since X.1 Y):Qok V B (Y,X.2):=⟨fun g i hi=>by
 obtain ⟨h1,h2,zs,h3,h4⟩:=h.at_ g i hi
 exact ⟨h1,Nat.lt_of_lt_of_le h2 hS.size,zs,h3.below hS h3.lt,h4⟩,h.one,h.las⟩
theorem Gq.since {X:World×Gh} (h:Qok V B X) (hB:B≤X.1.heap.size) {Y:World} (hS:Since X.1 Y):Gq V B X (Y,X.2) :=
 ⟨h,h.since hS,Qr.since hB hS,fun g i _ ⟨vs,h1,h2⟩=>⟨vs,h1.below hS h1.lt,h.las i vs _ _ h2 (Qr.since hB hS)⟩⟩
def Gaq (V:Nat→Vq) (B i:Nat) (v:Value) (X:World×Gh):Prop:=Qok V B X∧∃ g,v=vP g 0∧X.2 g=some i
def Gsq (V:Nat→Vq) (i:Nat) (_:Value) (X:World×Gh):Prop:=∃ g,X.2 g=some i∧vZm V i g X
theorem Gsq.at {i:Nat} {v u:Value} {X:World} {σ:Gh} (h:Gaq V B i v (X,σ)) (h':Gsq V i u (X,σ)):∃ g vs,v=vP g 0∧B≤g∧Blk X g (V i).T vs∧(V i).p vs (X,σ)∧σ g=some i:=by
 obtain ⟨hk,g,h1,h2⟩:=h;obtain ⟨g',h4,vs,h5,h6⟩:=h';obtain rfl:=hk.one g g' i h2 h4;exact ⟨g,vs,h1,(hk.at_ g i h2).1,h5,h6,h2⟩
def Rdu (X:World×Gh) (m:Nat) (v:Value) (n:Nat) (xs:List Value):Prop:=Rd X.1 m v n xs∧∀ b off k c,v=.slice (some ⟨b,off,none⟩) k c→0<n→X.2 b=none
theorem zC {X Y:World} {b k:Nat} (h:Y.heap[b]?=X.heap[b]?):Y.cell? ⟨b,k,none⟩=X.cell? ⟨b,k,none⟩:=World.cell?_of_block (w:=X) (a:=⟨b,k,none⟩) h
theorem Rdu.q {X Y:World×Gh} {m n:Nat} {v:Value} {xs:List Value} (h:Rdu X m v n xs) (hq:Qr B X Y):Rdu Y m v n xs:=by
 obtain ⟨⟨hl,A,c,hv,hc,hm,hz,hr⟩,hu⟩:=h;refine ⟨⟨hl,A,c,hv,hc,hm,hz,fun hn=>?_⟩,fun b off k c' hv' hn=>?_⟩
 ·obtain ⟨b,off,hA,hb,hx⟩:=hr hn
  subst hA;obtain ⟨h1,h2⟩:=hq.un b ⟨hb,hu b off n c hv hn⟩;exact ⟨b,off,rfl,h1.1,fun j u hj=>(zC h2).trans (hx j u hj)⟩
 ·obtain ⟨b2,off2,hA,hb,_⟩:=hr hn
  subst hA;rw [hv] at hv'
  injection hv' with e1 e2 e3
  injection e1 with e1
  injection e1 with e1 e4
  subst e1;exact ((hq.un b2 ⟨hb,hu b2 off2 n c hv hn⟩).1).2
theorem Rdu.new {X:World×Gh} {Y:World} {m n:Nat} {v:Value} {xs:List Value} (h:Rd Y m v n xs) (hk:Qok V B X) (hf:∀ b off k c,v=.slice (some ⟨b,off,none⟩) k c→0<n→X.1.heap.size≤b):Rdu (Y,X.2) m v n xs:=by
 refine ⟨h,fun b off k c hv hn=>?_⟩;have h1:=hf b off k c hv hn
 cases hq:X.2 b with
 | none=>first|rfl|exact hq
 | some i =>
  have:=(hk.at_ b i hq).2.1
  omega
end
structure xP (P:Program) (ops:Array Oper) (V:Nat→Vq) (w:World) (Q:Act→World→Prop) (pre:Nat→Nat→Bool) (l:List (Nat×Oper×dL Gh)) (Fs:List (Nat×(World×Gh→Prop))) (a:Act):Prop where
 out:CertG P ops (Gq V w.heap.size) (w,fun _=>none) (fun a X=>Q a X.1) pre (fun k σ=>∀ g,σ g≠some k) l Fs a
section
variable {P:Program} {ops:Array Oper} {V:Nat→Vq} {w:World} {Q:Act→World→Prop} {pre:Nat→Nat→Bool} {a a':Act} {k:Nat} {o:Oper} {l:List (Nat×Oper×dL Gh)} {Fs:List (Nat×(World×Gh→Prop))}
theorem Gq.ww {X:World×Gh} (h:Gq V w.heap.size (w,fun _=>none) X):Since w X.1:=h.q.below
theorem qg (v:Value) (hq:∀ (X:World) (σ:Gh),Since w X→Qok V w.heap.size (X,σ)→(∀ p F,(p,F)∈Fs→pre k p=true→F (X,σ))→(execOp a.eval o).run P X=.ok (.value v) X) (h:xP P ops V w Q pre l Fs a') (hw:Region.wanted o (yielded ops a.tmps)=true:=by rfl)
  (hp:a.put o.dst v=a':=by simp only [pX,st,rt,rz];rfl):xP P ops V w Q pre ((k,o,none) :: l) Fs a:=by
 refine ⟨?_⟩
 unfold CertG
 rw [if_pos hw];refine ⟨v,fun X hX hF=>?_,hp ▸ h.out⟩
 unfold dF
 rw [hq X.1 X.2 hX.ww hX.r hF];exact ⟨rfl,rfl⟩
theorem qv (v:Value) (hq:∀ X:World,(execOp a.eval o).run P X=.ok (.value v) X) (h:xP P ops V w Q pre l Fs a') (hw:Region.wanted o (yielded ops a.tmps)=true:=by rfl)
  (hp:a.put o.dst v=a':=by simp only [pX,st,rt,rz];rfl):xP P ops V w Q pre ((k,o,none) :: l) Fs a:=qg v (fun X _ _ _ _=>hq X) h hw hp
end
section
variable {G:Type} {P:Program} {l:List Oper} {R:World×G→World×G→Prop} {w0:World×G} {N:Nat→G→Prop}
theorem lI {Q':Exit→Act→World→Prop} {a:Act} {w:World} {g0:G} {z:Oper} (ss:List (dL G)) (hB:lxB l=true) (hT:nL l=true) (hz:l.drop (l.length-1)=[z]) (h0:R w0 (w.drew,g0)) (hN:∀ k,N k g0) (htr:∀ X Y,R w0 X→R X Y→R w0 Y)
  (hst:∀ S,some S∈ss→∀ v X Y,S v X→R X Y→S v Y) (h:CertG P l.toArray R w0 (fun a X=>wpList P l.toArray Q' [z] a X.1) (inB (clo l)) N (itg 0 l.dropLast ss) [] a):wpAny P .any l.toArray Q' l.toArray.size (Array.replicate l.toArray.size false) a { w with drawn:=w.drawn+1 }:=by
 obtain ⟨h1,h2,h3,h4⟩:=rW 0 l.dropLast ss
 have hpos:0<l.length:=by
  cases l with
  | nil=>simp at hz
  | cons x r=>simp
 have hdl:∀ k,k<l.length-1→l.dropLast[k]?=l[k]?:=fun k hk=>by
  rw [List.getElem?_dropLast,if_pos hk]
 have hlen:l.toArray.size=(itg 0 l.dropLast ss).length+1:=by rw [h3];simp;omega
 have a60:(itg 0 l.dropLast ss).length+1=l.length:=by rw [h3];simp;omega
 have hzl:l[l.length-1]?=some z:=by
  have:=congrArg (·[0]?) hz
  simpa [List.getElem?_drop] using this
 rw [hlen];refine qY (T:=1) hB htr (fun t h1 h2 p hp=>?_) (fun listed a w hs hall hun hq=>?_) (itg 0 l.dropLast ss).length _ (itg 0 l.dropLast ss) [] a (w.drew,g0) rfl ⟨h1,fun it hit=>?_,fun k o hkT hk _=>?_,fun k h1 h2=>by simp [a60,h2]⟩ (by simp [a60]) ?_ ?_ (fun p F hp=>(by cases hp)) h0 (fun it _=>hN it.1) h
 ·have:t=l.length-1:=by omega
  subst this
  unfold nL at hT
  exact List.all_eq_true.1 hT p (List.mem_range.2 hp)
 ·have getD_ft:∀ k,k<l.length→listed.getD k true=listed.getD k false:=fun k hk=>by
   simp only [Array.getD_eq_getD_getElem?,Array.getElem?_eq_getElem (hs ▸ hk),Option.getD_some]
  have hzu:=hun (l.length-1) (by omega) (by omega)
  have hr:l.length-1∈Region.ready .any l.toArray listed:=mem_ready.2 ⟨hzu,z,by simpa using hzl,fun e he hb=>by
   have:=((fD hB).2 _ z hzl).1 e he hb;rw [← getD_ft _ (by omega)]
   exact hall _ (by omega)⟩
  refine ⟨fun hnil=>?_,fun i hi=>?_⟩
  ·rw [hnil] at hr
   cases hr
  ·obtain ⟨hi0,o,ho,_⟩:=mem_ready.1 hi
   have hil:i<l.length:=(List.getElem?_eq_some_iff.1 (show l[i]?=some o by simpa using ho)).1
   have:i=l.length-1:=by
    rcases Nat.lt_or_ge i (l.length-1) with h'|h'
    ·rw [hall i h'] at hi0
     cases hi0
    ·omega
   subst this
   have hoz:o=z:=by
    have:l[l.length-1]?=some o:=by simpa using ho
    rw [hzl] at this
    injection this with this
    exact this.symm
   subst hoz
   have fin:∀ a' w',wpList P l.toArray Q' [] a' w'→wpAny P .any l.toArray Q' 0 (listed.setIfInBounds (l.length-1) true) a' w':=fun a' w' hq'=>by
    refine ⟨?_,hq'⟩
    apply List.eq_nil_iff_forall_not_mem.2
    intro j hj;obtain ⟨hj0,oj,hoj,_⟩:=mem_ready.1 hj;have hjl:j<l.length:=(List.getElem?_eq_some_iff.1 (show l[j]?=some oj by simpa using hoj)).1
    by_cases hne:l.length-1=j
    ·subst hne
     simp [hs] at hj0
    ·rw [getD_set_ne true hne,hall j (by omega)] at hj0
     cases hj0
   unfold wpOp
   simp only [ho]
   unfold wpList at hq
   split
   ·rename_i hw
    rw [if_pos hw] at hq;exact hq.imp (Oper.wp_mono fin) (fun h=>h)
   ·rename_i hw
    rw [if_neg hw] at hq;exact fin _ _ hq
 ·obtain ⟨_,a2,_⟩:=h2 it hit
  have a3:it.1<l.dropLast.length:=(List.getElem?_eq_some_iff.1 (by simpa using a2)).1
  have a4:it.1<l.length-1:=by simpa using a3
  have a5:it.1<l.length:=by omega
  have a6:(itg 0 l.dropLast ss).length+1=l.length:=by rw [h3];simp;omega
  refine ⟨?_,by simp [a6,a5],a4⟩;rw [← hdl _ a4]
  simpa using a2
 ·obtain ⟨s,hs⟩:=h4 k o (by rw [hdl k hkT];exact hk)
  exact ⟨s,by simpa using hs⟩
 ·intro k o hk hl
  have a5:k<l.length:=(List.getElem?_eq_some_iff.1 hk).1
  have a6:(itg 0 l.dropLast ss).length+1=l.length:=by rw [h3];simp;omega
  simp [a6,a5] at hl
 ·intro it hit S hS
  rcases (h2 it hit).2.2 with h'|h'
  ·rw [hS] at h'
   cases h'
  ·rw [hS] at h'
   exact hst S h'
theorem mP {id:Nat} {Q':Exit→Act→World→Prop} {a:Act} {w:World} {g0:G} {z:Oper} (ss:List (dL G)) (hm:P.follows .mixedOrders=true) (hB:lxB l=true) (hT:nL l=true) (hz:l.drop (l.length-1)=[z]) (h0:R w0 (w.drew,g0)) (hN:∀ k,N k g0) (htr:∀ X Y,R w0 X→R X Y→R w0 Y)
  (hst:∀ S,some S∈ss→∀ v X Y,S v X→R X Y→S v Y) (h:CertG P l.toArray R w0 (fun a X=>wpList P l.toArray Q' [z] a X.1) (inB (clo l)) N (itg 0 l.dropLast ss) [] a):(Code.region id l.toArray true).wp P Q' a w:=wp_region_any hm (lI ss hB hT hz h0 hN htr hst h)
end
structure Ar where
 base:Nat
 e:TypeId
 m:Nat
 v:Value
 n:Nat
 xs:List Value
 cs:List Value
theorem tA {X Y:World} {base m n:Nat} {e:TypeId} {v:Value} {xs:List Value} (h:X.ownsRow base e m v n xs) (hk:∀ g,v.ownBlock=some g→g<X.heap.size→Y.heap[g]?=X.heap[g]?):Y.ownsRow base e m v n xs:=by
 obtain ⟨hl,hr⟩:=h;refine ⟨hl,hr.imp id ?_⟩
 rintro ⟨g,cap,cur,rfl,hb,hg,rest⟩
 exact ⟨g,cap,cur,rfl,hb,(hk g rfl (Array.getElem?_eq_some_iff.1 hg).1).trans hg,rest⟩
theorem cH {X Y:World} {base m n:Nat} {e:TypeId} {v:Value} {xs:List Value} (h:X.ownsRow base e m v n xs) (hS:Since X Y):Y.ownsRow base e m v n xs:=tA h fun g _ hl=>hS.block g hl
structure Ga (A:Ar) (X Y:World×Bool):Prop where
 grown:X.1.grownBy Y.1 A.v.ownBlock
 low:Y.2=false→X.2=false∧(X.1.ownsRow A.base A.e A.m A.v A.n A.xs→Y.1.ownsRow A.base A.e A.m A.v A.n A.xs)
 high:X.2=true→Y.2=true∧∀ v',X.1.ownsRow A.base A.e A.m v' (A.n+1) (A.xs++A.cs)→Y.1.ownsRow A.base A.e A.m v' (A.n+1) (A.xs++A.cs)
theorem qD {X Y Z:World} {r:Option Nat} (a1:X.grownBy Y r) (b1:Y.grownBy Z r):X.grownBy Z r :=
 ⟨b1.os.trans a1.os,b1.tape.trans a1.tape,b1.output.trans a1.output,Nat.le_trans a1.size b1.size,fun k hk hne=>(b1.block k (Nat.lt_of_lt_of_le hk a1.size) hne).trans (a1.block k hk hne)⟩
theorem Ga.trans {A:Ar} {X Y Z:World×Bool} (h:Ga A X Y) (h':Ga A Y Z):Ga A X Z :=
 ⟨qD h.grown h'.grown,fun hz=>⟨(h.low (h'.low hz).1).1,fun ho=>(h'.low hz).2 ((h.low (h'.low hz).1).2 ho)⟩,fun hx=>⟨(h'.high (h.high hx).1).1,fun v' ho=>(h'.high (h.high hx).1).2 v' ((h.high hx).2 v' ho)⟩⟩
theorem Ga.since {A:Ar} {X:World×Bool} {Y:World} (hS:Since X.1 Y):Ga A X (Y,X.2) :=
 ⟨⟨hS.os,hS.tape,hS.output,hS.size,fun k hk _=>hS.block k hk⟩,fun h=>⟨h,fun ho=>cH ho hS⟩,fun h=>⟨h,fun _ ho=>cH ho hS⟩⟩
structure Aw (A:Ar) (w X:World):Prop where
 grown:w.grownBy X A.v.ownBlock
 below:Below A.base w X
theorem dG {w:World} {base m n:Nat} {e:TypeId} {v:Value} {xs:List Value} (h:w.ownsRow base e m v n xs):∀ g,v.ownBlock=some g→base≤g∧g<w.heap.size:=by
 intro g hg
 rcases h.2 with ⟨rfl,_⟩|⟨g',cap,cur,rfl,hb,hg',_⟩
 ·cases hg
 ·have:g'=g:=by
   have h9:some g'=some g:=hg
   injection h9
  subst this;exact ⟨hb,(Array.getElem?_eq_some_iff.1 hg').1⟩
structure qZ (P:Program) (ops:Array Oper) (A:Ar) (ap:Nat) (w:World) (Q:Act→World→Prop) (pre:Nat→Nat→Bool) (l:List (Nat×Oper×dL Bool)) (Fs:List (Nat×(World×Bool→Prop))) (a:Act):Prop where
 out:CertG P ops (Ga A) (w,false) (fun a X=>Q a X.1) pre (fun k σ=>k=ap→σ=false) l Fs a
theorem iB:(∀ (k:Nat) (ss:List (dL Bool)),itg k [] ss=[])∧(∀ (k:Nat) (o:Oper) (l:List Oper),itg (G:=Bool) k (o :: l) []=(k,o,none) :: itg (k+1) l [])∧(∀ (k:Nat) (o:Oper) (l:List Oper) (s:dL Bool) (ss:List (dL Bool)),itg k (o :: l) (s :: ss)=(k,o,s) :: itg (k+1) l ss)∧(∀ n:Nat,0+n=n) :=
 ⟨fun k ss=>by cases ss <;> rfl,fun _ _ _=>rfl,fun _ _ _ _ _=>rfl,Nat.zero_add⟩
section
variable {P:Program} {ops:Array Oper} {A:Ar} {ap:Nat} {w:World} {Q:Act→World→Prop} {pre:Nat→Nat→Bool} {a a':Act} {k:Nat} {o:Oper} {l:List (Nat×Oper×dL Bool)} {Fs:List (Nat×(World×Bool→Prop))}
theorem Ga.aw {X:World×Bool} (ho:w.ownsRow A.base A.e A.m A.v A.n A.xs) (hb:A.base≤w.heap.size) (h:Ga A (w,false) X):Aw A w X.1 :=
 ⟨h.grown,(Below.refl A.base w).grown h.grown hb (fun g hg=>(dG ho g hg).1)⟩
theorem ag (ho:w.ownsRow A.base A.e A.m A.v A.n A.xs) (hb:A.base≤w.heap.size) (v:Value) (hq:∀ (X:World) (σ:Bool),Aw A w X→(∀ p F,(p,F)∈Fs→pre k p=true→F (X,σ))→(execOp a.eval o).run P X=.ok (.value v) X) (h:qZ P ops A ap w Q pre l Fs a') (hw:Region.wanted o (yielded ops a.tmps)=true:=by rfl)
  (hp:a.put o.dst v=a':=by simp only [pX,st,rt,rz];rfl):qZ P ops A ap w Q pre ((k,o,none) :: l) Fs a:=by
 refine ⟨?_⟩
 unfold CertG
 rw [if_pos hw];refine ⟨v,fun X hX hF=>?_,hp ▸ h.out⟩
 unfold dF
 rw [hq X.1 X.2 (Ga.aw ho hb hX) hF];exact ⟨rfl,rfl⟩
theorem am (v:Value) (h:qZ P ops A ap w Q pre l Fs a') (hw:Region.wanted o (yielded ops a.tmps)=true:=by rfl) (hq:∀ X:World,(execOp a.eval o).run P X=.ok (.value v) X:=by intro _;rfl)
  (hp:a.put o.dst v=a':=by simp only [pX,st,rt,rz];rfl):qZ P ops A ap w Q pre ((k,o,none) :: l) Fs a:=by
 refine ⟨?_⟩
 unfold CertG
 rw [if_pos hw];refine ⟨v,fun X hX hF=>?_,hp ▸ h.out⟩
 unfold dF
 rw [hq X.1];exact ⟨rfl,rfl⟩
theorem ac (ho':w.ownsRow A.base A.e A.m A.v A.n A.xs) (hb:A.base≤w.heap.size) {f:FuncId} {args:List Value} (v:Value) (hc:∀ (X:World) (σ:Bool),Aw A w X→(∀ p F,(p,F)∈Fs→pre k p=true→F (X,σ))→Calls P f args.toArray X fun e X'=>e=.returned v∧Since X X') (h:qZ P ops A ap w Q pre l Fs a') (hw:Region.wanted o (yielded ops a.tmps)=true:=by rfl)
  {xs:List Operand} {ts:Array TypeId} (ho:o.op=.call { callee:=.value (.func f),args:=xs.toArray,argTypes:=ts }:=by rfl) (he:xs.map a.eval=args:=by rfl) (hi:P.inits.idxOf? f=none:=by kernel_rfl) (hf:∀ X:World,(callFunc f args.toArray).run P X=.ok (.enter f args.toArray) X:=by intro _;go_simp)
  (hp:a.put o.dst v=a':=by simp only [pX,st,rt,rz];rfl):qZ P ops A ap w Q pre ((k,o,none) :: l) Fs a:=by
 refine ⟨?_⟩
 unfold CertG
 rw [if_pos hw];refine ⟨v,fun X hX hF=>?_,hp ▸ h.out⟩;have hc:=hc X.1 X.2 (Ga.aw ho' hb hX) hF
 have he2:xs.toArray.map a.eval=args.toArray:=by rw [List.map_toArray,he]
 have hrun:(execOp a.eval o).run P X.1=.ok (.enter f args.toArray) X.1:=by
  unfold execOp
  rw [ho];have hfX:=hf X.1
  go_simp
 unfold dF
 rw [hrun];exact ⟨rfl,hi,hc.mono fun e X' ⟨h1,h2⟩=>⟨h1,Ga.since h2⟩⟩
end
end Go.Proofs.YtjkfchehkpmhkaaGreatDoor

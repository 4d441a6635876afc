/- Layer 41: stores into rows of the call's own; the measure of -/
import Derived.Test.YtnfpenhldlfafaaGreatDoorProg
import Derived.Maps.Own
import Derived.Maps.Views
import Derived.Test.YtnfpenhldlfafaaGreatDoorPl41e
import Derived.Test.YtnfpenhldlfafaaGreatDoorRf
import Derived.Test.YtnfpenhldlfafaaGreatDoorLcw
import Derived.Test.YtnfpenhldlfafaaGreatDoorKe
import Derived.Test.YtnfpenhldlfafaaGreatDoorPl31b
import Derived.Test.YtnfpenhldlfafaaGreatDoorMI
set_option linter.unusedSimpArgs false
set_option linter.unusedVariables false
set_option maxRecDepth 100000
set_option maxHeartbeats 1600000
namespace Go.Proofs.YtnfpenhldlfafaaGreatDoor
open Go.RowKit
structure Vq where
 T:TypeId
 z:List Value
 p:List Value→World×Gh→Prop
def Un (X:World×Gh) (b:Nat):Prop:=b<X.1.heap.size∧X.2 b=none
structure Qr (B:Nat) (X Y:World×Gh):Prop where
 below:Below B X.1 Y.1
 un:∀ b,Un X b→Un Y b∧Y.1.heap[b]?=X.1.heap[b]?
 tag:∀ g i,X.2 g=some i→Y.2 g=some i
theorem Qr.trans {B:Nat} {X Y Z:World×Gh} (h:Qr B X Y) (h':Qr B Y Z):Qr B X Z :=
 ⟨h.below.trans h'.below,fun b hb=>⟨(h'.un b (h.un b hb).1).1,(h'.un b (h.un b hb).1).2.trans (h.un b hb).2⟩,fun g i hi=>h'.tag g i (h.tag g i hi)⟩
def LastQ (B:Nat) (p:World×Gh→Prop):Prop:=∀ X Y,p X→Qr B X Y→p Y
def vZy (V:Nat→Vq) (i g:Nat) (X:World×Gh):Prop:=∃ vs,Blk X.1 g (V i).T vs∧(V i).p vs X
structure Qok (V:Nat→Vq) (B:Nat) (X:World×Gh):Prop where
 at_:∀ g i,X.2 g=some i→B≤g∧g<X.1.heap.size∧∃ zs,Blk X.1 g (V i).T zs∧zs.length=(V i).z.length
 one:∀ g g' i,X.2 g=some i→X.2 g'=some i→g=g'
 las:∀ i vs,LastQ B ((V i).p vs)
structure Gq (V:Nat→Vq) (B:Nat) (X Y:World×Gh):Prop where
 l:Qok V B X
 r:Qok V B Y
 q:Qr B X Y
 laid:∀ g i,X.2 g=some i→vZy V i g X→vZy V i g Y
section
variable {V:Nat→Vq} {B:Nat}
theorem Gq.trans {X Y Z:World×Gh} (h:Gq V B X Y) (h':Gq V B Y Z):Gq V B X Z :=
 ⟨h.l,h'.r,h.q.trans h'.q,fun g i hi hl=>h'.laid g i (h.q.tag g i hi) (h.laid g i hi hl)⟩
def Gaq (V:Nat→Vq) (B i:Nat) (v:Value) (X:World×Gh):Prop:=Qok V B X∧∃ g,v=vP g 0∧X.2 g=some i
def Gsq (V:Nat→Vq) (i:Nat) (_:Value) (X:World×Gh):Prop:=∃ g,X.2 g=some i∧vZy V i g X
theorem Gsq.at {i:Nat} {v u:Value} {X:World} {σ:Gh} (h:Gaq V B i v (X,σ)) (h':Gsq V i u (X,σ)):∃ g vs,v=vP g 0∧B≤g∧Blk X g (V i).T vs∧(V i).p vs (X,σ)∧σ g=some i:=by
 obtain ⟨hk,g,h1,h2⟩:=h;obtain ⟨g',h4,vs,h5,h6⟩:=h';obtain rfl:=hk.one g g' i h2 h4;exact ⟨g,vs,h1,(hk.at_ g i h2).1,h5,h6,h2⟩
def Rdu (X:World×Gh) (m:Nat) (v:Value) (n:Nat) (xs:List Value):Prop:=Rd X.1 m v n xs∧∀ b off k c,v=.slice (some ⟨b,off,none⟩) k c→0<n→X.2 b=none
theorem yZ {X Y:World} {b k:Nat} (h:Y.heap[b]?=X.heap[b]?):Y.cell? ⟨b,k,none⟩=X.cell? ⟨b,k,none⟩:=World.cell?_of_block (w:=X) (a:=⟨b,k,none⟩) h
theorem Rdu.q {X Y:World×Gh} {m n:Nat} {v:Value} {xs:List Value} (h:Rdu X m v n xs) (hq:Qr B X Y):Rdu Y m v n xs:=by
 obtain ⟨⟨hl,A,c,hv,hc,hm,hz,hr⟩,hu⟩:=h;refine ⟨⟨hl,A,c,hv,hc,hm,hz,fun hn=>?_⟩,fun b off k c' hv' hn=>?_⟩
 ·obtain ⟨b,off,hA,hb,hx⟩:=hr hn
  subst hA;obtain ⟨h1,h2⟩:=hq.un b ⟨hb,hu b off n c hv hn⟩;exact ⟨b,off,rfl,h1.1,fun j u hj=>(yZ h2).trans (hx j u hj)⟩
 ·obtain ⟨b2,off2,hA,hb,_⟩:=hr hn
  subst hA;rw [hv] at hv'
  injection hv' with e1 e2 e3
  injection e1 with e1
  injection e1 with e1 e4
  subst e1;exact ((hq.un b2 ⟨hb,hu b2 off2 n c hv hn⟩).1).2
end
structure xR (P:Program) (ops:Array Oper) (V:Nat→Vq) (w:World) (Q:Act→World→Prop) (pre:Nat→Nat→Bool) (l:List (Nat×Oper×dT Gh)) (Fs:List (Nat×(World×Gh→Prop))) (a:Act):Prop where
 out:CertG P ops (Gq V w.heap.size) (w,fun _=>none) (fun a X=>Q a X.1) pre (fun k σ=>∀ g,σ g≠some k) l Fs a
section
variable {P:Program} {ops:Array Oper} {V:Nat→Vq} {w:World} {Q:Act→World→Prop} {pre:Nat→Nat→Bool} {a a':Act} {k:Nat} {o:Oper} {l:List (Nat×Oper×dT Gh)} {Fs:List (Nat×(World×Gh→Prop))}
theorem Gq.ww {X:World×Gh} (h:Gq V w.heap.size (w,fun _=>none) X):Since w X.1:=h.q.below
theorem qg (v:Value) (hq:∀ (X:World) (σ:Gh),Since w X→Qok V w.heap.size (X,σ)→(∀ p F,(p,F)∈Fs→pre k p=true→F (X,σ))→(execOp a.eval o).run P X=.ok (.value v) X) (h:xR P ops V w Q pre l Fs a') (hw:Region.wanted o (yielded ops a.tmps)=true:=by rfl)
  (hp:a.put o.dst v=a':=by simp only [pX,st,rt,rz];rfl):xR P ops V w Q pre ((k,o,none) :: l) Fs a:=by
 refine ⟨?_⟩
 unfold CertG
 rw [if_pos hw];refine ⟨v,fun X hX hF=>?_,hp ▸ h.out⟩
 unfold dE
 rw [hq X.1 X.2 hX.ww hX.r hF];exact ⟨rfl,rfl⟩
theorem qv (v:Value) (hq:∀ X:World,(execOp a.eval o).run P X=.ok (.value v) X) (h:xR P ops V w Q pre l Fs a') (hw:Region.wanted o (yielded ops a.tmps)=true:=by rfl)
  (hp:a.put o.dst v=a':=by simp only [pX,st,rt,rz];rfl):xR P ops V w Q pre ((k,o,none) :: l) Fs a:=qg v (fun X _ _ _ _=>hq X) h hw hp
end
section
variable {G:Type} {P:Program} {l:List Oper} {R:World×G→World×G→Prop} {w0:World×G} {N:Nat→G→Prop}
end
structure Ar where
 base:Nat
 e:TypeId
 m:Nat
 v:Value
 n:Nat
 xs:List Value
 cs:List Value
theorem pB {X Y:World} {base m n:Nat} {e:TypeId} {v:Value} {xs:List Value} (h:X.ownsRow base e m v n xs) (hk:∀ g,v.ownBlock=some g→g<X.heap.size→Y.heap[g]?=X.heap[g]?):Y.ownsRow base e m v n xs:=by
 obtain ⟨hl,hr⟩:=h;refine ⟨hl,hr.imp id ?_⟩
 rintro ⟨g,cap,cur,rfl,hb,hg,rest⟩
 exact ⟨g,cap,cur,rfl,hb,(hk g rfl (Array.getElem?_eq_some_iff.1 hg).1).trans hg,rest⟩
theorem aB {X Y:World} {base m n:Nat} {e:TypeId} {v:Value} {xs:List Value} (h:X.ownsRow base e m v n xs) (hS:Since X Y):Y.ownsRow base e m v n xs:=pB h fun g _ hl=>hS.block g hl
structure Ga (A:Ar) (X Y:World×Bool):Prop where
 grown:X.1.grownBy Y.1 A.v.ownBlock
 low:Y.2=false→X.2=false∧(X.1.ownsRow A.base A.e A.m A.v A.n A.xs→Y.1.ownsRow A.base A.e A.m A.v A.n A.xs)
 high:X.2=true→Y.2=true∧∀ v',X.1.ownsRow A.base A.e A.m v' (A.n+1) (A.xs++A.cs)→Y.1.ownsRow A.base A.e A.m v' (A.n+1) (A.xs++A.cs)
theorem qM {X Y Z:World} {r:Option Nat} (a1:X.grownBy Y r) (b1:Y.grownBy Z r):X.grownBy Z r :=
 ⟨b1.os.trans a1.os,b1.tape.trans a1.tape,b1.output.trans a1.output,Nat.le_trans a1.size b1.size,fun k hk hne=>(b1.block k (Nat.lt_of_lt_of_le hk a1.size) hne).trans (a1.block k hk hne)⟩
theorem Ga.trans {A:Ar} {X Y Z:World×Bool} (h:Ga A X Y) (h':Ga A Y Z):Ga A X Z :=
 ⟨qM h.grown h'.grown,fun hz=>⟨(h.low (h'.low hz).1).1,fun ho=>(h'.low hz).2 ((h.low (h'.low hz).1).2 ho)⟩,fun hx=>⟨(h'.high (h.high hx).1).1,fun v' ho=>(h'.high (h.high hx).1).2 v' ((h.high hx).2 v' ho)⟩⟩
theorem Ga.since {A:Ar} {X:World×Bool} {Y:World} (hS:Since X.1 Y):Ga A X (Y,X.2) :=
 ⟨⟨hS.os,hS.tape,hS.output,hS.size,fun k hk _=>hS.block k hk⟩,fun h=>⟨h,fun ho=>aB ho hS⟩,fun h=>⟨h,fun _ ho=>aB ho hS⟩⟩
structure Aw (A:Ar) (w X:World):Prop where
 grown:w.grownBy X A.v.ownBlock
 below:Below A.base w X
theorem Aw.blk {A:Ar} {w X:World} (h:Aw A w X) {g t:Nat} {xs:List Value} (hz:Blk w g t xs) (hne:A.v.ownBlock≠some g):Blk X g t xs:=(h.grown.block g hz.lt (fun h9=>hne h9.symm)).trans hz
theorem aQ {w:World} {base m n:Nat} {e:TypeId} {v:Value} {xs:List Value} (h:w.ownsRow base e m v n xs):∀ g,v.ownBlock=some g→base≤g∧g<w.heap.size:=by
 intro g hg
 rcases h.2 with ⟨rfl,_⟩|⟨g',cap,cur,rfl,hb,hg',_⟩
 ·cases hg
 ·have:g'=g:=by
   have h9:some g'=some g:=hg
   injection h9
  subst this;exact ⟨hb,(Array.getElem?_eq_some_iff.1 hg').1⟩
structure fV (P:Program) (ops:Array Oper) (A:Ar) (ap:Nat) (w:World) (Q:Act→World→Prop) (pre:Nat→Nat→Bool) (l:List (Nat×Oper×dT Bool)) (Fs:List (Nat×(World×Bool→Prop))) (a:Act):Prop where
 out:CertG P ops (Ga A) (w,false) (fun a X=>Q a X.1) pre (fun k σ=>k=ap→σ=false) l Fs a
theorem iB:(∀ (k:Nat) (ss:List (dT Bool)),itg k [] ss=[])∧(∀ (k:Nat) (o:Oper) (l:List Oper),itg (G:=Bool) k (o :: l) []=(k,o,none) :: itg (k+1) l [])∧(∀ (k:Nat) (o:Oper) (l:List Oper) (s:dT Bool) (ss:List (dT Bool)),itg k (o :: l) (s :: ss)=(k,o,s) :: itg (k+1) l ss)∧(∀ n:Nat,0+n=n) :=
 ⟨fun k ss=>by cases ss <;> rfl,fun _ _ _=>rfl,fun _ _ _ _ _=>rfl,Nat.zero_add⟩
section
variable {P:Program} {ops:Array Oper} {A:Ar} {ap:Nat} {w:World} {Q:Act→World→Prop} {pre:Nat→Nat→Bool} {a a':Act} {k:Nat} {o:Oper} {l:List (Nat×Oper×dT Bool)} {Fs:List (Nat×(World×Bool→Prop))}
theorem Ga.aw {X:World×Bool} (ho:w.ownsRow A.base A.e A.m A.v A.n A.xs) (hb:A.base≤w.heap.size) (h:Ga A (w,false) X):Aw A w X.1 :=
 ⟨h.grown,(Below.refl A.base w).grown h.grown hb (fun g hg=>(aQ ho g hg).1)⟩
theorem yP {id:Nat} {L:List Oper} {Q':Exit→Act→World→Prop} (A:Ar) (ap:Nat) (ss:List (dT Bool)) (hm:P.follows .mixedOrders=true) (hB:lxB L=true) (hst:∀ S,some S∈ss→∀ v X Y,S v X→Ga A X Y→S v Y)
  (h:fV P L.toArray A ap w (wpList P L.toArray Q' []) (inB (clo L)) (itg 0 L ss) [] a):(Code.region id L.toArray true).wp P Q' a w :=
 sP (g0:=false) ss hm hB (Ga.since (X:=(w,false)) ((Below.refl w.heap.size w).drew)) (fun _ _=>rfl) (fun _ _ h h'=>h.trans h') hst h.out
theorem ag (ho:w.ownsRow A.base A.e A.m A.v A.n A.xs) (hb:A.base≤w.heap.size) (v:Value) (hq:∀ (X:World) (σ:Bool),Aw A w X→(∀ p F,(p,F)∈Fs→pre k p=true→F (X,σ))→(execOp a.eval o).run P X=.ok (.value v) X) (h:fV P ops A ap w Q pre l Fs a') (hw:Region.wanted o (yielded ops a.tmps)=true:=by rfl)
  (hp:a.put o.dst v=a':=by simp only [pX,st,rt,rz];rfl):fV P ops A ap w Q pre ((k,o,none) :: l) Fs a:=by
 refine ⟨?_⟩
 unfold CertG
 rw [if_pos hw];refine ⟨v,fun X hX hF=>?_,hp ▸ h.out⟩
 unfold dE
 rw [hq X.1 X.2 (Ga.aw ho hb hX) hF];exact ⟨rfl,rfl⟩
theorem am (v:Value) (h:fV P ops A ap w Q pre l Fs a') (hw:Region.wanted o (yielded ops a.tmps)=true:=by rfl) (hq:∀ X:World,(execOp a.eval o).run P X=.ok (.value v) X:=by intro _;rfl)
  (hp:a.put o.dst v=a':=by simp only [pX,st,rt,rz];rfl):fV P ops A ap w Q pre ((k,o,none) :: l) Fs a:=by
 refine ⟨?_⟩
 unfold CertG
 rw [if_pos hw];refine ⟨v,fun X hX hF=>?_,hp ▸ h.out⟩
 unfold dE
 rw [hq X.1];exact ⟨rfl,rfl⟩
theorem an (v:Value) (h:fV P ops A ap w Q pre l Fs a') (hw:Region.wanted o (yielded ops a.tmps)=true:=by rfl) (hq:∀ X:World,(execOp a.eval o).run P X=.ok (.value v) X:=by intro _;unfold execOp;go_simp)
  (hp:a.put o.dst v=a':=by simp only [pX,st,rt,rz];rfl):fV P ops A ap w Q pre ((k,o,none) :: l) Fs a:=am v h hw hq hp
theorem av (v:Value) (hq:∀ X:World,(execOp a.eval o).run P X=.ok (.value v) X) (h:fV P ops A ap w Q pre l Fs a') (hw:Region.wanted o (yielded ops a.tmps)=true:=by rfl)
  (hp:a.put o.dst v=a':=by simp only [pX,st,rt,rz];rfl):fV P ops A ap w Q pre ((k,o,none) :: l) Fs a:=am v h hw hq hp
theorem ac (ho':w.ownsRow A.base A.e A.m A.v A.n A.xs) (hb:A.base≤w.heap.size) {f:FuncId} {args:List Value} (v:Value) (hc:∀ (X:World) (σ:Bool),Aw A w X→(∀ p F,(p,F)∈Fs→pre k p=true→F (X,σ))→Calls P f args.toArray X fun e X'=>e=.returned v∧Since X X') (h:fV P ops A ap w Q pre l Fs a') (hw:Region.wanted o (yielded ops a.tmps)=true:=by rfl)
  {xs:List Operand} {ts:Array TypeId} (ho:o.op=.call { callee:=.value (.func f),args:=xs.toArray,argTypes:=ts }:=by rfl) (he:xs.map a.eval=args:=by rfl) (hi:P.inits.idxOf? f=none:=by kernel_rfl) (hf:∀ X:World,(callFunc f args.toArray).run P X=.ok (.enter f args.toArray) X:=by intro _;go_simp)
  (hp:a.put o.dst v=a':=by simp only [pX,st,rt,rz];rfl):fV P ops A ap w Q pre ((k,o,none) :: l) Fs a:=by
 refine ⟨?_⟩
 unfold CertG
 rw [if_pos hw];refine ⟨v,fun X hX hF=>?_,hp ▸ h.out⟩;have hc:=hc X.1 X.2 (Ga.aw ho' hb hX) hF
 have he2:xs.toArray.map a.eval=args.toArray:=by rw [List.map_toArray,he]
 have hrun:(execOp a.eval o).run P X.1=.ok (.enter f args.toArray) X.1:=by
  unfold execOp
  rw [ho];have hfX:=hf X.1
  go_simp
 unfold dE
 rw [hrun];exact ⟨rfl,hi,hc.mono fun e X' ⟨h1,h2⟩=>⟨h1,Ga.since h2⟩⟩
def Anew (A:Ar) (T:TypeId) (v:Value) (X:World×Bool):Prop:=∃ g,v=.slice (some ⟨g,0,none⟩) 1 1∧Blk X.1 g T A.cs∧A.v.ownBlock≠some g
theorem Anew.lasts {T:TypeId} (v:Value) (X Y:World×Bool) (h:Anew A T v X) (hR:Ga A X Y):Anew A T v Y:=by
 obtain ⟨g,h1,h2,h3⟩:=h;exact ⟨g,h1,(hR.grown.block g h2.lt (fun h9=>h3 h9.symm)).trans h2,h3⟩
theorem ab (ho:w.ownsRow A.base A.e A.m A.v A.n A.xs) (T:TypeId) (hr:∀ X:World,(execOp a.eval o).run P X=.ok (.value (.slice (some ⟨X.heap.size,0,none⟩) 1 1)) (X.alloc (.cells A.cs.toArray T))) {b:Value→Act} (h:∀ v,fV P ops A ap w Q pre l ((k,Anew A T v) :: Fs) (b v)) (hw:Region.wanted o (yielded ops a.tmps)=true:=by rfl)
  (hp:∀ v,a.put o.dst v=b v:=by intro _;simp only [pX,st,rt,rz];rfl):fV P ops A ap w Q pre ((k,o,some (Anew A T)) :: l) Fs a:=by
 refine ⟨?_⟩
 unfold CertG
 rw [if_pos hw];refine ⟨fun X hX hN hF=>?_,fun v=>hp v ▸ (h v).out⟩
 unfold eP
 rw [hr];refine ⟨X.2,⟨_,rfl,Blk.new rfl,fun h9=>?_⟩,Ga.since ((Below.refl X.1.heap.size X.1).alloc (Nat.le_refl _) _),fun _ _ h=>h⟩;have h8:=(aQ ho _ h9).2;have h7:=hX.grown.size;simp only at h7
 omega
def Aout (A:Ar) (v:Value) (X:World×Bool):Prop:=X.2=true∧X.1.ownsRow A.base A.e A.m v (A.n+1) (A.xs++A.cs)
theorem Aout.lasts (v:Value) (X Y:World×Bool) (h:Aout A v X) (hR:Ga A X Y):Aout A v Y:=⟨(hR.high h.1).1,(hR.high h.1).2 v h.2⟩
theorem aa (ho':w.ownsRow A.base A.e A.m A.v A.n A.xs) (hb:A.base≤w.heap.size) (T:TypeId) (p:Nat) (u:Value) (hmem:(p,Anew A T u)∈Fs) {t:TypeId} {z:Value} {bytes:Nat} (ht:P.underlying t=some (.slice A.e)) (hi:(P.info? A.e).map (fun i=>(i.zero,i.size,i.bytes))=some (some z,A.m,bytes))
  (hz1:z.cells.size=A.m) (hm:0<A.m) (hcs:A.cs.length=A.m) (h1:∀ u∈A.cs,u.oneCell'=true) (h63:A.n+1≤maxLen) (hbytes:(A.n+1) * bytes≤140737488355328) {b:Value→Act} (h:∀ v,fV P ops A k w Q pre l ((k,Aout A v) :: Fs) (b v)) (hpre:pre k p=true:=by rfl) (hw:Region.wanted o (yielded ops a.tmps)=true:=by rfl)
  {s x:Operand} (ho:o.op=.call { callee:=.builtin .append,args:=#[s,x],argTypes:=#[t,t] }:=by rfl) (hs:a.eval s=A.v:=by rfl) (hx:a.eval x=u:=by rfl) (hp:∀ v,a.put o.dst v=b v:=by intro _;simp only [pX,st,rt,rz];rfl):fV P ops A k w Q pre ((k,o,some (Aout A)) :: l) Fs a:=by
 refine ⟨?_⟩
 unfold CertG
 rw [if_pos hw];refine ⟨fun X hX hN hF=>?_,fun v=>hp v ▸ (h v).out⟩;obtain ⟨i,hi',hz0,hsz,hby⟩:=info_parts hi;obtain ⟨g,rfl,hB,hne⟩:=hF _ _ hmem hpre;have hfl:X.2=false:=hN rfl;have hown:=(hX.low hfl).2 ho';obtain ⟨v',w',hr,h2,h3,h4⟩:=run_append_own (P:=P) X.1 A.base t o.type A.e i z A.m bytes ht hi' hz0 hsz hby hz1 hm A.v A.n A.xs hown ⟨g,0,none⟩ 1 1 A.cs (by rw [hcs,Nat.one_mul]) (fun j u hj=>by rw [lE,Nat.zero_add];exact hB.cell hj) h1 h63 hbytes (Nat.le_trans hb hX.grown.size)
 have hrun:(execOp a.eval o).run P X.1=.ok (.value v') w':=by
  unfold execOp
  simp only [ho,resolve,invoke,builtin,Sem.run_bind,Sem.run_pure,Result.andThen_ok,List.map_toArray,List.map_cons,List.map_nil,hs,hx,hr]
 unfold eP
 rw [hrun];exact ⟨true,⟨rfl,h2⟩,⟨h3,(fun h9=>by cases h9),(fun h9=>by rw [hfl] at h9;cases h9)⟩,(fun m hm _ h9=>absurd h9 hm)⟩
theorem jK:∀ S,some S∈([]:List (dT Bool))→∀ v X Y,S v X→Ga A X Y→S v Y:=fun _ h=>by cases h
theorem cG {ss:List (dT Bool)} (h:∀ S,some S∈ss→∀ v X Y,S v X→Ga A X Y→S v Y):∀ S,some S∈none :: ss→∀ v X Y,S v X→Ga A X Y→S v Y:=fun S hS=>by
 rcases List.mem_cons.1 hS with h9|h9
 ·cases h9
 ·exact h S h9
theorem dU {ss:List (dT Bool)} {S0:Value→World×Bool→Prop} (h0:∀ v X Y,S0 v X→Ga A X Y→S0 v Y) (h:∀ S,some S∈ss→∀ v X Y,S v X→Ga A X Y→S v Y):∀ S,some S∈some S0 :: ss→∀ v X Y,S v X→Ga A X Y→S v Y:=fun S hS=>by
 rcases List.mem_cons.1 hS with h9|h9
 ·injection h9 with h9
  exact h9 ▸ h0
 ·exact h S h9
theorem az (ho:w.ownsRow A.base A.e A.m A.v A.n A.xs) (hb:A.base≤w.heap.size) (h:∀ (X:World) (σ:Bool),Aw A w X→(∀ p F,(p,F)∈Fs→F (X,σ))→Q a X):fV P ops A ap w Q pre [] Fs a:=⟨fun X hX hF=>h X.1 X.2 (Ga.aw ho hb hX) hF⟩
end
open Go Go.RowKit
theorem aO {X Y:World} {row:Option Nat} {base m n:Nat} {e:TypeId} {v:Value} {xs:List Value} (h:X.ownsRow base e m v n xs) (hg:X.grownBy Y row) (hr:∀ g,row=some g→v.ownBlock≠some g):Y.ownsRow base e m v n xs :=
 pB h fun g hv hl=>hg.block g hl fun e=>hr g e.symm hv
theorem jI {P:Program} {w:World} {ops:Array Oper} {rest:List Oper} {o:Oper} {a:Act} {Q:Exit→Act→World→Prop} (hgd:o.guard=none) (g j:Nat) (t:TypeId) (xs:List Value) (hB:Blk w g t xs) (v:Value) (hj:j<xs.length)
  (hr:∀ (X:World) (u:Value),X.cell? ⟨g,j,none⟩=some u→X.frozen? ⟨g,j,none⟩=false→(execOp a.eval o).run P X=.ok .skip (X.setCell ⟨g,j,none⟩ v))
  (h:∀ w',Blk w' g t (xs.set j v)→w.grownBy w' (some g)→wpList P ops Q rest (a.put o.dst undef) w'):wpList P ops Q (o :: rest) a w:=by
 refine wpList_plain hgd fun K hK=>?_
 unfold Oper.wp
 rw [hr w _ (hB.cell (List.getElem?_eq_getElem hj)) (hB.free j)];exact hK _ _ (h _ (hB.set j v) ⟨rfl,rfl,rfl,by simp [World.setCell],fun i _ hne=>Below.heap_setCell w ⟨g,j,none⟩ v i (fun h9=>hne (by rw [h9]))⟩)
theorem aU {P:Program} {w:World} {ops:Array Oper} {rest:List Oper} {o:Oper} {a:Act} {Q:Exit→Act→World→Prop} (hgd:o.guard=none) (ty:TypeId) (p x:Operand) (ho:o.op=.store ty p x) (g:Nat) (t:TypeId) (xs:List Value) (hB:Blk w g t xs)
  (hp:a.eval p=vP g 0) (ys:List Value) (hx:a.eval x=.agg ys.toArray) (hl:ys.length=xs.length) (h1:∀ v∈ys,v.oneCell'=true) (hi:(P.info? ty).map (·.size)=some ys.length)
  (h:∀ w',Blk w' g t ys→w.grownBy w' (some g)→wpList P ops Q rest (a.put o.dst undef) w'):wpList P ops Q (o :: rest) a w :=
 lY hgd ty p x ho g t xs.toArray hB hp ys.toArray hx (by simpa using hl) (by simpa using h1) (by simpa using hi) fun w' h2 h3 _=>h w' h2 h3
theorem aW {w w':World} {g g':Nat} {t:TypeId} {zs:List Value} (h:w.grownBy w' (some g)) (hz:Blk w g' t zs) (hne:g'≠g):Blk w' g' t zs:=(kH h hz.lt hne).trans hz
theorem bg2 {X Y:World} {g:Nat} (hG:X.grownBy Y (some g)) {g0 t0:Nat} {v0:List Value} (h0:Blk X g0 t0 v0) {g1 t1:Nat} {v1:List Value} (h1:Blk X g1 t1 v1) (n0:g0≠g:=by omega) (n1:g1≠g:=by omega):Blk Y g0 t0 v0∧Blk Y g1 t1 v1:=⟨aW hG h0 n0,aW hG h1 n1⟩
theorem bg3 {X Y:World} {g:Nat} (hG:X.grownBy Y (some g)) {g0 t0:Nat} {v0:List Value} (h0:Blk X g0 t0 v0) {g1 t1:Nat} {v1:List Value} (h1:Blk X g1 t1 v1) {g2 t2:Nat} {v2:List Value} (h2:Blk X g2 t2 v2) (n0:g0≠g:=by omega) (n1:g1≠g:=by omega) (n2:g2≠g:=by omega):Blk Y g0 t0 v0∧Blk Y g1 t1 v1∧Blk Y g2 t2 v2:=⟨aW hG h0 n0,aW hG h1 n1,aW hG h2 n2⟩
theorem bg4 {X Y:World} {g:Nat} (hG:X.grownBy Y (some g)) {g0 t0:Nat} {v0:List Value} (h0:Blk X g0 t0 v0) {g1 t1:Nat} {v1:List Value} (h1:Blk X g1 t1 v1) {g2 t2:Nat} {v2:List Value} (h2:Blk X g2 t2 v2) {g3 t3:Nat} {v3:List Value} (h3:Blk X g3 t3 v3) (n0:g0≠g:=by omega) (n1:g1≠g:=by omega) (n2:g2≠g:=by omega) (n3:g3≠g:=by omega):Blk Y g0 t0 v0∧Blk Y g1 t1 v1∧Blk Y g2 t2 v2∧Blk Y g3 t3 v3:=⟨aW hG h0 n0,aW hG h1 n1,aW hG h2 n2,aW hG h3 n3⟩
theorem bg5 {X Y:World} {g:Nat} (hG:X.grownBy Y (some g)) {g0 t0:Nat} {v0:List Value} (h0:Blk X g0 t0 v0) {g1 t1:Nat} {v1:List Value} (h1:Blk X g1 t1 v1) {g2 t2:Nat} {v2:List Value} (h2:Blk X g2 t2 v2) {g3 t3:Nat} {v3:List Value} (h3:Blk X g3 t3 v3) {g4 t4:Nat} {v4:List Value} (h4:Blk X g4 t4 v4) (n0:g0≠g:=by omega) (n1:g1≠g:=by omega) (n2:g2≠g:=by omega) (n3:g3≠g:=by omega) (n4:g4≠g:=by omega):Blk Y g0 t0 v0∧Blk Y g1 t1 v1∧Blk Y g2 t2 v2∧Blk Y g3 t3 v3∧Blk Y g4 t4 v4:=⟨aW hG h0 n0,aW hG h1 n1,aW hG h2 n2,aW hG h3 n3,aW hG h4 n4⟩
theorem bg6 {X Y:World} {g:Nat} (hG:X.grownBy Y (some g)) {g0 t0:Nat} {v0:List Value} (h0:Blk X g0 t0 v0) {g1 t1:Nat} {v1:List Value} (h1:Blk X g1 t1 v1) {g2 t2:Nat} {v2:List Value} (h2:Blk X g2 t2 v2) {g3 t3:Nat} {v3:List Value} (h3:Blk X g3 t3 v3) {g4 t4:Nat} {v4:List Value} (h4:Blk X g4 t4 v4) {g5 t5:Nat} {v5:List Value} (h5:Blk X g5 t5 v5) (n0:g0≠g:=by omega) (n1:g1≠g:=by omega) (n2:g2≠g:=by omega) (n3:g3≠g:=by omega) (n4:g4≠g:=by omega) (n5:g5≠g:=by omega):Blk Y g0 t0 v0∧Blk Y g1 t1 v1∧Blk Y g2 t2 v2∧Blk Y g3 t3 v3∧Blk Y g4 t4 v4∧Blk Y g5 t5 v5:=⟨aW hG h0 n0,aW hG h1 n1,aW hG h2 n2,aW hG h3 n3,aW hG h4 n4,aW hG h5 n5⟩
theorem bg7 {X Y:World} {g:Nat} (hG:X.grownBy Y (some g)) {g0 t0:Nat} {v0:List Value} (h0:Blk X g0 t0 v0) {g1 t1:Nat} {v1:List Value} (h1:Blk X g1 t1 v1) {g2 t2:Nat} {v2:List Value} (h2:Blk X g2 t2 v2) {g3 t3:Nat} {v3:List Value} (h3:Blk X g3 t3 v3) {g4 t4:Nat} {v4:List Value} (h4:Blk X g4 t4 v4) {g5 t5:Nat} {v5:List Value} (h5:Blk X g5 t5 v5) {g6 t6:Nat} {v6:List Value} (h6:Blk X g6 t6 v6) (n0:g0≠g:=by omega) (n1:g1≠g:=by omega) (n2:g2≠g:=by omega) (n3:g3≠g:=by omega) (n4:g4≠g:=by omega) (n5:g5≠g:=by omega) (n6:g6≠g:=by omega):Blk Y g0 t0 v0∧Blk Y g1 t1 v1∧Blk Y g2 t2 v2∧Blk Y g3 t3 v3∧Blk Y g4 t4 v4∧Blk Y g5 t5 v5∧Blk Y g6 t6 v6:=⟨aW hG h0 n0,aW hG h1 n1,aW hG h2 n2,aW hG h3 n3,aW hG h4 n4,aW hG h5 n5,aW hG h6 n6⟩
theorem bg8 {X Y:World} {g:Nat} (hG:X.grownBy Y (some g)) {g0 t0:Nat} {v0:List Value} (h0:Blk X g0 t0 v0) {g1 t1:Nat} {v1:List Value} (h1:Blk X g1 t1 v1) {g2 t2:Nat} {v2:List Value} (h2:Blk X g2 t2 v2) {g3 t3:Nat} {v3:List Value} (h3:Blk X g3 t3 v3) {g4 t4:Nat} {v4:List Value} (h4:Blk X g4 t4 v4) {g5 t5:Nat} {v5:List Value} (h5:Blk X g5 t5 v5) {g6 t6:Nat} {v6:List Value} (h6:Blk X g6 t6 v6) {g7 t7:Nat} {v7:List Value} (h7:Blk X g7 t7 v7) (n0:g0≠g:=by omega) (n1:g1≠g:=by omega) (n2:g2≠g:=by omega) (n3:g3≠g:=by omega) (n4:g4≠g:=by omega) (n5:g5≠g:=by omega) (n6:g6≠g:=by omega) (n7:g7≠g:=by omega):Blk Y g0 t0 v0∧Blk Y g1 t1 v1∧Blk Y g2 t2 v2∧Blk Y g3 t3 v3∧Blk Y g4 t4 v4∧Blk Y g5 t5 v5∧Blk Y g6 t6 v6∧Blk Y g7 t7 v7:=⟨aW hG h0 n0,aW hG h1 n1,aW hG h2 n2,aW hG h3 n3,aW hG h4 n4,aW hG h5 n5,aW hG h6 n6,aW hG h7 n7⟩
theorem aR {W w w':World} {B g:Nat} (h:w.grownBy w' (some g)) (hb:Below B W w) (hB:B≤w.heap.size) (hg:B≤g):Below B W w':=hb.grown h hB (fun k hk=>by simp at hk;omega)
theorem iV {w:World} {base m n:Nat} {e:TypeId} {A:Option Addr} {c:Nat} {xs:List Value} (hO:w.ownsRow base e m (.slice A n c) n xs) (hn:0<n):∃ g,A=some ⟨g,0,none⟩:=by
 rcases hO.2 with ⟨_,h9⟩|⟨g,cap,cur,hv,_⟩
 ·omega
 ·injection hv with hv1 _ _
  exact ⟨g,hv1⟩
theorem qQu {w:World} {base m n:Nat} {e:TypeId} {g c:Nat} {xs:List Value} (hO:w.ownsRow base e m (.slice (some ⟨g,0,none⟩) n c) n xs):Cl w g 0 xs∧g<w.heap.size∧base≤g∧n≤c:=by
 obtain ⟨hl,hr9⟩:=hO
 rcases hr9 with ⟨h9,_⟩|⟨g',cap,cur,hv,hb,hg,hn,hm,hs,ht⟩
 ·cases h9
 ·injection hv with hv1 _ hv3
  injection hv1 with hv1
  injection hv1 with hv1 _ _
  subst hv1 hv3;have hB:Blk w g e cur.toList:=hg;refine ⟨fun j u hj=>?_,hB.lt,hb,hn⟩;rw [Nat.zero_add];refine hB.cell ?_;rw [← ht] at hj;exact (List.getElem?_take_of_lt (by have:=(List.getElem?_eq_some_iff.1 hj).1;rw [List.length_take] at this;omega)).symm.trans hj
def aw (l:List Int) (f u tick:Nat):Int:=tk l (min l.length (u-tick))-tk l (min l.length (f-tick))
abbrev Wp:=Nat×Nat×Int
instance:Inhabited Wp:=⟨(0,0,0)⟩
def pw (P:List Wp) (k:Nat):Wp:=P.getD k default
def arJ (P:List Wp) (last:Int) (tick:Nat) (w:Int):Prop:=0<P.length∧(pw P (P.length-1)).2.1=tick∧last=w
instance (P:List Wp) (last:Int) (tick:Nat) (w:Int):Decidable (arJ P last tick w):=by unfold arJ;exact inferInstance
def wdc (t:Int) (p:Wp):List Value:=[vI (p.1:Int),vI (p.2.1:Int),.bool (rN (rk p.2.2 t)),vS (rP (rk p.2.2 t)),vS (rD (rk p.2.2 t))]
def Tp (L:Value→World→Prop) (e:Int) (v:Value) (X:World):Prop:=∃ u,v=.tuple #[u,vI e]∧L u X
theorem Tp.lasts {L:Value→World→Prop} (hL:dW L) (e:Int):dW (Tp L e):=by
 rintro v X Y ⟨u,h1,h2⟩ hS
 exact ⟨u,h1,hL _ _ _ h2 hS⟩
def Rq (l:List Rat) (v:Value) (X:World):Prop:=Rl (l.map tr) v X
theorem Rq.lasts (l:List Rat):dW (Rq l):=fun _ _ _ h hS=>Rl.lasts _ _ _ _ h hS
theorem Rq.of_blk {l:List Rat} {g:Nat} {X:World} (h:Blk X g 23 (fl rc l)) (hl:l.length≤1000000):Rq l (.slice (some ⟨g,0,none⟩) l.length l.length) X:=by
 have h1:fl trc (l.map tr)=fl rc l:=by
  unfold fl
  rw [List.map_map]
  rfl
 show Rd X 3 _ (l.map tr).length (fl trc (l.map tr))
 rw [h1,List.length_map];exact ⟨by rw [jG],_,_,rfl,Nat.le_refl _,(by unfold maxLen;omega),(fun h=>by cases h),fun _=>⟨g,0,rfl,h.lt,fun j u hj=>by rw [Nat.zero_add];exact h.cell hj⟩⟩
theorem Rm.rq {l:List Rat} {B:Nat} {v:Value} {X:World} (h:Rm l B v X):Rq l v X:=by
 obtain ⟨g,rfl,h2,h4,h3⟩:=h;exact Rq.of_blk h3 h4
def Pl (P:List Wp) (t:Int) (v:Value) (X:World):Prop:=Rd X 5 v P.length (fl (wdc t) P)
def Av (T:TypeId) (z:List Value) (B:Nat) (v:Value) (X:World):Prop:=∃ g,v=vP g 0∧B≤g∧Blk X g T z
theorem Av.lasts (T:TypeId) (z:List Value) (B:Nat):dW (Av T z B):=by
 rintro v X Y ⟨g,h1,h2,h3⟩ hS
 exact ⟨g,h1,h2,h3.bel hS⟩
theorem Av.mk {P:Program} {f:Operand→Value} {o:Oper} (T:TypeId) (z:List Value) (B:Nat) {X:World} (hB:B≤X.heap.size) (hr:(execOp f o).run P X=.ok (.value (vP X.heap.size 0)) (X.alloc (.cells z.toArray T))):∃ v X',(execOp f o).run P X=.ok (.value v) X'∧Av T z B v X'∧Since X X' :=
 ⟨_,_,hr,⟨_,rfl,hB,Blk.new rfl⟩,cE X _⟩
theorem Ks.mk {P:Program} {f:Operand→Value} {o:Oper} (l:List Int) (n:Nat) (hn:l.length=n) (hm:n≤1073741824) {X:World} (hr:(execOp f o).run P X=.ok (.value (.slice (some ⟨X.heap.size,0,none⟩) n n)) (X.alloc (.cells (l.map I64).toArray 3))):∃ v X',(execOp f o).run P X=.ok (.value v) X'∧Ks l v X'∧Since X X':=by
 subst hn;exact ⟨_,_,hr,Ks.of_blk (Blk.new rfl) hm,cE X _⟩
theorem Rq.mk {P:Program} {f:Operand→Value} {o:Oper} (l:List Rat) (n:Nat) (hn:l.length=n) (hm:n≤1000000) {X:World} (hr:(execOp f o).run P X=.ok (.value (.slice (some ⟨X.heap.size,0,none⟩) n n)) (X.alloc (.cells (fl rc l).toArray 23))):∃ v X',(execOp f o).run P X=.ok (.value v) X'∧Rq l v X'∧Since X X':=by
 subst hn;exact ⟨_,_,hr,Rq.of_blk (Blk.new rfl) hm,cE X _⟩
theorem vVl {ys:List Rat} {k:Nat}:xt (ys.map tr) k=tr (yq ys k):=by
 unfold xt yq
 rw [List.getD_eq_getElem?_getD,List.getD_eq_getElem?_getD,List.getElem?_map]
 cases ys[k]? <;> rfl
theorem oF:Go.Maps.Keyed Tryz.prog 3:=Go.Maps.int_keyed G3
def Mpb (n:Nat) (F:Int→Bool) (v:Value) (X:World):Prop:=∃ b,v=.map (some b)∧∃ D:DataW Unit,X.ownsMap Tryz.prog 3 (plainElem Tryz.prog 4) b n D∧∀ k:Int,(Lit.int .i64 k).wf=true→D.atKey (.int .i64 k) (.lit (.bool false))=.lit (.bool (F k))
theorem Mpb.lasts (n:Nat) (F:Int→Bool):dW (Mpb n F):=by
 rintro v X Y ⟨b,hv,D,h1,h2⟩ hS
 exact ⟨b,hv,D,h1.kept (row:=none) ⟨hS.os,hS.tape,hS.output,hS.size,fun k hk _=>hS.block k hk⟩ (by simp),h2⟩
theorem Mpb.grown {X Y:World} {n:Nat} {F:Int→Bool} {b:Nat} {row:Option Nat} (h:Mpb n F (.map (some b)) X) (hG:X.grownBy Y row) (hne:row≠some b):Mpb n F (.map (some b)) Y:=by
 obtain ⟨b',hv,D,h1,h2⟩:=h
 injection hv with hv
 injection hv with hv
 subst hv;exact ⟨b,rfl,D,h1.kept hG (fun h9=>hne h9.symm),h2⟩
theorem Mpb.lt {X:World} {n:Nat} {F:Int→Bool} {b:Nat} (h:Mpb n F (.map (some b)) X):b<X.heap.size:=by
 obtain ⟨b',hv,D,h1,_⟩:=h
 injection hv with hv
 injection hv with hv
 subst hv;exact h1.lt
theorem Mpb.mono {X:World} {n m:Nat} {F:Int→Bool} {v:Value} (h:Mpb n F v X) (hm:n≤m):Mpb m F v X:=by
 obtain ⟨b,hv,D,h1,h2⟩:=h;exact ⟨b,hv,D,h1.mono hm,h2⟩
theorem Mpb.made (X:World):Mpb 0 (fun _=>false) (.map (some X.heap.size)) (X.alloc (.map #[] 0)) :=
 ⟨_,rfl,.map [],World.ownsMap_made X _ _ _,fun k hk=>rfl⟩
theorem lJ {P:Program} {e:TypeId} (he:P.underlying e=some .bool) {v:Value} {z:DataW Unit×List MemPlace} (h:plainElem P e v=some z):∃ x,v=.bool x∧z=(.lit (.bool x),[]):=by
 unfold plainElem at h
 rw [he] at h
 cases v <;> simp at h
 exact ⟨_,rfl,h.symm⟩
theorem hI {f:Operand→Value} {o:Oper} (x y:Operand) (ho:o.op=.lookup 103 x y false) {m:Value} {k:Int} (hx:f x=m) (hy:f y=.int .i64 k) (hk:(Lit.int .i64 k).wf=true) {n:Nat} {F:Int→Bool} (X:World) (h:Mpb n F m X) :
  (execOp f o).run Tryz.prog X=.ok (.value (.bool (F k))) X:=by
 obtain ⟨b,hv,D,h1,h2⟩:=h;subst hv;obtain ⟨v,ps,hrun,hR⟩:=h1.lookup (z:=.bool false) (zd:=.lit (.bool false)) (zp:=[]) oF Tryz.underlying103 (by kernel_rfl) (plainElem_bool Tryz.underlying4 false) (Go.Maps.keyOf_int_mk Tryz.underlying3 hk);rw [h2 k hk] at hR;obtain ⟨x',rfl,h9⟩:=lJ Tryz.underlying4 hR;simp only [Prod.mk.injEq] at h9
 have h8:F k=x':=by
  have:=h9.1
  injection this with this
  injection this
 subst h8
 unfold execOp
 simp [ho,hx,hy,hrun]
theorem uZ {w:World} {ops:Array Oper} {rest:List Oper} {o:Oper} {a:Act} {Q:Exit→Act→World→Prop} (hgd:o.guard=none) (m x v:Operand) (ho:o.op=.mapUpdate 103 m x v) {b:Nat} {k:Int} {y:Bool}
  (hm:a.eval m=.map (some b)) (hx:a.eval x=.int .i64 k) (hv:a.eval v=.bool y) (hk:(Lit.int .i64 k).wf=true) {n:Nat} {F:Int→Bool} (h:Mpb n F (.map (some b)) w) (hn:n<maxLen)
  (hK:∀ w',Mpb (n+1) (fun j=>if j=k then y else F j) (.map (some b)) w'→w.grownBy w' (some b)→wpList Tryz.prog ops Q rest (a.put o.dst undef) w'):wpList Tryz.prog ops Q (o :: rest) a w:=by
 obtain ⟨b',hb,D,h1,h2⟩:=h
 injection hb with hb
 injection hb with hb
 subst hb
 refine wpList_mapUpdate_own w hgd m x v 103 ho 3 4 oF G103 _ b n D hm h1 hn _ _ _ hx hv (Go.Maps.keyOf_int_mk G3 hk) _ _ (plainElem_bool G4 y) fun w' r1 r2=>hK w' ⟨b,rfl,_,r1,fun j hj=>?_⟩ r2
 show _=DataW.lit (Lit.bool (if j=k then y else F j))
 by_cases h9:j=k
 ·subst h9
  rw [if_pos rfl];exact Go.Maps.atKey_put_same (by obtain ⟨_,_,_,_,_,hD⟩:=h1;exact ⟨_,hD⟩) (by trivial) _ _
 ·rw [if_neg h9,Go.Maps.atKey_put_other (fun h8=>h9 (by injection h8))]
  exact h2 j hj
theorem mE {P:Program} {w:World} {a:Act} {id:Nat} {L:List Oper} {Q':Exit→Act→World→Prop} (A:Ar) (ap:Nat) (ss:List (dT Bool)) (hst:∀ S,some S∈ss→∀ v X Y,S v X→Ga A X Y→S v Y)
  (h:fV P L.toArray A ap w (wpList P L.toArray Q' []) (fun _ _=>true) (itg 0 L ss) [] a):(Code.region id L.toArray false).wp P Q' a w :=
 uF (g0:=false) ss (Ga.since (X:=(w,false)) (Below.refl w.heap.size w)) (fun _ _=>rfl) (fun _ _ h h'=>h.trans h') hst h.out
theorem iH {P:Program} {w:World} {a:Act} {id:Nat} {L:List Oper} {Q':Exit→Act→World→Prop} (n:Nat) (A:Ar) (ap:Nat) (ss:List (dT Bool)) (hst:∀ S,some S∈ss→∀ v X Y,S v X→Ga A X Y→S v Y)
  (h:fV P L.toArray A ap w (wpList P L.toArray Q' (L.drop n)) (fun _ _=>true) (itg 0 (L.take n) ss) [] a):(Code.region id L.toArray false).wp P Q' a w:=by
 refine wp_region_lit ?_
 have hq:=fG (N:=fun k σ=>k=ap→σ=false) (tail:=L.drop n) (fun _ _ h h'=>Ga.trans h h') (itg 0 (L.take n) ss) [] a (w,false) (fun it hit S hS=>by
  rcases ((jN 0 (L.take n) ss).2.1 it hit).2.2 with h'|h'
  ·rw [hS] at h'
   cases h'
  ·rw [hS] at h'
   exact hst S h') (fun p F hp=>by cases hp) (Ga.since (X:=(w,false)) (Below.refl w.heap.size w)) (fun it _ _=>rfl) (jN 0 (L.take n) ss).1 h.out
 rw [oG,List.take_append_drop] at hq;exact hq
theorem qQv {X Y:World} {base m n:Nat} {e:TypeId} {v:Value} {xs:List Value} (h:X.ownsRow base e m v n xs) (hk:∀ g t zs,v.ownBlock=some g→Blk X g t zs→Blk Y g t zs):Y.ownsRow base e m v n xs:=by
 obtain ⟨hl,hr⟩:=h;refine ⟨hl,hr.imp id ?_⟩
 rintro ⟨g,cap,cur,rfl,hb,hg,rest⟩
 have h9:Blk X g e cur.toList:=by
  show X.heap[g]?=some (.cells cur.toList.toArray e (0,0))
  rw [Array.toArray_toList];exact hg
 have h8:=hk g e _ rfl h9;refine ⟨g,cap,cur,rfl,hb,?_,rest⟩;have h7:Y.heap[g]?=some (.cells cur.toList.toArray e (0,0)):=h8;rw [Array.toArray_toList] at h7;exact h7
theorem bC:(Tryz.prog.info? 66).map (·.size)=some 9:=by kernel_rfl
theorem fX {ops:Array Oper} {Q:Act→World→Prop} {pre:Nat→Nat→Bool} {a a':Act} {k:Nat} {o:Oper} {l:List (Nat×Oper×cN)} {Fs:List (Nat×(World→Prop))} {w:World} {g t:Nat} {vs:List Value} (hB:Blk w g t vs) (h:bR Tryz.prog ops Since w Q pre l Fs a') (hl:9=vs.length:=by rfl) (hw:Region.wanted o (yielded ops a.tmps)=true:=by rfl) {x:Operand} (ho:o.op=.load 66 x:=by rfl) (hx:a.eval x=vP g 0:=by rfl) (hp:a.put o.dst (.agg vs.toArray)=a':=by simp only [pX,st,rt,rz];rfl):bR Tryz.prog ops Since w Q pre ((k,o,none) :: l) Fs a:=ja hB G66 (by rfl) (hl ▸ bC) h hw ho hx hp
theorem cY:(Tryz.prog.info? 26).map (·.size)=some 4:=by kernel_rfl
theorem aJ {ops:Array Oper} {Q:Act→World→Prop} {pre:Nat→Nat→Bool} {a a':Act} {k:Nat} {o:Oper} {l:List (Nat×Oper×cN)} {Fs:List (Nat×(World→Prop))} {w:World} {g t:Nat} {vs:List Value} (hB:Blk w g t vs) (h:bR Tryz.prog ops Since w Q pre l Fs a') (hl:4=vs.length:=by rfl) (hw:Region.wanted o (yielded ops a.tmps)=true:=by rfl) {x:Operand} (ho:o.op=.load 26 x:=by rfl) (hx:a.eval x=vP g 0:=by rfl) (hp:a.put o.dst (.agg vs.toArray)=a':=by simp only [pX,st,rt,rz];rfl):bR Tryz.prog ops Since w Q pre ((k,o,none) :: l) Fs a:=ja hB G26 (by rfl) (hl ▸ cY) h hw ho hx hp
theorem aY:(Tryz.prog.info? 41).map (·.size)=some 8:=by kernel_rfl
theorem cJ {ops:Array Oper} {Q:Act→World→Prop} {pre:Nat→Nat→Bool} {a a':Act} {k:Nat} {o:Oper} {l:List (Nat×Oper×cN)} {Fs:List (Nat×(World→Prop))} {w:World} {g t:Nat} {vs:List Value} (hB:Blk w g t vs) (h:bR Tryz.prog ops Since w Q pre l Fs a') (hl:8=vs.length:=by rfl) (hw:Region.wanted o (yielded ops a.tmps)=true:=by rfl) {x:Operand} (ho:o.op=.load 41 x:=by rfl) (hx:a.eval x=vP g 0:=by rfl) (hp:a.put o.dst (.agg vs.toArray)=a':=by simp only [pX,st,rt,rz];rfl):bR Tryz.prog ops Since w Q pre ((k,o,none) :: l) Fs a:=ja hB G41 (by rfl) (hl ▸ aY) h hw ho hx hp
theorem qZn:(Tryz.prog.info? 29).map (·.size)=some 7:=by kernel_rfl
theorem hH {ops:Array Oper} {Q:Act→World→Prop} {pre:Nat→Nat→Bool} {a a':Act} {k:Nat} {o:Oper} {l:List (Nat×Oper×cN)} {Fs:List (Nat×(World→Prop))} {w:World} {g t:Nat} {vs:List Value} (hB:Blk w g t vs) (h:bR Tryz.prog ops Since w Q pre l Fs a') (hl:7=vs.length:=by rfl) (hw:Region.wanted o (yielded ops a.tmps)=true:=by rfl) {x:Operand} (ho:o.op=.load 29 x:=by rfl) (hx:a.eval x=vP g 0:=by rfl) (hp:a.put o.dst (.agg vs.toArray)=a':=by simp only [pX,st,rt,rz];rfl):bR Tryz.prog ops Since w Q pre ((k,o,none) :: l) Fs a:=ja hB G29 (by rfl) (hl ▸ qZn) h hw ho hx hp
theorem fE:(Tryz.prog.info? 50).map (·.size)=some 13:=by kernel_rfl
theorem vK {ops:Array Oper} {Q:Act→World→Prop} {pre:Nat→Nat→Bool} {a a':Act} {k:Nat} {o:Oper} {l:List (Nat×Oper×cN)} {Fs:List (Nat×(World→Prop))} {w:World} {g t:Nat} {vs:List Value} (hB:Blk w g t vs) (h:bR Tryz.prog ops Since w Q pre l Fs a') (hl:13=vs.length:=by rfl) (hw:Region.wanted o (yielded ops a.tmps)=true:=by rfl) {x:Operand} (ho:o.op=.load 50 x:=by rfl) (hx:a.eval x=vP g 0:=by rfl) (hp:a.put o.dst (.agg vs.toArray)=a':=by simp only [pX,st,rt,rz];rfl):bR Tryz.prog ops Since w Q pre ((k,o,none) :: l) Fs a:=ja hB G50 (by rfl) (hl ▸ fE) h hw ho hx hp
theorem pM:(Tryz.prog.info? 66).map (fun i=>(i.zero,i.size,i.bytes))=some (some (.agg #[.bool false,.string ⟨#[]⟩,.string ⟨#[]⟩,.bool false,.string ⟨#[]⟩,.string ⟨#[]⟩,.bool false,.string ⟨#[]⟩,.string ⟨#[]⟩]),9,120):=by kernel_rfl
theorem aT (b k:Nat) (X:World) (v:Value) (h:X.cell? ⟨b,k,none⟩=some v):(loadVar 24 ⟨b,k,none⟩).run Tryz.prog X=.ok v X:=by
 go_simp
theorem bV (b k:Nat) (X:World) (v:Value) (h:X.cell? ⟨b,k,none⟩=some v):(loadVar 27 ⟨b,k,none⟩).run Tryz.prog X=.ok v X:=by
 go_simp
def hoc (x:Ho):List Value:=[.bool x.c.1,vS x.c.2.1,vS x.c.2.2,.bool x.m.1,vS x.m.2.1,vS x.m.2.2,.bool x.s.1,vS x.s.2.1,vS x.s.2.2]
theorem jO (x:Ho):(hoc x).length=9:=rfl
theorem sG (l:List Ho):(fl hoc l).length=l.length * 9:=lO (fun x _=>jO x)
def Hl (l:List Ho) (v:Value) (X:World):Prop:=Rd X 9 v l.length (fl hoc l)
theorem Hl.lasts (l:List Ho):dW (Hl l):=fun _ _ _ h hS=>Rd.below h hS
theorem Hl.at {l:List Ho} {v:Value} {w:World} (h:Hl l v w):∃ A n c,v=.slice A n c∧l.length=n∧n≤9223372036854775807∧Rd w 9 (.slice A n c) n (fl hoc l):=by
 have h9:Rd w 9 v l.length (fl hoc l):=h;have h8:=h9;obtain ⟨hl,A,c,h2,hc,hm,hx⟩:=h9;subst h2;refine ⟨A,l.length,c,rfl,rfl,?_,h8⟩
 unfold maxLen at hm
 omega
theorem gM {w:World} {A:Option Addr} {n c:Nat} {l:List Ho} (h:Rd w 9 (.slice A n c) n (fl hoc l)) (hl:l.length=n) {k:Nat} (hk:k<n):∃ b off,A=some ⟨b,off,none⟩∧b<w.heap.size∧Cl w b (off+k * 9) (hoc (ho l k)):=by
 obtain ⟨b,off,x,hA,hb,hc,_,hd⟩:=h.atF (m:=9) (fun x _=>jO x) (by omega) (k:=k) (by omega);have h1:=congrArg (·[0]?) hd.out;rw [iJ (by omega)]
 have h2:l[k]=x:=by
  have h3:l[k]?=some x:=by simpa [List.getElem?_drop] using h1
  rw [List.getElem?_eq_getElem (by omega)] at h3
  injection h3
 rw [h2];exact ⟨b,off,hA,hb,hc⟩
theorem vYz (X:World):Hl [] (.slice none 0 0) X:=Rd.nil_ _ _
theorem vXr (X:World):Rl [] (.slice none 0 0) X:=Rd.nil_ _ _
theorem Rl.mk {P:Program} {f:Operand→Value} {o:Oper} (l:List Tr) (n:Nat) (hn:l.length=n) (hm:n≤1073741824) {X:World} (hr:(execOp f o).run P X=.ok (.value (.slice (some ⟨X.heap.size,0,none⟩) n n)) (X.alloc (.cells (fl trc l).toArray 23))):∃ v X',(execOp f o).run P X=.ok (.value v) X'∧Rl l v X'∧Since X X':=by
 subst hn;refine ⟨_,_,hr,?_,cE X _⟩;have hB:Blk (X.alloc (.cells (fl trc l).toArray 23)) X.heap.size 23 (fl trc l):=Blk.new rfl;refine ⟨lO (fun _ _=>rfl),some ⟨X.heap.size,0,none⟩,l.length,rfl,Nat.le_refl _,by unfold maxLen;omega,(fun h9=>by cases h9),fun _=>⟨X.heap.size,0,rfl,hB.lt,fun j u hj=>?_⟩⟩;rw [Nat.zero_add];exact hB.cell hj
theorem vVk {xs:List Tr} {k:Nat} (h:xs.length≤k):xt xs k=(false,[],[]):=by
 unfold xt
 rw [List.getD_eq_getElem?_getD,List.getElem?_eq_none h]
 rfl
def fnL (xs:List Tr):Bool:=xs.all fnT
theorem fnL_t {xs:List Tr}:fnL xs=true↔∀ k,k<xs.length→fnT (xt xs k)=true:=by
 unfold fnL
 rw [List.all_eq_true]
 constructor
 ·intro h k hk
  rw [oK hk];exact h _ (List.getElem_mem _)
 ·intro h x hx
  obtain ⟨k,hk,rfl⟩:=List.mem_iff_getElem.1 hx;rw [← oK hk];exact h k hk
theorem fnL_f {xs:List Tr} {k:Nat} (hk:k<xs.length) (h:fnT (xt xs k)=false):fnL xs=false:=by
 refine Bool.eq_false_iff.2 fun h9=>?_;rw [fnL_t.1 h9 k hk] at h
 cases h
def ixN (xs:List Tr):Int:=if fnL xs=true then -1 else ((xs.findIdx fun t=>!fnT t:Nat):Int)
theorem vYt {xs:List Tr} {k:Nat} (hk:k<xs.length) (h:fnT (xt xs k)=false) (hz:∀ j,j<k→fnT (xt xs j)=true):ixN xs=k:=by
 unfold ixN
 rw [if_neg (by rw [fnL_f hk h];decide)]
 congr 1
 refine (List.findIdx_eq hk).2 ⟨by rw [← oK hk,h];rfl,fun j hj=>?_⟩;rw [← oK (by omega),hz j hj]
 rfl
theorem vQw {xs:List Tr} (h:fnL xs=true):ixN xs=-1:=if_pos h
theorem ixN_f {xs:List Tr} (h:fnL xs=false):0≤ixN xs∧ixN xs≤xs.length:=by
 unfold ixN
 rw [if_neg (by rw [h];decide)];have:=@List.findIdx_le_length Tr (fun t=>!fnT t) xs
 omega
def Pv (d:Pd) (v:Value) (X:World):Prop:=∃ u z,v=.agg #[.bool d.p.1,vS d.p.2.1,vS d.p.2.2,u,z,.bool (rN d.r),vS (rP d.r),vS (rD d.r)]∧Hl d.l u X∧Rl (d.q.map tr) z X
theorem Pv.z (X:World):Pv pd0 (.agg #[.bool false,.string ⟨#[]⟩,.string ⟨#[]⟩,.slice none 0 0,.slice none 0 0,.bool false,.string ⟨#[]⟩,.string ⟨#[]⟩]) X :=
 ⟨_,_,rfl,vYz X,vXr X⟩
theorem pT {f:Operand→Value} {o:Oper} (x y:Operand) (ho:o.op=.store 24 x y) (g j:Nat) {A:Option Addr} {n c:Nat} (hx:f x=vP g j) (hy:f y=.slice A n c) (u:Value) (X:World) (hc:X.cell? ⟨g,j,none⟩=some u) (hf:X.frozen? ⟨g,j,none⟩=false) :
  (execOp f o).run Tryz.prog X=.ok .skip (X.setCell ⟨g,j,none⟩ (.slice A n c)):=by
 unfold execOp
 simp only [ho,hx,hy]
 go_simp
theorem gD {P:Program} {w:World} {ops:Array Oper} {rest:List Oper} {o:Oper} {a:Act} {Q:Exit→Act→World→Prop} (hgd:o.guard=none) (ty:TypeId) (p x:Operand) (ho:o.op=.store ty p x) {base m n:Nat} {e:TypeId} {g c:Nat} {xs:List Value} (hO:w.ownsRow base e m (.slice (some ⟨g,0,none⟩) n c) n xs)
  (k:Nat) (hp:a.eval p=vP g k) (ys:List Value) (hx:a.eval x=.agg ys.toArray) (hl:k+ys.length≤xs.length) (h1:∀ v∈ys,v.oneCell'=true) (hi:(P.info? ty).map (·.size)=some ys.length)
  (h:∀ w',w'.ownsRow base e m (.slice (some ⟨g,0,none⟩) n c) n (xs.take k++ys++xs.drop (k+ys.length))→w.grownBy w' (some g)→wpList P ops Q rest (a.put o.dst undef) w'):wpList P ops Q (o :: rest) a w:=by
 obtain ⟨hlen,hr9⟩:=hO
 rcases hr9 with ⟨h9,_⟩|⟨g',cap,cur,hv,hb,hg,hn,hm,hs,ht⟩
 ·cases h9
 ·injection hv with hv1 _ hv3
  injection hv1 with hv1
  injection hv1 with hv1 _ _
  subst hv1 hv3;have hB:Blk w g e cur.toList:=hg
  have hcl:k+ys.length≤cur.toList.length:=by
   rw [← ht,List.length_take] at hl
   omega
  refine dM hgd ty p x ho g e cur.toList hB k hp ys hx hcl h1 hi fun w' hB' hG _=>h w' ⟨?_,.inr ⟨g,c,(cur.toList.take k++ys++cur.toList.drop (k+ys.length)).toArray,rfl,hb,hB',hn,hm,?_,?_⟩⟩ hG
  ·rw [List.length_append,List.length_append,List.length_take,List.length_drop]
   omega
  ·have h8:cur.toList.length=cur.size:=Array.length_toList
   rw [List.size_toArray,List.length_append,List.length_append,List.length_take,List.length_drop]
   omega
  ·show (cur.toList.take k++ys++cur.toList.drop (k+ys.length)).take (n * m)=_
   have hkn:k+ys.length≤n * m:=by
    rw [← ht,List.length_take] at hl
    omega
   have hA:(cur.toList.take k++ys).length=k+ys.length:=by
    rw [List.length_append,List.length_take]
    omega
   rw [← ht,List.take_append,hA,List.take_of_length_le (by omega),List.take_take,List.drop_take,Nat.min_eq_left (by omega)]
def cno (op:Nat→Bool):Nat→Nat
 | 0=>0
 | n+1=>cno op n+if op n=true then 1 else 0
theorem qXv (op:Nat→Bool):∀ n,cno op n≤n
 | 0=>Nat.le_refl 0
 | n+1=>by
  have h:=qXv op n
  show cno op n+_≤n+1
  split <;> omega
theorem mK {op op':Nat→Bool}:∀ {n:Nat},(∀ k,k<n→op' k=true→op k=true)→cno op' n≤cno op n
 | 0,_=>Nat.le_refl 0
 | n+1,h=>by
  have h1:=mK (n:=n) fun k hk=>h k (by omega)
  show cno op' n+_≤cno op n+_
  by_cases h2:op' n=true
  ·rw [if_pos h2,if_pos (h n (by omega) h2)]
   omega
  ·rw [if_neg h2]
   omega
theorem vZ {op op':Nat→Bool}:∀ {n i:Nat},(∀ k,k<n→op' k=true→op k=true)→i<n→op i=true→op' i=false→cno op' n<cno op n
 | 0,_,_,h1,_,_=>absurd h1 (Nat.not_lt_zero _)
 | n+1,i,h,h1,h2,h3=>by
  show cno op' n+_<cno op n+_
  rcases Nat.lt_or_ge i n with h4|h4
  ·have h5:=vZ (n:=n) (fun k hk=>h k (by omega)) h4 h2 h3
   by_cases h6:op' n=true
   ·rw [if_pos h6,if_pos (h n (by omega) h6)]
    omega
   ·rw [if_neg h6]
    omega
  ·obtain rfl:i=n:=by omega
   have h5:=mK (n:=i) fun k hk=>h k (by omega)
   rw [if_pos h2,if_neg (by rw [h3];decide)]
   omega
theorem yY {op op':Nat→Bool} {n:Nat} (h:∀ k,k<n→op k=op' k):cno op n=cno op' n :=
 Nat.le_antisymm (mK fun k hk h9=>by rw [← h k hk];exact h9) (mK fun k hk h9=>by rw [h k hk];exact h9)
theorem Mpb.uniq {n m:Nat} {F G:Int→Bool} {v:Value} {X:World} (h:Mpb n F v X) (h':Mpb m G v X) {k:Int} (hk:(Lit.int .i64 k).wf=true):F k=G k:=by
 obtain ⟨b,hv,D,h1,h2⟩:=h;obtain ⟨b',hv',D',h1',h2'⟩:=h';subst hv
 injection hv' with hv'
 injection hv' with hv'
 subst hv';obtain ⟨x,ps,hrun,hR⟩:=h1.lookup (z:=.bool false) (zd:=.lit (.bool false)) (zp:=[]) oF Tryz.underlying103 (by kernel_rfl) (plainElem_bool Tryz.underlying4 false) (Go.Maps.keyOf_int_mk Tryz.underlying3 hk);obtain ⟨x',ps',hrun',hR'⟩:=h1'.lookup (z:=.bool false) (zd:=.lit (.bool false)) (zp:=[]) oF Tryz.underlying103 (by kernel_rfl) (plainElem_bool Tryz.underlying4 false) (Go.Maps.keyOf_int_mk Tryz.underlying3 hk);rw [hrun] at hrun'
 injection hrun' with e1
 subst e1;rw [h2 k hk] at hR;rw [h2' k hk,hR] at hR'
 have h9:F k=G k∧ps=ps':=by simpa using hR'
 exact h9.1
open Classical in
noncomputable def mpn (v:Value) (n:Nat) (X:World):Nat :=
 if h:∃ F:Int→Bool,∃ N,Mpb N F v X then cno (fun j=>Classical.choose h (j:Int)) n else 0
theorem qVb {v:Value} {n N:Nat} {X:World} {F:Int→Bool} (h:Mpb N F v X) (hn:n≤1000):mpn v n X=cno (fun j=>F (j:Int)) n:=by
 have h2:∃ F:Int→Bool,∃ N,Mpb N F v X:=⟨F,N,h⟩
 unfold mpn
 rw [dif_pos h2];obtain ⟨M,h3⟩:=Classical.choose_spec h2
 exact yY fun k hk=>h3.uniq h (by
  unfold Lit.wf
  simp only [Bool.and_eq_true,decide_eq_true_eq]
  exact ⟨Int.le_trans (show _≤(0:Int) by decide) (by omega),Int.le_trans (show (k:Int)≤1000 by omega) (by decide)⟩)
end Go.Proofs.YtnfpenhldlfafaaGreatDoor

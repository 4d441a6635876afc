/- Drawn regions with one append to a row of the call's own. -/
import Derived.Test.YtnfpenhldlfafaaGreatDoorMI
set_option linter.unusedSimpArgs false
set_option linter.unusedVariables false
set_option maxRecDepth 100000
set_option maxHeartbeats 1600000
namespace Go.Proofs.YtnfpenhldlfafaaGreatDoor
open Go.RowKit
structure Vq where
 T:TypeId
 z:List Value
 p:List Value→World×Gh→Prop
def Un (X:World×Gh) (b:Nat):Prop:=b<X.1.heap.size∧X.2 b=none
structure Qr (B:Nat) (X Y:World×Gh):Prop where
 below:Below B X.1 Y.1
 un:∀ b,Un X b→Un Y b∧Y.1.heap[b]?=X.1.heap[b]?
 tag:∀ g i,X.2 g=some i→Y.2 g=some i
theorem Qr.trans {B:Nat} {X Y Z:World×Gh} (h:Qr B X Y) (h':Qr B Y Z):Qr B X Z :=
 ⟨h.below.trans h'.below,fun b hb=>⟨(h'.un b (h.un b hb).1).1,(h'.un b (h.un b hb).1).2.trans (h.un b hb).2⟩,fun g i hi=>h'.tag g i (h.tag g i hi)⟩
theorem Qr.since {B:Nat} {X:World×Gh} (hB:B≤X.1.heap.size) {Y:World} (hS:Since X.1 Y):Qr B X (Y,X.2) :=
 ⟨hS.mono hB,fun b hb=>⟨⟨Nat.lt_of_lt_of_le hb.1 hS.size,hb.2⟩,hS.block b hb.1⟩,fun _ _ h=>h⟩
def LastQ (B:Nat) (p:World×Gh→Prop):Prop:=∀ X Y,p X→Qr B X Y→p Y
def qZl (V:Nat→Vq) (i g:Nat) (X:World×Gh):Prop:=∃ vs,Blk X.1 g (V i).T vs∧(V i).p vs X
structure Qok (V:Nat→Vq) (B:Nat) (X:World×Gh):Prop where
 at_:∀ g i,X.2 g=some i→B≤g∧g<X.1.heap.size∧∃ zs,Blk X.1 g (V i).T zs∧zs.length=(V i).z.length
 one:∀ g g' i,X.2 g=some i→X.2 g'=some i→g=g'
 las:∀ i vs,LastQ B ((V i).p vs)
structure Gq (V:Nat→Vq) (B:Nat) (X Y:World×Gh):Prop where
 l:Qok V B X
 r:Qok V B Y
 q:Qr B X Y
 laid:∀ g i,X.2 g=some i→qZl V i g X→qZl V i g Y
section
variable {V:Nat→Vq} {B:Nat}
theorem Gq.trans {X Y Z:World×Gh} (h:Gq V B X Y) (h':Gq V B Y Z):Gq V B X Z :=
 ⟨h.l,h'.r,h.q.trans h'.q,fun g i hi hl=>h'.laid g i (h.q.tag g i hi) (h.laid g i hi hl)⟩
theorem Qok.since {X:World×Gh} (h:Qok V B X) {Y:World} (hS:Since X.1 Y):Qok V B (Y,X.2):=⟨fun g i hi=>by
 obtain ⟨h1,h2,zs,h3,h4⟩:=h.at_ g i hi
 exact ⟨h1,Nat.lt_of_lt_of_le h2 hS.size,zs,h3.below hS h3.lt,h4⟩,h.one,h.las⟩
theorem Gq.since {X:World×Gh} (h:Qok V B X) (hB:B≤X.1.heap.size) {Y:World} (hS:Since X.1 Y):Gq V B X (Y,X.2) :=
 ⟨h,h.since hS,Qr.since hB hS,fun g i _ ⟨vs,h1,h2⟩=>⟨vs,h1.below hS h1.lt,h.las i vs _ _ h2 (Qr.since hB hS)⟩⟩
def Gaq (V:Nat→Vq) (B i:Nat) (v:Value) (X:World×Gh):Prop:=Qok V B X∧∃ g,v=vP g 0∧X.2 g=some i
def Gsq (V:Nat→Vq) (i:Nat) (_:Value) (X:World×Gh):Prop:=∃ g,X.2 g=some i∧qZl V i g X
theorem Gsq.at {i:Nat} {v u:Value} {X:World} {σ:Gh} (h:Gaq V B i v (X,σ)) (h':Gsq V i u (X,σ)):∃ g vs,v=vP g 0∧B≤g∧Blk X g (V i).T vs∧(V i).p vs (X,σ)∧σ g=some i:=by
 obtain ⟨hk,g,h1,h2⟩:=h;obtain ⟨g',h4,vs,h5,h6⟩:=h';obtain rfl:=hk.one g g' i h2 h4;exact ⟨g,vs,h1,(hk.at_ g i h2).1,h5,h6,h2⟩
def Rdu (X:World×Gh) (m:Nat) (v:Value) (n:Nat) (xs:List Value):Prop:=Rd X.1 m v n xs∧∀ b off k c,v=.slice (some ⟨b,off,none⟩) k c→0<n→X.2 b=none
theorem vR {X Y:World} {b k:Nat} (h:Y.heap[b]?=X.heap[b]?):Y.cell? ⟨b,k,none⟩=X.cell? ⟨b,k,none⟩:=World.cell?_of_block (w:=X) (a:=⟨b,k,none⟩) h
theorem Rdu.q {X Y:World×Gh} {m n:Nat} {v:Value} {xs:List Value} (h:Rdu X m v n xs) (hq:Qr B X Y):Rdu Y m v n xs:=by
 obtain ⟨⟨hl,A,c,hv,hc,hm,hz,hr⟩,hu⟩:=h;refine ⟨⟨hl,A,c,hv,hc,hm,hz,fun hn=>?_⟩,fun b off k c' hv' hn=>?_⟩
 ·obtain ⟨b,off,hA,hb,hx⟩:=hr hn
  subst hA;obtain ⟨h1,h2⟩:=hq.un b ⟨hb,hu b off n c hv hn⟩;exact ⟨b,off,rfl,h1.1,fun j u hj=>(vR h2).trans (hx j u hj)⟩
 ·obtain ⟨b2,off2,hA,hb,_⟩:=hr hn
  subst hA;rw [hv] at hv'
  injection hv' with e1 e2 e3
  injection e1 with e1
  injection e1 with e1 e4
  subst e1;exact ((hq.un b2 ⟨hb,hu b2 off2 n c hv hn⟩).1).2
end
structure jJ (P:Program) (ops:Array Oper) (V:Nat→Vq) (w:World) (Q:Act→World→Prop) (pre:Nat→Nat→Bool) (l:List (Nat×Oper×eC Gh)) (Fs:List (Nat×(World×Gh→Prop))) (a:Act):Prop where
 out:eS P ops (Gq V w.heap.size) (w,fun _=>none) (fun a X=>Q a X.1) pre (fun k σ=>∀ g,σ g≠some k) l Fs a
section
variable {P:Program} {ops:Array Oper} {V:Nat→Vq} {w:World} {Q:Act→World→Prop} {pre:Nat→Nat→Bool} {a a':Act} {k:Nat} {o:Oper} {l:List (Nat×Oper×eC Gh)} {Fs:List (Nat×(World×Gh→Prop))}
theorem Gq.ww {X:World×Gh} (h:Gq V w.heap.size (w,fun _=>none) X):Since w X.1:=h.q.below
theorem qg (v:Value) (hq:∀ (X:World) (σ:Gh),Since w X→Qok V w.heap.size (X,σ)→(∀ p F,(p,F)∈Fs→pre k p=true→F (X,σ))→(execOp a.eval o).run P X=.ok (.value v) X) (h:jJ P ops V w Q pre l Fs a') (hw:Region.wanted o (yielded ops a.tmps)=true:=by rfl)
  (hp:a.put o.dst v=a':=by simp only [pX,st,rt,rz];rfl):jJ P ops V w Q pre ((k,o,none) :: l) Fs a:=by
 refine ⟨?_⟩
 unfold eS
 rw [if_pos hw];refine ⟨v,fun X hX hF=>?_,hp ▸ h.out⟩
 unfold cL
 rw [hq X.1 X.2 hX.ww hX.r hF];exact ⟨rfl,rfl⟩
theorem qv (v:Value) (hq:∀ X:World,(execOp a.eval o).run P X=.ok (.value v) X) (h:jJ P ops V w Q pre l Fs a') (hw:Region.wanted o (yielded ops a.tmps)=true:=by rfl)
  (hp:a.put o.dst v=a':=by simp only [pX,st,rt,rz];rfl):jJ P ops V w Q pre ((k,o,none) :: l) Fs a:=qg v (fun X _ _ _ _=>hq X) h hw hp
theorem qc {f:FuncId} {args:List Value} (v:Value) (hc:∀ (X:World) (σ:Gh),Since w X→Qok V w.heap.size (X,σ)→(∀ p F,(p,F)∈Fs→pre k p=true→F (X,σ))→Calls P f args.toArray X fun e X'=>e=.returned v∧Since X X') (h:jJ P ops V w Q pre l Fs a') (hw:Region.wanted o (yielded ops a.tmps)=true:=by rfl)
  {xs:List Operand} {ts:Array TypeId} (ho:o.op=.call { callee:=.value (.func f),args:=xs.toArray,argTypes:=ts }:=by rfl) (he:xs.map a.eval=args:=by rfl) (hi:P.inits.idxOf? f=none:=by kernel_rfl) (hf:∀ X:World,(callFunc f args.toArray).run P X=.ok (.enter f args.toArray) X:=by intro _;go_simp)
  (hp:a.put o.dst v=a':=by simp only [pX,st,rt,rz];rfl):jJ P ops V w Q pre ((k,o,none) :: l) Fs a:=by
 refine ⟨?_⟩
 unfold eS
 rw [if_pos hw];refine ⟨v,fun X hX hF=>?_,hp ▸ h.out⟩;have hc:=hc X.1 X.2 hX.ww hX.r hF
 have he2:xs.toArray.map a.eval=args.toArray:=by rw [List.map_toArray,he]
 have hrun:(execOp a.eval o).run P X.1=.ok (.enter f args.toArray) X.1:=by
  unfold execOp
  rw [ho];have hfX:=hf X.1
  go_simp
 unfold cL
 rw [hrun];exact ⟨rfl,hi,hc.mono fun e X' ⟨h1,h2⟩=>⟨h1,Gq.since hX.r hX.ww.size h2⟩⟩
theorem qx {S:Value→World×Gh→Prop} (hc:∀ (X:World) (σ:Gh),Since w X→Qok V w.heap.size (X,σ)→(∀ p F,(p,F)∈Fs→pre k p=true→F (X,σ))→∃ v X',(execOp a.eval o).run P X=.ok (.value v) X'∧S v (X',σ)∧Since X X') {b:Value→Act} (h:∀ v,jJ P ops V w Q pre l ((k,S v) :: Fs) (b v)) (hw:Region.wanted o (yielded ops a.tmps)=true:=by rfl)
  (hp:∀ v,a.put o.dst v=b v:=by intro _;simp only [pX,st,rt,rz];rfl):jJ P ops V w Q pre ((k,o,some S) :: l) Fs a:=by
 refine ⟨?_⟩
 unfold eS
 rw [if_pos hw];refine ⟨fun X hX _ hF=>?_,fun v=>hp v ▸ (h v).out⟩;obtain ⟨v,X',hr,h1,h2⟩:=hc X.1 X.2 hX.ww hX.r hF
 unfold dS
 rw [hr];exact ⟨X.2,h1,Gq.since hX.r hX.ww.size h2,fun _ _ h=>h⟩
theorem qa {T g t:Nat} {vs:List Value} (hB:Blk w g t vs) {d:TypeDesc} (hu:P.underlying T=some d) (hag:(match d with|.struct _|.array _ _=>true|_=>false)=true) (hi:(P.info? T).map (·.size)=some vs.length) (h:jJ P ops V w Q pre l Fs a') (hw:Region.wanted o (yielded ops a.tmps)=true:=by rfl)
  {x:Operand} (ho:o.op=.load T x:=by rfl) (hx:a.eval x=vP g 0:=by rfl) (hp:a.put o.dst (.agg vs.toArray)=a':=by simp only [pX,st,rt,rz];rfl):jJ P ops V w Q pre ((k,o,none) :: l) Fs a :=
 qg _ (fun X _ hX _ _=>by
  unfold execOp
  simp only [ho,hx,Instr.loadAt,Instr.sureAddr,Sem.run_bind,Sem.run_pure,Result.andThen_ok,cQ T d g 0 vs (hB.below hX hB.lt).cl hu hag hi]) h hw hp
end
section
variable {G:Type} {P:Program} {l:List Oper} {R:World×G→World×G→Prop} {w0:World×G} {N:Nat→G→Prop}
end
structure Ar where
 base:Nat
 e:TypeId
 m:Nat
 v:Value
 n:Nat
 xs:List Value
 cs:List Value
theorem mQ {X Y:World} {base m n:Nat} {e:TypeId} {v:Value} {xs:List Value} (h:X.ownsRow base e m v n xs) (hk:∀ g,v.ownBlock=some g→g<X.heap.size→Y.heap[g]?=X.heap[g]?):Y.ownsRow base e m v n xs:=by
 obtain ⟨hl,hr⟩:=h;refine ⟨hl,hr.imp id ?_⟩
 rintro ⟨g,cap,cur,rfl,hb,hg,rest⟩
 exact ⟨g,cap,cur,rfl,hb,(hk g rfl (Array.getElem?_eq_some_iff.1 hg).1).trans hg,rest⟩
theorem aC {X Y:World} {base m n:Nat} {e:TypeId} {v:Value} {xs:List Value} (h:X.ownsRow base e m v n xs) (hS:Since X Y):Y.ownsRow base e m v n xs:=mQ h fun g _ hl=>hS.block g hl
structure Ga (A:Ar) (X Y:World×Bool):Prop where
 grown:X.1.grownBy Y.1 A.v.ownBlock
 low:Y.2=false→X.2=false∧(X.1.ownsRow A.base A.e A.m A.v A.n A.xs→Y.1.ownsRow A.base A.e A.m A.v A.n A.xs)
 high:X.2=true→Y.2=true∧∀ v',X.1.ownsRow A.base A.e A.m v' (A.n+1) (A.xs++A.cs)→Y.1.ownsRow A.base A.e A.m v' (A.n+1) (A.xs++A.cs)
theorem nP {X Y Z:World} {r:Option Nat} (a1:X.grownBy Y r) (b1:Y.grownBy Z r):X.grownBy Z r :=
 ⟨b1.os.trans a1.os,b1.tape.trans a1.tape,b1.output.trans a1.output,Nat.le_trans a1.size b1.size,fun k hk hne=>(b1.block k (Nat.lt_of_lt_of_le hk a1.size) hne).trans (a1.block k hk hne)⟩
theorem Ga.trans {A:Ar} {X Y Z:World×Bool} (h:Ga A X Y) (h':Ga A Y Z):Ga A X Z :=
 ⟨nP h.grown h'.grown,fun hz=>⟨(h.low (h'.low hz).1).1,fun ho=>(h'.low hz).2 ((h.low (h'.low hz).1).2 ho)⟩,fun hx=>⟨(h'.high (h.high hx).1).1,fun v' ho=>(h'.high (h.high hx).1).2 v' ((h.high hx).2 v' ho)⟩⟩
theorem Ga.since {A:Ar} {X:World×Bool} {Y:World} (hS:Since X.1 Y):Ga A X (Y,X.2) :=
 ⟨⟨hS.os,hS.tape,hS.output,hS.size,fun k hk _=>hS.block k hk⟩,fun h=>⟨h,fun ho=>aC ho hS⟩,fun h=>⟨h,fun _ ho=>aC ho hS⟩⟩
structure Aw (A:Ar) (w X:World):Prop where
 grown:w.grownBy X A.v.ownBlock
 below:Below A.base w X
theorem Aw.blk {A:Ar} {w X:World} (h:Aw A w X) {g t:Nat} {xs:List Value} (hz:Blk w g t xs) (hne:A.v.ownBlock≠some g):Blk X g t xs:=(h.grown.block g hz.lt (fun h9=>hne h9.symm)).trans hz
theorem bL {w:World} {base m n:Nat} {e:TypeId} {v:Value} {xs:List Value} (h:w.ownsRow base e m v n xs):∀ g,v.ownBlock=some g→base≤g∧g<w.heap.size:=by
 intro g hg
 rcases h.2 with ⟨rfl,_⟩|⟨g',cap,cur,rfl,hb,hg',_⟩
 ·cases hg
 ·have:g'=g:=by
   have h9:some g'=some g:=hg
   injection h9
  subst this;exact ⟨hb,(Array.getElem?_eq_some_iff.1 hg').1⟩
structure fA (P:Program) (ops:Array Oper) (A:Ar) (ap:Nat) (w:World) (Q:Act→World→Prop) (pre:Nat→Nat→Bool) (l:List (Nat×Oper×eC Bool)) (Fs:List (Nat×(World×Bool→Prop))) (a:Act):Prop where
 out:eS P ops (Ga A) (w,false) (fun a X=>Q a X.1) pre (fun k σ=>k=ap→σ=false) l Fs a
theorem iB:(∀ (k:Nat) (ss:List (eC Bool)),itg k [] ss=[])∧(∀ (k:Nat) (o:Oper) (l:List Oper),itg (G:=Bool) k (o :: l) []=(k,o,none) :: itg (k+1) l [])∧(∀ (k:Nat) (o:Oper) (l:List Oper) (s:eC Bool) (ss:List (eC Bool)),itg k (o :: l) (s :: ss)=(k,o,s) :: itg (k+1) l ss)∧(∀ n:Nat,0+n=n) :=
 ⟨fun k ss=>by cases ss <;> rfl,fun _ _ _=>rfl,fun _ _ _ _ _=>rfl,Nat.zero_add⟩
section
variable {P:Program} {ops:Array Oper} {A:Ar} {ap:Nat} {w:World} {Q:Act→World→Prop} {pre:Nat→Nat→Bool} {a a':Act} {k:Nat} {o:Oper} {l:List (Nat×Oper×eC Bool)} {Fs:List (Nat×(World×Bool→Prop))}
theorem Ga.aw {X:World×Bool} (ho:w.ownsRow A.base A.e A.m A.v A.n A.xs) (hb:A.base≤w.heap.size) (h:Ga A (w,false) X):Aw A w X.1 :=
 ⟨h.grown,(Below.refl A.base w).grown h.grown hb (fun g hg=>(bL ho g hg).1)⟩
theorem ag (ho:w.ownsRow A.base A.e A.m A.v A.n A.xs) (hb:A.base≤w.heap.size) (v:Value) (hq:∀ (X:World) (σ:Bool),Aw A w X→(∀ p F,(p,F)∈Fs→pre k p=true→F (X,σ))→(execOp a.eval o).run P X=.ok (.value v) X) (h:fA P ops A ap w Q pre l Fs a') (hw:Region.wanted o (yielded ops a.tmps)=true:=by rfl)
  (hp:a.put o.dst v=a':=by simp only [pX,st,rt,rz];rfl):fA P ops A ap w Q pre ((k,o,none) :: l) Fs a:=by
 refine ⟨?_⟩
 unfold eS
 rw [if_pos hw];refine ⟨v,fun X hX hF=>?_,hp ▸ h.out⟩
 unfold cL
 rw [hq X.1 X.2 (Ga.aw ho hb hX) hF];exact ⟨rfl,rfl⟩
theorem am (v:Value) (h:fA P ops A ap w Q pre l Fs a') (hw:Region.wanted o (yielded ops a.tmps)=true:=by rfl) (hq:∀ X:World,(execOp a.eval o).run P X=.ok (.value v) X:=by intro _;rfl)
  (hp:a.put o.dst v=a':=by simp only [pX,st,rt,rz];rfl):fA P ops A ap w Q pre ((k,o,none) :: l) Fs a:=by
 refine ⟨?_⟩
 unfold eS
 rw [if_pos hw];refine ⟨v,fun X hX hF=>?_,hp ▸ h.out⟩
 unfold cL
 rw [hq X.1];exact ⟨rfl,rfl⟩
theorem an (v:Value) (h:fA P ops A ap w Q pre l Fs a') (hw:Region.wanted o (yielded ops a.tmps)=true:=by rfl) (hq:∀ X:World,(execOp a.eval o).run P X=.ok (.value v) X:=by intro _;unfold execOp;go_simp)
  (hp:a.put o.dst v=a':=by simp only [pX,st,rt,rz];rfl):fA P ops A ap w Q pre ((k,o,none) :: l) Fs a:=am v h hw hq hp
theorem av (v:Value) (hq:∀ X:World,(execOp a.eval o).run P X=.ok (.value v) X) (h:fA P ops A ap w Q pre l Fs a') (hw:Region.wanted o (yielded ops a.tmps)=true:=by rfl)
  (hp:a.put o.dst v=a':=by simp only [pX,st,rt,rz];rfl):fA P ops A ap w Q pre ((k,o,none) :: l) Fs a:=am v h hw hq hp
theorem ac (ho':w.ownsRow A.base A.e A.m A.v A.n A.xs) (hb:A.base≤w.heap.size) {f:FuncId} {args:List Value} (v:Value) (hc:∀ (X:World) (σ:Bool),Aw A w X→(∀ p F,(p,F)∈Fs→pre k p=true→F (X,σ))→Calls P f args.toArray X fun e X'=>e=.returned v∧Since X X') (h:fA P ops A ap w Q pre l Fs a') (hw:Region.wanted o (yielded ops a.tmps)=true:=by rfl)
  {xs:List Operand} {ts:Array TypeId} (ho:o.op=.call { callee:=.value (.func f),args:=xs.toArray,argTypes:=ts }:=by rfl) (he:xs.map a.eval=args:=by rfl) (hi:P.inits.idxOf? f=none:=by kernel_rfl) (hf:∀ X:World,(callFunc f args.toArray).run P X=.ok (.enter f args.toArray) X:=by intro _;go_simp)
  (hp:a.put o.dst v=a':=by simp only [pX,st,rt,rz];rfl):fA P ops A ap w Q pre ((k,o,none) :: l) Fs a:=by
 refine ⟨?_⟩
 unfold eS
 rw [if_pos hw];refine ⟨v,fun X hX hF=>?_,hp ▸ h.out⟩;have hc:=hc X.1 X.2 (Ga.aw ho' hb hX) hF
 have he2:xs.toArray.map a.eval=args.toArray:=by rw [List.map_toArray,he]
 have hrun:(execOp a.eval o).run P X.1=.ok (.enter f args.toArray) X.1:=by
  unfold execOp
  rw [ho];have hfX:=hf X.1
  go_simp
 unfold cL
 rw [hrun];exact ⟨rfl,hi,hc.mono fun e X' ⟨h1,h2⟩=>⟨h1,Ga.since h2⟩⟩
def Anew (A:Ar) (T:TypeId) (v:Value) (X:World×Bool):Prop:=∃ g,v=.slice (some ⟨g,0,none⟩) 1 1∧Blk X.1 g T A.cs∧A.v.ownBlock≠some g
theorem Anew.lasts {T:TypeId} (v:Value) (X Y:World×Bool) (h:Anew A T v X) (hR:Ga A X Y):Anew A T v Y:=by
 obtain ⟨g,h1,h2,h3⟩:=h;exact ⟨g,h1,(hR.grown.block g h2.lt (fun h9=>h3 h9.symm)).trans h2,h3⟩
theorem ab (ho:w.ownsRow A.base A.e A.m A.v A.n A.xs) (T:TypeId) (hr:∀ X:World,(execOp a.eval o).run P X=.ok (.value (.slice (some ⟨X.heap.size,0,none⟩) 1 1)) (X.alloc (.cells A.cs.toArray T))) {b:Value→Act} (h:∀ v,fA P ops A ap w Q pre l ((k,Anew A T v) :: Fs) (b v)) (hw:Region.wanted o (yielded ops a.tmps)=true:=by rfl)
  (hp:∀ v,a.put o.dst v=b v:=by intro _;simp only [pX,st,rt,rz];rfl):fA P ops A ap w Q pre ((k,o,some (Anew A T)) :: l) Fs a:=by
 refine ⟨?_⟩
 unfold eS
 rw [if_pos hw];refine ⟨fun X hX hN hF=>?_,fun v=>hp v ▸ (h v).out⟩
 unfold dS
 rw [hr];refine ⟨X.2,⟨_,rfl,Blk.new rfl,fun h9=>?_⟩,Ga.since ((Below.refl X.1.heap.size X.1).alloc (Nat.le_refl _) _),fun _ _ h=>h⟩;have h8:=(bL ho _ h9).2;have h7:=hX.grown.size;simp only at h7
 omega
def Aout (A:Ar) (v:Value) (X:World×Bool):Prop:=X.2=true∧X.1.ownsRow A.base A.e A.m v (A.n+1) (A.xs++A.cs)
theorem Aout.lasts (v:Value) (X Y:World×Bool) (h:Aout A v X) (hR:Ga A X Y):Aout A v Y:=⟨(hR.high h.1).1,(hR.high h.1).2 v h.2⟩
theorem aa (ho':w.ownsRow A.base A.e A.m A.v A.n A.xs) (hb:A.base≤w.heap.size) (T:TypeId) (p:Nat) (u:Value) (hmem:(p,Anew A T u)∈Fs) {t:TypeId} {z:Value} {bytes:Nat} (ht:P.underlying t=some (.slice A.e)) (hi:(P.info? A.e).map (fun i=>(i.zero,i.size,i.bytes))=some (some z,A.m,bytes))
  (hz1:z.cells.size=A.m) (hm:0<A.m) (hcs:A.cs.length=A.m) (h1:∀ u∈A.cs,u.oneCell'=true) (h63:A.n+1≤maxLen) (hbytes:(A.n+1) * bytes≤140737488355328) {b:Value→Act} (h:∀ v,fA P ops A k w Q pre l ((k,Aout A v) :: Fs) (b v)) (hpre:pre k p=true:=by rfl) (hw:Region.wanted o (yielded ops a.tmps)=true:=by rfl)
  {s x:Operand} (ho:o.op=.call { callee:=.builtin .append,args:=#[s,x],argTypes:=#[t,t] }:=by rfl) (hs:a.eval s=A.v:=by rfl) (hx:a.eval x=u:=by rfl) (hp:∀ v,a.put o.dst v=b v:=by intro _;simp only [pX,st,rt,rz];rfl):fA P ops A k w Q pre ((k,o,some (Aout A)) :: l) Fs a:=by
 refine ⟨?_⟩
 unfold eS
 rw [if_pos hw];refine ⟨fun X hX hN hF=>?_,fun v=>hp v ▸ (h v).out⟩;obtain ⟨i,hi',hz0,hsz,hby⟩:=info_parts hi;obtain ⟨g,rfl,hB,hne⟩:=hF _ _ hmem hpre;have hfl:X.2=false:=hN rfl;have hown:=(hX.low hfl).2 ho';obtain ⟨v',w',hr,h2,h3,h4⟩:=run_append_own (P:=P) X.1 A.base t o.type A.e i z A.m bytes ht hi' hz0 hsz hby hz1 hm A.v A.n A.xs hown ⟨g,0,none⟩ 1 1 A.cs (by rw [hcs,Nat.one_mul]) (fun j u hj=>by rw [jI,Nat.zero_add];exact hB.cell hj) h1 h63 hbytes (Nat.le_trans hb hX.grown.size)
 have hrun:(execOp a.eval o).run P X.1=.ok (.value v') w':=by
  unfold execOp
  simp only [ho,resolve,invoke,builtin,Sem.run_bind,Sem.run_pure,Result.andThen_ok,List.map_toArray,List.map_cons,List.map_nil,hs,hx,hr]
 unfold dS
 rw [hrun];exact ⟨true,⟨rfl,h2⟩,⟨h3,(fun h9=>by cases h9),(fun h9=>by rw [hfl] at h9;cases h9)⟩,(fun m hm _ h9=>absurd h9 hm)⟩
theorem xV:∀ S,some S∈([]:List (eC Bool))→∀ v X Y,S v X→Ga A X Y→S v Y:=fun _ h=>by cases h
theorem jC {ss:List (eC Bool)} (h:∀ S,some S∈ss→∀ v X Y,S v X→Ga A X Y→S v Y):∀ S,some S∈none :: ss→∀ v X Y,S v X→Ga A X Y→S v Y:=fun S hS=>by
 rcases List.mem_cons.1 hS with h9|h9
 ·cases h9
 ·exact h S h9
theorem lX {ss:List (eC Bool)} {S0:Value→World×Bool→Prop} (h0:∀ v X Y,S0 v X→Ga A X Y→S0 v Y) (h:∀ S,some S∈ss→∀ v X Y,S v X→Ga A X Y→S v Y):∀ S,some S∈some S0 :: ss→∀ v X Y,S v X→Ga A X Y→S v Y:=fun S hS=>by
 rcases List.mem_cons.1 hS with h9|h9
 ·injection h9 with h9
  exact h9 ▸ h0
 ·exact h S h9
theorem az (ho:w.ownsRow A.base A.e A.m A.v A.n A.xs) (hb:A.base≤w.heap.size) (h:∀ (X:World) (σ:Bool),Aw A w X→(∀ p F,(p,F)∈Fs→F (X,σ))→Q a X):fA P ops A ap w Q pre [] Fs a:=⟨fun X hX hF=>h X.1 X.2 (Ga.aw ho hb hX) hF⟩
end
end Go.Proofs.YtnfpenhldlfafaaGreatDoor

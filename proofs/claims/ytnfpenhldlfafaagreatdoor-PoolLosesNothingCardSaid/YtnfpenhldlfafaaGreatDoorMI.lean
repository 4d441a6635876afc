/- Several ways through a region that meet again behind it: wha -/
import Derived.Test.YtnfpenhldlfafaaGreatDoorMB
set_option linter.unusedSimpArgs false
set_option linter.unusedVariables false
set_option maxRecDepth 100000
set_option maxHeartbeats 1600000
namespace Go.Proofs.YtnfpenhldlfafaaGreatDoor
open Go.RowKit
def mP (t:List Value) (D:List Nat) (f:Nat→Value):List Value:=D.foldl (fun t d=>t.set d (f d)) t
theorem nX (t:List Value) (f:Nat→Value):mP t [] f=t:=rfl
theorem mO (t:List Value) (d:Nat) (D:List Nat) (f:Nat→Value):mP t (d :: D) f=mP (t.set d (f d)) D f:=rfl
section
variable {P:Program} {c:Code} {Q:Exit→Act→World→Prop} {t:List Value} {ds:List Deferred} {w:World}
theorem qQr (D:List Nat) (S:(Nat→Value)→World→Prop) (h1:c.wp P (fun e a X=>e=.normal∧∃ f,a=⟨(mP t D f).toArray,ds⟩∧S f X) ⟨t.toArray,ds⟩ w)
  (h2:∀ f X,S f X→wpList P #[] Q [] ⟨(mP t D f).toArray,ds⟩ X):c.wp P Q ⟨t.toArray,ds⟩ w :=
 Code.wp_mono (fun e a X ⟨he,f,ha,hS⟩=>by subst he ha;exact h2 f X hS) h1
theorem iY {ops:Array Oper} {D:List Nat} {S:(Nat→Value)→World→Prop} {tF:List Value} {X:World} (hS:S (fun i=>tF.getD i undef) X) (hT:tF=mP t D (fun i=>tF.getD i undef):=by kernel_rfl) :
  wpList P ops (fun e a X=>e=.normal∧∃ f,a=⟨(mP t D f).toArray,ds⟩∧S f X) [] ⟨tF.toArray,ds⟩ X:=⟨rfl,_,by rw [← hT],hS⟩
end
open Go
abbrev eC (G:Type):=Option (Value→World×G→Prop)
def eS {G:Type} (P:Program) (ops:Array Oper) (R:World×G→World×G→Prop) (w0:World×G) (Q:Act→World×G→Prop) (pre:Nat→Nat→Bool) (N:Nat→G→Prop) :
  List (Nat×Oper×eC G)→List (Nat×(World×G→Prop))→Act→Prop
 | [],Fs,a=>∀ X,R w0 X→(∀ p F,(p,F)∈Fs→F X)→Q a X
 | (k,o,s) :: l,Fs,a =>
  if Region.wanted o (yielded ops a.tmps)=true then
   match s with
   | none=>∃ v,(∀ X,R w0 X→(∀ p F,(p,F)∈Fs→pre k p=true→F X)→cL P o a (fun _ Z=>R X (Z,X.2)) X.1 v)∧eS P ops R w0 Q pre N l Fs (a.put o.dst v)
   | some S=>(∀ X,R w0 X→N k X.2→(∀ p F,(p,F)∈Fs→pre k p=true→F X)→dS P o a X.1 (fun u Z=>∃ g,S u (Z,g)∧R X (Z,g)∧∀ m,m≠k→N m X.2→N m g)) ∧
     ∀ v,eS P ops R w0 Q pre N l ((k,S v) :: Fs) (a.put o.dst v)
  else eS P ops R w0 Q pre N l Fs (a.put o.dst undef)
section
variable {G:Type} {P:Program} {ops:Array Oper} {R:World×G→World×G→Prop} {w0:World×G} {Q:Act→World×G→Prop} {pre:Nat→Nat→Bool} {N:Nat→G→Prop}
end
section
variable {G:Type} {P:Program} {l:List Oper} {R:World×G→World×G→Prop} {w0:World×G} {Q:Act→World×G→Prop} {N:Nat→G→Prop}
def itg {G:Type}:Nat→List Oper→List (eC G)→List (Nat×Oper×eC G)
 | _,[],_=>[]
 | k,o :: l,[]=>(k,o,none) :: itg (k+1) l []
 | k,o :: l,s :: ss=>(k,o,s) :: itg (k+1) l ss
theorem jD {G:Type}:∀ (k:Nat) (l:List Oper) (ss:List (eC G)),(itg k l ss).Pairwise (fun x y=>x.1<y.1)∧(∀ it∈itg k l ss,k≤it.1∧l[it.1-k]?=some it.2.1∧(it.2.2=none∨it.2.2∈ss))∧(itg k l ss).length=l.length∧∀ j o,l[j]?=some o→∃ s,(k+j,o,s)∈itg k l ss
 | k,[],ss=>by unfold itg;exact ⟨List.Pairwise.nil,fun it h=>(by cases h),rfl,fun j o h=>by cases h⟩
 | k,o :: l,[]=>by
  obtain ⟨h1,h2,h3,h4⟩:=jD (k+1) l []
  unfold itg
  refine ⟨List.pairwise_cons.2 ⟨fun it hit=>?_,h1⟩,fun it hit=>?_,by simp [h3],fun j o' hj=>?_⟩
  ·have:=(h2 it hit).1
   show k<it.1
   omega
  ·rcases List.mem_cons.1 hit with rfl|hit
   ·exact ⟨Nat.le_refl _,by simp,.inl rfl⟩
   ·obtain ⟨a1,a2,a3⟩:=h2 it hit
    refine ⟨by omega,?_,a3⟩;rw [show it.1-k=(it.1-(k+1))+1 by omega,List.getElem?_cons_succ];exact a2
  ·cases j with
   | zero =>
    simp only [List.getElem?_cons_zero,Option.some.injEq] at hj;subst hj;exact ⟨none,List.mem_cons_self⟩
   | succ j =>
    obtain ⟨s,hs⟩:=h4 j o' (by simpa using hj);exact ⟨s,List.mem_cons_of_mem _ (by rw [show k+(j+1)=k+1+j by omega];exact hs)⟩
 | k,o :: l,s :: ss=>by
  obtain ⟨h1,h2,h3,h4⟩:=jD (k+1) l ss
  unfold itg
  refine ⟨List.pairwise_cons.2 ⟨fun it hit=>?_,h1⟩,fun it hit=>?_,by simp [h3],fun j o' hj=>?_⟩
  ·have:=(h2 it hit).1
   show k<it.1
   omega
  ·rcases List.mem_cons.1 hit with rfl|hit
   ·exact ⟨Nat.le_refl _,by simp,.inr List.mem_cons_self⟩
   ·obtain ⟨a1,a2,a3⟩:=h2 it hit
    refine ⟨by omega,?_,a3.imp id (List.mem_cons_of_mem _)⟩;rw [show it.1-k=(it.1-(k+1))+1 by omega,List.getElem?_cons_succ];exact a2
  ·cases j with
   | zero =>
    simp only [List.getElem?_cons_zero,Option.some.injEq] at hj;subst hj;exact ⟨s,List.mem_cons_self⟩
   | succ j =>
    obtain ⟨s',hs⟩:=h4 j o' (by simpa using hj);exact ⟨s',List.mem_cons_of_mem _ (by rw [show k+(j+1)=k+1+j by omega];exact hs)⟩
theorem eG {ops:Array Oper} {pre:Nat→Nat→Bool} (htr:∀ X Y,R w0 X→R X Y→R w0 Y) {Q':Exit→Act→World→Prop} {tail:List Oper} :
  ∀ (items:List (Nat×Oper×eC G)) (Fs:List (Nat×(World×G→Prop))) (a:Act) (X:World×G),(∀ it∈items,∀ S,it.2.2=some S→∀ v X Y,S v X→R X Y→S v Y) →
   (∀ p F,(p,F)∈Fs→F X∧∀ X Y,F X→R X Y→F Y)→R w0 X→(∀ it∈items,N it.1 X.2)→items.Pairwise (fun x y=>x.1<y.1)→eS P ops R w0 (fun a X=>wpList P ops Q' tail a X.1) pre N items Fs a→wpList P ops Q' (items.map (·.2.1)++tail) a X.1
 | [],Fs,a,X,_,hF,hX,_,_,h=>h X hX fun p F hp=>(hF p F hp).1
 | (k,o,s) :: items,Fs,a,X,hst,hF,hX,hN,hpw,h=>by
  have hst':∀ it∈items,∀ S,it.2.2=some S→∀ v X Y,S v X→R X Y→S v Y:=fun it hit=>hst it (List.mem_cons_of_mem _ hit)
  have hN':∀ it∈items,N it.1 X.2:=fun it hit=>hN it (List.mem_cons_of_mem _ hit)
  have hpw':=(List.pairwise_cons.1 hpw).2
  have hne':∀ it∈items,it.1≠k:=fun it hit=>by
   have:=(List.pairwise_cons.1 hpw).1 it hit;simp only at this
   omega
  have keep:∀ X',R X X'→∀ p F,(p,F)∈Fs→F X'∧∀ X Y,F X→R X Y→F Y:=fun X' hXX p F hm=>⟨(hF p F hm).2 X X' (hF p F hm).1 hXX,(hF p F hm).2⟩
  rw [List.map_cons,List.cons_append]
  unfold eS at h
  unfold wpList
  split
  ·rename_i hw
   rw [if_pos hw] at h;refine .inl ?_
   cases s with
   | none =>
    obtain ⟨v,hq,hc⟩:=h
    have hq:=hq X hX fun p F hm _=>(hF p F hm).1
    unfold cL at hq
    unfold Oper.wp
    simp only
    generalize (execOp a.eval o).run P X.1=r at hq ⊢
    cases r with
    | ok n w' =>
     cases n <;> simp only [Oper.upon] at hq ⊢
     case value u=>obtain ⟨rfl,rfl⟩:=hq;exact eG htr items Fs _ X hst' hF hX hN' hpw' hc
     case skip=>obtain ⟨rfl,rfl⟩:=hq;exact eG htr items Fs _ X hst' hF hX hN' hpw' hc
     case enter f args =>
      obtain ⟨rfl,_,hcall⟩:=hq
      exact hcall.mono fun e w'' ⟨he,hR⟩=>by subst he;exact eG htr items Fs _ (w'',X.2) hst' (keep _ hR) (htr _ _ hX hR) hN' hpw' hc
    | halt x w'=>exact hq.elim
   | some S =>
    obtain ⟨hq,hc⟩:=h
    have hq:=hq X hX (hN _ List.mem_cons_self) fun p F hm _=>(hF p F hm).1
    have hS:=hst _ List.mem_cons_self S rfl
    have fin:∀ v Z,(∃ g,S v (Z,g)∧R X (Z,g)∧∀ m,m≠k→N m X.2→N m g)→wpList P ops Q' (items.map (·.2.1)++tail) (a.put o.dst v) Z:=fun v Z ⟨g,h1,h2,h3⟩ =>
     eG htr items ((k,S v) :: Fs) _ (Z,g) hst' (fun p F hm=>by
      rcases List.mem_cons.1 hm with heq|hm
      ·injection heq with e1 e2
       subst e2;exact ⟨h1,fun X Y=>hS v X Y⟩
      ·exact keep _ h2 p F hm) (htr _ _ hX h2) (fun it hit=>h3 it.1 (hne' it hit) (hN' it hit)) hpw' (hc v)
    unfold dS at hq
    unfold Oper.wp
    simp only
    generalize (execOp a.eval o).run P X.1=r at hq ⊢
    cases r with
    | ok n w' =>
     cases n <;> simp only [Oper.upon] at hq ⊢
     case value u=>exact fin _ _ hq
     case skip=>exact fin _ _ hq
     case enter f args =>
      exact hq.mono fun e w'' ⟨v,he,h2⟩=>by subst he;exact fin _ _ h2
    | halt x w'=>exact hq.elim
  ·rename_i hw
   rw [if_neg hw] at h;exact eG htr items Fs _ X hst' hF hX hN' hpw' h
theorem lZ:∀ (k:Nat) (l:List Oper) (ss:List (eC G)),(itg k l ss).map (·.2.1)=l
 | _,[],_=>by unfold itg;rfl
 | k,o :: l,[]=>by unfold itg;rw [List.map_cons,lZ (k+1) l []]
 | k,o :: l,s :: ss=>by unfold itg;rw [List.map_cons,lZ (k+1) l ss]
theorem rM {id:Nat} {Q':Exit→Act→World→Prop} {a:Act} {w:World} {g0:G} {pre:Nat→Nat→Bool} (ss:List (eC G)) (h0:R w0 (w,g0)) (hN:∀ k,N k g0) (htr:∀ X Y,R w0 X→R X Y→R w0 Y)
  (hst:∀ S,some S∈ss→∀ v X Y,S v X→R X Y→S v Y) (h:eS P l.toArray R w0 (fun a X=>wpList P l.toArray Q' [] a X.1) pre N (itg 0 l ss) [] a):(Code.region id l.toArray false).wp P Q' a w:=by
 refine wp_region_lit ?_
 have hq:=eG (N:=N) (tail:=[]) htr (itg 0 l ss) [] a (w,g0) (fun it hit S hS=>by
  rcases ((jD 0 l ss).2.1 it hit).2.2 with h'|h'
  ·rw [hS] at h'
   cases h'
  ·rw [hS] at h'
   exact hst S h') (fun p F hp=>by cases hp) h0 (fun it _=>hN it.1) (jD 0 l ss).1 h
 rw [lZ,List.append_nil] at hq;exact hq
end
structure Vr where
 T:TypeId
 z:List Value
 v:List Value
abbrev Gh:=Nat→Option Nat
def Gok (V:Nat→Vr) (B:Nat) (X:World×Gh):Prop:=(∀ g i,X.2 g=some i→B≤g∧g<X.1.heap.size∧(Blk X.1 g (V i).T (V i).z∨Blk X.1 g (V i).T (V i).v))∧∀ g g' i,X.2 g=some i→X.2 g'=some i→g=g'
def Gr (V:Nat→Vr) (B:Nat) (X Y:World×Gh):Prop :=
 Gok V B X∧Gok V B Y∧Below B X.1 Y.1∧(∀ g i,X.2 g=some i→Y.2 g=some i)∧∀ g i,X.2 g=some i→Blk X.1 g (V i).T (V i).v→Blk Y.1 g (V i).T (V i).v
section
variable {V:Nat→Vr} {B:Nat}
theorem Gr.trans {X Y Z:World×Gh} (h:Gr V B X Y) (h':Gr V B Y Z):Gr V B X Z :=
 ⟨h.1,h'.2.1,h.2.2.1.trans h'.2.2.1,fun g i hi=>h'.2.2.2.1 g i (h.2.2.2.1 g i hi),fun g i hi hb=>h'.2.2.2.2 g i (h.2.2.2.1 g i hi) (h.2.2.2.2 g i hi hb)⟩
theorem Gok.since {X:World×Gh} (h:Gok V B X) {Y:World} (hS:Since X.1 Y):Gok V B (Y,X.2):=⟨fun g i hi=>by
 obtain ⟨h1,h2,h3⟩:=h.1 g i hi
 exact ⟨h1,Nat.lt_of_lt_of_le h2 hS.size,h3.imp (fun hb=>hb.below hS hb.lt) (fun hb=>hb.below hS hb.lt)⟩,h.2⟩
theorem Gr.since {X:World×Gh} (h:Gok V B X) (hB:B≤X.1.heap.size) {Y:World} (hS:Since X.1 Y):Gr V B X (Y,X.2) :=
 ⟨h,h.since hS,hS.mono hB,fun _ _ hi=>hi,fun _ _ _ hb=>hb.below hS hb.lt⟩
def Gat (V:Nat→Vr) (B i:Nat) (v:Value) (X:World×Gh):Prop:=Gok V B X∧∃ g,v=vP g 0∧X.2 g=some i
def Gst (V:Nat→Vr) (i:Nat) (_:Value) (X:World×Gh):Prop:=∃ g,X.2 g=some i∧Blk X.1 g (V i).T (V i).v
theorem Gst.at {i:Nat} {v u:Value} {X:World} {σ:Gh} (h:Gat V B i v (X,σ)) (h':Gst V i u (X,σ)):∃ g,v=vP g 0∧B≤g∧Blk X g (V i).T (V i).v∧σ g=some i:=by
 obtain ⟨hk,g,h1,h2⟩:=h;obtain ⟨g',h4,h5⟩:=h';obtain rfl:=hk.2 g g' i h2 h4;exact ⟨g,h1,(hk.1 g i h2).1,h5,h2⟩
end
structure uO (P:Program) (ops:Array Oper) (V:Nat→Vr) (w:World) (Q:Act→World→Prop) (pre:Nat→Nat→Bool) (l:List (Nat×Oper×eC Gh)) (Fs:List (Nat×(World×Gh→Prop))) (a:Act):Prop where
 out:eS P ops (Gr V w.heap.size) (w,fun _=>none) (fun a X=>Q a X.1) pre (fun k σ=>∀ g,σ g≠some k) l Fs a
section
variable {P:Program} {ops:Array Oper} {V:Nat→Vr} {w:World} {Q:Act→World→Prop} {pre:Nat→Nat→Bool} {a a':Act} {k:Nat} {o:Oper} {l:List (Nat×Oper×eC Gh)} {Fs:List (Nat×(World×Gh→Prop))}
theorem Gr.ww {X:World×Gh} (h:Gr V w.heap.size (w,fun _=>none) X):Since w X.1:=h.2.2.1
theorem kg (v:Value) (hq:∀ X:World,Since w X→True→(execOp a.eval o).run P X=.ok (.value v) X) (h:uO P ops V w Q pre l Fs a') (hw:Region.wanted o (yielded ops a.tmps)=true:=by rfl)
  (hp:a.put o.dst v=a':=by simp only [pX,st,rt,rz];rfl):uO P ops V w Q pre ((k,o,none) :: l) Fs a:=by
 refine ⟨?_⟩
 unfold eS
 rw [if_pos hw];refine ⟨v,fun X hX _=>?_,hp ▸ h.out⟩
 unfold cL
 rw [hq X.1 hX.ww trivial];exact ⟨rfl,rfl⟩
theorem kv (v:Value) (hq:∀ X:World,(execOp a.eval o).run P X=.ok (.value v) X) (h:uO P ops V w Q pre l Fs a') (hw:Region.wanted o (yielded ops a.tmps)=true:=by rfl)
  (hp:a.put o.dst v=a':=by simp only [pX,st,rt,rz];rfl):uO P ops V w Q pre ((k,o,none) :: l) Fs a:=kg v (fun X _ _=>hq X) h hw hp
end
end Go.Proofs.YtnfpenhldlfafaaGreatDoor

/- Several ways through a region that meet again behind it: wha -/
import Derived.Test.YtnfpenhldlfafaaGreatDoorMB
set_option linter.unusedSimpArgs false
set_option linter.unusedVariables false
set_option maxRecDepth 100000
set_option maxHeartbeats 1600000
namespace Go.Proofs.YtnfpenhldlfafaaGreatDoor
open Go.RowKit
def oZ (t:List Value) (D:List Nat) (f:Nat→Value):List Value:=D.foldl (fun t d=>t.set d (f d)) t
theorem mT (t:List Value) (f:Nat→Value):oZ t [] f=t:=rfl
theorem lK (t:List Value) (d:Nat) (D:List Nat) (f:Nat→Value):oZ t (d :: D) f=oZ (t.set d (f d)) D f:=rfl
section
variable {P:Program} {c:Code} {Q:Exit→Act→World→Prop} {t:List Value} {ds:List Deferred} {w:World}
theorem zY (D:List Nat) (S:(Nat→Value)→World→Prop) (h1:c.wp P (fun e a X=>e=.normal∧∃ f,a=⟨(oZ t D f).toArray,ds⟩∧S f X) ⟨t.toArray,ds⟩ w)
  (h2:∀ f X,S f X→wpList P #[] Q [] ⟨(oZ t D f).toArray,ds⟩ X):c.wp P Q ⟨t.toArray,ds⟩ w :=
 Code.wp_mono (fun e a X ⟨he,f,ha,hS⟩=>by subst he ha;exact h2 f X hS) h1
theorem fH {ops:Array Oper} {D:List Nat} {S:(Nat→Value)→World→Prop} {tF:List Value} {X:World} (hS:S (fun i=>tF.getD i undef) X) (hT:tF=oZ t D (fun i=>tF.getD i undef):=by kernel_rfl) :
  wpList P ops (fun e a X=>e=.normal∧∃ f,a=⟨(oZ t D f).toArray,ds⟩∧S f X) [] ⟨tF.toArray,ds⟩ X:=⟨rfl,_,by rw [← hT],hS⟩
end
open Go
abbrev dT (G:Type):=Option (Value→World×G→Prop)
def CertG {G:Type} (P:Program) (ops:Array Oper) (R:World×G→World×G→Prop) (w0:World×G) (Q:Act→World×G→Prop) (pre:Nat→Nat→Bool) (N:Nat→G→Prop) :
  List (Nat×Oper×dT G)→List (Nat×(World×G→Prop))→Act→Prop
 | [],Fs,a=>∀ X,R w0 X→(∀ p F,(p,F)∈Fs→F X)→Q a X
 | (k,o,s) :: l,Fs,a =>
  if Region.wanted o (yielded ops a.tmps)=true then
   match s with
   | none=>∃ v,(∀ X,R w0 X→(∀ p F,(p,F)∈Fs→pre k p=true→F X)→dE P o a (fun _ Z=>R X (Z,X.2)) X.1 v)∧CertG P ops R w0 Q pre N l Fs (a.put o.dst v)
   | some S=>(∀ X,R w0 X→N k X.2→(∀ p F,(p,F)∈Fs→pre k p=true→F X)→eP P o a X.1 (fun u Z=>∃ g,S u (Z,g)∧R X (Z,g)∧∀ m,m≠k→N m X.2→N m g)) ∧
     ∀ v,CertG P ops R w0 Q pre N l ((k,S v) :: Fs) (a.put o.dst v)
  else CertG P ops R w0 Q pre N l Fs (a.put o.dst undef)
section
variable {G:Type} {P:Program} {ops:Array Oper} {R:World×G→World×G→Prop} {w0:World×G} {Q:Act→World×G→Prop} {pre:Nat→Nat→Bool} {N:Nat→G→Prop}
theorem CertG.more:∀ (l:List (Nat×Oper×dT G)) (Fs Gs:List (Nat×(World×G→Prop))) (a:Act),(∀ x,x∈Fs→x∈Gs)→CertG P ops R w0 Q pre N l Fs a→CertG P ops R w0 Q pre N l Gs a
 | [],Fs,Gs,a,hs,h=>fun X hX hG=>h X hX fun p F hp=>hG p F (hs _ hp)
 | (k,o,s) :: l,Fs,Gs,a,hs,h=>by
  unfold CertG at h ⊢
  split
  ·rename_i hw
   rw [if_pos hw] at h
   cases s with
   | none =>
    obtain ⟨v,h1,h2⟩:=h;exact ⟨v,fun X hX hG=>h1 X hX fun p F hp=>hG p F (hs _ hp),CertG.more l _ _ _ hs h2⟩
   | some S =>
    obtain ⟨h1,h2⟩:=h;refine ⟨fun X hX hN hG=>h1 X hX hN fun p F hp=>hG p F (hs _ hp),fun v=>CertG.more l _ _ _ ?_ (h2 v)⟩;intro x hx
    rcases List.mem_cons.1 hx with rfl|hx
    ·exact zE
    ·exact zF (hs _ hx)
  ·rename_i hw
   rw [if_neg hw] at h;exact CertG.more l _ _ _ hs h
def jS {G:Type} (P:Program) (ops:Array Oper) (R:World×G→World×G→Prop) (w0:World×G) (Q:Act→World×G→Prop) (pre:Nat→Nat→Bool) (N:Nat→G→Prop) (X:World×G) (j:Nat) (oj:Oper) (sj:dT G)
  (l:List (Nat×Oper×dT G)) (Fs:List (Nat×(World×G→Prop))) (a:Act):Prop :=
 if Region.wanted oj (yielded ops a.tmps)=true then
  match sj with
  | none=>∃ v,dE P oj a (fun _ Z=>R X (Z,X.2)) X.1 v∧CertG P ops R w0 Q pre N l Fs (a.put oj.dst v)
  | some S=>eP P oj a X.1 (fun u Z=>∃ g,S u (Z,g)∧R X (Z,g)∧∀ m,m≠j→N m X.2→N m g)∧∀ v,CertG P ops R w0 Q pre N l ((j,S v) :: Fs) (a.put oj.dst v)
 else CertG P ops R w0 Q pre N l Fs (a.put oj.dst undef)
theorem CertG.pull {X:World×G} {j:Nat} {oj:Oper} {sj:dT G} (hsj:∀ cs b,oj.op≠.select cs b) (hX:R w0 X) (hN:N j X.2) (l2:List (Nat×Oper×dT G)) :
  ∀ (l1:List (Nat×Oper×dT G)) (Fs:List (Nat×(World×G→Prop))) (a:Act),
   (∀ it∈l1,it.2.1.apart ops oj=true∧pre j it.1=false∧∀ cs b,it.2.1.op≠.select cs b) →
   (∀ p F,(p,F)∈Fs→pre j p=true→F X) →
   CertG P ops R w0 Q pre N (l1++(j,oj,sj) :: l2) Fs a→jS P ops R w0 Q pre N X j oj sj (l1++l2) Fs a
 | [],Fs,a,_,hF,h=>by
  unfold jS
  simp only [List.nil_append] at h ⊢
  unfold CertG at h
  split
  ·rename_i hw
   rw [if_pos hw] at h
   cases sj with
   | none=>obtain ⟨v,h1,h2⟩:=h;exact ⟨v,h1 X hX hF,h2⟩
   | some S=>obtain ⟨h1,h2⟩:=h;exact ⟨h1 X hX hN hF,h2⟩
  ·rename_i hw
   rw [if_neg hw] at h;exact h
 | (i,oi,si) :: l1,Fs,a,hl,hF,h=>by
  obtain ⟨hap,hpre,hsi⟩:=hl _ zE;obtain ⟨h1,h2,h3⟩:=Oper.apart_spec hap;simp only at h1 h2 h3 hpre hsi
  have hl':=fun it hit=>hl it (zF hit)
  have comm:∀ u v,(a.put oi.dst u).put oj.dst v=(a.put oj.dst v).put oi.dst u:=fun u v=>Act.put_comm a u v h2
  have wj:∀ u,Region.wanted oj (yielded ops (a.put oi.dst u).tmps)=Region.wanted oj (yielded ops a.tmps):=fun u=>wanted_put oj a oi.dst u h1
  have wi:∀ v,Region.wanted oi (yielded ops (a.put oj.dst v).tmps)=Region.wanted oi (yielded ops a.tmps):=fun v=>wanted_put oi a oj.dst v h3
  rw [List.cons_append] at h
  unfold CertG at h
  by_cases hwi:Region.wanted oi (yielded ops a.tmps)=true
  ·rw [if_pos hwi] at h
   cases si with
   | none =>
    obtain ⟨vi,ho,hc⟩:=h;have hp:=CertG.pull hsj hX hN l2 l1 Fs _ hl' hF hc
    unfold jS at hp ⊢
    rw [wj] at hp
    split
    ·rename_i hwj
     rw [if_pos hwj] at hp
     cases sj with
     | none =>
      obtain ⟨v,hq,hk⟩:=hp;refine ⟨v,by rwa [dH hsj h1] at hq,?_⟩;rw [comm] at hk;rw [List.cons_append]
      unfold CertG
      rw [wi,if_pos hwi];exact ⟨vi,fun Y hY hG=>by rw [dH hsi h3];exact ho Y hY hG,hk⟩
     | some S =>
      obtain ⟨hq,hk⟩:=hp;refine ⟨by rwa [eA hsj h1] at hq,fun v=>?_⟩;have hk:=hk v;rw [comm] at hk;rw [List.cons_append]
      unfold CertG
      rw [wi,if_pos hwi];exact ⟨vi,fun Y hY hG=>by rw [dH hsi h3];exact ho Y hY fun p F hp=>hG p F (zF hp),hk⟩
    ·rename_i hwj
     rw [if_neg hwj,comm] at hp;rw [List.cons_append]
     unfold CertG
     rw [wi,if_pos hwi];exact ⟨vi,fun Y hY hG=>by rw [dH hsi h3];exact ho Y hY hG,hp⟩
   | some Si =>
    obtain ⟨ho,hc⟩:=h
    have hp:∀ vi,jS P ops R w0 Q pre N X j oj sj (l1++l2) ((i,Si vi) :: Fs) (a.put oi.dst vi):=fun vi=>CertG.pull hsj hX hN l2 l1 _ _ hl' (by
     intro p F hm hpj
     rcases List.mem_cons.1 hm with heq|hm
     ·injection heq with e1 _
      rw [e1,hpre] at hpj
      cases hpj
     ·exact hF p F hm hpj) (hc vi)
    unfold jS at hp ⊢
    simp only [wj] at hp
    split
    ·rename_i hwj
     simp only [if_pos hwj] at hp
     cases sj with
     | none =>
      simp only [dH hsj h1] at hp;obtain ⟨v,hq,_⟩:=hp undef;refine ⟨v,hq,?_⟩;rw [List.cons_append]
      unfold CertG
      rw [wi,if_pos hwi];refine ⟨fun Y hY hNY hG=>by rw [eA hsi h3];exact ho Y hY hNY hG,fun vi=>?_⟩;obtain ⟨v',hq',hk⟩:=hp vi;obtain rfl:=oY hq hq';rw [comm] at hk;exact hk
     | some S =>
      simp only [eA hsj h1] at hp;refine ⟨(hp undef).1,fun v=>?_⟩;rw [List.cons_append]
      unfold CertG
      rw [wi,if_pos hwi];refine ⟨fun Y hY hNY hG=>by rw [eA hsi h3];exact ho Y hY hNY fun p F hp=>hG p F (zF hp),fun vi=>?_⟩;have hk:=(hp vi).2 v;rw [comm] at hk;refine CertG.more _ _ _ _ ?_ hk;intro x hx;simp only [List.mem_cons] at hx ⊢
      rcases hx with h|h|h
      ·exact .inr (.inl h)
      ·exact .inl h
      ·exact .inr (.inr h)
    ·rename_i hwj
     simp only [if_neg hwj] at hp;rw [List.cons_append]
     unfold CertG
     rw [wi,if_pos hwi];refine ⟨fun Y hY hNY hG=>by rw [eA hsi h3];exact ho Y hY hNY hG,fun vi=>?_⟩;have hk:=hp vi;rw [comm] at hk;exact hk
  ·rw [if_neg hwi] at h
   have hp:=CertG.pull hsj hX hN l2 l1 Fs _ hl' hF h
   unfold jS at hp ⊢
   rw [wj] at hp
   split
   ·rename_i hwj
    rw [if_pos hwj] at hp
    cases sj with
    | none =>
     obtain ⟨v,hq,hk⟩:=hp;refine ⟨v,by rwa [dH hsj h1] at hq,?_⟩;rw [comm] at hk;rw [List.cons_append]
     unfold CertG
     rw [wi,if_neg hwi];exact hk
    | some S =>
     obtain ⟨hq,hk⟩:=hp;refine ⟨by rwa [eA hsj h1] at hq,fun v=>?_⟩;have hk:=hk v;rw [comm] at hk;rw [List.cons_append]
     unfold CertG
     rw [wi,if_neg hwi];exact hk
   ·rename_i hwj
    rw [if_neg hwj,comm] at hp;rw [List.cons_append]
    unfold CertG
    rw [wi,if_neg hwi];exact hp
end
section
variable {G:Type} {P:Program} {l:List Oper} {R:World×G→World×G→Prop} {w0:World×G} {Q:Act→World×G→Prop} {N:Nat→G→Prop}
def vVi {G:Type} (T:Nat) (l:List Oper) (listed:Array Bool) (items:List (Nat×Oper×dT G)):Prop :=
 items.Pairwise (fun x y=>x.1<y.1)∧(∀ it∈items,l[it.1]?=some it.2.1∧listed.getD it.1 true=false∧it.1<l.length-T) ∧
  (∀ k o,k<l.length-T→l[k]?=some o→listed.getD k true=false→∃ s,(k,o,s)∈items)∧∀ k,l.length-T≤k→k<l.length→listed.getD k true=false
theorem qW {T:Nat} (hB:lxB l=true) (htr:∀ X Y,R w0 X→R X Y→R w0 Y) {Q':Exit→Act→World→Prop}
  (htail:∀ t,l.length-T≤t→t<l.length→∀ p,p<l.length-T→inB (clo l) t p=true)
  (hQ:∀ listed a (w:World×G),listed.size=l.length→(∀ k,k<l.length-T→listed.getD k true=true)→(∀ k,l.length-T≤k→k<l.length→listed.getD k true=false)→Q a w→wpAny P .any l.toArray Q' T listed a w.1) :
  ∀ (fuel:Nat) (listed:Array Bool) (items:List (Nat×Oper×dT G)) (Fs:List (Nat×(World×G→Prop))) (a:Act) (X:World×G),items.length=fuel→vVi T l listed items→listed.size=l.length →
   (∀ k o,l[k]?=some o→listed.getD k true=true→∀ e∈o.after,Region.binds .any e=true→listed.getD e.on true=true) →
   (∀ it∈items,∀ S,it.2.2=some S→∀ v X Y,S v X→R X Y→S v Y)→(∀ p F,(p,F)∈Fs→F X∧∀ X Y,F X→R X Y→F Y)→R w0 X→(∀ it∈items,N it.1 X.2) →
   CertG P l.toArray R w0 Q (inB (clo l)) N items Fs a→wpAny P .any l.toArray Q' (fuel+T) listed a X.1
 | 0,listed,items,Fs,a,X,hlen,hleft,hsz,hcl,hst,hF,hX,hN,h=>by
  have:items=[]:=List.eq_nil_of_length_eq_zero hlen;subst this;rw [Nat.zero_add];refine hQ listed _ _ hsz (fun k hk=>?_) hleft.2.2.2 (h X hX fun p F hp=>(hF p F hp).1)
  cases hq:listed.getD k true with
  | true=>rfl
  | false =>
   obtain ⟨s,hs⟩:=hleft.2.2.1 k (l[k]'(by omega)) hk (List.getElem?_eq_getElem (by omega)) hq
   cases hs
 | fuel+1,listed,items,Fs,a,X,hlen,hleft,hsz,hcl,hst,hF,hX,hN,h=>by
  obtain ⟨hns,hspec⟩:=gH hB;rw [show fuel+1+T=(fuel+T)+1 by omega]
  have getD_ft:∀ k,k<l.length→listed.getD k true=listed.getD k false:=fun k hk=>by
   simp only [Array.getD_eq_getD_getElem?,Array.getElem?_eq_getElem (hsz ▸ hk),Option.getD_some]
  refine ⟨fun hnil=>?_,fun j hj=>?_⟩
  ·exfalso
   obtain ⟨⟨k,o,s⟩,rest,rfl⟩:∃ x r,items=x :: r:=by
    cases items with
    | nil=>cases hlen
    | cons x r=>exact ⟨x,r,rfl⟩
   obtain ⟨hk,hun,hkT⟩:=hleft.2.1 _ zE
   have hr:k∈Region.ready .any l.toArray listed:=mem_ready.2 ⟨hun,o,by simpa using hk,fun e he hb=>by
    have hlt:=(hspec k o hk).1 e he hb;have hkl:k<l.length:=(List.getElem?_eq_some_iff.1 hk).1;rw [← getD_ft _ (by omega)]
    cases hq:listed.getD e.on true with
    | true=>rfl
    | false =>
     obtain ⟨s',hs'⟩:=hleft.2.2.1 e.on (l[e.on]'(by omega)) (by simp only at hkT;omega) (List.getElem?_eq_getElem (by omega)) hq
     rcases List.mem_cons.1 hs' with heq|hm
     ·injection heq with e1 _
      omega
     ·have:=(List.pairwise_cons.1 hleft.1).1 _ hm
      simp only at this
      omega⟩
   rw [hnil] at hr
   cases hr
  ·obtain ⟨h0,o,ho,hall⟩:=mem_ready.1 hj
   have ho':l[j]?=some o:=by simpa using ho
   have hjl:j<l.length:=(List.getElem?_eq_some_iff.1 ho').1
   -- what comes before j in every order is listed
   have closed:∀ n k p,k≤n→k<l.length→(listed.getD k true=true∨k=j)→inB (clo l) k p=true→listed.getD p true=true:=by
    intro n
    induction n with
    | zero =>
     intro k p hk hkl hor hin;obtain ⟨hlt,_⟩:=(hspec k (l[k]'hkl) (List.getElem?_eq_getElem hkl)).2.1 p hin
     omega
    | succ n ih =>
     intro k p hk hkl hor hin;obtain ⟨hlt,e,he,hb,hor2⟩:=(hspec k (l[k]'hkl) (List.getElem?_eq_getElem hkl)).2.1 p hin;have hek:=(hspec k (l[k]'hkl) (List.getElem?_eq_getElem hkl)).1 e he hb
     have hel:listed.getD e.on true=true:=by
      rcases hor with hor|rfl
      ·exact hcl k _ (List.getElem?_eq_getElem hkl) hor e he hb
      ·have:o=l[k]'hkl:=by
        have:=List.getElem?_eq_getElem hkl;rw [ho'] at this
        injection this
       rw [getD_ft _ (by omega)];exact hall e (this ▸ he) hb
     rcases hor2 with rfl|hin2
     ·exact hel
     ·exact ih e.on p (by omega) (by omega) (.inl hel) hin2
   have hjT:j<l.length-T:=by
    rcases Nat.lt_or_ge j (l.length-T) with h'|h'
    ·exact h'
    ·exfalso
     obtain ⟨⟨k,ok,s⟩,rest,rfl⟩:∃ x r,items=x :: r:=by
      cases items with
      | nil=>cases hlen
      | cons x r=>exact ⟨x,r,rfl⟩
     obtain ⟨_,hun,hkT⟩:=hleft.2.1 _ zE;have:=closed j j k (Nat.le_refl _) hjl (.inr rfl) (htail j h' hjl k hkT);simp only at hun;rw [hun] at this
     cases this
   obtain ⟨s,hs⟩:=hleft.2.2.1 j o hjT ho' h0;obtain ⟨l1,l2,rfl⟩:=List.append_of_mem hs;have hpw:=List.pairwise_append.1 hleft.1
   have hl1:∀ it∈l1,it.2.1.apart l.toArray o=true∧inB (clo l) j it.1=false∧∀ cs b,it.2.1.op≠.select cs b:=fun it hit=>by
    obtain ⟨hit1,hit2,_⟩:=hleft.2.1 it (List.mem_append_left _ hit);have hlt:it.1<j:=hpw.2.2 it hit _ zE
    have hno:inB (clo l) j it.1=false:=by
     cases hq:inB (clo l) j it.1 with
     | false=>rfl
     | true =>
      have:=closed j j it.1 (Nat.le_refl _) hjl (.inr rfl) hq;rw [hit2] at this
      cases this
    refine ⟨?_,hno,fun cs b=>Region.noSelect_spec hns it.1 it.2.1 cs b (by simpa using hit1)⟩
    rcases (hspec j o ho').2.2 it.1 it.2.1 hlt hit1 with h'|h'
    ·rw [hno] at h'
     cases h'
    ·exact h'
   have hp:=CertG.pull (X:=X) (fun cs b=>Region.noSelect_spec hns j o cs b ho) hX (hN _ (List.mem_append_right _ zE)) l2 l1 Fs a hl1 (fun p F hm _=>(hF p F hm).1) h
   -- what is left behind j
   have hleft':vVi T l (listed.setIfInBounds j true) (l1++l2):=by
    refine ⟨hleft.1.sublist (by simp),fun it hit=>?_,fun k ok hkT hk hun=>?_,fun k hk1 hk2=>by rw [getD_set_ne true (by omega)];exact hleft.2.2.2 k hk1 hk2⟩
    ·obtain ⟨h1,h2,h2T⟩:=hleft.2.1 it (by
      rcases List.mem_append.1 hit with h|h
      ·exact List.mem_append_left _ h
      ·exact List.mem_append_right _ (zF h))
     have hne:j≠it.1:=by
      rcases List.mem_append.1 hit with h|h
      ·have:=hpw.2.2 it h _ zE
       simp only at this
       omega
      ·have:=(List.pairwise_cons.1 hpw.2.1).1 it h
       simp only at this
       omega
     exact ⟨h1,by rw [getD_set_ne true hne];exact h2,h2T⟩
    ·by_cases hjk:j=k
     ·subst hjk
      have:(listed.setIfInBounds j true).getD j true=true:=by simp [hsz,hjl]
      rw [this] at hun
      cases hun
     ·rw [getD_set_ne true hjk] at hun
      obtain ⟨s',hs'⟩:=hleft.2.2.1 k ok hkT hk hun;refine ⟨s',?_⟩
      rcases List.mem_append.1 hs' with h|h
      ·exact List.mem_append_left _ h
      ·rcases List.mem_cons.1 h with heq|h
       ·injection heq with e1 _
        exact absurd e1.symm hjk
       ·exact List.mem_append_right _ h
   have hlen':(l1++l2).length=fuel:=by simp at hlen ⊢;omega
   have hcl':∀ k o,l[k]?=some o→(listed.setIfInBounds j true).getD k true=true→∀ e∈o.after,Region.binds .any e=true→(listed.setIfInBounds j true).getD e.on true=true:=by
    intro k ok hk hlk e he hb;have hkl:k<l.length:=(List.getElem?_eq_some_iff.1 hk).1;have hek:=(hspec k ok hk).1 e he hb
    have:listed.getD e.on true=true:=by
     by_cases hjk:j=k
     ·subst hjk
      rw [hk] at ho'
      injection ho' with e1
      rw [getD_ft _ (by omega)];exact hall e (e1 ▸ he) hb
     ·rw [getD_set_ne true hjk] at hlk
      exact hcl k ok hk hlk e he hb
    by_cases hje:j=e.on
    ·subst hje
     simp [hsz,hjl]
    ·rw [getD_set_ne true hje]
     exact this
   have hst':∀ it∈l1++l2,∀ S,it.2.2=some S→∀ v X Y,S v X→R X Y→S v Y:=fun it hit=>hst it (by
    rcases List.mem_append.1 hit with h|h
    ·exact List.mem_append_left _ h
    ·exact List.mem_append_right _ (zF h))
   have hsz':(listed.setIfInBounds j true).size=l.length:=by simpa using hsz
   have go:∀ Gs a' (X':World×G),(∀ p F,(p,F)∈Gs→F X'∧∀ X Y,F X→R X Y→F Y)→R w0 X'→(∀ it∈l1++l2,N it.1 X'.2)→CertG P l.toArray R w0 Q (inB (clo l)) N (l1++l2) Gs a'→wpAny P .any l.toArray Q' (fuel+T) (listed.setIfInBounds j true) a' X'.1 :=
    fun Gs a' X' hG hX' hN' hc=>qW hB htr htail hQ fuel _ _ Gs a' X' hlen' hleft' hsz' hcl' hst' hG hX' hN' hc
   have hN':∀ it∈l1++l2,N it.1 X.2:=fun it hit=>hN it (by
    rcases List.mem_append.1 hit with h|h
    ·exact List.mem_append_left _ h
    ·exact List.mem_append_right _ (zF h))
   have hne':∀ it∈l1++l2,it.1≠j:=fun it hit=>by
    rcases List.mem_append.1 hit with h|h
    ·have:=hpw.2.2 it h _ zE
     simp only at this
     omega
    ·have:=(List.pairwise_cons.1 hpw.2.1).1 it h
     simp only at this
     omega
   have keep:∀ X',R X X'→∀ p F,(p,F)∈Fs→F X'∧∀ X Y,F X→R X Y→F Y:=fun X' hXX p F hm=>⟨(hF p F hm).2 X X' (hF p F hm).1 hXX,(hF p F hm).2⟩
   unfold wpOp
   simp only [ho]
   unfold jS at hp
   split
   ·rename_i hw
    rw [if_pos hw] at hp;refine .inl ?_
    cases s with
    | none =>
     obtain ⟨v,hq,hc⟩:=hp
     unfold dE at hq
     unfold Oper.wp
     generalize (execOp a.eval o).run P X.1=r at hq ⊢
     cases r with
     | ok n w' =>
      cases n <;> simp only [Oper.upon] at hq ⊢
      case value u=>obtain ⟨rfl,rfl⟩:=hq;exact go Fs _ X hF hX hN' hc
      case skip=>obtain ⟨rfl,rfl⟩:=hq;exact go Fs _ X hF hX hN' hc
      case enter f args =>
       obtain ⟨rfl,_,hcall⟩:=hq
       exact hcall.mono fun e w'' ⟨he,hR⟩=>by subst he;exact go Fs _ (w'',X.2) (keep _ hR) (htr _ _ hX hR) hN' hc
     | halt x w'=>exact hq.elim
    | some S =>
     obtain ⟨hq,hc⟩:=hp;have hS:=hst _ (List.mem_append_right _ zE) S rfl
     have fin:∀ v Z,(∃ g,S v (Z,g)∧R X (Z,g)∧∀ m,m≠j→N m X.2→N m g)→wpAny P .any l.toArray Q' (fuel+T) (listed.setIfInBounds j true) (a.put o.dst v) Z:=fun v Z ⟨g,h1,h2,h3⟩ =>
      go ((j,S v) :: Fs) _ (Z,g) (fun p F hm=>by
       rcases List.mem_cons.1 hm with heq|hm
       ·injection heq with e1 e2
        subst e2;exact ⟨h1,fun X Y=>hS v X Y⟩
       ·exact keep _ h2 p F hm) (htr _ _ hX h2) (fun it hit=>h3 it.1 (hne' it hit) (hN' it hit)) (hc v)
     unfold eP at hq
     unfold Oper.wp
     generalize (execOp a.eval o).run P X.1=r at hq ⊢
     cases r with
     | ok n w' =>
      cases n <;> simp only [Oper.upon] at hq ⊢
      case value u=>exact fin _ _ hq
      case skip=>exact fin _ _ hq
      case enter f args =>
       exact hq.mono fun e w'' ⟨v,he,h2⟩=>by subst he;exact fin _ _ h2
     | halt x w'=>exact hq.elim
   ·rename_i hw
    rw [if_neg hw] at hp;exact go Fs _ X hF hX hN' hp
def itg {G:Type}:Nat→List Oper→List (dT G)→List (Nat×Oper×dT G)
 | _,[],_=>[]
 | k,o :: l,[]=>(k,o,none) :: itg (k+1) l []
 | k,o :: l,s :: ss=>(k,o,s) :: itg (k+1) l ss
theorem jN {G:Type}:∀ (k:Nat) (l:List Oper) (ss:List (dT G)),(itg k l ss).Pairwise (fun x y=>x.1<y.1)∧(∀ it∈itg k l ss,k≤it.1∧l[it.1-k]?=some it.2.1∧(it.2.2=none∨it.2.2∈ss))∧(itg k l ss).length=l.length∧∀ j o,l[j]?=some o→∃ s,(k+j,o,s)∈itg k l ss
 | k,[],ss=>by unfold itg;exact ⟨List.Pairwise.nil,fun it h=>(by cases h),rfl,fun j o h=>by cases h⟩
 | k,o :: l,[]=>by
  obtain ⟨h1,h2,h3,h4⟩:=jN (k+1) l []
  unfold itg
  refine ⟨List.pairwise_cons.2 ⟨fun it hit=>?_,h1⟩,fun it hit=>?_,by simp [h3],fun j o' hj=>?_⟩
  ·have:=(h2 it hit).1
   show k<it.1
   omega
  ·rcases List.mem_cons.1 hit with rfl|hit
   ·exact ⟨Nat.le_refl _,by simp,.inl rfl⟩
   ·obtain ⟨a1,a2,a3⟩:=h2 it hit
    refine ⟨by omega,?_,a3⟩;rw [show it.1-k=(it.1-(k+1))+1 by omega,List.getElem?_cons_succ];exact a2
  ·cases j with
   | zero =>
    simp only [List.getElem?_cons_zero,Option.some.injEq] at hj;subst hj;exact ⟨none,zE⟩
   | succ j =>
    obtain ⟨s,hs⟩:=h4 j o' (by simpa using hj);exact ⟨s,zF (by rw [show k+(j+1)=k+1+j by omega];exact hs)⟩
 | k,o :: l,s :: ss=>by
  obtain ⟨h1,h2,h3,h4⟩:=jN (k+1) l ss
  unfold itg
  refine ⟨List.pairwise_cons.2 ⟨fun it hit=>?_,h1⟩,fun it hit=>?_,by simp [h3],fun j o' hj=>?_⟩
  ·have:=(h2 it hit).1
   show k<it.1
   omega
  ·rcases List.mem_cons.1 hit with rfl|hit
   ·exact ⟨Nat.le_refl _,by simp,.inr zE⟩
   ·obtain ⟨a1,a2,a3⟩:=h2 it hit
    refine ⟨by omega,?_,a3.imp id (List.mem_cons_of_mem _)⟩;rw [show it.1-k=(it.1-(k+1))+1 by omega,List.getElem?_cons_succ];exact a2
  ·cases j with
   | zero =>
    simp only [List.getElem?_cons_zero,Option.some.injEq] at hj;subst hj;exact ⟨s,zE⟩
   | succ j =>
    obtain ⟨s',hs⟩:=h4 j o' (by simpa using hj);exact ⟨s',zF (by rw [show k+(j+1)=k+1+j by omega];exact hs)⟩
theorem sP {id:Nat} {Q':Exit→Act→World→Prop} {a:Act} {w:World} {g0:G} (ss:List (dT G)) (hm:P.follows .mixedOrders=true) (hB:lxB l=true) (h0:R w0 (w.drew,g0)) (hN:∀ k,N k g0) (htr:∀ X Y,R w0 X→R X Y→R w0 Y)
  (hst:∀ S,some S∈ss→∀ v X Y,S v X→R X Y→S v Y) (h:CertG P l.toArray R w0 (fun a X=>wpList P l.toArray Q' [] a X.1) (inB (clo l)) N (itg 0 l ss) [] a):(Code.region id l.toArray true).wp P Q' a w:=by
 refine wp_region_any hm ?_;obtain ⟨h1,h2,h3,h4⟩:=jN 0 l ss
 have hlen:l.toArray.size=(itg 0 l ss).length+0:=by rw [h3];simp
 rw [hlen];refine qW (T:=0) hB htr (fun t h1 h2=>by omega) (fun listed a w hs hall _ hq=>?_) (itg 0 l ss).length _ (itg 0 l ss) [] a (w.drew,g0) rfl ⟨h1,fun it hit=>?_,fun k o _ hk _=>?_,fun k h1 h2=>by omega⟩ (by simp [h3]) ?_ ?_ (fun p F hp=>(by cases hp)) h0 (fun it _=>hN it.1) h
 ·refine ⟨?_,hq⟩
  apply List.eq_nil_iff_forall_not_mem.2
  intro i hi;obtain ⟨h0,o,ho,_⟩:=mem_ready.1 hi;have hlt:i<l.length:=(List.getElem?_eq_some_iff.1 (show l[i]?=some o by simpa using ho)).1;rw [hall i (by omega)] at h0
  cases h0
 ·obtain ⟨_,a2,_⟩:=h2 it hit
  have:it.1<l.length:=(List.getElem?_eq_some_iff.1 (by simpa using a2)).1;refine ⟨by simpa using a2,?_,by omega⟩
  simp [h3,this]
 ·obtain ⟨s,hs⟩:=h4 k o hk
  exact ⟨s,by simpa using hs⟩
 ·intro k o hk hl
  have:k<l.length:=(List.getElem?_eq_some_iff.1 hk).1
  simp [h3,this] at hl
 ·intro it hit S hS
  rcases (h2 it hit).2.2 with h'|h'
  ·rw [hS] at h'
   cases h'
  ·rw [hS] at h'
   exact hst S h'
theorem fG {ops:Array Oper} {pre:Nat→Nat→Bool} (htr:∀ X Y,R w0 X→R X Y→R w0 Y) {Q':Exit→Act→World→Prop} {tail:List Oper} :
  ∀ (items:List (Nat×Oper×dT G)) (Fs:List (Nat×(World×G→Prop))) (a:Act) (X:World×G),(∀ it∈items,∀ S,it.2.2=some S→∀ v X Y,S v X→R X Y→S v Y) →
   (∀ p F,(p,F)∈Fs→F X∧∀ X Y,F X→R X Y→F Y)→R w0 X→(∀ it∈items,N it.1 X.2)→items.Pairwise (fun x y=>x.1<y.1)→CertG P ops R w0 (fun a X=>wpList P ops Q' tail a X.1) pre N items Fs a→wpList P ops Q' (items.map (·.2.1)++tail) a X.1
 | [],Fs,a,X,_,hF,hX,_,_,h=>h X hX fun p F hp=>(hF p F hp).1
 | (k,o,s) :: items,Fs,a,X,hst,hF,hX,hN,hpw,h=>by
  have hst':∀ it∈items,∀ S,it.2.2=some S→∀ v X Y,S v X→R X Y→S v Y:=fun it hit=>hst it (zF hit)
  have hN':∀ it∈items,N it.1 X.2:=fun it hit=>hN it (zF hit)
  have hpw':=(List.pairwise_cons.1 hpw).2
  have hne':∀ it∈items,it.1≠k:=fun it hit=>by
   have:=(List.pairwise_cons.1 hpw).1 it hit;simp only at this
   omega
  have keep:∀ X',R X X'→∀ p F,(p,F)∈Fs→F X'∧∀ X Y,F X→R X Y→F Y:=fun X' hXX p F hm=>⟨(hF p F hm).2 X X' (hF p F hm).1 hXX,(hF p F hm).2⟩
  rw [List.map_cons,List.cons_append]
  unfold CertG at h
  unfold wpList
  split
  ·rename_i hw
   rw [if_pos hw] at h;refine .inl ?_
   cases s with
   | none =>
    obtain ⟨v,hq,hc⟩:=h
    have hq:=hq X hX fun p F hm _=>(hF p F hm).1
    unfold dE at hq
    unfold Oper.wp
    simp only
    generalize (execOp a.eval o).run P X.1=r at hq ⊢
    cases r with
    | ok n w' =>
     cases n <;> simp only [Oper.upon] at hq ⊢
     case value u=>obtain ⟨rfl,rfl⟩:=hq;exact fG htr items Fs _ X hst' hF hX hN' hpw' hc
     case skip=>obtain ⟨rfl,rfl⟩:=hq;exact fG htr items Fs _ X hst' hF hX hN' hpw' hc
     case enter f args =>
      obtain ⟨rfl,_,hcall⟩:=hq
      exact hcall.mono fun e w'' ⟨he,hR⟩=>by subst he;exact fG htr items Fs _ (w'',X.2) hst' (keep _ hR) (htr _ _ hX hR) hN' hpw' hc
    | halt x w'=>exact hq.elim
   | some S =>
    obtain ⟨hq,hc⟩:=h
    have hq:=hq X hX (hN _ zE) fun p F hm _=>(hF p F hm).1
    have hS:=hst _ zE S rfl
    have fin:∀ v Z,(∃ g,S v (Z,g)∧R X (Z,g)∧∀ m,m≠k→N m X.2→N m g)→wpList P ops Q' (items.map (·.2.1)++tail) (a.put o.dst v) Z:=fun v Z ⟨g,h1,h2,h3⟩ =>
     fG htr items ((k,S v) :: Fs) _ (Z,g) hst' (fun p F hm=>by
      rcases List.mem_cons.1 hm with heq|hm
      ·injection heq with e1 e2
       subst e2;exact ⟨h1,fun X Y=>hS v X Y⟩
      ·exact keep _ h2 p F hm) (htr _ _ hX h2) (fun it hit=>h3 it.1 (hne' it hit) (hN' it hit)) hpw' (hc v)
    unfold eP at hq
    unfold Oper.wp
    simp only
    generalize (execOp a.eval o).run P X.1=r at hq ⊢
    cases r with
    | ok n w' =>
     cases n <;> simp only [Oper.upon] at hq ⊢
     case value u=>exact fin _ _ hq
     case skip=>exact fin _ _ hq
     case enter f args =>
      exact hq.mono fun e w'' ⟨v,he,h2⟩=>by subst he;exact fin _ _ h2
    | halt x w'=>exact hq.elim
  ·rename_i hw
   rw [if_neg hw] at h;exact fG htr items Fs _ X hst' hF hX hN' hpw' h
theorem oG:∀ (k:Nat) (l:List Oper) (ss:List (dT G)),(itg k l ss).map (·.2.1)=l
 | _,[],_=>by unfold itg;rfl
 | k,o :: l,[]=>by unfold itg;rw [List.map_cons,oG (k+1) l []]
 | k,o :: l,s :: ss=>by unfold itg;rw [List.map_cons,oG (k+1) l ss]
theorem uF {id:Nat} {Q':Exit→Act→World→Prop} {a:Act} {w:World} {g0:G} {pre:Nat→Nat→Bool} (ss:List (dT G)) (h0:R w0 (w,g0)) (hN:∀ k,N k g0) (htr:∀ X Y,R w0 X→R X Y→R w0 Y)
  (hst:∀ S,some S∈ss→∀ v X Y,S v X→R X Y→S v Y) (h:CertG P l.toArray R w0 (fun a X=>wpList P l.toArray Q' [] a X.1) pre N (itg 0 l ss) [] a):(Code.region id l.toArray false).wp P Q' a w:=by
 refine wp_region_lit ?_
 have hq:=fG (N:=N) (tail:=[]) htr (itg 0 l ss) [] a (w,g0) (fun it hit S hS=>by
  rcases ((jN 0 l ss).2.1 it hit).2.2 with h'|h'
  ·rw [hS] at h'
   cases h'
  ·rw [hS] at h'
   exact hst S h') (fun p F hp=>by cases hp) h0 (fun it _=>hN it.1) (jN 0 l ss).1 h
 rw [oG,List.append_nil] at hq;exact hq
end
structure Vr where
 T:TypeId
 z:List Value
 v:List Value
abbrev Gh:=Nat→Option Nat
def Gok (V:Nat→Vr) (B:Nat) (X:World×Gh):Prop:=(∀ g i,X.2 g=some i→B≤g∧g<X.1.heap.size∧(Blk X.1 g (V i).T (V i).z∨Blk X.1 g (V i).T (V i).v))∧∀ g g' i,X.2 g=some i→X.2 g'=some i→g=g'
def Gr (V:Nat→Vr) (B:Nat) (X Y:World×Gh):Prop :=
 Gok V B X∧Gok V B Y∧Below B X.1 Y.1∧(∀ g i,X.2 g=some i→Y.2 g=some i)∧∀ g i,X.2 g=some i→Blk X.1 g (V i).T (V i).v→Blk Y.1 g (V i).T (V i).v
section
variable {V:Nat→Vr} {B:Nat}
theorem Gr.trans {X Y Z:World×Gh} (h:Gr V B X Y) (h':Gr V B Y Z):Gr V B X Z :=
 ⟨h.1,h'.2.1,h.2.2.1.trans h'.2.2.1,fun g i hi=>h'.2.2.2.1 g i (h.2.2.2.1 g i hi),fun g i hi hb=>h'.2.2.2.2 g i (h.2.2.2.1 g i hi) (h.2.2.2.2 g i hi hb)⟩
def Gat (V:Nat→Vr) (B i:Nat) (v:Value) (X:World×Gh):Prop:=Gok V B X∧∃ g,v=vP g 0∧X.2 g=some i
def Gst (V:Nat→Vr) (i:Nat) (_:Value) (X:World×Gh):Prop:=∃ g,X.2 g=some i∧Blk X.1 g (V i).T (V i).v
theorem Gst.at {i:Nat} {v u:Value} {X:World} {σ:Gh} (h:Gat V B i v (X,σ)) (h':Gst V i u (X,σ)):∃ g,v=vP g 0∧B≤g∧Blk X g (V i).T (V i).v∧σ g=some i:=by
 obtain ⟨hk,g,h1,h2⟩:=h;obtain ⟨g',h4,h5⟩:=h';obtain rfl:=hk.2 g g' i h2 h4;exact ⟨g,h1,(hk.1 g i h2).1,h5,h2⟩
end
structure xS (P:Program) (ops:Array Oper) (V:Nat→Vr) (w:World) (Q:Act→World→Prop) (pre:Nat→Nat→Bool) (l:List (Nat×Oper×dT Gh)) (Fs:List (Nat×(World×Gh→Prop))) (a:Act):Prop where
 out:CertG P ops (Gr V w.heap.size) (w,fun _=>none) (fun a X=>Q a X.1) pre (fun k σ=>∀ g,σ g≠some k) l Fs a
section
variable {P:Program} {ops:Array Oper} {V:Nat→Vr} {w:World} {Q:Act→World→Prop} {pre:Nat→Nat→Bool} {a a':Act} {k:Nat} {o:Oper} {l:List (Nat×Oper×dT Gh)} {Fs:List (Nat×(World×Gh→Prop))}
theorem Gr.ww {X:World×Gh} (h:Gr V w.heap.size (w,fun _=>none) X):Since w X.1:=h.2.2.1
theorem kg (v:Value) (hq:∀ X:World,Since w X→True→(execOp a.eval o).run P X=.ok (.value v) X) (h:xS P ops V w Q pre l Fs a') (hw:Region.wanted o (yielded ops a.tmps)=true:=by rfl)
  (hp:a.put o.dst v=a':=by simp only [pX,st,rt,rz];rfl):xS P ops V w Q pre ((k,o,none) :: l) Fs a:=by
 refine ⟨?_⟩
 unfold CertG
 rw [if_pos hw];refine ⟨v,fun X hX _=>?_,hp ▸ h.out⟩
 unfold dE
 rw [hq X.1 hX.ww trivial];exact ⟨rfl,rfl⟩
theorem kv (v:Value) (hq:∀ X:World,(execOp a.eval o).run P X=.ok (.value v) X) (h:xS P ops V w Q pre l Fs a') (hw:Region.wanted o (yielded ops a.tmps)=true:=by rfl)
  (hp:a.put o.dst v=a':=by simp only [pX,st,rt,rz];rfl):xS P ops V w Q pre ((k,o,none) :: l) Fs a:=kg v (fun X _ _=>hq X) h hw hp
end
end Go.Proofs.YtnfpenhldlfafaaGreatDoor

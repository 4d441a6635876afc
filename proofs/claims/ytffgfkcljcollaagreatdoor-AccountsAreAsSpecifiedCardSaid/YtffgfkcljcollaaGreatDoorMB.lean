/- Drawn regions, one walk in the order of the text, where oper -/
import Derived.Deep.Quiet
import Derived.WalkKit
import Derived.IntWalk
import Derived.Test.YtffgfkcljcollaaGreatDoorMA
set_option linter.unusedSimpArgs false
set_option linter.unusedVariables false
namespace Go.Proofs.YtffgfkcljcollaaGreatDoor
open Go
theorem pA {l:List Value} {i:Nat} {a:Value}:(l.toArray).setIfInBounds i a=(l.set i a).toArray:=List.setIfInBounds_toArray ..
theorem pS {a b:Value} {l:List Value} {n:Nat}:(a :: l).set (n+1) b=a :: l.set n b:=rfl
theorem pZ {a b:Value} {l:List Value}:(a :: l).set 0 b=b :: l:=rfl
abbrev cB:=Option (Value→World→Prop)
def dN (P:Program) (o:Oper) (a:Act) (X:World) (T:Value→World→Prop):Prop :=
 match (execOp a.eval o).run P X with
 | .ok (.value u) w'=>T u w'
 | .ok .skip w'=>T undef w'
 | .ok (.enter f args) w'=>Calls P f args w' (fun e w''=>∃ v,e=.returned v∧T v w'')
 | _=>False
def cM (P:Program) (o:Oper) (a:Act) (R:World→World→Prop) (X:World) (v:Value):Prop :=
 match (execOp a.eval o).run P X with
 | .ok (.value u) w'=>w'=X∧u=v
 | .ok .skip w'=>w'=X∧v=undef
 | .ok (.enter f args) w'=>w'=X∧P.inits.idxOf? f=none∧Calls P f args X (fun e w''=>e=.returned v∧R X w'')
 | _=>False
theorem oV {P:Program} {n k:Nat} {m:Machine} {o:Outcome} {w:World} (h:runN P n m=.ended o w):runN P (n+k) m=.ended o w:=by
 rw [runN_add,h]
theorem wX {P:Program} {f:FuncId} {args:Array Value} {w:World} {v v':Value} {R R':World→Prop} (hi:P.inits.idxOf? f=none)
  (h:Calls P f args w fun e w'=>e=.returned v∧R w') (h':Calls P f args w fun e w'=>e=.returned v'∧R' w'):v=v':=by
 obtain ⟨n,u,w1,h1,h2⟩:=Calls.done (R:=fun u _=>u=v) (h.mono fun e w' he=>by obtain ⟨rfl,_⟩:=he;rfl) hi;obtain ⟨m,u',w2,h3,h4⟩:=Calls.done (R:=fun u _=>u=v') (h'.mono fun e w' he=>by obtain ⟨rfl,_⟩:=he;rfl) hi;subst h2 h4;have e1:=oV (k:=m) h1;have e2:=oV (k:=n) h3;rw [Nat.add_comm] at e2;rw [e1] at e2
 injection e2 with e3 _
 injection e3
theorem nL {P:Program} {o:Oper} {a:Act} {R:World→World→Prop} {X:World} {v v':Value} (h:cM P o a R X v) (h':cM P o a R X v'):v=v':=by
 unfold cM at *
 generalize (execOp a.eval o).run P X=r at *
 cases r with
 | ok n w' =>
  cases n <;> simp only at h h'
  case value u=>exact h.2.symm.trans h'.2
  case skip=>exact h.2.trans h'.2.symm
  case enter f args=>exact wX h.2.1 h.2.2 h'.2.2
 | halt x w'=>exact h.elim
def CertR (P:Program) (ops:Array Oper) (R:World→World→Prop) (w0:World) (Q:Act→World→Prop) (pre:Nat→Nat→Bool) :
  List (Nat×Oper×cB)→List (Nat×(World→Prop))→Act→Prop
 | [],Fs,a=>∀ X,R w0 X→(∀ p F,(p,F)∈Fs→F X)→Q a X
 | (k,o,s) :: l,Fs,a =>
  if Region.wanted o (yielded ops a.tmps)=true then
   match s with
   | none=>∃ v,(∀ X,R w0 X→(∀ p F,(p,F)∈Fs→pre k p=true→F X)→cM P o a R X v)∧CertR P ops R w0 Q pre l Fs (a.put o.dst v)
   | some S=>(∀ X,R w0 X→(∀ p F,(p,F)∈Fs→pre k p=true→F X)→dN P o a X (fun u X'=>S u X'∧R X X')) ∧
     ∀ v,CertR P ops R w0 Q pre l ((k,S v) :: Fs) (a.put o.dst v)
  else CertR P ops R w0 Q pre l Fs (a.put o.dst undef)
section
variable {P:Program} {ops:Array Oper} {R:World→World→Prop} {w0:World} {Q:Act→World→Prop} {pre:Nat→Nat→Bool}
theorem CertR.more:∀ (l:List (Nat×Oper×cB)) (Fs Gs:List (Nat×(World→Prop))) (a:Act),(∀ x,x∈Fs→x∈Gs)→CertR P ops R w0 Q pre l Fs a→CertR P ops R w0 Q pre l Gs a
 | [],Fs,Gs,a,hs,h=>fun X hX hG=>h X hX fun p F hp=>hG p F (hs _ hp)
 | (k,o,s) :: l,Fs,Gs,a,hs,h=>by
  unfold CertR at h ⊢
  split
  ·rename_i hw
   rw [if_pos hw] at h
   cases s with
   | none =>
    obtain ⟨v,h1,h2⟩:=h;exact ⟨v,fun X hX hG=>h1 X hX fun p F hp=>hG p F (hs _ hp),CertR.more l _ _ _ hs h2⟩
   | some S =>
    obtain ⟨h1,h2⟩:=h;refine ⟨fun X hX hG=>h1 X hX fun p F hp=>hG p F (hs _ hp),fun v=>CertR.more l _ _ _ ?_ (h2 v)⟩;intro x hx
    rcases List.mem_cons.1 hx with rfl|hx
    ·exact List.mem_cons_self
    ·exact List.mem_cons_of_mem _ (hs _ hx)
  ·rename_i hw
   rw [if_neg hw] at h;exact CertR.more l _ _ _ hs h
def kM (P:Program) (ops:Array Oper) (R:World→World→Prop) (w0:World) (Q:Act→World→Prop) (pre:Nat→Nat→Bool) (X:World) (j:Nat) (oj:Oper) (sj:cB)
  (l:List (Nat×Oper×cB)) (Fs:List (Nat×(World→Prop))) (a:Act):Prop :=
 if Region.wanted oj (yielded ops a.tmps)=true then
  match sj with
  | none=>∃ v,cM P oj a R X v∧CertR P ops R w0 Q pre l Fs (a.put oj.dst v)
  | some S=>dN P oj a X (fun u X'=>S u X'∧R X X')∧∀ v,CertR P ops R w0 Q pre l ((j,S v) :: Fs) (a.put oj.dst v)
 else CertR P ops R w0 Q pre l Fs (a.put oj.dst undef)
theorem cO {o:Oper} {a:Act} {X:World} {v u:Value} {dst:Option Tmp} (hs:∀ cs b,o.op≠.select cs b) (h:∀ d,dst=some d→d ∉ o.looksAt ops) :
  cM P o (a.put dst u) R X v=cM P o a R X v:=by
 unfold cM
 rw [execOp_put (ops:=ops) o hs a dst u h]
theorem dA {o:Oper} {a:Act} {X:World} {T:Value→World→Prop} {u:Value} {dst:Option Tmp} (hs:∀ cs b,o.op≠.select cs b) (h:∀ d,dst=some d→d ∉ o.looksAt ops) :
  dN P o (a.put dst u) X T=dN P o a X T:=by
 unfold dN
 rw [execOp_put (ops:=ops) o hs a dst u h]
theorem CertR.pull {X:World} {j:Nat} {oj:Oper} {sj:cB} (hsj:∀ cs b,oj.op≠.select cs b) (hX:R w0 X) (l2:List (Nat×Oper×cB)) :
  ∀ (l1:List (Nat×Oper×cB)) (Fs:List (Nat×(World→Prop))) (a:Act),
   (∀ it∈l1,it.2.1.apart ops oj=true∧pre j it.1=false∧∀ cs b,it.2.1.op≠.select cs b) →
   (∀ p F,(p,F)∈Fs→pre j p=true→F X) →
   CertR P ops R w0 Q pre (l1++(j,oj,sj) :: l2) Fs a→kM P ops R w0 Q pre X j oj sj (l1++l2) Fs a
 | [],Fs,a,_,hF,h=>by
  unfold kM
  simp only [List.nil_append] at h ⊢
  unfold CertR at h
  split
  ·rename_i hw
   rw [if_pos hw] at h
   cases sj with
   | none=>obtain ⟨v,h1,h2⟩:=h;exact ⟨v,h1 X hX hF,h2⟩
   | some S=>obtain ⟨h1,h2⟩:=h;exact ⟨h1 X hX hF,h2⟩
  ·rename_i hw
   rw [if_neg hw] at h;exact h
 | (i,oi,si) :: l1,Fs,a,hl,hF,h=>by
  obtain ⟨hap,hpre,hsi⟩:=hl _ List.mem_cons_self;obtain ⟨h1,h2,h3⟩:=Oper.apart_spec hap;simp only at h1 h2 h3 hpre hsi
  have hl':=fun it hit=>hl it (List.mem_cons_of_mem _ hit)
  have comm:∀ u v,(a.put oi.dst u).put oj.dst v=(a.put oj.dst v).put oi.dst u:=fun u v=>Act.put_comm a u v h2
  have wj:∀ u,Region.wanted oj (yielded ops (a.put oi.dst u).tmps)=Region.wanted oj (yielded ops a.tmps):=fun u=>wanted_put oj a oi.dst u h1
  have wi:∀ v,Region.wanted oi (yielded ops (a.put oj.dst v).tmps)=Region.wanted oi (yielded ops a.tmps):=fun v=>wanted_put oi a oj.dst v h3
  rw [List.cons_append] at h
  unfold CertR at h
  by_cases hwi:Region.wanted oi (yielded ops a.tmps)=true
  ·rw [if_pos hwi] at h
   cases si with
   | none =>
    obtain ⟨vi,ho,hc⟩:=h;have hp:=CertR.pull hsj hX l2 l1 Fs _ hl' hF hc
    unfold kM at hp ⊢
    rw [wj] at hp
    split
    ·rename_i hwj
     rw [if_pos hwj] at hp
     cases sj with
     | none =>
      obtain ⟨v,hq,hk⟩:=hp;refine ⟨v,by rwa [cO hsj h1] at hq,?_⟩;rw [comm] at hk;rw [List.cons_append]
      unfold CertR
      rw [wi,if_pos hwi];exact ⟨vi,fun Y hY hG=>by rw [cO hsi h3];exact ho Y hY hG,hk⟩
     | some S =>
      obtain ⟨hq,hk⟩:=hp;refine ⟨by rwa [dA hsj h1] at hq,fun v=>?_⟩;have hk:=hk v;rw [comm] at hk;rw [List.cons_append]
      unfold CertR
      rw [wi,if_pos hwi];exact ⟨vi,fun Y hY hG=>by rw [cO hsi h3];exact ho Y hY fun p F hp=>hG p F (List.mem_cons_of_mem _ hp),hk⟩
    ·rename_i hwj
     rw [if_neg hwj,comm] at hp;rw [List.cons_append]
     unfold CertR
     rw [wi,if_pos hwi];exact ⟨vi,fun Y hY hG=>by rw [cO hsi h3];exact ho Y hY hG,hp⟩
   | some Si =>
    obtain ⟨ho,hc⟩:=h
    have hp:∀ vi,kM P ops R w0 Q pre X j oj sj (l1++l2) ((i,Si vi) :: Fs) (a.put oi.dst vi):=fun vi=>CertR.pull hsj hX l2 l1 _ _ hl' (by
     intro p F hm hpj
     rcases List.mem_cons.1 hm with heq|hm
     ·injection heq with e1 _
      rw [e1,hpre] at hpj
      cases hpj
     ·exact hF p F hm hpj) (hc vi)
    unfold kM at hp ⊢
    simp only [wj] at hp
    split
    ·rename_i hwj
     simp only [if_pos hwj] at hp
     cases sj with
     | none =>
      simp only [cO hsj h1] at hp;obtain ⟨v,hq,_⟩:=hp undef;refine ⟨v,hq,?_⟩;rw [List.cons_append]
      unfold CertR
      rw [wi,if_pos hwi];refine ⟨fun Y hY hG=>by rw [dA hsi h3];exact ho Y hY hG,fun vi=>?_⟩;obtain ⟨v',hq',hk⟩:=hp vi;obtain rfl:=nL hq hq';rw [comm] at hk;exact hk
     | some S =>
      simp only [dA hsj h1] at hp;refine ⟨(hp undef).1,fun v=>?_⟩;rw [List.cons_append]
      unfold CertR
      rw [wi,if_pos hwi];refine ⟨fun Y hY hG=>by rw [dA hsi h3];exact ho Y hY fun p F hp=>hG p F (List.mem_cons_of_mem _ hp),fun vi=>?_⟩;have hk:=(hp vi).2 v;rw [comm] at hk;refine CertR.more _ _ _ _ ?_ hk;intro x hx;simp only [List.mem_cons] at hx ⊢
      rcases hx with h|h|h
      ·exact .inr (.inl h)
      ·exact .inl h
      ·exact .inr (.inr h)
    ·rename_i hwj
     simp only [if_neg hwj] at hp;rw [List.cons_append]
     unfold CertR
     rw [wi,if_pos hwi];refine ⟨fun Y hY hG=>by rw [dA hsi h3];exact ho Y hY hG,fun vi=>?_⟩;have hk:=hp vi;rw [comm] at hk;exact hk
  ·rw [if_neg hwi] at h
   have hp:=CertR.pull hsj hX l2 l1 Fs _ hl' hF h
   unfold kM at hp ⊢
   rw [wj] at hp
   split
   ·rename_i hwj
    rw [if_pos hwj] at hp
    cases sj with
    | none =>
     obtain ⟨v,hq,hk⟩:=hp;refine ⟨v,by rwa [cO hsj h1] at hq,?_⟩;rw [comm] at hk;rw [List.cons_append]
     unfold CertR
     rw [wi,if_neg hwi];exact hk
    | some S =>
     obtain ⟨hq,hk⟩:=hp;refine ⟨by rwa [dA hsj h1] at hq,fun v=>?_⟩;have hk:=hk v;rw [comm] at hk;rw [List.cons_append]
     unfold CertR
     rw [wi,if_neg hwi];exact hk
   ·rename_i hwj
    rw [if_neg hwj,comm] at hp;rw [List.cons_append]
    unfold CertR
    rw [wi,if_neg hwi];exact hp
end
/-! ### The Bool over a region -/
def clo (ops:List Oper):List (List Nat) :=
 ops.foldl (fun acc o=>acc++[(o.after.toList.filter (Region.binds .any)).foldl (fun s e=>(e.on :: acc.getD e.on []).foldl (fun s x=>if s.contains x then s else x :: s) s) []]) []
def inB (B:List (List Nat)) (k p:Nat):Bool:=(B.getD k []).contains p
def lxB (l:List Oper):Bool :=
 let B:=clo l
 Region.noSelect l.toArray && l.zipIdx.all fun (o,k) =>
  (o.after.toList.all fun e=>!Region.binds .any e || decide (e.on<k)) &&
  ((B.getD k []).all fun p=>decide (p<k) && o.after.toList.any fun e=>Region.binds .any e && (e.on == p || inB B e.on p)) &&
  (l.take k).zipIdx.all fun (o',i)=>inB B k i || o'.apart l.toArray o
theorem eF {l:List Oper} (h:lxB l=true):Region.noSelect l.toArray=true∧∀ k o,l[k]?=some o →
  (∀ e∈o.after,Region.binds .any e=true→e.on<k) ∧
  (∀ p,inB (clo l) k p=true→p<k∧∃ e∈o.after,Region.binds .any e=true∧(e.on=p∨inB (clo l) e.on p=true)) ∧
  ∀ i o',i<k→l[i]?=some o'→inB (clo l) k i=true∨o'.apart l.toArray o=true:=by
 unfold lxB at h
 simp only [Bool.and_eq_true,List.all_eq_true] at h;refine ⟨h.1,fun k o ho=>?_⟩
 have hm:(o,k)∈l.zipIdx:=by
  rw [List.mem_zipIdx_iff_getElem?];exact ho
 obtain ⟨⟨h1,h2⟩,h3⟩:=h.2 _ hm;simp only at h1 h2 h3;refine ⟨fun e he hb=>?_,fun p hp=>?_,fun i o' hi ho'=>?_⟩
 ·have:=h1 e (Array.mem_toList_iff.2 he)
  simpa [hb] using this
 ·unfold inB at hp
  have:=h2 p (by simpa using hp);obtain ⟨h4,h5⟩:=this;refine ⟨of_decide_eq_true h4,?_⟩;obtain ⟨e,he,h6⟩:=List.any_eq_true.1 h5;simp only [Bool.and_eq_true,Bool.or_eq_true,beq_iff_eq] at h6;exact ⟨e,Array.mem_toList_iff.1 he,h6.1,h6.2⟩
 ·have hm':(o',i)∈(l.take k).zipIdx:=by
   rw [List.mem_zipIdx_iff_getElem?,List.getElem?_take_of_lt hi];exact ho'
  have:=h3 _ hm'
  simpa using this
section
variable {P:Program} {l:List Oper} {R:World→World→Prop} {w0:World} {Q:Act→World→Prop}
def vVg (T:Nat) (l:List Oper) (listed:Array Bool) (items:List (Nat×Oper×cB)):Prop :=
 items.Pairwise (fun x y=>x.1<y.1)∧(∀ it∈items,l[it.1]?=some it.2.1∧listed.getD it.1 true=false∧it.1<l.length-T) ∧
  (∀ k o,k<l.length-T→l[k]?=some o→listed.getD k true=false→∃ s,(k,o,s)∈items)∧∀ k,l.length-T≤k→k<l.length→listed.getD k true=false
theorem mA {T:Nat} (q:Nat) (hB:lxB l=true) (htr:∀ X Y,R w0 X→R X Y→R w0 Y) {Q':Exit→Act→World→Prop} {A:Nat→Array Bool→Act→World→Prop}
  (hA:∀ fuel listed a w,(Region.ready .any l.toArray listed=[]→Q' .normal a w)∧(∀ i∈Region.ready .any l.toArray listed,wpOp P l.toArray Q' i (A fuel (listed.setIfInBounds i true)) a w)→A (fuel+1) listed a w)
  (htail:∀ t,l.length-T≤t→t<l.length→∀ p,p<l.length-T→p≠q→inB (clo l) t p=true)
  (hlz:∀ (listed:Array Bool) (oq:Oper) (a:Act) (X:World) (j:Nat) (o:Oper),q<l.length-T→l[q]?=some oq→l[j]?=some o→l.length-T≤j→j<l.length→listed.size=l.length→(∀ k,k<l.length-T→k≠q→listed.getD k true=true) →
   listed.getD q true=false→(∀ k,l.length-T≤k→k<l.length→listed.getD k true=false)→(∀ k p,k<l.length→(listed.getD k true=true∨k=j)→inB (clo l) k p=true→listed.getD p true=true) →
   (if Region.wanted oq (yielded l.toArray a.tmps)=true then ∃ v,cM P oq a R X v∧Q (a.put oq.dst v) X else Q (a.put oq.dst undef) X)→wpOp P l.toArray Q' j (A (0+T) (listed.setIfInBounds j true)) a X)
  (hQ:∀ listed a w,listed.size=l.length→(∀ k,k<l.length-T→listed.getD k true=true)→(∀ k,l.length-T≤k→k<l.length→listed.getD k true=false)→Q a w→A T listed a w) :
  ∀ (fuel:Nat) (listed:Array Bool) (items:List (Nat×Oper×cB)) (Fs:List (Nat×(World→Prop))) (a:Act) (X:World),items.length=fuel→vVg T l listed items→listed.size=l.length →
   (∀ k o,l[k]?=some o→listed.getD k true=true→∀ e∈o.after,Region.binds .any e=true→listed.getD e.on true=true) →
   (∀ it∈items,∀ S,it.2.2=some S→∀ v X Y,S v X→R X Y→S v Y)→(∀ it∈items,it.1=q→it.2.2=none)→(∀ p F,(p,F)∈Fs→F X∧∀ X Y,F X→R X Y→F Y)→R w0 X →
   CertR P l.toArray R w0 Q (inB (clo l)) items Fs a→A (fuel+T) listed a X
 | 0,listed,items,Fs,a,X,hlen,hleft,hsz,hcl,hst,hsq,hF,hX,h=>by
  have:items=[]:=List.eq_nil_of_length_eq_zero hlen;subst this;rw [Nat.zero_add];refine hQ listed _ _ hsz (fun k hk=>?_) hleft.2.2.2 (h X hX fun p F hp=>(hF p F hp).1)
  cases hq:listed.getD k true with
  | true=>rfl
  | false =>
   obtain ⟨s,hs⟩:=hleft.2.2.1 k (l[k]'(by omega)) hk (List.getElem?_eq_getElem (by omega)) hq
   cases hs
 | fuel+1,listed,items,Fs,a,X,hlen,hleft,hsz,hcl,hst,hsq,hF,hX,h=>by
  obtain ⟨hns,hspec⟩:=eF hB;rw [show fuel+1+T=(fuel+T)+1 by omega]
  have getD_ft:∀ k,k<l.length→listed.getD k true=listed.getD k false:=fun k hk=>by
   simp only [Array.getD_eq_getD_getElem?,Array.getElem?_eq_getElem (hsz ▸ hk),Option.getD_some]
  refine hA _ _ _ _ ⟨fun hnil=>?_,fun j hj=>?_⟩
  ·exfalso
   obtain ⟨⟨k,o,s⟩,rest,rfl⟩:∃ x r,items=x :: r:=by
    cases items with
    | nil=>cases hlen
    | cons x r=>exact ⟨x,r,rfl⟩
   obtain ⟨hk,hun,hkT⟩:=hleft.2.1 _ List.mem_cons_self
   have hr:k∈Region.ready .any l.toArray listed:=mem_ready.2 ⟨hun,o,by simpa using hk,fun e he hb=>by
    have hlt:=(hspec k o hk).1 e he hb;have hkl:k<l.length:=(List.getElem?_eq_some_iff.1 hk).1;rw [← getD_ft _ (by omega)]
    cases hq:listed.getD e.on true with
    | true=>rfl
    | false =>
     obtain ⟨s',hs'⟩:=hleft.2.2.1 e.on (l[e.on]'(by omega)) (by simp only at hkT;omega) (List.getElem?_eq_getElem (by omega)) hq
     rcases List.mem_cons.1 hs' with heq|hm
     ·injection heq with e1 _
      omega
     ·have:=(List.pairwise_cons.1 hleft.1).1 _ hm
      simp only at this
      omega⟩
   rw [hnil] at hr
   cases hr
  ·obtain ⟨h0,o,ho,hall⟩:=mem_ready.1 hj
   have ho':l[j]?=some o:=by simpa using ho
   have hjl:j<l.length:=(List.getElem?_eq_some_iff.1 ho').1
   -- what comes before j in every order is listed
   have closed:∀ n k p,k≤n→k<l.length→(listed.getD k true=true∨k=j)→inB (clo l) k p=true→listed.getD p true=true:=by
    intro n
    induction n with
    | zero =>
     intro k p hk hkl hor hin;obtain ⟨hlt,_⟩:=(hspec k (l[k]'hkl) (List.getElem?_eq_getElem hkl)).2.1 p hin
     omega
    | succ n ih =>
     intro k p hk hkl hor hin;obtain ⟨hlt,e,he,hb,hor2⟩:=(hspec k (l[k]'hkl) (List.getElem?_eq_getElem hkl)).2.1 p hin;have hek:=(hspec k (l[k]'hkl) (List.getElem?_eq_getElem hkl)).1 e he hb
     have hel:listed.getD e.on true=true:=by
      rcases hor with hor|rfl
      ·exact hcl k _ (List.getElem?_eq_getElem hkl) hor e he hb
      ·have:o=l[k]'hkl:=by
        have:=List.getElem?_eq_getElem hkl;rw [ho'] at this
        injection this
       rw [getD_ft _ (by omega)];exact hall e (this ▸ he) hb
     rcases hor2 with rfl|hin2
     ·exact hel
     ·exact ih e.on p (by omega) (by omega) (.inl hel) hin2
   by_cases hjT:¬ j<l.length-T
   ·have h':l.length-T≤j:=Nat.not_lt.1 hjT
    have hall':∀ it∈items,it.1=q:=fun it hit=>by
     obtain ⟨_,hun,hkT⟩:=hleft.2.1 _ hit
     by_cases hne:it.1=q
     ·exact hne
     ·exfalso
      have:=closed j j it.1 (Nat.le_refl _) hjl (.inr rfl) (htail j h' hjl it.1 hkT hne);rw [hun] at this
      cases this
    obtain ⟨⟨k,oq,s⟩,rest,rfl⟩:∃ x r,items=x :: r:=by
     cases items with
     | nil=>cases hlen
     | cons x r=>exact ⟨x,r,rfl⟩
    have hkq:k=q:=hall' _ List.mem_cons_self;subst hkq
    have hrest:rest=[]:=by
     cases rest with
     | nil=>rfl
     | cons y r =>
      exfalso
      have h1:=(List.pairwise_cons.1 hleft.1).1 y List.mem_cons_self;have h2:y.1=k:=hall' y (List.mem_cons_of_mem _ List.mem_cons_self);simp only at h1
      omega
    subst hrest
    have hf0:fuel=0:=by
     simp at hlen
     omega
    subst hf0;obtain ⟨hoq,hun,hkT⟩:=hleft.2.1 _ List.mem_cons_self;simp only at hoq hun hkT;have hs0:s=none:=hsq _ List.mem_cons_self rfl;subst hs0;refine hlz listed oq a X j o hkT hoq ho' h' hjl hsz (fun k' hk' hne=>?_) hun hleft.2.2.2 (fun k9 p hk9 hor hp=>closed k9 k9 p (Nat.le_refl _) hk9 hor hp) ?_
    ·cases hq9:listed.getD k' true with
     | true=>rfl
     | false =>
      obtain ⟨s',hs'⟩:=hleft.2.2.1 k' _ hk' (List.getElem?_eq_getElem (by omega)) hq9;exact absurd (hall' _ hs') hne
    ·unfold CertR at h
     split
     ·rename_i hw
      rw [if_pos hw] at h;obtain ⟨v,h1,h2⟩:=h;exact ⟨v,h1 X hX fun p F hp _=>(hF p F hp).1,h2 X hX fun p F hp=>(hF p F hp).1⟩
     ·rename_i hw
      rw [if_neg hw] at h
      exact h X hX fun p F hp=>(hF p F hp).1
   have hjT:j<l.length-T:=Classical.not_not.1 hjT;obtain ⟨s,hs⟩:=hleft.2.2.1 j o hjT ho' h0;obtain ⟨l1,l2,rfl⟩:=List.append_of_mem hs;have hpw:=List.pairwise_append.1 hleft.1
   have hl1:∀ it∈l1,it.2.1.apart l.toArray o=true∧inB (clo l) j it.1=false∧∀ cs b,it.2.1.op≠.select cs b:=fun it hit=>by
    obtain ⟨hit1,hit2,_⟩:=hleft.2.1 it (List.mem_append_left _ hit);have hlt:it.1<j:=hpw.2.2 it hit _ List.mem_cons_self
    have hno:inB (clo l) j it.1=false:=by
     cases hq:inB (clo l) j it.1 with
     | false=>rfl
     | true =>
      have:=closed j j it.1 (Nat.le_refl _) hjl (.inr rfl) hq;rw [hit2] at this
      cases this
    refine ⟨?_,hno,fun cs b=>Region.noSelect_spec hns it.1 it.2.1 cs b (by simpa using hit1)⟩
    rcases (hspec j o ho').2.2 it.1 it.2.1 hlt hit1 with h'|h'
    ·rw [hno] at h'
     cases h'
    ·exact h'
   have hp:=CertR.pull (X:=X) (fun cs b=>Region.noSelect_spec hns j o cs b ho) hX l2 l1 Fs a hl1 (fun p F hm _=>(hF p F hm).1) h
   -- what is left behind j
   have hleft':vVg T l (listed.setIfInBounds j true) (l1++l2):=by
    refine ⟨hleft.1.sublist (by simp),fun it hit=>?_,fun k ok hkT hk hun=>?_,fun k hk1 hk2=>by rw [getD_set_ne true (by omega)];exact hleft.2.2.2 k hk1 hk2⟩
    ·obtain ⟨h1,h2,h2T⟩:=hleft.2.1 it (by
      rcases List.mem_append.1 hit with h|h
      ·exact List.mem_append_left _ h
      ·exact List.mem_append_right _ (List.mem_cons_of_mem _ h))
     have hne:j≠it.1:=by
      rcases List.mem_append.1 hit with h|h
      ·have:=hpw.2.2 it h _ List.mem_cons_self
       simp only at this
       omega
      ·have:=(List.pairwise_cons.1 hpw.2.1).1 it h
       simp only at this
       omega
     exact ⟨h1,by rw [getD_set_ne true hne];exact h2,h2T⟩
    ·by_cases hjk:j=k
     ·subst hjk
      have:(listed.setIfInBounds j true).getD j true=true:=by simp [hsz,hjl]
      rw [this] at hun
      cases hun
     ·rw [getD_set_ne true hjk] at hun
      obtain ⟨s',hs'⟩:=hleft.2.2.1 k ok hkT hk hun;refine ⟨s',?_⟩
      rcases List.mem_append.1 hs' with h|h
      ·exact List.mem_append_left _ h
      ·rcases List.mem_cons.1 h with heq|h
       ·injection heq with e1 _
        exact absurd e1.symm hjk
       ·exact List.mem_append_right _ h
   have hlen':(l1++l2).length=fuel:=by simp at hlen ⊢;omega
   have hcl':∀ k o,l[k]?=some o→(listed.setIfInBounds j true).getD k true=true→∀ e∈o.after,Region.binds .any e=true→(listed.setIfInBounds j true).getD e.on true=true:=by
    intro k ok hk hlk e he hb;have hkl:k<l.length:=(List.getElem?_eq_some_iff.1 hk).1;have hek:=(hspec k ok hk).1 e he hb
    have:listed.getD e.on true=true:=by
     by_cases hjk:j=k
     ·subst hjk
      rw [hk] at ho'
      injection ho' with e1
      rw [getD_ft _ (by omega)];exact hall e (e1 ▸ he) hb
     ·rw [getD_set_ne true hjk] at hlk
      exact hcl k ok hk hlk e he hb
    by_cases hje:j=e.on
    ·subst hje
     simp [hsz,hjl]
    ·rw [getD_set_ne true hje]
     exact this
   have hst':∀ it∈l1++l2,∀ S,it.2.2=some S→∀ v X Y,S v X→R X Y→S v Y:=fun it hit=>hst it (by
    rcases List.mem_append.1 hit with h|h
    ·exact List.mem_append_left _ h
    ·exact List.mem_append_right _ (List.mem_cons_of_mem _ h))
   have hsq':∀ it∈l1++l2,it.1=q→it.2.2=none:=fun it hit=>hsq it (by
    rcases List.mem_append.1 hit with h|h
    ·exact List.mem_append_left _ h
    ·exact List.mem_append_right _ (List.mem_cons_of_mem _ h))
   have hsz':(listed.setIfInBounds j true).size=l.length:=by simpa using hsz
   have go:∀ Gs a' X',(∀ p F,(p,F)∈Gs→F X'∧∀ X Y,F X→R X Y→F Y)→R w0 X'→CertR P l.toArray R w0 Q (inB (clo l)) (l1++l2) Gs a'→A (fuel+T) (listed.setIfInBounds j true) a' X' :=
    fun Gs a' X' hG hX' hc=>mA q hB htr hA htail hlz hQ fuel _ _ Gs a' X' hlen' hleft' hsz' hcl' hst' hsq' hG hX' hc
   have keep:∀ X',R X X'→∀ p F,(p,F)∈Fs→F X'∧∀ X Y,F X→R X Y→F Y:=fun X' hXX p F hm=>⟨(hF p F hm).2 X X' (hF p F hm).1 hXX,(hF p F hm).2⟩
   unfold wpOp
   simp only [ho]
   unfold kM at hp
   split
   ·rename_i hw
    rw [if_pos hw] at hp;refine .inl ?_
    cases s with
    | none =>
     obtain ⟨v,hq,hc⟩:=hp
     unfold cM at hq
     unfold Oper.wp
     generalize (execOp a.eval o).run P X=r at hq ⊢
     cases r with
     | ok n w' =>
      cases n <;> simp only [Oper.upon] at hq ⊢
      case value u=>obtain ⟨rfl,rfl⟩:=hq;exact go Fs _ _ hF hX hc
      case skip=>obtain ⟨rfl,rfl⟩:=hq;exact go Fs _ _ hF hX hc
      case enter f args =>
       obtain ⟨rfl,_,hcall⟩:=hq
       exact hcall.mono fun e w'' ⟨he,hR⟩=>by subst he;exact go Fs _ _ (keep _ hR) (htr _ _ hX hR) hc
     | halt x w'=>exact hq.elim
    | some S =>
     obtain ⟨hq,hc⟩:=hp;have hS:=hst _ (List.mem_append_right _ List.mem_cons_self) S rfl
     have fin:∀ v X',S v X'∧R X X'→A (fuel+T) (listed.setIfInBounds j true) (a.put o.dst v) X':=fun v X' ⟨h1,h2⟩ =>
      go ((j,S v) :: Fs) _ _ (fun p F hm=>by
       rcases List.mem_cons.1 hm with heq|hm
       ·injection heq with e1 e2
        subst e2;exact ⟨h1,fun X Y=>hS v X Y⟩
       ·exact keep _ h2 p F hm) (htr _ _ hX h2) (hc v)
     unfold dN at hq
     unfold Oper.wp
     generalize (execOp a.eval o).run P X=r at hq ⊢
     cases r with
     | ok n w' =>
      cases n <;> simp only [Oper.upon] at hq ⊢
      case value u=>exact fin _ _ hq
      case skip=>exact fin _ _ hq
      case enter f args =>
       exact hq.mono fun e w'' ⟨v,he,h2⟩=>by subst he;exact fin _ _ h2
     | halt x w'=>exact hq.elim
   ·rename_i hw
    rw [if_neg hw] at hp;exact go Fs _ _ hF hX hp
theorem sQ {T:Nat} (hB:lxB l=true) (htr:∀ X Y,R w0 X→R X Y→R w0 Y) {Q':Exit→Act→World→Prop}
  (htail:∀ t,l.length-T≤t→t<l.length→∀ p,p<l.length-T→inB (clo l) t p=true)
  (hQ:∀ listed a w,listed.size=l.length→(∀ k,k<l.length-T→listed.getD k true=true)→(∀ k,l.length-T≤k→k<l.length→listed.getD k true=false)→Q a w→wpAny P .any l.toArray Q' T listed a w) :
  ∀ (fuel:Nat) (listed:Array Bool) (items:List (Nat×Oper×cB)) (Fs:List (Nat×(World→Prop))) (a:Act) (X:World),items.length=fuel→vVg T l listed items→listed.size=l.length →
   (∀ k o,l[k]?=some o→listed.getD k true=true→∀ e∈o.after,Region.binds .any e=true→listed.getD e.on true=true) →
   (∀ it∈items,∀ S,it.2.2=some S→∀ v X Y,S v X→R X Y→S v Y)→(∀ p F,(p,F)∈Fs→F X∧∀ X Y,F X→R X Y→F Y)→R w0 X →
   CertR P l.toArray R w0 Q (inB (clo l)) items Fs a→wpAny P .any l.toArray Q' (fuel+T) listed a X :=
 fun fuel listed items Fs a X h1 h2 h3 h4 h5 h6 h7 h8=>mA l.length hB htr (A:=wpAny P .any l.toArray Q') (fun _ _ _ _ h=>h) (fun t h1 h2 p hp _=>htail t h1 h2 p hp) (fun listed oq a X j o hq=>by omega) hQ fuel listed items Fs a X h1 h2 h3 h4 h5 (fun it hit hq=>by have:=(h2.2.1 it hit).2.2;omega) h6 h7 h8
def its:Nat→List Oper→List cB→List (Nat×Oper×cB)
 | _,[],_=>[]
 | k,o :: l,[]=>(k,o,none) :: its (k+1) l []
 | k,o :: l,s :: ss=>(k,o,s) :: its (k+1) l ss
theorem eX:∀ (k:Nat) (l:List Oper) (ss:List cB),(its k l ss).Pairwise (fun x y=>x.1<y.1)∧(∀ it∈its k l ss,k≤it.1∧l[it.1-k]?=some it.2.1∧(it.2.2=none∨it.2.2∈ss))∧(its k l ss).length=l.length∧∀ j o,l[j]?=some o→∃ s,(k+j,o,s)∈its k l ss
 | k,[],ss=>by unfold its;exact ⟨List.Pairwise.nil,fun it h=>(by cases h),rfl,fun j o h=>by cases h⟩
 | k,o :: l,[]=>by
  obtain ⟨h1,h2,h3,h4⟩:=eX (k+1) l []
  unfold its
  refine ⟨List.pairwise_cons.2 ⟨fun it hit=>?_,h1⟩,fun it hit=>?_,by simp [h3],fun j o' hj=>?_⟩
  ·have:=(h2 it hit).1
   show k<it.1
   omega
  ·rcases List.mem_cons.1 hit with rfl|hit
   ·exact ⟨Nat.le_refl _,by simp,.inl rfl⟩
   ·obtain ⟨a1,a2,a3⟩:=h2 it hit
    refine ⟨by omega,?_,a3⟩;rw [show it.1-k=(it.1-(k+1))+1 by omega,List.getElem?_cons_succ];exact a2
  ·cases j with
   | zero =>
    simp only [List.getElem?_cons_zero,Option.some.injEq] at hj;subst hj;exact ⟨none,List.mem_cons_self⟩
   | succ j =>
    obtain ⟨s,hs⟩:=h4 j o' (by simpa using hj);exact ⟨s,List.mem_cons_of_mem _ (by rw [show k+(j+1)=k+1+j by omega];exact hs)⟩
 | k,o :: l,s :: ss=>by
  obtain ⟨h1,h2,h3,h4⟩:=eX (k+1) l ss
  unfold its
  refine ⟨List.pairwise_cons.2 ⟨fun it hit=>?_,h1⟩,fun it hit=>?_,by simp [h3],fun j o' hj=>?_⟩
  ·have:=(h2 it hit).1
   show k<it.1
   omega
  ·rcases List.mem_cons.1 hit with rfl|hit
   ·exact ⟨Nat.le_refl _,by simp,.inr List.mem_cons_self⟩
   ·obtain ⟨a1,a2,a3⟩:=h2 it hit
    refine ⟨by omega,?_,a3.imp id (List.mem_cons_of_mem _)⟩;rw [show it.1-k=(it.1-(k+1))+1 by omega,List.getElem?_cons_succ];exact a2
  ·cases j with
   | zero =>
    simp only [List.getElem?_cons_zero,Option.some.injEq] at hj;subst hj;exact ⟨s,List.mem_cons_self⟩
   | succ j =>
    obtain ⟨s',hs⟩:=h4 j o' (by simpa using hj);exact ⟨s',List.mem_cons_of_mem _ (by rw [show k+(j+1)=k+1+j by omega];exact hs)⟩
theorem qT {Q':Exit→Act→World→Prop} {a:Act} {w:World} (ss:List cB) (hB:lxB l=true) (h0:R w0 w.drew) (htr:∀ X Y,R w0 X→R X Y→R w0 Y)
  (hst:∀ S,some S∈ss→∀ v X Y,S v X→R X Y→S v Y) (h:CertR P l.toArray R w0 (wpList P l.toArray Q' []) (inB (clo l)) (its 0 l ss) [] a):wpAny P .any l.toArray Q' l.toArray.size (Array.replicate l.toArray.size false) a { w with drawn:=w.drawn+1 }:=by
 obtain ⟨h1,h2,h3,h4⟩:=eX 0 l ss
 have hlen:l.toArray.size=(its 0 l ss).length+0:=by rw [h3];simp
 rw [hlen];refine sQ (T:=0) hB htr (fun t h1 h2=>by omega) (fun listed a w hs hall _ hq=>?_) (its 0 l ss).length _ (its 0 l ss) [] a _ rfl ⟨h1,fun it hit=>?_,fun k o _ hk _=>?_,fun k h1 h2=>by omega⟩ (by simp [h3]) ?_ ?_ (fun p F hp=>(by cases hp)) h0 h
 ·refine ⟨?_,hq⟩
  apply List.eq_nil_iff_forall_not_mem.2
  intro i hi;obtain ⟨h0,o,ho,_⟩:=mem_ready.1 hi;have hlt:i<l.length:=(List.getElem?_eq_some_iff.1 (show l[i]?=some o by simpa using ho)).1;rw [hall i (by omega)] at h0
  cases h0
 ·obtain ⟨_,a2,_⟩:=h2 it hit
  have:it.1<l.length:=(List.getElem?_eq_some_iff.1 (by simpa using a2)).1;refine ⟨by simpa using a2,?_,by omega⟩
  simp [h3,this]
 ·obtain ⟨s,hs⟩:=h4 k o hk
  exact ⟨s,by simpa using hs⟩
 ·intro k o hk hl
  have:k<l.length:=(List.getElem?_eq_some_iff.1 hk).1
  simp [h3,this] at hl
 ·intro it hit S hS
  rcases (h2 it hit).2.2 with h'|h'
  ·rw [hS] at h'
   cases h'
  ·rw [hS] at h'
   exact hst S h'
def kQ (l:List Oper):Bool:=(List.range (l.length-1)).all fun p=>inB (clo l) (l.length-1) p
theorem gG {Q':Exit→Act→World→Prop} {a:Act} {w:World} {z:Oper} (ss:List cB) (hB:lxB l=true) (hT:kQ l=true) (hz:l.drop (l.length-1)=[z]) (h0:R w0 w.drew) (htr:∀ X Y,R w0 X→R X Y→R w0 Y)
  (hst:∀ S,some S∈ss→∀ v X Y,S v X→R X Y→S v Y) (h:CertR P l.toArray R w0 (wpList P l.toArray Q' [z]) (inB (clo l)) (its 0 l.dropLast ss) [] a):wpAny P .any l.toArray Q' l.toArray.size (Array.replicate l.toArray.size false) a { w with drawn:=w.drawn+1 }:=by
 obtain ⟨h1,h2,h3,h4⟩:=eX 0 l.dropLast ss
 have hpos:0<l.length:=by
  cases l with
  | nil=>simp at hz
  | cons x r=>simp
 have hdl:∀ k,k<l.length-1→l.dropLast[k]?=l[k]?:=fun k hk=>by
  rw [List.getElem?_dropLast,if_pos hk]
 have hlen:l.toArray.size=(its 0 l.dropLast ss).length+1:=by rw [h3];simp;omega
 have a60:(its 0 l.dropLast ss).length+1=l.length:=by rw [h3];simp;omega
 have hzl:l[l.length-1]?=some z:=by
  have:=congrArg (·[0]?) hz
  simpa [List.getElem?_drop] using this
 rw [hlen];refine sQ (T:=1) hB htr (fun t h1 h2 p hp=>?_) (fun listed a w hs hall hun hq=>?_) (its 0 l.dropLast ss).length _ (its 0 l.dropLast ss) [] a _ rfl ⟨h1,fun it hit=>?_,fun k o hkT hk _=>?_,fun k h1 h2=>by simp [a60,h2]⟩ (by simp [a60]) ?_ ?_ (fun p F hp=>(by cases hp)) h0 h
 ·have:t=l.length-1:=by omega
  subst this
  unfold kQ at hT
  exact List.all_eq_true.1 hT p (List.mem_range.2 hp)
 ·have getD_ft:∀ k,k<l.length→listed.getD k true=listed.getD k false:=fun k hk=>by
   simp only [Array.getD_eq_getD_getElem?,Array.getElem?_eq_getElem (hs ▸ hk),Option.getD_some]
  have hzu:=hun (l.length-1) (by omega) (by omega)
  have hr:l.length-1∈Region.ready .any l.toArray listed:=mem_ready.2 ⟨hzu,z,by simpa using hzl,fun e he hb=>by
   have:=((eF hB).2 _ z hzl).1 e he hb;rw [← getD_ft _ (by omega)]
   exact hall _ (by omega)⟩
  refine ⟨fun hnil=>?_,fun i hi=>?_⟩
  ·rw [hnil] at hr
   cases hr
  ·obtain ⟨hi0,o,ho,_⟩:=mem_ready.1 hi
   have hil:i<l.length:=(List.getElem?_eq_some_iff.1 (show l[i]?=some o by simpa using ho)).1
   have:i=l.length-1:=by
    rcases Nat.lt_or_ge i (l.length-1) with h'|h'
    ·rw [hall i h'] at hi0
     cases hi0
    ·omega
   subst this
   have hoz:o=z:=by
    have:l[l.length-1]?=some o:=by simpa using ho
    rw [hzl] at this
    injection this with this
    exact this.symm
   subst hoz
   have fin:∀ a' w',wpList P l.toArray Q' [] a' w'→wpAny P .any l.toArray Q' 0 (listed.setIfInBounds (l.length-1) true) a' w':=fun a' w' hq'=>by
    refine ⟨?_,hq'⟩
    apply List.eq_nil_iff_forall_not_mem.2
    intro j hj;obtain ⟨hj0,oj,hoj,_⟩:=mem_ready.1 hj;have hjl:j<l.length:=(List.getElem?_eq_some_iff.1 (show l[j]?=some oj by simpa using hoj)).1
    by_cases hne:l.length-1=j
    ·subst hne
     simp [hs] at hj0
    ·rw [getD_set_ne true hne,hall j (by omega)] at hj0
     cases hj0
   unfold wpOp
   simp only [ho]
   unfold wpList at hq
   split
   ·rename_i hw
    rw [if_pos hw] at hq;exact hq.imp (Oper.wp_mono fin) (fun h=>h)
   ·rename_i hw
    rw [if_neg hw] at hq;exact fin _ _ hq
 ·obtain ⟨_,a2,_⟩:=h2 it hit
  have a3:it.1<l.dropLast.length:=(List.getElem?_eq_some_iff.1 (by simpa using a2)).1
  have a4:it.1<l.length-1:=by simpa using a3
  have a5:it.1<l.length:=by omega
  have a6:(its 0 l.dropLast ss).length+1=l.length:=by rw [h3];simp;omega
  refine ⟨?_,by simp [a6,a5],a4⟩;rw [← hdl _ a4]
  simpa using a2
 ·obtain ⟨s,hs⟩:=h4 k o (by rw [hdl k hkT];exact hk)
  exact ⟨s,by simpa using hs⟩
 ·intro k o hk hl
  have a5:k<l.length:=(List.getElem?_eq_some_iff.1 hk).1
  have a6:(its 0 l.dropLast ss).length+1=l.length:=by rw [h3];simp;omega
  simp [a6,a5] at hl
 ·intro it hit S hS
  rcases (h2 it hit).2.2 with h'|h'
  ·rw [hS] at h'
   cases h'
  ·rw [hS] at h'
   exact hst S h'
theorem jI {id:Nat} {Q':Exit→Act→World→Prop} {a:Act} {w:World} (ss:List cB) (hm:P.follows .mixedOrders=true) (hB:lxB l=true) (h0:R w0 w.drew) (htr:∀ X Y,R w0 X→R X Y→R w0 Y)
  (hst:∀ S,some S∈ss→∀ v X Y,S v X→R X Y→S v Y) (h:CertR P l.toArray R w0 (wpList P l.toArray Q' []) (inB (clo l)) (its 0 l ss) [] a):(Code.region id l.toArray true).wp P Q' a w:=wp_region_any hm (qT ss hB h0 htr hst h)
theorem lZ {id:Nat} {Q':Exit→Act→World→Prop} {a:Act} {w:World} {z:Oper} (ss:List cB) (hm:P.follows .mixedOrders=true) (hB:lxB l=true) (hT:kQ l=true) (hz:l.drop (l.length-1)=[z]) (h0:R w0 w.drew) (htr:∀ X Y,R w0 X→R X Y→R w0 Y)
  (hst:∀ S,some S∈ss→∀ v X Y,S v X→R X Y→S v Y) (h:CertR P l.toArray R w0 (wpList P l.toArray Q' [z]) (inB (clo l)) (its 0 l.dropLast ss) [] a):(Code.region id l.toArray true).wp P Q' a w:=wp_region_any hm (gG ss hB hT hz h0 htr hst h)
theorem eC {ops:Array Oper} {pre:Nat→Nat→Bool} (htr:∀ X Y,R w0 X→R X Y→R w0 Y) {Q':Exit→Act→World→Prop} {tail:List Oper} :
  ∀ (items:List (Nat×Oper×cB)) (Fs:List (Nat×(World→Prop))) (a:Act) (X:World),(∀ it∈items,∀ S,it.2.2=some S→∀ v X Y,S v X→R X Y→S v Y) →
   (∀ p F,(p,F)∈Fs→F X∧∀ X Y,F X→R X Y→F Y)→R w0 X→CertR P ops R w0 (wpList P ops Q' tail) pre items Fs a→wpList P ops Q' (items.map (·.2.1)++tail) a X
 | [],Fs,a,X,_,hF,hX,h=>h X hX fun p F hp=>(hF p F hp).1
 | (k,o,s) :: items,Fs,a,X,hst,hF,hX,h=>by
  have hst':∀ it∈items,∀ S,it.2.2=some S→∀ v X Y,S v X→R X Y→S v Y:=fun it hit=>hst it (List.mem_cons_of_mem _ hit)
  have keep:∀ X',R X X'→∀ p F,(p,F)∈Fs→F X'∧∀ X Y,F X→R X Y→F Y:=fun X' hXX p F hm=>⟨(hF p F hm).2 X X' (hF p F hm).1 hXX,(hF p F hm).2⟩
  rw [List.map_cons,List.cons_append]
  unfold CertR at h
  unfold wpList
  split
  ·rename_i hw
   rw [if_pos hw] at h;refine .inl ?_
   cases s with
   | none =>
    obtain ⟨v,hq,hc⟩:=h
    have hq:=hq X hX fun p F hm _=>(hF p F hm).1
    unfold cM at hq
    unfold Oper.wp
    simp only
    generalize (execOp a.eval o).run P X=r at hq ⊢
    cases r with
    | ok n w' =>
     cases n <;> simp only [Oper.upon] at hq ⊢
     case value u=>obtain ⟨rfl,rfl⟩:=hq;exact eC htr items Fs _ _ hst' hF hX hc
     case skip=>obtain ⟨rfl,rfl⟩:=hq;exact eC htr items Fs _ _ hst' hF hX hc
     case enter f args =>
      obtain ⟨rfl,_,hcall⟩:=hq
      exact hcall.mono fun e w'' ⟨he,hR⟩=>by subst he;exact eC htr items Fs _ _ hst' (keep _ hR) (htr _ _ hX hR) hc
    | halt x w'=>exact hq.elim
   | some S =>
    obtain ⟨hq,hc⟩:=h
    have hq:=hq X hX fun p F hm _=>(hF p F hm).1
    have hS:=hst _ List.mem_cons_self S rfl
    have fin:∀ v X',S v X'∧R X X'→wpList P ops Q' (items.map (·.2.1)++tail) (a.put o.dst v) X':=fun v X' ⟨h1,h2⟩ =>
     eC htr items ((k,S v) :: Fs) _ _ hst' (fun p F hm=>by
      rcases List.mem_cons.1 hm with heq|hm
      ·injection heq with e1 e2
       subst e2;exact ⟨h1,fun X Y=>hS v X Y⟩
      ·exact keep _ h2 p F hm) (htr _ _ hX h2) (hc v)
    unfold dN at hq
    unfold Oper.wp
    simp only
    generalize (execOp a.eval o).run P X=r at hq ⊢
    cases r with
    | ok n w' =>
     cases n <;> simp only [Oper.upon] at hq ⊢
     case value u=>exact fin _ _ hq
     case skip=>exact fin _ _ hq
     case enter f args =>
      exact hq.mono fun e w'' ⟨v,he,h2⟩=>by subst he;exact fin _ _ h2
    | halt x w'=>exact hq.elim
  ·rename_i hw
   rw [if_neg hw] at h;exact eC htr items Fs _ _ hst' hF hX h
theorem kZ:∀ (k:Nat) (l:List Oper) (ss:List cB),(its k l ss).map (·.2.1)=l
 | _,[],_=>by unfold its;rfl
 | k,o :: l,[]=>by unfold its;rw [List.map_cons,kZ (k+1) l []]
 | k,o :: l,s :: ss=>by unfold its;rw [List.map_cons,kZ (k+1) l ss]
theorem iK {id:Nat} {Q':Exit→Act→World→Prop} {a:Act} {w:World} {pre:Nat→Nat→Bool} (l1 l2:List Oper) (ss:List cB) (hl:l=l1++l2) (h0:R w0 w) (htr:∀ X Y,R w0 X→R X Y→R w0 Y)
  (hst:∀ S,some S∈ss→∀ v X Y,S v X→R X Y→S v Y) (h:CertR P l.toArray R w0 (wpList P l.toArray Q' l2) pre (its 0 l1 ss) [] a):(Code.region id l.toArray false).wp P Q' a w:=by
 refine wp_region_lit ?_
 have hq:=eC (tail:=l2) htr (its 0 l1 ss) [] a w (fun it hit S hS=>by
  rcases ((eX 0 l1 ss).2.1 it hit).2.2 with h'|h'
  ·rw [hS] at h'
   cases h'
  ·rw [hS] at h'
   exact hst S h') (fun p F hp=>by cases hp) h0 h
 rw [kZ,← hl] at hq;exact hq
end
structure bT (P:Program) (ops:Array Oper) (R:World→World→Prop) (w0:World) (Q:Act→World→Prop) (pre:Nat→Nat→Bool) (l:List (Nat×Oper×cB)) (Fs:List (Nat×(World→Prop))) (a:Act):Prop where
 out:CertR P ops R w0 Q pre l Fs a
/-! ### One operation at a time -/
section
variable {P:Program} {ops:Array Oper} {R:World→World→Prop} {w0:World} {Q:Act→World→Prop} {pre:Nat→Nat→Bool} {a:Act} {k:Nat} {o:Oper} {l:List (Nat×Oper×cB)} {Fs:List (Nat×(World→Prop))}
theorem kC (hw:Region.wanted o (yielded ops a.tmps)=true) (v:Value) (hq:∀ X:World,R w0 X→(∀ p F,(p,F)∈Fs→pre k p=true→F X)→(execOp a.eval o).run P X=.ok (.value v) X)
  (h:bT P ops R w0 Q pre l Fs (a.put o.dst v)):bT P ops R w0 Q pre ((k,o,none) :: l) Fs a:=by
 refine ⟨?_⟩
 unfold CertR
 rw [if_pos hw];refine ⟨v,fun X hX hF=>?_,h.out⟩
 unfold cM
 rw [hq X hX hF];exact ⟨rfl,rfl⟩
theorem qXc (hw:Region.wanted o (yielded ops a.tmps)=true) (f:FuncId) (xs:List Operand) (ts:Array TypeId) (ho:o.op=.call { callee:=.value (.func f),args:=xs.toArray,argTypes:=ts }) (v:Value) (args:List Value) (he:xs.map a.eval=args)
  (hi:P.inits.idxOf? f=none) (hf:∀ X:World,(callFunc f args.toArray).run P X=.ok (.enter f args.toArray) X)
  (hc:∀ X,R w0 X→(∀ p F,(p,F)∈Fs→pre k p=true→F X)→Calls P f args.toArray X fun e X'=>e=.returned v∧R X X') (h:bT P ops R w0 Q pre l Fs (a.put o.dst v)):bT P ops R w0 Q pre ((k,o,none) :: l) Fs a:=by
 refine ⟨?_⟩
 unfold CertR
 rw [if_pos hw];refine ⟨v,fun X hX hF=>?_,h.out⟩;have hc:=hc X hX hF
 have he2:xs.toArray.map a.eval=args.toArray:=by rw [List.map_toArray,he]
 have hrun:(execOp a.eval o).run P X=.ok (.enter f args.toArray) X:=by
  unfold execOp
  rw [ho];have hfX:=hf X
  go_simp
 unfold cM
 rw [hrun];exact ⟨rfl,hi,hc⟩
theorem qXb {S:Value→World→Prop} (hw:Region.wanted o (yielded ops a.tmps)=true) (f:FuncId) (xs:List Operand) (ts:Array TypeId) (ho:o.op=.call { callee:=.value (.func f),args:=xs.toArray,argTypes:=ts }) (args:List Value) (he:xs.map a.eval=args)
  (hf:∀ X:World,(callFunc f args.toArray).run P X=.ok (.enter f args.toArray) X)
  (hc:∀ X,R w0 X→(∀ p F,(p,F)∈Fs→pre k p=true→F X)→Calls P f args.toArray X fun e X'=>∃ v,e=.returned v∧S v X'∧R X X') (h:∀ v,bT P ops R w0 Q pre l ((k,S v) :: Fs) (a.put o.dst v)):bT P ops R w0 Q pre ((k,o,some S) :: l) Fs a:=by
 refine ⟨?_⟩
 unfold CertR
 rw [if_pos hw];refine ⟨fun X hX hF=>?_,fun v=>(h v).out⟩;have hc:=hc X hX hF
 have he2:xs.toArray.map a.eval=args.toArray:=by rw [List.map_toArray,he]
 have hrun:(execOp a.eval o).run P X=.ok (.enter f args.toArray) X:=by
  unfold execOp
  rw [ho];have hfX:=hf X
  go_simp
 unfold dN
 rw [hrun];exact hc
theorem bP {S:Value→World→Prop} (hw:Region.wanted o (yielded ops a.tmps)=true) (hq:∀ X:World,R w0 X→(∀ p F,(p,F)∈Fs→pre k p=true→F X)→∃ v X',(execOp a.eval o).run P X=.ok (.value v) X'∧S v X'∧R X X')
  (h:∀ v,bT P ops R w0 Q pre l ((k,S v) :: Fs) (a.put o.dst v)):bT P ops R w0 Q pre ((k,o,some S) :: l) Fs a:=by
 refine ⟨?_⟩
 unfold CertR
 rw [if_pos hw];refine ⟨fun X hX hF=>?_,fun v=>(h v).out⟩;obtain ⟨v,X',hr,h1,h2⟩:=hq X hX hF
 unfold dN
 rw [hr];exact ⟨h1,h2⟩
theorem qXa {s:cB} (hw:Region.wanted o (yielded ops a.tmps)=false) (h:bT P ops R w0 Q pre l Fs (a.put o.dst undef)):bT P ops R w0 Q pre ((k,o,s) :: l) Fs a:=by
 refine ⟨?_⟩
 unfold CertR
 rw [if_neg (by rw [hw];exact Bool.false_ne_true)];exact h.out
theorem aM (h:∀ X,R w0 X→(∀ p F,(p,F)∈Fs→F X)→Q a X):bT P ops R w0 Q pre [] Fs a:=⟨h⟩
end
open Go.RowKit
def dF (S:Value→World→Prop):Prop:=∀ v X Y,S v X→Since X Y→S v Y
theorem aG:∀ S,some S∈([]:List cB)→∀ v X Y,S v X→Since X Y→S v Y:=fun S h=>by cases h
theorem aA {ss:List cB} (h:∀ S,some S∈ss→∀ v X Y,S v X→Since X Y→S v Y):∀ S,some S∈(none:cB) :: ss→∀ v X Y,S v X→Since X Y→S v Y:=fun S hm=>by
 rcases List.mem_cons.1 hm with h'|h'
 ·cases h'
 ·exact h S h'
theorem aD {T:Value→World→Prop} {ss:List cB} (hT:dF T) (h:∀ S,some S∈ss→∀ v X Y,S v X→Since X Y→S v Y):∀ S,some S∈(some T:cB) :: ss→∀ v X Y,S v X→Since X Y→S v Y:=fun S hm=>by
 rcases List.mem_cons.1 hm with h'|h'
 ·injection h' with h'
  subst h';exact hT
 ·exact h S h'
section
variable {P:Program} {l:List Oper} {ops:Array Oper} {w:World} {Q:Act→World→Prop} {pre:Nat→Nat→Bool} {a:Act} {k:Nat} {o:Oper} {rest:List (Nat×Oper×cB)} {Fs:List (Nat×(World→Prop))}
theorem oY {id:Nat} {Q':Exit→Act→World→Prop} (ss:List cB) (hm:P.follows .mixedOrders=true) (hB:lxB l=true)
  (hst:∀ S,some S∈ss→∀ v X Y,S v X→Since X Y→S v Y) (h:bT P l.toArray Since w (wpList P l.toArray Q' []) (inB (clo l)) (its 0 l ss) [] a):(Code.region id l.toArray true).wp P Q' a w :=
 jI ss hm hB (show Since w w.drew from (Below.refl w.heap.size w).drew) (fun _ _ h h'=>h.next h') hst h.out
theorem bH {id:Nat} {Q':Exit→Act→World→Prop} {z:Oper} (ss:List cB) (hm:P.follows .mixedOrders=true) (hB:lxB l=true) (hT:kQ l=true) (hz:l.drop (l.length-1)=[z])
  (hst:∀ S,some S∈ss→∀ v X Y,S v X→Since X Y→S v Y) (h:bT P l.toArray Since w (wpList P l.toArray Q' [z]) (inB (clo l)) (its 0 l.dropLast ss) [] a):(Code.region id l.toArray true).wp P Q' a w :=
 lZ ss hm hB hT hz (show Since w w.drew from (Below.refl w.heap.size w).drew) (fun _ _ h h'=>h.next h') hst h.out
theorem bE {id:Nat} {Q':Exit→Act→World→Prop} (ss:List cB) (hst:∀ S,some S∈ss→∀ v X Y,S v X→Since X Y→S v Y)
  (h:bT P l.toArray Since w (wpList P l.toArray Q' []) (fun _ _=>true) (its 0 l ss) [] a):(Code.region id l.toArray false).wp P Q' a w :=
 iK l [] ss (List.append_nil l).symm (show Since w w from Below.refl w.heap.size w) (fun _ _ h h'=>Since.next h h') hst h.out
theorem aZ {id:Nat} {Q':Exit→Act→World→Prop} (n:Nat) (ss:List cB) (hst:∀ S,some S∈ss→∀ v X Y,S v X→Since X Y→S v Y)
  (h:bT P l.toArray Since w (wpList P l.toArray Q' (l.drop n)) (fun _ _=>true) (its 0 (l.take n) ss) [] a):(Code.region id l.toArray false).wp P Q' a w :=
 iK (l.take n) (l.drop n) ss (List.take_append_drop n l).symm (show Since w w from Below.refl w.heap.size w) (fun _ _ h h'=>Since.next h h') hst h.out
theorem aX {id:Nat} {Q':Exit→Act→World→Prop} (h:bT P l.toArray Eq w (wpList P l.toArray Q' []) (fun _ _=>true) (its 0 l []) [] a):(Code.region id l.toArray false).wp P Q' a w :=
 iK l [] [] (List.append_nil l).symm rfl (fun _ _ h h'=>h.trans h') (fun S h=>by cases h) h.out
theorem bX {id:Nat} {Q':Exit→Act→World→Prop} (n:Nat) (h:bT P l.toArray Eq w (wpList P l.toArray Q' (l.drop n)) (fun _ _=>true) (its 0 (l.take n) []) [] a):(Code.region id l.toArray false).wp P Q' a w :=
 iK (l.take n) (l.drop n) [] (List.take_append_drop n l).symm rfl (fun _ _ h h'=>h.trans h') (fun S h=>by cases h) h.out
def Bts (l:List UInt8) (v:Value) (X:World):Prop:=∃ A c,v=.slice A l.length c∧Rd X 1 (.slice A l.length c) l.length (l.map B8)
theorem Bts.lasts (l:List UInt8):dF (Bts l):=by
 rintro v X Y ⟨A,c,hv,hr⟩ hS
 exact ⟨A,c,hv,hr.below hS⟩
theorem yV (hw:Region.wanted o (yielded ops a.tmps)=true) (src dst e:TypeId) (x:Operand) (ho:o.op=.convert src dst x) (m:List UInt8) (hx:a.eval x=vS m) (hs:P.underlying src=some .string) (hd:P.underlying dst=some (.slice e)) (he:P.underlying e=some (.int .u8)) (hl:m.length≤140737488355328)
  (h:∀ v,bT P ops Since w Q pre rest ((k,Bts m v) :: Fs) (a.put o.dst v)):bT P ops Since w Q pre ((k,o,some (Bts m)) :: rest) Fs a:=by
 refine bP hw (fun X hX _=>?_) h;obtain ⟨c,w1,h1,h2,h3⟩:=tZ (P:=P) X src dst e hs hd he m hl;refine ⟨_,w1,?_,⟨_,c,rfl,h2⟩,h3⟩
 unfold execOp
 simp only [ho,hx,Sem.run_bind,h1,Result.andThen_ok,Sem.run_pure]
end
section
variable {P:Program}
theorem fZ {f:Operand→Value} {o:Oper} (t t':TypeId) (x y:Operand) (ho:o.op=.binOp .eql t x y t') (l m:List UInt8) (hx:f x=vS l) (hy:f y=vS m) (w:World):(execOp f o).run P w=.ok (.value (.bool (l == m))) w:=by
 have h:(l == m)=(decide (l=m)):=by
  rw [Bool.eq_iff_iff]
  simp
 rw [h]
 unfold execOp
 simp only [ho,hx,hy]
 go_simp
theorem zV {f:Operand→Value} {o:Oper} (t t':TypeId) (x y:Operand) (ho:o.op=.binOp .neq t x y t') (l m:List UInt8) (hx:f x=vS l) (hy:f y=vS m) (w:World):(execOp f o).run P w=.ok (.value (.bool (l != m))) w:=by
 have h:(l != m)=(!decide (l=m)):=by
  rw [Bool.eq_iff_iff]
  simp
 rw [h]
 unfold execOp
 simp only [ho,hx,hy]
 go_simp
 rw [Bool.eq_iff_iff]
 simp
theorem nU {f:Operand→Value} {o:Oper} (src dst e:TypeId) (hs:P.underlying src=some (.slice e)) (he:P.underlying e=some (.int .u8)) (hd:P.underlying dst=some .string) (x:Operand) (ho:o.op=.convert src dst x)
  {v:Value} {n:Nat} {bs:List UInt8} (hx:f x=v) {w:World} (hr:Rd w 1 v n (bs.map B8)):(execOp f o).run P w=.ok (.value (vS bs)) w:=by
 have h:=uN (P:=P) (w:=w) src dst e hs he hd hr
 unfold execOp
 simp only [ho,hx,Sem.run_bind,h,Result.andThen_ok,Sem.run_pure]
end
section
variable {P:Program} {f:Operand→Value} {o:Oper}
theorem cF {op:BinOp} {t t':TypeId} {x y:Operand} (ho:o.op=.binOp op t x y t') {u v r:Value} (hx:f x=u) (hy:f y=v) {w:World} (hg:(Go.eqGuard op t x y u v).run P w=.ok () w) (hr:(binOp op t u v).run P w=.ok r w) :
  (execOp f o).run P w=.ok (.value r) w:=by
 unfold execOp
 simp only [ho,hx,hy,Sem.run_bind,hg,Result.andThen_ok,hr,Sem.run_pure]
theorem aU (t t':TypeId) (x y:Operand) (ho:o.op=.binOp .add t x y t') (m n r:Int) (hx:f x=vI m) (hy:f y=vI n) (hr:m+n=r) (h1:-9223372036854775808≤r) (h2:r≤9223372036854775807) (w:World):(execOp f o).run P w=.ok (.value (vI r)) w:=by
 refine cF ho hx hy (by rfl) ?_
 show (Op.intArith .add .i64 m n).run P w=_
 have h:IntKind.i64.wrap (m+n)=r:=by rw [hr];exact IntWalk.i64_in _ ⟨h1,h2⟩
 simp [Op.intArith,h]
theorem bM (t t':TypeId) (x y:Operand) (ho:o.op=.binOp .sub t x y t') (m n r:Int) (hx:f x=vI m) (hy:f y=vI n) (hr:m-n=r) (h1:-9223372036854775808≤r) (h2:r≤9223372036854775807) (w:World):(execOp f o).run P w=.ok (.value (vI r)) w:=by
 refine cF ho hx hy (by rfl) ?_
 show (Op.intArith .sub .i64 m n).run P w=_
 have h:IntKind.i64.wrap (m-n)=r:=by rw [hr];exact IntWalk.i64_in _ ⟨h1,h2⟩
 simp [Op.intArith,h]
theorem zW (t t':TypeId) (x y:Operand) (ho:o.op=.binOp .mul t x y t') (m n r:Int) (hx:f x=vI m) (hy:f y=vI n) (hr:m * n=r) (h1:-9223372036854775808≤r) (h2:r≤9223372036854775807) (w:World):(execOp f o).run P w=.ok (.value (vI r)) w:=by
 refine cF ho hx hy (by rfl) ?_
 show (Op.intArith .mul .i64 m n).run P w=_
 have h:IntKind.i64.wrap (m * n)=r:=by rw [hr];exact IntWalk.i64_in _ ⟨h1,h2⟩
 simp [Op.intArith,h]
theorem dS (t t':TypeId) (x y:Operand) (ho:o.op=.binOp .eql t x y t') (k:IntKind) (m n:Int) (hx:f x=.int k m) (hy:f y=.int k n) (b:Bool) (hb:decide (m=n)=b) (w:World):(execOp f o).run P w=.ok (.value (.bool b)) w:=by
 refine cF ho hx hy (by rfl) ?_
 simp [binOp,Op.intCmp,← hb,BEq.beq]
theorem aS (t t':TypeId) (x y:Operand) (ho:o.op=.binOp .neq t x y t') (k:IntKind) (m n:Int) (hx:f x=.int k m) (hy:f y=.int k n) (b:Bool) (hb:decide (m=n)=!b) (w:World):(execOp f o).run P w=.ok (.value (.bool b)) w:=by
 refine cF ho hx hy (by rfl) ?_
 have:b=!decide (m=n):=by rw [hb,Bool.not_not]
 simp [binOp,Op.intCmp,this,bne,BEq.beq]
theorem dB (t t':TypeId) (x y:Operand) (ho:o.op=.binOp .lss t x y t') (k:IntKind) (m n:Int) (hx:f x=.int k m) (hy:f y=.int k n) (b:Bool) (hb:decide (m<n)=b) (w:World):(execOp f o).run P w=.ok (.value (.bool b)) w:=by
 refine cF ho hx hy (by rfl) ?_
 simp [binOp,Op.intCmp,← hb]
theorem sJ (t t':TypeId) (x y:Operand) (ho:o.op=.binOp .leq t x y t') (k:IntKind) (m n:Int) (hx:f x=.int k m) (hy:f y=.int k n) (b:Bool) (hb:decide (m≤n)=b) (w:World):(execOp f o).run P w=.ok (.value (.bool b)) w:=by
 refine cF ho hx hy (by rfl) ?_
 simp [binOp,Op.intCmp,← hb]
theorem fY (t t':TypeId) (x y:Operand) (ho:o.op=.binOp .gtr t x y t') (k:IntKind) (m n:Int) (hx:f x=.int k m) (hy:f y=.int k n) (b:Bool) (hb:decide (n<m)=b) (w:World):(execOp f o).run P w=.ok (.value (.bool b)) w:=by
 refine cF ho hx hy (by rfl) ?_
 simp [binOp,Op.intCmp,← hb]
theorem eM (t t':TypeId) (x y:Operand) (ho:o.op=.binOp .geq t x y t') (k:IntKind) (m n:Int) (hx:f x=.int k m) (hy:f y=.int k n) (b:Bool) (hb:decide (n≤m)=b) (w:World):(execOp f o).run P w=.ok (.value (.bool b)) w:=by
 refine cF ho hx hy (by rfl) ?_
 simp [binOp,Op.intCmp,← hb]
theorem zU (t:TypeId) (x:Operand) (ho:o.op=.unOp .not t x) (b:Bool) (hx:f x=.bool b) (w:World):(execOp f o).run P w=.ok (.value (.bool (!b))) w:=by
 unfold execOp
 simp only [ho,hx]
 rfl
theorem bJ (src dst:TypeId) (k k':IntKind) (hs:P.underlying src=some (.int k)) (hd:P.underlying dst=some (.int k')) (x:Operand) (ho:o.op=.convert src dst x) (n r:Int) (hx:f x=.int k n) (hr:k'.wrap n=r) (w:World):(execOp f o).run P w=.ok (.value (.int k' r)) w:=by
 unfold execOp
 simp only [ho,hx]
 simp [convert,run_underlying hs,run_underlying hd,Conv.intToInt,hr]
theorem lH {b:Builtin} {xs:Array Operand} {ts:Array TypeId} (ho:o.op=.call { callee:=.builtin b,args:=xs,argTypes:=ts }):execOp f o=builtin b ts o.type (xs.map fun|.const _=>true|_=>false) (xs.map f):=by
 obtain ⟨dst,op,type,pos,after,guard⟩:=o;simp only at ho;subst ho
 rfl
theorem zY {ts:Array TypeId} (x y:Operand) (ho:o.op=.call { callee:=.builtin .min,args:=#[x,y],argTypes:=ts }) (k:IntKind) (m n r:Int) (hx:f x=.int k m) (hy:f y=.int k n) (hr:min m n=r) (w:World):(execOp f o).run P w=.ok (.value (.int k r)) w:=by
 rw [lH ho,BigFrame.builtin_min]
 have h:(if n<m then n else m)=r:=by rw [← hr];split <;> omega
 simp [Builtin.min_,Builtin.min2,hx,hy,h]
theorem eK {ts:Array TypeId} (x y:Operand) (ho:o.op=.call { callee:=.builtin .max,args:=#[x,y],argTypes:=ts }) (k:IntKind) (m n r:Int) (hx:f x=.int k m) (hy:f y=.int k n) (hr:max m n=r) (w:World):(execOp f o).run P w=.ok (.value (.int k r)) w:=by
 rw [lH ho,BigFrame.builtin_max]
 have h:(if m<n then n else m)=r:=by rw [← hr];split <;> omega
 have h2:(if n > m then n else m)=r:=h
 simp [Builtin.max_,Builtin.max2,hx,hy,h]
theorem bA {t:TypeId} (hu:P.underlying t=some .string) (x:Operand) (ho:o.op=.call { callee:=.builtin .len,args:=#[x],argTypes:=#[t] }) (l:List UInt8) (hx:f x=vS l) (n:Int) (hn:(l.length:Int)=n) (w:World):(execOp f o).run P w=.ok (.value (vI n)) w:=by
 rw [lH ho,BigFrame.builtin_len]
 have hs:(⟨l.toArray⟩:ByteArray).size=l.length:=by simp [ByteArray.size]
 simp [Builtin.len_,run_underlying hu,hx,goInt,hs,hn]
theorem aN {t e:TypeId} (hu:P.underlying t=some (.slice e)) (x:Operand) (ho:o.op=.call { callee:=.builtin .len,args:=#[x],argTypes:=#[t] }) (A:Option Addr) (m c:Nat) (hx:f x=.slice A m c) (n:Int) (hn:(m:Int)=n) (w:World):(execOp f o).run P w=.ok (.value (vI n)) w:=by
 rw [lH ho,BigFrame.builtin_len]
 simp [Builtin.len_,run_underlying hu,hx,goInt,hn]
theorem lE (t t':TypeId) (x y:Operand) (ho:o.op=.binOp .rem t x y t') (k:IntKind) (m n r:Int) (hx:f x=.int k m) (hy:f y=.int k n) (hm:0≤m) (hn:0<n) (hr:m % n=r) (w:World):(execOp f o).run P w=.ok (.value (.int k r)) w:=by
 refine cF ho hx hy (by rfl) ?_
 have h:m.tmod n=r:=by rw [← hr];exact Int.tmod_eq_emod_of_nonneg hm
 have h0:n≠0:=by omega
 simp [binOp,Op.intDiv,h,h0]
theorem jE (t t':TypeId) (x y:Operand) (ho:o.op=.binOp .quo t x y t') (k:IntKind) (m n r:Int) (hx:f x=.int k m) (hy:f y=.int k n) (hm:0≤m) (hn:0<n) (hr:m / n=r) (hw:k.wrap r=r) (w:World):(execOp f o).run P w=.ok (.value (.int k r)) w:=by
 refine cF ho hx hy (by rfl) ?_
 have h:m.tdiv n=r:=by rw [← hr];exact Int.tdiv_eq_ediv_of_nonneg hm
 have h0:n≠0:=by omega
 simp [binOp,Op.intDiv,h,h0,hw]
theorem jK (b off k:Nat):(⟨b,off,none⟩:Addr).add k=⟨b,off+k,none⟩:=by
 unfold Addr.add
 split <;> simp_all
theorem aW {t e:TypeId} (hu:P.underlying t=some (.slice e)) {sz:Nat} (hs:(P.info? e).map (·.size)=some sz) (x i:Operand) (ho:o.op=.indexAddr t x i) (b off n c k:Nat) (hk:k<n) (hx:f x=.slice (some ⟨b,off,none⟩) n c) {z:Int} (hi:f i=vI z) (hz:z=(k:Int)) (w:World) :
  (execOp f o).run P w=.ok (.value (vP b (off+k * sz))) w:=by
 subst hz
 unfold execOp
 simp only [ho,hx,hi]
 cases hq:P.info? e with
 | none=>simp [hq] at hs
 | some i =>
  have hs1:i.size=sz:=by simpa [hq] using hs
  have h1:(0:Int)≤(k:Int)∧(k:Int)<(n:Int):=⟨by omega,by omega⟩
  simp [Instr.indexAt,asIntOf,run_underlying hu,sizeOf,typeInfo,hq,hs1,h1,jK]
  intro h9
  omega
theorem cQ {t e:TypeId} (hu:P.underlying t=some (.slice e)) (hs:(P.info? e).map (·.size)=some 1) (x i:Operand) (ho:o.op=.indexAddr t x i) (b off n c k:Nat) (hk:k<n) (hx:f x=.slice (some ⟨b,off,none⟩) n c) {z:Int} (hi:f i=vI z) (hz:z=(k:Int)) (w:World) :
  (execOp f o).run P w=.ok (.value (vP b (off+k))) w:=by
 have h:=aW (P:=P) hu hs x i ho b off n c k hk hx hi hz w
 rwa [Nat.mul_one] at h
theorem dR {t e:TypeId} (hu:P.underlying t=some (.slice e)) (hs:(P.info? e).map (·.size)=some 1) (x i:Operand) (ho:o.op=.indexAddr t x i) (b n c k:Nat) (hk:k<n) (hx:f x=.slice (some ⟨b,0,none⟩) n c) {z:Int} (hi:f i=vI z) (hz:z=(k:Int)) (w:World) :
  (execOp f o).run P w=.ok (.value (vP b k)) w:=by
 have h:=aW (P:=P) hu hs x i ho b 0 n c k hk hx hi hz w
 rwa [Nat.mul_one,Nat.zero_add] at h
theorem aV (t:TypeId) (x:Operand) (ho:o.op=.load t x) (b k:Nat) (hx:f x=vP b k) (v:Value) (w:World) (hc:w.cell? ⟨b,k,none⟩=some v) (hr:∀ (X:World) (u:Value),X.cell? ⟨b,k,none⟩=some u→(loadVar t ⟨b,k,none⟩).run P X=.ok u X):(execOp f o).run P w=.ok (.value v) w:=by
 have h:=hr w v hc
 unfold execOp
 simp only [ho,hx,Instr.loadAt,Instr.sureAddr,Sem.run_bind,Sem.run_pure,Result.andThen_ok,h]
theorem pJ (a:Addr):a.add 0=a:=by
 unfold Addr.add
 split <;> simp_all
theorem dW {t e:TypeId} (hu:P.underlying t=some (.slice e)) {sz:Nat} (hs:(P.info? e).map (·.size)=some sz) (x hi:Operand) (ho:o.op=.slice t x none (some hi) none) (A:Option Addr) (n c k:Nat) (hk:k≤c) (hx:f x=.slice A n c) {z:Int} (hh:f hi=vI z) (hz:z=(k:Int)) (w:World) :
  (execOp f o).run P w=.ok (.value (.slice A k c)) w:=by
 subst hz
 unfold execOp
 simp only [ho,hx,hh,Option.map]
 cases hq:P.info? e with
 | none=>simp [hq] at hs
 | some i =>
  have hs1:i.size=sz:=by simpa [hq] using hs
  have h1:(0:Int)≤(k:Int)∧(k:Int)≤(c:Int):=⟨by omega,by omega⟩
  have hm:A.map (fun a:Addr=>a.add 0)=A:=by cases A <;> simp [pJ]
  simp [Instr.sliceAt,Instr.slice,Instr.sliceBounds,Instr.sliceBound,asIntOf,run_underlying hu,sizeOf,typeInfo,hq,h1,hm]
  intro h9
  omega
theorem nY (t t':TypeId) (x y:Operand) (ho:o.op=.binOp .add t x y t') (l m:List UInt8) (hx:f x=vS l) (hy:f y=vS m) (hl:l.length+m.length≤9223372036854775807) (w:World) :
  (execOp f o).run P w=.ok (.value (vS (l++m))) w:=by
 have hcat:=ByteArray.mk_append_mk l m;refine cF ho hx hy (by rfl) ?_
 have h1:(⟨l.toArray⟩:ByteArray).size=l.length:=by simp [ByteArray.size]
 have h2:(⟨m.toArray⟩:ByteArray).size=m.length:=by simp [ByteArray.size]
 have h3:¬ 9223372036854775807<l.length+m.length:=by omega
 go_simp
end
section
variable {P:Program} {f:Operand→Value} {o:Oper}
theorem hU (t t':TypeId) (x y:Operand) (ho:o.op=.binOp .add t x y t') (k:IntKind) (m n r:Int) (hx:f x=.int k m) (hy:f y=.int k n) (hr:k.wrap (m+n)=r) (w:World):(execOp f o).run P w=.ok (.value (.int k r)) w:=by
 refine cF ho hx hy (by rfl) ?_
 simp [binOp,Op.intArith,hr]
theorem fS (t t':TypeId) (x y:Operand) (ho:o.op=.binOp .sub t x y t') (k:IntKind) (m n r:Int) (hx:f x=.int k m) (hy:f y=.int k n) (hr:k.wrap (m-n)=r) (w:World):(execOp f o).run P w=.ok (.value (.int k r)) w:=by
 refine cF ho hx hy (by rfl) ?_
 simp [binOp,Op.intArith,hr]
theorem jO (t t':TypeId) (x y:Operand) (ho:o.op=.binOp .mul t x y t') (k:IntKind) (m n r:Int) (hx:f x=.int k m) (hy:f y=.int k n) (hr:k.wrap (m * n)=r) (w:World):(execOp f o).run P w=.ok (.value (.int k r)) w:=by
 refine cF ho hx hy (by rfl) ?_
 simp [binOp,Op.intArith,hr]
theorem eJ (t t':TypeId) (x y:Operand) (ho:o.op=.binOp .shl t x y t') (k yk:IntKind) (m r:Int) (s:Nat) (hx:f x=.int k m) {z:Int} (hy:f y=.int yk z) (hz:z=(s:Int)) (hs:s≤k.bits) (hr:k.wrap (m * 2 ^ s)=r) (w:World):(execOp f o).run P w=.ok (.value (.int k r)) w:=by
 subst hz;refine cF ho hx hy (by rfl) ?_
 have h1:¬ ((s:Int)<0):=by omega
 have h2:min s k.bits=s:=by omega
 simp [binOp,Op.shift,h2,hr]
 intro h9
 omega
theorem jD (t t':TypeId) (x y:Operand) (ho:o.op=.binOp .shr t x y t') (k yk:IntKind) (m r:Int) (s:Nat) (hx:f x=.int k m) {z:Int} (hy:f y=.int yk z) (hz:z=(s:Int)) (hs:s≤k.bits) (hr:m / 2 ^ s=r) (w:World):(execOp f o).run P w=.ok (.value (.int k r)) w:=by
 subst hz;refine cF ho hx hy (by rfl) ?_
 have h2:min s k.bits=s:=by omega
 have h3:m.fdiv (2 ^ s)=r:=by rw [← hr,Int.fdiv_eq_ediv_of_nonneg];exact Int.le_of_lt (Int.pow_pos (by omega))
 simp [binOp,Op.shift,h2,h3]
 intro h9
 omega
theorem lF (t t':TypeId) (x y:Operand) (ho:o.op=.binOp .or t x y t') (k:IntKind) (m n r:Int) (hx:f x=.int k m) (hy:f y=.int k n) (hr:k.wrap ((BitVec.ofInt k.bits m ||| BitVec.ofInt k.bits n).toNat:Int)=r) (w:World):(execOp f o).run P w=.ok (.value (.int k r)) w:=by
 refine cF ho hx hy (by rfl) ?_
 have e:binOp .or t (.int k m) (.int k n)=Op.intBits .or k m n:=by simp [binOp]
 rw [e];exact congrArg (fun z=>Result.ok (Value.int k z) w) hr
end
theorem w64 {z:Int} (h1:0≤z) (h2:z<18446744073709551616):IntKind.u64.wrap z=z:=by rw [IntKind.wrap_u64];omega
theorem w32 {z:Int} (h1:0≤z) (h2:z<4294967296):IntKind.u32.wrap z=z:=by rw [IntKind.wrap_u32];omega
theorem w8 {z:Int} (h1:0≤z) (h2:z<256):IntKind.u8.wrap z=z:=by rw [IntKind.wrap_u8];omega
theorem yG (a b s:Nat) (hb:b<2 ^ s):a * 2 ^ s ||| b=a * 2 ^ s+b:=by
 rw [Nat.mul_comm,Nat.two_pow_add_eq_or_of_lt hb]
theorem or32n (a b s:Nat) (hb:b<2 ^ s) (h:a * 2 ^ s+b<4294967296):IntKind.u32.wrap ((BitVec.ofInt IntKind.u32.bits ((a * 2 ^ s:Nat):Int) ||| BitVec.ofInt IntKind.u32.bits (b:Int)).toNat:Int)=((a * 2 ^ s+b:Nat):Int):=by
 have e:IntKind.u32.bits=32:=rfl;rw [e,BitVec.toNat_or,BitVec.ofInt_natCast,BitVec.ofInt_natCast,BitVec.toNat_ofNat,BitVec.toNat_ofNat,Nat.mod_eq_of_lt (by omega),Nat.mod_eq_of_lt (by omega),yG a b s hb];exact w32 (by omega) (by omega)
theorem qVw (a b s:Nat) (hb:b<2 ^ s) (h:a * 2 ^ s+b<18446744073709551616):IntKind.u64.wrap ((BitVec.ofInt IntKind.u64.bits ((a * 2 ^ s:Nat):Int) ||| BitVec.ofInt IntKind.u64.bits (b:Int)).toNat:Int)=((a * 2 ^ s+b:Nat):Int):=by
 have e:IntKind.u64.bits=64:=rfl;rw [e,BitVec.toNat_or,BitVec.ofInt_natCast,BitVec.ofInt_natCast,BitVec.toNat_ofNat,BitVec.toNat_ofNat,Nat.mod_eq_of_lt (by omega),Nat.mod_eq_of_lt (by omega),yG a b s hb];exact w64 (by omega) (by omega)
def Turns (g:Nat) (t:TypeId) (xs ys:List Value) (X Y:World):Prop :=
 X.grownBy Y (some g)∧(Blk X g t xs→Blk Y g t xs∨Blk Y g t ys)∧(Blk X g t ys→Blk Y g t ys)
theorem Turns.trans {g:Nat} {t:TypeId} {xs ys:List Value} {X Y Z:World} (h:Turns g t xs ys X Y) (h':Turns g t xs ys Y Z):Turns g t xs ys X Z:=by
 obtain ⟨a1,a2,a3⟩:=h;obtain ⟨b1,b2,b3⟩:=h';refine ⟨⟨b1.os.trans a1.os,b1.tape.trans a1.tape,b1.output.trans a1.output,Nat.le_trans a1.size b1.size,fun k hk hne=>(b1.block k (Nat.lt_of_lt_of_le hk a1.size) hne).trans (a1.block k hk hne)⟩,fun h=>?_,fun h=>b3 (a3 h)⟩
 rcases a2 h with h|h
 ·exact b2 h
 ·exact .inr (b3 h)
theorem qK (X:World) (row:Option Nat):X.grownBy X row:=⟨rfl,rfl,rfl,Nat.le_refl _,fun _ _ _=>rfl⟩
theorem Turns.drew (g:Nat) (t:TypeId) (xs ys:List Value) (X:World):Turns g t xs ys X X.drew:=⟨⟨rfl,rfl,rfl,Nat.le_refl _,fun _ _ _=>rfl⟩,fun h=>.inl h,fun h=>h⟩
theorem gK (X:World) (g k:Nat) (v:Value):X.grownBy (X.setCell ⟨g,k,none⟩ v) (some g) :=
 ⟨rfl,rfl,rfl,by simp [World.setCell],fun i _ hne=>Below.heap_setCell X ⟨g,k,none⟩ v i (fun h=>hne (by rw [h]))⟩
theorem Turns.below {g:Nat} {t:TypeId} {xs ys:List Value} {B:Nat} {W X Y:World} (h:Turns g t xs ys X Y) (hb:Below B W X) (hB:B≤X.heap.size) (hg:B≤g):Below B W Y :=
 hb.grown h.1 hB (fun k hk=>by simp at hk;omega)
section
variable {P:Program} {l:List Oper} {ops:Array Oper} {w:World} {Q:Act→World→Prop} {pre:Nat→Nat→Bool} {a:Act} {k:Nat} {o:Oper} {rest:List (Nat×Oper×cB)} {Fs:List (Nat×(World→Prop))}
theorem qD {id:Nat} {Q':Exit→Act→World→Prop} (g:Nat) (t:TypeId) (xs ys:List Value) (ss:List cB) (hm:P.follows .mixedOrders=true) (hB:lxB l=true)
  (hst:∀ S,some S∈ss→∀ v X Y,S v X→Turns g t xs ys X Y→S v Y) (h:bT P l.toArray (Turns g t xs ys) w (wpList P l.toArray Q' []) (inB (clo l)) (its 0 l ss) [] a):(Code.region id l.toArray true).wp P Q' a w :=
 jI ss hm hB (Turns.drew g t xs ys w) (fun _ _ h h'=>h.trans h') hst h.out
theorem yT {g:Nat} {t:TypeId} {xs ys:List Value} (hw:Region.wanted o (yielded ops a.tmps)=true) (ty:TypeId) (x y:Operand) (ho:o.op=.store ty x y) (hdst:o.dst=none) (j:Nat) (hx:a.eval x=vP g j) (v:Value) (hy:a.eval y=v)
  (hB:Blk w g t xs) (hys:ys=xs.set j v) (hj:j<xs.length) (hr:∀ (X:World) (u:Value),X.cell? ⟨g,j,none⟩=some u→X.frozen? ⟨g,j,none⟩=false→(execOp a.eval o).run P X=.ok .skip (X.setCell ⟨g,j,none⟩ v))
  (h:bT P ops (Turns g t xs ys) w Q pre rest ((k,fun X=>Blk X g t ys) :: Fs) a):bT P ops (Turns g t xs ys) w Q pre ((k,o,some (fun _ X=>Blk X g t ys)) :: rest) Fs a:=by
 refine ⟨?_⟩
 unfold CertR
 rw [if_pos hw];refine ⟨fun X hX _=>?_,fun _=>by rw [hdst];exact h.out⟩
 have hyy:ys.set j v=ys:=by rw [hys,List.set_set]
 have hyl:j<ys.length:=by rw [hys,List.length_set];exact hj
 rcases hX.2.1 hB with hq|hq
 ·have hc:X.cell? ⟨g,j,none⟩=some (xs[j]'hj):=hq.cell (List.getElem?_eq_getElem hj)
  unfold dN
  rw [hr X _ hc (hq.free j)];have h9:=hq.set j v;rw [← hys] at h9;exact ⟨h9,gK X g j v,fun _=>.inr h9,fun _=>h9⟩
 ·have hc:X.cell? ⟨g,j,none⟩=some (ys[j]'hyl):=hq.cell (List.getElem?_eq_getElem hyl)
  unfold dN
  rw [hr X _ hc (hq.free j)];have h9:=hq.set j v;rw [hyy] at h9;exact ⟨h9,gK X g j v,fun _=>.inr h9,fun _=>h9⟩
theorem vN {g:Nat} {t:TypeId} {xs ys:List Value} {n:Nat}:∀ S,some S∈((List.replicate n (none:cB))++[some (fun _ X=>Blk X g t ys)])→∀ v X Y,S v X→Turns g t xs ys X Y→S v Y:=by
 intro S hm
 rcases List.mem_append.1 hm with h|h
 ·have:=List.eq_of_mem_replicate h
  cases this
 ·have:=List.mem_singleton.1 h
  injection this with this
  subst this
  exact fun _ _ _ h h'=>h'.2.2 h
end
section
variable {P:Program} {f:Operand→Value} {o:Oper}
theorem bC (t t':TypeId) (x y:Operand) (ho:o.op=.binOp .eql t x y t') (l m:List UInt8) (hx:f x=vS l) (hy:f y=vS m) (b:Bool) (hb:(l == m)=b) (w:World):(execOp f o).run P w=.ok (.value (.bool b)) w:=by
 rw [← hb];exact fZ t t' x y ho l m hx hy w
theorem cG (t t':TypeId) (x y:Operand) (ho:o.op=.binOp .neq t x y t') (l m:List UInt8) (hx:f x=vS l) (hy:f y=vS m) (b:Bool) (hb:(l != m)=b) (w:World):(execOp f o).run P w=.ok (.value (.bool b)) w:=by
 rw [← hb];exact zV t t' x y ho l m hx hy w
end
theorem iA {l m:List UInt8} (h:l=m):(l == m)=true:=by rw [h];exact beq_self_eq_true m
theorem cS {l m:List UInt8} (h:l≠m):(l == m)=false:=beq_eq_false_iff_ne.2 h
theorem iO {l m:List UInt8} (h:l≠m):(l != m)=true:=by
 show (!(l == m))=true
 rw [cS h]
 rfl
theorem uS {l m:List UInt8} (h:l=m):(l != m)=false:=by
 show (!(l == m))=false
 rw [iA h]
 rfl
section
variable {P:Program} {ops:Array Oper} {R:World→World→Prop} {w0:World} {Q:Act→World→Prop} {pre:Nat→Nat→Bool} {a:Act} {k:Nat} {o:Oper} {l:List (Nat×Oper×cB)} {Fs:List (Nat×(World→Prop))}
theorem rS {S:Value→World→Prop} (hw:Region.wanted o (yielded ops a.tmps)=true) (x:Operand) (xs:List Operand) (ts:Array TypeId) (ho:o.op=.call { callee:=.value x,args:=xs.toArray,argTypes:=ts }) (f:FuncId) (caps:List Value) (hx:a.eval x=.func (.func f) #[] caps.toArray) (args:List Value) (he:xs.map a.eval=args)
  (hf:∀ X:World,(callFunc f (args++caps).toArray).run P X=.ok (.enter f (args++caps).toArray) X)
  (hc:∀ X,R w0 X→(∀ p F,(p,F)∈Fs→pre k p=true→F X)→Calls P f (args++caps).toArray X fun e X'=>∃ v,e=.returned v∧S v X'∧R X X') (h:∀ v,bT P ops R w0 Q pre l ((k,S v) :: Fs) (a.put o.dst v)):bT P ops R w0 Q pre ((k,o,some S) :: l) Fs a:=by
 refine ⟨?_⟩
 unfold CertR
 rw [if_pos hw];refine ⟨fun X hX hF=>?_,fun v=>(h v).out⟩;have hc:=hc X hX hF
 have he2:xs.toArray.map a.eval=args.toArray:=by rw [List.map_toArray,he]
 have hrun:(execOp a.eval o).run P X=.ok (.enter f (args++caps).toArray) X:=by
  unfold execOp
  rw [ho];have hfX:=hf X;simp only [resolve,Sem.run_bind,Sem.run_pure,Result.andThen_ok,hx,he2,Deferred.ofValue,invoke]
  go_simp
 unfold dN
 rw [hrun];exact hc
end
section
variable {P:Program} {f:Operand→Value} {o:Oper}
theorem pD (t t':TypeId) (x y:Operand) (ho:o.op=.binOp .lss t x y t') (l m:List UInt8) (hx:f x=vS l) (hy:f y=vS m) (b:Bool) (hb:Op.bytesLess l m=b) (w:World):(execOp f o).run P w=.ok (.value (.bool b)) w:=by
 refine cF ho hx hy (by rfl) ?_
 have e:binOp .lss t (vS l) (vS m)=Op.stringOp .lss ⟨l.toArray⟩ ⟨m.toArray⟩:=by simp [binOp]
 rw [e]
 have h1:(⟨l.toArray⟩:ByteArray).toList=l:=by simp
 have h2:(⟨m.toArray⟩:ByteArray).toList=m:=by simp
 show Result.ok (Value.bool (Op.bytesLess (⟨l.toArray⟩:ByteArray).toList (⟨m.toArray⟩:ByteArray).toList)) w=_
 rw [h1,h2,hb]
theorem vQf (l:List UInt8) (p:Nat):(⟨l.toArray⟩:ByteArray).extract p l.length=⟨(l.drop p).toArray⟩:=by
 apply ByteArray.ext
 rw [ByteArray.data_extract]
 simp [List.extract_eq_take_drop]
 exact List.take_of_length_le (by rw [List.length_drop];exact Nat.le_refl _)
theorem sK (t:TypeId) (hu:P.underlying t=some .string) (x lo:Operand) (ho:o.op=.slice t x (some lo) none none) (l:List UInt8) (k:Nat) (hx:f x=vS l) {z:Int} (hlo:f lo=vI z) (hz:z=(k:Int)) (hk:k≤l.length) (w:World) :
  (execOp f o).run P w=.ok (.value (vS (l.drop k))) w:=by
 have h:=vQf l k
 have h2:(⟨l.toArray⟩:ByteArray).size=l.length:=by simp [ByteArray.size]
 subst hz
 unfold execOp
 simp only [ho,hx,hlo,Option.map]
 go_simp
end
theorem aL {P:Program} {fn:Func} {R:Ending→World→Prop} {a:Act} {w:World} {s g:Nat} {T t:TypeId} {cs:List Value} {d:TypeDesc} (hres:fn.results=#[.cell s T]) (hd:a.defers=[]) (hp:a.tmps.getD s undef=vP g 0) (hu:P.underlying T=some d)
  (hag:(match d with|.struct _|.array _ _=>true|_=>false)=true) (hB:Blk w g t cs) (hi:(P.info? T).map (·.size)=some cs.length) (hR:R (.returned (.agg cs.toArray)) w):bodyPost P fn R .ret a w:=by
 refine bodyPost_ret (v:=.agg cs.toArray) ?_ hd hR;have hld:=cW (P:=P) T d g 0 cs hB.cl hu hag hi
 have hp2:a.tmps[s]?.getD undef=vP g 0:=by rw [← Array.getD_eq_getD_getElem?];exact hp
 simp [results,hres,asAddr,hld,hp2]
abbrev st (l:List UInt8):Value:=vS l
abbrev rt (n:Bool) (p q:List UInt8):Value:=.agg #[.bool n,vS p,vS q]
abbrev rz:Value:=.agg #[.bool false,.string ⟨#[]⟩,.string ⟨#[]⟩]
theorem pX:(∀ (a:Act) (d:Option Nat) (v:Value),a.put d v=match d with|none=>a|some t=>{ a with tmps:=a.tmps.setIfInBounds t v })∧(∀ (l:List Value) (i:Nat) (a:Value),(l.toArray).setIfInBounds i a=(l.set i a).toArray)∧(∀ (a b:Value) (l:List Value) (n:Nat),(a :: l).set (n+1) b=a :: l.set n b)∧(∀ (a b:Value) (l:List Value),(a :: l).set 0 b=b :: l) :=
 ⟨fun a d v=>by cases d <;> rfl,fun _ _ _=>pA,fun _ _ _ _=>rfl,fun _ _ _=>rfl⟩
theorem iX:(∀ (k:Nat) (ss:List cB),its k [] ss=[])∧(∀ (k:Nat) (o:Oper) (l:List Oper),its k (o :: l) []=(k,o,none) :: its (k+1) l [])∧(∀ (k:Nat) (o:Oper) (l:List Oper) (s:cB) (ss:List cB),its k (o :: l) (s :: ss)=(k,o,s) :: its (k+1) l ss)∧(∀ n:Nat,0+n=n) :=
 ⟨fun k ss=>by cases ss <;> rfl,fun _ _ _=>rfl,fun _ _ _ _ _=>rfl,Nat.zero_add⟩
section
variable {P:Program} {ops:Array Oper} {R:World→World→Prop} {w0:World} {Q:Act→World→Prop} {pre:Nat→Nat→Bool} {a a':Act} {k:Nat} {o:Oper} {l:List (Nat×Oper×cB)} {Fs:List (Nat×(World→Prop))}
theorem jm (v:Value) (h:bT P ops R w0 Q pre l Fs a') (hw:Region.wanted o (yielded ops a.tmps)=true:=by rfl) (hq:∀ X:World,(execOp a.eval o).run P X=.ok (.value v) X:=by intro _;rfl)
  (hp:a.put o.dst v=a':=by simp only [pX,st,rt,rz];rfl):bT P ops R w0 Q pre ((k,o,none) :: l) Fs a:=kC hw v (fun X _ _=>hq X) (hp ▸ h)
theorem jn (v:Value) (h:bT P ops R w0 Q pre l Fs a') (hw:Region.wanted o (yielded ops a.tmps)=true:=by rfl) (hq:∀ X:World,(execOp a.eval o).run P X=.ok (.value v) X:=by intro _;unfold execOp;go_simp)
  (hp:a.put o.dst v=a':=by simp only [pX,st,rt,rz];rfl):bT P ops R w0 Q pre ((k,o,none) :: l) Fs a:=kC hw v (fun X _ _=>hq X) (hp ▸ h)
theorem jv (v:Value) (hq:∀ X:World,(execOp a.eval o).run P X=.ok (.value v) X) (h:bT P ops R w0 Q pre l Fs a') (hw:Region.wanted o (yielded ops a.tmps)=true:=by rfl)
  (hp:a.put o.dst v=a':=by simp only [pX,st,rt,rz];rfl):bT P ops R w0 Q pre ((k,o,none) :: l) Fs a:=kC hw v (fun X _ _=>hq X) (hp ▸ h)
theorem jg (v:Value) (hq:∀ X:World,R w0 X→(∀ p F,(p,F)∈Fs→pre k p=true→F X)→(execOp a.eval o).run P X=.ok (.value v) X) (h:bT P ops R w0 Q pre l Fs a') (hw:Region.wanted o (yielded ops a.tmps)=true:=by rfl)
  (hp:a.put o.dst v=a':=by simp only [pX,st,rt,rz];rfl):bT P ops R w0 Q pre ((k,o,none) :: l) Fs a:=kC hw v hq (hp ▸ h)
theorem je (v:Value) (hq:(execOp a.eval o).run P w0=.ok (.value v) w0) (h:bT P ops Eq w0 Q pre l Fs a') (hw:Region.wanted o (yielded ops a.tmps)=true:=by rfl)
  (hp:a.put o.dst v=a':=by simp only [pX,st,rt,rz];rfl):bT P ops Eq w0 Q pre ((k,o,none) :: l) Fs a:=kC hw v (fun X hX _=>by subst hX;exact hq) (hp ▸ h)
theorem js {s:cB} (h:bT P ops R w0 Q pre l Fs a') (hw:Region.wanted o (yielded ops a.tmps)=false:=by rfl) (hp:a.put o.dst undef=a':=by simp only [pX,st,rt,rz];rfl):bT P ops R w0 Q pre ((k,o,s) :: l) Fs a:=qXa hw (hp ▸ h)
theorem jc {f:FuncId} {args:List Value} (v:Value) (hc:∀ X,R w0 X→(∀ p F,(p,F)∈Fs→pre k p=true→F X)→Calls P f args.toArray X fun e X'=>e=.returned v∧R X X') (h:bT P ops R w0 Q pre l Fs a') (hw:Region.wanted o (yielded ops a.tmps)=true:=by rfl)
  {xs:List Operand} {ts:Array TypeId} (ho:o.op=.call { callee:=.value (.func f),args:=xs.toArray,argTypes:=ts }:=by rfl) (he:xs.map a.eval=args:=by rfl) (hi:P.inits.idxOf? f=none:=by kernel_rfl) (hf:∀ X:World,(callFunc f args.toArray).run P X=.ok (.enter f args.toArray) X:=by intro _;go_simp)
  (hp:a.put o.dst v=a':=by simp only [pX,st,rt,rz];rfl):bT P ops R w0 Q pre ((k,o,none) :: l) Fs a:=qXc hw f xs ts ho v args he hi hf hc (hp ▸ h)
theorem jk {f:FuncId} {args:List Value} {S:Value→World→Prop} {b:Value→Act} (hc:∀ X,R w0 X→(∀ p F,(p,F)∈Fs→pre k p=true→F X)→Calls P f args.toArray X fun e X'=>∃ v,e=.returned v∧S v X'∧R X X') (h:∀ v,bT P ops R w0 Q pre l ((k,S v) :: Fs) (b v)) (hw:Region.wanted o (yielded ops a.tmps)=true:=by rfl)
  {xs:List Operand} {ts:Array TypeId} (ho:o.op=.call { callee:=.value (.func f),args:=xs.toArray,argTypes:=ts }:=by rfl) (he:xs.map a.eval=args:=by rfl) (hf:∀ X:World,(callFunc f args.toArray).run P X=.ok (.enter f args.toArray) X:=by intro _;go_simp)
  (hp:∀ v,a.put o.dst v=b v:=by intro _;simp only [pX,st,rt,rz];rfl):bT P ops R w0 Q pre ((k,o,some S) :: l) Fs a:=qXb hw f xs ts ho args he hf hc (fun v=>hp v ▸ h v)
end
section
variable {P:Program} {ops:Array Oper} {R:World→World→Prop} {w0:World} {Q:Act→World→Prop} {pre:Nat→Nat→Bool} {a a':Act} {k:Nat} {o:Oper} {l:List (Nat×Oper×cB)} {Fs:List (Nat×(World→Prop))}
theorem jf {w:World} {T g t:Nat} {vs:List Value} (v:Value) (hB:Blk w g t vs) (j:Nat) (ld:∀ (b k:Nat) (X:World) (u:Value),X.cell? ⟨b,k,none⟩=some u→(loadVar T ⟨b,k,none⟩).run P X=.ok u X) (h:bT P ops Since w Q pre l Fs a') (hw:Region.wanted o (yielded ops a.tmps)=true:=by rfl)
  {x:Operand} (ho:o.op=.load T x:=by rfl) (hx:a.eval x=vP g j:=by rfl) (hv:vs[j]?=some v:=by rfl) (hp:a.put o.dst v=a':=by simp only [pX,st,rt,rz];rfl):bT P ops Since w Q pre ((k,o,none) :: l) Fs a :=
 kC hw v (fun X hX _=>aV T x ho g j hx v X ((hB.below hX hB.lt).cell hv) (fun X u hu=>ld g j X u hu)) (hp ▸ h)
theorem ja {w:World} {T g t:Nat} {vs:List Value} (hB:Blk w g t vs) {d:TypeDesc} (hu:P.underlying T=some d) (hag:(match d with|.struct _|.array _ _=>true|_=>false)=true) (hi:(P.info? T).map (·.size)=some vs.length) (h:bT P ops Since w Q pre l Fs a') (hw:Region.wanted o (yielded ops a.tmps)=true:=by rfl)
  {x:Operand} (ho:o.op=.load T x:=by rfl) (hx:a.eval x=vP g 0:=by rfl) (hp:a.put o.dst (.agg vs.toArray)=a':=by simp only [pX,st,rt,rz];rfl):bT P ops Since w Q pre ((k,o,none) :: l) Fs a :=
 kC hw _ (fun X hX _=>by
  unfold execOp
  simp only [ho,hx,Instr.loadAt,Instr.sureAddr,Sem.run_bind,Sem.run_pure,Result.andThen_ok,cW T d g 0 vs (hB.below hX hB.lt).cl hu hag hi]) (hp ▸ h)
end
section
variable {P:Program} {w:World} {ops:Array Oper} {rest:List Oper} {o:Oper} {a:Act} {Q:Exit→Act→World→Prop}
theorem osb (ty:TypeId) (p x g:Nat) (t:TypeId) {xs:List Value} (hB:Blk w g t xs) (ys:List Value) (hi:(P.info? ty).map (·.size)=some ys.length)
  (h:∀ w',Blk w' g t ys→(∀ g' t' zs,g'≠g→Blk w g' t' zs→Blk w' g' t' zs)→(∀ B W,Below B W w→B≤g→Below B W w')→w'.heap.size=w.heap.size→wpList P ops Q rest (a.put o.dst undef) w')
  (hgd:o.guard=none:=by rfl) (ho:o.op=.store ty (.tmp p) (.tmp x):=by rfl) (hp:a.eval (.tmp p)=vP g 0:=by rfl) (hx:a.eval (.tmp x)=.agg ys.toArray:=by rfl) (hl:ys.length=xs.length:=by rfl) (h1:ys.all Value.oneCell'=true:=by rfl) :
  wpList P ops Q (o :: rest) a w:=qB hgd ty (.tmp p) (.tmp x) ho g t xs hB hp ys hx hl (List.all_eq_true.1 h1) hi h
theorem osn {old:Array Value} {t:TypeId} (ty:TypeId) (p x:Nat) (cs:Array Value) (hi:(P.info? ty).map (·.size)=some cs.size) (h:wpList P ops Q rest (a.put o.dst undef) (w.alloc (.cells cs t)))
  (hgd:o.guard=none:=by rfl) (ho:o.op=.store ty (.tmp p) (.tmp x):=by rfl) (hp:a.eval (.tmp p)=vP w.heap.size 0:=by rfl) (hx:a.eval (.tmp x)=.agg cs:=by rfl) (hs:cs.size=old.size:=by rfl) (h1:cs.toList.all Value.oneCell'=true:=by rfl) :
  wpList P ops Q (o :: rest) a (w.alloc (.cells old t)):=iH w old t hgd ty (.tmp p) (.tmp x) ho hp cs hx hs (List.all_eq_true.1 h1) hi h
end
theorem jz {P:Program} {ops:Array Oper} {R:World→World→Prop} {w0:World} {Q:Act→World→Prop} {pre:Nat→Nat→Bool} {Fs:List (Nat×(World→Prop))} {a:Act} (h:∀ X,R w0 X→Q a X):bT P ops R w0 Q pre [] Fs a:=aM fun X hX _=>h X hX
theorem jzb {P:Program} {ops:Array Oper} {w0 W:World} {Q:Act→World→Prop} {pre:Nat→Nat→Bool} {Fs:List (Nat×(World→Prop))} {a:Act} (hb:Below w0.heap.size w0 W) (h:∀ X,Since W X→Below w0.heap.size w0 X→Q a X):bT P ops Since W Q pre [] Fs a:=jz fun X hX=>h X hX (Since.next hb hX)
section
variable {P:Program} {ops:Array Oper} {R:World→World→Prop} {w0:World} {Q:Act→World→Prop} {pre:Nat→Nat→Bool} {a a':Act} {k:Nat} {o:Oper} {l:List (Nat×Oper×cB)} {Fs:List (Nat×(World→Prop))}
theorem cP (m n:Int) (hb:m<n) (h:bT P ops R w0 Q pre l Fs a') (hw:Region.wanted o (yielded ops a.tmps)=true:=by rfl) {t t':TypeId} {x y:Operand} (ho:o.op=.binOp .lss t x y t':=by rfl) (hx:a.eval x=vI m:=by rfl) (hy:a.eval y=vI n:=by rfl) (hp:a.put o.dst (.bool true)=a':=by simp only [pX,st,rt,rz];rfl):bT P ops R w0 Q pre ((k,o,none) :: l) Fs a:=jv (.bool true) (dB t t' x y ho .i64 m n hx hy true (decide_eq_true hb)) h hw hp
theorem bS (m n:Int) (hb:¬ m<n) (h:bT P ops R w0 Q pre l Fs a') (hw:Region.wanted o (yielded ops a.tmps)=true:=by rfl) {t t':TypeId} {x y:Operand} (ho:o.op=.binOp .lss t x y t':=by rfl) (hx:a.eval x=vI m:=by rfl) (hy:a.eval y=vI n:=by rfl) (hp:a.put o.dst (.bool false)=a':=by simp only [pX,st,rt,rz];rfl):bT P ops R w0 Q pre ((k,o,none) :: l) Fs a:=jv (.bool false) (dB t t' x y ho .i64 m n hx hy false (decide_eq_false hb)) h hw hp
theorem qI (m n:Int) (hb:m≤n) (h:bT P ops R w0 Q pre l Fs a') (hw:Region.wanted o (yielded ops a.tmps)=true:=by rfl) {t t':TypeId} {x y:Operand} (ho:o.op=.binOp .leq t x y t':=by rfl) (hx:a.eval x=vI m:=by rfl) (hy:a.eval y=vI n:=by rfl) (hp:a.put o.dst (.bool true)=a':=by simp only [pX,st,rt,rz];rfl):bT P ops R w0 Q pre ((k,o,none) :: l) Fs a:=jv (.bool true) (sJ t t' x y ho .i64 m n hx hy true (decide_eq_true hb)) h hw hp
theorem oP (m n:Int) (hb:¬ m≤n) (h:bT P ops R w0 Q pre l Fs a') (hw:Region.wanted o (yielded ops a.tmps)=true:=by rfl) {t t':TypeId} {x y:Operand} (ho:o.op=.binOp .leq t x y t':=by rfl) (hx:a.eval x=vI m:=by rfl) (hy:a.eval y=vI n:=by rfl) (hp:a.put o.dst (.bool false)=a':=by simp only [pX,st,rt,rz];rfl):bT P ops R w0 Q pre ((k,o,none) :: l) Fs a:=jv (.bool false) (sJ t t' x y ho .i64 m n hx hy false (decide_eq_false hb)) h hw hp
theorem dV (m n:Int) (hb:n<m) (h:bT P ops R w0 Q pre l Fs a') (hw:Region.wanted o (yielded ops a.tmps)=true:=by rfl) {t t':TypeId} {x y:Operand} (ho:o.op=.binOp .gtr t x y t':=by rfl) (hx:a.eval x=vI m:=by rfl) (hy:a.eval y=vI n:=by rfl) (hp:a.put o.dst (.bool true)=a':=by simp only [pX,st,rt,rz];rfl):bT P ops R w0 Q pre ((k,o,none) :: l) Fs a:=jv (.bool true) (fY t t' x y ho .i64 m n hx hy true (decide_eq_true hb)) h hw hp
theorem dM (m n:Int) (hb:¬ n<m) (h:bT P ops R w0 Q pre l Fs a') (hw:Region.wanted o (yielded ops a.tmps)=true:=by rfl) {t t':TypeId} {x y:Operand} (ho:o.op=.binOp .gtr t x y t':=by rfl) (hx:a.eval x=vI m:=by rfl) (hy:a.eval y=vI n:=by rfl) (hp:a.put o.dst (.bool false)=a':=by simp only [pX,st,rt,rz];rfl):bT P ops R w0 Q pre ((k,o,none) :: l) Fs a:=jv (.bool false) (fY t t' x y ho .i64 m n hx hy false (decide_eq_false hb)) h hw hp
theorem fD (m n:Int) (hb:n≤m) (h:bT P ops R w0 Q pre l Fs a') (hw:Region.wanted o (yielded ops a.tmps)=true:=by rfl) {t t':TypeId} {x y:Operand} (ho:o.op=.binOp .geq t x y t':=by rfl) (hx:a.eval x=vI m:=by rfl) (hy:a.eval y=vI n:=by rfl) (hp:a.put o.dst (.bool true)=a':=by simp only [pX,st,rt,rz];rfl):bT P ops R w0 Q pre ((k,o,none) :: l) Fs a:=jv (.bool true) (eM t t' x y ho .i64 m n hx hy true (decide_eq_true hb)) h hw hp
theorem eD (m n:Int) (hb:¬ n≤m) (h:bT P ops R w0 Q pre l Fs a') (hw:Region.wanted o (yielded ops a.tmps)=true:=by rfl) {t t':TypeId} {x y:Operand} (ho:o.op=.binOp .geq t x y t':=by rfl) (hx:a.eval x=vI m:=by rfl) (hy:a.eval y=vI n:=by rfl) (hp:a.put o.dst (.bool false)=a':=by simp only [pX,st,rt,rz];rfl):bT P ops R w0 Q pre ((k,o,none) :: l) Fs a:=jv (.bool false) (eM t t' x y ho .i64 m n hx hy false (decide_eq_false hb)) h hw hp
theorem bZ (m n:Int) (hb:m=n) (h:bT P ops R w0 Q pre l Fs a') (hw:Region.wanted o (yielded ops a.tmps)=true:=by rfl) {t t':TypeId} {x y:Operand} (ho:o.op=.binOp .eql t x y t':=by rfl) (hx:a.eval x=vI m:=by rfl) (hy:a.eval y=vI n:=by rfl) (hp:a.put o.dst (.bool true)=a':=by simp only [pX,st,rt,rz];rfl):bT P ops R w0 Q pre ((k,o,none) :: l) Fs a:=jv (.bool true) (dS t t' x y ho .i64 m n hx hy true (decide_eq_true hb)) h hw hp
theorem cC (m n:Int) (hb:¬ m=n) (h:bT P ops R w0 Q pre l Fs a') (hw:Region.wanted o (yielded ops a.tmps)=true:=by rfl) {t t':TypeId} {x y:Operand} (ho:o.op=.binOp .eql t x y t':=by rfl) (hx:a.eval x=vI m:=by rfl) (hy:a.eval y=vI n:=by rfl) (hp:a.put o.dst (.bool false)=a':=by simp only [pX,st,rt,rz];rfl):bT P ops R w0 Q pre ((k,o,none) :: l) Fs a:=jv (.bool false) (dS t t' x y ho .i64 m n hx hy false (decide_eq_false hb)) h hw hp
end
theorem jp {P:Program} {id:Nat} {l:List Oper} {Q':Exit→Act→World→Prop} {a:Act} {w:World} {it:List (Nat×Oper×cB)} (h:bT P l.toArray Since w (wpList P l.toArray Q' []) (fun _ _=>true) it [] a) (hi:its 0 l []=it:=by simp only [iX,Nat.reduceAdd];rfl):(Code.region id l.toArray false).wp P Q' a w :=
 bE [] aG (hi ▸ h)
theorem jq {P:Program} {id:Nat} {l r:List Oper} {Q':Exit→Act→World→Prop} {a:Act} {w:World} {it:List (Nat×Oper×cB)} (n:Nat) (h:bT P l.toArray Since w (wpList P l.toArray Q' r) (fun _ _=>true) it [] a) (hi:its 0 (l.take n) []=it:=by simp only [iX,List.take,Nat.reduceAdd];rfl) (hr:l.drop n=r:=by simp only [List.drop];rfl):(Code.region id l.toArray false).wp P Q' a w :=
 aZ n [] aG (hi ▸ hr ▸ h)
theorem jd {P:Program} {id:Nat} {l:List Oper} {Q':Exit→Act→World→Prop} {a:Act} {w:World} {it:List (Nat×Oper×cB)} (h:bT P l.toArray Since w (wpList P l.toArray Q' []) (inB (clo l)) it [] a) (hm:P.follows .mixedOrders=true:=by kernel_rfl) (hB:lxB l=true:=by kernel_rfl) (hi:its 0 l []=it:=by simp only [iX,Nat.reduceAdd];rfl):(Code.region id l.toArray true).wp P Q' a w :=
 oY [] hm hB aG (hi ▸ h)
theorem mo {P:Program} {f:FuncId} {args:Array Value} {X:World} {u v:Value} {R:World→Prop} (h:Calls P f args X fun e X'=>e=.returned u∧R X') (hv:u=v):Calls P f args X fun e X'=>e=.returned v∧R X':=hv ▸ h
section
end
end Go.Proofs.YtffgfkcljcollaaGreatDoor

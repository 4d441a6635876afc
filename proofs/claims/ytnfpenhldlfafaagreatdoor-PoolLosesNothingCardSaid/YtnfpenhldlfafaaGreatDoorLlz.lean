/- Drawn regions whose last operations wait for all others but  -/
import Derived.Test.YtnfpenhldlfafaaGreatDoorLb
set_option linter.unusedSimpArgs false
set_option linter.unusedVariables false
set_option maxRecDepth 100000
set_option maxHeartbeats 1600000
namespace Go.Proofs.YtnfpenhldlfafaaGreatDoor
open Go.RowKit
def qVf (l:List Oper) (T q:Nat):Bool :=
  decide (0<T) && decide (q<l.length-T) && decide (T≤l.length) &&
  ((List.range T).all fun i=>(List.range (l.length-T+i)).all fun p=>(i == 0 && p == q) || inB (clo l) (l.length-T+i) p) &&
  (match l[q]?,l[l.length-T]? with
   | some x,some z=>x.apart l.toArray z && z.apart l.toArray x && x.guard.isNone && (match x.op with|.extract _ _=>true|_=>false)
   | _,_=>false)
section
variable {P:Program} {l:List Oper} {w:World}
theorem pR {f:Operand→Value} {o:Oper} {x:Operand} {i:Nat} (ho:o.op=.extract x i) {v:Value} {X:World} (h:(execOp f o).run P X=.ok (.value v) X) (Y:World):(execOp f o).run P Y=.ok (.value v) Y:=by
 unfold execOp at h ⊢
 simp only [ho] at h ⊢;generalize f x=u at h ⊢
 cases u <;> first
  | (simp [Instr.extract,stuck,Sem.run_bind] at h;done)
  | skip
 all_goals
  simp only [Instr.extract,Sem.run_bind] at h ⊢
  split at h <;> simp_all [Sem.run_bind,stuck]
theorem rG {f:Operand→Value} {o:Oper} {x:Operand} {i:Nat} (ho:o.op=.extract x i) {n:Next} {X Y:World} (h:(execOp f o).run P X=.ok n Y):∃ v,n=.value v∧Y=X:=by
 unfold execOp at h
 simp only [ho] at h;generalize f x=u at h
 cases u <;> first
  | (simp [Instr.extract,stuck,Sem.run_bind] at h;done)
  | skip
 all_goals
  simp only [Instr.extract,Sem.run_bind] at h
  split at h
  ·simp [Sem.run_bind] at h
   exact ⟨_,h.1.symm,h.2.symm⟩
  ·simp [stuck,Sem.run_bind] at h
theorem mW:∀ (k:Nat) (l:List Oper) (ss:List cE),∀ it∈its k l ss,it.2.2=ss.getD (it.1-k) none
 | k,[],ss,it,h=>by
  unfold its at h
  cases h
 | k,o :: l,[],it,h=>by
  unfold its at h
  rcases List.mem_cons.1 h with rfl|h
  ·rfl
  ·have h1:=mW (k+1) l [] it h
   rw [h1]
   rfl
 | k,o :: l,s :: ss,it,h=>by
  unfold its at h
  rcases List.mem_cons.1 h with rfl|h
  ·simp
  ·have h1:=mW (k+1) l ss it h
   have h2:=((gA (k+1) l ss).2.1 it h).1;rw [h1,show it.1-k=(it.1-(k+1))+1 by omega]
   rfl
theorem fG {id:Nat} {Q':Exit→Act→World→Prop} {a:Act} (T q:Nat) (ss:List cE) (hm:P.follows .mixedOrders=true) (hB:lxB l=true) (hq:qVf l T q=true) (hL:¬ LetsOut Q') (hP:∀ ch a w,¬ Q' (.panic ch) a w) (hss:ss.getD q none=none)
  (hst:∀ S,some S∈ss→∀ v X Y,S v X→Since X Y→S v Y) (h:bK P l.toArray Since w (wpList P l.toArray Q' (l.drop (l.length-T))) (inB (clo l)) (its 0 (l.take (l.length-T)) ss) [] a):(Code.region id l.toArray true).wp P Q' a w:=by
 unfold qVf at hq
 simp only [Bool.and_eq_true,decide_eq_true_eq] at hq;obtain ⟨⟨⟨⟨hT0,hqn⟩,hTl⟩,hord⟩,hxz⟩:=hq
 have ht:∀ t,l.length-T≤t→t<l.length→∀ p,p<t→(t=l.length-T∧p=q)∨inB (clo l) t p=true:=fun t h1 h2 p hp=>by
  have h3:=List.all_eq_true.1 (List.all_eq_true.1 hord (t-(l.length-T)) (List.mem_range.2 (by omega))) p (List.mem_range.2 (by omega));rw [show l.length-T+(t-(l.length-T))=t by omega,Bool.or_eq_true,Bool.and_eq_true,beq_iff_eq,beq_iff_eq] at h3
  rcases h3 with h3|h3
  ·exact .inl ⟨by omega,h3.2⟩
  ·exact .inr h3
 have hzl:l.length-T<l.length:=by omega
 obtain ⟨oq,hoq⟩:∃ o,l[q]?=some o:=⟨_,List.getElem?_eq_getElem (by omega)⟩;obtain ⟨z,hz⟩:∃ o,l[l.length-T]?=some o:=⟨_,List.getElem?_eq_getElem hzl⟩;rw [hoq,hz] at hxz;simp only [Bool.and_eq_true] at hxz;obtain ⟨⟨⟨ha1,ha2⟩,hg⟩,hex⟩:=hxz;obtain ⟨b1,b2,b3⟩:=Oper.apart_spec ha1
 have hgn:oq.guard=none:=by
  cases hh:oq.guard with
  | none=>rfl
  | some y=>rw [hh] at hg;cases hg
 obtain ⟨x,i,hop⟩:∃ x i,oq.op=.extract x i:=by
  revert hex
  cases oq.op <;> simp
 obtain ⟨hns,hspec⟩:=fP hB
 have hselq:∀ cs b,oq.op≠.select cs b:=fun cs b h9=>by rw [hop] at h9;cases h9
 have hselz:∀ cs b,z.op≠.select cs b:=fun cs b=>Region.noSelect_spec hns (l.length-T) z cs b (by simpa using hz)
 have hwq:∀ y,Region.wanted oq y=true:=fun y=>by
  unfold Region.wanted
  rw [hgn]
 refine wp_region_any hm (tN (A:=wpAny P .any l.toArray Q') q T ss hB hTl (fun t h1 h2 p hp hne=>(ht t h1 h2 p (by omega)).resolve_left (fun h9=>hne h9.2)) (fun _ _ _ _ h=>h)
  (fun listed a w _ hs hall hun hq=>jU hB T listed a w hTl hs hall hun (fun t h1 h2 p hp0 hp=>(ht t h1 h2 p hp).resolve_left (fun h9=>by omega)) hq) ?_ (fun it hit hiq=>by
   have h1:=mW 0 _ ss it hit;rw [h1,hiq]
   exact hss) hst h)
 intro listed oq' a X j o _ hoq' hoj hj1 hj2 hsz hall hun htl hcl hres;rw [hoq] at hoq'
 injection hoq' with hoq'
 subst hoq'
 have hj:j=l.length-T:=by
  rcases Nat.lt_or_ge (l.length-T) j with h9|h9
  ·exfalso
   have h8:=(ht j hj1 hj2 (l.length-T) h9).resolve_left (fun h7=>by omega);have h7:=hcl j _ hj2 (.inr rfl) h8;rw [htl _ (Nat.le_refl _) hzl] at h7
   cases h7
  ·omega
 subst hj;rw [hz] at hoj
 injection hoj with hoj
 subst hoj
 have hnoq:inB (clo l) (l.length-T) q=false:=by
  cases h9:inB (clo l) (l.length-T) q with
  | false=>rfl
  | true =>
   have h8:=hcl _ _ hj2 (.inr rfl) h9;rw [hun] at h8
   cases h8
 rw [if_pos (hwq _)] at hres;obtain ⟨v,hqt,hzz⟩:=hres
 have hrun:∀ Y,(execOp a.eval oq).run P Y=.ok (.value v) Y:=by
  unfold cL at hqt
  generalize hr:(execOp a.eval oq).run P X=r at hqt
  cases r with
  | ok n w' =>
   obtain ⟨u,rfl,rfl⟩:=rG hop hr;simp only at hqt;obtain ⟨_,rfl⟩:=hqt
   exact fun Y=>pR hop hr Y
  | halt c w'=>exact hqt.elim
 have hdrop:l.drop (l.length-T)=z :: l.drop (l.length-(T-1)):=by
  rw [List.drop_eq_getElem_cons hzl];rw [List.getElem?_eq_getElem hzl] at hz
  injection hz with hz
  rw [hz,show l.length-T+1=l.length-(T-1) by omega]
 rw [hdrop] at hzz;rw [Nat.zero_add]
 have key:∀ (a':Act) (u:Value) (X':World),a'.tmps=a.tmps→wpList P l.toArray Q' (l.drop (l.length-(T-1))) ((a'.put oq.dst v).put z.dst u) X'→wpAny P .any l.toArray Q' T (listed.setIfInBounds (l.length-T) true) (a'.put z.dst u) X':=by
  intro a' u X' hat hq9;obtain ⟨T',rfl⟩:∃ T',T=T'+1:=⟨T-1,by omega⟩
  have hql:q<l.length:=by omega
  have getD_ft:∀ k,k<l.length→listed.getD k true=listed.getD k false:=fun k hk=>by
   simp only [Array.getD_eq_getD_getElem?,Array.getElem?_eq_getElem (hsz ▸ hk),Option.getD_some]
  have hsz2:(listed.setIfInBounds (l.length-(T'+1)) true).size=l.length:=by simpa using hsz
  have getD_ft2:∀ k,k<l.length→(listed.setIfInBounds (l.length-(T'+1)) true).getD k true=(listed.setIfInBounds (l.length-(T'+1)) true).getD k false:=fun k hk=>by
   simp only [Array.getD_eq_getD_getElem?,Array.getElem?_eq_getElem (show k<(listed.setIfInBounds (l.length-(T'+1)) true).size by rw [hsz2];exact hk),Option.getD_some]
  have hmem:q∈Region.ready .any l.toArray (listed.setIfInBounds (l.length-(T'+1)) true):=by
   refine mem_ready.2 ⟨by rw [getD_set_ne true (by omega)];exact hun,oq,by simpa using hoq,fun e he hb=>?_⟩;have h1:=(hspec q oq hoq).1 e he hb;rw [← getD_ft2 _ (by omega),getD_set_ne true (by omega)];exact hall _ (by omega) (by omega)
  refine ⟨fun hnil=>?_,fun i9 hi9=>?_⟩
  ·rw [hnil] at hmem
   cases hmem
  ·obtain ⟨h0,o9,ho9,hdone⟩:=mem_ready.1 hi9
   have ho9':l[i9]?=some o9:=by simpa using ho9
   have hil:i9<l.length:=(List.getElem?_eq_some_iff.1 ho9').1
   have hne1:i9≠l.length-(T'+1):=fun h9=>by
    subst h9
    have:(listed.setIfInBounds (l.length-(T'+1)) true).getD (l.length-(T'+1)) true=true:=by simp [hsz,hil]
    rw [this] at h0
    cases h0
   have hiq:i9=q:=by
    by_cases h9:i9=q
    ·exact h9
    ·exfalso
     rw [getD_set_ne true (fun h8=>hne1 h8.symm)] at h0
     rcases Nat.lt_or_ge i9 (l.length-(T'+1)) with h8|h8
     ·rw [hall i9 h8 h9] at h0
      cases h0
     ·have h7:=(ht i9 h8 hil q (by omega)).resolve_left (fun h6=>hne1 h6.1)
      obtain ⟨_,e,he,hb,hor⟩:=(hspec i9 o9 ho9').2.1 q h7;have hon:=(hspec i9 o9 ho9').1 e he hb;have hel:=hdone e he hb;rw [← getD_ft2 _ (by omega)] at hel
      rcases hor with hor|hor
      ·rw [hor,getD_set_ne true (by omega),hun] at hel
       cases hel
      ·by_cases h5:e.on=l.length-(T'+1)
       ·rw [h5,hnoq] at hor
        cases hor
       ·rw [getD_set_ne true (fun h8=>h5 h8.symm)] at hel
        have h4:=hcl e.on q (by omega) (.inl hel) hor;rw [hun] at h4
        cases h4
   subst hiq;rw [hoq] at ho9'
   injection ho9' with ho9'
   subst ho9'
   unfold wpOp
   simp only [ho9];rw [if_pos (hwq _)];refine .inl ?_
   have hev:(a'.put z.dst u).eval=(a.put z.dst u).eval:=by
    have h9:∀ b c:Act,b.tmps=c.tmps→b.eval=c.eval:=fun b c h8=>by
     funext y
     cases y <;> simp [Act.eval,h8]
    refine h9 _ _ ?_
    cases z.dst with
    | none=>exact hat
    | some d=>exact congrArg (fun t=>Array.setIfInBounds t d u) hat
   unfold Oper.wp
   rw [hev,execOp_put (ops:=l.toArray) oq hselq a z.dst u b3,hrun X',Oper.upon_value];rw [show (a'.put z.dst u).put oq.dst v=(a'.put oq.dst v).put z.dst u from Act.put_comm a' u v (fun d hd h9=>b2 d h9 hd)];refine jU hB T' _ _ _ (by omega) (by simpa using hsz) (fun k hk=>?_) (fun k hk1 hk2=>?_) (fun t h1 h2 p hp0 hp=>(ht t (by omega) h2 p hp).resolve_left (fun h9=>by omega)) hq9
   ·by_cases hkq:i9=k
    ·subst hkq
     simp [hsz,hql]
    ·rw [getD_set_ne true hkq]
     by_cases hkz:l.length-(T'+1)=k
     ·subst hkz
      simp [hsz,hzl]
     ·rw [getD_set_ne true hkz]
      exact hall k (by omega) (fun h9=>hkq h9.symm)
   ·rw [getD_set_ne true (by omega),getD_set_ne true (by omega)]
    exact htl k (by omega) hk2
 unfold wpOp
 rw [show l.toArray[l.length-T]?=some z by simpa using hz]
 simp only
 have hww:=wanted_put (ops:=l.toArray) z a oq.dst v b1
 unfold wpList at hzz
 rw [hww] at hzz
 split
 ·rename_i hw
  rw [if_pos hw] at hzz
  rcases hzz with hzz|hzz
  ·refine .inl ?_
   unfold Oper.wp at hzz ⊢
   rw [execOp_put (ops:=l.toArray) z hselz a oq.dst v b1] at hzz;generalize (execOp a.eval z).run P X=r at hzz ⊢
   cases r with
   | ok n w' =>
    cases n <;> simp only [Oper.upon] at hzz ⊢
    case value u=>exact key a u w' rfl hzz
    case skip=>exact key a undef w' rfl hzz
    case defer d =>
     refine key { a with defers:=d :: a.defers } undef w' rfl ?_
     have h9:({ a with defers:=d :: a.defers }:Act).put oq.dst v={ a.put oq.dst v with defers:=d :: (a.put oq.dst v).defers }:=by
      unfold Act.put
      cases oq.dst <;> rfl
     rw [h9];exact hzz
    case enter f args =>
     exact hzz.mono fun e w'' he=>by
      cases e with
      | returned u=>exact key a u w'' rfl he
      | panicked ch=>exact (hP _ _ _ he).elim
      | outgrown=>exact he
    case row row args=>exact Rows.mono hzz fun u w'' he=>key a u w'' rfl he
   | halt c w' =>
    cases c <;> simp only [Oper.upon] at hzz ⊢
    case panic u=>exact (hP _ _ _ hzz).elim
  ·exact (hL hzz.2).elim
 ·rename_i hw
  rw [if_neg hw] at hzz;exact key a undef X rfl hzz
end
end Go.Proofs.YtnfpenhldlfafaaGreatDoor

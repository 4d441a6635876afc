/- law 45: PeriodsStayClosed: words. -/
import Derived.Test.YtjkfchehkpmhkaaDoorPl45d
import Derived.Test.YtjkfchehkpmhkaaDoorLv45
import Derived.Test.YtjkfchehkpmhkaaDoorAc
import Derived.Test.YtjkfchehkpmhkaaDoorMI
set_option linter.unusedSimpArgs false
set_option linter.unusedVariables false
set_option maxRecDepth 100000
set_option maxHeartbeats 1600000
namespace Go.Proofs.YtjkfchehkpmhkaaDoor
open Go.RowKit
def SF9 (l:List Stp) (k:Nat):Int→Option Value:=fun p=>if jU (l.take k) p=true then some (.bool true) else none
theorem xQz {l:List Stp} {k:Nat} (hk:k<l.length) (h0:0≤(sp l k).q.pd) (h1:(sp l k).q.pd≤4000) (p:Int):SF9 l (k+1) p=if p=(sp l k).q.pd then some (.bool true) else SF9 l k p:=by
 unfold SF9
 rw [List.take_succ_eq_append_getElem hk,rH,← iL hk,decide_eq_true h0,decide_eq_true h1]
 by_cases hp:p=(sp l k).q.pd
 ·subst hp
  simp
 ·rw [if_neg hp,decide_eq_false (fun h9=>hp h9.symm),Bool.and_false,Bool.or_false]
theorem zA {l:List Stp} {k:Nat} (hk:k<l.length) (h:¬ (0≤(sp l k).q.pd∧(sp l k).q.pd≤4000)):SF9 l (k+1)=SF9 l k:=by
 funext p
 unfold SF9
 rw [List.take_succ_eq_append_getElem hk,rH,← iL hk]
 have h9:(decide (0≤(sp l k).q.pd) && decide ((sp l k).q.pd≤4000))=false:=by
  rw [Bool.and_eq_false_iff,decide_eq_false_iff_not,decide_eq_false_iff_not]
  omega
 rw [h9,Bool.false_and,Bool.or_false]
theorem qZm {l:List Stp} {k:Nat} {p:Int} {u:Value} (h:SF9 l k p=some u):0≤p∧p≤4000:=by
 unfold SF9 at h
 split at h
 ·rename_i h9
  exact qVn h9
 ·cases h
theorem jG {P:Program} {f:Operand→Value} {o:Oper} (x:Operand) (ho:o.op=.entry x) {p v:Value} (hx:f x=p) {X:World} (h:(Instr.entry p).run P X=.ok v X):(execOp f o).run P X=.ok (.value v) X:=by
 unfold execOp
 simp only [ho,hx,Sem.run_bind,h,Result.andThen_ok,Sem.run_pure]
theorem vXh {k:Int} (h0:0≤k) (h1:k≤4000):(Lit.int .i64 k).wf=true:=rU (by omega) (by omega)
theorem rn_pd {c:Int} {l:List Stp} (hI:In45 c ([],[]) 0) (h:eB l=true) {L:List En} {D:List Cg} (hS:rn c ([],[]) l=(L,D)):∀ i,i<L.length→jU l (en L i).pd=true:=by
 have h9:=xQ hI (ss:=l) (T:=l) (by have:=(dO h).1;omega) (dO h).2 (fun s hs=>hs) (fun i hi=>by cases hi);rw [hS] at h9;exact h9
theorem qZd {c:Int} {L:List En} (h:Ok44 c L) {a d:Int} (h0:0≤a) (h1:a<c) (h2:0≤d) (h3:d≤14609):blE c L a d=0:=by
 unfold blE
 rw [if_neg (fun h9=>h9 (acE_ok.2 h)),if_neg (by omega)]
theorem qZb {c:Int} {L:List En} {D:List Cg} (h:Ok45 c L D) {a f t:Int} (h0:1<a) (h1:a<c) (h2:0≤f) (h3:f≤14609) (h4:0≤t) (h5:t≤14609):gG c L D a f t=0:=by
 unfold gG
 rw [if_neg (fun h9=>h9 (peE_ok.2 h)),if_neg,if_neg (by omega)];intro h9
 apply h9
 unfold cY
 rw [if_neg (by omega)]
theorem xQy {c p a d:Int} (p0:0≤p) (p4:p≤4000) (h0:1<a) (h1:a<c) (h2:0≤d) (h3:d≤14609):cY c p a d=0:=by
 unfold cY
 rw [if_neg (by omega)]
abbrev FK:=Int×Int→Option Rat
structure Knw (c:Int) (S:List En×List Cg) (F G:FK):Prop where
 kn:∀ p a,1<a→knw S.1 p a 14609=(F (p,a)).getD 0
 dom:∀ p a,(F (p,a)).isSome=true→cY c p a 14609=0
 fr:∀ p a,1<a→p<(S.2.length:Int)→frz S.1 p a 14609=(G (p,a)).getD 0
 ent:∀ i,i<S.1.length→∀ a,1<a→((en S.1 i).deb=a∨(en S.1 i).cre=a)→(F ((en S.1 i).pd,a)).isSome=true
 szF:∀ j z,F j=some z→szR z 12
 szG:∀ j z,G j=some z→szR z 12
 gOpen:∀ p a,¬ p<(S.2.length:Int)→G (p,a)=none
theorem Knw.new (c:Int):Knw c ([],[]) (fun _=>none) (fun _=>none) :=
 ⟨fun p a _=>rfl,fun p a h=>(by cases h),fun p a _ _=>rfl,fun i hi=>absurd hi (Nat.not_lt_zero i),fun j z h=>(by cases h),fun j z h=>(by cases h),fun _ _ _=>rfl⟩
theorem Ok45.kd3 {c:Int} {l:List En} {cs:List Cg} (h:Ok45 c l cs) {i:Nat} (hi:i<l.length) (h3:(en l i).kd=3):(en l i).pd<(cs.length:Int):=by
 obtain ⟨_,h1⟩:=yN (h.ent i hi);have hl:=h.ac.len
 rcases h1 with ⟨_,_,h4⟩|⟨h4,_⟩
 ·unfold gU at h4
  split at h4
  ·rename_i h5
   exact h5
  ·omega
 ·omega
theorem Ok45.open {c:Int} {l:List En} {cs:List Cg} (h:Ok45 c l cs) {p:Int} (hp:¬ p<(cs.length:Int)) (a d:Int):frz l p a d=knw l p a d:=by
 unfold frz knw qXz wL
 refine cL fun i hi=>?_
 unfold jQ kD
 by_cases h1:(en l i).pd=p∧(en l i).day≤d
 ·rw [if_pos h1,if_pos ⟨h1.1,h1.2,fun h3=>hp (by have:=h.kd3 hi h3;omega)⟩]
 ·rw [if_neg h1,if_neg (fun h9=>h1 ⟨h9.1,h9.2.1⟩)]
theorem vVf {x:En} {a:Int} (h:ent x a≠0):x.deb=a∨x.cre=a:=by
 rcases Decidable.em (x.deb=a) with h1|h1
 ·exact .inl h1
 ·rcases Decidable.em (x.cre=a) with h2|h2
  ·exact .inr h2
  ·exact absurd (rR h1 h2) h
theorem vV {l:List En} {cs:List Cg} {q:Stg} (ha:1<q.ac) {a:Int} (h1:1<a) (h:(dE l cs q).deb=a∨(dE l cs q).cre=a):a=q.ac:=by
 have ho:=sF cs q
 unfold dE at h
 split at h
 ·dsimp only at h
  omega
 ·dsimp only at h
  omega
theorem Knw.set {c:Int} {S:List En×List Cg} {m:Nat} {F G:FK} (h:Knw c S F G) (hI:In45 c S m) {q:Stg} (hq:tz q.am.2.1 q.am.2.2 12) (hE:bN c S.1 S.2 q=0):Knw c (bT c S.1 S.2 q,S.2) (fun j=>if j=(q.pd,q.ac) then some (trq q.am) else F j) G:=by
 obtain ⟨_,h2,_,_⟩:=(eT hI.ok).1 hE;obtain ⟨p0,p4,a1,a2,d0,d1⟩:=cK h2
 have hA:cY c q.pd q.ac 14609=0:=by
  unfold cY
  rw [if_neg (by omega)]
 refine ⟨fun p a ha=>?_,fun p a h1=>?_,fun p a ha hp=>?_,fun i hi a ha h1=>?_,fun j z h1=>?_,h.szG,h.gOpen⟩
 ·show knw (bT c S.1 S.2 q) p a 14609=_
  unfold bT
  rw [if_pos hE]
  by_cases h9:p=q.pd∧a=q.ac
  ·obtain ⟨rfl,rfl⟩:=h9
   rw [if_pos rfl]
   show _=trq q.am
   split
   ·rename_i hz
    unfold mor at hz
    grind
   ·exact sV h2
  ·rw [if_neg (show ¬ (p,a)=(q.pd,q.ac) from fun h8=>h9 (by injection h8 with e1 e2;exact ⟨e1,e2⟩))]
   split
   ·exact h.kn p a ha
   ·rw [kB,iR _ _ _ _ _ _ ha a1,if_neg (fun h8=>h9 ⟨h8.1.symm,h8.2.2.symm⟩),Rat.add_zero]
    exact h.kn p a ha
 ·by_cases h9:(p,a)=(q.pd,q.ac)
  ·injection h9 with e1 e2
   rw [e1,e2];exact hA
  ·rw [if_neg h9] at h1
   exact h.dom p a h1
 ·show frz (bT c S.1 S.2 q) p a 14609=_
  unfold bT
  rw [if_pos hE];have hp2:p<(S.2.length:Int):=hp
  split
  ·exact h.fr p a ha hp
  ·rw [qG,nD _ _ _ _ _ _ ha a1,if_neg (fun h8=>h8.2.2.2 (by omega)),Rat.add_zero]
   exact h.fr p a ha hp
 ·have hi2:i<(bT c S.1 S.2 q).length:=hi
  have h12:(en (bT c S.1 S.2 q) i).deb=a∨(en (bT c S.1 S.2 q) i).cre=a:=h1
  show (if ((en (bT c S.1 S.2 q) i).pd,a)=(q.pd,q.ac) then some (trq q.am) else F ((en (bT c S.1 S.2 q) i).pd,a)).isSome=true
  unfold bT at hi2 h12 ⊢
  rw [if_pos hE] at hi2 h12 ⊢
  by_cases hz:mor S.1 q=0
  ·rw [if_pos hz] at hi2 h12 ⊢
   split
   ·rfl
   ·exact h.ent i hi2 a ha h12
  ·rw [if_neg hz] at hi2 h12 ⊢
   rw [eX] at hi2
   rcases Nat.lt_or_ge i S.1.length with h3|h3
   ·rw [kL h3] at h12 ⊢
    split
    ·rfl
    ·exact h.ent i h3 a ha h12
   ·rw [show i=S.1.length by omega,kK] at h12 ⊢
    rw [vV a1 ha h12,lW,if_pos rfl]
    rfl
 ·by_cases h9:j=(q.pd,q.ac)
  ·rw [if_pos h9] at h1
   injection h1 with h1
   rw [← h1];exact iZ rfl hq
  ·rw [if_neg h9] at h1
   exact h.szF j z h1
theorem Knw.close {c:Int} {S:List En×List Cg} {m:Nat} {F G:FK} (h:Knw c S F G) (hI:In45 c S m) {d:Int} (hE:cQ c S.1 S.2 d=0):Knw c (S.1,dL c S.1 S.2 d) F (fun j=>if j.1=(S.2.length:Int)∧(F j).isSome=true then F j else G j):=by
 have hcl:((dL c S.1 S.2 d).length:Int)=(S.2.length:Int)+1:=by
  unfold dL
  rw [if_pos hE,List.length_append,List.length_singleton]
  omega
 refine ⟨h.kn,h.dom,fun p a ha hp=>?_,h.ent,h.szF,fun j z h1=>?_,fun p a hp=>?_⟩
 ·have hp2:p<((dL c S.1 S.2 d).length:Int):=hp
  rw [hcl] at hp2
  show frz S.1 p a 14609=(if p=(S.2.length:Int)∧(F (p,a)).isSome=true then F (p,a) else G (p,a)).getD 0
  by_cases h1:p=(S.2.length:Int)
  ·rw [hI.ok.open (p:=p) (by omega) a 14609,h.kn p a ha]
   by_cases h2:(F (p,a)).isSome=true
   ·rw [if_pos ⟨h1,h2⟩]
   ·rw [if_neg (fun h9=>h2 h9.2),h.gOpen p a (by omega),Option.not_isSome_iff_eq_none.1 h2]
  ·rw [if_neg (fun h9=>h1 h9.1)]
   exact h.fr p a ha (by omega)
 ·split at h1
  ·exact h.szF j z h1
  ·exact h.szG j z h1
 ·have hp2:¬ p<((dL c S.1 S.2 d).length:Int):=hp
  rw [hcl] at hp2
  show (if p=(S.2.length:Int)∧(F (p,a)).isSome=true then F (p,a) else G (p,a))=none
  rw [if_neg (fun h9=>by omega)];exact h.gOpen p a (by omega)
theorem Knw.fig {c:Int} {S:List En×List Cg} {m:Nat} {F G:FK} (h:Knw c S F G) (hI:In45 c S m) {p a:Int} {z:Rat} (hF:F (p,a)=some z) :
  fA c S.1 S.2 p a 14609=0∧dY c S.1 S.2 p a 14609=z∧eN c S.1 S.2 p a 14609=decide (p<(S.2.length:Int))∧dR c S.1 S.2 p a 14609=(if p<(S.2.length:Int) then (G (p,a)).getD 0 else 0):=by
 have hA:=h.dom p a (by rw [hF];rfl);obtain ⟨p0,_,a1,_,_,_⟩:=cK hA
 have hE:fA c S.1 S.2 p a 14609=0:=by rw [fQ hI.ok,hA]
 unfold dY eN dR
 rw [if_pos hE,if_pos hE,if_pos hE,yL hI.ok p0];refine ⟨hE,by rw [h.kn p a a1,hF];rfl,rfl,?_⟩
 by_cases h1:p<(S.2.length:Int)
 ·rw [decide_eq_true h1,if_pos rfl,if_pos h1]
  exact h.fr p a a1 h1
 ·rw [decide_eq_false h1,if_neg h1]
  rfl
def jP (l:List En) (a:Int) (L:Int×Int→Bool):Rat:=sm l.length fun i=>if (en l i).kd=3∧L ((en l i).pd,a)=false then ent (en l i) a else 0
theorem wX {c:Int} {S:List En×List Cg} {F G:FK} (h:Knw c S F G) {a:Int} (ha:1<a):jP S.1 a (fun j=>(F j).isSome)=0 :=
 fO fun i hi=>by
  by_cases h1:ent (en S.1 i) a=0
  ·rw [h1]
   split <;> rfl
  ·rw [if_neg (fun h9=>by
    have h7:=h.ent i hi a ha (vVf h1);have h8:(F ((en S.1 i).pd,a)).isSome=false:=h9.2;rw [h7] at h8
    cases h8)]
theorem qQp {c:Int} {l:List En} (h:Ok44 c l) {p a:Int} {L:Int×Int→Bool} (hk:L (p,a)=true):jP l a (fun j=>L j && !decide (j=(p,a)))=jP l a L+(knw l p a 14609-frz l p a 14609):=by
 unfold jP knw frz wL qXz
 rw [← xL,← sD];refine cL fun i hi=>?_;have y1:=(h.rg hi).y1
 unfold kD jQ
 by_cases h1:(en l i).pd=p
 ·have e1:((en l i).pd,a)=(p,a):=by rw [h1]
  have e2:(L ((en l i).pd,a) && !decide (((en l i).pd,a)=(p,a)))=false:=by
   rw [decide_eq_true e1]
   simp
  have e3:L ((en l i).pd,a)=true:=by rw [e1];exact hk
  simp only [e2,e3]
  by_cases h3:(en l i).kd=3
  ·simp [h1,h3,y1] <;> grind
  ·simp [h1,h3,y1]
   grind
 ·have e2:(L ((en l i).pd,a) && !decide (((en l i).pd,a)=(p,a)))=L ((en l i).pd,a):=by
   rw [decide_eq_false (fun h9=>h1 (by injection h9))]
   simp
  simp only [e2];rw [if_neg (fun h9:(en l i).pd=p∧_=>h1 h9.1),if_neg (fun h9:(en l i).pd=p∧_=>h1 h9.1)]
  grind
theorem wY (l:List En) {a:Int} {j0:Int×Int} {L:Int×Int→Bool} (ha:j0.2≠a):jP l a (fun j=>L j && !decide (j=j0))=jP l a L:=by
 unfold jP
 refine cL fun i _=>?_
 have e2:(L ((en l i).pd,a) && !decide (((en l i).pd,a)=j0))=L ((en l i).pd,a):=by
  rw [decide_eq_false (fun h9=>ha (by rw [← h9]))]
  simp
 simp only [e2]
theorem qZc {c:Int} {l:List En} (h:Ok44 c l) {a:Int} {L:Int×Int→Bool} (hL:∀ i,i<l.length→L ((en l i).pd,a)=false):jP l a L=mZ l a 0 14609 l.length:=by
 unfold jP mZ
 refine cL fun i hi=>?_;have y0:=(h.rg hi).y0;have y1:=(h.rg hi).y1
 unfold fU
 rw [hL i hi,decide_eq_true y0,decide_eq_true y1]
 by_cases h3:(en l i).kd=3
 ·by_cases h4:(en l i).deb=a∨(en l i).cre=a
  ·rw [if_pos (show (en l i).kd=3∧false=false from ⟨h3,rfl⟩),if_pos (by rw [decide_eq_true h3];simpa using h4)]
  ·rw [rR (fun h9=>h4 (.inl h9)) (fun h9=>h4 (.inr h9))]
   split <;> split <;> rfl
 ·rw [if_neg (show ¬ ((en l i).kd=3∧false=false) from fun h9=>h3 h9.1),decide_eq_false h3]
  rfl
theorem vVo {l:List En} {B:Nat} (h1:1≤B) (hx:∀ k,tz (en l k).am.2.1 (en l k).am.2.2 B) (a:Int) (L:Int×Int→Bool):szR (jP l a L) (l.length * (2 * B+2)+1) :=
 iA fun i _=>qD (iJ h1 (hx i) a) (by omega)
def RF {α:Type} (F:α→Option Rat):α→Option Value:=fun j=>(F j).map rbv
theorem qU {α:Type} (F:α→Option Rat) (j:α):(RF F j).getD (.agg #[.bool false,.string ⟨#[]⟩,.string ⟨#[]⟩])=rbv ((F j).getD 0):=by
 unfold RF
 cases F j <;> rfl
theorem tM {α:Type} {F:α→Option Rat} {j:α} {u:Value} (h:RF F j=some u):∃ z,F j=some z∧u=rbv z:=by
 unfold RF at h
 cases hF:F j with
 | none=>rw [hF] at h;cases h
 | some z =>
  rw [hF] at h
  injection h with h
  exact ⟨z,rfl,h.symm⟩
theorem vXt {α:Type} (F:α→Option Rat) (j:α):(RF F j).isSome=(F j).isSome:=by
 unfold RF
 cases F j <;> rfl
theorem qT {α:Type} [DecidableEq α] (F:α→Option Rat) (k:α) (z:Rat) (j:α):RF (fun j=>if j=k then some z else F j) j=if j=k then some (rbv z) else RF F j:=by
 unfold RF
 by_cases h:j=k
 ·simp only [if_pos h]
  rfl
 ·simp only [if_neg h]
theorem Mr.cnt_le {P:Program} {K:TypeId} {α:Type} {κ:Kx P K α} {b r n:Nat} {F:α→Option Value} {L:α→Bool} {cnt:Nat} {X:World} (h:Mr κ b r n F L cnt X):cnt≤n:=by
 obtain ⟨D,left,⟨es,clock,since,seen,c0,h1,h2,h3,h4,h5,h6,h7,_⟩,_⟩:=h;rw [← h7];refine Nat.le_trans ?_ h3
 unfold leftOf
 exact Array.size_filter_le
theorem wE {P:Program} {K:TypeId} {α:Type} (κ:Kx P K α) {w:World} {ops:Array Oper} {rest:List Oper} {o:Oper} {a:Act} {Q:Exit→Act→World→Prop} (hgd:o.guard=none) (t:TypeId) (ho:o.op=.makeMap t none) (hm:∀ X:World,(Instr.makeMap t none).run P X=.ok (.map (some X.heap.size)) (X.alloc (.map #[] 0)))
  (h:∀ w',Mv κ 0 (fun _=>none) (.map (some w.heap.size)) w'→Since w w'→wpList P ops Q rest (a.put o.dst (.map (some w.heap.size))) w'):wpList P ops Q (o :: rest) a w:=by
 refine wpList_plain hgd fun K' hK=>?_
 have hrun:(execOp a.eval o).run P w=.ok (.value (.map (some w.heap.size))) (w.alloc (.map #[] 0)):=by
  have hm:=hm w
  unfold execOp
  simp only [ho,Option.map,Sem.run_bind,Sem.run_pure,Result.andThen_ok,hm]
 unfold Oper.wp
 rw [hrun];exact hK _ _ (h _ (Mv.made w) ((Below.refl w.heap.size w).alloc (Nat.le_refl _) _))
theorem jW {P:Program} {w:World} {ops:Array Oper} {rest:List Oper} {o:Oper} {a:Act} {Q:Exit→Act→World→Prop} (hgd:o.guard=none) (T:TypeId) (zs:List Value) (hr:∀ X:World,(execOp a.eval o).run P X=.ok (.value (vP X.heap.size 0)) (X.alloc (.cells zs.toArray T)))
  (h:∀ w',Blk w' w.heap.size T zs→Since w w'→w.heap.size<w'.heap.size→wpList P ops Q rest (a.put o.dst (vP w.heap.size 0)) w'):wpList P ops Q (o :: rest) a w:=by
 refine wpList_plain hgd fun K' hK=>?_
 unfold Oper.wp
 rw [hr w];exact hK _ _ (h _ (Blk.new rfl) ((Below.refl w.heap.size w).alloc (Nat.le_refl _) _) (Blk.new (t:=T) (xs:=zs) rfl).lt)
def fV (n:Nat):Code→Option Code
 | .seq (.region i o d) b=>if i=n then some (.seq (.region i o d) b) else fV n b
 | .seq a b=>match fV n a with
  | some c=>some c
  | none=>fV n b
 | .block _ c=>fV n c
 | .cond _ a b=>match fV n a with
  | some c=>some c
  | none=>fV n b
 | .loop c=>fV n c
 | .scope c=>fV n c
 | _=>none
def nI (n:Nat) (f:Func):Option Code:=match f.body with
 | some c=>fV n c
 | none=>none
theorem gK {P:Program} {K:TypeId} {α:Type} {κ:Kx P K α} {n:Nat} {F:α→Option Value} {X:World} {g:Nat} {T:TypeId} {cs:List Value} (h:Blk X g T cs) (h':Mv κ n F (.map (some g)) X):False:=by
 obtain ⟨b,hv,D,h1,_⟩:=h'
 injection hv with hv
 injection hv with hv
 subst hv;obtain ⟨es,clock,h2,_⟩:=h1;have h3:X.heap[g]?=some (.cells cs.toArray T (0,0)):=h;rw [h2] at h3
 cases h3
theorem uD {P:Program} {K:TypeId} {α:Type} {κ:Kx P K α} {N m n:Nat} {F:α→Option Value} {g:Nat} {v:Value} {xs:List Value} {X Y:World} (hG:X.grownBy Y (some g)) (hM:Mv κ N F (.map (some g)) X) (h:Rd X m v n xs) (hm:0<m):Rd Y m v n xs:=by
 obtain ⟨hl,A,c,hv,hc,hz0,hz,hx⟩:=h;refine ⟨hl,A,c,hv,hc,hz0,hz,fun hn=>?_⟩;obtain ⟨b,off,hA,hb,hcell⟩:=hx hn
 have hne:b≠g:=fun h9=>by
  subst h9
  have hlen:0<xs.length:=by rw [hl];exact Nat.mul_pos hn hm
  have h2:=hcell 0 _ (List.getElem?_eq_getElem hlen);obtain ⟨b',hv',D,h1,_⟩:=hM
  injection hv' with hv'
  injection hv' with hv'
  subst hv';obtain ⟨es,clock,h3,_⟩:=h1
  unfold World.cell? at h2
  rw [h3] at h2
  cases h2
 exact ⟨b,off,hA,Nat.lt_of_lt_of_le hb hG.size,fun j u hj=>(World.cell?_of_block (w:=X) (a:=⟨b,off+j,none⟩) (hG.block b hb (fun h9=>hne (by injection h9)))).trans (hcell j u hj)⟩
theorem kJ {P:Program} {K:TypeId} {α:Type} {κ:Kx P K α} {N:Nat} {F:α→Option Value} {g:Nat} {v:Value} {l:List En} {X Y:World} (hG:X.grownBy Y (some g)) (hM:Mv κ N F (.map (some g)) X) (h:Es l v X):Es l v Y:=uD hG hM h (by decide)
theorem kM {P:Program} {K:TypeId} {α:Type} {κ:Kx P K α} {N:Nat} {F:α→Option Value} {g B:Nat} {v:Value} {l:List Cg} {X Y:World} (hG:X.grownBy Y (some g)) (hM:Mv κ N F (.map (some g)) X) (h:Cs B l v X):Cs B l v Y:=by
 refine ⟨uD hG hM h.1 (by decide),fun b off n c h3 h4=>?_⟩
 rcases h.2 b off n c h3 h4 with h5|⟨arr,fr,h5⟩
 ·exact .inl h5
 ·refine .inr ⟨arr,fr,(hG.block b (Array.getElem?_eq_some_iff.1 h5).1 (fun e=>?_)).trans h5⟩
  injection e with e
  subst e;obtain ⟨b',hv',D,h1,_⟩:=hM
  injection hv' with hv'
  injection hv' with hv'
  subst hv';obtain ⟨es,clock,h6,_⟩:=h1;rw [h6] at h5
  cases h5
theorem zH (l:List En) (cs:List Cg) (q:Stg):∃ xd xc xa,dE l cs q=⟨q.day,xd,xc,xa,iC cs q,q.pd,-1,q.w1,q.w2,q.w3,q.w4⟩:=by
 unfold dE
 split
 ·exact ⟨_,_,_,rfl⟩
 ·exact ⟨_,_,_,rfl⟩
theorem sJ {n:Bool} {p q:List UInt8} (hv:vd n p q=true):rbv (trq (n,p,q))=.agg #[.bool n,vS p,vS q]:=by
 have h9:=vZj hv (show rq n p q=trq (n,p,q) from rfl);simp only [Bool.and_eq_true,beq_iff_eq] at h9;exact sI ⟨h9.1.1,h9.1.2,h9.2⟩
end Go.Proofs.YtjkfchehkpmhkaaDoor

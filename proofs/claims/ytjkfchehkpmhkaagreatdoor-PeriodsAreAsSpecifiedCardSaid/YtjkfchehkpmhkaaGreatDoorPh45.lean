/- period: Set. -/
import Derived.Test.YtjkfchehkpmhkaaGreatDoorPg45
import Derived.Test.YtjkfchehkpmhkaaGreatDoorBk45
import Derived.Test.YtjkfchehkpmhkaaGreatDoorBg
set_option linter.unusedSimpArgs false
set_option linter.unusedVariables false
set_option maxRecDepth 100000
set_option maxHeartbeats 1600000
namespace Go.Proofs.YtjkfchehkpmhkaaGreatDoor
open Go.RowKit
section
variable {P:Program} {ops:Array Oper} {R:World→World→Prop} {w0:World} {Q:Act→World→Prop} {pre:Nat→Nat→Bool} {a:Act} {k:Nat} {o:Oper} {l:List (Nat×Oper×cJ)} {Fs:List (Nat×(World→Prop))}
theorem qVg (hw:Region.wanted o (yielded ops a.tmps)=true) (x:Operand) (xs:List Operand) (ts:Array TypeId) (ho:o.op=.call { callee:=.value x,args:=xs.toArray,argTypes:=ts }) (f:FuncId) (fst:List Value) (hx:a.eval x=.func (.func f) fst.toArray #[]) (v:Value) (args:List Value) (he:xs.map a.eval=args)
  (hi:P.inits.idxOf? f=none) (hf:∀ X:World,(callFunc f (fst++args).toArray).run P X=.ok (.enter f (fst++args).toArray) X)
  (hc:∀ X,R w0 X→(∀ p F,(p,F)∈Fs→pre k p=true→F X)→Calls P f (fst++args).toArray X fun e X'=>e=.returned v∧R X X') (h:bO P ops R w0 Q pre l Fs (a.put o.dst v)):bO P ops R w0 Q pre ((k,o,none) :: l) Fs a:=by
 refine ⟨?_⟩
 unfold CertR
 rw [if_pos hw];refine ⟨v,fun X hX hF=>?_,h.out⟩;have hc:=hc X hX hF
 have he2:xs.toArray.map a.eval=args.toArray:=by rw [List.map_toArray,he]
 have hrun:(execOp a.eval o).run P X=.ok (.enter f (fst++args).toArray) X:=by
  unfold execOp
  rw [ho];have hfX:=hf X;simp only [resolve,Sem.run_bind,Sem.run_pure,Result.andThen_ok,hx,he2,Deferred.ofValue,invoke]
  go_simp
 unfold dF
 rw [hrun];exact ⟨rfl,hi,hc⟩
end
theorem qVy (a b c d e f g:Value) (X:World):(Instr.field 55 (.agg #[a,b,c,d,e,f,g]) 0).run Tryz.prog X=.ok (.agg #[a,b,c]) X:=by kernel_rfl
theorem nG {P:Program} {f:Operand→Value} {o:Oper} (t:TypeId) (x:Operand) (i:Nat) (ho:o.op=.field t x i) {v r:Value} (hx:f x=v) (X:World) (hr:(Instr.field t v i).run P X=.ok r X):(execOp f o).run P X=.ok (.value r) X:=by
 unfold execOp
 simp only [ho,hx,Sem.run_bind,hr,Result.andThen_ok,Sem.run_pure]
theorem qYo {l:List En} {cs:List Cg} {x:En} (h:stl l cs x.day=false) (hl:l.length<4000):iM l x=0:=by
 obtain ⟨h1,_⟩:=zY h
 unfold iM
 rw [if_neg (fun h9=>by have:=h1 h9.1;omega),if_neg (by omega)]
structure Sg (c:Int) (l:List En) (cs:List Cg) (q:Stg):Prop where
 ok:Ok45 c l cs
 e:cF c l cs q=0
 nz:mor l q≠0
theorem Sg.lt {c:Int} {l:List En} {cs:List Cg} {q:Stg} (h:Sg c l cs q):l.length<4000:=by
 have h1:=((kI h.ok).1 h.e).2.2.2;have h2:=h.ok.ac.len
 omega
theorem Sg.L {c:Int} {l:List En} {cs:List Cg} {q:Stg} (h:Sg c l cs q):cX c l cs q=l++[dM l cs q]:=by
 unfold cX
 rw [if_pos h.e,if_neg h.nz]
theorem Sg.wt {c:Int} {l:List En} {cs:List Cg} {q:Stg} (h:Sg c l cs q):iM l (dM l cs q)=0:=qYo (cs:=cs) (by rw [jP];exact ((kI h.ok).1 h.e).2.2.1) h.lt
theorem Sg.rg {c:Int} {l:List En} {cs:List Cg} {q:Stg} (h:Sg c l cs q):rgt c l.length (dM l cs q)=true:=rgt_t.2 (wI ((kI h.ok).1 h.e).2.1 h.nz)
def ajS (l:List En) (q:Stg):Aj:=⟨q.day,q.ac,1,q.pd,tr (mor l q),q.w1,q.w2,q.w3,q.w4⟩
theorem Sg.aj {c:Int} {l:List En} {cs:List Cg} {q:Stg} (h:Sg c l cs q) (hp:q.pd<(cs.length:Int)):adj (ajS l q)=dM l cs q:=by
 have hO:kP cs q=1:=if_pos hp;have hK:kQ cs q=3:=if_pos hp
 unfold adj dM ajS
 rw [hO,hK]
 dsimp only
 rw [oH,if_neg h.nz]
theorem Sg.ajE {c:Int} {l:List En} {cs:List Cg} {q:Stg} (h:Sg c l cs q) (hp:q.pd<(cs.length:Int)):ajE c l (ajS l q)=0:=by
 unfold Go.Proofs.YtjkfchehkpmhkaaGreatDoor.ajE
 rw [h.aj hp,acE_ok.2 h.ok.ac,if_neg (fun h9=>h9 rfl),if_neg,h.wt]
 rintro (h9|h9)
 ·have h8:vd (ajS l q).am.1 (ajS l q).am.2.1 (ajS l q).am.2.2=true:=wA (mor l q)
  rw [h8] at h9
  cases h9
 ·rw [h.rg] at h9
  cases h9
theorem Sg.ajL {c:Int} {l:List En} {cs:List Cg} {q:Stg} (h:Sg c l cs q) (hp:q.pd<(cs.length:Int)):ajL c l (ajS l q)=cX c l cs q:=by
 unfold Go.Proofs.YtjkfchehkpmhkaaGreatDoor.ajL
 rw [if_pos (h.ajE hp),if_neg,h.aj hp,h.L];rw [show trq (ajS l q).am=mor l q from oH _];exact h.nz
theorem Sg.po {c:Int} {l:List En} {cs:List Cg} {q:Stg} (h:Sg c l cs q) (hp:¬ q.pd<(cs.length:Int)):poE c l (dM l cs q)=0∧poL c l (dM l cs q)=cX c l cs q:=by
 have hK:kQ cs q=1:=if_neg hp
 have e:poE c l (dM l cs q)=0:=by
  unfold poE
  rw [acE_ok.2 h.ok.ac,if_neg (fun h9=>h9 rfl),if_neg,h.wt]
  rintro (h9|h9)
  ·rw [rF,hK] at h9
   cases h9
  ·rw [h.rg] at h9
   cases h9
 refine ⟨e,?_⟩
 unfold poL
 rw [if_pos e,h.L]
theorem vXd {l:List En} {cs:List Cg} {q:Stg} (hp:¬ q.pd<(cs.length:Int)) (h:mor l q<0):dM l cs q=⟨q.day,0,q.ac,tr (-(mor l q)),1,q.pd,-1,q.w1,q.w2,q.w3,q.w4⟩:=by
 have hO:kP cs q=0:=if_neg hp;have hK:kQ cs q=1:=if_neg hp
 unfold dM
 rw [if_pos h,hO,hK]
theorem vXc {l:List En} {cs:List Cg} {q:Stg} (hp:¬ q.pd<(cs.length:Int)) (h:¬ mor l q<0):dM l cs q=⟨q.day,q.ac,0,tr (mor l q),1,q.pd,-1,q.w1,q.w2,q.w3,q.w4⟩:=by
 have hO:kP cs q=0:=if_neg hp;have hK:kQ cs q=1:=if_neg hp
 unfold dM
 rw [if_neg h,hO,hK]
theorem rN_iff {z:Rat}:rN z=true↔z<0:=by
 unfold rN
 rw [decide_eq_true_eq]
 constructor
 ·intro h
  rcases Rat.le_total (a:=0) (b:=z) with h1|h1
  ·exact absurd (Rat.num_nonneg.2 h1) (by omega)
  ·refine Rat.lt_of_le_of_ne h1 ?_
   intro h2;rw [h2] at h;exact absurd h (by decide)
 ·intro h
  rcases Int.lt_or_le z.num 0 with h1|h1
  ·exact h1
  ·exact absurd (Rat.num_nonneg.1 h1) (Rat.not_le.2 h)
set_option maxHeartbeats 16000000 in
theorem stC45 (B:Nat) (c:Int) (v z:Value) (l:List En) (cs:List Cg) (q:Stg) (w:World) (hv:Es l v w) (hz:Cs B cs z w) (hs1:Hid (Sz45 l)) (hq1:tz q.am.2.1 q.am.2.2 100):Calls Tryz.prog 12 #[.agg #[vI c,v,z],.agg #[vI q.day,vI q.pd,vI q.ac,.bool q.am.1,vS q.am.2.1,vS q.am.2.2,vI q.w1,vI q.w2,vI q.w3,vI q.w4]] w fun e w'=>∃ u,e=.returned u∧Tp (Prs B (ifz (cF c l cs q) c) (cX c l cs q) (cY (cF c l cs q) cs)) (cF c l cs q) u w'∧Since w w':=by
 have hs:Hid (∀ k,tz (en l k).am.2.1 (en l k).am.2.2 1000000):=fun k=>(hs1.out.1 k).mono (by decide)
 have hq6:tz q.am.2.1 q.am.2.2 1000000:=hq1.mono (by decide);obtain ⟨A,n,cp,A2,m,cp2,rfl,rfl,hln,hn1,hlm,hm1,HRX,HLN,HES,HCS,HRC,HLM⟩:=eU hv hz;clear hv hz;obtain ⟨z0,z09⟩:∃ z,peE c l cs=z:=⟨_,rfl⟩;have HZ:=Lib.hid z09;clear z09
 go_enter Tryz.func12,Tryz.ntmps12
 go_upto_region 1 with fail;obtain ⟨W0,hW0,hB0,hB1,hB2,hb⟩:=dO w 27 44 27 [vI c,.slice A n cp,.slice A2 m cp2] [vI q.day,vI q.pd,vI q.ac,.bool q.am.1,vS q.am.2.1,vS q.am.2.2,vI q.w1,vI q.w2,vI q.w3,vI q.w4] [vI 0,.slice none 0 0,.slice none 0 0];rw [← hW0];clear hW0;refine jp ?_;refine ja hB0 Tryz.underlying27 (by rfl) aK ?_;refine jc (vI z0) (fun X hX hF=>mo (sZ B c _ _ l cs X (HES.out X (Since.next hb hX)) (HCS.out X (Since.next hb hX)) hs) (by rw [HZ.out])) ?_;refine jm (vI z0) ?_;refine bE hb hB0 hB1 hB2 fun X1 hX1 hb hB0 hB1 hB2=>?_
 by_cases hz0:z0=0
 ·have HC:Hid (peE c l cs=0):=HZ.out.trans hz0
  have HZ0:=Lib.hid hz0;clear hz0;go_upto_region 2 with fail;refine jp ?_;refine jm (vI z0) ?_;refine jv (.bool false) (bA _ _ _ _ (by rfl) .i64 z0 0 (by rfl) (by rfl) false (by rw [HZ0.out];rfl)) ?_;refine bE hb hB0 hB1 hB2 fun X2 hX2 hb hB0 hB1 hB2=>?_;obtain ⟨vv,vv9⟩:∃ z,vd q.am.1 q.am.2.1 q.am.2.2=z:=⟨_,rfl⟩;have HV:=Lib.hid vv9;clear vv9;go_upto_region 4 with fail
  rcases vv with _|_
  ·skip
   refine jp ?_;refine jn (vP (w.heap.size+1) 3) ?_;refine jg (.agg #[.bool q.am.1,st q.am.2.1,st q.am.2.2]) (fun X hX hF=>aY 40 _ (by rfl) (w.heap.size+1) 3 [.bool q.am.1,vS q.am.2.1,vS q.am.2.2] (by rfl) Tryz.underlying40 rfl X (hB1.bel hX) (by rfl) aC) ?_;refine jc (.bool false) (fun X hX hF=>mo (mR q.am.1 q.am.2.1 q.am.2.2 X hq6) (by rw [HV.out])) ?_;refine jm (.bool true) ?_;refine bE hb hB0 hB1 hB2 fun X3 hX3 hb hB0 hB1 hB2=>?_
   have HE:Hid (cF c l cs q=1):=by
    show _=_
    unfold cF
    rw [HC.out,if_neg (by decide),if_pos HV.out]
   have hne9:cF c l cs q≠0:=by rw [HE.out];decide
   have HL:Hid (cX c l cs q=[]):=if_neg hne9;have HI:Hid (cY (cF c l cs q) cs=[]):=if_neg hne9;have HJ:Hid (ifz (cF c l cs q) c=0):=if_neg hne9;clear hne9;go_upto_region 5 with fail;refine jq 1 ?_;refine jn (.agg #[vI 0,.slice none 0 0,.slice none 0 0]) ?_;refine bE hb hB0 hB1 hB2 fun X4 hX4 hb hB0 hB1 hB2=>?_;refine osb 27 4 22 (w.heap.size+2) 27 hB2 [vI 0,.slice none 0 0,.slice none 0 0] aK ?_;intro w9 hR9 hO9 hB9 hs9;have hb9:=hB9 _ _ hb (by omega);have hB0:=hO9 _ _ _ (by omega) hB0;have hB1:=hO9 _ _ _ (by omega) hB1;clear hO9 hB9
   go_wp2
   refine bQ (v:=vI 1) rfl rfl (by rfl) (by rfl) Tryz.underlying27 rfl hR9 aK ⟨_,rfl,⟨_,by rw [HE.out],by rw [HJ.out,HI.out,HL.out];exact ⟨_,_,rfl,dV _,dW _ _⟩⟩,hb9⟩
  ·skip
   refine jp ?_;refine jn (vP (w.heap.size+1) 3) ?_;refine jg (.agg #[.bool q.am.1,st q.am.2.1,st q.am.2.2]) (fun X hX hF=>aY 40 _ (by rfl) (w.heap.size+1) 3 [.bool q.am.1,vS q.am.2.1,vS q.am.2.2] (by rfl) Tryz.underlying40 rfl X (hB1.bel hX) (by rfl) aC) ?_;refine jc (.bool true) (fun X hX hF=>mo (mR q.am.1 q.am.2.1 q.am.2.2 X hq6) (by rw [HV.out])) ?_;refine jm (.bool false) ?_;refine bE hb hB0 hB1 hB2 fun X3 hX3 hb hB0 hB1 hB2=>?_;obtain ⟨k0,k09⟩:∃ z,eA c q.pd q.ac q.day=z:=⟨_,rfl⟩;have HK9:=Lib.hid k09;clear k09;go_upto_region 6 with fail;refine jp ?_;refine ja hB0 Tryz.underlying27 (by rfl) aK ?_;refine jnf hB1 1 aA ?_;refine jnf hB1 2 aA ?_;refine jnf hB1 0 aA ?_;refine jc (vI k0) (fun X hX hF=>mo (qYa c _ _ q.pd q.ac q.day X) (by rw [HK9.out])) ?_;refine jm (vI k0) ?_;refine bE hb hB0 hB1 hB2 fun X4 hX4 hb hB0 hB1 hB2=>?_
   by_cases hk0:k0=0
   ·have HA:Hid (eA c q.pd q.ac q.day=0):=HK9.out.trans hk0
    have HKZ:=Lib.hid hk0;clear hk0;go_upto_region 7 with fail;refine jp ?_;refine jm (vI k0) ?_;refine jv (.bool false) (bA _ _ _ _ (by rfl) .i64 k0 0 (by rfl) (by rfl) false (by rw [HKZ.out];rfl)) ?_;refine bE hb hB0 hB1 hB2 fun X5 hX5 hb hB0 hB1 hB2=>?_;obtain ⟨st9,st99⟩:∃ z,stl l cs q.day=z:=⟨_,rfl⟩;have HST:=Lib.hid st99;clear st99;go_upto_region 9 with fail
    rcases st9 with _|_
    ·skip
     refine jp ?_;refine ja hB0 Tryz.underlying27 (by rfl) aK ?_;refine jnf hB1 0 aA ?_;refine jc (.bool false) (fun X hX hF=>mo (qYp B c _ _ l cs q.day X (HES.out X (Since.next hb hX)) (HCS.out X (Since.next hb hX))) (by rw [HST.out])) ?_;refine bE hb hB0 hB1 hB2 fun X6 hX6 hb hB0 hB1 hB2=>?_
     by_cases hn:l.length=4000
     ·have HE:Hid (cF c l cs q=2):=by
       show _=_
       unfold cF
       rw [HC.out,if_neg (by decide),if_neg (by rw [HV.out];decide),HA.out,if_neg (by decide),if_neg (by rw [HST.out];decide),if_pos hn]
      have HN4:Hid (n=4000):=by show _=_;rw [← HLN.out];exact hn
      clear hn;go_upto_region 11 with fail;refine jp ?_;refine jn (vP w.heap.size 0) ?_;refine jnf hB0 1 aO ?_;refine jv (vI n) (aF Tryz.underlying22 _ (by rfl) A n cp (by rfl) _ rfl) ?_;refine dA (n:Int) 4000 (by rw [HN4.out];rfl) ?_;refine bE hb hB0 hB1 hB2 fun X7 hX7 hb hB0 hB1 hB2=>?_
      have hne9:cF c l cs q≠0:=by rw [HE.out];decide
      have HL:Hid (cX c l cs q=[]):=if_neg hne9;have HI:Hid (cY (cF c l cs q) cs=[]):=if_neg hne9;have HJ:Hid (ifz (cF c l cs q) c=0):=if_neg hne9;clear hne9;go_upto_region 12 with fail;refine jq 1 ?_;refine jn (.agg #[vI 0,.slice none 0 0,.slice none 0 0]) ?_;refine bE hb hB0 hB1 hB2 fun X8 hX8 hb hB0 hB1 hB2=>?_;refine osb 27 4 45 (w.heap.size+2) 27 hB2 [vI 0,.slice none 0 0,.slice none 0 0] aK ?_;intro w9 hR9 hO9 hB9 hs9;have hb9:=hB9 _ _ hb (by omega);have hB0:=hO9 _ _ _ (by omega) hB0;have hB1:=hO9 _ _ _ (by omega) hB1;clear hO9 hB9
      go_wp2
      refine bQ (v:=vI 2) rfl rfl (by rfl) (by rfl) Tryz.underlying27 rfl hR9 aK ⟨_,rfl,⟨_,by rw [HE.out],by rw [HJ.out,HI.out,HL.out];exact ⟨_,_,rfl,dV _,dW _ _⟩⟩,hb9⟩
     ·have HE:Hid (cF c l cs q=0):=by
       show _=_
       unfold cF
       rw [HC.out,if_neg (by decide),if_neg (by rw [HV.out];decide),HA.out,if_neg (by decide),if_neg (by rw [HST.out];decide),if_neg hn]
      have HI:Hid (cY (cF c l cs q) cs=cs):=if_pos HE.out;have HJ:Hid (ifz (cF c l cs q) c=c):=if_pos HE.out;have HOK:Hid (Ok45 c l cs):=peE_ok.1 HC.out;have HK:Hid (Ok44 c l):=HOK.out.ac;have hlen4:=hs1.out.ln HK.out.len;have hp0:0≤q.pd:=(fS HA.out).1;obtain ⟨K0,hK0⟩:∃ z,knw l q.pd q.ac 14609=z:=⟨_,rfl⟩;have HK0:=Lib.hid hK0
      have hsK:szR K0 808001:=by rw [← hK0];exact (nZ (by decide) hs1.out.1 _ _ _ _).mono (by omega)
      clear hK0;obtain ⟨F0,hF0⟩:∃ z,dR (gU cs q.pd 14609) (frz l q.pd q.ac 14609)=z:=⟨_,rfl⟩;have HF0:=Lib.hid hF0;clear hF0;obtain ⟨C0,hC0⟩:∃ z,gU cs q.pd 14609=z:=⟨_,rfl⟩;have HC0:=Lib.hid hC0;clear hC0;obtain ⟨M,hM⟩:∃ z,mor l q=z:=⟨_,rfl⟩;have HM:=Lib.hid hM
      have HMS:Hid (trq q.am-K0=M):=by
       show _=_
       rw [← hM]
       unfold mor
       rw [HK0.out]
      have hsM:szR M 808102:=by
       rw [← HMS.out];exact (lQ (gQ rfl hq1) hsK).mono (by decide)
      clear hM;rw [HLN.out] at hn hlen4;go_upto_region 11 with fail;refine jp ?_;refine jn (vP w.heap.size 0) ?_;refine jnf hB0 1 aO ?_;refine jv (vI n) (aF Tryz.underlying22 _ (by rfl) A n cp (by rfl) _ rfl) ?_;refine dN (n:Int) 4000 (by omega) ?_;refine bE hb hB0 hB1 hB2 fun X7 hX7 hb hB0 hB1 hB2=>?_;go_upto_region 13 with fail;refine jp ?_;refine ja hB0 Tryz.underlying27 (by rfl) aK ?_;refine jv (.func (.func 35) #[.agg #[vI c,.slice A n cp,.slice A2 m cp2]] #[]) (mK _ _ (by rfl) _ (by rfl)) ?_;refine jm (.func (.func 35) #[.agg #[vI c,.slice A n cp,.slice A2 m cp2]] #[]) ?_;refine bE hb hB0 hB1 hB2 fun X8 hX8 hb hB0 hB1 hB2=>?_;have hsn9:w.heap.size+2<X8.heap.size:=hB2.lt;go_upto_region 14 with fail;refine bD [none,none,none,none,none,none,none,none,none,none,some (Av 40 [.bool false,.string ⟨#[]⟩,.string ⟨#[]⟩] X8.heap.size)] (by kernel_rfl) (by kernel_rfl) (by kernel_rfl) rfl (aB (aB (aB (aB (aB (aB (aB (aB (aB (aB (aD (Av.lasts _ _ _) (aH)))))))))))) ?_;simp only [its,List.dropLast,Nat.zero_add,Nat.reduceAdd];refine jn (vP (w.heap.size+1) 3) ?_;refine jg (.agg #[.bool q.am.1,st q.am.2.1,st q.am.2.2]) (fun X hX hF=>aY 40 _ (by rfl) (w.heap.size+1) 3 [.bool q.am.1,vS q.am.2.1,vS q.am.2.2] (by rfl) Tryz.underlying40 rfl X (hB1.bel hX) (by rfl) aC) ?_
      refine jm (.func (.func 35) #[.agg #[vI c,.slice A n cp,.slice A2 m cp2]] #[]) ?_;refine jnf hB1 1 aA ?_;refine jnf hB1 2 aA ?_;refine qVg (by rfl) (.tmp 50) _ _ (by rfl) 35 [.agg #[vI c,.slice A n cp,.slice A2 m cp2]] (by rfl) (.agg #[.bool (rN K0),vS (rP K0),vS (rD K0),.bool (rN F0),vS (rP F0),vS (rD F0),.bool C0]) [vI q.pd,vI q.ac,vI 14609] (by rfl) (by kernel_rfl) (fun _=>by go_simp) (fun X hX hF=>(vQy B c _ _ l cs q.pd q.ac 14609 X (HES.out X (Since.next hb hX)) (HCS.out X (Since.next hb hX)) hs1 HK hp0).mono fun e X' ⟨h1,h2⟩=>⟨by rw [h1,HF0.out,HK0.out,HC0.out],h2⟩) ?_;simp only [pX];refine jv (rt (rN K0) (rP K0) (rD K0)) (fun X=>nG _ _ _ (by rfl) (by rfl) X (qVy _ _ _ _ _ _ _ X)) ?_;refine jc (rt (rN M) (rP M) (rD M)) (fun X hX hF=>(subG q.am.1 q.am.2.1 q.am.2.2 (rN K0) (rP K0) (rD K0) rfl (eM K0) X hq6 (tzR hsK (by decide))).mono fun e X' ⟨h1,h2⟩=>⟨by rw [h1];show _=_;rw [show rq q.am.1 q.am.2.1 q.am.2.2=trq q.am from rfl,HMS.out],h2⟩) ?_;refine cC (by rfl) (fun X hX hF=>Av.mk 40 [.bool false,.string ⟨#[]⟩,.string ⟨#[]⟩] X8.heap.size hX.size (by unfold execOp;go_simp)) ?_;intro v9;simp only [pX];refine aJ ?_;intro X9 hX9 hF;have hv9:=hF _ _ List.mem_cons_self;obtain ⟨hB0,hB1,hB2⟩:=bl3 hX9 hB0 hB1 hB2;have hb:=aI hb hX9;clear hF hX9;obtain ⟨g9,rfl,hge9,hD9⟩:=hv9;refine bG rfl 40 (.tmp 9) (.tmp 57) rfl g9 40 _ hD9 rfl [.bool (rN M),vS (rP M),vS (rD M)] rfl (by rfl) (al3 rfl rfl rfl) aC ?_
      intro w14 hR9 hG9;have hb:=aV hG9 hb hb.size (by omega);replace hB0:=aE hG9 hB0 (by omega);replace hB1:=aE hG9 hB1 (by omega);replace hB2:=aE hG9 hB2 (by omega);have hD9:=hR9;clear hR9 hG9;refine wpList_nil ?_
      by_cases hm0:mor l q=0
      ·have HM0:Hid (M=0):=by show _=_;rw [← HM.out];exact hm0
       have HL:Hid (cX c l cs q=l):=(if_pos HE.out).trans (if_pos hm0)
       have HZQ:Hid ((rN M == false && rP M == [] && rD M == [])=true):=by
        show _=_
        rw [HM0.out]
        rfl
       clear hm0;go_upto_region 15 with fail;refine jp ?_;refine ja hD9 Tryz.underlying40 (by rfl) aC ?_;refine jn (rz) ?_;refine jv (.bool true) (dB _ _ (by rfl) (rN M) (rP M) (rD M) false [] [] (by rfl) (by rfl) true HZQ.out) ?_;refine cM hb hB0 hB1 hB2 hD9 fun X10 hX10 hb hB0 hB1 hB2 hD9=>?_;go_upto_region 16 with fail;refine jq 1 ?_;refine ja hB0 Tryz.underlying27 (by rfl) aK ?_;refine cM hb hB0 hB1 hB2 hD9 fun X11 hX11 hb hB0 hB1 hB2 hD9=>?_;refine bG rfl 27 (.tmp 4) (.tmp 61) rfl (w.heap.size+2) 27 _ hB2 rfl [vI c,.slice A n cp,.slice A2 m cp2] rfl (by rfl) (al3 rfl rfl rfl) aK ?_;intro w9 hR9 hG9
       skip
       have hb:=aV hG9 hb hb.size (by omega);have hCS9:=HCS.out _ hb;have hES9:=HES.out _ hb
       go_wp2
       refine bQ (v:=vI 0) rfl rfl (by rfl) (by rfl) Tryz.underlying27 rfl hR9 aK ⟨_,rfl,⟨_,by rw [HE.out],by rw [HJ.out,HI.out,HL.out];exact ⟨_,_,rfl,hES9,hCS9⟩⟩,hb⟩
      ·have HSG:Hid (Sg c l cs q):=⟨HOK.out,HE.out,hm0⟩
       have HZQ:Hid ((rN M == false && rP M == [] && rD M == [])=false):=vZ (by rw [eM,← HM.out];exact hm0);clear hm0;go_upto_region 15 with fail;refine jp ?_;refine ja hD9 Tryz.underlying40 (by rfl) aC ?_;refine jn (rz) ?_;refine jv (.bool false) (dB _ _ (by rfl) (rN M) (rP M) (rD M) false [] [] (by rfl) (by rfl) false HZQ.out) ?_;refine cM hb hB0 hB1 hB2 hD9 fun X10 hX10 hb hB0 hB1 hB2 hD9=>?_;go_upto_region 17 with fail;refine jp ?_;refine jm (vI 0) ?_;refine cM hb hB0 hB1 hB2 hD9 fun X11 hX11 hb hB0 hB1 hB2 hD9=>?_;go_upto_region 18 with fail
       by_cases hp:q.pd<(cs.length:Int)
       ·have HPM:Hid (q.pd<(m:Int)):=by show _<_;rw [← HLM.out];exact hp
        have hpm:=HPM.out;refine jp ?_;refine jnf hB1 1 aA ?_;refine jnf hB0 2 aZ ?_;refine jv (vI m) (aF Tryz.underlying25 _ (by rfl) A2 m cp2 (by rfl) _ rfl) ?_;refine cE q.pd (m:Int) (by omega) ?_;refine cM hb hB0 hB1 hB2 hD9 fun X12 hX12 hb hB0 hB1 hB2 hD9=>?_;have HAE:Hid (ajE c l (ajS l q)=0):=HSG.out.ajE hp
        have HAN:Hid (trq (ajS l q).am≠0):=by
         show trq (tr (mor l q))≠0
         rw [oH];exact HSG.out.nz
        have HAL:Hid (ajL c l (ajS l q)=cX c l cs q):=HSG.out.ajL hp
        have hqa:tz (ajS l q).am.2.1 (ajS l q).am.2.2 1000000:=by
         show tz (rP (mor l q)) (rD (mor l q)) 1000000
         rw [HM.out];exact tzR hsM (by decide)
        go_upto_region 19 with fail;refine bM 17 [none,none,none,none,none,none,none,none,none,none,none,none,some (Tp (Bks c (cX c l cs q)) 0),none,some (Bks c (cX c l cs q))] (aB (aB (aB (aB (aB (aB (aB (aB (aB (aB (aB (aB (aD (Tp.lasts (Bks.lasts _ _) _) (aB (aD (Bks.lasts _ _) (aH)))))))))))))))) ?_;simp only [its,List.take,List.drop,Nat.zero_add,Nat.reduceAdd];refine jn (vP w.heap.size 0) ?_;refine jg (.agg #[vI c,.slice A n cp]) (fun X hX hF=>aY 24 _ (by rfl) w.heap.size 0 [vI c,.slice A n cp] (by rfl) Tryz.underlying24 rfl X (hB0.bel hX) (by rfl) bT) ?_;refine jnf hB1 0 aA ?_;refine jnf hB1 2 aA ?_;refine jnf hB1 1 aA ?_;refine ja hD9 Tryz.underlying40 (by rfl) aC ?_;refine jn (vP (w.heap.size+1) 6) ?_;refine jg (.agg #[vI q.w1,vI q.w2,vI q.w3,vI q.w4]) (fun X hX hF=>aY 42 _ (by rfl) (w.heap.size+1) 6 [vI q.w1,vI q.w2,vI q.w3,vI q.w4] (by rfl) Tryz.underlying42 rfl X (hB1.bel hX) (by rfl) fR) ?_;refine jn (.agg #[vI q.day,vI q.ac,vI 1,vI q.pd,.bool (rN M),st (rP M),st (rD M),vI q.w1,vI q.w2,vI q.w3,vI q.w4]) ?_;refine jk (fun X hX hF=>by have h9:=adjS c _ l (ajS l q) X (HES.out X (Since.next hb hX)) hs hqa HAE.out HAN.out;rw [HAE.out,HAL.out] at h9;unfold ajS at h9;dsimp only [tr] at h9;rw [HM.out] at h9;exact h9) ?_
        intro v81;refine jm (v81) ?_;refine cC (by rfl) (fun X hX hF=>by obtain ⟨u9,h9,h8⟩:=(hF _ _ List.mem_cons_self rfl);subst h9;exact ⟨u9,X,rfl,h8,Below.refl _ _⟩) ?_;intro v82;simp only [pX];refine jg (vI 0) (fun X hX hF=>by obtain ⟨u9,h9,_⟩:=(hF _ _ (List.mem_cons_of_mem _ List.mem_cons_self) rfl);subst h9;rfl) ?_;refine jn (vP w.heap.size 0) ?_;refine aJ ?_;intro X13 hX13 hF;have hv81:=hF _ _ (List.mem_cons_of_mem _ List.mem_cons_self);have hv82:=hF _ _ List.mem_cons_self;obtain ⟨hB0,hB1,hB2,hD9⟩:=bl4 hX13 hB0 hB1 hB2 hD9;have hb:=aI hb hX13;clear hF hX13;obtain ⟨u9,rfl,hu9⟩:=hv82;obtain ⟨A9,c9,rfl⟩:=Es.form hu9;clear hv81;refine cL rfl 24 (.tmp 84) (.tmp 82) rfl w.heap.size 27 _ hB0 0 rfl [vI c,.slice A9 (cX c l cs q).length c9] rfl (by simp) (al2 rfl rfl) bT ?_;intro w19 hR9 hG9 hs9
        change Blk w19 w.heap.size 27 [vI c,.slice A9 (cX c l cs q).length c9,.slice A2 m cp2] at hR9
        replace hu9:=Es.grown hG9 hu9 hB0;have hb:=aV hG9 hb hb.size (by omega);replace hB2:=aE hG9 hB2 (by omega);have hB0:=hR9;clear hR9 hG9 hs9 hB1 hD9;refine jT rfl (vI 0) (by rfl) ?_;refine wpList_nil ?_;go_upto_region 20 with fail;refine jq 2 ?_;refine ja hB0 Tryz.underlying27 (by rfl) aK ?_;refine jm (vI 0) ?_;refine aN hb hB0 hB2 fun X14 hX14 hb hB0 hB2=>?_;replace hu9:=Es.lasts _ _ _ _ hu9 hX14;refine bG rfl 27 (.tmp 4) (.tmp 85) rfl (w.heap.size+2) 27 _ hB2 rfl [vI c,.slice A9 (cX c l cs q).length c9,.slice A2 m cp2] rfl (by rfl) (al3 rfl rfl rfl) aK ?_;intro w9 hR9 hG9;replace hu9:=Es.grown hG9 hu9 hB2;have hb:=aV hG9 hb hb.size (by omega);have hCS9:=HCS.out _ hb;have hES9:=HES.out _ hb
        go_wp2
        refine bQ (v:=vI 0) rfl rfl (by rfl) (by rfl) Tryz.underlying27 rfl hR9 aK ⟨_,rfl,⟨_,by rw [HE.out],by rw [HJ.out,HI.out];exact ⟨_,_,rfl,hu9,hCS9⟩⟩,hb⟩
       ·have hpm:(m:Int)≤q.pd:=by rw [← HLM.out];omega
        refine jp ?_;refine jnf hB1 1 aA ?_;refine jnf hB0 2 aZ ?_;refine jv (vI m) (aF Tryz.underlying25 _ (by rfl) A2 m cp2 (by rfl) _ rfl) ?_;refine bI q.pd (m:Int) (by omega) ?_;refine cM hb hB0 hB1 hB2 hD9 fun X12 hX12 hb hB0 hB1 hB2 hD9=>?_;go_upto_region 21 with fail;refine jq 11 ?_;refine jnf hB1 0 aA ?_;refine jnf hB1 2 aA ?_;refine ja hD9 Tryz.underlying40 (by rfl) aC ?_;refine jnf hB1 1 aA ?_;refine jn (vP (w.heap.size+1) 6) ?_;refine jg (.agg #[vI q.w1,vI q.w2,vI q.w3,vI q.w4]) (fun X hX hF=>aY 42 _ (by rfl) (w.heap.size+1) 6 [vI q.w1,vI q.w2,vI q.w3,vI q.w4] (by rfl) Tryz.underlying42 rfl X (hB1.bel hX) (by rfl) fR) ?_;refine jnn (.agg #[vI 1,vI q.pd,vI (-1),vI q.w1,vI q.w2,vI q.w3,vI q.w4]) (.agg #[vI q.day,vI q.ac,vI 0,.bool (rN M),st (rP M),st (rD M),vI 1,vI q.pd,vI (-1),vI q.w1,vI q.w2,vI q.w3,vI q.w4]) ?_;refine cM hb hB0 hB1 hB2 hD9 fun X13 hX13 hb hB0 hB1 hB2 hD9=>?_;go_upto_region 22 with (refine osn 76 11 97 #[vI q.day,vI q.ac,vI 0,.bool (rN M),vS (rP M),vS (rD M),vI 1,vI q.pd,vI (-1),vI q.w1,vI q.w2,vI q.w3,vI q.w4] aL ?_);obtain ⟨Y13,hY9,hD11,hS9⟩:=aT X13 76 [vI q.day,vI q.ac,vI 0,.bool (rN M),vS (rP M),vS (rD M),vI 1,vI q.pd,vI (-1),vI q.w1,vI q.w2,vI q.w3,vI q.w4]
        rw [← hY9];clear hY9;have hgs11:=hb.size;have hlt11x0:=hB0.lt;have hlt11x1:=hB1.lt;have hlt11x2:=hB2.lt;have hlt11x3:=hD9.lt;obtain ⟨hB0,hB1,hB2,hD9⟩:=bl4 hS9 hB0 hB1 hB2 hD9;have hb:=aI hb hS9;clear hS9;generalize X13.heap.size=g11 at *;obtain ⟨hpe,hpl⟩:=HSG.out.po hp;have HPE:=Lib.hid hpe;have HPL:=Lib.hid hpl;clear hpe hpl
        by_cases hs0:mor l q<0
        ·have HRN:Hid (rN M=true):=rN_iff.2 (by rw [← HM.out];exact hs0)
         have HXS:Hid (dM l cs q=⟨q.day,0,q.ac,tr (-M),1,q.pd,-1,q.w1,q.w2,q.w3,q.w4⟩):=by
          show _=_
          rw [vXd hp hs0,HM.out]
         refine jp ?_;refine jn (vP g9 0) ?_;refine jg (.bool true) (fun X hX hF=>jE (congrArg Value.bool HRN.out.symm) (aP 4 _ (by rfl) g9 0 (by rfl) _ X ((hD9.bel hX).cell (j:=0) rfl) (fun X u h=>aS g9 0 X u h))) ?_;refine dU hb hB0 hB1 hB2 hD9 hD11 fun X14 hX14 hb hB0 hB1 hB2 hD9 hD11=>?_;go_upto_region 23 with fail;refine lY 5 [] (by kernel_rfl) (by kernel_rfl) (by kernel_rfl) (aH) ?_;simp only [its,List.length_cons,List.length_nil,Nat.zero_add,Nat.reduceAdd,Nat.reduceSub,List.take_succ_cons,List.take_zero,List.drop_succ_cons,List.drop_zero];refine jnf hD11 2 aA ?_;refine jnf hD11 1 aA ?_;refine ja hD9 Tryz.underlying40 (by rfl) aC ?_;refine jc (rt (rN (-M)) (rP (-M)) (rD (-M))) (fun X hX hF=>vXv (rN M) (rP M) (rD M) (eM M) X (tzR hsM (by decide))) ?_;refine jn (vP g11 1) ?_;refine dU hb hB0 hB1 hB2 hD9 hD11 fun X15 hX15 hb hB0 hB1 hB2 hD9 hD11=>?_
         have hgg:w.heap.size+2<g11∧g9≠g11:=by omega
         refine cB rfl g11 1 76 _ hD11 (vI 0) (by simp) (fun X u h1 h2=>eX _ _ (by rfl) _ _ (by rfl) (by rfl) u X h1 h2) ?_;intro w21 hR9 hG9;have hb:=aV hG9 hb hb.size (by omega);replace hB0:=aE hG9 hB0 (by omega);replace hB1:=aE hG9 hB1 (by omega);replace hB2:=aE hG9 hB2 (by omega);replace hD9:=aE hG9 hD9 (by omega)
         change Blk w21 g11 76 [vI q.day,vI 0,vI 0,.bool (rN M),vS (rP M),vS (rD M),vI 1,vI q.pd,vI (-1),vI q.w1,vI q.w2,vI q.w3,vI q.w4] at hR9
         have hD11:=hR9;clear hR9 hG9;refine jT rfl (vP g11 2) (by unfold execOp;go_simp) ?_;refine cB rfl g11 2 76 _ hD11 (vI q.ac) (by simp) (fun X u h1 h2=>eX _ _ (by rfl) _ _ (by rfl) (by rfl) u X h1 h2) ?_;intro w22 hR9 hG9;have hb:=aV hG9 hb hb.size (by omega);replace hB0:=aE hG9 hB0 (by omega);replace hB1:=aE hG9 hB1 (by omega);replace hB2:=aE hG9 hB2 (by omega);replace hD9:=aE hG9 hD9 (by omega)
         change Blk w22 g11 76 [vI q.day,vI 0,vI q.ac,.bool (rN M),vS (rP M),vS (rD M),vI 1,vI q.pd,vI (-1),vI q.w1,vI q.w2,vI q.w3,vI q.w4] at hR9
         have hD11:=hR9;clear hR9 hG9;refine jT rfl (vP g11 3) (by unfold execOp;go_simp) ?_;refine cL rfl 40 (.tmp 108) (.tmp 105) rfl g11 76 _ hD11 3 rfl [.bool (rN (-M)),vS (rP (-M)),vS (rD (-M))] rfl (by simp) (al3 rfl rfl rfl) aC ?_;intro w23 hR9 hG9 hs9;have hb:=aV hG9 hb hb.size (by omega);replace hB0:=aE hG9 hB0 (by omega);replace hB1:=aE hG9 hB1 (by omega);replace hB2:=aE hG9 hB2 (by omega);replace hD9:=aE hG9 hD9 (by omega)
         change Blk w23 g11 76 [vI q.day,vI 0,vI q.ac,.bool (rN (-M)),vS (rP (-M)),vS (rD (-M)),vI 1,vI q.pd,vI (-1),vI q.w1,vI q.w2,vI q.w3,vI q.w4] at hR9
         have hD11:=hR9;clear hR9 hG9 hs9;refine wpList_nil ?_;go_upto_region 24 with fail;refine bM 8 [none,none,none,some (Tp (Bks c (cX c l cs q)) 0),none,some (Bks c (cX c l cs q))] (aB (aB (aB (aD (Tp.lasts (Bks.lasts _ _) _) (aB (aD (Bks.lasts _ _) (aH))))))) ?_;simp only [its,List.take,List.drop,Nat.zero_add,Nat.reduceAdd];refine jn (vP w.heap.size 0) ?_;refine jg (.agg #[vI c,.slice A n cp]) (fun X hX hF=>aY 24 _ (by rfl) w.heap.size 0 [vI c,.slice A n cp] (by rfl) Tryz.underlying24 rfl X (hB0.bel hX) (by rfl) bT) ?_;refine ja hD11 Tryz.underlying76 (by rfl) aL ?_;refine jk (fun X hX hF=>by have h9:=pstS c _ l (⟨q.day,0,q.ac,tr (-M),1,q.pd,-1,q.w1,q.w2,q.w3,q.w4⟩:En) X (HES.out X (Since.next hb hX)) hs (tzR (lR hsM) (by decide)) (by rw [← HXS.out];exact HPE.out);rw [← HXS.out,HPE.out,HPL.out,HXS.out] at h9;exact h9) ?_;intro v113;refine jm (v113) ?_;refine cC (by rfl) (fun X hX hF=>by obtain ⟨u9,h9,h8⟩:=(hF _ _ List.mem_cons_self rfl);subst h9;exact ⟨u9,X,rfl,h8,Below.refl _ _⟩) ?_;intro v114;simp only [pX];refine jg (vI 0) (fun X hX hF=>by obtain ⟨u9,h9,_⟩:=(hF _ _ (List.mem_cons_of_mem _ List.mem_cons_self) rfl);subst h9;rfl) ?_;refine jn (vP w.heap.size 0) ?_;refine aJ ?_;intro X16 hX16 hF;have hv113:=hF _ _ (List.mem_cons_of_mem _ List.mem_cons_self)
         have hv114:=hF _ _ List.mem_cons_self;obtain ⟨hB0,hB1,hB2,hD9,hD11⟩:=bl5 hX16 hB0 hB1 hB2 hD9 hD11;have hb:=aI hb hX16;clear hF hX16;obtain ⟨u9,rfl,hu9⟩:=hv114;obtain ⟨A9,c9,rfl⟩:=Es.form hu9;clear hv113;refine cL rfl 24 (.tmp 116) (.tmp 114) rfl w.heap.size 27 _ hB0 0 rfl [vI c,.slice A9 (cX c l cs q).length c9] rfl (by simp) (al2 rfl rfl) bT ?_;intro w19 hR9 hG9 hs9
         change Blk w19 w.heap.size 27 [vI c,.slice A9 (cX c l cs q).length c9,.slice A2 m cp2] at hR9
         replace hu9:=Es.grown hG9 hu9 hB0;have hb:=aV hG9 hb hb.size (by omega);replace hB2:=aE hG9 hB2 (by omega);have hB0:=hR9;clear hR9 hG9 hs9 hB1 hD9 hD11;refine jT rfl (vI 0) (by rfl) ?_;refine wpList_nil ?_;go_upto_region 25 with fail;refine jq 2 ?_;refine ja hB0 Tryz.underlying27 (by rfl) aK ?_;refine jm (vI 0) ?_;refine aN hb hB0 hB2 fun X17 hX17 hb hB0 hB2=>?_;replace hu9:=Es.lasts _ _ _ _ hu9 hX17;refine bG rfl 27 (.tmp 4) (.tmp 117) rfl (w.heap.size+2) 27 _ hB2 rfl [vI c,.slice A9 (cX c l cs q).length c9,.slice A2 m cp2] rfl (by rfl) (al3 rfl rfl rfl) aK ?_;intro w9 hR9 hG9;replace hu9:=Es.grown hG9 hu9 hB2;have hb:=aV hG9 hb hb.size (by omega);have hCS9:=HCS.out _ hb;have hES9:=HES.out _ hb
         go_wp2
         refine bQ (v:=vI 0) rfl rfl (by rfl) (by rfl) Tryz.underlying27 rfl hR9 aK ⟨_,rfl,⟨_,by rw [HE.out],by rw [HJ.out,HI.out];exact ⟨_,_,rfl,hu9,hCS9⟩⟩,hb⟩
        ·have HRN:Hid (rN M=false):=by
          show _=_
          rw [Bool.eq_false_iff]
          exact fun h9=>hs0 (by rw [HM.out];exact rN_iff.1 h9)
         have HXS:Hid (dM l cs q=⟨q.day,q.ac,0,tr M,1,q.pd,-1,q.w1,q.w2,q.w3,q.w4⟩):=by
          show _=_
          rw [vXc hp hs0,HM.out]
         refine jp ?_;refine jn (vP g9 0) ?_;refine jg (.bool false) (fun X hX hF=>jE (congrArg Value.bool HRN.out.symm) (aP 4 _ (by rfl) g9 0 (by rfl) _ X ((hD9.bel hX).cell (j:=0) rfl) (fun X u h=>aS g9 0 X u h))) ?_;refine dU hb hB0 hB1 hB2 hD9 hD11 fun X14 hX14 hb hB0 hB1 hB2 hD9 hD11=>?_;go_upto_region 24 with fail;refine bM 8 [none,none,none,some (Tp (Bks c (cX c l cs q)) 0),none,some (Bks c (cX c l cs q))] (aB (aB (aB (aD (Tp.lasts (Bks.lasts _ _) _) (aB (aD (Bks.lasts _ _) (aH))))))) ?_;simp only [its,List.take,List.drop,Nat.zero_add,Nat.reduceAdd];refine jn (vP w.heap.size 0) ?_;refine jg (.agg #[vI c,.slice A n cp]) (fun X hX hF=>aY 24 _ (by rfl) w.heap.size 0 [vI c,.slice A n cp] (by rfl) Tryz.underlying24 rfl X (hB0.bel hX) (by rfl) bT) ?_;refine ja hD11 Tryz.underlying76 (by rfl) aL ?_;refine jk (fun X hX hF=>by have h9:=pstS c _ l (⟨q.day,q.ac,0,tr M,1,q.pd,-1,q.w1,q.w2,q.w3,q.w4⟩:En) X (HES.out X (Since.next hb hX)) hs (tzR hsM (by decide)) (by rw [← HXS.out];exact HPE.out);rw [← HXS.out,HPE.out,HPL.out,HXS.out] at h9;exact h9) ?_;intro v113;refine jm (v113) ?_;refine cC (by rfl) (fun X hX hF=>by obtain ⟨u9,h9,h8⟩:=(hF _ _ List.mem_cons_self rfl);subst h9;exact ⟨u9,X,rfl,h8,Below.refl _ _⟩) ?_;intro v114;simp only [pX];refine jg (vI 0) (fun X hX hF=>by obtain ⟨u9,h9,_⟩:=(hF _ _ (List.mem_cons_of_mem _ List.mem_cons_self) rfl);subst h9;rfl) ?_
         refine jn (vP w.heap.size 0) ?_;refine aJ ?_;intro X15 hX15 hF;have hv113:=hF _ _ (List.mem_cons_of_mem _ List.mem_cons_self);have hv114:=hF _ _ List.mem_cons_self;obtain ⟨hB0,hB1,hB2,hD9,hD11⟩:=bl5 hX15 hB0 hB1 hB2 hD9 hD11;have hb:=aI hb hX15;clear hF hX15;obtain ⟨u9,rfl,hu9⟩:=hv114;obtain ⟨A9,c9,rfl⟩:=Es.form hu9;clear hv113;refine cL rfl 24 (.tmp 116) (.tmp 114) rfl w.heap.size 27 _ hB0 0 rfl [vI c,.slice A9 (cX c l cs q).length c9] rfl (by simp) (al2 rfl rfl) bT ?_;intro w19 hR9 hG9 hs9
         change Blk w19 w.heap.size 27 [vI c,.slice A9 (cX c l cs q).length c9,.slice A2 m cp2] at hR9
         replace hu9:=Es.grown hG9 hu9 hB0;have hb:=aV hG9 hb hb.size (by omega);replace hB2:=aE hG9 hB2 (by omega);have hB0:=hR9;clear hR9 hG9 hs9 hB1 hD9 hD11;refine jT rfl (vI 0) (by rfl) ?_;refine wpList_nil ?_;go_upto_region 25 with fail;refine jq 2 ?_;refine ja hB0 Tryz.underlying27 (by rfl) aK ?_;refine jm (vI 0) ?_;refine aN hb hB0 hB2 fun X16 hX16 hb hB0 hB2=>?_;replace hu9:=Es.lasts _ _ _ _ hu9 hX16;refine bG rfl 27 (.tmp 4) (.tmp 117) rfl (w.heap.size+2) 27 _ hB2 rfl [vI c,.slice A9 (cX c l cs q).length c9,.slice A2 m cp2] rfl (by rfl) (al3 rfl rfl rfl) aK ?_;intro w9 hR9 hG9;replace hu9:=Es.grown hG9 hu9 hB2;have hb:=aV hG9 hb hb.size (by omega);have hCS9:=HCS.out _ hb;have hES9:=HES.out _ hb
         go_wp2
         refine bQ (v:=vI 0) rfl rfl (by rfl) (by rfl) Tryz.underlying27 rfl hR9 aK ⟨_,rfl,⟨_,by rw [HE.out],by rw [HJ.out,HI.out];exact ⟨_,_,rfl,hu9,hCS9⟩⟩,hb⟩
    ·skip
     refine jp ?_;refine ja hB0 Tryz.underlying27 (by rfl) aK ?_;refine jnf hB1 0 aA ?_;refine jc (.bool true) (fun X hX hF=>mo (qYp B c _ _ l cs q.day X (HES.out X (Since.next hb hX)) (HCS.out X (Since.next hb hX))) (by rw [HST.out])) ?_;refine bE hb hB0 hB1 hB2 fun X6 hX6 hb hB0 hB1 hB2=>?_
     have HE:Hid (cF c l cs q=15):=by
      show _=_
      unfold cF
      rw [HC.out,if_neg (by decide),if_neg (by rw [HV.out];decide),HA.out,if_neg (by decide),if_pos HST.out]
     have hne9:cF c l cs q≠0:=by rw [HE.out];decide
     have HL:Hid (cX c l cs q=[]):=if_neg hne9;have HI:Hid (cY (cF c l cs q) cs=[]):=if_neg hne9;have HJ:Hid (ifz (cF c l cs q) c=0):=if_neg hne9;clear hne9;go_upto_region 10 with fail;refine jq 1 ?_;refine jn (.agg #[vI 0,.slice none 0 0,.slice none 0 0]) ?_;refine bE hb hB0 hB1 hB2 fun X7 hX7 hb hB0 hB1 hB2=>?_;refine osb 27 4 39 (w.heap.size+2) 27 hB2 [vI 0,.slice none 0 0,.slice none 0 0] aK ?_;intro w9 hR9 hO9 hB9 hs9;have hb9:=hB9 _ _ hb (by omega);have hB0:=hO9 _ _ _ (by omega) hB0;have hB1:=hO9 _ _ _ (by omega) hB1;clear hO9 hB9
     go_wp2
     refine bQ (v:=vI 15) rfl rfl (by rfl) (by rfl) Tryz.underlying27 rfl hR9 aK ⟨_,rfl,⟨_,by rw [HE.out],by rw [HJ.out,HI.out,HL.out];exact ⟨_,_,rfl,dV _,dW _ _⟩⟩,hb9⟩
   ·have HE:Hid (cF c l cs q=k0):=by
     show _=_
     unfold cF
     rw [HC.out,if_neg (by decide),if_neg (by rw [HV.out];decide),HK9.out,if_pos hk0]
    go_upto_region 7 with fail;refine jp ?_;refine jm (vI k0) ?_;refine jv (.bool true) (bA _ _ _ _ (by rfl) .i64 k0 0 (by rfl) (by rfl) true (by rw [decide_eq_false (by omega)];rfl)) ?_;refine bE hb hB0 hB1 hB2 fun X5 hX5 hb hB0 hB1 hB2=>?_
    have hne9:cF c l cs q≠0:=by rw [HE.out];exact hk0
    have HL:Hid (cX c l cs q=[]):=if_neg hne9;have HI:Hid (cY (cF c l cs q) cs=[]):=if_neg hne9;have HJ:Hid (ifz (cF c l cs q) c=0):=if_neg hne9;clear hne9;go_upto_region 8 with fail;refine jq 2 ?_;refine jn (.agg #[vI 0,.slice none 0 0,.slice none 0 0]) ?_;refine jm (vI k0) ?_;refine bE hb hB0 hB1 hB2 fun X6 hX6 hb hB0 hB1 hB2=>?_;refine osb 27 4 33 (w.heap.size+2) 27 hB2 [vI 0,.slice none 0 0,.slice none 0 0] aK ?_;intro w9 hR9 hO9 hB9 hs9;have hb9:=hB9 _ _ hb (by omega);have hB0:=hO9 _ _ _ (by omega) hB0;have hB1:=hO9 _ _ _ (by omega) hB1;clear hO9 hB9
    go_wp2
    refine bQ (v:=vI k0) rfl rfl (by rfl) (by rfl) Tryz.underlying27 rfl hR9 aK ⟨_,rfl,⟨_,by rw [HE.out],by rw [HJ.out,HI.out,HL.out];exact ⟨_,_,rfl,dV _,dW _ _⟩⟩,hb9⟩
 ·have HE:Hid (cF c l cs q=z0):=by
   show _=_
   unfold cF
   rw [HZ.out,if_pos hz0]
  go_upto_region 2 with fail;refine jp ?_;refine jm (vI z0) ?_;refine jv (.bool true) (bA _ _ _ _ (by rfl) .i64 z0 0 (by rfl) (by rfl) true (by rw [decide_eq_false (by omega)];rfl)) ?_;refine bE hb hB0 hB1 hB2 fun X2 hX2 hb hB0 hB1 hB2=>?_
  have hne9:cF c l cs q≠0:=by rw [HE.out];exact hz0
  have HL:Hid (cX c l cs q=[]):=if_neg hne9;have HI:Hid (cY (cF c l cs q) cs=[]):=if_neg hne9;have HJ:Hid (ifz (cF c l cs q) c=0):=if_neg hne9;clear hne9;go_upto_region 3 with fail;refine jq 2 ?_;refine jn (.agg #[vI 0,.slice none 0 0,.slice none 0 0]) ?_;refine jm (vI z0) ?_;refine bE hb hB0 hB1 hB2 fun X3 hX3 hb hB0 hB1 hB2=>?_;refine osb 27 4 16 (w.heap.size+2) 27 hB2 [vI 0,.slice none 0 0,.slice none 0 0] aK ?_;intro w9 hR9 hO9 hB9 hs9;have hb9:=hB9 _ _ hb (by omega);have hB0:=hO9 _ _ _ (by omega) hB0;have hB1:=hO9 _ _ _ (by omega) hB1;clear hO9 hB9
  go_wp2
  refine bQ (v:=vI z0) rfl rfl (by rfl) (by rfl) Tryz.underlying27 rfl hR9 aK ⟨_,rfl,⟨_,by rw [HE.out],by rw [HJ.out,HI.out,HL.out];exact ⟨_,_,rfl,dV _,dW _ _⟩⟩,hb9⟩
end Go.Proofs.YtjkfchehkpmhkaaGreatDoor

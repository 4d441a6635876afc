/- rat: sums of lists. -/
import Derived.Laws.EntriesVeiled
import Derived.Test.YtnfpenhldlfafaaGreatDoorMF
import Derived.Test.YtnfpenhldlfafaaGreatDoorQpk
set_option linter.unusedSimpArgs false
set_option linter.unusedVariables false
set_option maxRecDepth 100000
set_option maxHeartbeats 1600000
namespace Go.Proofs.YtnfpenhldlfafaaGreatDoor
open Go.RowKit
theorem Turns.of_since {g:Nat} {t:TypeId} {xs ys:List Value} {X Y:World} (h:Since X Y):Turns g t xs ys X Y :=
 ⟨⟨h.os,h.tape,h.output,h.size,fun k hk _=>h.block k hk⟩,fun hx=>.inl (hx.bel h),fun hy=>hy.bel h⟩
section
variable {P:Program} {l:List Oper} {ops:Array Oper} {w:World} {Q:Act→World→Prop} {pre:Nat→Nat→Bool} {a:Act} {k:Nat} {o:Oper} {rest:List (Nat×Oper×cN)} {Fs:List (Nat×(World→Prop))}
theorem yK {g:Nat} {t:TypeId} {xs ys:List Value} (hw:Region.wanted o (yielded ops a.tmps)=true) (ty:TypeId) (x y:Operand) (ho:o.op=.store ty x y) (hdst:o.dst=none) (hx:a.eval x=vP g 0) (hy:a.eval y=.agg ys.toArray)
  (hB:Blk w g t xs) (hl:ys.length=xs.length) (h1:∀ v∈ys,v.oneCell'=true) (hi:(P.info? ty).map (·.size)=some ys.length) (h:bR P ops (Turns g t xs ys) w Q pre rest ((k,fun X=>Blk X g t ys) :: Fs) a) :
  bR P ops (Turns g t xs ys) w Q pre ((k,o,some (fun _ X=>Blk X g t ys)) :: rest) Fs a:=by
 refine ⟨?_⟩
 unfold CertR
 rw [if_pos hw];refine ⟨fun X hX _=>?_,fun _=>by rw [hdst];exact h.out⟩
 have key:∀ zs,Blk X g t zs→zs.length=ys.length→eP P o a X (fun u X'=>Blk X' g t ys∧Turns g t xs ys X X'):=fun zs hz hlz=>by
  have hr:=fW (P:=P) ty g t zs.toArray ys.toArray hz (by simp [hlz]) (by simpa using h1) (by simpa using hi);have h9:Blk (X.setRow g ys.toArray) g t ys:=setRow_heap X g zs.toArray ys.toArray t (0,0) hz
  unfold eP execOp
  simp only [ho,hx,hy,Instr.storeAt,Instr.sureAddr,Sem.run_bind,Sem.run_pure,Result.andThen_ok,hr];exact ⟨h9,eV X g ys.toArray,fun _=>.inr h9,fun _=>h9⟩
 rcases hX.2.1 hB with hq|hq
 ·exact key xs hq hl.symm
 ·exact key ys hq rfl
end
theorem fC (x:Rat):x.num.natAbs=0↔x=0:=by
 constructor
 ·intro h
  have h1:x.num=0:=by omega
  have:=Rat.mkRat_self x;rw [h1] at this;rw [← this]
  simp
 ·intro h
  rw [h]
  rfl
theorem divZ (n:Bool) (p q:List UInt8) (n':Bool) (p' q':List UInt8) (w:World) (hp:p.length≤1000000) (hq:q.length≤1000000) (hp':p'.length≤1000000) (hq':q'.length≤1000000) (h0:(rq n' p' q')=0):Calls Tryz.prog 50 #[.agg #[.bool n,vS p,vS q],.agg #[.bool n',vS p',vS q']] w fun e w'=>e=.returned (.tuple #[.agg #[.bool false,.string ⟨#[]⟩,.string ⟨#[]⟩],vI 1])∧Since w w':=by
 have HE:Hid (be (rq n' p' q').num.natAbs=[]):=be_nil.2 ((fC _).2 h0);clear h0
 go_enter Tryz.func50,Tryz.ntmps50
 go_upto_region 1 with fail;obtain ⟨W0,hW0,hB0,hB1,hB2,hb⟩:=bN w 23 23 23 [.bool n,vS p,vS q] [.bool n',vS p',vS q'] zA;rw [← hW0];clear hW0;refine jp ?_;refine aC hB1 ?_;refine jc (rt (rN (rq (n') p' q')) (be (rq (n') p' q').num.natAbs) (be (rq (n') p' q').den)) (fun X hX hF=>ofQ (n') p' q' X (by omega) (by omega)) ?_;refine jm (st (be (rq (n') p' q').num.natAbs)) ?_;refine jv (.bool true) (bF _ _ _ _ (by rfl) (be (rq (n') p' q').num.natAbs) ([]:List UInt8) (by rfl) (by rfl) true (iC HE.out)) ?_;refine aX hb hB0 hB1 hB2 fun X1 hX1 hb hB0 hB1 hB2=>?_;go_upto_region 2 with fail;refine jq 1 ?_;refine jn (rz) ?_;refine aX hb hB0 hB1 hB2 fun X2 hX2 hb hB0 hB1 hB2=>?_;refine osb 23 4 10 (w.heap.size+2) 23 hB2 zA aD ?_;intro w9 hR9 hO9 hB9 hs9;have hb9:=hB9 _ _ hb (by omega);clear hO9 hB9
 go_wp2
 refine bT (v:=vI 1) rfl rfl (by rfl) (by rfl) G23 rfl hR9 aD ⟨rfl,hb9⟩
theorem divQ (n:Bool) (p q:List UInt8) (n':Bool) (p' q':List UInt8) (w:World) (hp:p.length≤1000000) (hq:q.length≤1000000) (hp':p'.length≤1000000) (hq':q'.length≤1000000) (h0:(rq n' p' q')≠0):Calls Tryz.prog 50 #[.agg #[.bool n,vS p,vS q],.agg #[.bool n',vS p',vS q']] w fun e w'=>e=.returned (.tuple #[.agg #[.bool (rN ((rq n p q) / (rq n' p' q'))),.string ⟨(rP ((rq n p q) / (rq n' p' q'))).toArray⟩,.string ⟨(rD ((rq n p q) / (rq n' p' q'))).toArray⟩],vI 0])∧Since w w':=by
 have HE:Hid (be (rq n' p' q').num.natAbs≠[]):=fun h9=>h0 ((fC _).1 (be_nil.1 h9))
 have HN0:Hid ((rq n' p' q')≠0):=h0;clear h0
 go_enter Tryz.func50,Tryz.ntmps50
 go_upto_region 1 with fail;obtain ⟨W0,hW0,hB0,hB1,hB2,hb⟩:=bN w 23 23 23 [.bool n,vS p,vS q] [.bool n',vS p',vS q'] zA;rw [← hW0];clear hW0;refine jp ?_;refine aC hB1 ?_;refine jc (rt (rN (rq (n') p' q')) (be (rq (n') p' q').num.natAbs) (be (rq (n') p' q').den)) (fun X hX hF=>ofQ (n') p' q' X (by omega) (by omega)) ?_;refine jm (st (be (rq (n') p' q').num.natAbs)) ?_;refine jv (.bool false) (bF _ _ _ _ (by rfl) (be (rq (n') p' q').num.natAbs) ([]:List UInt8) (by rfl) (by rfl) false (cU HE.out)) ?_;refine aX hb hB0 hB1 hB2 fun X1 hX1 hb hB0 hB1 hB2=>?_;go_upto_region 3 with fail;refine mB (w.heap.size+2) 23 zA [.bool (rN ((rq n p q) / (rq n' p' q'))),.string ⟨(rP ((rq n p q) / (rq n' p' q'))).toArray⟩,.string ⟨(rD ((rq n p q) / (rq n' p' q'))).toArray⟩] (List.replicate 5 none++[some (fun _ X=>Blk X (w.heap.size+2) 23 [.bool (rN ((rq n p q) / (rq n' p' q'))),.string ⟨(rP ((rq n p q) / (rq n' p' q'))).toArray⟩,.string ⟨(rD ((rq n p q) / (rq n' p' q'))).toArray⟩])]) (by kernel_rfl) (by kernel_rfl) qN ?_;simp only [its,List.replicate,List.cons_append,List.nil_append,Nat.zero_add,Nat.reduceAdd];refine jg (rt n p q) (fun X hX hF=>eG 23 _ (by rfl) w.heap.size (by rfl) G23 rfl X (Turns.blk hX hB0 (by omega)) aD) ?_;refine jc (rt (rN (rq n p q)) (be (rq n p q).num.natAbs) (be (rq n p q).den)) (fun X hX hF=>(ofQ n p q X (by omega) (by omega)).mono fun e X' ⟨h1,h2⟩=>⟨h1,Turns.of_since h2⟩) ?_
 refine jv (.func (.func 84) #[rt (rN (rq n p q)) (be (rq n p q).num.natAbs) (be (rq n p q).den)] #[]) (mI _ _ (by rfl) _ (by rfl)) ?_;refine jg (.agg #[.bool n',st p',st q']) (fun X hX hF=>eG 23 _ (by rfl) (w.heap.size+1) (by rfl) G23 rfl X (Turns.blk hX hB1 (by omega)) aD) ?_;refine jc (rt (rN ((rq n p q) / (rq n' p' q'))) (rP ((rq n p q) / (rq n' p' q'))) (rD ((rq n p q) / (rq n' p' q')))) (fun X hX hF=>(doQ 84 (.agg #[.bool (rN (rq n p q)),vS (be (rq n p q).num.natAbs),vS (be (rq n p q).den)]) n' p' q' ((rq n p q) / (rq n' p' q')) 1000000 2000000 X hp' hq' (by omega) (by omega) (by omega) (fun v X=>by go_simp) (fun v X hv=>vQm _ _ 1000000 1000000 _ v X (fA n p q hp hq (by omega) X) hv (by omega) HN0.out)).mono fun e X' ⟨h1,h2⟩=>⟨h1,Turns.of_since h2⟩) ?_;refine yK (by rfl) 23 (.tmp 4) (.tmp 15) (by rfl) rfl (by rfl) (by rfl) hB2 rfl (al3 rfl rfl rfl) aD ?_;refine jm (vI 0) ?_;refine aI ?_;intro X2 hX2 hF;have hS:=hF _ _ zE;have hb:=hX2.below hb hb.size (by omega);have hB0:=Turns.blk hX2 hB0 (by omega);have hB1:=Turns.blk hX2 hB1 (by omega);have hB2:=hS;clear hF hS hX2
 go_wp2
 refine bT (v:=vI 0) rfl rfl (by rfl) (by rfl) G23 rfl hB2 aD ⟨rfl,hb⟩
theorem cmpE (n:Bool) (p q:List UInt8) (n':Bool) (p' q':List UInt8) (w:World) (hp:p.length≤1000000) (hq:q.length≤1000000) (hp':p'.length≤1000000) (hq':q'.length≤1000000) (h:(rq n p q)=(rq n' p' q')):Calls Tryz.prog 29 #[.agg #[.bool n,vS p,vS q],.agg #[.bool n',vS p',vS q']] w fun e w'=>e=.returned (vI (cC (rq n p q) (rq n' p' q')))∧Since w w':=by
 have HC:Hid (cC (rq n p q) (rq n' p' q')=0):=by unfold cC;exact if_pos h
 have HXY:=Lib.hid h;clear h
 go_enter Tryz.func29,Tryz.ntmps29
 go_upto_region 1 with fail;obtain ⟨W0,hW0,hB0,hB1,hb⟩:=cH w 23 23 [.bool n,vS p,vS q] [.bool n',vS p',vS q'];rw [← hW0];clear hW0;have hbW:=hb.size;refine aN [none,none,none,none,some (IsF ((rq n p q)-(rq n' p' q')) 2000001),some (NewB 93 W0.heap.size)] (by kernel_rfl) (by kernel_rfl) (by kernel_rfl) rfl (aA (aA (aA (aA (aE (IsF.lasts _ _) (aE (NewB.lasts _ _) (aG))))))) ?_;simp only [its,List.dropLast,Nat.zero_add,Nat.reduceAdd];refine aC hB0 ?_;refine jc (rt (rN (rq n p q)) (be (rq n p q).num.natAbs) (be (rq n p q).den)) (fun X hX hF=>ofQ n p q X (by omega) (by omega)) ?_;refine aC hB1 ?_;refine jc (rt (rN (rq (n') p' q')) (be (rq (n') p' q').num.natAbs) (be (rq (n') p' q').den)) (fun X hX hF=>ofQ (n') p' q' X (by omega) (by omega)) ?_;refine jk (fun X hX hF=>xA _ _ 1000000 1000000 _ _ X (fA n p q hp hq (by omega) X) (fA n' p' q' hp' hq' (by omega) X) (by omega)) ?_;intro v10;refine bH (by rfl) (fun X hX hF=>⟨_,_,iP (by rfl) X,⟨X.heap.size,rfl,hX.size,Blk.new rfl⟩,cE X _⟩) ?_;intro v5;simp only [pX];refine aI ?_;intro X1 hX1 hF;have hv10:=hF _ _ (zF zE);have hv5:=hF _ _ zE;obtain ⟨hB0,hB1⟩:=bl2 hX1 hB0 hB1;have hb:=aF hb hX1;clear hF hX1;obtain ⟨s,t,u,rfl,k1,k2,k3,k4⟩:=hv10;obtain ⟨g5,rfl,hg5,hD⟩:=hv5
 have hlt:=hB1.lt;refine osb 93 5 10 g5 93 hD [.bool s,vS (be t),vS (be u)] bY ?_;intro w5 hR5 hO5 hB5 hs5;have hW0:=hbW;have hb:=hB5 _ _ hb (by omega);clear hD hB0 hB1 hO5 hB5;have hD:=hR5;clear hR5;have HK2:=Lib.hid k2;clear k2
 have HE:Hid (be t=[]):=be_nil.2 (by
  have h9:=HK2.out;rw [HXY.out,sub_zero_iff.2 rfl,Rat.mkRat_eq_zero (by omega),oA] at h9
  exact h9)
 go_upto_region 2 with fail;refine jp ?_;refine jnf hD 1 aH ?_;refine jv (.bool true) (bF _ _ _ _ (by rfl) (be t) ([]:List UInt8) (by rfl) (by rfl) true (iC HE.out)) ?_;refine jm (.bool true) ?_;refine jzb hb fun X2 hX2 hb=>?_;have hD:=hD.bel hX2
 go_wp2
 go_ret
 exact ⟨by rw [HC.out];rfl,hb⟩
theorem cmpL (n:Bool) (p q:List UInt8) (n':Bool) (p' q':List UInt8) (w:World) (hp:p.length≤1000000) (hq:q.length≤1000000) (hp':p'.length≤1000000) (hq':q'.length≤1000000) (h:(rq n p q)≠(rq n' p' q')) (hl:(rq n p q)<(rq n' p' q')):Calls Tryz.prog 29 #[.agg #[.bool n,vS p,vS q],.agg #[.bool n',vS p',vS q']] w fun e w'=>e=.returned (vI (cC (rq n p q) (rq n' p' q')))∧Since w w':=by
 have HC:Hid (cC (rq n p q) (rq n' p' q')=-1):=by show _=_;unfold cC;rw [if_neg h,if_pos hl]
 have HNE:Hid ((rq n p q)≠(rq n' p' q')):=h;have HLT:Hid ((rq n p q)<(rq n' p' q')):=hl;clear h hl
 go_enter Tryz.func29,Tryz.ntmps29
 go_upto_region 1 with fail;obtain ⟨W0,hW0,hB0,hB1,hb⟩:=cH w 23 23 [.bool n,vS p,vS q] [.bool n',vS p',vS q'];rw [← hW0];clear hW0;have hbW:=hb.size;refine aN [none,none,none,none,some (IsF ((rq n p q)-(rq n' p' q')) 2000001),some (NewB 93 W0.heap.size)] (by kernel_rfl) (by kernel_rfl) (by kernel_rfl) rfl (aA (aA (aA (aA (aE (IsF.lasts _ _) (aE (NewB.lasts _ _) (aG))))))) ?_;simp only [its,List.dropLast,Nat.zero_add,Nat.reduceAdd];refine aC hB0 ?_;refine jc (rt (rN (rq n p q)) (be (rq n p q).num.natAbs) (be (rq n p q).den)) (fun X hX hF=>ofQ n p q X (by omega) (by omega)) ?_;refine aC hB1 ?_;refine jc (rt (rN (rq (n') p' q')) (be (rq (n') p' q').num.natAbs) (be (rq (n') p' q').den)) (fun X hX hF=>ofQ (n') p' q' X (by omega) (by omega)) ?_;refine jk (fun X hX hF=>xA _ _ 1000000 1000000 _ _ X (fA n p q hp hq (by omega) X) (fA n' p' q' hp' hq' (by omega) X) (by omega)) ?_;intro v10;refine bH (by rfl) (fun X hX hF=>⟨_,_,iP (by rfl) X,⟨X.heap.size,rfl,hX.size,Blk.new rfl⟩,cE X _⟩) ?_;intro v5;simp only [pX];refine aI ?_;intro X1 hX1 hF;have hv10:=hF _ _ (zF zE);have hv5:=hF _ _ zE;obtain ⟨hB0,hB1⟩:=bl2 hX1 hB0 hB1;have hb:=aF hb hX1;clear hF hX1;obtain ⟨s,t,u,rfl,k1,k2,k3,k4⟩:=hv10;obtain ⟨g5,rfl,hg5,hD⟩:=hv5
 have hlt:=hB1.lt;refine osb 93 5 10 g5 93 hD [.bool s,vS (be t),vS (be u)] bY ?_;intro w5 hR5 hO5 hB5 hs5;have hW0:=hbW;have hb:=hB5 _ _ hb (by omega);clear hD hB0 hB1 hO5 hB5;have hD:=hR5;clear hR5;have HK2:=Lib.hid k2;clear k2
 have ht0:0<t:=by
  rcases Nat.eq_zero_or_pos t with h9|h9
  ·exfalso
   have h8:=HK2.out;rw [h9,kD] at h8;exact HNE.out (sub_zero_iff.1 h8.symm)
  ·exact h9
 have HE:Hid (be t≠[]):=nQ ht0
 have hs:s=true:=by
  have h8:=qVc s ht0 k1;rw [HK2.out,sub_neg] at h8
  rcases s with _|_
  ·exact absurd (h8.1 HLT.out) (by decide)
  ·rfl
 subst hs;go_upto_region 2 with fail;refine jp ?_;refine jnf hD 1 aH ?_;refine jv (.bool false) (bF _ _ _ _ (by rfl) (be t) ([]:List UInt8) (by rfl) (by rfl) false (cU HE.out)) ?_;refine jm (.bool false) ?_;refine jzb hb fun X2 hX2 hb=>?_;have hD:=hD.bel hX2;go_upto_region 4 with fail;refine jp ?_;refine jnf hD 0 aS ?_;refine jm (.bool true) ?_;refine jzb hb fun X3 hX3 hb=>?_;have hD:=hD.bel hX3
 go_wp2
 go_ret
 exact ⟨by rw [HC.out];rfl,hb⟩
theorem cmpG (n:Bool) (p q:List UInt8) (n':Bool) (p' q':List UInt8) (w:World) (hp:p.length≤1000000) (hq:q.length≤1000000) (hp':p'.length≤1000000) (hq':q'.length≤1000000) (h:(rq n p q)≠(rq n' p' q')) (hl:¬ (rq n p q)<(rq n' p' q')):Calls Tryz.prog 29 #[.agg #[.bool n,vS p,vS q],.agg #[.bool n',vS p',vS q']] w fun e w'=>e=.returned (vI (cC (rq n p q) (rq n' p' q')))∧Since w w':=by
 have HC:Hid (cC (rq n p q) (rq n' p' q')=1):=by show _=_;unfold cC;rw [if_neg h,if_neg hl]
 have HNE:Hid ((rq n p q)≠(rq n' p' q')):=h;have HLT:Hid (¬ (rq n p q)<(rq n' p' q')):=hl;clear h hl
 go_enter Tryz.func29,Tryz.ntmps29
 go_upto_region 1 with fail;obtain ⟨W0,hW0,hB0,hB1,hb⟩:=cH w 23 23 [.bool n,vS p,vS q] [.bool n',vS p',vS q'];rw [← hW0];clear hW0;have hbW:=hb.size;refine aN [none,none,none,none,some (IsF ((rq n p q)-(rq n' p' q')) 2000001),some (NewB 93 W0.heap.size)] (by kernel_rfl) (by kernel_rfl) (by kernel_rfl) rfl (aA (aA (aA (aA (aE (IsF.lasts _ _) (aE (NewB.lasts _ _) (aG))))))) ?_;simp only [its,List.dropLast,Nat.zero_add,Nat.reduceAdd];refine aC hB0 ?_;refine jc (rt (rN (rq n p q)) (be (rq n p q).num.natAbs) (be (rq n p q).den)) (fun X hX hF=>ofQ n p q X (by omega) (by omega)) ?_;refine aC hB1 ?_;refine jc (rt (rN (rq (n') p' q')) (be (rq (n') p' q').num.natAbs) (be (rq (n') p' q').den)) (fun X hX hF=>ofQ (n') p' q' X (by omega) (by omega)) ?_;refine jk (fun X hX hF=>xA _ _ 1000000 1000000 _ _ X (fA n p q hp hq (by omega) X) (fA n' p' q' hp' hq' (by omega) X) (by omega)) ?_;intro v10;refine bH (by rfl) (fun X hX hF=>⟨_,_,iP (by rfl) X,⟨X.heap.size,rfl,hX.size,Blk.new rfl⟩,cE X _⟩) ?_;intro v5;simp only [pX];refine aI ?_;intro X1 hX1 hF;have hv10:=hF _ _ (zF zE);have hv5:=hF _ _ zE;obtain ⟨hB0,hB1⟩:=bl2 hX1 hB0 hB1;have hb:=aF hb hX1;clear hF hX1;obtain ⟨s,t,u,rfl,k1,k2,k3,k4⟩:=hv10;obtain ⟨g5,rfl,hg5,hD⟩:=hv5
 have hlt:=hB1.lt;refine osb 93 5 10 g5 93 hD [.bool s,vS (be t),vS (be u)] bY ?_;intro w5 hR5 hO5 hB5 hs5;have hW0:=hbW;have hb:=hB5 _ _ hb (by omega);clear hD hB0 hB1 hO5 hB5;have hD:=hR5;clear hR5;have HK2:=Lib.hid k2;clear k2
 have ht0:0<t:=by
  rcases Nat.eq_zero_or_pos t with h9|h9
  ·exfalso
   have h8:=HK2.out;rw [h9,kD] at h8;exact HNE.out (sub_zero_iff.1 h8.symm)
  ·exact h9
 have HE:Hid (be t≠[]):=nQ ht0
 have hs:s=false:=by
  have h8:=qVc s ht0 k1;rw [HK2.out,sub_neg] at h8
  rcases s with _|_
  ·rfl
  ·exact absurd (h8.2 rfl) HLT.out
 subst hs;go_upto_region 2 with fail;refine jp ?_;refine jnf hD 1 aH ?_;refine jv (.bool false) (bF _ _ _ _ (by rfl) (be t) ([]:List UInt8) (by rfl) (by rfl) false (cU HE.out)) ?_;refine jm (.bool false) ?_;refine jzb hb fun X2 hX2 hb=>?_;have hD:=hD.bel hX2;go_upto_region 4 with fail;refine jp ?_;refine jnf hD 0 aS ?_;refine jm (.bool false) ?_;refine jzb hb fun X3 hX3 hb=>?_;have hD:=hD.bel hX3
 go_wp2
 go_ret
 exact ⟨by rw [HC.out];rfl,hb⟩
theorem qXy (n:Bool) (p q:List UInt8) (n':Bool) (p' q':List UInt8) (w:World) (hp:p.length≤1000000) (hq:q.length≤1000000) (hp':p'.length≤1000000) (hq':q'.length≤1000000):Calls Tryz.prog 29 #[.agg #[.bool n,vS p,vS q],.agg #[.bool n',vS p',vS q']] w fun e w'=>e=.returned (vI (cC (rq n p q) (rq n' p' q')))∧Since w w':=by
 by_cases h:(rq n p q)=(rq n' p' q')
 ·exact cmpE n p q n' p' q' w hp hq hp' hq' h
 ·by_cases hl:(rq n p q)<(rq n' p' q')
  ·exact cmpL n p q n' p' q' w hp hq hp' hq' h hl
  ·exact cmpG n p q n' p' q' w hp hq hp' hq' h hl
def bL (x y:Rat):Rat:=if cC x y≤0 then x else y
def iN (x y:Rat):Rat:=if 0≤cC x y then x else y
theorem minQ1 (n:Bool) (p q:List UInt8) (n':Bool) (p' q':List UInt8) (w:World) (hp:p.length≤1000000) (hq:q.length≤1000000) (hp':p'.length≤1000000) (hq':q'.length≤1000000) (h:cC (rq n p q) (rq n' p' q')≤0):Calls Tryz.prog 46 #[.agg #[.bool n,vS p,vS q],.agg #[.bool n',vS p',vS q']] w fun e w'=>e=.returned (rbv (bL (rq n p q) (rq n' p' q')))∧Since w w':=by
 have HM:Hid (bL (rq n p q) (rq n' p' q')=(rq n p q)):=by unfold bL;exact if_pos h
 go_enter Tryz.func46,Tryz.ntmps46
 go_upto_region 1 with fail;obtain ⟨W0,hW0,hB0,hB1,hB2,hb⟩:=bN w 23 23 23 [.bool n,vS p,vS q] [.bool n',vS p',vS q'] zA;rw [← hW0];clear hW0;refine jp ?_;refine aC hB0 ?_;refine aC hB1 ?_;refine jc (vI (cC (rq n p q) (rq n' p' q'))) (fun X hX hF=>qXy n p q n' p' q' X hp hq hp' hq') ?_;refine pJ (cC (rq n p q) (rq n' p' q')) 0 (by omega) ?_;refine aX hb hB0 hB1 hB2 fun X1 hX1 hb hB0 hB1 hB2=>?_;go_upto_region 2 with fail;refine jq 3 ?_;refine aC hB0 ?_;refine jc (rt (rN (rq n p q)) (be (rq n p q).num.natAbs) (be (rq n p q).den)) (fun X hX hF=>ofQ n p q X (by omega) (by omega)) ?_;refine jc (rt (rN (rq n p q)) (rP (rq n p q)) (rD (rq n p q))) (fun X hX hF=>vH (rq n p q) 1000000 _ X (fA n p q hp hq (by omega) X) (by omega)) ?_;refine aX hb hB0 hB1 hB2 fun X2 hX2 hb hB0 hB1 hB2=>?_;refine osb 23 4 11 (w.heap.size+2) 23 hB2 (zD (rq n p q)) aD ?_;intro w9 hR9 hO9 hB9 hs9;have hb9:=hB9 _ _ hb (by omega);clear hO9 hB9
 go_wp2
 refine aK rfl rfl (by rfl) G23 rfl hR9 aD ⟨by rw [HM.out],hb9⟩
theorem minQ0 (n:Bool) (p q:List UInt8) (n':Bool) (p' q':List UInt8) (w:World) (hp:p.length≤1000000) (hq:q.length≤1000000) (hp':p'.length≤1000000) (hq':q'.length≤1000000) (h:¬ cC (rq n p q) (rq n' p' q')≤0):Calls Tryz.prog 46 #[.agg #[.bool n,vS p,vS q],.agg #[.bool n',vS p',vS q']] w fun e w'=>e=.returned (rbv (bL (rq n p q) (rq n' p' q')))∧Since w w':=by
 have HM:Hid (bL (rq n p q) (rq n' p' q')=(rq n' p' q')):=by unfold bL;exact if_neg h
 go_enter Tryz.func46,Tryz.ntmps46
 go_upto_region 1 with fail;obtain ⟨W0,hW0,hB0,hB1,hB2,hb⟩:=bN w 23 23 23 [.bool n,vS p,vS q] [.bool n',vS p',vS q'] zA;rw [← hW0];clear hW0;refine jp ?_;refine aC hB0 ?_;refine aC hB1 ?_;refine jc (vI (cC (rq n p q) (rq n' p' q'))) (fun X hX hF=>qXy n p q n' p' q' X hp hq hp' hq') ?_;refine qL (cC (rq n p q) (rq n' p' q')) 0 (by omega) ?_;refine aX hb hB0 hB1 hB2 fun X1 hX1 hb hB0 hB1 hB2=>?_;go_upto_region 3 with fail;refine jq 3 ?_;refine aC hB1 ?_;refine jc (rt (rN (rq (n') p' q')) (be (rq (n') p' q').num.natAbs) (be (rq (n') p' q').den)) (fun X hX hF=>ofQ (n') p' q' X (by omega) (by omega)) ?_;refine jc (rt (rN (rq n' p' q')) (rP (rq n' p' q')) (rD (rq n' p' q'))) (fun X hX hF=>vH (rq n' p' q') 1000000 _ X (fA n' p' q' hp' hq' (by omega) X) (by omega)) ?_;refine aX hb hB0 hB1 hB2 fun X2 hX2 hb hB0 hB1 hB2=>?_;refine osb 23 4 14 (w.heap.size+2) 23 hB2 (zD (rq n' p' q')) aD ?_;intro w9 hR9 hO9 hB9 hs9;have hb9:=hB9 _ _ hb (by omega);clear hO9 hB9
 go_wp2
 refine aK rfl rfl (by rfl) G23 rfl hR9 aD ⟨by rw [HM.out],hb9⟩
theorem minQ (n:Bool) (p q:List UInt8) (n':Bool) (p' q':List UInt8) (w:World) (hp:p.length≤1000000) (hq:q.length≤1000000) (hp':p'.length≤1000000) (hq':q'.length≤1000000):Calls Tryz.prog 46 #[.agg #[.bool n,vS p,vS q],.agg #[.bool n',vS p',vS q']] w fun e w'=>e=.returned (rbv (bL (rq n p q) (rq n' p' q')))∧Since w w':=by
 by_cases h:cC (rq n p q) (rq n' p' q')≤0
 ·exact minQ1 n p q n' p' q' w hp hq hp' hq' h
 ·exact minQ0 n p q n' p' q' w hp hq hp' hq' h
theorem maxQ1 (n:Bool) (p q:List UInt8) (n':Bool) (p' q':List UInt8) (w:World) (hp:p.length≤1000000) (hq:q.length≤1000000) (hp':p'.length≤1000000) (hq':q'.length≤1000000) (h:0≤cC (rq n p q) (rq n' p' q')):Calls Tryz.prog 59 #[.agg #[.bool n,vS p,vS q],.agg #[.bool n',vS p',vS q']] w fun e w'=>e=.returned (rbv (iN (rq n p q) (rq n' p' q')))∧Since w w':=by
 have HM:Hid (iN (rq n p q) (rq n' p' q')=(rq n p q)):=by unfold iN;exact if_pos h
 go_enter Tryz.func59,Tryz.ntmps59
 go_upto_region 1 with fail;obtain ⟨W0,hW0,hB0,hB1,hB2,hb⟩:=bN w 23 23 23 [.bool n,vS p,vS q] [.bool n',vS p',vS q'] zA;rw [← hW0];clear hW0;refine jp ?_;refine aC hB0 ?_;refine aC hB1 ?_;refine jc (vI (cC (rq n p q) (rq n' p' q'))) (fun X hX hF=>qXy n p q n' p' q' X hp hq hp' hq') ?_;refine pI (cC (rq n p q) (rq n' p' q')) 0 (by omega) ?_;refine aX hb hB0 hB1 hB2 fun X1 hX1 hb hB0 hB1 hB2=>?_;go_upto_region 2 with fail;refine jq 3 ?_;refine aC hB0 ?_;refine jc (rt (rN (rq n p q)) (be (rq n p q).num.natAbs) (be (rq n p q).den)) (fun X hX hF=>ofQ n p q X (by omega) (by omega)) ?_;refine jc (rt (rN (rq n p q)) (rP (rq n p q)) (rD (rq n p q))) (fun X hX hF=>vH (rq n p q) 1000000 _ X (fA n p q hp hq (by omega) X) (by omega)) ?_;refine aX hb hB0 hB1 hB2 fun X2 hX2 hb hB0 hB1 hB2=>?_;refine osb 23 4 11 (w.heap.size+2) 23 hB2 (zD (rq n p q)) aD ?_;intro w9 hR9 hO9 hB9 hs9;have hb9:=hB9 _ _ hb (by omega);clear hO9 hB9
 go_wp2
 refine aK rfl rfl (by rfl) G23 rfl hR9 aD ⟨by rw [HM.out],hb9⟩
theorem maxQ0 (n:Bool) (p q:List UInt8) (n':Bool) (p' q':List UInt8) (w:World) (hp:p.length≤1000000) (hq:q.length≤1000000) (hp':p'.length≤1000000) (hq':q'.length≤1000000) (h:¬ 0≤cC (rq n p q) (rq n' p' q')):Calls Tryz.prog 59 #[.agg #[.bool n,vS p,vS q],.agg #[.bool n',vS p',vS q']] w fun e w'=>e=.returned (rbv (iN (rq n p q) (rq n' p' q')))∧Since w w':=by
 have HM:Hid (iN (rq n p q) (rq n' p' q')=(rq n' p' q')):=by unfold iN;exact if_neg h
 go_enter Tryz.func59,Tryz.ntmps59
 go_upto_region 1 with fail;obtain ⟨W0,hW0,hB0,hB1,hB2,hb⟩:=bN w 23 23 23 [.bool n,vS p,vS q] [.bool n',vS p',vS q'] zA;rw [← hW0];clear hW0;refine jp ?_;refine aC hB0 ?_;refine aC hB1 ?_;refine jc (vI (cC (rq n p q) (rq n' p' q'))) (fun X hX hF=>qXy n p q n' p' q' X hp hq hp' hq') ?_;refine tP (cC (rq n p q) (rq n' p' q')) 0 (by omega) ?_;refine aX hb hB0 hB1 hB2 fun X1 hX1 hb hB0 hB1 hB2=>?_;go_upto_region 3 with fail;refine jq 3 ?_;refine aC hB1 ?_;refine jc (rt (rN (rq (n') p' q')) (be (rq (n') p' q').num.natAbs) (be (rq (n') p' q').den)) (fun X hX hF=>ofQ (n') p' q' X (by omega) (by omega)) ?_;refine jc (rt (rN (rq n' p' q')) (rP (rq n' p' q')) (rD (rq n' p' q'))) (fun X hX hF=>vH (rq n' p' q') 1000000 _ X (fA n' p' q' hp' hq' (by omega) X) (by omega)) ?_;refine aX hb hB0 hB1 hB2 fun X2 hX2 hb hB0 hB1 hB2=>?_;refine osb 23 4 14 (w.heap.size+2) 23 hB2 (zD (rq n' p' q')) aD ?_;intro w9 hR9 hO9 hB9 hs9;have hb9:=hB9 _ _ hb (by omega);clear hO9 hB9
 go_wp2
 refine aK rfl rfl (by rfl) G23 rfl hR9 aD ⟨by rw [HM.out],hb9⟩
theorem maxQ (n:Bool) (p q:List UInt8) (n':Bool) (p' q':List UInt8) (w:World) (hp:p.length≤1000000) (hq:q.length≤1000000) (hp':p'.length≤1000000) (hq':q'.length≤1000000):Calls Tryz.prog 59 #[.agg #[.bool n,vS p,vS q],.agg #[.bool n',vS p',vS q']] w fun e w'=>e=.returned (rbv (iN (rq n p q) (rq n' p' q')))∧Since w w':=by
 by_cases h:0≤cC (rq n p q) (rq n' p' q')
 ·exact maxQ1 n p q n' p' q' w hp hq hp' hq' h
 ·exact maxQ0 n p q n' p' q' w hp hq hp' hq' h
theorem lenP (n:Bool) (p q:List UInt8) {B:Nat} (hp:p.length≤B) (hq:q.length≤B) (h1:1≤B):(be (rq n p q).num.natAbs).length≤B:=by
 show (rP (rq n p q)).length≤B
 rcases hv:vd n p q with _|_
 ·rw [oL hv]
  exact Nat.zero_le _
 ·rw [(nJ hv).2.1]
  exact hp
theorem lenD (n:Bool) (p q:List UInt8) {B:Nat} (hp:p.length≤B) (hq:q.length≤B) (h1:1≤B):(be (rq n p q).den).length≤B:=by
 obtain ⟨s,t,u,h2,h3,h4,h5,h6⟩:=fA n p q hp hq h1 default
 injection h2 with h2
 have h7:=congrArg (fun a:Array Value=>a.toList) h2;simp only [List.cons.injEq,Value.string.injEq,ByteArray.mk.injEq,List.toArray_inj,and_true] at h7;rw [show be (rq n p q).den=be u from congrArg Array.toList h7.2.2];exact h6
abbrev Tr:=Bool×List UInt8×List UInt8
def trq (t:Tr):Rat:=rq t.1 t.2.1 t.2.2
def trc (t:Tr):List Value:=[.bool t.1,vS t.2.1,vS t.2.2]
theorem bP {P:Program} {f:Operand→Value} {o:Oper} (T:TypeId) (x:Operand) (ho:o.op=.load T x) (b off:Nat) (hx:f x=vP b off) {d:TypeDesc} (hu:P.underlying T=some d)
  (hag:(match d with|.struct _|.array _ _=>true|_=>false)=true) (cs:List Value) (X:World) (hc:Cl X b off cs) (hi:(P.info? T).map (·.size)=some cs.length):(execOp f o).run P X=.ok (.value (.agg cs.toArray)) X:=by
 unfold execOp
 simp only [ho,hx,Instr.loadAt,Instr.sureAddr,Sem.run_bind,Sem.run_pure,Result.andThen_ok,eF T d b off cs hc hu hag hi]
theorem nZ (t:Tr):(trc t).length=3:=rfl
def fK (l:List Tr):Rat:=l.foldl (fun s t=>s+trq t) 0
theorem mP (l:List Tr) (t:Tr):fK (l++[t])=fK l+trq t:=by unfold fK;rw [List.foldl_append];rfl
theorem vL {x:Rat} {B:Nat} {v:Value} {X:World} (h:IsF x B v X):(be x.num.natAbs).length≤B∧(be x.den).length≤B:=by
 obtain ⟨n,p,d,_,hd,rfl,hp,hq⟩:=h;rw [mC n p hd,sB n p hd,oV];exact ⟨gN (Nat.div_le_self _ _) hp,gN (Nat.div_le_self _ _) hq⟩
def szR (x:Rat) (B:Nat):Prop:=(be x.num.natAbs).length≤B∧(be x.den).length≤B
theorem lV {x y:Rat} {B B':Nat} (hx:szR x B) (hy:szR y B'):szR (x+y) (B+B'+1):=by
 have key:=wE (rN x) (rN y) x.num.natAbs y.num.natAbs (Nat.pos_of_ne_zero x.den_nz) (Nat.pos_of_ne_zero y.den_nz);rw [jU,jU] at key;have lpe:=bS hx.1 hy.2;have lqd:=bS hy.1 hx.2;have lde:=bS hx.2 hy.2;have lsum:=gU lpe lqd;have hde:=Nat.mul_pos (Nat.pos_of_ne_zero x.den_nz) (Nat.pos_of_ne_zero y.den_nz)
 have l1:(be (x.num.natAbs * y.den+y.num.natAbs * x.den)).length≤B+B'+1:=by omega
 have mk:∀ (s:Bool) (t:Nat),(be t).length≤B+B'+1→sg (rN x) (x.num.natAbs * y.den)+sg (rN y) (y.num.natAbs * x.den)=sg s t→szR (x+y) (B+B'+1):=fun s t ht hs=>by
  rw [key,hs];exact vL (X:=default) ⟨s,t,x.den * y.den,rfl,hde,rfl,ht,by omega⟩
 have l2:=gN (Nat.sub_le (x.num.natAbs * y.den) (y.num.natAbs * x.den)) lpe;have l3:=gN (Nat.sub_le (y.num.natAbs * x.den) (x.num.natAbs * y.den)) lqd
 by_cases hm:rN x=rN y
 ·exact mk (rN y) _ l1 (by rw [hm];exact gF _ _ _)
 ·rcases Nat.lt_or_ge (x.num.natAbs * y.den) (y.num.natAbs * x.den) with h|h
  ·exact mk _ _ (by omega) (iS hm h)
  ·exact mk _ _ (by omega) (iT hm h)
theorem gB {x y:Rat} {B B':Nat} (hx:szR x B) (hy:szR y B'):szR (x * y) (B+B'):=by
 have key:=pC (rN x) (rN y) x.num.natAbs y.num.natAbs x.den y.den;rw [jU,jU] at key;rw [key];exact vL (X:=default) ⟨_,_,x.den * y.den,rfl,Nat.mul_pos (Nat.pos_of_ne_zero x.den_nz) (Nat.pos_of_ne_zero y.den_nz),rfl,bS hx.1 hy.1,bS hx.2 hy.2⟩
theorem wL {x:Rat} {B:Nat} (hx:szR x B):szR (-x) B:=by
 unfold szR
 rw [Rat.neg_num,Int.natAbs_neg,Rat.neg_den];exact hx
theorem zT (n:Bool) (p q:List UInt8) {B:Nat} (hp:p.length≤B) (hq:q.length≤B) (h1:1≤B):szR (rq n p q) B:=⟨lenP n p q hp hq h1,lenD n p q hp hq h1⟩
theorem szR_zero:szR 0 1:=⟨by decide,by rw [show (0:Rat).den=1 from rfl,be_one];decide⟩
theorem szR.mono {x:Rat} {B B':Nat} (h:szR x B) (hb:B≤B'):szR x B':=⟨Nat.le_trans h.1 hb,Nat.le_trans h.2 hb⟩
theorem szR.rP {x:Rat} {B:Nat} (h:szR x B):(rP x).length≤B:=h.1
theorem szR.rD {x:Rat} {B:Nat} (h:szR x B):(rD x).length≤B:=by
 unfold Go.Proofs.YtnfpenhldlfafaaGreatDoor.rD
 split
 ·exact Nat.zero_le _
 ·exact h.2
theorem zV {B:Nat} (h1:1≤B):∀ {l:List Tr},(∀ t∈l,t.2.1.length≤B∧t.2.2.length≤B)→∀ k,szR (fK (l.take k)) (k * (B+1)+1)
 | l,_,0=>by rw [List.take_zero,Nat.zero_mul,Nat.zero_add];exact szR_zero
 | l,h,k+1=>by
  have ih:=zV h1 h k
  rcases Nat.lt_or_ge k l.length with hk|hk
  ·rw [iR hk,mP]
   have ht:=h _ (List.getElem_mem hk);refine (lV ih (zT _ _ _ ht.1 ht.2 h1)).mono ?_;rw [Nat.add_mul]
   omega
  ·rw [List.take_of_length_le (by omega),← List.take_of_length_le hk]
   refine ih.mono ?_;rw [Nat.add_mul]
   omega
theorem vXd (A:Option Addr) (n c:Nat) (l:List Tr) (B:Nat) (w:World) (hr:Rd w 3 (.slice A n c) n (fl trc l)) (h1:1≤B) (hlb:∀ t∈l,t.2.1.length≤B∧t.2.2.length≤B) (hn:n * (B+1)+1≤1000000) (hB:B≤1000000):Calls Tryz.prog 70 #[.slice A n c] w fun e w'=>e=.returned (rbv (fK l))∧Since w w':=by
 have hn9:n≤1000000:=by
  have h9:=Nat.mul_le_mul_left n (show 1≤B+1 by omega)
  omega
 have hln:l.length=n:=by
  have h9:=hr.len;rw [lO (m:=3) (fun x _=>nZ x)] at h9
  omega
 have HRX:Hid (∀ X,Since w X→Rd X 3 (.slice A n c) n (fl trc l)):=fun X h=>hr.below h
 have HLN:=Lib.hid hln;have HB:=Lib.hid hlb;clear hln hr hlb
 go_enter Tryz.func70,Tryz.ntmps70
 go_upto_region 2 with fail;obtain ⟨W0,hW0,hB0,hB1,hb⟩:=cH w 23 23 zA zA;rw [← hW0];clear hW0;refine jp ?_;refine jm (.slice A n c) ?_;refine jv (vI n) (aM G27 _ (by rfl) A n c (by rfl) _ rfl) ?_;refine jm (vI 0) ?_;refine bO hb hB0 hB1 fun X1 hX1 hb hB0 hB1=>?_
 go_wp2
 go_loopw [8] (fun kv wr=>∃ k:Nat,k≤n∧kv=vI k∧Blk wr (w.heap.size+1) 23 [.bool (rN (fK (l.take k))),.string ⟨(rP (fK (l.take k))).toArray⟩,.string ⟨(rD (fK (l.take k))).toArray⟩]∧Blk wr w.heap.size 23 zA∧Below w.heap.size w wr) (fun kv _=>n-(intOf kv).toNat)
 case atStart=>exact ⟨0,by omega,rfl,hB1,hB0,hb⟩
 case round =>
  clear hB0 hB1 hb;obtain ⟨k,hk,rfl,hB1,hB0,hb⟩:=hrel
  rcases Nat.lt_or_ge k n with hlt|hlt
  ·obtain ⟨b,off,x,rfl,hbb,hcx,hxl,hdrop⟩:=(HRX.out _ hb).atF (m:=3) (fun x _=>nZ x) (by omega) (k:=k) (by rw [HLN.out];exact hlt)
   have hS:szR (fK (l.take k)) 1000000:=(zV h1 HB.out k).mono (by have:=Nat.mul_le_mul_right (B+1) hk;omega);have hx1:=HB.out x hxl
   have HNX:Hid (fK (l.take (k+1))=(fK (l.take k))+trq x):=by
    show _=_
    have hk2:k<l.length:=by rw [HLN.out];exact hlt
    have h9:=hdrop.out;rw [List.drop_eq_getElem_cons hk2] at h9
    injection h9 with h9 _
    rw [iR hk2,mP,h9]
   have hSP:=hS.rP;have hSD:=hS.rD;have hgw:=hB1.lt;go_upto_region 3 with fail;refine jp ?_;refine dP (k:Int) (n:Int) (by omega) ?_;refine bO hb hB1 hB0 fun X1 hX1 hb hB1 hB0=>?_;have hcx:=hcx.below hX1 hbb;have hbb:=Nat.lt_of_lt_of_le hbb (hX1).size;go_upto_region 4 with fail;refine jq 2 ?_;refine jv (vP b (off+k * 3)) (bD G27 aD _ _ (by rfl) b off n c k (by omega) (by rfl) (by rfl) rfl) ?_;refine jg (.agg #[.bool x.1,st x.2.1,st x.2.2]) (fun X hX hF=>bP 23 _ (by rfl) b (off+k * 3) (by rfl) G23 rfl (trc x) X (hcx.below hX hbb) aD) ?_;refine bO hb hB1 hB0 fun X2 hX2 hb hB1 hB0=>?_;have hcx:=hcx.below hX2 hbb;have hbb:=Nat.lt_of_lt_of_le hbb (hX2).size;go_upto_region 5 with (refine osm 23 5 11 [.bool x.1,vS x.2.1,vS x.2.2] aD fun Y2 hD5 hS9=>?_);have hgs5:=hb.size;have:=lt2 hB1 hB0;have hcx:=hcx.below hS9 hbb;have hbb:=Nat.lt_of_lt_of_le hbb (hS9).size;obtain ⟨hB1,hB0⟩:=bl2 hS9 hB1 hB0;have hb:=aF hb hS9;clear hS9;generalize X2.heap.size=g5 at *;refine jq 3 ?_;refine aC hB1 ?_;refine aC hD5 ?_;refine jc (.agg #[.bool (rN ((fK (l.take k))+trq x)),st (rP ((fK (l.take k))+trq x)),st (rD ((fK (l.take k))+trq x))]) (fun X hX hF=>mo (addQ (rN (fK (l.take k))) (rP (fK (l.take k))) (rD (fK (l.take k))) x.1 x.2.1 x.2.2 X hSP hSD (by omega) (by omega)) (by rw [aZ];rfl)) ?_;refine aX hb hB1 hB0 hD5 fun X3 hX3 hb hB1 hB0 hD5=>?_
   refine osb 23 3 14 (w.heap.size+1) 23 hB1 [.bool (rN ((fK (l.take k))+trq x)),.string ⟨(rP ((fK (l.take k))+trq x)).toArray⟩,.string ⟨(rD ((fK (l.take k))+trq x)).toArray⟩] aD ?_;intro w9 hR9 hO9 hB9 hs9;have hb:=hB9 _ _ hb (by omega);have hB0:=hO9 _ _ _ (by omega) hB0;rw [← HNX.out] at hR9;clear hO9 hB9 hB1 hD5;go_upto_region 6 with fail;refine jp ?_;refine jv (vI ((k+1:Nat):Int)) (aV _ _ _ _ (by rfl) (k:Int) 1 ((k+1:Nat):Int) (by rfl) (by rfl) (by omega) (by omega) (by omega)) ?_;refine jm (vI ((k+1:Nat):Int)) ?_;refine bJ hb hB0 fun X4 hX4 hb hB0=>?_;have hR9:=hR9.bel hX4
   go_wp2
   go_roundw
   case rel=>exact ⟨k+1,by omega,rfl,hR9,hB0,hb⟩
   case measure=>simp [intOf];omega
  ·obtain rfl:k=n:=by omega
   have HT:Hid (l.take k=l):=List.take_of_length_le (by rw [HLN.out];exact Nat.le_refl _);rw [HT.out] at hB1;have hgw:=hB1.lt;go_upto_region 3 with fail;refine jp ?_;refine dJ (k:Int) (k:Int) (by omega) ?_;refine bO hb hB1 hB0 fun X1 hX1 hb hB1 hB0=>?_;go_upto_region 7 with fail;refine jq 1 ?_;refine aC hB1 ?_;refine bO hb hB1 hB0 fun X2 hX2 hb hB1 hB0=>?_;refine osb 23 2 16 w.heap.size 23 hB0 (zD (fK l)) aD ?_;intro w9 hR9 hO9 hB9 hs9;have hb9:=hB9 _ _ hb (by omega);clear hO9 hB9
   go_wp2
   refine aK rfl rfl (by rfl) G23 rfl hR9 aD ⟨rfl,hb9⟩
theorem sumQ (A:Option Addr) (n c:Nat) (l:List Tr) (B:Nat) (w:World) (hr:Rd w 3 (.slice A n c) n (fl trc l)) (h1:1≤B) (hlb:∀ t∈l,t.2.1.length≤B∧t.2.2.length≤B) (hn:n * (B+1)+1≤1000000) (hB:B≤1000000):Calls Tryz.prog 28 #[.slice A n c] w fun e w'=>e=.returned (rbv (fK l))∧Since w w':=by
 have HRX:Hid (∀ X,Since w X→Rd X 3 (.slice A n c) n (fl trc l)):=fun X h=>hr.below h
 have HB:=Lib.hid hlb;clear hr hlb
 go_enter Tryz.func28,Tryz.ntmps28
 go_upto_region 1 with fail;obtain ⟨W0,hW0,hB0,hb⟩:=bW w 23 zA;rw [← hW0];clear hW0;refine jq 2 ?_;refine jm (.slice A n c) ?_;refine jc (rt (rN (fK l)) (rP (fK l)) (rD (fK l))) (fun X hX hF=>vXd A n c l B X (HRX.out X (hb.trans (Below.mono hX hb.size))) h1 HB.out hn hB) ?_;refine bJ hb hB0 fun X1 hX1 hb hB0=>?_;refine osb 23 2 4 w.heap.size 23 hB0 (zD (fK l)) aD ?_;intro w9 hR9 hO9 hB9 hs9;have hb9:=hB9 _ _ hb (by omega);clear hO9 hB9
 go_wp2
 refine aK rfl rfl (by rfl) G23 rfl hR9 aD ⟨rfl,hb9⟩
end Go.Proofs.YtnfpenhldlfafaaGreatDoor

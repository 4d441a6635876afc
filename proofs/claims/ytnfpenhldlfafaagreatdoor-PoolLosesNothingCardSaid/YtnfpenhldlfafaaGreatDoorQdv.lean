/- rat: Div, Cmp, Min, Max. -/
import Derived.Test.YtnfpenhldlfafaaGreatDoorQpk
set_option linter.unusedSimpArgs false
set_option linter.unusedVariables false
set_option maxRecDepth 100000
set_option maxHeartbeats 1600000
namespace Go.Proofs.YtnfpenhldlfafaaGreatDoor
open Go.RowKit
theorem Turns.of_since {g:Nat} {t:TypeId} {xs ys:List Value} {X Y:World} (h:Since X Y):Turns g t xs ys X Y :=
 ⟨⟨h.os,h.tape,h.output,h.size,fun k hk _=>h.block k hk⟩,fun hx=>.inl (hx.bel h),fun hy=>hy.bel h⟩
section
variable {P:Program} {l:List Oper} {ops:Array Oper} {w:World} {Q:Act→World→Prop} {pre:Nat→Nat→Bool} {a:Act} {k:Nat} {o:Oper} {rest:List (Nat×Oper×cE)} {Fs:List (Nat×(World→Prop))}
theorem uY {g:Nat} {t:TypeId} {xs ys:List Value} (hw:Region.wanted o (yielded ops a.tmps)=true) (ty:TypeId) (x y:Operand) (ho:o.op=.store ty x y) (hdst:o.dst=none) (hx:a.eval x=vP g 0) (hy:a.eval y=.agg ys.toArray)
  (hB:Blk w g t xs) (hl:ys.length=xs.length) (h1:∀ v∈ys,v.oneCell'=true) (hi:(P.info? ty).map (·.size)=some ys.length) (h:bK P ops (Turns g t xs ys) w Q pre rest ((k,fun X=>Blk X g t ys) :: Fs) a) :
  bK P ops (Turns g t xs ys) w Q pre ((k,o,some (fun _ X=>Blk X g t ys)) :: rest) Fs a:=by
 refine ⟨?_⟩
 unfold CertR
 rw [if_pos hw];refine ⟨fun X hX _=>?_,fun _=>by rw [hdst];exact h.out⟩
 have key:∀ zs,Blk X g t zs→zs.length=ys.length→dS P o a X (fun u X'=>Blk X' g t ys∧Turns g t xs ys X X'):=fun zs hz hlz=>by
  have hr:=eT (P:=P) ty g t zs.toArray ys.toArray hz (by simp [hlz]) (by simpa using h1) (by simpa using hi);have h9:Blk (X.setRow g ys.toArray) g t ys:=setRow_heap X g zs.toArray ys.toArray t (0,0) hz
  unfold dS execOp
  simp only [ho,hx,hy,Instr.storeAt,Instr.sureAddr,Sem.run_bind,Sem.run_pure,Result.andThen_ok,hr];exact ⟨h9,dQ X g ys.toArray,fun _=>.inr h9,fun _=>h9⟩
 rcases hX.2.1 hB with hq|hq
 ·exact key xs hq hl.symm
 ·exact key ys hq rfl
end
theorem mR (x:Rat):x.num.natAbs=0↔x=0:=by
 constructor
 ·intro h
  have h1:x.num=0:=by omega
  have:=Rat.mkRat_self x;rw [h1] at this;rw [← this]
  simp
 ·intro h
  rw [h]
  rfl
theorem divZ (n:Bool) (p q:List UInt8) (n':Bool) (p' q':List UInt8) (w:World) (hp:p.length≤1000000) (hq:q.length≤1000000) (hp':p'.length≤1000000) (hq':q'.length≤1000000) (h0:(rq n' p' q')=0):Calls Tryz.prog 50 #[.agg #[.bool n,vS p,vS q],.agg #[.bool n',vS p',vS q']] w fun e w'=>e=.returned (.tuple #[.agg #[.bool false,.string ⟨#[]⟩,.string ⟨#[]⟩],vI 1])∧Since w w':=by
 have HE:Hid (be (rq n' p' q').num.natAbs=[]):=be_nil.2 ((mR _).2 h0);clear h0
 go_enter Tryz.func50,Tryz.ntmps50
 go_upto_region 1 with fail;obtain ⟨W0,hW0,hB0,hB1,hB2,hb⟩:=bS w 23 23 23 [.bool n,vS p,vS q] [.bool n',vS p',vS q'] [.bool false,.string ⟨#[]⟩,.string ⟨#[]⟩];rw [← hW0];clear hW0;refine jp ?_;refine ja hB1 Tryz.underlying23 (by rfl) aB ?_;refine jc (rt (rN (rq (n') p' q')) (be (rq (n') p' q').num.natAbs) (be (rq (n') p' q').den)) (fun X hX hF=>ofQ (n') p' q' X (by omega) (by omega)) ?_;refine jm (st (be (rq (n') p' q').num.natAbs)) ?_;refine jv (.bool true) (cT _ _ _ _ (by rfl) (be (rq (n') p' q').num.natAbs) ([]:List UInt8) (by rfl) (by rfl) true (oB HE.out)) ?_;refine bD hb hB0 hB1 hB2 fun X1 hX1 hb hB0 hB1 hB2=>?_;go_upto_region 2 with fail;refine jq 1 ?_;refine jn (rz) ?_;refine bD hb hB0 hB1 hB2 fun X2 hX2 hb hB0 hB1 hB2=>?_;refine osb 23 4 10 (w.heap.size+2) 23 hB2 [.bool false,.string ⟨#[]⟩,.string ⟨#[]⟩] aB ?_;intro w9 hR9 hO9 hB9 hs9;have hb9:=hB9 _ _ hb (by omega);clear hO9 hB9
 go_wp2
 refine bJ (v:=vI 1) rfl rfl (by rfl) (by rfl) Tryz.underlying23 rfl hR9 aB ⟨rfl,hb9⟩
theorem divQ (n:Bool) (p q:List UInt8) (n':Bool) (p' q':List UInt8) (w:World) (hp:p.length≤1000000) (hq:q.length≤1000000) (hp':p'.length≤1000000) (hq':q'.length≤1000000) (h0:(rq n' p' q')≠0):Calls Tryz.prog 50 #[.agg #[.bool n,vS p,vS q],.agg #[.bool n',vS p',vS q']] w fun e w'=>e=.returned (.tuple #[.agg #[.bool (rN ((rq n p q) / (rq n' p' q'))),.string ⟨(rP ((rq n p q) / (rq n' p' q'))).toArray⟩,.string ⟨(rD ((rq n p q) / (rq n' p' q'))).toArray⟩],vI 0])∧Since w w':=by
 have HE:Hid (be (rq n' p' q').num.natAbs≠[]):=fun h9=>h0 ((mR _).1 (be_nil.1 h9))
 have HN0:Hid ((rq n' p' q')≠0):=h0;clear h0
 go_enter Tryz.func50,Tryz.ntmps50
 go_upto_region 1 with fail;obtain ⟨W0,hW0,hB0,hB1,hB2,hb⟩:=bS w 23 23 23 [.bool n,vS p,vS q] [.bool n',vS p',vS q'] [.bool false,.string ⟨#[]⟩,.string ⟨#[]⟩];rw [← hW0];clear hW0;refine jp ?_;refine ja hB1 Tryz.underlying23 (by rfl) aB ?_;refine jc (rt (rN (rq (n') p' q')) (be (rq (n') p' q').num.natAbs) (be (rq (n') p' q').den)) (fun X hX hF=>ofQ (n') p' q' X (by omega) (by omega)) ?_;refine jm (st (be (rq (n') p' q').num.natAbs)) ?_;refine jv (.bool false) (cT _ _ _ _ (by rfl) (be (rq (n') p' q').num.natAbs) ([]:List UInt8) (by rfl) (by rfl) false (gB HE.out)) ?_;refine bD hb hB0 hB1 hB2 fun X1 hX1 hb hB0 hB1 hB2=>?_;go_upto_region 3 with fail;refine kE (w.heap.size+2) 23 [.bool false,.string ⟨#[]⟩,.string ⟨#[]⟩] [.bool (rN ((rq n p q) / (rq n' p' q'))),.string ⟨(rP ((rq n p q) / (rq n' p' q'))).toArray⟩,.string ⟨(rD ((rq n p q) / (rq n' p' q'))).toArray⟩] (List.replicate 5 none++[some (fun _ X=>Blk X (w.heap.size+2) 23 [.bool (rN ((rq n p q) / (rq n' p' q'))),.string ⟨(rP ((rq n p q) / (rq n' p' q'))).toArray⟩,.string ⟨(rD ((rq n p q) / (rq n' p' q'))).toArray⟩])]) (by kernel_rfl) (by kernel_rfl) nQ ?_;simp only [its,List.replicate,List.cons_append,List.nil_append,Nat.zero_add,Nat.reduceAdd];refine jg (rt n p q) (fun X hX hF=>fW 23 _ (by rfl) w.heap.size (by rfl) Tryz.underlying23 rfl X (Turns.blk hX hB0 (by omega)) aB) ?_;refine jc (rt (rN (rq n p q)) (be (rq n p q).num.natAbs) (be (rq n p q).den)) (fun X hX hF=>(ofQ n p q X (by omega) (by omega)).mono fun e X' ⟨h1,h2⟩=>⟨h1,Turns.of_since h2⟩) ?_
 refine jv (.func (.func 84) #[rt (rN (rq n p q)) (be (rq n p q).num.natAbs) (be (rq n p q).den)] #[]) (kJ _ _ (by rfl) _ (by rfl)) ?_;refine jg (.agg #[.bool n',st p',st q']) (fun X hX hF=>fW 23 _ (by rfl) (w.heap.size+1) (by rfl) Tryz.underlying23 rfl X (Turns.blk hX hB1 (by omega)) aB) ?_;refine jc (rt (rN ((rq n p q) / (rq n' p' q'))) (rP ((rq n p q) / (rq n' p' q'))) (rD ((rq n p q) / (rq n' p' q')))) (fun X hX hF=>(doQ 84 (.agg #[.bool (rN (rq n p q)),vS (be (rq n p q).num.natAbs),vS (be (rq n p q).den)]) n' p' q' ((rq n p q) / (rq n' p' q')) 1000000 2000000 X hp' hq' (by omega) (by omega) (by omega) (fun v X=>by go_simp) (fun v X hv=>qQw _ _ 1000000 1000000 _ v X (dW n p q hp hq (by omega) X) hv (by omega) HN0.out)).mono fun e X' ⟨h1,h2⟩=>⟨h1,Turns.of_since h2⟩) ?_;refine uY (by rfl) 23 (.tmp 4) (.tmp 15) (by rfl) rfl (by rfl) (by rfl) hB2 rfl (al3 rfl rfl rfl) aB ?_;refine jm (vI 0) ?_;refine aH ?_;intro X2 hX2 hF;have hS:=hF _ _ List.mem_cons_self;have hb:=hX2.below hb hb.size (by omega);have hB0:=Turns.blk hX2 hB0 (by omega);have hB1:=Turns.blk hX2 hB1 (by omega);have hB2:=hS;clear hF hS hX2
 go_wp2
 refine bJ (v:=vI 0) rfl rfl (by rfl) (by rfl) Tryz.underlying23 rfl hB2 aB ⟨rfl,hb⟩
theorem cmpE (n:Bool) (p q:List UInt8) (n':Bool) (p' q':List UInt8) (w:World) (hp:p.length≤1000000) (hq:q.length≤1000000) (hp':p'.length≤1000000) (hq':q'.length≤1000000) (h:(rq n p q)=(rq n' p' q')):Calls Tryz.prog 29 #[.agg #[.bool n,vS p,vS q],.agg #[.bool n',vS p',vS q']] w fun e w'=>e=.returned (vI (cA (rq n p q) (rq n' p' q')))∧Since w w':=by
 have HC:Hid (cA (rq n p q) (rq n' p' q')=0):=by unfold cA;exact if_pos h
 have HXY:=Lib.hid h;clear h
 go_enter Tryz.func29,Tryz.ntmps29
 go_upto_region 1 with fail;obtain ⟨W0,hW0,hB0,hB1,hb⟩:=cI w 23 23 [.bool n,vS p,vS q] [.bool n',vS p',vS q'];rw [← hW0];clear hW0;have hbW:=hb.size;refine aT [none,none,none,none,some (IsF ((rq n p q)-(rq n' p' q')) 2000001),some (NewB 93 W0.heap.size)] (by kernel_rfl) (by kernel_rfl) (by kernel_rfl) rfl (aA (aA (aA (aA (aD (IsF.lasts _ _) (aD (NewB.lasts _ _) (aF))))))) ?_;simp only [its,List.dropLast,Nat.zero_add,Nat.reduceAdd];refine ja hB0 Tryz.underlying23 (by rfl) aB ?_;refine jc (rt (rN (rq n p q)) (be (rq n p q).num.natAbs) (be (rq n p q).den)) (fun X hX hF=>ofQ n p q X (by omega) (by omega)) ?_;refine ja hB1 Tryz.underlying23 (by rfl) aB ?_;refine jc (rt (rN (rq (n') p' q')) (be (rq (n') p' q').num.natAbs) (be (rq (n') p' q').den)) (fun X hX hF=>ofQ (n') p' q' X (by omega) (by omega)) ?_;refine jk (fun X hX hF=>tZ _ _ 1000000 1000000 _ _ X (dW n p q hp hq (by omega) X) (dW n' p' q' hp' hq' (by omega) X) (by omega)) ?_;intro v10;refine aW (by rfl) (fun X hX hF=>⟨_,_,gI (by rfl) X,⟨X.heap.size,rfl,hX.size,Blk.new rfl⟩,bU X _⟩) ?_;intro v5;simp only [pX];refine aH ?_;intro X1 hX1 hF;have hv10:=hF _ _ (List.mem_cons_of_mem _ List.mem_cons_self);have hv5:=hF _ _ List.mem_cons_self;obtain ⟨hB0,hB1⟩:=bl2 hX1 hB0 hB1;have hb:=aG hb hX1;clear hF hX1
 obtain ⟨s,t,u,rfl,k1,k2,k3,k4⟩:=hv10;obtain ⟨g5,rfl,hg5,hD⟩:=hv5;have hlt:=hB1.lt;refine osb 93 5 10 g5 93 hD [.bool s,vS (be t),vS (be u)] bO ?_;intro w5 hR5 hO5 hB5 hs5;have hW0:=hbW;have hb:=hB5 _ _ hb (by omega);clear hD hB0 hB1 hO5 hB5;have hD:=hR5;clear hR5;have HK2:=Lib.hid k2;clear k2
 have HE:Hid (be t=[]):=be_nil.2 (by
  have h9:=HK2.out;rw [HXY.out,sub_zero_iff.2 rfl,Rat.mkRat_eq_zero (by omega),lT] at h9
  exact h9)
 go_upto_region 2 with fail;refine jp ?_;refine jnf hD 1 aI ?_;refine jv (.bool true) (cT _ _ _ _ (by rfl) (be t) ([]:List UInt8) (by rfl) (by rfl) true (oB HE.out)) ?_;refine jm (.bool true) ?_;refine jzb hb fun X2 hX2 hb=>?_;have hD:=hD.bel hX2
 go_wp2
 go_ret
 exact ⟨by rw [HC.out];rfl,hb⟩
theorem cmpL (n:Bool) (p q:List UInt8) (n':Bool) (p' q':List UInt8) (w:World) (hp:p.length≤1000000) (hq:q.length≤1000000) (hp':p'.length≤1000000) (hq':q'.length≤1000000) (h:(rq n p q)≠(rq n' p' q')) (hl:(rq n p q)<(rq n' p' q')):Calls Tryz.prog 29 #[.agg #[.bool n,vS p,vS q],.agg #[.bool n',vS p',vS q']] w fun e w'=>e=.returned (vI (cA (rq n p q) (rq n' p' q')))∧Since w w':=by
 have HC:Hid (cA (rq n p q) (rq n' p' q')=-1):=by show _=_;unfold cA;rw [if_neg h,if_pos hl]
 have HNE:Hid ((rq n p q)≠(rq n' p' q')):=h;have HLT:Hid ((rq n p q)<(rq n' p' q')):=hl;clear h hl
 go_enter Tryz.func29,Tryz.ntmps29
 go_upto_region 1 with fail;obtain ⟨W0,hW0,hB0,hB1,hb⟩:=cI w 23 23 [.bool n,vS p,vS q] [.bool n',vS p',vS q'];rw [← hW0];clear hW0;have hbW:=hb.size;refine aT [none,none,none,none,some (IsF ((rq n p q)-(rq n' p' q')) 2000001),some (NewB 93 W0.heap.size)] (by kernel_rfl) (by kernel_rfl) (by kernel_rfl) rfl (aA (aA (aA (aA (aD (IsF.lasts _ _) (aD (NewB.lasts _ _) (aF))))))) ?_;simp only [its,List.dropLast,Nat.zero_add,Nat.reduceAdd];refine ja hB0 Tryz.underlying23 (by rfl) aB ?_;refine jc (rt (rN (rq n p q)) (be (rq n p q).num.natAbs) (be (rq n p q).den)) (fun X hX hF=>ofQ n p q X (by omega) (by omega)) ?_;refine ja hB1 Tryz.underlying23 (by rfl) aB ?_;refine jc (rt (rN (rq (n') p' q')) (be (rq (n') p' q').num.natAbs) (be (rq (n') p' q').den)) (fun X hX hF=>ofQ (n') p' q' X (by omega) (by omega)) ?_;refine jk (fun X hX hF=>tZ _ _ 1000000 1000000 _ _ X (dW n p q hp hq (by omega) X) (dW n' p' q' hp' hq' (by omega) X) (by omega)) ?_;intro v10;refine aW (by rfl) (fun X hX hF=>⟨_,_,gI (by rfl) X,⟨X.heap.size,rfl,hX.size,Blk.new rfl⟩,bU X _⟩) ?_;intro v5;simp only [pX];refine aH ?_;intro X1 hX1 hF;have hv10:=hF _ _ (List.mem_cons_of_mem _ List.mem_cons_self);have hv5:=hF _ _ List.mem_cons_self;obtain ⟨hB0,hB1⟩:=bl2 hX1 hB0 hB1;have hb:=aG hb hX1;clear hF hX1
 obtain ⟨s,t,u,rfl,k1,k2,k3,k4⟩:=hv10;obtain ⟨g5,rfl,hg5,hD⟩:=hv5;have hlt:=hB1.lt;refine osb 93 5 10 g5 93 hD [.bool s,vS (be t),vS (be u)] bO ?_;intro w5 hR5 hO5 hB5 hs5;have hW0:=hbW;have hb:=hB5 _ _ hb (by omega);clear hD hB0 hB1 hO5 hB5;have hD:=hR5;clear hR5;have HK2:=Lib.hid k2;clear k2
 have ht0:0<t:=by
  rcases Nat.eq_zero_or_pos t with h9|h9
  ·exfalso
   have h8:=HK2.out;rw [h9,kF] at h8;exact HNE.out (sub_zero_iff.1 h8.symm)
  ·exact h9
 have HE:Hid (be t≠[]):=yX ht0
 have hs:s=true:=by
  have h8:=xD s ht0 k1;rw [HK2.out,tP] at h8
  rcases s with _|_
  ·exact absurd (h8.1 HLT.out) (by decide)
  ·rfl
 subst hs;go_upto_region 2 with fail;refine jp ?_;refine jnf hD 1 aI ?_;refine jv (.bool false) (cT _ _ _ _ (by rfl) (be t) ([]:List UInt8) (by rfl) (by rfl) false (gB HE.out)) ?_;refine jm (.bool false) ?_;refine jzb hb fun X2 hX2 hb=>?_;have hD:=hD.bel hX2;go_upto_region 4 with fail;refine jp ?_;refine jnf hD 0 aQ ?_;refine jm (.bool true) ?_;refine jzb hb fun X3 hX3 hb=>?_;have hD:=hD.bel hX3
 go_wp2
 go_ret
 exact ⟨by rw [HC.out];rfl,hb⟩
theorem cmpG (n:Bool) (p q:List UInt8) (n':Bool) (p' q':List UInt8) (w:World) (hp:p.length≤1000000) (hq:q.length≤1000000) (hp':p'.length≤1000000) (hq':q'.length≤1000000) (h:(rq n p q)≠(rq n' p' q')) (hl:¬ (rq n p q)<(rq n' p' q')):Calls Tryz.prog 29 #[.agg #[.bool n,vS p,vS q],.agg #[.bool n',vS p',vS q']] w fun e w'=>e=.returned (vI (cA (rq n p q) (rq n' p' q')))∧Since w w':=by
 have HC:Hid (cA (rq n p q) (rq n' p' q')=1):=by show _=_;unfold cA;rw [if_neg h,if_neg hl]
 have HNE:Hid ((rq n p q)≠(rq n' p' q')):=h;have HLT:Hid (¬ (rq n p q)<(rq n' p' q')):=hl;clear h hl
 go_enter Tryz.func29,Tryz.ntmps29
 go_upto_region 1 with fail;obtain ⟨W0,hW0,hB0,hB1,hb⟩:=cI w 23 23 [.bool n,vS p,vS q] [.bool n',vS p',vS q'];rw [← hW0];clear hW0;have hbW:=hb.size;refine aT [none,none,none,none,some (IsF ((rq n p q)-(rq n' p' q')) 2000001),some (NewB 93 W0.heap.size)] (by kernel_rfl) (by kernel_rfl) (by kernel_rfl) rfl (aA (aA (aA (aA (aD (IsF.lasts _ _) (aD (NewB.lasts _ _) (aF))))))) ?_;simp only [its,List.dropLast,Nat.zero_add,Nat.reduceAdd];refine ja hB0 Tryz.underlying23 (by rfl) aB ?_;refine jc (rt (rN (rq n p q)) (be (rq n p q).num.natAbs) (be (rq n p q).den)) (fun X hX hF=>ofQ n p q X (by omega) (by omega)) ?_;refine ja hB1 Tryz.underlying23 (by rfl) aB ?_;refine jc (rt (rN (rq (n') p' q')) (be (rq (n') p' q').num.natAbs) (be (rq (n') p' q').den)) (fun X hX hF=>ofQ (n') p' q' X (by omega) (by omega)) ?_;refine jk (fun X hX hF=>tZ _ _ 1000000 1000000 _ _ X (dW n p q hp hq (by omega) X) (dW n' p' q' hp' hq' (by omega) X) (by omega)) ?_;intro v10;refine aW (by rfl) (fun X hX hF=>⟨_,_,gI (by rfl) X,⟨X.heap.size,rfl,hX.size,Blk.new rfl⟩,bU X _⟩) ?_;intro v5;simp only [pX];refine aH ?_;intro X1 hX1 hF;have hv10:=hF _ _ (List.mem_cons_of_mem _ List.mem_cons_self);have hv5:=hF _ _ List.mem_cons_self;obtain ⟨hB0,hB1⟩:=bl2 hX1 hB0 hB1;have hb:=aG hb hX1;clear hF hX1
 obtain ⟨s,t,u,rfl,k1,k2,k3,k4⟩:=hv10;obtain ⟨g5,rfl,hg5,hD⟩:=hv5;have hlt:=hB1.lt;refine osb 93 5 10 g5 93 hD [.bool s,vS (be t),vS (be u)] bO ?_;intro w5 hR5 hO5 hB5 hs5;have hW0:=hbW;have hb:=hB5 _ _ hb (by omega);clear hD hB0 hB1 hO5 hB5;have hD:=hR5;clear hR5;have HK2:=Lib.hid k2;clear k2
 have ht0:0<t:=by
  rcases Nat.eq_zero_or_pos t with h9|h9
  ·exfalso
   have h8:=HK2.out;rw [h9,kF] at h8;exact HNE.out (sub_zero_iff.1 h8.symm)
  ·exact h9
 have HE:Hid (be t≠[]):=yX ht0
 have hs:s=false:=by
  have h8:=xD s ht0 k1;rw [HK2.out,tP] at h8
  rcases s with _|_
  ·rfl
  ·exact absurd (h8.2 rfl) HLT.out
 subst hs;go_upto_region 2 with fail;refine jp ?_;refine jnf hD 1 aI ?_;refine jv (.bool false) (cT _ _ _ _ (by rfl) (be t) ([]:List UInt8) (by rfl) (by rfl) false (gB HE.out)) ?_;refine jm (.bool false) ?_;refine jzb hb fun X2 hX2 hb=>?_;have hD:=hD.bel hX2;go_upto_region 4 with fail;refine jp ?_;refine jnf hD 0 aQ ?_;refine jm (.bool false) ?_;refine jzb hb fun X3 hX3 hb=>?_;have hD:=hD.bel hX3
 go_wp2
 go_ret
 exact ⟨by rw [HC.out];rfl,hb⟩
theorem yV (n:Bool) (p q:List UInt8) (n':Bool) (p' q':List UInt8) (w:World) (hp:p.length≤1000000) (hq:q.length≤1000000) (hp':p'.length≤1000000) (hq':q'.length≤1000000):Calls Tryz.prog 29 #[.agg #[.bool n,vS p,vS q],.agg #[.bool n',vS p',vS q']] w fun e w'=>e=.returned (vI (cA (rq n p q) (rq n' p' q')))∧Since w w':=by
 by_cases h:(rq n p q)=(rq n' p' q')
 ·exact cmpE n p q n' p' q' w hp hq hp' hq' h
 ·by_cases hl:(rq n p q)<(rq n' p' q')
  ·exact cmpL n p q n' p' q' w hp hq hp' hq' h hl
  ·exact cmpG n p q n' p' q' w hp hq hp' hq' h hl
end Go.Proofs.YtnfpenhldlfafaaGreatDoor

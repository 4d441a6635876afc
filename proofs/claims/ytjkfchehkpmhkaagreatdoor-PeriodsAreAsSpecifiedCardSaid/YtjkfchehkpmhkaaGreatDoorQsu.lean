/- rat: sums of lists. -/
import Derived.Laws.EntriesVeiled
import Derived.Test.YtjkfchehkpmhkaaGreatDoorMF
import Derived.Test.YtjkfchehkpmhkaaGreatDoorRw2
set_option linter.unusedSimpArgs false
set_option linter.unusedVariables false
set_option maxRecDepth 100000
set_option maxHeartbeats 1600000
namespace Go.Proofs.YtjkfchehkpmhkaaGreatDoor
open Go.RowKit
theorem iP (x:Rat):x.num.natAbs=0↔x=0:=by
 constructor
 ·intro h
  have h1:x.num=0:=by omega
  have:=Rat.mkRat_self x;rw [h1] at this;rw [← this]
  simp
 ·intro h
  rw [h]
  rfl
theorem cmpE (n:Bool) (p q:List UInt8) (n':Bool) (p' q':List UInt8) (w:World) (hp:p.length≤1000000) (hq:q.length≤1000000) (hp':p'.length≤1000000) (hq':q'.length≤1000000) (h:(rq n p q)=(rq n' p' q')):Calls Tryz.prog 24 #[.agg #[.bool n,vS p,vS q],.agg #[.bool n',vS p',vS q']] w fun e w'=>e=.returned (vI (kE (rq n p q) (rq n' p' q')))∧Since w w':=by
 have HC:Hid (kE (rq n p q) (rq n' p' q')=0):=by unfold kE;exact if_pos h
 have HXY:=Lib.hid h;clear h
 go_enter Tryz.func24,Tryz.ntmps24
 go_upto_region 1 with fail;obtain ⟨W0,hW0,hB0,hB1,hb⟩:=cV w 40 40 [.bool n,vS p,vS q] [.bool n',vS p',vS q'];rw [← hW0];clear hW0;have hbW:=hb.size;refine bD [none,none,none,none,some (IsF ((rq n p q)-(rq n' p' q')) 2000001),some (NewB 102 W0.heap.size)] (by kernel_rfl) (by kernel_rfl) (by kernel_rfl) rfl (aB (aB (aB (aB (aD (IsF.lasts _ _) (aD (NewB.lasts _ _) (aH))))))) ?_;simp only [its,List.dropLast,Nat.zero_add,Nat.reduceAdd];refine ja hB0 Tryz.underlying40 (by rfl) aC ?_;refine jc (rt (rN (rq n p q)) (be (rq n p q).num.natAbs) (be (rq n p q).den)) (fun X hX hF=>ofQ n p q X (by omega) (by omega)) ?_;refine ja hB1 Tryz.underlying40 (by rfl) aC ?_;refine jc (rt (rN (rq (n') p' q')) (be (rq (n') p' q').num.natAbs) (be (rq (n') p' q').den)) (fun X hX hF=>ofQ (n') p' q' X (by omega) (by omega)) ?_;refine jk (fun X hX hF=>tJ _ _ 1000000 1000000 _ _ X (iI n p q hp hq (by omega) X) (iI n' p' q' hp' hq' (by omega) X) (by omega)) ?_;intro v10;refine cC (by rfl) (fun X hX hF=>⟨_,_,iK (by rfl) X,⟨X.heap.size,rfl,hX.size,Blk.new rfl⟩,bL X _⟩) ?_;intro v5;simp only [pX];refine aJ ?_;intro X1 hX1 hF;have hv10:=hF _ _ (List.mem_cons_of_mem _ List.mem_cons_self);have hv5:=hF _ _ List.mem_cons_self;obtain ⟨hB0,hB1⟩:=bl2 hX1 hB0 hB1;have hb:=aI hb hX1;clear hF hX1
 obtain ⟨s,t,u,rfl,k1,k2,k3,k4⟩:=hv10;obtain ⟨g5,rfl,hg5,hD⟩:=hv5;have hlt:=hB1.lt;refine osb 102 5 10 g5 102 hD [.bool s,vS (be t),vS (be u)] bS ?_;intro w5 hR5 hO5 hB5 hs5;have hW0:=hbW;have hb:=hB5 _ _ hb (by omega);clear hD hB0 hB1 hO5 hB5;have hD:=hR5;clear hR5;have HK2:=Lib.hid k2;clear k2
 have HE:Hid (be t=[]):=be_nil.2 (by
  have h9:=HK2.out;rw [HXY.out,sub_zero_iff.2 rfl,Rat.mkRat_eq_zero (by omega),nW] at h9
  exact h9)
 go_upto_region 2 with fail;refine jp ?_;refine jnf hD 1 aG ?_;refine jv (.bool true) (bH _ _ _ _ (by rfl) (be t) ([]:List UInt8) (by rfl) (by rfl) true (iY HE.out)) ?_;refine jm (.bool true) ?_;refine jzb hb fun X2 hX2 hb=>?_;have hD:=hD.bel hX2
 go_wp2
 go_ret
 exact ⟨by rw [HC.out];rfl,hb⟩
theorem cmpL (n:Bool) (p q:List UInt8) (n':Bool) (p' q':List UInt8) (w:World) (hp:p.length≤1000000) (hq:q.length≤1000000) (hp':p'.length≤1000000) (hq':q'.length≤1000000) (h:(rq n p q)≠(rq n' p' q')) (hl:(rq n p q)<(rq n' p' q')):Calls Tryz.prog 24 #[.agg #[.bool n,vS p,vS q],.agg #[.bool n',vS p',vS q']] w fun e w'=>e=.returned (vI (kE (rq n p q) (rq n' p' q')))∧Since w w':=by
 have HC:Hid (kE (rq n p q) (rq n' p' q')=-1):=by show _=_;unfold kE;rw [if_neg h,if_pos hl]
 have HNE:Hid ((rq n p q)≠(rq n' p' q')):=h;have HLT:Hid ((rq n p q)<(rq n' p' q')):=hl;clear h hl
 go_enter Tryz.func24,Tryz.ntmps24
 go_upto_region 1 with fail;obtain ⟨W0,hW0,hB0,hB1,hb⟩:=cV w 40 40 [.bool n,vS p,vS q] [.bool n',vS p',vS q'];rw [← hW0];clear hW0;have hbW:=hb.size;refine bD [none,none,none,none,some (IsF ((rq n p q)-(rq n' p' q')) 2000001),some (NewB 102 W0.heap.size)] (by kernel_rfl) (by kernel_rfl) (by kernel_rfl) rfl (aB (aB (aB (aB (aD (IsF.lasts _ _) (aD (NewB.lasts _ _) (aH))))))) ?_;simp only [its,List.dropLast,Nat.zero_add,Nat.reduceAdd];refine ja hB0 Tryz.underlying40 (by rfl) aC ?_;refine jc (rt (rN (rq n p q)) (be (rq n p q).num.natAbs) (be (rq n p q).den)) (fun X hX hF=>ofQ n p q X (by omega) (by omega)) ?_;refine ja hB1 Tryz.underlying40 (by rfl) aC ?_;refine jc (rt (rN (rq (n') p' q')) (be (rq (n') p' q').num.natAbs) (be (rq (n') p' q').den)) (fun X hX hF=>ofQ (n') p' q' X (by omega) (by omega)) ?_;refine jk (fun X hX hF=>tJ _ _ 1000000 1000000 _ _ X (iI n p q hp hq (by omega) X) (iI n' p' q' hp' hq' (by omega) X) (by omega)) ?_;intro v10;refine cC (by rfl) (fun X hX hF=>⟨_,_,iK (by rfl) X,⟨X.heap.size,rfl,hX.size,Blk.new rfl⟩,bL X _⟩) ?_;intro v5;simp only [pX];refine aJ ?_;intro X1 hX1 hF;have hv10:=hF _ _ (List.mem_cons_of_mem _ List.mem_cons_self);have hv5:=hF _ _ List.mem_cons_self;obtain ⟨hB0,hB1⟩:=bl2 hX1 hB0 hB1;have hb:=aI hb hX1;clear hF hX1
 obtain ⟨s,t,u,rfl,k1,k2,k3,k4⟩:=hv10;obtain ⟨g5,rfl,hg5,hD⟩:=hv5;have hlt:=hB1.lt;refine osb 102 5 10 g5 102 hD [.bool s,vS (be t),vS (be u)] bS ?_;intro w5 hR5 hO5 hB5 hs5;have hW0:=hbW;have hb:=hB5 _ _ hb (by omega);clear hD hB0 hB1 hO5 hB5;have hD:=hR5;clear hR5;have HK2:=Lib.hid k2;clear k2
 have ht0:0<t:=by
  rcases Nat.eq_zero_or_pos t with h9|h9
  ·exfalso
   have h8:=HK2.out;rw [h9,iR] at h8;exact HNE.out (sub_zero_iff.1 h8.symm)
  ·exact h9
 have HE:Hid (be t≠[]):=pR ht0
 have hs:s=true:=by
  have h8:=qVc s ht0 k1;rw [HK2.out,wE] at h8
  rcases s with _|_
  ·exact absurd (h8.1 HLT.out) (by decide)
  ·rfl
 subst hs;go_upto_region 2 with fail;refine jp ?_;refine jnf hD 1 aG ?_;refine jv (.bool false) (bH _ _ _ _ (by rfl) (be t) ([]:List UInt8) (by rfl) (by rfl) false (dJ HE.out)) ?_;refine jm (.bool false) ?_;refine jzb hb fun X2 hX2 hb=>?_;have hD:=hD.bel hX2;go_upto_region 4 with fail;refine jp ?_;refine jnf hD 0 aS ?_;refine jm (.bool true) ?_;refine jzb hb fun X3 hX3 hb=>?_;have hD:=hD.bel hX3
 go_wp2
 go_ret
 exact ⟨by rw [HC.out];rfl,hb⟩
theorem cmpG (n:Bool) (p q:List UInt8) (n':Bool) (p' q':List UInt8) (w:World) (hp:p.length≤1000000) (hq:q.length≤1000000) (hp':p'.length≤1000000) (hq':q'.length≤1000000) (h:(rq n p q)≠(rq n' p' q')) (hl:¬ (rq n p q)<(rq n' p' q')):Calls Tryz.prog 24 #[.agg #[.bool n,vS p,vS q],.agg #[.bool n',vS p',vS q']] w fun e w'=>e=.returned (vI (kE (rq n p q) (rq n' p' q')))∧Since w w':=by
 have HC:Hid (kE (rq n p q) (rq n' p' q')=1):=by show _=_;unfold kE;rw [if_neg h,if_neg hl]
 have HNE:Hid ((rq n p q)≠(rq n' p' q')):=h;have HLT:Hid (¬ (rq n p q)<(rq n' p' q')):=hl;clear h hl
 go_enter Tryz.func24,Tryz.ntmps24
 go_upto_region 1 with fail;obtain ⟨W0,hW0,hB0,hB1,hb⟩:=cV w 40 40 [.bool n,vS p,vS q] [.bool n',vS p',vS q'];rw [← hW0];clear hW0;have hbW:=hb.size;refine bD [none,none,none,none,some (IsF ((rq n p q)-(rq n' p' q')) 2000001),some (NewB 102 W0.heap.size)] (by kernel_rfl) (by kernel_rfl) (by kernel_rfl) rfl (aB (aB (aB (aB (aD (IsF.lasts _ _) (aD (NewB.lasts _ _) (aH))))))) ?_;simp only [its,List.dropLast,Nat.zero_add,Nat.reduceAdd];refine ja hB0 Tryz.underlying40 (by rfl) aC ?_;refine jc (rt (rN (rq n p q)) (be (rq n p q).num.natAbs) (be (rq n p q).den)) (fun X hX hF=>ofQ n p q X (by omega) (by omega)) ?_;refine ja hB1 Tryz.underlying40 (by rfl) aC ?_;refine jc (rt (rN (rq (n') p' q')) (be (rq (n') p' q').num.natAbs) (be (rq (n') p' q').den)) (fun X hX hF=>ofQ (n') p' q' X (by omega) (by omega)) ?_;refine jk (fun X hX hF=>tJ _ _ 1000000 1000000 _ _ X (iI n p q hp hq (by omega) X) (iI n' p' q' hp' hq' (by omega) X) (by omega)) ?_;intro v10;refine cC (by rfl) (fun X hX hF=>⟨_,_,iK (by rfl) X,⟨X.heap.size,rfl,hX.size,Blk.new rfl⟩,bL X _⟩) ?_;intro v5;simp only [pX];refine aJ ?_;intro X1 hX1 hF;have hv10:=hF _ _ (List.mem_cons_of_mem _ List.mem_cons_self);have hv5:=hF _ _ List.mem_cons_self;obtain ⟨hB0,hB1⟩:=bl2 hX1 hB0 hB1;have hb:=aI hb hX1;clear hF hX1
 obtain ⟨s,t,u,rfl,k1,k2,k3,k4⟩:=hv10;obtain ⟨g5,rfl,hg5,hD⟩:=hv5;have hlt:=hB1.lt;refine osb 102 5 10 g5 102 hD [.bool s,vS (be t),vS (be u)] bS ?_;intro w5 hR5 hO5 hB5 hs5;have hW0:=hbW;have hb:=hB5 _ _ hb (by omega);clear hD hB0 hB1 hO5 hB5;have hD:=hR5;clear hR5;have HK2:=Lib.hid k2;clear k2
 have ht0:0<t:=by
  rcases Nat.eq_zero_or_pos t with h9|h9
  ·exfalso
   have h8:=HK2.out;rw [h9,iR] at h8;exact HNE.out (sub_zero_iff.1 h8.symm)
  ·exact h9
 have HE:Hid (be t≠[]):=pR ht0
 have hs:s=false:=by
  have h8:=qVc s ht0 k1;rw [HK2.out,wE] at h8
  rcases s with _|_
  ·rfl
  ·exact absurd (h8.2 rfl) HLT.out
 subst hs;go_upto_region 2 with fail;refine jp ?_;refine jnf hD 1 aG ?_;refine jv (.bool false) (bH _ _ _ _ (by rfl) (be t) ([]:List UInt8) (by rfl) (by rfl) false (dJ HE.out)) ?_;refine jm (.bool false) ?_;refine jzb hb fun X2 hX2 hb=>?_;have hD:=hD.bel hX2;go_upto_region 4 with fail;refine jp ?_;refine jnf hD 0 aS ?_;refine jm (.bool false) ?_;refine jzb hb fun X3 hX3 hb=>?_;have hD:=hD.bel hX3
 go_wp2
 go_ret
 exact ⟨by rw [HC.out];rfl,hb⟩
theorem cmpQ (n:Bool) (p q:List UInt8) (n':Bool) (p' q':List UInt8) (w:World) (hp:p.length≤1000000) (hq:q.length≤1000000) (hp':p'.length≤1000000) (hq':q'.length≤1000000):Calls Tryz.prog 24 #[.agg #[.bool n,vS p,vS q],.agg #[.bool n',vS p',vS q']] w fun e w'=>e=.returned (vI (kE (rq n p q) (rq n' p' q')))∧Since w w':=by
 by_cases h:(rq n p q)=(rq n' p' q')
 ·exact cmpE n p q n' p' q' w hp hq hp' hq' h
 ·by_cases hl:(rq n p q)<(rq n' p' q')
  ·exact cmpL n p q n' p' q' w hp hq hp' hq' h hl
  ·exact cmpG n p q n' p' q' w hp hq hp' hq' h hl
theorem lenP (n:Bool) (p q:List UInt8) {B:Nat} (hp:p.length≤B) (hq:q.length≤B) (h1:1≤B):(be (rq n p q).num.natAbs).length≤B:=by
 show (rP (rq n p q)).length≤B
 rcases hv:vd n p q with _|_
 ·rw [oE hv]
  exact Nat.zero_le _
 ·rw [(oF hv).2.1]
  exact hp
theorem lenD (n:Bool) (p q:List UInt8) {B:Nat} (hp:p.length≤B) (hq:q.length≤B) (h1:1≤B):(be (rq n p q).den).length≤B:=by
 obtain ⟨s,t,u,h2,h3,h4,h5,h6⟩:=iI n p q hp hq h1 default
 injection h2 with h2
 have h7:=congrArg (fun a:Array Value=>a.toList) h2;simp only [List.cons.injEq,Value.string.injEq,ByteArray.mk.injEq,List.toArray_inj,and_true] at h7;rw [show be (rq n p q).den=be u from congrArg Array.toList h7.2.2];exact h6
abbrev Tr:=Bool×List UInt8×List UInt8
def trq (t:Tr):Rat:=rq t.1 t.2.1 t.2.2
def trc (t:Tr):List Value:=[.bool t.1,vS t.2.1,vS t.2.2]
theorem cW {P:Program} {f:Operand→Value} {o:Oper} (T:TypeId) (x:Operand) (ho:o.op=.load T x) (b off:Nat) (hx:f x=vP b off) {d:TypeDesc} (hu:P.underlying T=some d)
  (hag:(match d with|.struct _|.array _ _=>true|_=>false)=true) (cs:List Value) (X:World) (hc:Cl X b off cs) (hi:(P.info? T).map (·.size)=some cs.length):(execOp f o).run P X=.ok (.value (.agg cs.toArray)) X:=by
 unfold execOp
 simp only [ho,hx,Instr.loadAt,Instr.sureAddr,Sem.run_bind,Sem.run_pure,Result.andThen_ok,cP T d b off cs hc hu hag hi]
theorem vB {x:Rat} {B:Nat} {v:Value} {X:World} (h:IsF x B v X):(be x.num.natAbs).length≤B∧(be x.den).length≤B:=by
 obtain ⟨n,p,d,_,hd,rfl,hp,hq⟩:=h;rw [mA n p hd,rV n p hd,oP];exact ⟨gC (Nat.div_le_self _ _) hp,gC (Nat.div_le_self _ _) hq⟩
def szR (x:Rat) (B:Nat):Prop:=(be x.num.natAbs).length≤B∧(be x.den).length≤B
theorem wD {x y:Rat} {B B':Nat} (hx:szR x B) (hy:szR y B'):szR (x+y) (B+B'+1):=by
 have key:=vW (rN x) (rN y) x.num.natAbs y.num.natAbs (Nat.pos_of_ne_zero x.den_nz) (Nat.pos_of_ne_zero y.den_nz);rw [lV,lV] at key;have lpe:=bW hx.1 hy.2;have lqd:=bW hy.1 hx.2;have lde:=bW hx.2 hy.2;have lsum:=gK lpe lqd;have hde:=Nat.mul_pos (Nat.pos_of_ne_zero x.den_nz) (Nat.pos_of_ne_zero y.den_nz)
 have l1:(be (x.num.natAbs * y.den+y.num.natAbs * x.den)).length≤B+B'+1:=by omega
 have mk:∀ (s:Bool) (t:Nat),(be t).length≤B+B'+1→sg (rN x) (x.num.natAbs * y.den)+sg (rN y) (y.num.natAbs * x.den)=sg s t→szR (x+y) (B+B'+1):=fun s t ht hs=>by
  rw [key,hs];exact vB (X:=default) ⟨s,t,x.den * y.den,rfl,hde,rfl,ht,by omega⟩
 have l2:=gC (Nat.sub_le (x.num.natAbs * y.den) (y.num.natAbs * x.den)) lpe;have l3:=gC (Nat.sub_le (y.num.natAbs * x.den) (x.num.natAbs * y.den)) lqd
 by_cases hm:rN x=rN y
 ·exact mk (rN y) _ l1 (by rw [hm];exact fV _ _ _)
 ·rcases Nat.lt_or_ge (x.num.natAbs * y.den) (y.num.natAbs * x.den) with h|h
  ·exact mk _ _ (by omega) (iN hm h)
  ·exact mk _ _ (by omega) (iO hm h)
theorem qYk {x y:Rat} {B B':Nat} (hx:szR x B) (hy:szR y B'):szR (x * y) (B+B'):=by
 have key:=uS (rN x) (rN y) x.num.natAbs y.num.natAbs x.den y.den;rw [lV,lV] at key;rw [key];exact vB (X:=default) ⟨_,_,x.den * y.den,rfl,Nat.mul_pos (Nat.pos_of_ne_zero x.den_nz) (Nat.pos_of_ne_zero y.den_nz),rfl,bW hx.1 hy.1,bW hx.2 hy.2⟩
theorem lR {x:Rat} {B:Nat} (hx:szR x B):szR (-x) B:=by
 unfold szR
 rw [Rat.neg_num,Int.natAbs_neg,Rat.neg_den];exact hx
theorem vVw (n:Bool) (p q:List UInt8) {B:Nat} (hp:p.length≤B) (hq:q.length≤B) (h1:1≤B):szR (rq n p q) B:=⟨lenP n p q hp hq h1,lenD n p q hp hq h1⟩
theorem szR_zero:szR 0 1:=⟨by decide,by rw [show (0:Rat).den=1 from rfl,be_one];decide⟩
theorem szR.mono {x:Rat} {B B':Nat} (h:szR x B) (hb:B≤B'):szR x B':=⟨Nat.le_trans h.1 hb,Nat.le_trans h.2 hb⟩
theorem szR.rP {x:Rat} {B:Nat} (h:szR x B):(rP x).length≤B:=h.1
theorem szR.rD {x:Rat} {B:Nat} (h:szR x B):(rD x).length≤B:=by
 unfold Go.Proofs.YtjkfchehkpmhkaaGreatDoor.rD
 split
 ·exact Nat.zero_le _
 ·exact h.2
end Go.Proofs.YtjkfchehkpmhkaaGreatDoor

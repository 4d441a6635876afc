/- Drawn regions with a store of a whole struct among other ope -/
import Derived.Test.YtjkfchehkpmhkaaGreatDoorQfr
set_option linter.unusedSimpArgs false
set_option linter.unusedVariables false
set_option maxRecDepth 100000
set_option maxHeartbeats 1600000
namespace Go.Proofs.YtjkfchehkpmhkaaGreatDoor
open Go.RowKit
theorem tJ (x y:Rat) (B B':Nat) (v v':Value) (w:World) (h:IsF x B v w) (h':IsF y B' v' w) (hB:B+B'≤4194200):Calls Tryz.prog 57 #[v,v'] w fun e w'=>∃ u,e=.returned u∧IsF (x-y) (B+B'+1) u w'∧Since w w':=by
 obtain ⟨m,p,d,rfl,hd,hx,hp,hq⟩:=h;obtain ⟨n,q,c,rfl,hc,hy,hp',hq'⟩:=h'
 have HI1:Hid (∀ X,IsF x B (.agg #[.bool m,vS (be p),vS (be d)]) X):=fun X=>⟨m,p,d,rfl,hd,hx,hp,hq⟩
 have HI2:Hid (∀ X,IsF (-y) B' (.agg #[.bool (!n),vS (be q),vS (be c)]) X):=fun X=>⟨!n,q,c,rfl,hc,by rw [← vXu,hy],hp',hq'⟩
 clear hx hy
 go_enter Tryz.func57,Tryz.ntmps57
 go_upto_region 1 with fail;obtain ⟨W0,hW0,hB0,hB1,hB2,hb⟩:=dO w 102 102 102 [.bool m,vS (be p),vS (be d)] [.bool n,vS (be q),vS (be c)] [.bool false,.string ⟨#[]⟩,.string ⟨#[]⟩];rw [← hW0];clear hW0;refine jq 4 ?_;refine jnf hB1 0 aS ?_;refine jv (.bool (!n)) (qXe _ _ (by rfl) n (by rfl)) ?_;refine jn (vP (w.heap.size+1) 0) ?_;refine bE hb hB0 hB1 hB2 fun X1 hX1 hb hB0 hB1 hB2=>?_;refine fN rfl (w.heap.size+1) 0 102 _ hB1 (.bool (!n)) (by simp) (fun X u h1 h2=>eI _ _ (by rfl) _ _ (by rfl) (by rfl) u X h1 h2) ?_;intro w5 hR5 hO5 hB5;have hb:=hB5 _ _ hb (by omega);have hB0:=hO5 _ _ _ (by omega) hB0;have hB2:=hO5 _ _ _ (by omega) hB2;have hB1:=hR5;clear hR5 hO5 hB5;go_upto_region 2 with fail;refine bM 3 [none,none,some (IsF (x+-y) (B+B'+1))] (aB (aB (aD (IsF.lasts _ _) (aH)))) ?_;simp only [its,List.take,List.drop,Nat.zero_add,Nat.reduceAdd];refine ja hB0 Tryz.underlying102 (by rfl) bS ?_;refine ja hB1 Tryz.underlying102 (by rfl) bS ?_;refine jk (fun X hX hF=>vQp _ _ B B' _ _ X (HI1.out X) (HI2.out X) hB) ?_;intro v11;refine aJ ?_;intro X2 hX2 hF;have hv11:=hF _ _ List.mem_cons_self;obtain ⟨hB0,hB1,hB2⟩:=bl3 hX2 hB0 hB1 hB2;have hb:=aI hb hX2;clear hF hX2;obtain ⟨s,t,u,rfl,k1,k2,k3,k4⟩:=hv11;refine osb 102 4 11 (w.heap.size+2) 102 hB2 [.bool s,vS (be t),vS (be u)] bS ?_
 intro w9 hR9 hO9 hB9 hs9;have hb9:=hB9 _ _ hb (by omega);clear hO9 hB9
 go_wp2
 refine aU rfl rfl (by rfl) Tryz.underlying102 rfl hR9 bS ⟨_,rfl,⟨s,t,u,rfl,k1,by rw [k2,Rat.sub_eq_add_neg],k3,k4⟩,hb9⟩
theorem nS (p d q c B B':Nat) (w:World) (hp:(be p).length≤B) (hq:(be d).length≤B) (hp':(be q).length≤B') (hq':(be c).length≤B') (hB:B+B'≤4194200):Calls Tryz.prog 100 #[.agg #[.bool true,vS (be p),vS (be d)],.agg #[.bool true,vS (be q),vS (be c)]] w fun e w'=>e=.returned (.agg #[.bool false,vS (be (p * q)),vS (be (d * c))])∧Since w w':=by
 have lpq:=bW hp hp';have ldc:=bW hq hq'
 go_enter Tryz.func100,Tryz.ntmps100
 go_upto_region 1 with fail;obtain ⟨W0,hW0,hB0,hB1,hB2,hb⟩:=dO w 102 102 102 [.bool true,vS (be p),vS (be d)] [.bool true,vS (be q),vS (be c)] [.bool false,.string ⟨#[]⟩,.string ⟨#[]⟩];rw [← hW0];clear hW0;refine bD [] (by kernel_rfl) (by kernel_rfl) (by kernel_rfl) rfl (aH) ?_;simp only [its,List.dropLast,Nat.zero_add,Nat.reduceAdd];refine jnf hB0 0 aS ?_;refine jnf hB1 0 aS ?_;refine jm (.bool false) ?_;refine jnf hB0 1 aG ?_;refine jnf hB1 1 aG ?_;refine jc (st (be (p * q))) (fun X hX hF=>mo (eF (be p) (be q) X (by omega) (by omega)) (by rw [aM,aM])) ?_;refine jnf hB0 2 aG ?_;refine jnf hB1 2 aG ?_;refine jc (st (be (d * c))) (fun X hX hF=>mo (eF (be d) (be c) X (by omega) (by omega)) (by rw [aM,aM])) ?_;refine jn (rt false (be (p * q)) (be (d * c))) ?_;refine bE hb hB0 hB1 hB2 fun X1 hX1 hb hB0 hB1 hB2=>?_;refine osb 102 4 20 (w.heap.size+2) 102 hB2 [.bool false,vS (be (p * q)),vS (be (d * c))] bS ?_;intro w9 hR9 hO9 hB9 hs9;have hb9:=hB9 _ _ hb (by omega);clear hO9 hB9
 go_wp2
 refine aU rfl rfl (by rfl) Tryz.underlying102 rfl hR9 bS ⟨rfl,hb9⟩
theorem mT (p d q c B B':Nat) (w:World) (hp:(be p).length≤B) (hq:(be d).length≤B) (hp':(be q).length≤B') (hq':(be c).length≤B') (hB:B+B'≤4194200):Calls Tryz.prog 100 #[.agg #[.bool true,vS (be p),vS (be d)],.agg #[.bool false,vS (be q),vS (be c)]] w fun e w'=>e=.returned (.agg #[.bool true,vS (be (p * q)),vS (be (d * c))])∧Since w w':=by
 have lpq:=bW hp hp';have ldc:=bW hq hq'
 go_enter Tryz.func100,Tryz.ntmps100
 go_upto_region 1 with fail;obtain ⟨W0,hW0,hB0,hB1,hB2,hb⟩:=dO w 102 102 102 [.bool true,vS (be p),vS (be d)] [.bool false,vS (be q),vS (be c)] [.bool false,.string ⟨#[]⟩,.string ⟨#[]⟩];rw [← hW0];clear hW0;refine bD [] (by kernel_rfl) (by kernel_rfl) (by kernel_rfl) rfl (aH) ?_;simp only [its,List.dropLast,Nat.zero_add,Nat.reduceAdd];refine jnf hB0 0 aS ?_;refine jnf hB1 0 aS ?_;refine jm (.bool true) ?_;refine jnf hB0 1 aG ?_;refine jnf hB1 1 aG ?_;refine jc (st (be (p * q))) (fun X hX hF=>mo (eF (be p) (be q) X (by omega) (by omega)) (by rw [aM,aM])) ?_;refine jnf hB0 2 aG ?_;refine jnf hB1 2 aG ?_;refine jc (st (be (d * c))) (fun X hX hF=>mo (eF (be d) (be c) X (by omega) (by omega)) (by rw [aM,aM])) ?_;refine jn (rt true (be (p * q)) (be (d * c))) ?_;refine bE hb hB0 hB1 hB2 fun X1 hX1 hb hB0 hB1 hB2=>?_;refine osb 102 4 20 (w.heap.size+2) 102 hB2 [.bool true,vS (be (p * q)),vS (be (d * c))] bS ?_;intro w9 hR9 hO9 hB9 hs9;have hb9:=hB9 _ _ hb (by omega);clear hO9 hB9
 go_wp2
 refine aU rfl rfl (by rfl) Tryz.underlying102 rfl hR9 bS ⟨rfl,hb9⟩
theorem mU (p d q c B B':Nat) (w:World) (hp:(be p).length≤B) (hq:(be d).length≤B) (hp':(be q).length≤B') (hq':(be c).length≤B') (hB:B+B'≤4194200):Calls Tryz.prog 100 #[.agg #[.bool false,vS (be p),vS (be d)],.agg #[.bool true,vS (be q),vS (be c)]] w fun e w'=>e=.returned (.agg #[.bool true,vS (be (p * q)),vS (be (d * c))])∧Since w w':=by
 have lpq:=bW hp hp';have ldc:=bW hq hq'
 go_enter Tryz.func100,Tryz.ntmps100
 go_upto_region 1 with fail;obtain ⟨W0,hW0,hB0,hB1,hB2,hb⟩:=dO w 102 102 102 [.bool false,vS (be p),vS (be d)] [.bool true,vS (be q),vS (be c)] [.bool false,.string ⟨#[]⟩,.string ⟨#[]⟩];rw [← hW0];clear hW0;refine bD [] (by kernel_rfl) (by kernel_rfl) (by kernel_rfl) rfl (aH) ?_;simp only [its,List.dropLast,Nat.zero_add,Nat.reduceAdd];refine jnf hB0 0 aS ?_;refine jnf hB1 0 aS ?_;refine jm (.bool true) ?_;refine jnf hB0 1 aG ?_;refine jnf hB1 1 aG ?_;refine jc (st (be (p * q))) (fun X hX hF=>mo (eF (be p) (be q) X (by omega) (by omega)) (by rw [aM,aM])) ?_;refine jnf hB0 2 aG ?_;refine jnf hB1 2 aG ?_;refine jc (st (be (d * c))) (fun X hX hF=>mo (eF (be d) (be c) X (by omega) (by omega)) (by rw [aM,aM])) ?_;refine jn (rt true (be (p * q)) (be (d * c))) ?_;refine bE hb hB0 hB1 hB2 fun X1 hX1 hb hB0 hB1 hB2=>?_;refine osb 102 4 20 (w.heap.size+2) 102 hB2 [.bool true,vS (be (p * q)),vS (be (d * c))] bS ?_;intro w9 hR9 hO9 hB9 hs9;have hb9:=hB9 _ _ hb (by omega);clear hO9 hB9
 go_wp2
 refine aU rfl rfl (by rfl) Tryz.underlying102 rfl hR9 bS ⟨rfl,hb9⟩
theorem lO (p d q c B B':Nat) (w:World) (hp:(be p).length≤B) (hq:(be d).length≤B) (hp':(be q).length≤B') (hq':(be c).length≤B') (hB:B+B'≤4194200):Calls Tryz.prog 100 #[.agg #[.bool false,vS (be p),vS (be d)],.agg #[.bool false,vS (be q),vS (be c)]] w fun e w'=>e=.returned (.agg #[.bool false,vS (be (p * q)),vS (be (d * c))])∧Since w w':=by
 have lpq:=bW hp hp';have ldc:=bW hq hq'
 go_enter Tryz.func100,Tryz.ntmps100
 go_upto_region 1 with fail;obtain ⟨W0,hW0,hB0,hB1,hB2,hb⟩:=dO w 102 102 102 [.bool false,vS (be p),vS (be d)] [.bool false,vS (be q),vS (be c)] [.bool false,.string ⟨#[]⟩,.string ⟨#[]⟩];rw [← hW0];clear hW0;refine bD [] (by kernel_rfl) (by kernel_rfl) (by kernel_rfl) rfl (aH) ?_;simp only [its,List.dropLast,Nat.zero_add,Nat.reduceAdd];refine jnf hB0 0 aS ?_;refine jnf hB1 0 aS ?_;refine jm (.bool false) ?_;refine jnf hB0 1 aG ?_;refine jnf hB1 1 aG ?_;refine jc (st (be (p * q))) (fun X hX hF=>mo (eF (be p) (be q) X (by omega) (by omega)) (by rw [aM,aM])) ?_;refine jnf hB0 2 aG ?_;refine jnf hB1 2 aG ?_;refine jc (st (be (d * c))) (fun X hX hF=>mo (eF (be d) (be c) X (by omega) (by omega)) (by rw [aM,aM])) ?_;refine jn (rt false (be (p * q)) (be (d * c))) ?_;refine bE hb hB0 hB1 hB2 fun X1 hX1 hb hB0 hB1 hB2=>?_;refine osb 102 4 20 (w.heap.size+2) 102 hB2 [.bool false,vS (be (p * q)),vS (be (d * c))] bS ?_;intro w9 hR9 hO9 hB9 hs9;have hb9:=hB9 _ _ hb (by omega);clear hO9 hB9
 go_wp2
 refine aU rfl rfl (by rfl) Tryz.underlying102 rfl hR9 bS ⟨rfl,hb9⟩
theorem vVu (x y:Rat) (B B':Nat) (v v':Value) (w:World) (h:IsF x B v w) (h':IsF y B' v' w) (hB:B+B'≤4194200):Calls Tryz.prog 100 #[v,v'] w fun e w'=>∃ u,e=.returned u∧IsF (x * y) (B+B') u w'∧Since w w':=by
 obtain ⟨m,p,d,rfl,hd,rfl,hp,hq⟩:=h;obtain ⟨n,q,c,rfl,hc,rfl,hp',hq'⟩:=h';have lpq:=bW hp hp';have ldc:=bW hq hq';have key:=uS m n p q d c
 have fin:Calls Tryz.prog 100 #[fv m p d,fv n q c] w (fun e' w'=>e'=.returned (fv (m != n) (p * q) (d * c))∧Since w w') →
   Calls Tryz.prog 100 #[fv m p d,fv n q c] w fun e' w'=>∃ u,e'=.returned u∧IsF (mkRat (sg m p) d * mkRat (sg n q) c) (B+B') u w'∧Since w w' :=
  fun hc'=>hc'.mono fun e' w' ⟨h1,h2⟩=>⟨_,h1,⟨_,_,_,rfl,Nat.mul_pos hd hc,key.symm,lpq,ldc⟩,h2⟩
 rcases m with _|_ <;> rcases n with _|_
 ·exact fin (lO p d q c B B' w hp hq hp' hq' hB)
 ·exact fin (mU p d q c B B' w hp hq hp' hq' hB)
 ·exact fin (mT p d q c B B' w hp hq hp' hq' hB)
 ·exact fin (nS p d q c B B' w hp hq hp' hq' hB)
theorem overQ (x y:Rat) (B B':Nat) (v v':Value) (w:World) (h:IsF x B v w) (h':IsF y B' v' w) (hB:B+B'≤4194200) (h0:y≠0):Calls Tryz.prog 82 #[v,v'] w fun e w'=>∃ u,e=.returned u∧IsF (x / y) (B+B') u w'∧Since w w':=by
 obtain ⟨m,p,d,rfl,hd,hx,hp,hq⟩:=h;obtain ⟨n,q,c,rfl,hc,hy,hp',hq'⟩:=h'
 have hq0:0<q:=by
  rcases Nat.eq_zero_or_pos q with h9|h9
  ·rw [h9,iR] at hy
   exact absurd hy.symm h0
  ·exact h9
 have HI1:Hid (∀ X,IsF x B (.agg #[.bool m,vS (be p),vS (be d)]) X):=fun X=>⟨m,p,d,rfl,hd,hx,hp,hq⟩
 have HI2:Hid (∀ X,IsF (y⁻¹) B' (.agg #[.bool n,vS (be c),vS (be q)]) X):=fun X=>⟨n,c,q,rfl,hq0,by rw [← hy,qVu n hq0 hc],hq',hp'⟩
 clear hx hy h0
 go_enter Tryz.func82,Tryz.ntmps82
 go_upto_region 1 with fail;obtain ⟨W0,hW0,hB0,hB1,hB2,hb⟩:=dO w 102 102 102 [.bool m,vS (be p),vS (be d)] [.bool n,vS (be q),vS (be c)] [.bool false,.string ⟨#[]⟩,.string ⟨#[]⟩];rw [← hW0];clear hW0;refine bM 9 [none,none,none,none,none,none,none,none,some (IsF (x * y⁻¹) (B+B'))] (aB (aB (aB (aB (aB (aB (aB (aB (aD (IsF.lasts _ _) (aH)))))))))) ?_;simp only [its,List.take,List.drop,Nat.zero_add,Nat.reduceAdd];refine ja hB0 Tryz.underlying102 (by rfl) bS ?_;refine jnf hB1 0 aS ?_;refine jnf hB1 2 aG ?_;refine jnf hB1 1 aG ?_;refine jn (rt n (be c) (be q)) ?_;refine jk (fun X hX hF=>vVu _ _ B B' _ _ X (HI1.out X) (HI2.out X) hB) ?_;intro v13;refine aJ ?_;intro X1 hX1 hF;have hv13:=hF _ _ List.mem_cons_self;obtain ⟨hB0,hB1,hB2⟩:=bl3 hX1 hB0 hB1 hB2;have hb:=aI hb hX1;clear hF hX1;obtain ⟨s,t,u,rfl,k1,k2,k3,k4⟩:=hv13;refine osb 102 4 13 (w.heap.size+2) 102 hB2 [.bool s,vS (be t),vS (be u)] bS ?_;intro w9 hR9 hO9 hB9 hs9;have hb9:=hB9 _ _ hb (by omega);clear hO9 hB9
 go_wp2
 refine aU rfl rfl (by rfl) Tryz.underlying102 rfl hR9 bS ⟨_,rfl,⟨s,t,u,rfl,k1,by rw [k2,Rat.div_def],k3,k4⟩,hb9⟩
theorem iI (n:Bool) (p q:List UInt8) {B:Nat} (hp:p.length≤B) (hq:q.length≤B) (h1:1≤B) (X:World):IsF (rq n p q) B (.agg #[.bool (rN (rq n p q)),vS (be (rq n p q).num.natAbs),vS (be (rq n p q).den)]) X:=by
 refine ⟨_,_,_,rfl,Nat.pos_of_ne_zero (rq n p q).den_nz,lV _,?_,?_⟩
 ·rcases hv:vd n p q with _|_
  ·rw [oE hv]
   exact Nat.zero_le _
  ·exact (show (rP (rq n p q)).length≤B by rw [(oF hv).2.1];exact hp)
 ·have hone:(be (0:Rat).den).length≤B:=by rw [show (0:Rat).den=1 from rfl,be_one];exact h1
  rcases hv:vd n p q with _|_
  ·rw [oE hv]
   exact hone
  ·by_cases h0:p=[]
   ·have h9:rq n p q=0:=by
     subst h0
     unfold vd at hv
     rw [if_pos (.inl rfl)] at hv;simp only [Bool.and_eq_true,Bool.not_eq_true',beq_iff_eq] at hv;obtain ⟨⟨rfl,_⟩,rfl⟩:=hv;exact lU
    rw [h9];exact hone
   ·rw [(oF hv).2.2.2 h0]
    exact hq
theorem doQ (F0:FuncId) (recv:Value) (n:Bool) (p q:List UInt8) (z:Rat) (B B':Nat) (w:World) (hp:p.length≤B) (hq:q.length≤B) (h1:1≤B) (hB:B≤4194300) (hB':B'≤4194300) (hf:∀ (v:Value) (X:World),(callFunc F0 #[recv,v]).run Tryz.prog X=.ok (.enter F0 #[recv,v]) X)
  (hop:∀ (v:Value) (X:World),IsF (rq n p q) B v X→Calls Tryz.prog F0 #[recv,v] X fun e X'=>∃ u,e=.returned u∧IsF z B' u X'∧Since X X'):Calls Tryz.prog 66 #[(.func (.func F0) #[recv] #[]),.agg #[.bool n,vS p,vS q]] w fun e w'=>e=.returned (.agg #[.bool (rN z),vS (rP z),vS (rD z)])∧Since w w':=by
 have HOP:=Lib.hid hop;clear hop
 go_enter Tryz.func66,Tryz.ntmps66
 go_upto_region 1 with fail;obtain ⟨W0,hW0,hB0,hB1,hb⟩:=cV w 40 40 [.bool n,vS p,vS q] [.bool false,.string ⟨#[]⟩,.string ⟨#[]⟩];rw [← hW0];clear hW0;refine bM 5 [none,none,none,some (IsF z B')] (aB (aB (aB (aD (IsF.lasts _ _) (aH))))) ?_;simp only [its,List.take,List.drop,Nat.zero_add,Nat.reduceAdd];refine jm ((.func (.func F0) #[recv] #[])) ?_;refine ja hB0 Tryz.underlying40 (by rfl) aC ?_;refine jc (rt (rN (rq n p q)) (be (rq n p q).num.natAbs) (be (rq n p q).den)) (fun X hX hF=>ofQ n p q X (by omega) (by omega)) ?_;refine qVf (by rfl) _ _ _ (by rfl) F0 [recv] (by rfl) [.agg #[.bool (rN (rq n p q)),vS (be (rq n p q).num.natAbs),vS (be (rq n p q).den)]] (by rfl) (fun X=>hf _ X) (fun X hX hF=>HOP.out _ X (iI n p q hp hq h1 X)) ?_;intro v8;simp only [pX];refine jc (rt (rN z) (rP z) (rD z)) (fun X hX hF=>vYb z B' v8 X (hF _ _ List.mem_cons_self rfl) (by omega)) ?_;refine aJ ?_;intro X1 hX1 hF;have hv8:=hF _ _ List.mem_cons_self;obtain ⟨hB0,hB1⟩:=bl2 hX1 hB0 hB1;have hb:=aI hb hX1;clear hF hX1;refine osb 40 4 9 (w.heap.size+1) 40 hB1 [.bool (rN z),vS (rP z),vS (rD z)] aC ?_;intro w9 hR9 hO9 hB9 hs9;have hb9:=hB9 _ _ hb (by omega);clear hO9 hB9
 go_wp2
 refine aU rfl rfl (by rfl) Tryz.underlying40 rfl hR9 aC ⟨rfl,hb9⟩
def gB (n:Int):Bool:=decide (-999999999999999≤n∧n≤999999999999999)
theorem rX {n:Int} (h:gB n=true):-999999999999999≤n∧n≤999999999999999:=by unfold gB at h;exact of_decide_eq_true h
theorem ins0 (n:Int) (w:World) (h:n < -999999999999999):Calls Tryz.prog 52 #[vI n] w fun e w'=>e=.returned (.bool (gB n))∧Since w w':=by
 have HI:Hid (gB n=false):=by unfold gB;exact decide_eq_false (by omega)
 go_enter Tryz.func52,Tryz.ntmps52
 go_upto_region 1 with fail;refine jp ?_;refine jm (vI n) ?_;refine fW n (-999999999999999) (by omega) ?_;refine jm (.bool false) ?_;refine jss ?_;refine jmm (.bool false) (.bool false) ?_;refine jz fun X1 hX1=>?_;have hb:Below w.heap.size w X1:=hX1
 go_wp2
 go_ret
 exact ⟨by rw [HI.out];rfl,hb⟩
theorem ins1 (n:Int) (w:World) (h:999999999999999<n):Calls Tryz.prog 52 #[vI n] w fun e w'=>e=.returned (.bool (gB n))∧Since w w':=by
 have HI:Hid (gB n=false):=by unfold gB;exact decide_eq_false (by omega)
 go_enter Tryz.func52,Tryz.ntmps52
 go_upto_region 1 with fail;refine jp ?_;refine jm (vI n) ?_;refine iS n (-999999999999999) (by omega) ?_;refine jmm (.bool true) (vI n) ?_;refine jW n 999999999999999 (by omega) ?_;refine jmm (.bool false) (.bool false) ?_;refine jz fun X1 hX1=>?_;have hb:Below w.heap.size w X1:=hX1
 go_wp2
 go_ret
 exact ⟨by rw [HI.out];rfl,hb⟩
theorem ins2 (n:Int) (w:World) (h1:-999999999999999≤n) (h2:n≤999999999999999):Calls Tryz.prog 52 #[vI n] w fun e w'=>e=.returned (.bool (gB n))∧Since w w':=by
 have HI:Hid (gB n=true):=by unfold gB;exact decide_eq_true (by omega)
 go_enter Tryz.func52,Tryz.ntmps52
 go_upto_region 1 with fail;refine jp ?_;refine jm (vI n) ?_;refine iS n (-999999999999999) (by omega) ?_;refine jmm (.bool true) (vI n) ?_;refine nT n 999999999999999 (by omega) ?_;refine jmm (.bool true) (.bool true) ?_;refine jz fun X1 hX1=>?_;have hb:Below w.heap.size w X1:=hX1
 go_wp2
 go_ret
 exact ⟨by rw [HI.out];rfl,hb⟩
theorem vYk (n:Int) (w:World):Calls Tryz.prog 52 #[vI n] w fun e w'=>e=.returned (.bool (gB n))∧Since w w':=by
 by_cases h1:n < -999999999999999
 ·exact ins0 n w h1
 ·by_cases h2:999999999999999<n
  ·exact ins1 n w h2
  ·exact ins2 n w (by omega) (by omega)
theorem qVv (n:Int) (w:World) (hn:gB n=true) (h:n<0):Calls Tryz.prog 53 #[vI n] w fun e w'=>e=.returned (.agg #[.bool true,vS (be n.natAbs),vS ([1]:List UInt8)])∧Since w w':=by
 have hnn:=rX hn
 go_enter Tryz.func53,Tryz.ntmps53
 go_upto_region 1 with fail;obtain ⟨W0,hW0,hB0,hb⟩:=aT w 102 [.bool false,.string ⟨#[]⟩,.string ⟨#[]⟩];rw [← hW0];clear hW0;refine jp ?_;refine jmm (vI n) (vI n) ?_;refine jv (vI (-n)) (mJ _ _ (by rfl) n (-n) (by rfl) rfl (by omega) (by omega)) ?_;refine jv (vI ((n.natAbs:Nat):Int)) (dH _ _ (by rfl) .i64 n (-n) ((n.natAbs:Nat):Int) (by rfl) (by rfl) (by omega)) ?_;refine jc (.tuple #[st (be n.natAbs),vI 0]) (fun X hX hF=>vQr n.natAbs X (by omega)) ?_;refine aX (.tuple #[st (be n.natAbs),vI 0]) (st (be n.natAbs)) (vI 0) ?_;refine jmm (st (be n.natAbs)) (vI 0) ?_;refine aQ hb hB0 fun X1 hX1 hb hB0=>?_;go_upto_region 2 with fail;refine jq 4 ?_;refine jm (vI n) ?_;refine cE n 0 (by omega) ?_;refine jmn (st (be n.natAbs)) (rt true (be n.natAbs) ([1]:List UInt8)) ?_;refine aQ hb hB0 fun X2 hX2 hb hB0=>?_;refine osb 102 2 16 w.heap.size 102 hB0 [.bool true,vS (be n.natAbs),vS ([1]:List UInt8)] bS ?_;intro w9 hR9 hO9 hB9 hs9;have hb9:=hB9 _ _ hb (by omega);clear hO9 hB9
 go_wp2
 refine aU rfl rfl (by rfl) Tryz.underlying102 rfl hR9 bS ⟨rfl,hb9⟩
theorem yU (n:Int) (w:World) (hn:gB n=true) (h:0≤n):Calls Tryz.prog 53 #[vI n] w fun e w'=>e=.returned (.agg #[.bool false,vS (be n.natAbs),vS ([1]:List UInt8)])∧Since w w':=by
 have hnn:=rX hn
 go_enter Tryz.func53,Tryz.ntmps53
 go_upto_region 1 with fail;obtain ⟨W0,hW0,hB0,hb⟩:=aT w 102 [.bool false,.string ⟨#[]⟩,.string ⟨#[]⟩];rw [← hW0];clear hW0;refine jp ?_;refine jmm (vI n) (vI n) ?_;refine jv (vI (-n)) (mJ _ _ (by rfl) n (-n) (by rfl) rfl (by omega) (by omega)) ?_;refine jv (vI ((n.natAbs:Nat):Int)) (dH _ _ (by rfl) .i64 n (-n) ((n.natAbs:Nat):Int) (by rfl) (by rfl) (by omega)) ?_;refine jc (.tuple #[st (be n.natAbs),vI 0]) (fun X hX hF=>vQr n.natAbs X (by omega)) ?_;refine aX (.tuple #[st (be n.natAbs),vI 0]) (st (be n.natAbs)) (vI 0) ?_;refine jmm (st (be n.natAbs)) (vI 0) ?_;refine aQ hb hB0 fun X1 hX1 hb hB0=>?_;go_upto_region 2 with fail;refine jq 4 ?_;refine jm (vI n) ?_;refine bI n 0 (by omega) ?_;refine jmn (st (be n.natAbs)) (rt false (be n.natAbs) ([1]:List UInt8)) ?_;refine aQ hb hB0 fun X2 hX2 hb hB0=>?_;refine osb 102 2 16 w.heap.size 102 hB0 [.bool false,vS (be n.natAbs),vS ([1]:List UInt8)] bS ?_;intro w9 hR9 hO9 hB9 hs9;have hb9:=hB9 _ _ hb (by omega);clear hO9 hB9
 go_wp2
 refine aU rfl rfl (by rfl) Tryz.underlying102 rfl hR9 bS ⟨rfl,hb9⟩
theorem vXy (n:Int):mkRat (sg (decide (n<0)) n.natAbs) 1=(n:Rat):=by
 have h:sg (decide (n<0)) n.natAbs=n:=by
  by_cases h:n<0
  ·rw [decide_eq_true h];simp [sg];omega
  ·rw [decide_eq_false h];simp [sg];omega
 rw [h];exact Rat.mkRat_one n
theorem vYj (n:Int) (w:World) (hn:gB n=true):Calls Tryz.prog 53 #[vI n] w fun e w'=>∃ u,e=.returned u∧IsF (n:Rat) 8 u w'∧Since w w':=by
 have hnn:=rX hn;have hl:(be n.natAbs).length≤8:=lJ (by omega);have key:=vXy n
 by_cases h:n<0
 ·rw [decide_eq_true h] at key
  exact (qVv n w hn h).mono fun e' w' ⟨h1,h2⟩=>⟨_,h1,⟨true,n.natAbs,1,(vC _ _).symm,by omega,key,hl,by rw [be_one];decide⟩,h2⟩
 ·rw [decide_eq_false h] at key
  exact (yU n w hn (by omega)).mono fun e' w' ⟨h1,h2⟩=>⟨_,h1,⟨false,n.natAbs,1,(vC _ _).symm,by omega,key,hl,by rw [be_one];decide⟩,h2⟩
theorem makeC (m n:Int) (w:World) (hm:gB m=true) (hn:gB n=true) (h0:n≠0):Calls Tryz.prog 55 #[vI m,vI n] w fun e w'=>e=.returned (.tuple #[.agg #[.bool (rN ((m:Rat) / (n:Rat))),.string ⟨(rP ((m:Rat) / (n:Rat))).toArray⟩,.string ⟨(rD ((m:Rat) / (n:Rat))).toArray⟩],vI 0])∧Since w w':=by
 have HM:Hid (gB m=true):=hm;have HN:Hid (gB n=true):=hn
 have HN0:Hid ((n:Rat)≠0):=fun h9=>h0 (by exact_mod_cast h9)
 have h9:n<0∨0<n:=by omega
 clear hm hn h0
 go_enter Tryz.func55,Tryz.ntmps55
 go_upto_region 1 with fail;obtain ⟨W0,hW0,hB0,hb⟩:=aT w 40 [.bool false,.string ⟨#[]⟩,.string ⟨#[]⟩];rw [← hW0];clear hW0;refine jp ?_;refine jm (vI m) ?_;refine jc (.bool true) (fun X hX hF=>mo (vYk m X) (by rw [HM.out])) ?_;refine aX (.bool false) (.bool false) (vI n) ?_;refine jc (.bool true) (fun X hX hF=>mo (vYk n X) (by rw [HN.out])) ?_;refine jmm (.bool false) (.bool false) ?_;refine aQ hb hB0 fun X1 hX1 hb hB0=>?_;go_upto_region 3 with fail;refine jp ?_;refine jm (vI n) ?_;refine dN n 0 (by omega) ?_;refine aQ hb hB0 fun X2 hX2 hb hB0=>?_;go_upto_region 5 with fail;refine bM 6 [none,some (IsF (m:Rat) 8),none,some (IsF (n:Rat) 8),some (IsF ((m:Rat) / (n:Rat)) (8+8))] (aB (aD (IsF.lasts _ _) (aB (aD (IsF.lasts _ _) (aD (IsF.lasts _ _) (aH)))))) ?_;simp only [its,List.take,List.drop,Nat.zero_add,Nat.reduceAdd];refine jm (vI m) ?_;refine jk (fun X hX hF=>vYj m X HM.out) ?_;intro v19;refine jm (vI n) ?_;refine jk (fun X hX hF=>vYj n X HN.out) ?_;intro v21;refine jk (fun X hX hF=>overQ _ _ 8 8 _ _ X (hF _ _ (List.mem_cons_of_mem _ List.mem_cons_self) rfl) (hF _ _ List.mem_cons_self rfl) (by omega) HN0.out) ?_;intro v22;refine jc (rt (rN ((m:Rat) / (n:Rat))) (rP ((m:Rat) / (n:Rat))) (rD ((m:Rat) / (n:Rat)))) (fun X hX hF=>vYb _ _ v22 X (hF _ _ List.mem_cons_self rfl) (by omega)) ?_;refine aJ ?_;intro X3 hX3 hF;have hv19:=hF _ _ (List.mem_cons_of_mem _ (List.mem_cons_of_mem _ List.mem_cons_self))
 have hv21:=hF _ _ (List.mem_cons_of_mem _ List.mem_cons_self);have hv22:=hF _ _ List.mem_cons_self;have hB0:=hB0.bel hX3;have hb:=aI hb hX3;clear hF hX3;refine osb 40 4 23 w.heap.size 40 hB0 [.bool (rN ((m:Rat) / (n:Rat))),.string ⟨(rP ((m:Rat) / (n:Rat))).toArray⟩,.string ⟨(rD ((m:Rat) / (n:Rat))).toArray⟩] aC ?_;intro w9 hR9 hO9 hB9 hs9;have hb9:=hB9 _ _ hb (by omega);clear hO9 hB9
 go_wp2
 refine bQ (v:=vI 0) rfl rfl (by rfl) (by rfl) Tryz.underlying40 rfl hR9 aC ⟨rfl,hb9⟩
theorem qL (n:Int) (w:World) (hn:gB n=true):Calls Tryz.prog 22 #[vI n] w fun e w'=>e=.returned (rbv (n:Rat))∧Since w w':=by
 have HN:Hid (gB n=true):=hn;clear hn
 go_enter Tryz.func22,Tryz.ntmps22
 go_upto_region 1 with fail;obtain ⟨W0,hW0,hB0,hb⟩:=aT w 40 [.bool false,.string ⟨#[]⟩,.string ⟨#[]⟩];rw [← hW0];clear hW0;refine jp ?_;refine jm (vI n) ?_;refine jc (.bool true) (fun X hX hF=>mo (vYk n X) (by rw [HN.out])) ?_;refine jm (.bool false) ?_;refine aQ hb hB0 fun X1 hX1 hb hB0=>?_;go_upto_region 3 with fail;refine bM 3 [none,some (IsF (n:Rat) 8)] (aB (aD (IsF.lasts _ _) (aH))) ?_;simp only [its,List.take,List.drop,Nat.zero_add,Nat.reduceAdd];refine jm (vI n) ?_;refine jk (fun X hX hF=>vYj n X HN.out) ?_;intro v8;refine jc (rt (rN (n:Rat)) (rP (n:Rat)) (rD (n:Rat))) (fun X hX hF=>vYb _ _ v8 X (hF _ _ List.mem_cons_self rfl) (by omega)) ?_;refine aJ ?_;intro X2 hX2 hF;have hv8:=hF _ _ List.mem_cons_self;have hB0:=hB0.bel hX2;have hb:=aI hb hX2;clear hF hX2;refine osb 40 2 9 w.heap.size 40 hB0 [.bool (rN (n:Rat)),vS (rP (n:Rat)),vS (rD (n:Rat))] aC ?_;intro w9 hR9 hO9 hB9 hs9;have hb9:=hB9 _ _ hb (by omega);clear hO9 hB9
 go_wp2
 refine aU rfl rfl (by rfl) Tryz.underlying40 rfl hR9 aC ⟨rfl,hb9⟩
theorem qVt (X:World):IsF 0 1 (.agg #[.bool false,vS ([]:List UInt8),vS ([1]:List UInt8)]) X:=⟨false,0,1,(vC false 0).symm,by omega,iR false 1,by decide,by rw [be_one];decide⟩
theorem negQ (n:Bool) (p q:List UInt8) (w:World) (hp:p.length≤1000000) (hq:q.length≤1000000):Calls Tryz.prog 38 #[.agg #[.bool n,vS p,vS q]] w fun e w'=>e=.returned (rbv (-(rq n p q)))∧Since w w':=by
 go_enter Tryz.func38,Tryz.ntmps38
 go_upto_region 1 with fail;obtain ⟨W0,hW0,hB0,hB1,hb⟩:=cV w 40 40 [.bool n,vS p,vS q] [.bool false,.string ⟨#[]⟩,.string ⟨#[]⟩];rw [← hW0];clear hW0;refine jq 4 ?_;refine jn (rt false [] ([1]:List UInt8)) ?_;refine jv (.func (.func 57) #[rt false [] ([1]:List UInt8)] #[]) (mK _ _ (by rfl) _ (by rfl)) ?_;refine ja hB0 Tryz.underlying40 (by rfl) aC ?_;refine jc (rt (rN (-(rq n p q))) (rP (-(rq n p q))) (rD (-(rq n p q)))) (fun X hX hF=>doQ 57 (.agg #[.bool false,vS ([]:List UInt8),vS ([1]:List UInt8)]) n p q (-(rq n p q)) 1000000 1000002 X hp hq (by omega) (by omega) (by omega) (fun v X=>by go_simp) (fun v X hv=>(tJ 0 _ 1 1000000 _ v X (qVt X) hv (by omega)).mono fun e X' ⟨u,h1,h2,h3⟩=>⟨u,h1,by rw [Rat.sub_eq_add_neg,Rat.zero_add] at h2;exact h2,h3⟩)) ?_;refine aN hb hB0 hB1 fun X1 hX1 hb hB0 hB1=>?_;refine osb 40 2 6 (w.heap.size+1) 40 hB1 [.bool (rN (-(rq n p q))),.string ⟨(rP (-(rq n p q))).toArray⟩,.string ⟨(rD (-(rq n p q))).toArray⟩] aC ?_;intro w9 hR9 hO9 hB9 hs9;have hb9:=hB9 _ _ hb (by omega);clear hO9 hB9
 go_wp2
 refine aU rfl rfl (by rfl) Tryz.underlying40 rfl hR9 aC ⟨rfl,hb9⟩
theorem addQ (n:Bool) (p q:List UInt8) (n':Bool) (p' q':List UInt8) (w:World) (hp:p.length≤1000000) (hq:q.length≤1000000) (hp':p'.length≤1000000) (hq':q'.length≤1000000):Calls Tryz.prog 50 #[.agg #[.bool n,vS p,vS q],.agg #[.bool n',vS p',vS q']] w fun e w'=>e=.returned (rbv ((rq n p q)+(rq n' p' q')))∧Since w w':=by
 go_enter Tryz.func50,Tryz.ntmps50
 go_upto_region 1 with fail;obtain ⟨W0,hW0,hB0,hB1,hB2,hb⟩:=dO w 40 40 40 [.bool n,vS p,vS q] [.bool n',vS p',vS q'] [.bool false,.string ⟨#[]⟩,.string ⟨#[]⟩];rw [← hW0];clear hW0;refine bD [] (by kernel_rfl) (by kernel_rfl) (by kernel_rfl) rfl (aH) ?_;simp only [its,List.dropLast,Nat.zero_add,Nat.reduceAdd];refine ja hB0 Tryz.underlying40 (by rfl) aC ?_;refine jc (rt (rN (rq n p q)) (be (rq n p q).num.natAbs) (be (rq n p q).den)) (fun X hX hF=>ofQ n p q X (by omega) (by omega)) ?_;refine jv (.func (.func 78) #[rt (rN (rq n p q)) (be (rq n p q).num.natAbs) (be (rq n p q).den)] #[]) (mK _ _ (by rfl) _ (by rfl)) ?_;refine ja hB1 Tryz.underlying40 (by rfl) aC ?_;refine jc (rt (rN ((rq n p q)+(rq n' p' q'))) (rP ((rq n p q)+(rq n' p' q'))) (rD ((rq n p q)+(rq n' p' q')))) (fun X hX hF=>doQ 78 (.agg #[.bool (rN (rq n p q)),vS (be (rq n p q).num.natAbs),vS (be (rq n p q).den)]) n' p' q' ((rq n p q)+(rq n' p' q')) 1000000 2000001 X hp' hq' (by omega) (by omega) (by omega) (fun v X=>by go_simp) (fun v X hv=>vQp _ _ 1000000 1000000 _ v X (iI n p q hp hq (by omega) X) hv (by omega))) ?_;refine bE hb hB0 hB1 hB2 fun X1 hX1 hb hB0 hB1 hB2=>?_;refine osb 40 4 9 (w.heap.size+2) 40 hB2 [.bool (rN ((rq n p q)+(rq n' p' q'))),.string ⟨(rP ((rq n p q)+(rq n' p' q'))).toArray⟩,.string ⟨(rD ((rq n p q)+(rq n' p' q'))).toArray⟩] aC ?_
 intro w9 hR9 hO9 hB9 hs9;have hb9:=hB9 _ _ hb (by omega);clear hO9 hB9
 go_wp2
 refine aU rfl rfl (by rfl) Tryz.underlying40 rfl hR9 aC ⟨rfl,hb9⟩
theorem subQ (n:Bool) (p q:List UInt8) (n':Bool) (p' q':List UInt8) (w:World) (hp:p.length≤1000000) (hq:q.length≤1000000) (hp':p'.length≤1000000) (hq':q'.length≤1000000):Calls Tryz.prog 36 #[.agg #[.bool n,vS p,vS q],.agg #[.bool n',vS p',vS q']] w fun e w'=>e=.returned (rbv ((rq n p q)-(rq n' p' q')))∧Since w w':=by
 go_enter Tryz.func36,Tryz.ntmps36
 go_upto_region 1 with fail;obtain ⟨W0,hW0,hB0,hB1,hB2,hb⟩:=dO w 40 40 40 [.bool n,vS p,vS q] [.bool n',vS p',vS q'] [.bool false,.string ⟨#[]⟩,.string ⟨#[]⟩];rw [← hW0];clear hW0;refine bD [] (by kernel_rfl) (by kernel_rfl) (by kernel_rfl) rfl (aH) ?_;simp only [its,List.dropLast,Nat.zero_add,Nat.reduceAdd];refine ja hB0 Tryz.underlying40 (by rfl) aC ?_;refine jc (rt (rN (rq n p q)) (be (rq n p q).num.natAbs) (be (rq n p q).den)) (fun X hX hF=>ofQ n p q X (by omega) (by omega)) ?_;refine jv (.func (.func 57) #[rt (rN (rq n p q)) (be (rq n p q).num.natAbs) (be (rq n p q).den)] #[]) (mK _ _ (by rfl) _ (by rfl)) ?_;refine ja hB1 Tryz.underlying40 (by rfl) aC ?_;refine jc (rt (rN ((rq n p q)-(rq n' p' q'))) (rP ((rq n p q)-(rq n' p' q'))) (rD ((rq n p q)-(rq n' p' q')))) (fun X hX hF=>doQ 57 (.agg #[.bool (rN (rq n p q)),vS (be (rq n p q).num.natAbs),vS (be (rq n p q).den)]) n' p' q' ((rq n p q)-(rq n' p' q')) 1000000 2000001 X hp' hq' (by omega) (by omega) (by omega) (fun v X=>by go_simp) (fun v X hv=>tJ _ _ 1000000 1000000 _ v X (iI n p q hp hq (by omega) X) hv (by omega))) ?_;refine bE hb hB0 hB1 hB2 fun X1 hX1 hb hB0 hB1 hB2=>?_;refine osb 40 4 9 (w.heap.size+2) 40 hB2 [.bool (rN ((rq n p q)-(rq n' p' q'))),.string ⟨(rP ((rq n p q)-(rq n' p' q'))).toArray⟩,.string ⟨(rD ((rq n p q)-(rq n' p' q'))).toArray⟩] aC ?_
 intro w9 hR9 hO9 hB9 hs9;have hb9:=hB9 _ _ hb (by omega);clear hO9 hB9
 go_wp2
 refine aU rfl rfl (by rfl) Tryz.underlying40 rfl hR9 aC ⟨rfl,hb9⟩
section
variable {P:Program} {l:List Oper} {ops:Array Oper} {w:World} {Q:Act→World→Prop} {pre:Nat→Nat→Bool} {a:Act} {k:Nat} {o:Oper} {rest:List (Nat×Oper×cJ)} {Fs:List (Nat×(World→Prop))}
theorem yL {g:Nat} {t:TypeId} {xs ys:List Value} (hw:Region.wanted o (yielded ops a.tmps)=true) (ty:TypeId) (x y:Operand) (ho:o.op=.store ty x y) (hdst:o.dst=none) (hx:a.eval x=vP g 0) (hy:a.eval y=.agg ys.toArray)
  (hB:Blk w g t xs) (hl:ys.length=xs.length) (h1:∀ v∈ys,v.oneCell'=true) (hi:(P.info? ty).map (·.size)=some ys.length) (h:bO P ops (Turns g t xs ys) w Q pre rest ((k,fun X=>Blk X g t ys) :: Fs) a) :
  bO P ops (Turns g t xs ys) w Q pre ((k,o,some (fun _ X=>Blk X g t ys)) :: rest) Fs a:=by
 refine ⟨?_⟩
 unfold CertR
 rw [if_pos hw];refine ⟨fun X hX _=>?_,fun _=>by rw [hdst];exact h.out⟩
 have key:∀ zs,Blk X g t zs→zs.length=ys.length→eN P o a X (fun u X'=>Blk X' g t ys∧Turns g t xs ys X X'):=fun zs hz hlz=>by
  have hr:=fM (P:=P) ty g t zs.toArray ys.toArray hz (by simp [hlz]) (by simpa using h1) (by simpa using hi);have h9:Blk (X.setRow g ys.toArray) g t ys:=setRow_heap X g zs.toArray ys.toArray t (0,0) hz
  unfold eN execOp
  simp only [ho,hx,hy,Instr.storeAt,Instr.sureAddr,Sem.run_bind,Sem.run_pure,Result.andThen_ok,hr];exact ⟨h9,eT X g ys.toArray,fun _=>.inr h9,fun _=>h9⟩
 rcases hX.2.1 hB with hq|hq
 ·exact key xs hq hl.symm
 ·exact key ys hq rfl
end
end Go.Proofs.YtjkfchehkpmhkaaGreatDoor

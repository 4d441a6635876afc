/- rat: Make, Int, Neg, Add, Sub, Mul, Div. -/
import Derived.Test.YtnfpenhldlfafaaGreatDoorQfr
set_option linter.unusedSimpArgs false
set_option linter.unusedVariables false
set_option maxRecDepth 100000
set_option maxHeartbeats 1600000
namespace Go.Proofs.YtnfpenhldlfafaaGreatDoor
open Go.RowKit
theorem xA (x y:Rat) (B B':Nat) (v v':Value) (w:World) (h:IsF x B v w) (h':IsF y B' v' w) (hB:B+B'≤4194200):Calls Tryz.prog 71 #[v,v'] w fun e w'=>∃ u,e=.returned u∧IsF (x-y) (B+B'+1) u w'∧Since w w':=by
 obtain ⟨m,p,d,rfl,hd,hx,hp,hq⟩:=h;obtain ⟨n,q,c,rfl,hc,hy,hp',hq'⟩:=h'
 have HI1:Hid (∀ X,IsF x B (.agg #[.bool m,vS (be p),vS (be d)]) X):=fun X=>⟨m,p,d,rfl,hd,hx,hp,hq⟩
 have HI2:Hid (∀ X,IsF (-y) B' (.agg #[.bool (!n),vS (be q),vS (be c)]) X):=fun X=>⟨!n,q,c,rfl,hc,by rw [← vYf,hy],hp',hq'⟩
 clear hx hy
 go_enter Tryz.func71,Tryz.ntmps71
 go_upto_region 1 with fail;obtain ⟨W0,hW0,hB0,hB1,hB2,hb⟩:=bN w 93 93 93 [.bool m,vS (be p),vS (be d)] [.bool n,vS (be q),vS (be c)] zA;rw [← hW0];clear hW0;refine jq 4 ?_;refine jnf hB1 0 aS ?_;refine jv (.bool (!n)) (qXg _ _ (by rfl) n (by rfl)) ?_;refine jn (vP (w.heap.size+1) 0) ?_;refine aX hb hB0 hB1 hB2 fun X1 hX1 hb hB0 hB1 hB2=>?_;refine gV rfl (w.heap.size+1) 0 93 _ hB1 (.bool (!n)) (by simp) (fun X u h1 h2=>kI _ _ (by rfl) _ _ (by rfl) (by rfl) u X h1 h2) ?_;intro w5 hR5 hO5 hB5;have hb:=hB5 _ _ hb (by omega);obtain ⟨hB0,hB2⟩:=og2 hO5 hB0 hB2;have hB1:=hR5;clear hR5 hO5 hB5;go_upto_region 2 with fail;refine bA 3 [none,none,some (IsF (x+-y) (B+B'+1))] (aA (aA (aE (IsF.lasts _ _) (aG)))) ?_;simp only [its,List.take,List.drop,Nat.zero_add,Nat.reduceAdd];refine ja hB0 G93 (by rfl) bY ?_;refine ja hB1 G93 (by rfl) bY ?_;refine jk (fun X hX hF=>vQl _ _ B B' _ _ X (HI1.out X) (HI2.out X) hB) ?_;intro v11;refine aI ?_;intro X2 hX2 hF;have hv11:=hF _ _ zE;obtain ⟨hB0,hB1,hB2⟩:=bl3 hX2 hB0 hB1 hB2;have hb:=aF hb hX2;clear hF hX2;obtain ⟨s,t,u,rfl,k1,k2,k3,k4⟩:=hv11;refine osb 93 4 11 (w.heap.size+2) 93 hB2 [.bool s,vS (be t),vS (be u)] bY ?_
 intro w9 hR9 hO9 hB9 hs9;have hb9:=hB9 _ _ hb (by omega);clear hO9 hB9
 go_wp2
 refine aK rfl rfl (by rfl) G93 rfl hR9 bY ⟨_,rfl,⟨s,t,u,rfl,k1,by rw [k2,Rat.sub_eq_add_neg],k3,k4⟩,hb9⟩
theorem nR (p d q c B B':Nat) (w:World) (hp:(be p).length≤B) (hq:(be d).length≤B) (hp':(be q).length≤B') (hq':(be c).length≤B') (hB:B+B'≤4194200):Calls Tryz.prog 85 #[.agg #[.bool true,vS (be p),vS (be d)],.agg #[.bool true,vS (be q),vS (be c)]] w fun e w'=>e=.returned (.agg #[.bool false,vS (be (p * q)),vS (be (d * c))])∧Since w w':=by
 have lpq:=bS hp hp';have ldc:=bS hq hq'
 go_enter Tryz.func85,Tryz.ntmps85
 go_upto_region 1 with fail;obtain ⟨W0,hW0,hB0,hB1,hB2,hb⟩:=bN w 93 93 93 [.bool true,vS (be p),vS (be d)] [.bool true,vS (be q),vS (be c)] zA;rw [← hW0];clear hW0;refine aN [] (by kernel_rfl) (by kernel_rfl) (by kernel_rfl) rfl (aG) ?_;simp only [its,List.dropLast,Nat.zero_add,Nat.reduceAdd];refine jnf hB0 0 aS ?_;refine jnf hB1 0 aS ?_;refine jm (.bool false) ?_;refine jnf hB0 1 aH ?_;refine jnf hB1 1 aH ?_;refine jc (st (be (p * q))) (fun X hX hF=>mo (eH (be p) (be q) X (by omega) (by omega)) (by rw [aL,aL])) ?_;refine jnf hB0 2 aH ?_;refine jnf hB1 2 aH ?_;refine jc (st (be (d * c))) (fun X hX hF=>mo (eH (be d) (be c) X (by omega) (by omega)) (by rw [aL,aL])) ?_;refine jn (rt false (be (p * q)) (be (d * c))) ?_;refine aX hb hB0 hB1 hB2 fun X1 hX1 hb hB0 hB1 hB2=>?_;refine osb 93 4 20 (w.heap.size+2) 93 hB2 [.bool false,vS (be (p * q)),vS (be (d * c))] bY ?_;intro w9 hR9 hO9 hB9 hs9;have hb9:=hB9 _ _ hb (by omega);clear hO9 hB9
 go_wp2
 refine aK rfl rfl (by rfl) G93 rfl hR9 bY ⟨rfl,hb9⟩
theorem mN (p d q c B B':Nat) (w:World) (hp:(be p).length≤B) (hq:(be d).length≤B) (hp':(be q).length≤B') (hq':(be c).length≤B') (hB:B+B'≤4194200):Calls Tryz.prog 85 #[.agg #[.bool true,vS (be p),vS (be d)],.agg #[.bool false,vS (be q),vS (be c)]] w fun e w'=>e=.returned (.agg #[.bool true,vS (be (p * q)),vS (be (d * c))])∧Since w w':=by
 have lpq:=bS hp hp';have ldc:=bS hq hq'
 go_enter Tryz.func85,Tryz.ntmps85
 go_upto_region 1 with fail;obtain ⟨W0,hW0,hB0,hB1,hB2,hb⟩:=bN w 93 93 93 [.bool true,vS (be p),vS (be d)] [.bool false,vS (be q),vS (be c)] zA;rw [← hW0];clear hW0;refine aN [] (by kernel_rfl) (by kernel_rfl) (by kernel_rfl) rfl (aG) ?_;simp only [its,List.dropLast,Nat.zero_add,Nat.reduceAdd];refine jnf hB0 0 aS ?_;refine jnf hB1 0 aS ?_;refine jm (.bool true) ?_;refine jnf hB0 1 aH ?_;refine jnf hB1 1 aH ?_;refine jc (st (be (p * q))) (fun X hX hF=>mo (eH (be p) (be q) X (by omega) (by omega)) (by rw [aL,aL])) ?_;refine jnf hB0 2 aH ?_;refine jnf hB1 2 aH ?_;refine jc (st (be (d * c))) (fun X hX hF=>mo (eH (be d) (be c) X (by omega) (by omega)) (by rw [aL,aL])) ?_;refine jn (rt true (be (p * q)) (be (d * c))) ?_;refine aX hb hB0 hB1 hB2 fun X1 hX1 hb hB0 hB1 hB2=>?_;refine osb 93 4 20 (w.heap.size+2) 93 hB2 [.bool true,vS (be (p * q)),vS (be (d * c))] bY ?_;intro w9 hR9 hO9 hB9 hs9;have hb9:=hB9 _ _ hb (by omega);clear hO9 hB9
 go_wp2
 refine aK rfl rfl (by rfl) G93 rfl hR9 bY ⟨rfl,hb9⟩
theorem mO (p d q c B B':Nat) (w:World) (hp:(be p).length≤B) (hq:(be d).length≤B) (hp':(be q).length≤B') (hq':(be c).length≤B') (hB:B+B'≤4194200):Calls Tryz.prog 85 #[.agg #[.bool false,vS (be p),vS (be d)],.agg #[.bool true,vS (be q),vS (be c)]] w fun e w'=>e=.returned (.agg #[.bool true,vS (be (p * q)),vS (be (d * c))])∧Since w w':=by
 have lpq:=bS hp hp';have ldc:=bS hq hq'
 go_enter Tryz.func85,Tryz.ntmps85
 go_upto_region 1 with fail;obtain ⟨W0,hW0,hB0,hB1,hB2,hb⟩:=bN w 93 93 93 [.bool false,vS (be p),vS (be d)] [.bool true,vS (be q),vS (be c)] zA;rw [← hW0];clear hW0;refine aN [] (by kernel_rfl) (by kernel_rfl) (by kernel_rfl) rfl (aG) ?_;simp only [its,List.dropLast,Nat.zero_add,Nat.reduceAdd];refine jnf hB0 0 aS ?_;refine jnf hB1 0 aS ?_;refine jm (.bool true) ?_;refine jnf hB0 1 aH ?_;refine jnf hB1 1 aH ?_;refine jc (st (be (p * q))) (fun X hX hF=>mo (eH (be p) (be q) X (by omega) (by omega)) (by rw [aL,aL])) ?_;refine jnf hB0 2 aH ?_;refine jnf hB1 2 aH ?_;refine jc (st (be (d * c))) (fun X hX hF=>mo (eH (be d) (be c) X (by omega) (by omega)) (by rw [aL,aL])) ?_;refine jn (rt true (be (p * q)) (be (d * c))) ?_;refine aX hb hB0 hB1 hB2 fun X1 hX1 hb hB0 hB1 hB2=>?_;refine osb 93 4 20 (w.heap.size+2) 93 hB2 [.bool true,vS (be (p * q)),vS (be (d * c))] bY ?_;intro w9 hR9 hO9 hB9 hs9;have hb9:=hB9 _ _ hb (by omega);clear hO9 hB9
 go_wp2
 refine aK rfl rfl (by rfl) G93 rfl hR9 bY ⟨rfl,hb9⟩
theorem lS (p d q c B B':Nat) (w:World) (hp:(be p).length≤B) (hq:(be d).length≤B) (hp':(be q).length≤B') (hq':(be c).length≤B') (hB:B+B'≤4194200):Calls Tryz.prog 85 #[.agg #[.bool false,vS (be p),vS (be d)],.agg #[.bool false,vS (be q),vS (be c)]] w fun e w'=>e=.returned (.agg #[.bool false,vS (be (p * q)),vS (be (d * c))])∧Since w w':=by
 have lpq:=bS hp hp';have ldc:=bS hq hq'
 go_enter Tryz.func85,Tryz.ntmps85
 go_upto_region 1 with fail;obtain ⟨W0,hW0,hB0,hB1,hB2,hb⟩:=bN w 93 93 93 [.bool false,vS (be p),vS (be d)] [.bool false,vS (be q),vS (be c)] zA;rw [← hW0];clear hW0;refine aN [] (by kernel_rfl) (by kernel_rfl) (by kernel_rfl) rfl (aG) ?_;simp only [its,List.dropLast,Nat.zero_add,Nat.reduceAdd];refine jnf hB0 0 aS ?_;refine jnf hB1 0 aS ?_;refine jm (.bool false) ?_;refine jnf hB0 1 aH ?_;refine jnf hB1 1 aH ?_;refine jc (st (be (p * q))) (fun X hX hF=>mo (eH (be p) (be q) X (by omega) (by omega)) (by rw [aL,aL])) ?_;refine jnf hB0 2 aH ?_;refine jnf hB1 2 aH ?_;refine jc (st (be (d * c))) (fun X hX hF=>mo (eH (be d) (be c) X (by omega) (by omega)) (by rw [aL,aL])) ?_;refine jn (rt false (be (p * q)) (be (d * c))) ?_;refine aX hb hB0 hB1 hB2 fun X1 hX1 hb hB0 hB1 hB2=>?_;refine osb 93 4 20 (w.heap.size+2) 93 hB2 [.bool false,vS (be (p * q)),vS (be (d * c))] bY ?_;intro w9 hR9 hO9 hB9 hs9;have hb9:=hB9 _ _ hb (by omega);clear hO9 hB9
 go_wp2
 refine aK rfl rfl (by rfl) G93 rfl hR9 bY ⟨rfl,hb9⟩
theorem zR (x y:Rat) (B B':Nat) (v v':Value) (w:World) (h:IsF x B v w) (h':IsF y B' v' w) (hB:B+B'≤4194200):Calls Tryz.prog 85 #[v,v'] w fun e w'=>∃ u,e=.returned u∧IsF (x * y) (B+B') u w'∧Since w w':=by
 obtain ⟨m,p,d,rfl,hd,rfl,hp,hq⟩:=h;obtain ⟨n,q,c,rfl,hc,rfl,hp',hq'⟩:=h';have lpq:=bS hp hp';have ldc:=bS hq hq';have key:=pC m n p q d c
 have fin:Calls Tryz.prog 85 #[fv m p d,fv n q c] w (fun e' w'=>e'=.returned (fv (m != n) (p * q) (d * c))∧Since w w') →
   Calls Tryz.prog 85 #[fv m p d,fv n q c] w fun e' w'=>∃ u,e'=.returned u∧IsF (mkRat (sg m p) d * mkRat (sg n q) c) (B+B') u w'∧Since w w' :=
  fun hc'=>hc'.mono fun e' w' ⟨h1,h2⟩=>⟨_,h1,⟨_,_,_,rfl,Nat.mul_pos hd hc,key.symm,lpq,ldc⟩,h2⟩
 rcases m with _|_ <;> rcases n with _|_
 ·exact fin (lS p d q c B B' w hp hq hp' hq' hB)
 ·exact fin (mO p d q c B B' w hp hq hp' hq' hB)
 ·exact fin (mN p d q c B B' w hp hq hp' hq' hB)
 ·exact fin (nR p d q c B B' w hp hq hp' hq' hB)
theorem vQm (x y:Rat) (B B':Nat) (v v':Value) (w:World) (h:IsF x B v w) (h':IsF y B' v' w) (hB:B+B'≤4194200) (h0:y≠0):Calls Tryz.prog 84 #[v,v'] w fun e w'=>∃ u,e=.returned u∧IsF (x / y) (B+B') u w'∧Since w w':=by
 obtain ⟨m,p,d,rfl,hd,hx,hp,hq⟩:=h;obtain ⟨n,q,c,rfl,hc,hy,hp',hq'⟩:=h'
 have hq0:0<q:=by
  rcases Nat.eq_zero_or_pos q with h9|h9
  ·rw [h9,kD] at hy
   exact absurd hy.symm h0
  ·exact h9
 have HI1:Hid (∀ X,IsF x B (.agg #[.bool m,vS (be p),vS (be d)]) X):=fun X=>⟨m,p,d,rfl,hd,hx,hp,hq⟩
 have HI2:Hid (∀ X,IsF (y⁻¹) B' (.agg #[.bool n,vS (be c),vS (be q)]) X):=fun X=>⟨n,c,q,rfl,hq0,by rw [← hy,sF n hq0 hc],hq',hp'⟩
 clear hx hy h0
 go_enter Tryz.func84,Tryz.ntmps84
 go_upto_region 1 with fail;obtain ⟨W0,hW0,hB0,hB1,hB2,hb⟩:=bN w 93 93 93 [.bool m,vS (be p),vS (be d)] [.bool n,vS (be q),vS (be c)] zA;rw [← hW0];clear hW0;refine bA 9 [none,none,none,none,none,none,none,none,some (IsF (x * y⁻¹) (B+B'))] (aA (aA (aA (aA (aA (aA (aA (aA (aE (IsF.lasts _ _) (aG)))))))))) ?_;simp only [its,List.take,List.drop,Nat.zero_add,Nat.reduceAdd];refine ja hB0 G93 (by rfl) bY ?_;refine jnf hB1 0 aS ?_;refine jnf hB1 2 aH ?_;refine jnf hB1 1 aH ?_;refine jn (rt n (be c) (be q)) ?_;refine jk (fun X hX hF=>zR _ _ B B' _ _ X (HI1.out X) (HI2.out X) hB) ?_;intro v13;refine aI ?_;intro X1 hX1 hF;have hv13:=hF _ _ zE;obtain ⟨hB0,hB1,hB2⟩:=bl3 hX1 hB0 hB1 hB2;have hb:=aF hb hX1;clear hF hX1;obtain ⟨s,t,u,rfl,k1,k2,k3,k4⟩:=hv13;refine osb 93 4 13 (w.heap.size+2) 93 hB2 [.bool s,vS (be t),vS (be u)] bY ?_;intro w9 hR9 hO9 hB9 hs9;have hb9:=hB9 _ _ hb (by omega);clear hO9 hB9
 go_wp2
 refine aK rfl rfl (by rfl) G93 rfl hR9 bY ⟨_,rfl,⟨s,t,u,rfl,k1,by rw [k2,Rat.div_def],k3,k4⟩,hb9⟩
theorem fA (n:Bool) (p q:List UInt8) {B:Nat} (hp:p.length≤B) (hq:q.length≤B) (h1:1≤B) (X:World):IsF (rq n p q) B (.agg #[.bool (rN (rq n p q)),vS (be (rq n p q).num.natAbs),vS (be (rq n p q).den)]) X:=by
 refine ⟨_,_,_,rfl,Nat.pos_of_ne_zero (rq n p q).den_nz,jU _,?_,?_⟩
 ·rcases hv:vd n p q with _|_
  ·rw [oL hv]
   exact Nat.zero_le _
  ·exact (show (rP (rq n p q)).length≤B by rw [(nJ hv).2.1];exact hp)
 ·have hone:(be (0:Rat).den).length≤B:=by rw [show (0:Rat).den=1 from rfl,be_one];exact h1
  rcases hv:vd n p q with _|_
  ·rw [oL hv]
   exact hone
  ·by_cases h0:p=[]
   ·have h9:rq n p q=0:=by
     subst h0
     unfold vd at hv
     rw [if_pos (.inl rfl)] at hv;simp only [Bool.and_eq_true,Bool.not_eq_true',beq_iff_eq] at hv;obtain ⟨⟨rfl,_⟩,rfl⟩:=hv;exact wS
    rw [h9];exact hone
   ·rw [(nJ hv).2.2.2 h0]
    exact hq
theorem doQ (F0:FuncId) (recv:Value) (n:Bool) (p q:List UInt8) (z:Rat) (B B':Nat) (w:World) (hp:p.length≤B) (hq:q.length≤B) (h1:1≤B) (hB:B≤4194300) (hB':B'≤4194300) (hf:∀ (v:Value) (X:World),(callFunc F0 #[recv,v]).run Tryz.prog X=.ok (.enter F0 #[recv,v]) X)
  (hop:∀ (v:Value) (X:World),IsF (rq n p q) B v X→Calls Tryz.prog F0 #[recv,v] X fun e X'=>∃ u,e=.returned u∧IsF z B' u X'∧Since X X'):Calls Tryz.prog 67 #[(.func (.func F0) #[recv] #[]),.agg #[.bool n,vS p,vS q]] w fun e w'=>e=.returned (.agg #[.bool (rN z),vS (rP z),vS (rD z)])∧Since w w':=by
 have HOP:=Lib.hid hop;clear hop
 go_enter Tryz.func67,Tryz.ntmps67
 go_upto_region 1 with fail;obtain ⟨W0,hW0,hB0,hB1,hb⟩:=cH w 23 23 [.bool n,vS p,vS q] zA;rw [← hW0];clear hW0;refine bA 5 [none,none,none,some (IsF z B')] (aA (aA (aA (aE (IsF.lasts _ _) (aG))))) ?_;simp only [its,List.take,List.drop,Nat.zero_add,Nat.reduceAdd];refine jm ((.func (.func F0) #[recv] #[])) ?_;refine aC hB0 ?_;refine jc (rt (rN (rq n p q)) (be (rq n p q).num.natAbs) (be (rq n p q).den)) (fun X hX hF=>ofQ n p q X (by omega) (by omega)) ?_;refine qVl (by rfl) _ _ _ (by rfl) F0 [recv] (by rfl) [.agg #[.bool (rN (rq n p q)),vS (be (rq n p q).num.natAbs),vS (be (rq n p q).den)]] (by rfl) (fun X=>hf _ X) (fun X hX hF=>HOP.out _ X (fA n p q hp hq h1 X)) ?_;intro v8;simp only [pX];refine jc (rt (rN z) (rP z) (rD z)) (fun X hX hF=>vH z B' v8 X (hF _ _ zE rfl) (by omega)) ?_;refine aI ?_;intro X1 hX1 hF;have hv8:=hF _ _ zE;obtain ⟨hB0,hB1⟩:=bl2 hX1 hB0 hB1;have hb:=aF hb hX1;clear hF hX1;refine osb 23 4 9 (w.heap.size+1) 23 hB1 (zD z) aD ?_;intro w9 hR9 hO9 hB9 hs9;have hb9:=hB9 _ _ hb (by omega);clear hO9 hB9
 go_wp2
 refine aK rfl rfl (by rfl) G23 rfl hR9 aD ⟨rfl,hb9⟩
def cS (n:Int):Bool:=decide (-999999999999999≤n∧n≤999999999999999)
theorem kG {n:Int} (h:cS n=true):-999999999999999≤n∧n≤999999999999999:=by unfold cS at h;exact of_decide_eq_true h
theorem ins0 (n:Int) (w:World) (h:n < -999999999999999):Calls Tryz.prog 73 #[vI n] w fun e w'=>e=.returned (.bool (cS n))∧Since w w':=by
 have HI:Hid (cS n=false):=by unfold cS;exact decide_eq_false (by omega)
 go_enter Tryz.func73,Tryz.ntmps73
 go_upto_region 1 with fail;refine jp ?_;refine jm (vI n) ?_;refine tP n (-999999999999999) (by omega) ?_;refine jm (.bool false) ?_;refine jss ?_;refine jmm (.bool false) (.bool false) ?_;refine jz fun X1 hX1=>?_;have hb:Below w.heap.size w X1:=hX1
 go_wp2
 go_ret
 exact ⟨by rw [HI.out];rfl,hb⟩
theorem ins1 (n:Int) (w:World) (h:999999999999999<n):Calls Tryz.prog 73 #[vI n] w fun e w'=>e=.returned (.bool (cS n))∧Since w w':=by
 have HI:Hid (cS n=false):=by unfold cS;exact decide_eq_false (by omega)
 go_enter Tryz.func73,Tryz.ntmps73
 go_upto_region 1 with fail;refine jp ?_;refine jm (vI n) ?_;refine pI n (-999999999999999) (by omega) ?_;refine jmm (.bool true) (vI n) ?_;refine qL n 999999999999999 (by omega) ?_;refine jmm (.bool false) (.bool false) ?_;refine jz fun X1 hX1=>?_;have hb:Below w.heap.size w X1:=hX1
 go_wp2
 go_ret
 exact ⟨by rw [HI.out];rfl,hb⟩
theorem ins2 (n:Int) (w:World) (h1:-999999999999999≤n) (h2:n≤999999999999999):Calls Tryz.prog 73 #[vI n] w fun e w'=>e=.returned (.bool (cS n))∧Since w w':=by
 have HI:Hid (cS n=true):=by unfold cS;exact decide_eq_true (by omega)
 go_enter Tryz.func73,Tryz.ntmps73
 go_upto_region 1 with fail;refine jp ?_;refine jm (vI n) ?_;refine pI n (-999999999999999) (by omega) ?_;refine jmm (.bool true) (vI n) ?_;refine pJ n 999999999999999 (by omega) ?_;refine jmm (.bool true) (.bool true) ?_;refine jz fun X1 hX1=>?_;have hb:Below w.heap.size w X1:=hX1
 go_wp2
 go_ret
 exact ⟨by rw [HI.out];rfl,hb⟩
theorem vYx (n:Int) (w:World):Calls Tryz.prog 73 #[vI n] w fun e w'=>e=.returned (.bool (cS n))∧Since w w':=by
 by_cases h1:n < -999999999999999
 ·exact ins0 n w h1
 ·by_cases h2:999999999999999<n
  ·exact ins1 n w h2
  ·exact ins2 n w (by omega) (by omega)
theorem qVz (n:Int) (w:World) (hn:cS n=true) (h:n<0):Calls Tryz.prog 74 #[vI n] w fun e w'=>e=.returned (.agg #[.bool true,vS (be n.natAbs),vS ([1]:List UInt8)])∧Since w w':=by
 have hnn:=kG hn
 go_enter Tryz.func74,Tryz.ntmps74
 go_upto_region 1 with fail;obtain ⟨W0,hW0,hB0,hb⟩:=bW w 93 zA;rw [← hW0];clear hW0;refine jp ?_;refine jmm (vI n) (vI n) ?_;refine jv (vI (-n)) (kL _ _ (by rfl) n (-n) (by rfl) rfl (by omega) (by omega)) ?_;refine jv (vI ((n.natAbs:Nat):Int)) (jC _ _ (by rfl) .i64 n (-n) ((n.natAbs:Nat):Int) (by rfl) (by rfl) (by omega)) ?_;refine jc (.tuple #[st (be n.natAbs),vI 0]) (fun X hX hF=>vQo n.natAbs X (by omega)) ?_;refine bZ (.tuple #[st (be n.natAbs),vI 0]) (st (be n.natAbs)) (vI 0) ?_;refine jmm (st (be n.natAbs)) (vI 0) ?_;refine bJ hb hB0 fun X1 hX1 hb hB0=>?_;go_upto_region 2 with fail;refine jq 4 ?_;refine jm (vI n) ?_;refine dP n 0 (by omega) ?_;refine jmn (st (be n.natAbs)) (rt true (be n.natAbs) ([1]:List UInt8)) ?_;refine bJ hb hB0 fun X2 hX2 hb hB0=>?_;refine osb 93 2 16 w.heap.size 93 hB0 [.bool true,vS (be n.natAbs),vS ([1]:List UInt8)] bY ?_;intro w9 hR9 hO9 hB9 hs9;have hb9:=hB9 _ _ hb (by omega);clear hO9 hB9
 go_wp2
 refine aK rfl rfl (by rfl) G93 rfl hR9 bY ⟨rfl,hb9⟩
theorem yR (n:Int) (w:World) (hn:cS n=true) (h:0≤n):Calls Tryz.prog 74 #[vI n] w fun e w'=>e=.returned (.agg #[.bool false,vS (be n.natAbs),vS ([1]:List UInt8)])∧Since w w':=by
 have hnn:=kG hn
 go_enter Tryz.func74,Tryz.ntmps74
 go_upto_region 1 with fail;obtain ⟨W0,hW0,hB0,hb⟩:=bW w 93 zA;rw [← hW0];clear hW0;refine jp ?_;refine jmm (vI n) (vI n) ?_;refine jv (vI (-n)) (kL _ _ (by rfl) n (-n) (by rfl) rfl (by omega) (by omega)) ?_;refine jv (vI ((n.natAbs:Nat):Int)) (jC _ _ (by rfl) .i64 n (-n) ((n.natAbs:Nat):Int) (by rfl) (by rfl) (by omega)) ?_;refine jc (.tuple #[st (be n.natAbs),vI 0]) (fun X hX hF=>vQo n.natAbs X (by omega)) ?_;refine bZ (.tuple #[st (be n.natAbs),vI 0]) (st (be n.natAbs)) (vI 0) ?_;refine jmm (st (be n.natAbs)) (vI 0) ?_;refine bJ hb hB0 fun X1 hX1 hb hB0=>?_;go_upto_region 2 with fail;refine jq 4 ?_;refine jm (vI n) ?_;refine dJ n 0 (by omega) ?_;refine jmn (st (be n.natAbs)) (rt false (be n.natAbs) ([1]:List UInt8)) ?_;refine bJ hb hB0 fun X2 hX2 hb hB0=>?_;refine osb 93 2 16 w.heap.size 93 hB0 [.bool false,vS (be n.natAbs),vS ([1]:List UInt8)] bY ?_;intro w9 hR9 hO9 hB9 hs9;have hb9:=hB9 _ _ hb (by omega);clear hO9 hB9
 go_wp2
 refine aK rfl rfl (by rfl) G93 rfl hR9 bY ⟨rfl,hb9⟩
theorem vB (n:Int):mkRat (sg (decide (n<0)) n.natAbs) 1=(n:Rat):=by
 have h:sg (decide (n<0)) n.natAbs=n:=by
  by_cases h:n<0
  ·rw [decide_eq_true h];simp [sg];omega
  ·rw [decide_eq_false h];simp [sg];omega
 rw [h];exact Rat.mkRat_one n
theorem vYv (n:Int) (w:World) (hn:cS n=true):Calls Tryz.prog 74 #[vI n] w fun e w'=>∃ u,e=.returned u∧IsF (n:Rat) 8 u w'∧Since w w':=by
 have hnn:=kG hn;have hl:(be n.natAbs).length≤8:=iQ (by omega);have key:=vB n
 by_cases h:n<0
 ·rw [decide_eq_true h] at key
  exact (qVz n w hn h).mono fun e' w' ⟨h1,h2⟩=>⟨_,h1,⟨true,n.natAbs,1,(qXc _ _).symm,by omega,key,hl,by rw [be_one];decide⟩,h2⟩
 ·rw [decide_eq_false h] at key
  exact (yR n w hn (by omega)).mono fun e' w' ⟨h1,h2⟩=>⟨_,h1,⟨false,n.natAbs,1,(qXc _ _).symm,by omega,key,hl,by rw [be_one];decide⟩,h2⟩
theorem makeC (m n:Int) (w:World) (hm:cS m=true) (hn:cS n=true) (h0:n≠0):Calls Tryz.prog 76 #[vI m,vI n] w fun e w'=>e=.returned (.tuple #[.agg #[.bool (rN ((m:Rat) / (n:Rat))),.string ⟨(rP ((m:Rat) / (n:Rat))).toArray⟩,.string ⟨(rD ((m:Rat) / (n:Rat))).toArray⟩],vI 0])∧Since w w':=by
 have HM:Hid (cS m=true):=hm;have HN:Hid (cS n=true):=hn
 have HN0:Hid ((n:Rat)≠0):=fun h9=>h0 (by exact_mod_cast h9)
 have h9:n<0∨0<n:=by omega
 clear hm hn h0
 go_enter Tryz.func76,Tryz.ntmps76
 go_upto_region 1 with fail;obtain ⟨W0,hW0,hB0,hb⟩:=bW w 23 zA;rw [← hW0];clear hW0;refine jp ?_;refine jm (vI m) ?_;refine jc (.bool true) (fun X hX hF=>mo (vYx m X) (by rw [HM.out])) ?_;refine bZ (.bool false) (.bool false) (vI n) ?_;refine jc (.bool true) (fun X hX hF=>mo (vYx n X) (by rw [HN.out])) ?_;refine jmm (.bool false) (.bool false) ?_;refine bJ hb hB0 fun X1 hX1 hb hB0=>?_;go_upto_region 3 with fail;refine jp ?_;refine jm (vI n) ?_;refine tO n 0 (by omega) ?_;refine bJ hb hB0 fun X2 hX2 hb hB0=>?_;go_upto_region 5 with fail;refine bA 6 [none,some (IsF (m:Rat) 8),none,some (IsF (n:Rat) 8),some (IsF ((m:Rat) / (n:Rat)) (8+8))] (aA (aE (IsF.lasts _ _) (aA (aE (IsF.lasts _ _) (aE (IsF.lasts _ _) (aG)))))) ?_;simp only [its,List.take,List.drop,Nat.zero_add,Nat.reduceAdd];refine jm (vI m) ?_;refine jk (fun X hX hF=>vYv m X HM.out) ?_;intro v19;refine jm (vI n) ?_;refine jk (fun X hX hF=>vYv n X HN.out) ?_;intro v21;refine jk (fun X hX hF=>vQm _ _ 8 8 _ _ X (hF _ _ (zF zE) rfl) (hF _ _ zE rfl) (by omega) HN0.out) ?_;intro v22;refine jc (rt (rN ((m:Rat) / (n:Rat))) (rP ((m:Rat) / (n:Rat))) (rD ((m:Rat) / (n:Rat)))) (fun X hX hF=>vH _ _ v22 X (hF _ _ zE rfl) (by omega)) ?_;refine aI ?_;intro X3 hX3 hF;have hv19:=hF _ _ (zF (zF zE))
 have hv21:=hF _ _ (zF zE);have hv22:=hF _ _ zE;have hB0:=hB0.bel hX3;have hb:=aF hb hX3;clear hF hX3;refine osb 23 4 23 w.heap.size 23 hB0 [.bool (rN ((m:Rat) / (n:Rat))),.string ⟨(rP ((m:Rat) / (n:Rat))).toArray⟩,.string ⟨(rD ((m:Rat) / (n:Rat))).toArray⟩] aD ?_;intro w9 hR9 hO9 hB9 hs9;have hb9:=hB9 _ _ hb (by omega);clear hO9 hB9
 go_wp2
 refine bT (v:=vI 0) rfl rfl (by rfl) (by rfl) G23 rfl hR9 aD ⟨rfl,hb9⟩
theorem fL (n:Int) (w:World) (hn:cS n=true):Calls Tryz.prog 33 #[vI n] w fun e w'=>e=.returned (rbv (n:Rat))∧Since w w':=by
 have HN:Hid (cS n=true):=hn;clear hn
 go_enter Tryz.func33,Tryz.ntmps33
 go_upto_region 1 with fail;obtain ⟨W0,hW0,hB0,hb⟩:=bW w 23 zA;rw [← hW0];clear hW0;refine jp ?_;refine jm (vI n) ?_;refine jc (.bool true) (fun X hX hF=>mo (vYx n X) (by rw [HN.out])) ?_;refine jm (.bool false) ?_;refine bJ hb hB0 fun X1 hX1 hb hB0=>?_;go_upto_region 3 with fail;refine bA 3 [none,some (IsF (n:Rat) 8)] (aA (aE (IsF.lasts _ _) (aG))) ?_;simp only [its,List.take,List.drop,Nat.zero_add,Nat.reduceAdd];refine jm (vI n) ?_;refine jk (fun X hX hF=>vYv n X HN.out) ?_;intro v8;refine jc (rt (rN (n:Rat)) (rP (n:Rat)) (rD (n:Rat))) (fun X hX hF=>vH _ _ v8 X (hF _ _ zE rfl) (by omega)) ?_;refine aI ?_;intro X2 hX2 hF;have hv8:=hF _ _ zE;have hB0:=hB0.bel hX2;have hb:=aF hb hX2;clear hF hX2;refine osb 23 2 9 w.heap.size 23 hB0 (zD (n:Rat)) aD ?_;intro w9 hR9 hO9 hB9 hs9;have hb9:=hB9 _ _ hb (by omega);clear hO9 hB9
 go_wp2
 refine aK rfl rfl (by rfl) G23 rfl hR9 aD ⟨rfl,hb9⟩
theorem addQ (n:Bool) (p q:List UInt8) (n':Bool) (p' q':List UInt8) (w:World) (hp:p.length≤1000000) (hq:q.length≤1000000) (hp':p'.length≤1000000) (hq':q'.length≤1000000):Calls Tryz.prog 26 #[.agg #[.bool n,vS p,vS q],.agg #[.bool n',vS p',vS q']] w fun e w'=>e=.returned (rbv ((rq n p q)+(rq n' p' q')))∧Since w w':=by
 go_enter Tryz.func26,Tryz.ntmps26
 go_upto_region 1 with fail;obtain ⟨W0,hW0,hB0,hB1,hB2,hb⟩:=bN w 23 23 23 [.bool n,vS p,vS q] [.bool n',vS p',vS q'] zA;rw [← hW0];clear hW0;refine aN [] (by kernel_rfl) (by kernel_rfl) (by kernel_rfl) rfl (aG) ?_;simp only [its,List.dropLast,Nat.zero_add,Nat.reduceAdd];refine aC hB0 ?_;refine jc (rt (rN (rq n p q)) (be (rq n p q).num.natAbs) (be (rq n p q).den)) (fun X hX hF=>ofQ n p q X (by omega) (by omega)) ?_;refine jv (.func (.func 69) #[rt (rN (rq n p q)) (be (rq n p q).num.natAbs) (be (rq n p q).den)] #[]) (mI _ _ (by rfl) _ (by rfl)) ?_;refine aC hB1 ?_;refine jc (rt (rN ((rq n p q)+(rq n' p' q'))) (rP ((rq n p q)+(rq n' p' q'))) (rD ((rq n p q)+(rq n' p' q')))) (fun X hX hF=>doQ 69 (.agg #[.bool (rN (rq n p q)),vS (be (rq n p q).num.natAbs),vS (be (rq n p q).den)]) n' p' q' ((rq n p q)+(rq n' p' q')) 1000000 2000001 X hp' hq' (by omega) (by omega) (by omega) (fun v X=>by go_simp) (fun v X hv=>vQl _ _ 1000000 1000000 _ v X (fA n p q hp hq (by omega) X) hv (by omega))) ?_;refine aX hb hB0 hB1 hB2 fun X1 hX1 hb hB0 hB1 hB2=>?_;refine osb 23 4 9 (w.heap.size+2) 23 hB2 [.bool (rN ((rq n p q)+(rq n' p' q'))),.string ⟨(rP ((rq n p q)+(rq n' p' q'))).toArray⟩,.string ⟨(rD ((rq n p q)+(rq n' p' q'))).toArray⟩] aD ?_;intro w9 hR9 hO9 hB9 hs9;have hb9:=hB9 _ _ hb (by omega)
 clear hO9 hB9
 go_wp2
 refine aK rfl rfl (by rfl) G23 rfl hR9 aD ⟨rfl,hb9⟩
theorem subQ (n:Bool) (p q:List UInt8) (n':Bool) (p' q':List UInt8) (w:World) (hp:p.length≤1000000) (hq:q.length≤1000000) (hp':p'.length≤1000000) (hq':q'.length≤1000000):Calls Tryz.prog 53 #[.agg #[.bool n,vS p,vS q],.agg #[.bool n',vS p',vS q']] w fun e w'=>e=.returned (rbv ((rq n p q)-(rq n' p' q')))∧Since w w':=by
 go_enter Tryz.func53,Tryz.ntmps53
 go_upto_region 1 with fail;obtain ⟨W0,hW0,hB0,hB1,hB2,hb⟩:=bN w 23 23 23 [.bool n,vS p,vS q] [.bool n',vS p',vS q'] zA;rw [← hW0];clear hW0;refine aN [] (by kernel_rfl) (by kernel_rfl) (by kernel_rfl) rfl (aG) ?_;simp only [its,List.dropLast,Nat.zero_add,Nat.reduceAdd];refine aC hB0 ?_;refine jc (rt (rN (rq n p q)) (be (rq n p q).num.natAbs) (be (rq n p q).den)) (fun X hX hF=>ofQ n p q X (by omega) (by omega)) ?_;refine jv (.func (.func 71) #[rt (rN (rq n p q)) (be (rq n p q).num.natAbs) (be (rq n p q).den)] #[]) (mI _ _ (by rfl) _ (by rfl)) ?_;refine aC hB1 ?_;refine jc (rt (rN ((rq n p q)-(rq n' p' q'))) (rP ((rq n p q)-(rq n' p' q'))) (rD ((rq n p q)-(rq n' p' q')))) (fun X hX hF=>doQ 71 (.agg #[.bool (rN (rq n p q)),vS (be (rq n p q).num.natAbs),vS (be (rq n p q).den)]) n' p' q' ((rq n p q)-(rq n' p' q')) 1000000 2000001 X hp' hq' (by omega) (by omega) (by omega) (fun v X=>by go_simp) (fun v X hv=>xA _ _ 1000000 1000000 _ v X (fA n p q hp hq (by omega) X) hv (by omega))) ?_;refine aX hb hB0 hB1 hB2 fun X1 hX1 hb hB0 hB1 hB2=>?_;refine osb 23 4 9 (w.heap.size+2) 23 hB2 [.bool (rN ((rq n p q)-(rq n' p' q'))),.string ⟨(rP ((rq n p q)-(rq n' p' q'))).toArray⟩,.string ⟨(rD ((rq n p q)-(rq n' p' q'))).toArray⟩] aD ?_;intro w9 hR9 hO9 hB9 hs9;have hb9:=hB9 _ _ hb (by omega)
 clear hO9 hB9
 go_wp2
 refine aK rfl rfl (by rfl) G23 rfl hR9 aD ⟨rfl,hb9⟩
theorem mulQ (n:Bool) (p q:List UInt8) (n':Bool) (p' q':List UInt8) (w:World) (hp:p.length≤1000000) (hq:q.length≤1000000) (hp':p'.length≤1000000) (hq':q'.length≤1000000):Calls Tryz.prog 52 #[.agg #[.bool n,vS p,vS q],.agg #[.bool n',vS p',vS q']] w fun e w'=>e=.returned (rbv ((rq n p q) * (rq n' p' q')))∧Since w w':=by
 go_enter Tryz.func52,Tryz.ntmps52
 go_upto_region 1 with fail;obtain ⟨W0,hW0,hB0,hB1,hB2,hb⟩:=bN w 23 23 23 [.bool n,vS p,vS q] [.bool n',vS p',vS q'] zA;rw [← hW0];clear hW0;refine aN [] (by kernel_rfl) (by kernel_rfl) (by kernel_rfl) rfl (aG) ?_;simp only [its,List.dropLast,Nat.zero_add,Nat.reduceAdd];refine aC hB0 ?_;refine jc (rt (rN (rq n p q)) (be (rq n p q).num.natAbs) (be (rq n p q).den)) (fun X hX hF=>ofQ n p q X (by omega) (by omega)) ?_;refine jv (.func (.func 85) #[rt (rN (rq n p q)) (be (rq n p q).num.natAbs) (be (rq n p q).den)] #[]) (mI _ _ (by rfl) _ (by rfl)) ?_;refine aC hB1 ?_;refine jc (rt (rN ((rq n p q) * (rq n' p' q'))) (rP ((rq n p q) * (rq n' p' q'))) (rD ((rq n p q) * (rq n' p' q')))) (fun X hX hF=>doQ 85 (.agg #[.bool (rN (rq n p q)),vS (be (rq n p q).num.natAbs),vS (be (rq n p q).den)]) n' p' q' ((rq n p q) * (rq n' p' q')) 1000000 2000000 X hp' hq' (by omega) (by omega) (by omega) (fun v X=>by go_simp) (fun v X hv=>zR _ _ 1000000 1000000 _ v X (fA n p q hp hq (by omega) X) hv (by omega))) ?_;refine aX hb hB0 hB1 hB2 fun X1 hX1 hb hB0 hB1 hB2=>?_;refine osb 23 4 9 (w.heap.size+2) 23 hB2 [.bool (rN ((rq n p q) * (rq n' p' q'))),.string ⟨(rP ((rq n p q) * (rq n' p' q'))).toArray⟩,.string ⟨(rD ((rq n p q) * (rq n' p' q'))).toArray⟩] aD ?_;intro w9 hR9 hO9 hB9 hs9;have hb9:=hB9 _ _ hb (by omega)
 clear hO9 hB9
 go_wp2
 refine aK rfl rfl (by rfl) G23 rfl hR9 aD ⟨rfl,hb9⟩
end Go.Proofs.YtnfpenhldlfafaaGreatDoor

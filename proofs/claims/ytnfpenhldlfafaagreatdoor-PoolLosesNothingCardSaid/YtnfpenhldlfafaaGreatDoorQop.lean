/- rat: more on fractions. -/
import Derived.Test.YtnfpenhldlfafaaGreatDoorQfr
set_option linter.unusedSimpArgs false
set_option linter.unusedVariables false
set_option maxRecDepth 100000
set_option maxHeartbeats 1600000
namespace Go.Proofs.YtnfpenhldlfafaaGreatDoor
open Go.RowKit
theorem tZ (x y:Rat) (B B':Nat) (v v':Value) (w:World) (h:IsF x B v w) (h':IsF y B' v' w) (hB:B+B'≤4194200):Calls Tryz.prog 71 #[v,v'] w fun e w'=>∃ u,e=.returned u∧IsF (x-y) (B+B'+1) u w'∧Since w w':=by
 obtain ⟨m,p,d,rfl,hd,hx,hp,hq⟩:=h;obtain ⟨n,q,c,rfl,hc,hy,hp',hq'⟩:=h'
 have HI1:Hid (∀ X,IsF x B (.agg #[.bool m,vS (be p),vS (be d)]) X):=fun X=>⟨m,p,d,rfl,hd,hx,hp,hq⟩
 have HI2:Hid (∀ X,IsF (-y) B' (.agg #[.bool (!n),vS (be q),vS (be c)]) X):=fun X=>⟨!n,q,c,rfl,hc,by rw [← qYj,hy],hp',hq'⟩
 clear hx hy
 go_enter Tryz.func71,Tryz.ntmps71
 go_upto_region 1 with fail;obtain ⟨W0,hW0,hB0,hB1,hB2,hb⟩:=bS w 93 93 93 [.bool m,vS (be p),vS (be d)] [.bool n,vS (be q),vS (be c)] [.bool false,.string ⟨#[]⟩,.string ⟨#[]⟩];rw [← hW0];clear hW0;refine jq 4 ?_;refine jnf hB1 0 aQ ?_;refine jv (.bool (!n)) (yG _ _ (by rfl) n (by rfl)) ?_;refine jn (vP (w.heap.size+1) 0) ?_;refine bD hb hB0 hB1 hB2 fun X1 hX1 hb hB0 hB1 hB2=>?_;refine jA rfl (w.heap.size+1) 0 93 _ hB1 (.bool (!n)) (by simp) (fun X u h1 h2=>nC _ _ (by rfl) _ _ (by rfl) (by rfl) u X h1 h2) ?_;intro w5 hR5 hO5 hB5;have hb:=hB5 _ _ hb (by omega);have hB0:=hO5 _ _ _ (by omega) hB0;have hB2:=hO5 _ _ _ (by omega) hB2;have hB1:=hR5;clear hR5 hO5 hB5;go_upto_region 2 with fail;refine aV 3 [none,none,some (IsF (x+-y) (B+B'+1))] (aA (aA (aD (IsF.lasts _ _) (aF)))) ?_;simp only [its,List.take,List.drop,Nat.zero_add,Nat.reduceAdd];refine ja hB0 Tryz.underlying93 (by rfl) bO ?_;refine ja hB1 Tryz.underlying93 (by rfl) bO ?_;refine jk (fun X hX hF=>qQv _ _ B B' _ _ X (HI1.out X) (HI2.out X) hB) ?_;intro v11;refine aH ?_;intro X2 hX2 hF;have hv11:=hF _ _ List.mem_cons_self;obtain ⟨hB0,hB1,hB2⟩:=bl3 hX2 hB0 hB1 hB2;have hb:=aG hb hX2;clear hF hX2;obtain ⟨s,t,u,rfl,k1,k2,k3,k4⟩:=hv11;refine osb 93 4 11 (w.heap.size+2) 93 hB2 [.bool s,vS (be t),vS (be u)] bO ?_
 intro w9 hR9 hO9 hB9 hs9;have hb9:=hB9 _ _ hb (by omega);clear hO9 hB9
 go_wp2
 refine aX rfl rfl (by rfl) Tryz.underlying93 rfl hR9 bO ⟨_,rfl,⟨s,t,u,rfl,k1,by rw [k2,Rat.sub_eq_add_neg],k3,k4⟩,hb9⟩
theorem lO (p d q c B B':Nat) (w:World) (hp:(be p).length≤B) (hq:(be d).length≤B) (hp':(be q).length≤B') (hq':(be c).length≤B') (hB:B+B'≤4194200):Calls Tryz.prog 85 #[.agg #[.bool true,vS (be p),vS (be d)],.agg #[.bool true,vS (be q),vS (be c)]] w fun e w'=>e=.returned (.agg #[.bool false,vS (be (p * q)),vS (be (d * c))])∧Since w w':=by
 have lpq:=bR hp hp';have ldc:=bR hq hq'
 go_enter Tryz.func85,Tryz.ntmps85
 go_upto_region 1 with fail;obtain ⟨W0,hW0,hB0,hB1,hB2,hb⟩:=bS w 93 93 93 [.bool true,vS (be p),vS (be d)] [.bool true,vS (be q),vS (be c)] [.bool false,.string ⟨#[]⟩,.string ⟨#[]⟩];rw [← hW0];clear hW0;refine aT [] (by kernel_rfl) (by kernel_rfl) (by kernel_rfl) rfl (aF) ?_;simp only [its,List.dropLast,Nat.zero_add,Nat.reduceAdd];refine jnf hB0 0 aQ ?_;refine jnf hB1 0 aQ ?_;refine jm (.bool false) ?_;refine jnf hB0 1 aI ?_;refine jnf hB1 1 aI ?_;refine jc (st (be (p * q))) (fun X hX hF=>mo (dE (be p) (be q) X (by omega) (by omega)) (by rw [aP,aP])) ?_;refine jnf hB0 2 aI ?_;refine jnf hB1 2 aI ?_;refine jc (st (be (d * c))) (fun X hX hF=>mo (dE (be d) (be c) X (by omega) (by omega)) (by rw [aP,aP])) ?_;refine jn (rt false (be (p * q)) (be (d * c))) ?_;refine bD hb hB0 hB1 hB2 fun X1 hX1 hb hB0 hB1 hB2=>?_;refine osb 93 4 20 (w.heap.size+2) 93 hB2 [.bool false,vS (be (p * q)),vS (be (d * c))] bO ?_;intro w9 hR9 hO9 hB9 hs9;have hb9:=hB9 _ _ hb (by omega);clear hO9 hB9
 go_wp2
 refine aX rfl rfl (by rfl) Tryz.underlying93 rfl hR9 bO ⟨rfl,hb9⟩
theorem kU (p d q c B B':Nat) (w:World) (hp:(be p).length≤B) (hq:(be d).length≤B) (hp':(be q).length≤B') (hq':(be c).length≤B') (hB:B+B'≤4194200):Calls Tryz.prog 85 #[.agg #[.bool true,vS (be p),vS (be d)],.agg #[.bool false,vS (be q),vS (be c)]] w fun e w'=>e=.returned (.agg #[.bool true,vS (be (p * q)),vS (be (d * c))])∧Since w w':=by
 have lpq:=bR hp hp';have ldc:=bR hq hq'
 go_enter Tryz.func85,Tryz.ntmps85
 go_upto_region 1 with fail;obtain ⟨W0,hW0,hB0,hB1,hB2,hb⟩:=bS w 93 93 93 [.bool true,vS (be p),vS (be d)] [.bool false,vS (be q),vS (be c)] [.bool false,.string ⟨#[]⟩,.string ⟨#[]⟩];rw [← hW0];clear hW0;refine aT [] (by kernel_rfl) (by kernel_rfl) (by kernel_rfl) rfl (aF) ?_;simp only [its,List.dropLast,Nat.zero_add,Nat.reduceAdd];refine jnf hB0 0 aQ ?_;refine jnf hB1 0 aQ ?_;refine jm (.bool true) ?_;refine jnf hB0 1 aI ?_;refine jnf hB1 1 aI ?_;refine jc (st (be (p * q))) (fun X hX hF=>mo (dE (be p) (be q) X (by omega) (by omega)) (by rw [aP,aP])) ?_;refine jnf hB0 2 aI ?_;refine jnf hB1 2 aI ?_;refine jc (st (be (d * c))) (fun X hX hF=>mo (dE (be d) (be c) X (by omega) (by omega)) (by rw [aP,aP])) ?_;refine jn (rt true (be (p * q)) (be (d * c))) ?_;refine bD hb hB0 hB1 hB2 fun X1 hX1 hb hB0 hB1 hB2=>?_;refine osb 93 4 20 (w.heap.size+2) 93 hB2 [.bool true,vS (be (p * q)),vS (be (d * c))] bO ?_;intro w9 hR9 hO9 hB9 hs9;have hb9:=hB9 _ _ hb (by omega);clear hO9 hB9
 go_wp2
 refine aX rfl rfl (by rfl) Tryz.underlying93 rfl hR9 bO ⟨rfl,hb9⟩
theorem kV (p d q c B B':Nat) (w:World) (hp:(be p).length≤B) (hq:(be d).length≤B) (hp':(be q).length≤B') (hq':(be c).length≤B') (hB:B+B'≤4194200):Calls Tryz.prog 85 #[.agg #[.bool false,vS (be p),vS (be d)],.agg #[.bool true,vS (be q),vS (be c)]] w fun e w'=>e=.returned (.agg #[.bool true,vS (be (p * q)),vS (be (d * c))])∧Since w w':=by
 have lpq:=bR hp hp';have ldc:=bR hq hq'
 go_enter Tryz.func85,Tryz.ntmps85
 go_upto_region 1 with fail;obtain ⟨W0,hW0,hB0,hB1,hB2,hb⟩:=bS w 93 93 93 [.bool false,vS (be p),vS (be d)] [.bool true,vS (be q),vS (be c)] [.bool false,.string ⟨#[]⟩,.string ⟨#[]⟩];rw [← hW0];clear hW0;refine aT [] (by kernel_rfl) (by kernel_rfl) (by kernel_rfl) rfl (aF) ?_;simp only [its,List.dropLast,Nat.zero_add,Nat.reduceAdd];refine jnf hB0 0 aQ ?_;refine jnf hB1 0 aQ ?_;refine jm (.bool true) ?_;refine jnf hB0 1 aI ?_;refine jnf hB1 1 aI ?_;refine jc (st (be (p * q))) (fun X hX hF=>mo (dE (be p) (be q) X (by omega) (by omega)) (by rw [aP,aP])) ?_;refine jnf hB0 2 aI ?_;refine jnf hB1 2 aI ?_;refine jc (st (be (d * c))) (fun X hX hF=>mo (dE (be d) (be c) X (by omega) (by omega)) (by rw [aP,aP])) ?_;refine jn (rt true (be (p * q)) (be (d * c))) ?_;refine bD hb hB0 hB1 hB2 fun X1 hX1 hb hB0 hB1 hB2=>?_;refine osb 93 4 20 (w.heap.size+2) 93 hB2 [.bool true,vS (be (p * q)),vS (be (d * c))] bO ?_;intro w9 hR9 hO9 hB9 hs9;have hb9:=hB9 _ _ hb (by omega);clear hO9 hB9
 go_wp2
 refine aX rfl rfl (by rfl) Tryz.underlying93 rfl hR9 bO ⟨rfl,hb9⟩
theorem jT (p d q c B B':Nat) (w:World) (hp:(be p).length≤B) (hq:(be d).length≤B) (hp':(be q).length≤B') (hq':(be c).length≤B') (hB:B+B'≤4194200):Calls Tryz.prog 85 #[.agg #[.bool false,vS (be p),vS (be d)],.agg #[.bool false,vS (be q),vS (be c)]] w fun e w'=>e=.returned (.agg #[.bool false,vS (be (p * q)),vS (be (d * c))])∧Since w w':=by
 have lpq:=bR hp hp';have ldc:=bR hq hq'
 go_enter Tryz.func85,Tryz.ntmps85
 go_upto_region 1 with fail;obtain ⟨W0,hW0,hB0,hB1,hB2,hb⟩:=bS w 93 93 93 [.bool false,vS (be p),vS (be d)] [.bool false,vS (be q),vS (be c)] [.bool false,.string ⟨#[]⟩,.string ⟨#[]⟩];rw [← hW0];clear hW0;refine aT [] (by kernel_rfl) (by kernel_rfl) (by kernel_rfl) rfl (aF) ?_;simp only [its,List.dropLast,Nat.zero_add,Nat.reduceAdd];refine jnf hB0 0 aQ ?_;refine jnf hB1 0 aQ ?_;refine jm (.bool false) ?_;refine jnf hB0 1 aI ?_;refine jnf hB1 1 aI ?_;refine jc (st (be (p * q))) (fun X hX hF=>mo (dE (be p) (be q) X (by omega) (by omega)) (by rw [aP,aP])) ?_;refine jnf hB0 2 aI ?_;refine jnf hB1 2 aI ?_;refine jc (st (be (d * c))) (fun X hX hF=>mo (dE (be d) (be c) X (by omega) (by omega)) (by rw [aP,aP])) ?_;refine jn (rt false (be (p * q)) (be (d * c))) ?_;refine bD hb hB0 hB1 hB2 fun X1 hX1 hb hB0 hB1 hB2=>?_;refine osb 93 4 20 (w.heap.size+2) 93 hB2 [.bool false,vS (be (p * q)),vS (be (d * c))] bO ?_;intro w9 hR9 hO9 hB9 hs9;have hb9:=hB9 _ _ hb (by omega);clear hO9 hB9
 go_wp2
 refine aX rfl rfl (by rfl) Tryz.underlying93 rfl hR9 bO ⟨rfl,hb9⟩
theorem wE (x y:Rat) (B B':Nat) (v v':Value) (w:World) (h:IsF x B v w) (h':IsF y B' v' w) (hB:B+B'≤4194200):Calls Tryz.prog 85 #[v,v'] w fun e w'=>∃ u,e=.returned u∧IsF (x * y) (B+B') u w'∧Since w w':=by
 obtain ⟨m,p,d,rfl,hd,rfl,hp,hq⟩:=h;obtain ⟨n,q,c,rfl,hc,rfl,hp',hq'⟩:=h';have lpq:=bR hp hp';have ldc:=bR hq hq';have key:=sJ m n p q d c
 have fin:Calls Tryz.prog 85 #[fv m p d,fv n q c] w (fun e' w'=>e'=.returned (fv (m != n) (p * q) (d * c))∧Since w w') →
   Calls Tryz.prog 85 #[fv m p d,fv n q c] w fun e' w'=>∃ u,e'=.returned u∧IsF (mkRat (sg m p) d * mkRat (sg n q) c) (B+B') u w'∧Since w w' :=
  fun hc'=>hc'.mono fun e' w' ⟨h1,h2⟩=>⟨_,h1,⟨_,_,_,rfl,Nat.mul_pos hd hc,key.symm,lpq,ldc⟩,h2⟩
 rcases m with _|_ <;> rcases n with _|_
 ·exact fin (jT p d q c B B' w hp hq hp' hq' hB)
 ·exact fin (kV p d q c B B' w hp hq hp' hq' hB)
 ·exact fin (kU p d q c B B' w hp hq hp' hq' hB)
 ·exact fin (lO p d q c B B' w hp hq hp' hq' hB)
theorem qQw (x y:Rat) (B B':Nat) (v v':Value) (w:World) (h:IsF x B v w) (h':IsF y B' v' w) (hB:B+B'≤4194200) (h0:y≠0):Calls Tryz.prog 84 #[v,v'] w fun e w'=>∃ u,e=.returned u∧IsF (x / y) (B+B') u w'∧Since w w':=by
 obtain ⟨m,p,d,rfl,hd,hx,hp,hq⟩:=h;obtain ⟨n,q,c,rfl,hc,hy,hp',hq'⟩:=h'
 have hq0:0<q:=by
  rcases Nat.eq_zero_or_pos q with h9|h9
  ·rw [h9,kF] at hy
   exact absurd hy.symm h0
  ·exact h9
 have HI1:Hid (∀ X,IsF x B (.agg #[.bool m,vS (be p),vS (be d)]) X):=fun X=>⟨m,p,d,rfl,hd,hx,hp,hq⟩
 have HI2:Hid (∀ X,IsF (y⁻¹) B' (.agg #[.bool n,vS (be c),vS (be q)]) X):=fun X=>⟨n,c,q,rfl,hq0,by rw [← hy,xW n hq0 hc],hq',hp'⟩
 clear hx hy h0
 go_enter Tryz.func84,Tryz.ntmps84
 go_upto_region 1 with fail;obtain ⟨W0,hW0,hB0,hB1,hB2,hb⟩:=bS w 93 93 93 [.bool m,vS (be p),vS (be d)] [.bool n,vS (be q),vS (be c)] [.bool false,.string ⟨#[]⟩,.string ⟨#[]⟩];rw [← hW0];clear hW0;refine aV 9 [none,none,none,none,none,none,none,none,some (IsF (x * y⁻¹) (B+B'))] (aA (aA (aA (aA (aA (aA (aA (aA (aD (IsF.lasts _ _) (aF)))))))))) ?_;simp only [its,List.take,List.drop,Nat.zero_add,Nat.reduceAdd];refine ja hB0 Tryz.underlying93 (by rfl) bO ?_;refine jnf hB1 0 aQ ?_;refine jnf hB1 2 aI ?_;refine jnf hB1 1 aI ?_;refine jn (rt n (be c) (be q)) ?_;refine jk (fun X hX hF=>wE _ _ B B' _ _ X (HI1.out X) (HI2.out X) hB) ?_;intro v13;refine aH ?_;intro X1 hX1 hF;have hv13:=hF _ _ List.mem_cons_self;obtain ⟨hB0,hB1,hB2⟩:=bl3 hX1 hB0 hB1 hB2;have hb:=aG hb hX1;clear hF hX1;obtain ⟨s,t,u,rfl,k1,k2,k3,k4⟩:=hv13;refine osb 93 4 13 (w.heap.size+2) 93 hB2 [.bool s,vS (be t),vS (be u)] bO ?_;intro w9 hR9 hO9 hB9 hs9;have hb9:=hB9 _ _ hb (by omega);clear hO9 hB9
 go_wp2
 refine aX rfl rfl (by rfl) Tryz.underlying93 rfl hR9 bO ⟨_,rfl,⟨s,t,u,rfl,k1,by rw [k2,Rat.div_def],k3,k4⟩,hb9⟩
theorem dW (n:Bool) (p q:List UInt8) {B:Nat} (hp:p.length≤B) (hq:q.length≤B) (h1:1≤B) (X:World):IsF (rq n p q) B (.agg #[.bool (rN (rq n p q)),vS (be (rq n p q).num.natAbs),vS (be (rq n p q).den)]) X:=by
 refine ⟨_,_,_,rfl,Nat.pos_of_ne_zero (rq n p q).den_nz,mN _,?_,?_⟩
 ·rcases hv:vd n p q with _|_
  ·rw [oF hv]
   exact Nat.zero_le _
  ·exact (show (rP (rq n p q)).length≤B by rw [(mC hv).2.1];exact hp)
 ·have hone:(be (0:Rat).den).length≤B:=by rw [show (0:Rat).den=1 from rfl,be_one];exact h1
  rcases hv:vd n p q with _|_
  ·rw [oF hv]
   exact hone
  ·by_cases h0:p=[]
   ·have h9:rq n p q=0:=by
     subst h0
     unfold vd at hv
     rw [if_pos (.inl rfl)] at hv;simp only [Bool.and_eq_true,Bool.not_eq_true',beq_iff_eq] at hv;obtain ⟨⟨rfl,_⟩,rfl⟩:=hv;exact tT
    rw [h9];exact hone
   ·rw [(mC hv).2.2.2 h0]
    exact hq
theorem doQ (F0:FuncId) (recv:Value) (n:Bool) (p q:List UInt8) (z:Rat) (B B':Nat) (w:World) (hp:p.length≤B) (hq:q.length≤B) (h1:1≤B) (hB:B≤4194300) (hB':B'≤4194300) (hf:∀ (v:Value) (X:World),(callFunc F0 #[recv,v]).run Tryz.prog X=.ok (.enter F0 #[recv,v]) X)
  (hop:∀ (v:Value) (X:World),IsF (rq n p q) B v X→Calls Tryz.prog F0 #[recv,v] X fun e X'=>∃ u,e=.returned u∧IsF z B' u X'∧Since X X'):Calls Tryz.prog 67 #[(.func (.func F0) #[recv] #[]),.agg #[.bool n,vS p,vS q]] w fun e w'=>e=.returned (.agg #[.bool (rN z),vS (rP z),vS (rD z)])∧Since w w':=by
 have HOP:=Lib.hid hop;clear hop
 go_enter Tryz.func67,Tryz.ntmps67
 go_upto_region 1 with fail;obtain ⟨W0,hW0,hB0,hB1,hb⟩:=cI w 23 23 [.bool n,vS p,vS q] [.bool false,.string ⟨#[]⟩,.string ⟨#[]⟩];rw [← hW0];clear hW0;refine aV 5 [none,none,none,some (IsF z B')] (aA (aA (aA (aD (IsF.lasts _ _) (aF))))) ?_;simp only [its,List.take,List.drop,Nat.zero_add,Nat.reduceAdd];refine jm ((.func (.func F0) #[recv] #[])) ?_;refine ja hB0 Tryz.underlying23 (by rfl) aB ?_;refine jc (rt (rN (rq n p q)) (be (rq n p q).num.natAbs) (be (rq n p q).den)) (fun X hX hF=>ofQ n p q X (by omega) (by omega)) ?_;refine xI (by rfl) _ _ _ (by rfl) F0 [recv] (by rfl) [.agg #[.bool (rN (rq n p q)),vS (be (rq n p q).num.natAbs),vS (be (rq n p q).den)]] (by rfl) (fun X=>hf _ X) (fun X hX hF=>HOP.out _ X (dW n p q hp hq h1 X)) ?_;intro v8;simp only [pX];refine jc (rt (rN z) (rP z) (rD z)) (fun X hX hF=>sQ z B' v8 X (hF _ _ List.mem_cons_self rfl) (by omega)) ?_;refine aH ?_;intro X1 hX1 hF;have hv8:=hF _ _ List.mem_cons_self;obtain ⟨hB0,hB1⟩:=bl2 hX1 hB0 hB1;have hb:=aG hb hX1;clear hF hX1;refine osb 23 4 9 (w.heap.size+1) 23 hB1 [.bool (rN z),vS (rP z),vS (rD z)] aB ?_;intro w9 hR9 hO9 hB9 hs9;have hb9:=hB9 _ _ hb (by omega);clear hO9 hB9
 go_wp2
 refine aX rfl rfl (by rfl) Tryz.underlying23 rfl hR9 aB ⟨rfl,hb9⟩
end Go.Proofs.YtnfpenhldlfafaaGreatDoor

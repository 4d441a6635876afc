/- The reference of layer 5: integers, operations, order, round -/
import Derived.Test.YtjkfchehkpmhkaaGreatDoorMH
import Derived.Test.YtjkfchehkpmhkaaGreatDoorKe
import Derived.Test.YtjkfchehkpmhkaaGreatDoorL5a
set_option linter.unusedSimpArgs false
set_option linter.unusedVariables false
set_option maxRecDepth 100000
set_option maxHeartbeats 1600000
namespace Go.Proofs.YtjkfchehkpmhkaaGreatDoor
open Go.RowKit
theorem oS {x:Rat} {m:Bool} (h:rN x=m):rbv x=.agg #[.bool m,vS (rP x),vS (rD x)]:=by rw [← h]
theorem qYi {p q:List UInt8} {m:Nat} (h:tz p q m) (hm:m≤4194300:=by omega):p.length≤4194300∧q.length≤4194300:=⟨Nat.le_trans h.1 hm,Nat.le_trans h.2 hm⟩
theorem vT (n:Bool) (p q:List UInt8) {x:Rat} (HX:Hid (rq n p q=x)) (w:World) (h:tz p q 1000000) (HV:Hid (vd n p q=true)):Calls Tryz.prog 71 #[.agg #[.bool n,vS p,vS q]] w fun e w'=>e=.returned (rbv x)∧Since w w':=by
 go_enter Tryz.func71,Tryz.ntmps71
 go_upto_region 1 with fail;obtain ⟨W0,hW0,hB0,hB1,hb⟩:=cV w 40 40 [.bool n,vS p,vS q] [.bool false,.string ⟨#[]⟩,.string ⟨#[]⟩];rw [← hW0];clear hW0;refine jp ?_;refine ja hB0 Tryz.underlying40 (by rfl) aC ?_;refine jc (.bool true) (fun X hX hF=>mo (xX n p q X (qYi h).1 (qYi h).2) (by rw [HV.out])) ?_;refine jm (.bool true) ?_;refine aN hb hB0 hB1 fun X1 hX1 hb hB0 hB1=>?_;go_upto_region 2 with fail;refine jp ?_;refine jm (.bool true) ?_;refine aN hb hB0 hB1 fun X2 hX2 hb hB0 hB1=>?_;go_upto_region 3 with fail;refine jq 1 ?_;refine ja hB0 Tryz.underlying40 (by rfl) aC ?_;refine aN hb hB0 hB1 fun X3 hX3 hb hB0 hB1=>?_;refine osb 40 2 7 (w.heap.size+1) 40 hB1 [.bool n,vS p,vS q] aC ?_;intro w9 hR9 hO9 hB9 hs9;have hb9:=hB9 _ _ hb (by omega);clear hO9 hB9
 go_wp2
 refine aU rfl rfl (by rfl) Tryz.underlying40 rfl hR9 aC ⟨by rw [qZc HV.out HX.out],hb9⟩
theorem uA (n:Bool) (p q:List UInt8) {x:Rat} (HX:Hid (rq n p q=x)) (w:World) (h:tz p q 1000000) (HV:Hid (vd n p q=false)):Calls Tryz.prog 71 #[.agg #[.bool n,vS p,vS q]] w fun e w'=>e=.returned (rbv x)∧Since w w':=by
 go_enter Tryz.func71,Tryz.ntmps71
 go_upto_region 1 with fail;obtain ⟨W0,hW0,hB0,hB1,hb⟩:=cV w 40 40 [.bool n,vS p,vS q] [.bool false,.string ⟨#[]⟩,.string ⟨#[]⟩];rw [← hW0];clear hW0;refine jp ?_;refine ja hB0 Tryz.underlying40 (by rfl) aC ?_;refine jc (.bool false) (fun X hX hF=>mo (xX n p q X (qYi h).1 (qYi h).2) (by rw [HV.out])) ?_;refine jm (.bool false) ?_;refine aN hb hB0 hB1 fun X1 hX1 hb hB0 hB1=>?_;go_upto_region 2 with fail;refine jp ?_;refine jm (.bool false) ?_;refine aN hb hB0 hB1 fun X2 hX2 hb hB0 hB1=>?_;go_upto_region 4 with fail;refine jq 1 ?_;refine jn (rz) ?_;refine aN hb hB0 hB1 fun X3 hX3 hb hB0 hB1=>?_;refine osb 40 2 8 (w.heap.size+1) 40 hB1 [.bool false,.string ⟨#[]⟩,.string ⟨#[]⟩] aC ?_;intro w9 hR9 hO9 hB9 hs9;have hb9:=hB9 _ _ hb (by omega);clear hO9 hB9
 go_wp2
 refine aU rfl rfl (by rfl) Tryz.underlying40 rfl hR9 aC ⟨by rw [show x=0 from HX.out.symm.trans (oE HV.out)];rfl,hb9⟩
theorem pQ (n:Bool) (p q:List UInt8) {x:Rat} (hx:rq n p q=x) (w:World) (h:tz p q 1000000):Calls Tryz.prog 71 #[.agg #[.bool n,vS p,vS q]] w fun e w'=>e=.returned (rbv x)∧Since w w':=by
 rcases hv:vd n p q with _|_
 ·exact uA n p q hx w h hv
 ·exact vT n p q hx w h hv
theorem vYc (b:Bool) (P D:Nat) (w:World) (hd:0<D) (hP:(be P).length≤4194300) (hD:(be D).length≤4194300) (h0:P=0):Calls Tryz.prog 74 #[.bool b,vS (be P),vS (be D)] w fun e w'=>e=.returned (rbv (mkRat (sg b P) D))∧Since w w':=by
 have HE:Hid (be P=[]):=be_nil.2 h0
 have HX:Hid (mkRat (sg b P) D=0):=by show _=_;rw [h0,iR]
 clear h0
 go_enter Tryz.func74,Tryz.ntmps74
 go_upto_region 1 with fail;obtain ⟨W0,hW0,hB0,hb⟩:=aT w 40 [.bool false,.string ⟨#[]⟩,.string ⟨#[]⟩];rw [← hW0];clear hW0;refine jp ?_;refine jm (st (be P)) ?_;refine jc (st (be P)) (fun X hX hF=>mo (dC (be P) X (by omega)) (by rw [aM])) ?_;refine jm (st (be P)) ?_;refine aQ hb hB0 fun X1 hX1 hb hB0=>?_;go_upto_region 2 with fail;refine jp ?_;refine jm (st (be P)) ?_;refine jv (.bool true) (bH _ _ _ _ (by rfl) (be P) ([]:List UInt8) (by rfl) (by rfl) true (iY HE.out)) ?_;refine aQ hb hB0 fun X2 hX2 hb hB0=>?_;go_upto_region 3 with fail;refine jq 1 ?_;refine jn (rz) ?_;refine aQ hb hB0 fun X3 hX3 hb hB0=>?_;refine osb 40 6 12 w.heap.size 40 hB0 [.bool false,.string ⟨#[]⟩,.string ⟨#[]⟩] aC ?_;intro w9 hR9 hO9 hB9 hs9;have hb9:=hB9 _ _ hb (by omega);clear hO9 hB9
 go_wp2
 refine aU rfl rfl (by rfl) Tryz.underlying40 rfl hR9 aC ⟨by rw [HX.out];rfl,hb9⟩
theorem vYd (b:Bool) (P D:Nat) (w:World) (hd:0<D) (hP:(be P).length≤4194300) (hD:(be D).length≤4194300) (h0:0<P):Calls Tryz.prog 74 #[.bool b,vS (be P),vS (be D)] w fun e w'=>e=.returned (rbv (mkRat (sg b P) D))∧Since w w':=by
 have HE:Hid (be P≠[]):=pR h0;have HX:=Lib.hid (qO b h0 hd);have HGP:Hid (0<(Nat.gcd P D)):=Nat.gcd_pos_of_pos_left D h0;have hgl:=gJ (Nat.gcd_le_left D h0);clear h0
 go_enter Tryz.func74,Tryz.ntmps74
 go_upto_region 1 with fail;obtain ⟨W0,hW0,hB0,hb⟩:=aT w 40 [.bool false,.string ⟨#[]⟩,.string ⟨#[]⟩];rw [← hW0];clear hW0;refine jp ?_;refine jm (st (be P)) ?_;refine jc (st (be P)) (fun X hX hF=>mo (dC (be P) X (by omega)) (by rw [aM])) ?_;refine jm (st (be P)) ?_;refine aQ hb hB0 fun X1 hX1 hb hB0=>?_;go_upto_region 2 with fail;refine jp ?_;refine jm (st (be P)) ?_;refine jv (.bool false) (bH _ _ _ _ (by rfl) (be P) ([]:List UInt8) (by rfl) (by rfl) false (dJ HE.out)) ?_;refine aQ hb hB0 fun X2 hX2 hb hB0=>?_;go_upto_region 4 with fail;refine jp ?_;refine jmm (st (be P)) (st (be D)) ?_;refine jc (st (be (Nat.gcd P D))) (fun X hX hF=>mo (qQj (be P) (be D) X (by omega) (by omega)) (by rw [aM,aM])) ?_;refine jm (st (be (Nat.gcd P D))) ?_;refine aQ hb hB0 fun X3 hX3 hb hB0=>?_;go_upto_region 5 with fail;refine jq 10 ?_;refine aX (.bool b) (st (be P)) (st (be (Nat.gcd P D))) ?_;refine jc (.agg #[st (be (P / (Nat.gcd P D))),st (be (P % (Nat.gcd P D))),vI 0]) (fun X hX hF=>mo (qQn (be P) (be (Nat.gcd P D)) X (by omega) (by omega) (by rw [aM];exact HGP.out)) (by simp only [aM])) ?_;refine aX (st (be (P / (Nat.gcd P D)))) (st (be D)) (st (be (Nat.gcd P D))) ?_;refine jc (.agg #[st (be (D / (Nat.gcd P D))),st (be (D % (Nat.gcd P D))),vI 0]) (fun X hX hF=>mo (qQn (be D) (be (Nat.gcd P D)) X (by omega) (by omega) (by rw [aM];exact HGP.out)) (by simp only [aM])) ?_;refine jmn (st (be (D / (Nat.gcd P D)))) (rt b (be (P / (Nat.gcd P D))) (be (D / (Nat.gcd P D)))) ?_
 refine aQ hb hB0 fun X4 hX4 hb hB0=>?_;refine osb 40 6 25 w.heap.size 40 hB0 [.bool b,.string ⟨(be (P / (Nat.gcd P D))).toArray⟩,.string ⟨(be (D / (Nat.gcd P D))).toArray⟩] aC ?_;intro w9 hR9 hO9 hB9 hs9;have hb9:=hB9 _ _ hb (by omega);clear hO9 hB9
 go_wp2
 refine aU rfl rfl (by rfl) Tryz.underlying40 rfl hR9 aC ⟨by rw [jS HX.out],hb9⟩
theorem yM (b:Bool) (P D:Nat) (w:World) (hd:0<D) (hP:(be P).length≤4194300) (hD:(be D).length≤4194300):Calls Tryz.prog 74 #[.bool b,vS (be P),vS (be D)] w fun e w'=>e=.returned (rbv (mkRat (sg b P) D))∧Since w w':=by
 rcases Nat.eq_zero_or_pos P with h0|h0
 ·exact vYc b P D w hd hP hD h0
 ·exact vYd b P D w hd hP hD h0
theorem qQt (x:Rat) (w:World) (h0:x=0):Calls Tryz.prog 72 #[.agg #[.bool (rN x),vS (rP x),vS (rD x)]] w fun e w'=>e=.returned (.tuple #[vS (be x.num.natAbs),vS (be x.den)])∧Since w w':=by
 have HE:Hid (rP x=[]):=by subst h0;rfl
 have HA:Hid (be x.num.natAbs=[]):=HE
 have HB:Hid (be x.den=[1]):=by show _=_;rw [h0];exact be_one
 clear h0
 go_enter Tryz.func72,Tryz.ntmps72
 go_upto_region 1 with fail;obtain ⟨W0,hW0,hB0,hb⟩:=aT w 40 [.bool (rN x),vS (rP x),vS (rD x)];rw [← hW0];clear hW0;refine jp ?_;refine jnf hB0 1 aG ?_;refine jv (.bool true) (bH _ _ _ _ (by rfl) (rP x) ([]:List UInt8) (by rfl) (by rfl) true (iY HE.out)) ?_;refine aQ hb hB0 fun X1 hX1 hb hB0=>?_;go_upto_region 2 with fail;refine jp ?_;refine jmm (st []) (st ([1]:List UInt8)) ?_;refine aQ hb hB0 fun X2 hX2 hb hB0=>?_
 go_wp2
 go_ret2
 exact ⟨by rw [HA.out,HB.out];rfl,hb⟩
theorem qQu (x:Rat) (w:World) (h0:x≠0):Calls Tryz.prog 72 #[.agg #[.bool (rN x),vS (rP x),vS (rD x)]] w fun e w'=>e=.returned (.tuple #[vS (be x.num.natAbs),vS (be x.den)])∧Since w w':=by
 have HE:Hid (rP x≠[]):=fun h9=>h0 ((iP x).1 (be_nil.1 h9))
 have HB:Hid (rD x=be x.den):=by
  show _=_
  unfold rD
  rw [if_neg (fun h9=>h0 ((iP x).1 (by rw [h9];rfl)))]
 clear h0
 go_enter Tryz.func72,Tryz.ntmps72
 go_upto_region 1 with fail;obtain ⟨W0,hW0,hB0,hb⟩:=aT w 40 [.bool (rN x),vS (rP x),vS (rD x)];rw [← hW0];clear hW0;refine jp ?_;refine jnf hB0 1 aG ?_;refine jv (.bool false) (bH _ _ _ _ (by rfl) (rP x) ([]:List UInt8) (by rfl) (by rfl) false (dJ HE.out)) ?_;refine aQ hb hB0 fun X1 hX1 hb hB0=>?_;go_upto_region 3 with fail;refine jd ?_;refine jnf hB0 1 aG ?_;refine jnf hB0 2 aG ?_;refine jmm (st (rP x)) (st (rD x)) ?_;refine aQ hb hB0 fun X2 hX2 hb hB0=>?_
 go_wp2
 go_ret2
 exact ⟨by rw [← HB.out];rfl,hb⟩
theorem vXs (x:Rat) (w:World):Calls Tryz.prog 72 #[.agg #[.bool (rN x),vS (rP x),vS (rD x)]] w fun e w'=>e=.returned (.tuple #[vS (be x.num.natAbs),vS (be x.den)])∧Since w w':=by
 by_cases h0:x=0
 ·exact qQt x w h0
 ·exact qQu x w h0
theorem qQs {x:Rat} {m:Bool} (h:rN x=m) (w:World):Calls Tryz.prog 72 #[.agg #[.bool m,vS (rP x),vS (rD x)]] w fun e w'=>e=.returned (.tuple #[vS (be x.num.natAbs),vS (be x.den)])∧Since w w':=oS h ▸ vXs x w
set_option maxHeartbeats 16000000 in
theorem add5 (n:Bool) (p q:List UInt8) (n':Bool) (p' q':List UInt8) (x y:Rat) (m k:Bool) (HX:Hid (rq n p q=x)) (HY:Hid (rq n' p' q'=y)) (w:World) (h:tz p q 1000000) (h':tz p' q' 1000000) (sx:szR x 1000000) (sy:szR y 1000000) (HM:Hid (rN x=m)) (HN:Hid (rN y=k)) (HKY:Hid (x+y=mkRat (sg m (x.num.natAbs * y.den)+sg k (y.num.natAbs * x.den)) (x.den * y.den))):Calls Tryz.prog 47 #[.agg #[.bool n,vS p,vS q],.agg #[.bool n',vS p',vS q']] w fun e w'=>e=.returned (rbv (x+y))∧Since w w':=by
 have lpe:=bW sx.1 sy.2;have lqd:=bW sy.1 sx.2;have lde:=bW sx.2 sy.2;have lsum:=gK lpe lqd;have l2:=gC (Nat.sub_le (x.num.natAbs * y.den) (y.num.natAbs * x.den)) lpe;have l3:=gC (Nat.sub_le (y.num.natAbs * x.den) (x.num.natAbs * y.den)) lqd;have l4:=sx.1;have l5:=sx.2;have l6:=sy.1;have l7:=sy.2;have HDP:Hid (0<(x.den * y.den)):=Nat.mul_pos (Nat.pos_of_ne_zero x.den_nz) (Nat.pos_of_ne_zero y.den_nz)
 go_enter Tryz.func47,Tryz.ntmps47
 go_upto_region 1 with fail;obtain ⟨W0,hW0,hB0,hB1,hB2,hb⟩:=dO w 40 40 40 [.bool n,vS p,vS q] [.bool n',vS p',vS q'] [.bool false,.string ⟨#[]⟩,.string ⟨#[]⟩];rw [← hW0];clear hW0;refine jq 2 ?_;refine ja hB0 Tryz.underlying40 (by rfl) aC ?_;refine jc (rt m (rP x) (rD x)) (fun X hX hF=>mo (pQ n p q HX.out X h) (by rw [oS HM.out])) ?_;refine bE hb hB0 hB1 hB2 fun X1 hX1 hb hB0 hB1 hB2=>?_;go_upto_region 2 with (refine osn 40 5 15 #[.bool m,vS (rP x),vS (rD x)] aC ?_);obtain ⟨Y1,hY9,hD5,hS9⟩:=aT X1 40 [.bool m,vS (rP x),vS (rD x)];rw [← hY9];clear hY9;have hgs5:=hb.size;have hlt5x0:=hB0.lt;have hlt5x1:=hB1.lt;have hlt5x2:=hB2.lt;obtain ⟨hB0,hB1,hB2⟩:=bl3 hS9 hB0 hB1 hB2;have hb:=aI hb hS9;clear hS9;generalize X1.heap.size=g5 at *;refine jq 2 ?_;refine ja hB1 Tryz.underlying40 (by rfl) aC ?_;refine jc (rt k (rP y) (rD y)) (fun X hX hF=>mo (pQ n' p' q' HY.out X h') (by rw [oS HN.out])) ?_;refine cM hb hB0 hB1 hB2 hD5 fun X2 hX2 hb hB0 hB1 hB2 hD5=>?_;go_upto_region 3 with (refine osn 40 6 17 #[.bool k,vS (rP y),vS (rD y)] aC ?_);obtain ⟨Y2,hY9,hD6,hS9⟩:=aT X2 40 [.bool k,vS (rP y),vS (rD y)];rw [← hY9];clear hY9;have hgs6:=hb.size;have hlt6x0:=hB0.lt;have hlt6x1:=hB1.lt;have hlt6x2:=hB2.lt
 have hlt6x3:=hD5.lt;obtain ⟨hB0,hB1,hB2,hD5⟩:=bl4 hS9 hB0 hB1 hB2 hD5;have hb:=aI hb hS9;clear hS9;generalize X2.heap.size=g6 at *;refine jp ?_;refine ja hD5 Tryz.underlying40 (by rfl) aC ?_;refine jc (.tuple #[st (be x.num.natAbs),st (be x.den)]) (fun X hX hF=>qQs HM.out X) ?_;refine aX (.tuple #[st (be x.num.natAbs),st (be x.den)]) (st (be x.num.natAbs)) (st (be x.den)) ?_;refine jmm (st (be x.num.natAbs)) (st (be x.den)) ?_;refine dU hb hB0 hB1 hB2 hD5 hD6 fun X3 hX3 hb hB0 hB1 hB2 hD5 hD6=>?_;go_upto_region 4 with fail;refine jp ?_;refine ja hD6 Tryz.underlying40 (by rfl) aC ?_;refine jc (.tuple #[st (be y.num.natAbs),st (be y.den)]) (fun X hX hF=>qQs HN.out X) ?_;refine aX (.tuple #[st (be y.num.natAbs),st (be y.den)]) (st (be y.num.natAbs)) (st (be y.den)) ?_;refine jmm (st (be y.num.natAbs)) (st (be y.den)) ?_;refine dU hb hB0 hB1 hB2 hD5 hD6 fun X4 hX4 hb hB0 hB1 hB2 hD5 hD6=>?_;go_upto_region 5 with fail;refine jp ?_;refine jmm (st (be x.num.natAbs)) (st (be y.den)) ?_;refine jc (st (be (x.num.natAbs * y.den))) (fun X hX hF=>mo (qQi (be x.num.natAbs) (be y.den) X (by first|omega|decide) (by first|omega|decide)) (by rw [aM,aM])) ?_;refine jm (st (be (x.num.natAbs * y.den))) ?_;refine dU hb hB0 hB1 hB2 hD5 hD6 fun X5 hX5 hb hB0 hB1 hB2 hD5 hD6=>?_;go_upto_region 6 with fail;refine jp ?_;refine jmm (st (be y.num.natAbs)) (st (be x.den)) ?_;refine jc (st (be (y.num.natAbs * x.den))) (fun X hX hF=>mo (qQi (be y.num.natAbs) (be x.den) X (by first|omega|decide) (by first|omega|decide)) (by rw [aM,aM])) ?_
 refine jm (st (be (y.num.natAbs * x.den))) ?_;refine dU hb hB0 hB1 hB2 hD5 hD6 fun X6 hX6 hb hB0 hB1 hB2 hD5 hD6=>?_;go_upto_region 7 with fail;refine jp ?_;refine jmm (st (be x.den)) (st (be y.den)) ?_;refine jc (st (be (x.den * y.den))) (fun X hX hF=>mo (qQi (be x.den) (be y.den) X (by first|omega|decide) (by first|omega|decide)) (by rw [aM,aM])) ?_;refine jm (st (be (x.den * y.den))) ?_;refine dU hb hB0 hB1 hB2 hD5 hD6 fun X7 hX7 hb hB0 hB1 hB2 hD5 hD6=>?_;go_upto_region 8 with fail
 rcases m with _|_
 ·skip
  rcases k with _|_
  ·skip
   go_upto_region 8 with fail;refine jp ?_;refine jnf hD5 0 aS ?_;refine jnf hD6 0 aS ?_;refine jm (.bool true) ?_;refine dU hb hB0 hB1 hB2 hD5 hD6 fun X8 hX8 hb hB0 hB1 hB2 hD5 hD6=>?_
   have HK:Hid (mkRat (sg false ((x.num.natAbs * y.den)+(y.num.natAbs * x.den))) (x.den * y.den)=x+y):=by
    show _=_
    rw [HKY.out];exact congrArg (mkRat · _) (fV _ _ _).symm
   go_upto_region 9 with fail;refine bD [] (by kernel_rfl) (by kernel_rfl) (by kernel_rfl) rfl (aH) ?_;simp only [its,List.dropLast,Nat.zero_add,Nat.reduceAdd];refine jnf hD5 0 aS ?_;refine jmm (st (be (x.num.natAbs * y.den))) (st (be (y.num.natAbs * x.den))) ?_;refine jc (st (be ((x.num.natAbs * y.den)+(y.num.natAbs * x.den)))) (fun X hX hF=>mo (vQn (be (x.num.natAbs * y.den)) (be (y.num.natAbs * x.den)) X (by first|omega|decide) (by first|omega|decide)) (by rw [aM,aM])) ?_;refine jm (st (be (x.den * y.den))) ?_;refine jc (.agg #[.bool (rN (mkRat (sg false ((x.num.natAbs * y.den)+(y.num.natAbs * x.den))) (x.den * y.den))),st (rP (mkRat (sg false ((x.num.natAbs * y.den)+(y.num.natAbs * x.den))) (x.den * y.den))),st (rD (mkRat (sg false ((x.num.natAbs * y.den)+(y.num.natAbs * x.den))) (x.den * y.den)))]) (fun X hX hF=>yM false ((x.num.natAbs * y.den)+(y.num.natAbs * x.den)) (x.den * y.den) X HDP.out (by first|omega|decide) (by first|omega|decide)) ?_;refine dU hb hB0 hB1 hB2 hD5 hD6 fun X9 hX9 hb hB0 hB1 hB2 hD5 hD6=>?_;refine osb 40 4 48 (w.heap.size+2) 40 hB2 [.bool (rN (mkRat (sg false ((x.num.natAbs * y.den)+(y.num.natAbs * x.den))) (x.den * y.den))),.string ⟨(rP (mkRat (sg false ((x.num.natAbs * y.den)+(y.num.natAbs * x.den))) (x.den * y.den))).toArray⟩,.string ⟨(rD (mkRat (sg false ((x.num.natAbs * y.den)+(y.num.natAbs * x.den))) (x.den * y.den))).toArray⟩] aC ?_;intro w9 hR9 hO9 hB9 hs9
   have hb9:=hB9 _ _ hb (by omega);clear hO9 hB9
   go_wp2
   refine aU rfl rfl (by rfl) Tryz.underlying40 rfl hR9 aC ⟨by rw [HK.out],hb9⟩
  ·skip
   go_upto_region 8 with fail;refine jp ?_;refine jnf hD5 0 aS ?_;refine jnf hD6 0 aS ?_;refine jm (.bool false) ?_;refine dU hb hB0 hB1 hB2 hD5 hD6 fun X8 hX8 hb hB0 hB1 hB2 hD5 hD6=>?_
   rcases Nat.lt_or_ge (x.num.natAbs * y.den) (y.num.natAbs * x.den) with hc|hc
   ·go_upto_region 10 with fail
    refine jp ?_;refine jmm (st (be (x.num.natAbs * y.den))) (st (be (y.num.natAbs * x.den))) ?_;refine jc (vI (bX (((x.num.natAbs * y.den):Nat):Int) (((y.num.natAbs * x.den):Nat):Int))) (fun X hX hF=>mo (oR (be (x.num.natAbs * y.den)) (be (y.num.natAbs * x.den)) X (by first|omega|decide) (by first|omega|decide)) (by rw [aM,aM])) ?_;refine jv (.bool false) (eR _ _ _ _ (by rfl) .i64 (bX (((x.num.natAbs * y.den):Nat):Int) (((y.num.natAbs * x.den):Nat):Int)) 0 (by rfl) (by rfl) false (by rw [eB (by omega)];rfl)) ?_;refine dU hb hB0 hB1 hB2 hD5 hD6 fun X9 hX9 hb hB0 hB1 hB2 hD5 hD6=>?_
    have HK:Hid (mkRat (sg true ((y.num.natAbs * x.den)-(x.num.natAbs * y.den))) (x.den * y.den)=x+y):=by
     show _=_
     rw [HKY.out];exact congrArg (mkRat · _) (iN (by decide) hc).symm
    go_upto_region 12 with fail;refine bD [] (by kernel_rfl) (by kernel_rfl) (by kernel_rfl) rfl (aH) ?_;simp only [its,List.dropLast,Nat.zero_add,Nat.reduceAdd];refine jnf hD6 0 aS ?_;refine jmm (st (be (y.num.natAbs * x.den))) (st (be (x.num.natAbs * y.den))) ?_;refine jc (.agg #[st (be ((y.num.natAbs * x.den)-(x.num.natAbs * y.den))),vI 0]) (fun X hX hF=>mo (sX (be (y.num.natAbs * x.den)) (be (x.num.natAbs * y.den)) X (by first|omega|decide) (by first|omega|decide) (by rw [aM,aM];omega)) (by rw [aM,aM])) ?_;refine jmm (st (be ((y.num.natAbs * x.den)-(x.num.natAbs * y.den)))) (st (be (x.den * y.den))) ?_;refine jc (.agg #[.bool (rN (mkRat (sg true ((y.num.natAbs * x.den)-(x.num.natAbs * y.den))) (x.den * y.den))),st (rP (mkRat (sg true ((y.num.natAbs * x.den)-(x.num.natAbs * y.den))) (x.den * y.den))),st (rD (mkRat (sg true ((y.num.natAbs * x.den)-(x.num.natAbs * y.den))) (x.den * y.den)))]) (fun X hX hF=>yM true ((y.num.natAbs * x.den)-(x.num.natAbs * y.den)) (x.den * y.den) X HDP.out (by first|omega|decide) (by first|omega|decide)) ?_;refine dU hb hB0 hB1 hB2 hD5 hD6 fun X10 hX10 hb hB0 hB1 hB2 hD5 hD6=>?_;refine osb 40 4 68 (w.heap.size+2) 40 hB2 [.bool (rN (mkRat (sg true ((y.num.natAbs * x.den)-(x.num.natAbs * y.den))) (x.den * y.den))),.string ⟨(rP (mkRat (sg true ((y.num.natAbs * x.den)-(x.num.natAbs * y.den))) (x.den * y.den))).toArray⟩,.string ⟨(rD (mkRat (sg true ((y.num.natAbs * x.den)-(x.num.natAbs * y.den))) (x.den * y.den))).toArray⟩] aC ?_
    intro w9 hR9 hO9 hB9 hs9;have hb9:=hB9 _ _ hb (by omega);clear hO9 hB9
    go_wp2
    refine aU rfl rfl (by rfl) Tryz.underlying40 rfl hR9 aC ⟨by rw [HK.out],hb9⟩
   ·go_upto_region 10 with fail
    refine jp ?_;refine jmm (st (be (x.num.natAbs * y.den))) (st (be (y.num.natAbs * x.den))) ?_;refine jc (vI (bX (((x.num.natAbs * y.den):Nat):Int) (((y.num.natAbs * x.den):Nat):Int))) (fun X hX hF=>mo (oR (be (x.num.natAbs * y.den)) (be (y.num.natAbs * x.den)) X (by first|omega|decide) (by first|omega|decide)) (by rw [aM,aM])) ?_;refine jv (.bool true) (eR _ _ _ _ (by rfl) .i64 (bX (((x.num.natAbs * y.den):Nat):Int) (((y.num.natAbs * x.den):Nat):Int)) 0 (by rfl) (by rfl) true (decide_eq_true (by unfold bX;split;omega;split <;> omega))) ?_;refine dU hb hB0 hB1 hB2 hD5 hD6 fun X9 hX9 hb hB0 hB1 hB2 hD5 hD6=>?_
    have HK:Hid (mkRat (sg false ((x.num.natAbs * y.den)-(y.num.natAbs * x.den))) (x.den * y.den)=x+y):=by
     show _=_
     rw [HKY.out];exact congrArg (mkRat · _) (iO (by decide) hc).symm
    go_upto_region 11 with fail;refine bD [] (by kernel_rfl) (by kernel_rfl) (by kernel_rfl) rfl (aH) ?_;simp only [its,List.dropLast,Nat.zero_add,Nat.reduceAdd];refine jnf hD5 0 aS ?_;refine jmm (st (be (x.num.natAbs * y.den))) (st (be (y.num.natAbs * x.den))) ?_;refine jc (.agg #[st (be ((x.num.natAbs * y.den)-(y.num.natAbs * x.den))),vI 0]) (fun X hX hF=>mo (sX (be (x.num.natAbs * y.den)) (be (y.num.natAbs * x.den)) X (by first|omega|decide) (by first|omega|decide) (by rw [aM,aM];omega)) (by rw [aM,aM])) ?_;refine jmm (st (be ((x.num.natAbs * y.den)-(y.num.natAbs * x.den)))) (st (be (x.den * y.den))) ?_;refine jc (.agg #[.bool (rN (mkRat (sg false ((x.num.natAbs * y.den)-(y.num.natAbs * x.den))) (x.den * y.den))),st (rP (mkRat (sg false ((x.num.natAbs * y.den)-(y.num.natAbs * x.den))) (x.den * y.den))),st (rD (mkRat (sg false ((x.num.natAbs * y.den)-(y.num.natAbs * x.den))) (x.den * y.den)))]) (fun X hX hF=>yM false ((x.num.natAbs * y.den)-(y.num.natAbs * x.den)) (x.den * y.den) X HDP.out (by first|omega|decide) (by first|omega|decide)) ?_;refine dU hb hB0 hB1 hB2 hD5 hD6 fun X10 hX10 hb hB0 hB1 hB2 hD5 hD6=>?_;refine osb 40 4 60 (w.heap.size+2) 40 hB2 [.bool (rN (mkRat (sg false ((x.num.natAbs * y.den)-(y.num.natAbs * x.den))) (x.den * y.den))),.string ⟨(rP (mkRat (sg false ((x.num.natAbs * y.den)-(y.num.natAbs * x.den))) (x.den * y.den))).toArray⟩,.string ⟨(rD (mkRat (sg false ((x.num.natAbs * y.den)-(y.num.natAbs * x.den))) (x.den * y.den))).toArray⟩] aC ?_
    intro w9 hR9 hO9 hB9 hs9;have hb9:=hB9 _ _ hb (by omega);clear hO9 hB9
    go_wp2
    refine aU rfl rfl (by rfl) Tryz.underlying40 rfl hR9 aC ⟨by rw [HK.out],hb9⟩
 ·skip
  rcases k with _|_
  ·skip
   go_upto_region 8 with fail;refine jp ?_;refine jnf hD5 0 aS ?_;refine jnf hD6 0 aS ?_;refine jm (.bool false) ?_;refine dU hb hB0 hB1 hB2 hD5 hD6 fun X8 hX8 hb hB0 hB1 hB2 hD5 hD6=>?_
   rcases Nat.lt_or_ge (x.num.natAbs * y.den) (y.num.natAbs * x.den) with hc|hc
   ·go_upto_region 10 with fail
    refine jp ?_;refine jmm (st (be (x.num.natAbs * y.den))) (st (be (y.num.natAbs * x.den))) ?_;refine jc (vI (bX (((x.num.natAbs * y.den):Nat):Int) (((y.num.natAbs * x.den):Nat):Int))) (fun X hX hF=>mo (oR (be (x.num.natAbs * y.den)) (be (y.num.natAbs * x.den)) X (by first|omega|decide) (by first|omega|decide)) (by rw [aM,aM])) ?_;refine jv (.bool false) (eR _ _ _ _ (by rfl) .i64 (bX (((x.num.natAbs * y.den):Nat):Int) (((y.num.natAbs * x.den):Nat):Int)) 0 (by rfl) (by rfl) false (by rw [eB (by omega)];rfl)) ?_;refine dU hb hB0 hB1 hB2 hD5 hD6 fun X9 hX9 hb hB0 hB1 hB2 hD5 hD6=>?_
    have HK:Hid (mkRat (sg false ((y.num.natAbs * x.den)-(x.num.natAbs * y.den))) (x.den * y.den)=x+y):=by
     show _=_
     rw [HKY.out];exact congrArg (mkRat · _) (iN (by decide) hc).symm
    go_upto_region 12 with fail;refine bD [] (by kernel_rfl) (by kernel_rfl) (by kernel_rfl) rfl (aH) ?_;simp only [its,List.dropLast,Nat.zero_add,Nat.reduceAdd];refine jnf hD6 0 aS ?_;refine jmm (st (be (y.num.natAbs * x.den))) (st (be (x.num.natAbs * y.den))) ?_;refine jc (.agg #[st (be ((y.num.natAbs * x.den)-(x.num.natAbs * y.den))),vI 0]) (fun X hX hF=>mo (sX (be (y.num.natAbs * x.den)) (be (x.num.natAbs * y.den)) X (by first|omega|decide) (by first|omega|decide) (by rw [aM,aM];omega)) (by rw [aM,aM])) ?_;refine jmm (st (be ((y.num.natAbs * x.den)-(x.num.natAbs * y.den)))) (st (be (x.den * y.den))) ?_;refine jc (.agg #[.bool (rN (mkRat (sg false ((y.num.natAbs * x.den)-(x.num.natAbs * y.den))) (x.den * y.den))),st (rP (mkRat (sg false ((y.num.natAbs * x.den)-(x.num.natAbs * y.den))) (x.den * y.den))),st (rD (mkRat (sg false ((y.num.natAbs * x.den)-(x.num.natAbs * y.den))) (x.den * y.den)))]) (fun X hX hF=>yM false ((y.num.natAbs * x.den)-(x.num.natAbs * y.den)) (x.den * y.den) X HDP.out (by first|omega|decide) (by first|omega|decide)) ?_;refine dU hb hB0 hB1 hB2 hD5 hD6 fun X10 hX10 hb hB0 hB1 hB2 hD5 hD6=>?_;refine osb 40 4 68 (w.heap.size+2) 40 hB2 [.bool (rN (mkRat (sg false ((y.num.natAbs * x.den)-(x.num.natAbs * y.den))) (x.den * y.den))),.string ⟨(rP (mkRat (sg false ((y.num.natAbs * x.den)-(x.num.natAbs * y.den))) (x.den * y.den))).toArray⟩,.string ⟨(rD (mkRat (sg false ((y.num.natAbs * x.den)-(x.num.natAbs * y.den))) (x.den * y.den))).toArray⟩] aC ?_
    intro w9 hR9 hO9 hB9 hs9;have hb9:=hB9 _ _ hb (by omega);clear hO9 hB9
    go_wp2
    refine aU rfl rfl (by rfl) Tryz.underlying40 rfl hR9 aC ⟨by rw [HK.out],hb9⟩
   ·go_upto_region 10 with fail
    refine jp ?_;refine jmm (st (be (x.num.natAbs * y.den))) (st (be (y.num.natAbs * x.den))) ?_;refine jc (vI (bX (((x.num.natAbs * y.den):Nat):Int) (((y.num.natAbs * x.den):Nat):Int))) (fun X hX hF=>mo (oR (be (x.num.natAbs * y.den)) (be (y.num.natAbs * x.den)) X (by first|omega|decide) (by first|omega|decide)) (by rw [aM,aM])) ?_;refine jv (.bool true) (eR _ _ _ _ (by rfl) .i64 (bX (((x.num.natAbs * y.den):Nat):Int) (((y.num.natAbs * x.den):Nat):Int)) 0 (by rfl) (by rfl) true (decide_eq_true (by unfold bX;split;omega;split <;> omega))) ?_;refine dU hb hB0 hB1 hB2 hD5 hD6 fun X9 hX9 hb hB0 hB1 hB2 hD5 hD6=>?_
    have HK:Hid (mkRat (sg true ((x.num.natAbs * y.den)-(y.num.natAbs * x.den))) (x.den * y.den)=x+y):=by
     show _=_
     rw [HKY.out];exact congrArg (mkRat · _) (iO (by decide) hc).symm
    go_upto_region 11 with fail;refine bD [] (by kernel_rfl) (by kernel_rfl) (by kernel_rfl) rfl (aH) ?_;simp only [its,List.dropLast,Nat.zero_add,Nat.reduceAdd];refine jnf hD5 0 aS ?_;refine jmm (st (be (x.num.natAbs * y.den))) (st (be (y.num.natAbs * x.den))) ?_;refine jc (.agg #[st (be ((x.num.natAbs * y.den)-(y.num.natAbs * x.den))),vI 0]) (fun X hX hF=>mo (sX (be (x.num.natAbs * y.den)) (be (y.num.natAbs * x.den)) X (by first|omega|decide) (by first|omega|decide) (by rw [aM,aM];omega)) (by rw [aM,aM])) ?_;refine jmm (st (be ((x.num.natAbs * y.den)-(y.num.natAbs * x.den)))) (st (be (x.den * y.den))) ?_;refine jc (.agg #[.bool (rN (mkRat (sg true ((x.num.natAbs * y.den)-(y.num.natAbs * x.den))) (x.den * y.den))),st (rP (mkRat (sg true ((x.num.natAbs * y.den)-(y.num.natAbs * x.den))) (x.den * y.den))),st (rD (mkRat (sg true ((x.num.natAbs * y.den)-(y.num.natAbs * x.den))) (x.den * y.den)))]) (fun X hX hF=>yM true ((x.num.natAbs * y.den)-(y.num.natAbs * x.den)) (x.den * y.den) X HDP.out (by first|omega|decide) (by first|omega|decide)) ?_;refine dU hb hB0 hB1 hB2 hD5 hD6 fun X10 hX10 hb hB0 hB1 hB2 hD5 hD6=>?_;refine osb 40 4 60 (w.heap.size+2) 40 hB2 [.bool (rN (mkRat (sg true ((x.num.natAbs * y.den)-(y.num.natAbs * x.den))) (x.den * y.den))),.string ⟨(rP (mkRat (sg true ((x.num.natAbs * y.den)-(y.num.natAbs * x.den))) (x.den * y.den))).toArray⟩,.string ⟨(rD (mkRat (sg true ((x.num.natAbs * y.den)-(y.num.natAbs * x.den))) (x.den * y.den))).toArray⟩] aC ?_
    intro w9 hR9 hO9 hB9 hs9;have hb9:=hB9 _ _ hb (by omega);clear hO9 hB9
    go_wp2
    refine aU rfl rfl (by rfl) Tryz.underlying40 rfl hR9 aC ⟨by rw [HK.out],hb9⟩
  ·skip
   go_upto_region 8 with fail;refine jp ?_;refine jnf hD5 0 aS ?_;refine jnf hD6 0 aS ?_;refine jm (.bool true) ?_;refine dU hb hB0 hB1 hB2 hD5 hD6 fun X8 hX8 hb hB0 hB1 hB2 hD5 hD6=>?_
   have HK:Hid (mkRat (sg true ((x.num.natAbs * y.den)+(y.num.natAbs * x.den))) (x.den * y.den)=x+y):=by
    show _=_
    rw [HKY.out];exact congrArg (mkRat · _) (fV _ _ _).symm
   go_upto_region 9 with fail;refine bD [] (by kernel_rfl) (by kernel_rfl) (by kernel_rfl) rfl (aH) ?_;simp only [its,List.dropLast,Nat.zero_add,Nat.reduceAdd];refine jnf hD5 0 aS ?_;refine jmm (st (be (x.num.natAbs * y.den))) (st (be (y.num.natAbs * x.den))) ?_;refine jc (st (be ((x.num.natAbs * y.den)+(y.num.natAbs * x.den)))) (fun X hX hF=>mo (vQn (be (x.num.natAbs * y.den)) (be (y.num.natAbs * x.den)) X (by first|omega|decide) (by first|omega|decide)) (by rw [aM,aM])) ?_;refine jm (st (be (x.den * y.den))) ?_;refine jc (.agg #[.bool (rN (mkRat (sg true ((x.num.natAbs * y.den)+(y.num.natAbs * x.den))) (x.den * y.den))),st (rP (mkRat (sg true ((x.num.natAbs * y.den)+(y.num.natAbs * x.den))) (x.den * y.den))),st (rD (mkRat (sg true ((x.num.natAbs * y.den)+(y.num.natAbs * x.den))) (x.den * y.den)))]) (fun X hX hF=>yM true ((x.num.natAbs * y.den)+(y.num.natAbs * x.den)) (x.den * y.den) X HDP.out (by first|omega|decide) (by first|omega|decide)) ?_;refine dU hb hB0 hB1 hB2 hD5 hD6 fun X9 hX9 hb hB0 hB1 hB2 hD5 hD6=>?_;refine osb 40 4 48 (w.heap.size+2) 40 hB2 [.bool (rN (mkRat (sg true ((x.num.natAbs * y.den)+(y.num.natAbs * x.den))) (x.den * y.den))),.string ⟨(rP (mkRat (sg true ((x.num.natAbs * y.den)+(y.num.natAbs * x.den))) (x.den * y.den))).toArray⟩,.string ⟨(rD (mkRat (sg true ((x.num.natAbs * y.den)+(y.num.natAbs * x.den))) (x.den * y.den))).toArray⟩] aC ?_;intro w9 hR9 hO9 hB9 hs9
   have hb9:=hB9 _ _ hb (by omega);clear hO9 hB9
   go_wp2
   refine aU rfl rfl (by rfl) Tryz.underlying40 rfl hR9 aC ⟨by rw [HK.out],hb9⟩
theorem vZj (n:Bool) (p q:List UInt8) (n':Bool) (p' q':List UInt8) {x:Rat} (hx:rq n p q=x) {y:Rat} (hy:rq n' p' q'=y) (w:World) (h:tz p q 1000000) (h':tz p' q' 1000000):Calls Tryz.prog 47 #[.agg #[.bool n,vS p,vS q],.agg #[.bool n',vS p',vS q']] w fun e w'=>e=.returned (rbv (x+y))∧Since w w':=by
 have sx:=gQ hx h;have sy:=gQ hy h';have key:=vW (rN x) (rN y) x.num.natAbs y.num.natAbs (Nat.pos_of_ne_zero x.den_nz) (Nat.pos_of_ne_zero y.den_nz);rw [lV,lV] at key;exact add5 n p q n' p' q' x y (rN x) (rN y) hx hy w h h' sx sy rfl rfl key
theorem oY (b k:Nat) (X:World) (v:Value) (h:X.cell? ⟨b,k,none⟩=some v):(loadVar 31 ⟨b,k,none⟩).run Tryz.prog X=.ok v X:=by
 go_simp
theorem vXw (n:Bool) (p q:List UInt8) (x:Rat) (HX:Hid (rq n p q=x)) (w:World) (h:tz p q 1000000) (HM:Hid (rN x=false)) (HE:Hid (rP x=[])) (HK:Hid (-x=x)):Calls Tryz.prog 45 #[.agg #[.bool n,vS p,vS q]] w fun e w'=>e=.returned (rbv (-x))∧Since w w':=by
 go_enter Tryz.func45,Tryz.ntmps45
 go_upto_region 1 with fail;obtain ⟨W0,hW0,hB0,hB1,hb⟩:=cV w 40 40 [.bool n,vS p,vS q] [.bool false,.string ⟨#[]⟩,.string ⟨#[]⟩];rw [← hW0];clear hW0;refine jq 2 ?_;refine ja hB0 Tryz.underlying40 (by rfl) aC ?_;refine jc (rt false (rP x) (rD x)) (fun X hX hF=>mo (pQ n p q HX.out X h) (by rw [oS HM.out])) ?_;refine aN hb hB0 hB1 fun X1 hX1 hb hB0 hB1=>?_;go_upto_region 2 with (refine osn 40 3 5 #[.bool false,vS (rP x),vS (rD x)] aC ?_);obtain ⟨Y1,hY9,hD3,hS9⟩:=aT X1 40 [.bool false,vS (rP x),vS (rD x)];rw [← hY9];clear hY9;have hgs3:=hb.size;have hlt3x0:=hB0.lt;have hlt3x1:=hB1.lt;obtain ⟨hB0,hB1⟩:=bl2 hS9 hB0 hB1;have hb:=aI hb hS9;clear hS9;generalize X1.heap.size=g3 at *;refine jp ?_;refine jnf hD3 1 aG ?_;refine jv (.bool false) (cU _ _ _ _ (by rfl) (rP x) ([]:List UInt8) (by rfl) (by rfl) false (wQ HE.out)) ?_;refine bE hb hB0 hB1 hD3 fun X2 hX2 hb hB0 hB1 hD3=>?_;go_upto_region 4 with fail;refine jq 1 ?_;refine ja hD3 Tryz.underlying40 (by rfl) aC ?_;refine bE hb hB0 hB1 hD3 fun X3 hX3 hb hB0 hB1 hD3=>?_;refine osb 40 2 13 (w.heap.size+1) 40 hB1 [.bool false,vS (rP x),vS (rD x)] aC ?_;intro w9 hR9 hO9 hB9 hs9;have hb9:=hB9 _ _ hb (by omega);clear hO9 hB9
 go_wp2
 refine aU rfl rfl (by rfl) Tryz.underlying40 rfl hR9 aC ⟨by rw [HK.out,oS HM.out],hb9⟩
theorem yK (n:Bool) (p q:List UInt8) (x:Rat) (HX:Hid (rq n p q=x)) (w:World) (h:tz p q 1000000) (HM:Hid (rN x=true)) (HE:Hid (rP x≠[])) (HK:Hid (rN (-x)=false∧rP (-x)=rP x∧rD (-x)=rD x)):Calls Tryz.prog 45 #[.agg #[.bool n,vS p,vS q]] w fun e w'=>e=.returned (rbv (-x))∧Since w w':=by
 go_enter Tryz.func45,Tryz.ntmps45
 go_upto_region 1 with fail;obtain ⟨W0,hW0,hB0,hB1,hb⟩:=cV w 40 40 [.bool n,vS p,vS q] [.bool false,.string ⟨#[]⟩,.string ⟨#[]⟩];rw [← hW0];clear hW0;refine jq 2 ?_;refine ja hB0 Tryz.underlying40 (by rfl) aC ?_;refine jc (rt true (rP x) (rD x)) (fun X hX hF=>mo (pQ n p q HX.out X h) (by rw [oS HM.out])) ?_;refine aN hb hB0 hB1 fun X1 hX1 hb hB0 hB1=>?_;go_upto_region 2 with (refine osn 40 3 5 #[.bool true,vS (rP x),vS (rD x)] aC ?_);obtain ⟨Y1,hY9,hD3,hS9⟩:=aT X1 40 [.bool true,vS (rP x),vS (rD x)];rw [← hY9];clear hY9;have hgs3:=hb.size;have hlt3x0:=hB0.lt;have hlt3x1:=hB1.lt;obtain ⟨hB0,hB1⟩:=bl2 hS9 hB0 hB1;have hb:=aI hb hS9;clear hS9;generalize X1.heap.size=g3 at *;refine jp ?_;refine jnf hD3 1 aG ?_;refine jv (.bool true) (cU _ _ _ _ (by rfl) (rP x) ([]:List UInt8) (by rfl) (by rfl) true (jJ HE.out)) ?_;refine bE hb hB0 hB1 hD3 fun X2 hX2 hb hB0 hB1 hD3=>?_;go_upto_region 3 with fail;refine jq 4 ?_;refine jnf hD3 0 aS ?_;refine jmn (.bool false) (vP g3 0) ?_;refine bE hb hB0 hB1 hD3 fun X3 hX3 hb hB0 hB1 hD3=>?_;refine fN rfl g3 0 40 _ hD3 (.bool false) (by simp) (fun X u h1 h2=>eI _ _ (by rfl) _ _ (by rfl) (by rfl) u X h1 h2) ?_;intro w5 hR5 hO5 hB5;have hb:=hB5 _ _ hb (by omega);have hB0:=hO5 _ _ _ (by omega) hB0;have hB1:=hO5 _ _ _ (by omega) hB1
 have hD3:=hR5;clear hR5 hO5 hB5;go_upto_region 4 with fail;refine jq 1 ?_;refine ja hD3 Tryz.underlying40 (by rfl) aC ?_;refine bE hb hB0 hB1 hD3 fun X4 hX4 hb hB0 hB1 hD3=>?_;refine osb 40 2 13 (w.heap.size+1) 40 hB1 [.bool false,vS (rP x),vS (rD x)] aC ?_;intro w9 hR9 hO9 hB9 hs9;have hb9:=hB9 _ _ hb (by omega);clear hO9 hB9
 go_wp2
 refine aU rfl rfl (by rfl) Tryz.underlying40 rfl hR9 aC ⟨by rw [jS HK.out],hb9⟩
theorem uR (n:Bool) (p q:List UInt8) (x:Rat) (HX:Hid (rq n p q=x)) (w:World) (h:tz p q 1000000) (HM:Hid (rN x=false)) (HE:Hid (rP x≠[])) (HK:Hid (rN (-x)=true∧rP (-x)=rP x∧rD (-x)=rD x)):Calls Tryz.prog 45 #[.agg #[.bool n,vS p,vS q]] w fun e w'=>e=.returned (rbv (-x))∧Since w w':=by
 go_enter Tryz.func45,Tryz.ntmps45
 go_upto_region 1 with fail;obtain ⟨W0,hW0,hB0,hB1,hb⟩:=cV w 40 40 [.bool n,vS p,vS q] [.bool false,.string ⟨#[]⟩,.string ⟨#[]⟩];rw [← hW0];clear hW0;refine jq 2 ?_;refine ja hB0 Tryz.underlying40 (by rfl) aC ?_;refine jc (rt false (rP x) (rD x)) (fun X hX hF=>mo (pQ n p q HX.out X h) (by rw [oS HM.out])) ?_;refine aN hb hB0 hB1 fun X1 hX1 hb hB0 hB1=>?_;go_upto_region 2 with (refine osn 40 3 5 #[.bool false,vS (rP x),vS (rD x)] aC ?_);obtain ⟨Y1,hY9,hD3,hS9⟩:=aT X1 40 [.bool false,vS (rP x),vS (rD x)];rw [← hY9];clear hY9;have hgs3:=hb.size;have hlt3x0:=hB0.lt;have hlt3x1:=hB1.lt;obtain ⟨hB0,hB1⟩:=bl2 hS9 hB0 hB1;have hb:=aI hb hS9;clear hS9;generalize X1.heap.size=g3 at *;refine jp ?_;refine jnf hD3 1 aG ?_;refine jv (.bool true) (cU _ _ _ _ (by rfl) (rP x) ([]:List UInt8) (by rfl) (by rfl) true (jJ HE.out)) ?_;refine bE hb hB0 hB1 hD3 fun X2 hX2 hb hB0 hB1 hD3=>?_;go_upto_region 3 with fail;refine jq 4 ?_;refine jnf hD3 0 aS ?_;refine jmn (.bool true) (vP g3 0) ?_;refine bE hb hB0 hB1 hD3 fun X3 hX3 hb hB0 hB1 hD3=>?_;refine fN rfl g3 0 40 _ hD3 (.bool true) (by simp) (fun X u h1 h2=>eI _ _ (by rfl) _ _ (by rfl) (by rfl) u X h1 h2) ?_;intro w5 hR5 hO5 hB5;have hb:=hB5 _ _ hb (by omega);have hB0:=hO5 _ _ _ (by omega) hB0;have hB1:=hO5 _ _ _ (by omega) hB1
 have hD3:=hR5;clear hR5 hO5 hB5;go_upto_region 4 with fail;refine jq 1 ?_;refine ja hD3 Tryz.underlying40 (by rfl) aC ?_;refine bE hb hB0 hB1 hD3 fun X4 hX4 hb hB0 hB1 hD3=>?_;refine osb 40 2 13 (w.heap.size+1) 40 hB1 [.bool true,vS (rP x),vS (rD x)] aC ?_;intro w9 hR9 hO9 hB9 hs9;have hb9:=hB9 _ _ hb (by omega);clear hO9 hB9
 go_wp2
 refine aU rfl rfl (by rfl) Tryz.underlying40 rfl hR9 aC ⟨by rw [jS HK.out],hb9⟩
theorem qZh (n:Bool) (p q:List UInt8) {x:Rat} (hx:rq n p q=x) (w:World) (h:tz p q 1000000):Calls Tryz.prog 45 #[.agg #[.bool n,vS p,vS q]] w fun e w'=>e=.returned (rbv (-x))∧Since w w':=by
 by_cases h0:x=0
 ·exact vXw n p q x hx w h (by rw [h0];rfl) (by rw [h0];rfl) (show -x=x by rw [h0];rfl)
 ·have he:rP x≠[]:=fun h9=>h0 ((iP x).1 (be_nil.1 h9))
  have hn:x.num≠0:=fun h9=>h0 ((iP x).1 (by rw [h9];rfl))
  have h2:rP (-x)=rP x:=by unfold rP;rw [Rat.neg_num,Int.natAbs_neg]
  have h3:rD (-x)=rD x:=by
   unfold rD
   rw [Rat.neg_num,Rat.neg_den,if_neg hn,if_neg (by omega)]
  rcases hm:rN x with _|_
  ·refine uR n p q x hx w h hm he ⟨?_,h2,h3⟩
   unfold rN at hm ⊢
   rw [Rat.neg_num];have:=of_decide_eq_false hm;exact decide_eq_true (by omega)
  ·refine yK n p q x hx w h hm he ⟨?_,h2,h3⟩
   unfold rN at hm ⊢
   rw [Rat.neg_num];have:=of_decide_eq_true hm;exact decide_eq_false (by omega)
theorem sub5 (n:Bool) (p q:List UInt8) (n':Bool) (p' q':List UInt8) (x y:Rat) (HX:Hid (rq n p q=x)) (HY:Hid (rq n' p' q'=y)) (w:World) (h:tz p q 1000000) (h':tz p' q' 1000000) (sy:szR (-y) 1000000):Calls Tryz.prog 43 #[.agg #[.bool n,vS p,vS q],.agg #[.bool n',vS p',vS q']] w fun e w'=>e=.returned (rbv (x-y))∧Since w w':=by
 go_enter Tryz.func43,Tryz.ntmps43
 go_upto_region 1 with fail;obtain ⟨W0,hW0,hB0,hB1,hB2,hb⟩:=dO w 40 40 40 [.bool n,vS p,vS q] [.bool n',vS p',vS q'] [.bool false,.string ⟨#[]⟩,.string ⟨#[]⟩];rw [← hW0];clear hW0;refine bD [] (by kernel_rfl) (by kernel_rfl) (by kernel_rfl) rfl (aH) ?_;simp only [its,List.dropLast,Nat.zero_add,Nat.reduceAdd];refine ja hB0 Tryz.underlying40 (by rfl) aC ?_;refine ja hB1 Tryz.underlying40 (by rfl) aC ?_;refine jc (rt (rN (-y)) (rP (-y)) (rD (-y))) (fun X hX hF=>qZh n' p' q' HY.out X h') ?_;refine jc (rt (rN (x+(-y))) (rP (x+(-y))) (rD (x+(-y)))) (fun X hX hF=>vZj n p q (rN (-y)) (rP (-y)) (rD (-y)) HX.out (eM (-y)) X h (tzR sy (by omega))) ?_;refine bE hb hB0 hB1 hB2 fun X1 hX1 hb hB0 hB1 hB2=>?_;refine osb 40 4 8 (w.heap.size+2) 40 hB2 [.bool (rN (x+(-y))),.string ⟨(rP (x+(-y))).toArray⟩,.string ⟨(rD (x+(-y))).toArray⟩] aC ?_;intro w9 hR9 hO9 hB9 hs9;have hb9:=hB9 _ _ hb (by omega);clear hO9 hB9
 go_wp2
 refine aU rfl rfl (by rfl) Tryz.underlying40 rfl hR9 aC ⟨by rw [Rat.sub_eq_add_neg],hb9⟩
theorem subV5 (n:Bool) (p q:List UInt8) (n':Bool) (p' q':List UInt8) {x:Rat} (hx:rq n p q=x) {y:Rat} (hy:rq n' p' q'=y) (w:World) (h:tz p q 1000000) (h':tz p' q' 1000000):Calls Tryz.prog 43 #[.agg #[.bool n,vS p,vS q],.agg #[.bool n',vS p',vS q']] w fun e w'=>e=.returned (rbv (x-y))∧Since w w':=sub5 n p q n' p' q' x y hx hy w h h' (lR (gQ hy h'))
end Go.Proofs.YtjkfchehkpmhkaaGreatDoor

/- The reference of layer 5: clean, lowest, parts, Add. -/
import Derived.Test.YtnfpenhldlfafaaGreatDoorRk
import Derived.Test.YtnfpenhldlfafaaGreatDoorL5a
set_option linter.unusedSimpArgs false
set_option linter.unusedVariables false
set_option maxRecDepth 100000
set_option maxHeartbeats 1600000
namespace Go.Proofs.YtnfpenhldlfafaaGreatDoor
open Go.RowKit
theorem gG {x:Rat} {m:Bool} (h:rN x=m):rbv x=.agg #[.bool m,vS (rP x),vS (rD x)]:=by rw [← h]
theorem qYg {p q:List UInt8} {m:Nat} (h:tz p q m) (hm:m≤4194300:=by omega):p.length≤4194300∧q.length≤4194300:=⟨Nat.le_trans h.1 hm,Nat.le_trans h.2 hm⟩
theorem wA (n:Bool) (p q:List UInt8) {x:Rat} (HX:Hid (rq n p q=x)) (w:World) (h:tz p q 1000000) (HV:Hid (vd n p q=true)):Calls Tryz.prog 83 #[.agg #[.bool n,vS p,vS q]] w fun e w'=>e=.returned (rbv x)∧Since w w':=by
 go_enter Tryz.func83,Tryz.ntmps83
 go_upto_region 1 with fail;obtain ⟨W0,hW0,hB0,hB1,hb⟩:=cH w 23 23 [.bool n,vS p,vS q] zA;rw [← hW0];clear hW0;refine jp ?_;refine aC hB0 ?_;refine jc (.bool true) (fun X hX hF=>mo (uQ n p q X (qYg h).1 (qYg h).2) (by rw [HV.out])) ?_;refine jm (.bool true) ?_;refine bO hb hB0 hB1 fun X1 hX1 hb hB0 hB1=>?_;go_upto_region 2 with fail;refine jp ?_;refine jm (.bool true) ?_;refine bO hb hB0 hB1 fun X2 hX2 hb hB0 hB1=>?_;go_upto_region 3 with fail;refine jq 1 ?_;refine aC hB0 ?_;refine bO hb hB0 hB1 fun X3 hX3 hb hB0 hB1=>?_;refine osb 23 2 7 (w.heap.size+1) 23 hB1 [.bool n,vS p,vS q] aD ?_;intro w9 hR9 hO9 hB9 hs9;have hb9:=hB9 _ _ hb (by omega);clear hO9 hB9
 go_wp2
 refine aK rfl rfl (by rfl) G23 rfl hR9 aD ⟨by rw [qYw HV.out HX.out],hb9⟩
theorem uE (n:Bool) (p q:List UInt8) {x:Rat} (HX:Hid (rq n p q=x)) (w:World) (h:tz p q 1000000) (HV:Hid (vd n p q=false)):Calls Tryz.prog 83 #[.agg #[.bool n,vS p,vS q]] w fun e w'=>e=.returned (rbv x)∧Since w w':=by
 go_enter Tryz.func83,Tryz.ntmps83
 go_upto_region 1 with fail;obtain ⟨W0,hW0,hB0,hB1,hb⟩:=cH w 23 23 [.bool n,vS p,vS q] zA;rw [← hW0];clear hW0;refine jp ?_;refine aC hB0 ?_;refine jc (.bool false) (fun X hX hF=>mo (uQ n p q X (qYg h).1 (qYg h).2) (by rw [HV.out])) ?_;refine jm (.bool false) ?_;refine bO hb hB0 hB1 fun X1 hX1 hb hB0 hB1=>?_;go_upto_region 2 with fail;refine jp ?_;refine jm (.bool false) ?_;refine bO hb hB0 hB1 fun X2 hX2 hb hB0 hB1=>?_;go_upto_region 4 with fail;refine jq 1 ?_;refine jn (rz) ?_;refine bO hb hB0 hB1 fun X3 hX3 hb hB0 hB1=>?_;refine osb 23 2 8 (w.heap.size+1) 23 hB1 zA aD ?_;intro w9 hR9 hO9 hB9 hs9;have hb9:=hB9 _ _ hb (by omega);clear hO9 hB9
 go_wp2
 refine aK rfl rfl (by rfl) G23 rfl hR9 aD ⟨by rw [show x=0 from HX.out.symm.trans (oL HV.out)];rfl,hb9⟩
theorem fB (n:Bool) (p q:List UInt8) {x:Rat} (hx:rq n p q=x) (w:World) (h:tz p q 1000000):Calls Tryz.prog 83 #[.agg #[.bool n,vS p,vS q]] w fun e w'=>e=.returned (rbv x)∧Since w w':=by
 rcases hv:vd n p q with _|_
 ·exact uE n p q hx w h hv
 ·exact wA n p q hx w h hv
theorem vYo (b:Bool) (P D:Nat) (w:World) (hd:0<D) (hP:(be P).length≤4194300) (hD:(be D).length≤4194300) (h0:P=0):Calls Tryz.prog 87 #[.bool b,vS (be P),vS (be D)] w fun e w'=>e=.returned (rbv (mkRat (sg b P) D))∧Since w w':=by
 have HE:Hid (be P=[]):=be_nil.2 h0
 have HX:Hid (mkRat (sg b P) D=0):=by show _=_;rw [h0,kD]
 clear h0
 go_enter Tryz.func87,Tryz.ntmps87
 go_upto_region 1 with fail;obtain ⟨W0,hW0,hB0,hb⟩:=bW w 23 zA;rw [← hW0];clear hW0;refine jp ?_;refine jm (st (be P)) ?_;refine jc (st (be P)) (fun X hX hF=>mo (dG (be P) X (by omega)) (by rw [aL])) ?_;refine jm (st (be P)) ?_;refine bJ hb hB0 fun X1 hX1 hb hB0=>?_;go_upto_region 2 with fail;refine jp ?_;refine jm (st (be P)) ?_;refine jv (.bool true) (bF _ _ _ _ (by rfl) (be P) ([]:List UInt8) (by rfl) (by rfl) true (iC HE.out)) ?_;refine bJ hb hB0 fun X2 hX2 hb hB0=>?_;go_upto_region 3 with fail;refine jq 1 ?_;refine jn (rz) ?_;refine bJ hb hB0 fun X3 hX3 hb hB0=>?_;refine osb 23 6 12 w.heap.size 23 hB0 zA aD ?_;intro w9 hR9 hO9 hB9 hs9;have hb9:=hB9 _ _ hb (by omega);clear hO9 hB9
 go_wp2
 refine aK rfl rfl (by rfl) G23 rfl hR9 aD ⟨by rw [HX.out];rfl,hb9⟩
theorem vYp (b:Bool) (P D:Nat) (w:World) (hd:0<D) (hP:(be P).length≤4194300) (hD:(be D).length≤4194300) (h0:0<P):Calls Tryz.prog 87 #[.bool b,vS (be P),vS (be D)] w fun e w'=>e=.returned (rbv (mkRat (sg b P) D))∧Since w w':=by
 have HE:Hid (be P≠[]):=nQ h0;have HX:=Lib.hid (qT b h0 hd);have HGP:Hid (0<(Nat.gcd P D)):=Nat.gcd_pos_of_pos_left D h0;have hgl:=gT (Nat.gcd_le_left D h0);clear h0
 go_enter Tryz.func87,Tryz.ntmps87
 go_upto_region 1 with fail;obtain ⟨W0,hW0,hB0,hb⟩:=bW w 23 zA;rw [← hW0];clear hW0;refine jp ?_;refine jm (st (be P)) ?_;refine jc (st (be P)) (fun X hX hF=>mo (dG (be P) X (by omega)) (by rw [aL])) ?_;refine jm (st (be P)) ?_;refine bJ hb hB0 fun X1 hX1 hb hB0=>?_;go_upto_region 2 with fail;refine jp ?_;refine jm (st (be P)) ?_;refine jv (.bool false) (bF _ _ _ _ (by rfl) (be P) ([]:List UInt8) (by rfl) (by rfl) false (cU HE.out)) ?_;refine bJ hb hB0 fun X2 hX2 hb hB0=>?_;go_upto_region 4 with fail;refine jp ?_;refine jmm (st (be P)) (st (be D)) ?_;refine jc (st (be (Nat.gcd P D))) (fun X hX hF=>mo (qQi (be P) (be D) X (by omega) (by omega)) (by rw [aL,aL])) ?_;refine jm (st (be (Nat.gcd P D))) ?_;refine bJ hb hB0 fun X3 hX3 hb hB0=>?_;go_upto_region 5 with fail;refine jq 10 ?_;refine bZ (.bool b) (st (be P)) (st (be (Nat.gcd P D))) ?_;refine jc (.agg #[st (be (P / (Nat.gcd P D))),st (be (P % (Nat.gcd P D))),vI 0]) (fun X hX hF=>mo (qQm (be P) (be (Nat.gcd P D)) X (by omega) (by omega) (by rw [aL];exact HGP.out)) (by simp only [aL])) ?_;refine bZ (st (be (P / (Nat.gcd P D)))) (st (be D)) (st (be (Nat.gcd P D))) ?_;refine jc (.agg #[st (be (D / (Nat.gcd P D))),st (be (D % (Nat.gcd P D))),vI 0]) (fun X hX hF=>mo (qQm (be D) (be (Nat.gcd P D)) X (by omega) (by omega) (by rw [aL];exact HGP.out)) (by simp only [aL])) ?_;refine jmn (st (be (D / (Nat.gcd P D)))) (rt b (be (P / (Nat.gcd P D))) (be (D / (Nat.gcd P D)))) ?_
 refine bJ hb hB0 fun X4 hX4 hb hB0=>?_;refine osb 23 6 25 w.heap.size 23 hB0 [.bool b,.string ⟨(be (P / (Nat.gcd P D))).toArray⟩,.string ⟨(be (D / (Nat.gcd P D))).toArray⟩] aD ?_;intro w9 hR9 hO9 hB9 hs9;have hb9:=hB9 _ _ hb (by omega);clear hO9 hB9
 go_wp2
 refine aK rfl rfl (by rfl) G23 rfl hR9 aD ⟨by rw [mS HX.out],hb9⟩
theorem mD (b:Bool) (P D:Nat) (w:World) (hd:0<D) (hP:(be P).length≤4194300) (hD:(be D).length≤4194300):Calls Tryz.prog 87 #[.bool b,vS (be P),vS (be D)] w fun e w'=>e=.returned (rbv (mkRat (sg b P) D))∧Since w w':=by
 rcases Nat.eq_zero_or_pos P with h0|h0
 ·exact vYo b P D w hd hP hD h0
 ·exact vYp b P D w hd hP hD h0
theorem qQs (x:Rat) (w:World) (h0:x=0):Calls Tryz.prog 86 #[.agg #[.bool (rN x),vS (rP x),vS (rD x)]] w fun e w'=>e=.returned (.tuple #[vS (be x.num.natAbs),vS (be x.den)])∧Since w w':=by
 have HE:Hid (rP x=[]):=by subst h0;rfl
 have HA:Hid (be x.num.natAbs=[]):=HE
 have HB:Hid (be x.den=[1]):=by show _=_;rw [h0];exact be_one
 clear h0
 go_enter Tryz.func86,Tryz.ntmps86
 go_upto_region 1 with fail;obtain ⟨W0,hW0,hB0,hb⟩:=bW w 23 (zD x);rw [← hW0];clear hW0;refine jp ?_;refine jnf hB0 1 aH ?_;refine jv (.bool true) (bF _ _ _ _ (by rfl) (rP x) ([]:List UInt8) (by rfl) (by rfl) true (iC HE.out)) ?_;refine bJ hb hB0 fun X1 hX1 hb hB0=>?_;go_upto_region 2 with fail;refine jp ?_;refine jmm (st []) (st ([1]:List UInt8)) ?_;refine bJ hb hB0 fun X2 hX2 hb hB0=>?_
 go_wp2
 go_ret2
 exact ⟨by rw [HA.out,HB.out];rfl,hb⟩
theorem qQt (x:Rat) (w:World) (h0:x≠0):Calls Tryz.prog 86 #[.agg #[.bool (rN x),vS (rP x),vS (rD x)]] w fun e w'=>e=.returned (.tuple #[vS (be x.num.natAbs),vS (be x.den)])∧Since w w':=by
 have HE:Hid (rP x≠[]):=fun h9=>h0 ((fC x).1 (be_nil.1 h9))
 have HB:Hid (rD x=be x.den):=by
  show _=_
  unfold rD
  rw [if_neg (fun h9=>h0 ((fC x).1 (by rw [h9];rfl)))]
 clear h0
 go_enter Tryz.func86,Tryz.ntmps86
 go_upto_region 1 with fail;obtain ⟨W0,hW0,hB0,hb⟩:=bW w 23 (zD x);rw [← hW0];clear hW0;refine jp ?_;refine jnf hB0 1 aH ?_;refine jv (.bool false) (bF _ _ _ _ (by rfl) (rP x) ([]:List UInt8) (by rfl) (by rfl) false (cU HE.out)) ?_;refine bJ hb hB0 fun X1 hX1 hb hB0=>?_;go_upto_region 3 with fail;refine jd ?_;refine jnf hB0 1 aH ?_;refine jnf hB0 2 aH ?_;refine jmm (st (rP x)) (st (rD x)) ?_;refine bJ hb hB0 fun X2 hX2 hb hB0=>?_
 go_wp2
 go_ret2
 exact ⟨by rw [← HB.out];rfl,hb⟩
theorem vYb (x:Rat) (w:World):Calls Tryz.prog 86 #[.agg #[.bool (rN x),vS (rP x),vS (rD x)]] w fun e w'=>e=.returned (.tuple #[vS (be x.num.natAbs),vS (be x.den)])∧Since w w':=by
 by_cases h0:x=0
 ·exact qQs x w h0
 ·exact qQt x w h0
theorem iM {x:Rat} {m:Bool} (h:rN x=m) (w:World):Calls Tryz.prog 86 #[.agg #[.bool m,vS (rP x),vS (rD x)]] w fun e w'=>e=.returned (.tuple #[vS (be x.num.natAbs),vS (be x.den)])∧Since w w':=gG h ▸ vYb x w
set_option maxHeartbeats 16000000 in
theorem add5 (n:Bool) (p q:List UInt8) (n':Bool) (p' q':List UInt8) (x y:Rat) (m k:Bool) (HX:Hid (rq n p q=x)) (HY:Hid (rq n' p' q'=y)) (w:World) (h:tz p q 1000000) (h':tz p' q' 1000000) (sx:szR x 1000000) (sy:szR y 1000000) (HM:Hid (rN x=m)) (HN:Hid (rN y=k)) (HKY:Hid (x+y=mkRat (sg m (x.num.natAbs * y.den)+sg k (y.num.natAbs * x.den)) (x.den * y.den))):Calls Tryz.prog 63 #[.agg #[.bool n,vS p,vS q],.agg #[.bool n',vS p',vS q']] w fun e w'=>e=.returned (rbv (x+y))∧Since w w':=by
 have lpe:=bS sx.1 sy.2;have lqd:=bS sy.1 sx.2;have lde:=bS sx.2 sy.2;have lsum:=gU lpe lqd;have l2:=gN (Nat.sub_le (x.num.natAbs * y.den) (y.num.natAbs * x.den)) lpe;have l3:=gN (Nat.sub_le (y.num.natAbs * x.den) (x.num.natAbs * y.den)) lqd;have l4:=sx.1;have l5:=sx.2;have l6:=sy.1;have l7:=sy.2;have HDP:Hid (0<(x.den * y.den)):=Nat.mul_pos (Nat.pos_of_ne_zero x.den_nz) (Nat.pos_of_ne_zero y.den_nz)
 go_enter Tryz.func63,Tryz.ntmps63
 go_upto_region 1 with fail;obtain ⟨W0,hW0,hB0,hB1,hB2,hb⟩:=bN w 23 23 23 [.bool n,vS p,vS q] [.bool n',vS p',vS q'] zA;rw [← hW0];clear hW0;refine jq 2 ?_;refine aC hB0 ?_;refine jc (rt m (rP x) (rD x)) (fun X hX hF=>mo (fB n p q HX.out X h) (by rw [gG HM.out])) ?_;refine aX hb hB0 hB1 hB2 fun X1 hX1 hb hB0 hB1 hB2=>?_;go_upto_region 2 with (refine osm 23 5 15 [.bool m,vS (rP x),vS (rD x)] aD fun Y1 hD5 hS9=>?_);have hgs5:=hb.size;have:=lt3 hB0 hB1 hB2;obtain ⟨hB0,hB1,hB2⟩:=bl3 hS9 hB0 hB1 hB2;have hb:=aF hb hS9;clear hS9;generalize X1.heap.size=g5 at *;refine jq 2 ?_;refine aC hB1 ?_;refine jc (rt k (rP y) (rD y)) (fun X hX hF=>mo (fB n' p' q' HY.out X h') (by rw [gG HN.out])) ?_;refine dI hb hB0 hB1 hB2 hD5 fun X2 hX2 hb hB0 hB1 hB2 hD5=>?_;go_upto_region 3 with (refine osm 23 6 17 [.bool k,vS (rP y),vS (rD y)] aD fun Y2 hD6 hS9=>?_);have hgs6:=hb.size;have:=lt4 hB0 hB1 hB2 hD5;obtain ⟨hB0,hB1,hB2,hD5⟩:=bl4 hS9 hB0 hB1 hB2 hD5;have hb:=aF hb hS9;clear hS9;generalize X2.heap.size=g6 at *;refine jp ?_;refine aC hD5 ?_;refine jc (.tuple #[st (be x.num.natAbs),st (be x.den)]) (fun X hX hF=>iM HM.out X) ?_;refine bZ (.tuple #[st (be x.num.natAbs),st (be x.den)]) (st (be x.num.natAbs)) (st (be x.den)) ?_
 refine jmm (st (be x.num.natAbs)) (st (be x.den)) ?_;refine bU hb hB0 hB1 hB2 hD5 hD6 fun X3 hX3 hb hB0 hB1 hB2 hD5 hD6=>?_;go_upto_region 4 with fail;refine jp ?_;refine aC hD6 ?_;refine jc (.tuple #[st (be y.num.natAbs),st (be y.den)]) (fun X hX hF=>iM HN.out X) ?_;refine bZ (.tuple #[st (be y.num.natAbs),st (be y.den)]) (st (be y.num.natAbs)) (st (be y.den)) ?_;refine jmm (st (be y.num.natAbs)) (st (be y.den)) ?_;refine bU hb hB0 hB1 hB2 hD5 hD6 fun X4 hX4 hb hB0 hB1 hB2 hD5 hD6=>?_;go_upto_region 5 with fail;refine jp ?_;refine jmm (st (be x.num.natAbs)) (st (be y.den)) ?_;refine jc (st (be (x.num.natAbs * y.den))) (fun X hX hF=>mo (kB (be x.num.natAbs) (be y.den) X (by first|omega|decide) (by first|omega|decide)) (by rw [aL,aL])) ?_;refine jm (st (be (x.num.natAbs * y.den))) ?_;refine bU hb hB0 hB1 hB2 hD5 hD6 fun X5 hX5 hb hB0 hB1 hB2 hD5 hD6=>?_;go_upto_region 6 with fail;refine jp ?_;refine jmm (st (be y.num.natAbs)) (st (be x.den)) ?_;refine jc (st (be (y.num.natAbs * x.den))) (fun X hX hF=>mo (kB (be y.num.natAbs) (be x.den) X (by first|omega|decide) (by first|omega|decide)) (by rw [aL,aL])) ?_;refine jm (st (be (y.num.natAbs * x.den))) ?_;refine bU hb hB0 hB1 hB2 hD5 hD6 fun X6 hX6 hb hB0 hB1 hB2 hD5 hD6=>?_;go_upto_region 7 with fail;refine jp ?_;refine jmm (st (be x.den)) (st (be y.den)) ?_;refine jc (st (be (x.den * y.den))) (fun X hX hF=>mo (kB (be x.den) (be y.den) X (by first|omega|decide) (by first|omega|decide)) (by rw [aL,aL])) ?_
 refine jm (st (be (x.den * y.den))) ?_;refine bU hb hB0 hB1 hB2 hD5 hD6 fun X7 hX7 hb hB0 hB1 hB2 hD5 hD6=>?_;go_upto_region 8 with fail
 rcases m with _|_
 ·skip
  rcases k with _|_
  ·skip
   go_upto_region 8 with fail;refine jp ?_;refine jnf hD5 0 aS ?_;refine jnf hD6 0 aS ?_;refine jm (.bool true) ?_;refine bU hb hB0 hB1 hB2 hD5 hD6 fun X8 hX8 hb hB0 hB1 hB2 hD5 hD6=>?_
   have HK:Hid (mkRat (sg false ((x.num.natAbs * y.den)+(y.num.natAbs * x.den))) (x.den * y.den)=x+y):=by
    show _=_
    rw [HKY.out];exact congrArg (mkRat · _) (gF _ _ _).symm
   go_upto_region 9 with fail;refine aN [] (by kernel_rfl) (by kernel_rfl) (by kernel_rfl) rfl (aG) ?_;simp only [its,List.dropLast,Nat.zero_add,Nat.reduceAdd];refine jnf hD5 0 aS ?_;refine jmm (st (be (x.num.natAbs * y.den))) (st (be (y.num.natAbs * x.den))) ?_;refine jc (st (be ((x.num.natAbs * y.den)+(y.num.natAbs * x.den)))) (fun X hX hF=>mo (vQk (be (x.num.natAbs * y.den)) (be (y.num.natAbs * x.den)) X (by first|omega|decide) (by first|omega|decide)) (by rw [aL,aL])) ?_;refine jm (st (be (x.den * y.den))) ?_;refine jc (.agg #[.bool (rN (mkRat (sg false ((x.num.natAbs * y.den)+(y.num.natAbs * x.den))) (x.den * y.den))),st (rP (mkRat (sg false ((x.num.natAbs * y.den)+(y.num.natAbs * x.den))) (x.den * y.den))),st (rD (mkRat (sg false ((x.num.natAbs * y.den)+(y.num.natAbs * x.den))) (x.den * y.den)))]) (fun X hX hF=>mD false ((x.num.natAbs * y.den)+(y.num.natAbs * x.den)) (x.den * y.den) X HDP.out (by first|omega|decide) (by first|omega|decide)) ?_;refine bU hb hB0 hB1 hB2 hD5 hD6 fun X9 hX9 hb hB0 hB1 hB2 hD5 hD6=>?_;refine osb 23 4 48 (w.heap.size+2) 23 hB2 [.bool (rN (mkRat (sg false ((x.num.natAbs * y.den)+(y.num.natAbs * x.den))) (x.den * y.den))),.string ⟨(rP (mkRat (sg false ((x.num.natAbs * y.den)+(y.num.natAbs * x.den))) (x.den * y.den))).toArray⟩,.string ⟨(rD (mkRat (sg false ((x.num.natAbs * y.den)+(y.num.natAbs * x.den))) (x.den * y.den))).toArray⟩] aD ?_;intro w9 hR9 hO9 hB9 hs9
   have hb9:=hB9 _ _ hb (by omega);clear hO9 hB9
   go_wp2
   refine aK rfl rfl (by rfl) G23 rfl hR9 aD ⟨by rw [HK.out],hb9⟩
  ·skip
   go_upto_region 8 with fail;refine jp ?_;refine jnf hD5 0 aS ?_;refine jnf hD6 0 aS ?_;refine jm (.bool false) ?_;refine bU hb hB0 hB1 hB2 hD5 hD6 fun X8 hX8 hb hB0 hB1 hB2 hD5 hD6=>?_
   rcases Nat.lt_or_ge (x.num.natAbs * y.den) (y.num.natAbs * x.den) with hc|hc
   ·go_upto_region 10 with fail
    refine jp ?_;refine jmm (st (be (x.num.natAbs * y.den))) (st (be (y.num.natAbs * x.den))) ?_;refine jc (vI (cB (((x.num.natAbs * y.den):Nat):Int) (((y.num.natAbs * x.den):Nat):Int))) (fun X hX hF=>mo (oX (be (x.num.natAbs * y.den)) (be (y.num.natAbs * x.den)) X (by first|omega|decide) (by first|omega|decide)) (by rw [aL,aL])) ?_;refine jv (.bool false) (fQ _ _ _ _ (by rfl) .i64 (cB (((x.num.natAbs * y.den):Nat):Int) (((y.num.natAbs * x.den):Nat):Int)) 0 (by rfl) (by rfl) false (by rw [eE (by omega)];rfl)) ?_;refine bU hb hB0 hB1 hB2 hD5 hD6 fun X9 hX9 hb hB0 hB1 hB2 hD5 hD6=>?_
    have HK:Hid (mkRat (sg true ((y.num.natAbs * x.den)-(x.num.natAbs * y.den))) (x.den * y.den)=x+y):=by
     show _=_
     rw [HKY.out];exact congrArg (mkRat · _) (iS (by decide) hc).symm
    go_upto_region 12 with fail;refine aN [] (by kernel_rfl) (by kernel_rfl) (by kernel_rfl) rfl (aG) ?_;simp only [its,List.dropLast,Nat.zero_add,Nat.reduceAdd];refine jnf hD6 0 aS ?_;refine jmm (st (be (y.num.natAbs * x.den))) (st (be (x.num.natAbs * y.den))) ?_;refine jc (.agg #[st (be ((y.num.natAbs * x.den)-(x.num.natAbs * y.den))),vI 0]) (fun X hX hF=>mo (tC (be (y.num.natAbs * x.den)) (be (x.num.natAbs * y.den)) X (by first|omega|decide) (by first|omega|decide) (by rw [aL,aL];omega)) (by rw [aL,aL])) ?_;refine jmm (st (be ((y.num.natAbs * x.den)-(x.num.natAbs * y.den)))) (st (be (x.den * y.den))) ?_;refine jc (.agg #[.bool (rN (mkRat (sg true ((y.num.natAbs * x.den)-(x.num.natAbs * y.den))) (x.den * y.den))),st (rP (mkRat (sg true ((y.num.natAbs * x.den)-(x.num.natAbs * y.den))) (x.den * y.den))),st (rD (mkRat (sg true ((y.num.natAbs * x.den)-(x.num.natAbs * y.den))) (x.den * y.den)))]) (fun X hX hF=>mD true ((y.num.natAbs * x.den)-(x.num.natAbs * y.den)) (x.den * y.den) X HDP.out (by first|omega|decide) (by first|omega|decide)) ?_;refine bU hb hB0 hB1 hB2 hD5 hD6 fun X10 hX10 hb hB0 hB1 hB2 hD5 hD6=>?_;refine osb 23 4 68 (w.heap.size+2) 23 hB2 [.bool (rN (mkRat (sg true ((y.num.natAbs * x.den)-(x.num.natAbs * y.den))) (x.den * y.den))),.string ⟨(rP (mkRat (sg true ((y.num.natAbs * x.den)-(x.num.natAbs * y.den))) (x.den * y.den))).toArray⟩,.string ⟨(rD (mkRat (sg true ((y.num.natAbs * x.den)-(x.num.natAbs * y.den))) (x.den * y.den))).toArray⟩] aD ?_
    intro w9 hR9 hO9 hB9 hs9;have hb9:=hB9 _ _ hb (by omega);clear hO9 hB9
    go_wp2
    refine aK rfl rfl (by rfl) G23 rfl hR9 aD ⟨by rw [HK.out],hb9⟩
   ·go_upto_region 10 with fail
    refine jp ?_;refine jmm (st (be (x.num.natAbs * y.den))) (st (be (y.num.natAbs * x.den))) ?_;refine jc (vI (cB (((x.num.natAbs * y.den):Nat):Int) (((y.num.natAbs * x.den):Nat):Int))) (fun X hX hF=>mo (oX (be (x.num.natAbs * y.den)) (be (y.num.natAbs * x.den)) X (by first|omega|decide) (by first|omega|decide)) (by rw [aL,aL])) ?_;refine jv (.bool true) (fQ _ _ _ _ (by rfl) .i64 (cB (((x.num.natAbs * y.den):Nat):Int) (((y.num.natAbs * x.den):Nat):Int)) 0 (by rfl) (by rfl) true (decide_eq_true (by unfold cB;split;omega;split <;> omega))) ?_;refine bU hb hB0 hB1 hB2 hD5 hD6 fun X9 hX9 hb hB0 hB1 hB2 hD5 hD6=>?_
    have HK:Hid (mkRat (sg false ((x.num.natAbs * y.den)-(y.num.natAbs * x.den))) (x.den * y.den)=x+y):=by
     show _=_
     rw [HKY.out];exact congrArg (mkRat · _) (iT (by decide) hc).symm
    go_upto_region 11 with fail;refine aN [] (by kernel_rfl) (by kernel_rfl) (by kernel_rfl) rfl (aG) ?_;simp only [its,List.dropLast,Nat.zero_add,Nat.reduceAdd];refine jnf hD5 0 aS ?_;refine jmm (st (be (x.num.natAbs * y.den))) (st (be (y.num.natAbs * x.den))) ?_;refine jc (.agg #[st (be ((x.num.natAbs * y.den)-(y.num.natAbs * x.den))),vI 0]) (fun X hX hF=>mo (tC (be (x.num.natAbs * y.den)) (be (y.num.natAbs * x.den)) X (by first|omega|decide) (by first|omega|decide) (by rw [aL,aL];omega)) (by rw [aL,aL])) ?_;refine jmm (st (be ((x.num.natAbs * y.den)-(y.num.natAbs * x.den)))) (st (be (x.den * y.den))) ?_;refine jc (.agg #[.bool (rN (mkRat (sg false ((x.num.natAbs * y.den)-(y.num.natAbs * x.den))) (x.den * y.den))),st (rP (mkRat (sg false ((x.num.natAbs * y.den)-(y.num.natAbs * x.den))) (x.den * y.den))),st (rD (mkRat (sg false ((x.num.natAbs * y.den)-(y.num.natAbs * x.den))) (x.den * y.den)))]) (fun X hX hF=>mD false ((x.num.natAbs * y.den)-(y.num.natAbs * x.den)) (x.den * y.den) X HDP.out (by first|omega|decide) (by first|omega|decide)) ?_;refine bU hb hB0 hB1 hB2 hD5 hD6 fun X10 hX10 hb hB0 hB1 hB2 hD5 hD6=>?_;refine osb 23 4 60 (w.heap.size+2) 23 hB2 [.bool (rN (mkRat (sg false ((x.num.natAbs * y.den)-(y.num.natAbs * x.den))) (x.den * y.den))),.string ⟨(rP (mkRat (sg false ((x.num.natAbs * y.den)-(y.num.natAbs * x.den))) (x.den * y.den))).toArray⟩,.string ⟨(rD (mkRat (sg false ((x.num.natAbs * y.den)-(y.num.natAbs * x.den))) (x.den * y.den))).toArray⟩] aD ?_
    intro w9 hR9 hO9 hB9 hs9;have hb9:=hB9 _ _ hb (by omega);clear hO9 hB9
    go_wp2
    refine aK rfl rfl (by rfl) G23 rfl hR9 aD ⟨by rw [HK.out],hb9⟩
 ·skip
  rcases k with _|_
  ·skip
   go_upto_region 8 with fail;refine jp ?_;refine jnf hD5 0 aS ?_;refine jnf hD6 0 aS ?_;refine jm (.bool false) ?_;refine bU hb hB0 hB1 hB2 hD5 hD6 fun X8 hX8 hb hB0 hB1 hB2 hD5 hD6=>?_
   rcases Nat.lt_or_ge (x.num.natAbs * y.den) (y.num.natAbs * x.den) with hc|hc
   ·go_upto_region 10 with fail
    refine jp ?_;refine jmm (st (be (x.num.natAbs * y.den))) (st (be (y.num.natAbs * x.den))) ?_;refine jc (vI (cB (((x.num.natAbs * y.den):Nat):Int) (((y.num.natAbs * x.den):Nat):Int))) (fun X hX hF=>mo (oX (be (x.num.natAbs * y.den)) (be (y.num.natAbs * x.den)) X (by first|omega|decide) (by first|omega|decide)) (by rw [aL,aL])) ?_;refine jv (.bool false) (fQ _ _ _ _ (by rfl) .i64 (cB (((x.num.natAbs * y.den):Nat):Int) (((y.num.natAbs * x.den):Nat):Int)) 0 (by rfl) (by rfl) false (by rw [eE (by omega)];rfl)) ?_;refine bU hb hB0 hB1 hB2 hD5 hD6 fun X9 hX9 hb hB0 hB1 hB2 hD5 hD6=>?_
    have HK:Hid (mkRat (sg false ((y.num.natAbs * x.den)-(x.num.natAbs * y.den))) (x.den * y.den)=x+y):=by
     show _=_
     rw [HKY.out];exact congrArg (mkRat · _) (iS (by decide) hc).symm
    go_upto_region 12 with fail;refine aN [] (by kernel_rfl) (by kernel_rfl) (by kernel_rfl) rfl (aG) ?_;simp only [its,List.dropLast,Nat.zero_add,Nat.reduceAdd];refine jnf hD6 0 aS ?_;refine jmm (st (be (y.num.natAbs * x.den))) (st (be (x.num.natAbs * y.den))) ?_;refine jc (.agg #[st (be ((y.num.natAbs * x.den)-(x.num.natAbs * y.den))),vI 0]) (fun X hX hF=>mo (tC (be (y.num.natAbs * x.den)) (be (x.num.natAbs * y.den)) X (by first|omega|decide) (by first|omega|decide) (by rw [aL,aL];omega)) (by rw [aL,aL])) ?_;refine jmm (st (be ((y.num.natAbs * x.den)-(x.num.natAbs * y.den)))) (st (be (x.den * y.den))) ?_;refine jc (.agg #[.bool (rN (mkRat (sg false ((y.num.natAbs * x.den)-(x.num.natAbs * y.den))) (x.den * y.den))),st (rP (mkRat (sg false ((y.num.natAbs * x.den)-(x.num.natAbs * y.den))) (x.den * y.den))),st (rD (mkRat (sg false ((y.num.natAbs * x.den)-(x.num.natAbs * y.den))) (x.den * y.den)))]) (fun X hX hF=>mD false ((y.num.natAbs * x.den)-(x.num.natAbs * y.den)) (x.den * y.den) X HDP.out (by first|omega|decide) (by first|omega|decide)) ?_;refine bU hb hB0 hB1 hB2 hD5 hD6 fun X10 hX10 hb hB0 hB1 hB2 hD5 hD6=>?_;refine osb 23 4 68 (w.heap.size+2) 23 hB2 [.bool (rN (mkRat (sg false ((y.num.natAbs * x.den)-(x.num.natAbs * y.den))) (x.den * y.den))),.string ⟨(rP (mkRat (sg false ((y.num.natAbs * x.den)-(x.num.natAbs * y.den))) (x.den * y.den))).toArray⟩,.string ⟨(rD (mkRat (sg false ((y.num.natAbs * x.den)-(x.num.natAbs * y.den))) (x.den * y.den))).toArray⟩] aD ?_
    intro w9 hR9 hO9 hB9 hs9;have hb9:=hB9 _ _ hb (by omega);clear hO9 hB9
    go_wp2
    refine aK rfl rfl (by rfl) G23 rfl hR9 aD ⟨by rw [HK.out],hb9⟩
   ·go_upto_region 10 with fail
    refine jp ?_;refine jmm (st (be (x.num.natAbs * y.den))) (st (be (y.num.natAbs * x.den))) ?_;refine jc (vI (cB (((x.num.natAbs * y.den):Nat):Int) (((y.num.natAbs * x.den):Nat):Int))) (fun X hX hF=>mo (oX (be (x.num.natAbs * y.den)) (be (y.num.natAbs * x.den)) X (by first|omega|decide) (by first|omega|decide)) (by rw [aL,aL])) ?_;refine jv (.bool true) (fQ _ _ _ _ (by rfl) .i64 (cB (((x.num.natAbs * y.den):Nat):Int) (((y.num.natAbs * x.den):Nat):Int)) 0 (by rfl) (by rfl) true (decide_eq_true (by unfold cB;split;omega;split <;> omega))) ?_;refine bU hb hB0 hB1 hB2 hD5 hD6 fun X9 hX9 hb hB0 hB1 hB2 hD5 hD6=>?_
    have HK:Hid (mkRat (sg true ((x.num.natAbs * y.den)-(y.num.natAbs * x.den))) (x.den * y.den)=x+y):=by
     show _=_
     rw [HKY.out];exact congrArg (mkRat · _) (iT (by decide) hc).symm
    go_upto_region 11 with fail;refine aN [] (by kernel_rfl) (by kernel_rfl) (by kernel_rfl) rfl (aG) ?_;simp only [its,List.dropLast,Nat.zero_add,Nat.reduceAdd];refine jnf hD5 0 aS ?_;refine jmm (st (be (x.num.natAbs * y.den))) (st (be (y.num.natAbs * x.den))) ?_;refine jc (.agg #[st (be ((x.num.natAbs * y.den)-(y.num.natAbs * x.den))),vI 0]) (fun X hX hF=>mo (tC (be (x.num.natAbs * y.den)) (be (y.num.natAbs * x.den)) X (by first|omega|decide) (by first|omega|decide) (by rw [aL,aL];omega)) (by rw [aL,aL])) ?_;refine jmm (st (be ((x.num.natAbs * y.den)-(y.num.natAbs * x.den)))) (st (be (x.den * y.den))) ?_;refine jc (.agg #[.bool (rN (mkRat (sg true ((x.num.natAbs * y.den)-(y.num.natAbs * x.den))) (x.den * y.den))),st (rP (mkRat (sg true ((x.num.natAbs * y.den)-(y.num.natAbs * x.den))) (x.den * y.den))),st (rD (mkRat (sg true ((x.num.natAbs * y.den)-(y.num.natAbs * x.den))) (x.den * y.den)))]) (fun X hX hF=>mD true ((x.num.natAbs * y.den)-(y.num.natAbs * x.den)) (x.den * y.den) X HDP.out (by first|omega|decide) (by first|omega|decide)) ?_;refine bU hb hB0 hB1 hB2 hD5 hD6 fun X10 hX10 hb hB0 hB1 hB2 hD5 hD6=>?_;refine osb 23 4 60 (w.heap.size+2) 23 hB2 [.bool (rN (mkRat (sg true ((x.num.natAbs * y.den)-(y.num.natAbs * x.den))) (x.den * y.den))),.string ⟨(rP (mkRat (sg true ((x.num.natAbs * y.den)-(y.num.natAbs * x.den))) (x.den * y.den))).toArray⟩,.string ⟨(rD (mkRat (sg true ((x.num.natAbs * y.den)-(y.num.natAbs * x.den))) (x.den * y.den))).toArray⟩] aD ?_
    intro w9 hR9 hO9 hB9 hs9;have hb9:=hB9 _ _ hb (by omega);clear hO9 hB9
    go_wp2
    refine aK rfl rfl (by rfl) G23 rfl hR9 aD ⟨by rw [HK.out],hb9⟩
  ·skip
   go_upto_region 8 with fail;refine jp ?_;refine jnf hD5 0 aS ?_;refine jnf hD6 0 aS ?_;refine jm (.bool true) ?_;refine bU hb hB0 hB1 hB2 hD5 hD6 fun X8 hX8 hb hB0 hB1 hB2 hD5 hD6=>?_
   have HK:Hid (mkRat (sg true ((x.num.natAbs * y.den)+(y.num.natAbs * x.den))) (x.den * y.den)=x+y):=by
    show _=_
    rw [HKY.out];exact congrArg (mkRat · _) (gF _ _ _).symm
   go_upto_region 9 with fail;refine aN [] (by kernel_rfl) (by kernel_rfl) (by kernel_rfl) rfl (aG) ?_;simp only [its,List.dropLast,Nat.zero_add,Nat.reduceAdd];refine jnf hD5 0 aS ?_;refine jmm (st (be (x.num.natAbs * y.den))) (st (be (y.num.natAbs * x.den))) ?_;refine jc (st (be ((x.num.natAbs * y.den)+(y.num.natAbs * x.den)))) (fun X hX hF=>mo (vQk (be (x.num.natAbs * y.den)) (be (y.num.natAbs * x.den)) X (by first|omega|decide) (by first|omega|decide)) (by rw [aL,aL])) ?_;refine jm (st (be (x.den * y.den))) ?_;refine jc (.agg #[.bool (rN (mkRat (sg true ((x.num.natAbs * y.den)+(y.num.natAbs * x.den))) (x.den * y.den))),st (rP (mkRat (sg true ((x.num.natAbs * y.den)+(y.num.natAbs * x.den))) (x.den * y.den))),st (rD (mkRat (sg true ((x.num.natAbs * y.den)+(y.num.natAbs * x.den))) (x.den * y.den)))]) (fun X hX hF=>mD true ((x.num.natAbs * y.den)+(y.num.natAbs * x.den)) (x.den * y.den) X HDP.out (by first|omega|decide) (by first|omega|decide)) ?_;refine bU hb hB0 hB1 hB2 hD5 hD6 fun X9 hX9 hb hB0 hB1 hB2 hD5 hD6=>?_;refine osb 23 4 48 (w.heap.size+2) 23 hB2 [.bool (rN (mkRat (sg true ((x.num.natAbs * y.den)+(y.num.natAbs * x.den))) (x.den * y.den))),.string ⟨(rP (mkRat (sg true ((x.num.natAbs * y.den)+(y.num.natAbs * x.den))) (x.den * y.den))).toArray⟩,.string ⟨(rD (mkRat (sg true ((x.num.natAbs * y.den)+(y.num.natAbs * x.den))) (x.den * y.den))).toArray⟩] aD ?_;intro w9 hR9 hO9 hB9 hs9
   have hb9:=hB9 _ _ hb (by omega);clear hO9 hB9
   go_wp2
   refine aK rfl rfl (by rfl) G23 rfl hR9 aD ⟨by rw [HK.out],hb9⟩
theorem uJ (n:Bool) (p q:List UInt8) (n':Bool) (p' q':List UInt8) {x:Rat} (hx:rq n p q=x) {y:Rat} (hy:rq n' p' q'=y) (w:World) (h:tz p q 1000000) (h':tz p' q' 1000000):Calls Tryz.prog 63 #[.agg #[.bool n,vS p,vS q],.agg #[.bool n',vS p',vS q']] w fun e w'=>e=.returned (rbv (x+y))∧Since w w':=by
 have sx:=dQ hx h;have sy:=dQ hy h';have key:=wE (rN x) (rN y) x.num.natAbs y.num.natAbs (Nat.pos_of_ne_zero x.den_nz) (Nat.pos_of_ne_zero y.den_nz);rw [jU,jU] at key;exact add5 n p q n' p' q' x y (rN x) (rN y) hx hy w h h' sx sy rfl rfl key
end Go.Proofs.YtnfpenhldlfafaaGreatDoor

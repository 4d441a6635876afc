/- reservoir: Fill, Release, Lose. -/
import Derived.Test.YtnfpenhldlfafaaGreatDoorHc41
import Derived.Test.YtnfpenhldlfafaaGreatDoorRk
set_option linter.unusedSimpArgs false
set_option linter.unusedVariables false
set_option maxRecDepth 100000
set_option maxHeartbeats 1600000
namespace Go.Proofs.YtnfpenhldlfafaaGreatDoor
open Go.RowKit
theorem qV {p:Tr} {l:List Ho} (hn:l.length≤8∨20<l.length) (h0:chE p l=0):l.length≤8:=by
 rcases hn with h9|h9
 ·exact h9
 ·have:=(chE_ok.1 h0).few
  omega
theorem Pow.z (B:Nat) (X:World):Pow B pd0 (.agg #[.bool false,.string ⟨#[]⟩,.string ⟨#[]⟩,.slice none 0 0,.slice none 0 0,.bool false,.string ⟨#[]⟩,.string ⟨#[]⟩]) X :=
 ⟨_,_,rfl,⟨rfl,.inl ⟨rfl,rfl⟩⟩,⟨rfl,.inl ⟨rfl,rfl⟩⟩⟩
theorem Tp.map {L M:Value→World→Prop} {e:Int} {v:Value} {X:World} (h:Tp L e v X) (hm:∀ u,L u X→M u X):Tp M e v X:=by
 obtain ⟨u,h1,h2⟩:=h;exact ⟨u,h1,hm u h2⟩
theorem Pow.low {B B':Nat} {d:Pd} {v:Value} {X:World} (h:Pow B d v X) (hB:B'≤B):Pow B' d v X:=by
 obtain ⟨u,z,h1,h2,h3⟩:=h;exact ⟨u,z,h1,h2.mono hB,bI h3 hB⟩
theorem rl1C (k:Nat) (c m s:Rat) (q:Nat) (Aw:Option Addr) (nw cw:Nat) (ws:List Tr) (w:World) (hB:Blk w q 27 [.slice Aw nw cw]) (hr:Rd w 3 (.slice Aw nw cw) nw (fl trc ws)) (hl:ws.length=nw) (hk:k<nw) (ht:tz (xt ws k).2.1 (xt ws k).2.2 1000) (hc:szR c 1000):Calls Tryz.prog 45 #[vI k,.agg #[.bool (rN c),vS (rP c),vS (rD c),.bool (rN m),vS (rP m),vS (rD m),.bool (rN s),vS (rP s),vS (rD s)],vP q 0] w fun e w'=>e=.returned (rbv (bP (trq (xt ws k)) c))∧Since w w':=by
 obtain ⟨bw,ow,rfl,hbw,hcw⟩:=qO hr hl hk;obtain ⟨t,t9⟩:∃ t,t=xt ws k:=⟨_,rfl⟩;rw [← t9] at hcw ht ⊢;clear t9;have hxt:=ht;have hq9:=hB.lt;have LB0:szR c 1000:=hc
 go_enter Tryz.func45,Tryz.ntmps45
 go_upto_region 1 with fail;obtain ⟨W0,hW0,hB0,hB1,hb⟩:=cI w 66 23 [.bool (rN c),vS (rP c),vS (rD c),.bool (rN m),vS (rP m),vS (rD m),.bool (rN s),vS (rP s),vS (rD s)] [.bool false,.string ⟨#[]⟩,.string ⟨#[]⟩];rw [← hW0];clear hW0;replace hB:=hB.bel hb;replace hcw:=hcw.below hb hbw;replace hbw:=Nat.lt_of_lt_of_le hbw hb.size
 change Cl W0 bw (ow+k * 3) [.bool t.1,vS t.2.1,vS t.2.2] at hcw
 refine aT [] (by kernel_rfl) (by kernel_rfl) (by kernel_rfl) rfl (aF) ?_;simp only [its,List.dropLast,Nat.zero_add,Nat.reduceAdd];refine jf _ hB 0 bA ?_;refine jm (vI k) ?_;refine jv (vP bw (ow+k * 3)) (aY Tryz.underlying27 aB _ _ (by rfl) bw (ow) nw cw k (by omega) (by rfl) (by rfl) rfl) ?_;refine jg (.agg #[.bool t.1,st t.2.1,st t.2.2]) (fun X hX hF=>bM 23 _ (by rfl) bw (ow+k * 3) (by rfl) Tryz.underlying23 rfl [.bool t.1,vS t.2.1,vS t.2.2] X (Cl.part (hcw.below hX hbw) 0 _ (by rfl)) aB) ?_;refine jn (vP w.heap.size 0) ?_;refine jg (rt (rN c) (rP c) (rD c)) (fun X hX hF=>aK 23 _ (by rfl) w.heap.size 0 [.bool (rN c),vS (rP c),vS (rD c)] (by rfl) Tryz.underlying23 rfl X (hB0.bel hX) (by rfl) aB) ?_;refine jc (rt (rN (bP (trq t) c)) (rP (bP (trq t) c)) (rD (bP (trq t) c))) (fun X hX hF=>qYl t.1 t.2.1 t.2.2 (rN c) (rP c) (rD c) rfl (bH c) X (hxt.mono (by omega)) (tzR LB0 (by omega))) ?_;refine bV hb hB0 hB1 fun X1 hX1 hb hB0 hB1=>?_;replace hB:=hB.bel hX1;have hcw:=hcw.below hX1 hbw;replace hbw:=Nat.lt_of_lt_of_le hbw (hX1).size;refine osb 23 5 12 (w.heap.size+1) 23 hB1 [.bool (rN (bP (trq t) c)),.string ⟨(rP (bP (trq t) c)).toArray⟩,.string ⟨(rD (bP (trq t) c)).toArray⟩] aB ?_;intro w9 hR9 hO9 hB9 hs9;have hb9:=hB9 _ _ hb (by omega);clear hO9 hB9
 go_wp2
 refine aX rfl rfl (by rfl) Tryz.underlying23 rfl hR9 aB ⟨rfl,hb9⟩
theorem lo1C (k:Int) (c m s:Rat) (y:Rat) (q:Nat) (w:World) (hB:Blk w q 23 [.bool (rN y),vS (rP y),vS (rD y)]) (hc:szR c 1000) (hm:szR m 1000) (hy:szR y 20000):Calls Tryz.prog 51 #[vI k,.agg #[.bool (rN c),vS (rP c),vS (rD c),.bool (rN m),vS (rP m),vS (rD m),.bool (rN s),vS (rP s),vS (rD s)],vP q 0] w fun e w'=>e=.returned (rbv (c * y))∧Since w w':=by
 have hq9:=hB.lt;have LB0:szR c 1000:=hc;have LB1:szR y 20000:=hy
 go_enter Tryz.func51,Tryz.ntmps51
 go_upto_region 1 with fail;obtain ⟨W0,hW0,hB0,hB1,hb⟩:=cI w 66 23 [.bool (rN c),vS (rP c),vS (rD c),.bool (rN m),vS (rP m),vS (rD m),.bool (rN s),vS (rP s),vS (rD s)] [.bool false,.string ⟨#[]⟩,.string ⟨#[]⟩];rw [← hW0];clear hW0;replace hB:=hB.bel hb;refine jq 4 ?_;refine jn (vP w.heap.size 0) ?_;refine jg (rt (rN c) (rP c) (rD c)) (fun X hX hF=>aK 23 _ (by rfl) w.heap.size 0 [.bool (rN c),vS (rP c),vS (rD c)] (by rfl) Tryz.underlying23 rfl X (hB0.bel hX) (by rfl) aB) ?_;refine ja hB Tryz.underlying23 (by rfl) aB ?_;refine jc (rt (rN (c * y)) (rP (c * y)) (rD (c * y))) (fun X hX hF=>uX (rN c) (rP c) (rD c) (rN y) (rP y) (rD y) (bH c) (bH y) X (tzR LB0 (by omega)) (tzR LB1 (by omega))) ?_;refine bV hb hB0 hB1 fun X1 hX1 hb hB0 hB1=>?_;replace hB:=hB.bel hX1;refine osb 23 5 9 (w.heap.size+1) 23 hB1 [.bool (rN (c * y)),vS (rP (c * y)),vS (rD (c * y))] aB ?_;intro w9 hR9 hO9 hB9 hs9;have hb9:=hB9 _ _ hb (by omega);clear hO9 hB9
 go_wp2
 refine aX rfl rfl (by rfl) Tryz.underlying23 rfl hR9 aB ⟨rfl,hb9⟩
theorem ca1C (k:Int) (c m s:Rat) (y:Rat) (q:Nat) (w:World) (hB:Blk w q 23 [.bool (rN y),vS (rP y),vS (rD y)]) (hc:szR c 1000) (hm:szR m 1000) (hy:szR y 20000):Calls Tryz.prog 58 #[vI k,.agg #[.bool (rN c),vS (rP c),vS (rD c),.bool (rN m),vS (rP m),vS (rD m),.bool (rN s),vS (rP s),vS (rD s)],vP q 0] w fun e w'=>e=.returned (rbv (gG 0 (c-(y * m))))∧Since w w':=by
 have hq9:=hB.lt;have LB0:szR y 20000:=hy;have LB1:szR m 1000:=hm;have LB2:szR c 1000:=hc;have LB3:szR (y * m) 21000:=gX LB0 LB1;have LB4:szR (c-(y * m)) 22001:=cX LB2 LB3
 go_enter Tryz.func58,Tryz.ntmps58
 go_upto_region 1 with fail;obtain ⟨W0,hW0,hB0,hB1,hb⟩:=cI w 66 23 [.bool (rN c),vS (rP c),vS (rD c),.bool (rN m),vS (rP m),vS (rD m),.bool (rN s),vS (rP s),vS (rD s)] [.bool false,.string ⟨#[]⟩,.string ⟨#[]⟩];rw [← hW0];clear hW0;replace hB:=hB.bel hb;refine aT [] (by kernel_rfl) (by kernel_rfl) (by kernel_rfl) rfl (aF) ?_;simp only [its,List.dropLast,Nat.zero_add,Nat.reduceAdd];refine jnn (rz) (vP w.heap.size 0) ?_;refine jg (rt (rN c) (rP c) (rD c)) (fun X hX hF=>aK 23 _ (by rfl) w.heap.size 0 [.bool (rN c),vS (rP c),vS (rD c)] (by rfl) Tryz.underlying23 rfl X (hB0.bel hX) (by rfl) aB) ?_;refine ja hB Tryz.underlying23 (by rfl) aB ?_;refine jn (vP w.heap.size 3) ?_;refine jg (rt (rN m) (rP m) (rD m)) (fun X hX hF=>aK 23 _ (by rfl) w.heap.size 3 [.bool (rN m),vS (rP m),vS (rD m)] (by rfl) Tryz.underlying23 rfl X (hB0.bel hX) (by rfl) aB) ?_;refine jc (rt (rN (y * m)) (rP (y * m)) (rD (y * m))) (fun X hX hF=>uX (rN y) (rP y) (rD y) (rN m) (rP m) (rD m) (bH y) (bH m) X (tzR LB0 (by omega)) (tzR LB1 (by omega))) ?_;refine jc (rt (rN (c-(y * m))) (rP (c-(y * m))) (rD (c-(y * m)))) (fun X hX hF=>oM (rN c) (rP c) (rD c) (rN (y * m)) (rP (y * m)) (rD (y * m)) (bH c) (bH (y * m)) X (tzR LB2 (by omega)) (tzR LB3 (by omega))) ?_
 refine jc (.agg #[.bool (rN (gG 0 (c-(y * m)))),st (rP (gG 0 (c-(y * m)))),st (rD (gG 0 (c-(y * m))))]) (fun X hX hF=>maxG false [] [] (rN (c-(y * m))) (rP (c-(y * m))) (rD (c-(y * m))) tT (bH (c-(y * m))) X dK (tzR LB4 (by omega))) ?_;refine bV hb hB0 hB1 fun X1 hX1 hb hB0 hB1=>?_;replace hB:=hB.bel hX1;refine osb 23 5 14 (w.heap.size+1) 23 hB1 [.bool (rN (gG 0 (c-(y * m)))),.string ⟨(rP (gG 0 (c-(y * m)))).toArray⟩,.string ⟨(rD (gG 0 (c-(y * m)))).toArray⟩] aB ?_;intro w9 hR9 hO9 hB9 hs9;have hb9:=hB9 _ _ hb (by omega);clear hO9 hB9
 go_wp2
 refine aX rfl rfl (by rfl) Tryz.underlying23 rfl hR9 aB ⟨rfl,hb9⟩
theorem fil0 (p:Tr) (v:Value) (l:List Ho) (t:Tr) (w:World) (hv:Hl l v w) (hs:Hid (Szp l 1000)) (hp:tz p.2.1 p.2.2 1000) (h0:chE p l≠0):Calls Tryz.prog 11 #[.agg #[.bool p.1,vS p.2.1,vS p.2.2,v],.agg #[.bool t.1,vS t.2.1,vS t.2.2]] w fun e w'=>∃ u,e=.returned u∧Tp (Pow w.heap.size (fiR p l t)) (fiE p l t) u w'∧Since w w':=by
 have HV:Hid (∀ X,Since w X→Hl l v X):=fun X h=>Hl.lasts l _ _ _ hv h
 clear hv;have hs4:Hid (Szp l 40000):=hs.out.mono (by decide);have hp6:tz p.2.1 p.2.2 1000000:=hp.mono (by decide);obtain ⟨z,z9⟩:∃ z,chE p l=z:=⟨_,rfl⟩;have HZ:=Lib.hid z9;clear z9
 have hz0:z≠0:=by rw [← HZ.out];exact h0
 clear h0
 have HE:Hid (fiE p l t=z):=by
  show _=_
  unfold fiE
  rw [HZ.out,if_pos hz0]
 have HR:Hid (fiR p l t=pd0):=if_neg (by rw [HE.out];exact hz0)
 go_enter Tryz.func11,Tryz.ntmps11
 go_upto_region 1 with fail;obtain ⟨W0,hW0,hB0,hB1,hB2,hb⟩:=bS w 26 23 41 [.bool p.1,vS p.2.1,vS p.2.2,v] [.bool t.1,vS t.2.1,vS t.2.2] [.bool false,.string ⟨#[]⟩,.string ⟨#[]⟩,.slice none 0 0,.slice none 0 0,.bool false,.string ⟨#[]⟩,.string ⟨#[]⟩];rw [← hW0];clear hW0;refine jp ?_;refine ja hB0 Tryz.underlying26 (by rfl) aL ?_;refine jc (vI z) (fun X hX hF=>mo (iU p v l X (HV.out X (Since.next hb hX)) hs4 hp6) (by rw [HZ.out])) ?_;refine jm (vI z) ?_;refine bD hb hB0 hB1 hB2 fun X1 hX1 hb hB0 hB1 hB2=>?_;go_upto_region 2 with fail;refine jp ?_;refine jm (vI z) ?_;refine jv (.bool true) (bE _ _ _ _ (by rfl) .i64 z 0 (by rfl) (by rfl) true (by rw [decide_eq_false (by omega)];rfl)) ?_;refine bD hb hB0 hB1 hB2 fun X2 hX2 hb hB0 hB1 hB2=>?_;go_upto_region 3 with fail;refine jq 2 ?_;refine jn (.agg #[.bool false,.string ⟨#[]⟩,.string ⟨#[]⟩,.slice none 0 0,.slice none 0 0,.bool false,.string ⟨#[]⟩,.string ⟨#[]⟩]) ?_;refine jm (vI z) ?_;refine bD hb hB0 hB1 hB2 fun X3 hX3 hb hB0 hB1 hB2=>?_;refine osb 41 4 11 (w.heap.size+2) 41 hB2 [.bool false,.string ⟨#[]⟩,.string ⟨#[]⟩,.slice none 0 0,.slice none 0 0,.bool false,.string ⟨#[]⟩,.string ⟨#[]⟩] aM ?_;intro w9 hR9 hO9 hB9 hs9;have hb9:=hB9 _ _ hb (by omega);have hB0:=hO9 _ _ _ (by omega) hB0;have hB1:=hO9 _ _ _ (by omega) hB1;clear hO9 hB9
 go_wp2
 refine bJ (v:=vI z) rfl rfl (by rfl) (by rfl) Tryz.underlying41 rfl hR9 aM ⟨_,rfl,⟨_,by rw [HE.out],by rw [HR.out];exact Pow.z _ _⟩,hb9⟩
theorem fil1 (p:Tr) (v:Value) (l:List Ho) (t:Tr) (w:World) (hv:Hl l v w) (hs:Hid (Szp l 1000)) (hp:tz p.2.1 p.2.2 1000) (ht:tz t.2.1 t.2.2 1000) (h0:chE p l=0) (hf:fnT t=false):Calls Tryz.prog 11 #[.agg #[.bool p.1,vS p.2.1,vS p.2.2,v],.agg #[.bool t.1,vS t.2.1,vS t.2.2]] w fun e w'=>∃ u,e=.returned u∧Tp (Pow w.heap.size (fiR p l t)) (fiE p l t) u w'∧Since w w':=by
 have HV:Hid (∀ X,Since w X→Hl l v X):=fun X h=>Hl.lasts l _ _ _ hv h
 clear hv;have hs4:Hid (Szp l 40000):=hs.out.mono (by decide);have hp6:tz p.2.1 p.2.2 1000000:=hp.mono (by decide);have HC:Hid (chE p l=0):=h0;clear h0
 have HE:Hid (fiE p l t=1):=by
  show _=_
  unfold fiE
  rw [HC.out,if_neg (by decide),if_pos hf]
 have HR:Hid (fiR p l t=pd0):=if_neg (by rw [HE.out];decide)
 have HTS:Hid (∀ k,tz (xt [t] k).2.1 (xt [t] k).2.2 1000000):=fun k=>by
  rcases k with _|k
  ·exact ht.mono (by decide)
  ·exact dK
 have HTL:Hid (fnL [t]=false):=by
  show _=_
  unfold fnL
  simp [hf]
 clear hf
 go_enter Tryz.func11,Tryz.ntmps11
 go_upto_region 1 with fail;obtain ⟨W0,hW0,hB0,hB1,hB2,hb⟩:=bS w 26 23 41 [.bool p.1,vS p.2.1,vS p.2.2,v] [.bool t.1,vS t.2.1,vS t.2.2] [.bool false,.string ⟨#[]⟩,.string ⟨#[]⟩,.slice none 0 0,.slice none 0 0,.bool false,.string ⟨#[]⟩,.string ⟨#[]⟩];rw [← hW0];clear hW0;refine jp ?_;refine ja hB0 Tryz.underlying26 (by rfl) aL ?_;refine jc (vI 0) (fun X hX hF=>mo (iU p v l X (HV.out X (Since.next hb hX)) hs4 hp6) (by rw [HC.out])) ?_;refine jm (vI 0) ?_;refine bD hb hB0 hB1 hB2 fun X1 hX1 hb hB0 hB1 hB2=>?_;go_upto_region 2 with fail;refine jp ?_;refine jm (vI 0) ?_;refine jv (.bool false) (bE _ _ _ _ (by rfl) .i64 0 0 (by rfl) (by rfl) false (by rw [decide_eq_true (by omega)];rfl)) ?_;refine bD hb hB0 hB1 hB2 fun X2 hX2 hb hB0 hB1 hB2=>?_;go_upto_region 4 with fail;refine bC [none,some (Rl [t])] (aA (aD (Rl.lasts [t]) (aF))) ?_;simp only [iX,Nat.reduceAdd];refine ja hB1 Tryz.underlying23 (by rfl) aB ?_;refine aW (by rfl) (fun X hX hF=>Rl.mk [t] 1 rfl (by decide) (by unfold execOp;go_simp;rfl)) ?_;intro v14;simp only [pX];refine jc (.bool false) (fun X hX hF=>mo (rF _ [t] X (hF _ _ List.mem_cons_self rfl) HTS) (by rw [HTL.out])) ?_;refine jm (.bool true) ?_;refine aH ?_;intro X3 hX3 hF;have hv14:=hF _ _ List.mem_cons_self;obtain ⟨hB0,hB1,hB2⟩:=bl3 hX3 hB0 hB1 hB2;have hb:=aG hb hX3;clear hF hX3
 clear hv14;go_upto_region 5 with fail;refine jq 1 ?_;refine jn (.agg #[.bool false,.string ⟨#[]⟩,.string ⟨#[]⟩,.slice none 0 0,.slice none 0 0,.bool false,.string ⟨#[]⟩,.string ⟨#[]⟩]) ?_;refine bD hb hB0 hB1 hB2 fun X4 hX4 hb hB0 hB1 hB2=>?_;refine osb 41 4 17 (w.heap.size+2) 41 hB2 [.bool false,.string ⟨#[]⟩,.string ⟨#[]⟩,.slice none 0 0,.slice none 0 0,.bool false,.string ⟨#[]⟩,.string ⟨#[]⟩] aM ?_;intro w9 hR9 hO9 hB9 hs9;have hb9:=hB9 _ _ hb (by omega);have hB0:=hO9 _ _ _ (by omega) hB0;have hB1:=hO9 _ _ _ (by omega) hB1;clear hO9 hB9
 go_wp2
 refine bJ (v:=vI 1) rfl rfl (by rfl) (by rfl) Tryz.underlying41 rfl hR9 aM ⟨_,rfl,⟨_,by rw [HE.out],by rw [HR.out];exact Pow.z _ _⟩,hb9⟩
theorem fil2 (p:Tr) (v:Value) (l:List Ho) (a:Rat) (w:World) (hv:Hl l v w) (hs:Hid (Szp l 1000)) (hp:tz p.2.1 p.2.2 1000) (hn8:l.length≤8) (ha:0≤a) (haz:szR a 1000) (h0:chE p l=0):Calls Tryz.prog 11 #[.agg #[.bool p.1,vS p.2.1,vS p.2.2,v],.agg #[.bool (rN a),vS (rP a),vS (rD a)]] w fun e w'=>∃ u,e=.returned u∧Tp (Pow w.heap.size (fiR p l (tr a))) (fiE p l (tr a)) u w'∧Since w w':=by
 have HV:Hid (∀ X,Since w X→Hl l v X):=fun X h=>Hl.lasts l _ _ _ hv h
 clear hv;have hs4:Hid (Szp l 40000):=hs.out.mono (by decide);have hp6:tz p.2.1 p.2.2 1000000:=hp.mono (by decide);have HOK:Hid (Okp p l):=chE_ok.1 h0;have HC:Hid (chE p l=0):=h0;clear h0;have ht:tz (tr a).2.1 (tr a).2.2 1000:=tzR haz (Nat.le_refl _);have hf:=sV ha
 have HE:Hid (fiE p l (tr a)=0):=by
  show _=_
  unfold fiE
  rw [HC.out,if_neg (by decide),if_neg (by rw [hf];decide)]
 have HR:Hid (fiR p l (tr a)=fiD p l a):=by
  show _=_
  unfold fiR
  rw [if_pos HE.out,cF]
 have HTS:Hid (∀ k,tz (xt [tr a] k).2.1 (xt [tr a] k).2.2 1000000):=fun k=>by
  rcases k with _|k
  ·exact ht.mono (by decide)
  ·exact dK
 have HTL:Hid (fnL [tr a]=true):=by
  show _=_
  unfold fnL
  simp [hf]
 clear hf
 go_enter Tryz.func11,Tryz.ntmps11
 go_upto_region 1 with fail;obtain ⟨W0,hW0,hB0,hB1,hB2,hb⟩:=bS w 26 23 41 [.bool p.1,vS p.2.1,vS p.2.2,v] [.bool (rN a),vS (rP a),vS (rD a)] [.bool false,.string ⟨#[]⟩,.string ⟨#[]⟩,.slice none 0 0,.slice none 0 0,.bool false,.string ⟨#[]⟩,.string ⟨#[]⟩];rw [← hW0];clear hW0;refine jp ?_;refine ja hB0 Tryz.underlying26 (by rfl) aL ?_;refine jc (vI 0) (fun X hX hF=>mo (iU p v l X (HV.out X (Since.next hb hX)) hs4 hp6) (by rw [HC.out])) ?_;refine jm (vI 0) ?_;refine bD hb hB0 hB1 hB2 fun X1 hX1 hb hB0 hB1 hB2=>?_;go_upto_region 2 with fail;refine jp ?_;refine jm (vI 0) ?_;refine jv (.bool false) (bE _ _ _ _ (by rfl) .i64 0 0 (by rfl) (by rfl) false (by rw [decide_eq_true (by omega)];rfl)) ?_;refine bD hb hB0 hB1 hB2 fun X2 hX2 hb hB0 hB1 hB2=>?_;go_upto_region 4 with fail;refine bC [none,some (Rl [tr a])] (aA (aD (Rl.lasts [tr a]) (aF))) ?_;simp only [iX,Nat.reduceAdd];refine ja hB1 Tryz.underlying23 (by rfl) aB ?_;refine aW (by rfl) (fun X hX hF=>Rl.mk [tr a] 1 rfl (by decide) (by unfold execOp;go_simp;rfl)) ?_;intro v14;simp only [pX];refine jc (.bool true) (fun X hX hF=>mo (rF _ [tr a] X (hF _ _ List.mem_cons_self rfl) HTS) (by rw [HTL.out])) ?_;refine jm (.bool false) ?_;refine aH ?_;intro X3 hX3 hF;have hv14:=hF _ _ List.mem_cons_self;obtain ⟨hB0,hB1,hB2⟩:=bl3 hX3 hB0 hB1 hB2;have hb:=aG hb hX3
 clear hF hX3;clear hv14;have hwB:=hB2.lt;go_upto_region 6 with fail;refine aV 3 [none,none,some (Pow X3.heap.size (fiD p l a))] (aA (aA (aD (Pow.lasts _ _) (aF)))) ?_;simp only [its,List.take,List.drop,Nat.zero_add,Nat.reduceAdd];refine ja hB0 Tryz.underlying26 (by rfl) aL ?_;refine ja hB1 Tryz.underlying23 (by rfl) aB ?_;refine jk (fun X hX hF=>(pouC p v l a X (HV.out X (Since.next hb hX)) hs HOK hn8 hp ha (haz.mono (by decide))).mono fun e X' ⟨u,h1,h2,h3⟩=>⟨u,h1,h2.low hX.size,h3⟩) ?_;intro v20;refine aH ?_;intro X4 hX4 hF;have hv20:=hF _ _ List.mem_cons_self;obtain ⟨hB0,hB1,hB2⟩:=bl3 hX4 hB0 hB1 hB2;have hb:=aG hb hX4;clear hF hX4;obtain ⟨uo20,zo20,rfl,hOu,hOz⟩:=hv20
 unfold Oh at hOu
 replace hOu:=bI hOu (show w.heap.size+3≤X3.heap.size by omega);replace hOz:=bI hOz (show w.heap.size+3≤X3.heap.size by omega);obtain ⟨A5,c5,rfl,_,_⟩:=(Rd.of_own hOu).form;obtain ⟨A6,c6,rfl,_,_⟩:=(Rd.of_own hOz).form;refine aS rfl 41 (.tmp 4) (.tmp 20) rfl (w.heap.size+2) 41 _ hB2 rfl [.bool (fiD p l a).p.1,vS (fiD p l a).p.2.1,vS (fiD p l a).p.2.2,.slice A5 (fiD p l a).l.length c5,.slice A6 (fiD p l a).q.length c6,.bool (rN (fiD p l a).r),vS (rP (fiD p l a).r),vS (rD (fiD p l a).r)] rfl (by rfl) (al8 rfl rfl rfl rfl rfl rfl rfl rfl) aM ?_;intro w9 hR9 hG9;have hb:=aN hG9 hb hb.size (by omega);have hOu:=aO hOu hG9 (fun g h h9=>by injection h with h;have h8:=(bL hOu _ h9).1;omega);have hOz:=aO hOz hG9 (fun g h h9=>by injection h with h;have h8:=(bL hOz _ h9).1;omega)
 go_wp2
 refine bJ (v:=vI 0) rfl rfl (by rfl) (by rfl) Tryz.underlying41 rfl hR9 aM ⟨_,rfl,⟨_,by rw [HE.out],by rw [HR.out];exact ⟨_,_,rfl,bI hOu (by omega),bI hOz (by omega)⟩⟩,hb⟩
theorem filC (p:Tr) (v:Value) (l:List Ho) (t:Tr) (w:World) (hv:Hl l v w) (hs:Hid (Szp l 1000)) (hp:tz p.2.1 p.2.2 1000) (hn:l.length≤8∨20<l.length) (ht:tz t.2.1 t.2.2 1000):Calls Tryz.prog 11 #[.agg #[.bool p.1,vS p.2.1,vS p.2.2,v],.agg #[.bool t.1,vS t.2.1,vS t.2.2]] w fun e w'=>∃ u,e=.returned u∧Tp (Pow w.heap.size (fiR p l t)) (fiE p l t) u w'∧Since w w':=by
 by_cases h0:chE p l=0
 ·cases hf:fnT t with
  | false=>exact fil1 p v l t w hv hs hp ht h0 hf
  | true =>
   obtain ⟨a,ha,rfl⟩:∃ a:Rat,0≤a∧t=tr a:=⟨trq t,fT hf,(gW (fnT_t.1 hf).2).symm⟩
   have haz:szR a 1000:=by
    have h9:=cV (x:=trq (tr a)) rfl ht (by decide)
    rwa [cF] at h9
   exact fil2 p v l a w hv hs hp (qV hn h0) ha haz h0
 ·exact fil0 p v l t w hv hs hp h0
theorem los0 (p:Tr) (v:Value) (l:List Ho) (t:Tr) (w:World) (hv:Hl l v w) (hs:Hid (Szp l 1000)) (hp:tz p.2.1 p.2.2 1000) (h0:chE p l≠0):Calls Tryz.prog 15 #[.agg #[.bool p.1,vS p.2.1,vS p.2.2,v],.agg #[.bool t.1,vS t.2.1,vS t.2.2]] w fun e w'=>∃ u,e=.returned u∧Tp (Pow w.heap.size (loR p l t)) (fiE p l t) u w'∧Since w w':=by
 have HV:Hid (∀ X,Since w X→Hl l v X):=fun X h=>Hl.lasts l _ _ _ hv h
 clear hv;have hs4:Hid (Szp l 40000):=hs.out.mono (by decide);have hp6:tz p.2.1 p.2.2 1000000:=hp.mono (by decide);obtain ⟨z,z9⟩:∃ z,chE p l=z:=⟨_,rfl⟩;have HZ:=Lib.hid z9;clear z9
 have hz0:z≠0:=by rw [← HZ.out];exact h0
 clear h0
 have HE:Hid (fiE p l t=z):=by
  show _=_
  unfold fiE
  rw [HZ.out,if_pos hz0]
 have HR:Hid (loR p l t=pd0):=if_neg (by rw [HE.out];exact hz0)
 go_enter Tryz.func15,Tryz.ntmps15
 go_upto_region 1 with fail;obtain ⟨W0,hW0,hB0,hB1,hB2,hb⟩:=bS w 26 23 41 [.bool p.1,vS p.2.1,vS p.2.2,v] [.bool t.1,vS t.2.1,vS t.2.2] [.bool false,.string ⟨#[]⟩,.string ⟨#[]⟩,.slice none 0 0,.slice none 0 0,.bool false,.string ⟨#[]⟩,.string ⟨#[]⟩];rw [← hW0];clear hW0;refine jp ?_;refine ja hB0 Tryz.underlying26 (by rfl) aL ?_;refine jc (vI z) (fun X hX hF=>mo (iU p v l X (HV.out X (Since.next hb hX)) hs4 hp6) (by rw [HZ.out])) ?_;refine jm (vI z) ?_;refine bD hb hB0 hB1 hB2 fun X1 hX1 hb hB0 hB1 hB2=>?_;go_upto_region 2 with fail;refine jp ?_;refine jm (vI z) ?_;refine jv (.bool true) (bE _ _ _ _ (by rfl) .i64 z 0 (by rfl) (by rfl) true (by rw [decide_eq_false (by omega)];rfl)) ?_;refine bD hb hB0 hB1 hB2 fun X2 hX2 hb hB0 hB1 hB2=>?_;go_upto_region 3 with fail;refine jq 2 ?_;refine jn (.agg #[.bool false,.string ⟨#[]⟩,.string ⟨#[]⟩,.slice none 0 0,.slice none 0 0,.bool false,.string ⟨#[]⟩,.string ⟨#[]⟩]) ?_;refine jm (vI z) ?_;refine bD hb hB0 hB1 hB2 fun X3 hX3 hb hB0 hB1 hB2=>?_;refine osb 41 4 16 (w.heap.size+2) 41 hB2 [.bool false,.string ⟨#[]⟩,.string ⟨#[]⟩,.slice none 0 0,.slice none 0 0,.bool false,.string ⟨#[]⟩,.string ⟨#[]⟩] aM ?_;intro w9 hR9 hO9 hB9 hs9;have hb9:=hB9 _ _ hb (by omega);have hB0:=hO9 _ _ _ (by omega) hB0;have hB1:=hO9 _ _ _ (by omega) hB1;clear hO9 hB9
 go_wp2
 refine bJ (v:=vI z) rfl rfl (by rfl) (by rfl) Tryz.underlying41 rfl hR9 aM ⟨_,rfl,⟨_,by rw [HE.out],by rw [HR.out];exact Pow.z _ _⟩,hb9⟩
theorem los1 (p:Tr) (v:Value) (l:List Ho) (t:Tr) (w:World) (hv:Hl l v w) (hs:Hid (Szp l 1000)) (hp:tz p.2.1 p.2.2 1000) (ht:tz t.2.1 t.2.2 1000) (h0:chE p l=0) (hf:fnT t=false):Calls Tryz.prog 15 #[.agg #[.bool p.1,vS p.2.1,vS p.2.2,v],.agg #[.bool t.1,vS t.2.1,vS t.2.2]] w fun e w'=>∃ u,e=.returned u∧Tp (Pow w.heap.size (loR p l t)) (fiE p l t) u w'∧Since w w':=by
 have HV:Hid (∀ X,Since w X→Hl l v X):=fun X h=>Hl.lasts l _ _ _ hv h
 clear hv;have hs4:Hid (Szp l 40000):=hs.out.mono (by decide);have hp6:tz p.2.1 p.2.2 1000000:=hp.mono (by decide);have HC:Hid (chE p l=0):=h0;clear h0
 have HE:Hid (fiE p l t=1):=by
  show _=_
  unfold fiE
  rw [HC.out,if_neg (by decide),if_pos hf]
 have HR:Hid (loR p l t=pd0):=if_neg (by rw [HE.out];decide)
 have HTS:Hid (∀ k,tz (xt [t] k).2.1 (xt [t] k).2.2 1000000):=fun k=>by
  rcases k with _|k
  ·exact ht.mono (by decide)
  ·exact dK
 have HTL:Hid (fnL [t]=false):=by
  show _=_
  unfold fnL
  simp [hf]
 clear hf
 go_enter Tryz.func15,Tryz.ntmps15
 go_upto_region 1 with fail;obtain ⟨W0,hW0,hB0,hB1,hB2,hb⟩:=bS w 26 23 41 [.bool p.1,vS p.2.1,vS p.2.2,v] [.bool t.1,vS t.2.1,vS t.2.2] [.bool false,.string ⟨#[]⟩,.string ⟨#[]⟩,.slice none 0 0,.slice none 0 0,.bool false,.string ⟨#[]⟩,.string ⟨#[]⟩];rw [← hW0];clear hW0;refine jp ?_;refine ja hB0 Tryz.underlying26 (by rfl) aL ?_;refine jc (vI 0) (fun X hX hF=>mo (iU p v l X (HV.out X (Since.next hb hX)) hs4 hp6) (by rw [HC.out])) ?_;refine jm (vI 0) ?_;refine bD hb hB0 hB1 hB2 fun X1 hX1 hb hB0 hB1 hB2=>?_;go_upto_region 2 with fail;refine jp ?_;refine jm (vI 0) ?_;refine jv (.bool false) (bE _ _ _ _ (by rfl) .i64 0 0 (by rfl) (by rfl) false (by rw [decide_eq_true (by omega)];rfl)) ?_;refine bD hb hB0 hB1 hB2 fun X2 hX2 hb hB0 hB1 hB2=>?_;go_upto_region 4 with fail;refine bC [none,some (Rl [t])] (aA (aD (Rl.lasts [t]) (aF))) ?_;simp only [iX,Nat.reduceAdd];refine ja hB1 Tryz.underlying23 (by rfl) aB ?_;refine aW (by rfl) (fun X hX hF=>Rl.mk [t] 1 rfl (by decide) (by unfold execOp;go_simp;rfl)) ?_;intro v19;simp only [pX];refine jc (.bool false) (fun X hX hF=>mo (rF _ [t] X (hF _ _ List.mem_cons_self rfl) HTS) (by rw [HTL.out])) ?_;refine jm (.bool true) ?_;refine aH ?_;intro X3 hX3 hF;have hv19:=hF _ _ List.mem_cons_self;obtain ⟨hB0,hB1,hB2⟩:=bl3 hX3 hB0 hB1 hB2;have hb:=aG hb hX3;clear hF hX3
 clear hv19;go_upto_region 5 with fail;refine jq 1 ?_;refine jn (.agg #[.bool false,.string ⟨#[]⟩,.string ⟨#[]⟩,.slice none 0 0,.slice none 0 0,.bool false,.string ⟨#[]⟩,.string ⟨#[]⟩]) ?_;refine bD hb hB0 hB1 hB2 fun X4 hX4 hb hB0 hB1 hB2=>?_;refine osb 41 4 22 (w.heap.size+2) 41 hB2 [.bool false,.string ⟨#[]⟩,.string ⟨#[]⟩,.slice none 0 0,.slice none 0 0,.bool false,.string ⟨#[]⟩,.string ⟨#[]⟩] aM ?_;intro w9 hR9 hO9 hB9 hs9;have hb9:=hB9 _ _ hb (by omega);have hB0:=hO9 _ _ _ (by omega) hB0;have hB1:=hO9 _ _ _ (by omega) hB1;clear hO9 hB9
 go_wp2
 refine bJ (v:=vI 1) rfl rfl (by rfl) (by rfl) Tryz.underlying41 rfl hR9 aM ⟨_,rfl,⟨_,by rw [HE.out],by rw [HR.out];exact Pow.z _ _⟩,hb9⟩
theorem los2 (p:Tr) (v:Value) (l:List Ho) (a:Rat) (w:World) (hv:Hl l v w) (hs:Hid (Szp l 1000)) (hp:tz p.2.1 p.2.2 1000) (hn8:l.length≤8) (ha:0≤a) (haz:szR a 1000) (h0:chE p l=0):Calls Tryz.prog 15 #[.agg #[.bool p.1,vS p.2.1,vS p.2.2,v],.agg #[.bool (rN a),vS (rP a),vS (rD a)]] w fun e w'=>∃ u,e=.returned u∧Tp (Pow w.heap.size (loR p l (tr a))) (fiE p l (tr a)) u w'∧Since w w':=by
 have HV:Hid (∀ X,Since w X→Hl l v X):=fun X h=>Hl.lasts l _ _ _ hv h
 clear hv;have hs4:Hid (Szp l 40000):=hs.out.mono (by decide);have hp6:tz p.2.1 p.2.2 1000000:=hp.mono (by decide);have HOK:Hid (Okp p l):=chE_ok.1 h0;have HC:Hid (chE p l=0):=h0;clear h0;have ht:tz (tr a).2.1 (tr a).2.2 1000:=tzR haz (Nat.le_refl _);have hf:=sV ha;have hthz:szR (thr l) 8009:=hs.out.thr (by decide) hn8
 have HE:Hid (fiE p l (tr a)=0):=by
  show _=_
  unfold fiE
  rw [HC.out,if_neg (by decide),if_neg (by rw [hf];decide)]
 have HR:Hid (loR p l (tr a)=taD p l (loF l a) (a-bP a (thr l))):=by
  show _=_
  unfold loR
  rw [if_pos HE.out,cF]
 have HTS:Hid (∀ k,tz (xt [tr a] k).2.1 (xt [tr a] k).2.2 1000000):=fun k=>by
  rcases k with _|k
  ·exact ht.mono (by decide)
  ·exact dK
 have HTL:Hid (fnL [tr a]=true):=by
  show _=_
  unfold fnL
  simp [hf]
 obtain ⟨y,y9⟩:∃ y,bP a (thr l) / thr l=y:=⟨_,rfl⟩;have HY:=Lib.hid y9
 have hyz:szR y 20000:=by rw [← y9];exact (lR (gL haz hthz (Nat.le_trans (by decide:1000≤8009) (Nat.le_refl _)) (Nat.le_refl _)) hthz).mono (by decide)
 clear y9 hf;have LB0:szR a 1000:=haz;have LB1:szR (thr l) 8009:=hthz;have LB2:szR (bP a (thr l)) 8009:=gL LB0 LB1 (by omega) (by omega)
 go_enter Tryz.func15,Tryz.ntmps15
 go_upto_region 1 with fail;obtain ⟨W0,hW0,hB0,hB1,hB2,hb⟩:=bS w 26 23 41 [.bool p.1,vS p.2.1,vS p.2.2,v] [.bool (rN a),vS (rP a),vS (rD a)] [.bool false,.string ⟨#[]⟩,.string ⟨#[]⟩,.slice none 0 0,.slice none 0 0,.bool false,.string ⟨#[]⟩,.string ⟨#[]⟩];rw [← hW0];clear hW0;refine jp ?_;refine ja hB0 Tryz.underlying26 (by rfl) aL ?_;refine jc (vI 0) (fun X hX hF=>mo (iU p v l X (HV.out X (Since.next hb hX)) hs4 hp6) (by rw [HC.out])) ?_;refine jm (vI 0) ?_;refine bD hb hB0 hB1 hB2 fun X1 hX1 hb hB0 hB1 hB2=>?_;go_upto_region 2 with fail;refine jp ?_;refine jm (vI 0) ?_;refine jv (.bool false) (bE _ _ _ _ (by rfl) .i64 0 0 (by rfl) (by rfl) false (by rw [decide_eq_true (by omega)];rfl)) ?_;refine bD hb hB0 hB1 hB2 fun X2 hX2 hb hB0 hB1 hB2=>?_;go_upto_region 4 with fail;refine bC [none,some (Rl [tr a])] (aA (aD (Rl.lasts [tr a]) (aF))) ?_;simp only [iX,Nat.reduceAdd];refine ja hB1 Tryz.underlying23 (by rfl) aB ?_;refine aW (by rfl) (fun X hX hF=>Rl.mk [tr a] 1 rfl (by decide) (by unfold execOp;go_simp;rfl)) ?_;intro v19;simp only [pX];refine jc (.bool true) (fun X hX hF=>mo (rF _ [tr a] X (hF _ _ List.mem_cons_self rfl) HTS) (by rw [HTL.out])) ?_;refine jm (.bool false) ?_;refine aH ?_;intro X3 hX3 hF;have hv19:=hF _ _ List.mem_cons_self;obtain ⟨hB0,hB1,hB2⟩:=bl3 hX3 hB0 hB1 hB2;have hb:=aG hb hX3
 clear hF hX3;clear hv19;go_upto_region 6 with fail;refine jq 3 ?_;refine jnf hB0 3 aR ?_;refine jc (rt (rN (thr l)) (rP (thr l)) (rD (thr l))) (fun X hX hF=>wJ v l X (HV.out X (Since.next hb hX)) hs4 (by omega)) ?_;refine bD hb hB0 hB1 hB2 fun X4 hX4 hb hB0 hB1 hB2=>?_;go_upto_region 7 with (refine osn 23 7 25 #[.bool (rN (thr l)),vS (rP (thr l)),vS (rD (thr l))] aB ?_);obtain ⟨Y4,hY9,hD7,hS9⟩:=aZ X4 23 [.bool (rN (thr l)),vS (rP (thr l)),vS (rD (thr l))];rw [← hY9];clear hY9;have hgs7:=hb.size;have hlt7x0:=hB0.lt;have hlt7x1:=hB1.lt;have hlt7x2:=hB2.lt;obtain ⟨hB0,hB1,hB2⟩:=bl3 hS9 hB0 hB1 hB2;have hb:=aG hb hS9;clear hS9;generalize X4.heap.size=g7 at *;refine jq 3 ?_;refine ja hB1 Tryz.underlying23 (by rfl) aB ?_;refine ja hD7 Tryz.underlying23 (by rfl) aB ?_;refine jc (rt (rN (bP a (thr l))) (rP (bP a (thr l))) (rD (bP a (thr l)))) (fun X hX hF=>qYl (rN a) (rP a) (rD a) (rN (thr l)) (rP (thr l)) (rD (thr l)) (bH a) (bH (thr l)) X (tzR LB0 (by omega)) (tzR LB1 (by omega))) ?_;refine hH hb hB0 hB1 hB2 hD7 fun X5 hX5 hb hB0 hB1 hB2 hD7=>?_;go_upto_region 8 with (refine osn 23 8 28 #[.bool (rN (bP a (thr l))),.string ⟨(rP (bP a (thr l))).toArray⟩,.string ⟨(rD (bP a (thr l))).toArray⟩] aB ?_);obtain ⟨Y5,hY9,hD8,hS9⟩:=aZ X5 23 [.bool (rN (bP a (thr l))),.string ⟨(rP (bP a (thr l))).toArray⟩,.string ⟨(rD (bP a (thr l))).toArray⟩]
 rw [← hY9];clear hY9;have hgs8:=hb.size;have hlt8x0:=hB0.lt;have hlt8x1:=hB1.lt;have hlt8x2:=hB2.lt;have hlt8x3:=hD7.lt;obtain ⟨hB0,hB1,hB2,hD7⟩:=bl4 hS9 hB0 hB1 hB2 hD7;have hb:=aG hb hS9;clear hS9;generalize X5.heap.size=g8 at *
 by_cases hz:thr l=0
 ·have hy0:y=0:=by rw [← HY.out,hz,Rat.div_def,Rat.inv_zero,Rat.mul_zero]
  subst hy0;refine jq 6 ?_;refine ja hD8 Tryz.underlying23 (by rfl) aB ?_;refine ja hD7 Tryz.underlying23 (by rfl) aB ?_;refine jc (.tuple #[rz,vI 1]) (fun X hX hF=>qVr (rN (bP a (thr l))) (rP (bP a (thr l))) (rD (bP a (thr l))) (rN (thr l)) (rP (thr l)) (rD (thr l)) (bH (bP a (thr l))) (bH (thr l)) X (tzR LB2 (by omega)) (tzR LB1 (by omega)) hz) ?_;refine bY (.tuple #[rz,vI 1]) (rz) (vI 1) ?_;refine cC hb hB0 hB1 hB2 hD7 hD8 fun X6 hX6 hb hB0 hB1 hB2 hD7 hD8=>?_;go_upto_region 9 with (refine osn 23 9 33 #[.bool false,.string ⟨#[]⟩,.string ⟨#[]⟩] aB ?_);obtain ⟨Y6,hY9,hD9,hS9⟩:=aZ X6 23 [.bool false,.string ⟨#[]⟩,.string ⟨#[]⟩];rw [← hY9];clear hY9;have hgs9:=hb.size;have hlt9x0:=hB0.lt;have hlt9x1:=hB1.lt;have hlt9x2:=hB2.lt;have hlt9x3:=hD7.lt;have hlt9x4:=hD8.lt;obtain ⟨hB0,hB1,hB2,hD7,hD8⟩:=bl5 hS9 hB0 hB1 hB2 hD7 hD8;have hb:=aG hb hS9;clear hS9;generalize X6.heap.size=g9 at *;have hwB:=hB2.lt
  have HBY:Hid (∀ X,Since Y6 X→Blk X g9 23 [.bool (rN 0),vS (rP 0),vS (rD 0)]):=fun X h=>hD9.bel h
  refine aV 3 [none,none,some (Pow Y6.heap.size (taD p l (loF l a) 0))] (aA (aA (aD (Pow.lasts _ _) (aF)))) ?_;simp only [its,List.take,List.drop,Nat.zero_add,Nat.reduceAdd];refine ja hB0 Tryz.underlying26 (by rfl) aL ?_;refine jv (.func (.func 51) #[] #[vP g9 0]) (eY 51 [.tmp 9] [vP g9 0] (by rfl) (by rfl)) ?_;refine jk (fun X hX hF=>(zC p v l 51 [vP g9 0] (loF l a) X (HV.out X (Since.next hb hX)) hs HOK hn8 (fun k hk=>(sR (hs.out.mono (show 1000≤1000 by decide)) (by decide) hn8 (haz.mono (by decide)) k).mono (by decide)) (by kernel_rfl) (fun _ _ _=>by go_simp) (fun Y k hY hk=>by rw [HOK.out.ho_tr hk,show loF l a k=ct l k * 0 by unfold loF;rw [HY.out]];exact lo1C _ _ _ _ _ _ Y (HBY.out Y (Since.next hX hY)) (hs.out.ct (by decide) k) (hs.out.mx (by decide) k) (szR_zero.mono (by decide)))).mono fun e X' ⟨u,h1,h2,h3⟩=>⟨u,h1,h2.low hX.size,h3⟩) ?_;intro v37;refine aH ?_;intro X7 hX7 hF;have hv37:=hF _ _ List.mem_cons_self;obtain ⟨hB0,hB1,hB2,hD7,hD8,hD9⟩:=bl6 hX7 hB0 hB1 hB2 hD7 hD8 hD9;have hb:=aG hb hX7;clear hF hX7;obtain ⟨uo37,zo37,rfl,hOu,hOz⟩:=hv37
  unfold Oh at hOu
  replace hOu:=bI hOu (show w.heap.size+3≤Y6.heap.size by omega);replace hOz:=bI hOz (show w.heap.size+3≤Y6.heap.size by omega);obtain ⟨A5,c5,rfl,_,_⟩:=(Rd.of_own hOu).form;obtain ⟨A6,c6,rfl,_,_⟩:=(Rd.of_own hOz).form;go_upto_region 10 with (refine osn 41 11 37 #[.bool p.1,vS p.2.1,vS p.2.2,.slice A5 (taD p l (loF l a) 0).l.length c5,.slice A6 (taD p l (loF l a) 0).q.length c6,.bool false,.string ⟨#[]⟩,.string ⟨#[]⟩] aM ?_);obtain ⟨Y7,hY9,hD11,hS9⟩:=aZ X7 41 [.bool p.1,vS p.2.1,vS p.2.2,.slice A5 (taD p l (loF l a) 0).l.length c5,.slice A6 (taD p l (loF l a) 0).q.length c6,.bool false,.string ⟨#[]⟩,.string ⟨#[]⟩];rw [← hY9];clear hY9;have hgs11:=hb.size;have hlt11x0:=hB0.lt;have hlt11x1:=hB1.lt;have hlt11x2:=hB2.lt;have hlt11x3:=hD7.lt;have hlt11x4:=hD8.lt;have hlt11x5:=hD9.lt;replace hOu:=aC hOu hS9;replace hOz:=aC hOz hS9;obtain ⟨hB0,hB1,hB2,hD7,hD8,hD9⟩:=bl6 hS9 hB0 hB1 hB2 hD7 hD8 hD9;have hb:=aG hb hS9;clear hS9;generalize X7.heap.size=g11 at *;refine jq 4 ?_;refine ja hB1 Tryz.underlying23 (by rfl) aB ?_;refine ja hD8 Tryz.underlying23 (by rfl) aB ?_;refine jc (.agg #[.bool (rN (a-(bP a (thr l)))),st (rP (a-(bP a (thr l)))),st (rD (a-(bP a (thr l))))]) (fun X hX hF=>oM (rN a) (rP a) (rD a) (rN (bP a (thr l))) (rP (bP a (thr l))) (rD (bP a (thr l))) (bH a) (bH (bP a (thr l))) X (tzR LB0 (by omega)) (tzR LB2 (by omega))) ?_
  refine jn (vP g11 5) ?_;refine lP hb hB0 hB1 hB2 hD7 hD8 hD9 fun X8 hX8 hb hB0 hB1 hB2 hD7 hD8 hD9=>?_;replace hOu:=aC hOu hX8;replace hOz:=aC hOz hX8;replace hD11:=hD11.bel hX8;refine cZ rfl 23 (.tmp 41) (.tmp 40) rfl g11 41 _ hD11 5 rfl [.bool (rN (a-(bP a (thr l)))),.string ⟨(rP (a-(bP a (thr l)))).toArray⟩,.string ⟨(rD (a-(bP a (thr l)))).toArray⟩] rfl (by simp) (al3 rfl rfl rfl) aB ?_;intro w10 hR9 hG9 hs9
  change Blk w10 g11 41 [.bool p.1,vS p.2.1,vS p.2.2,.slice A5 (taD p l (loF l a) 0).l.length c5,.slice A6 (taD p l (loF l a) 0).q.length c6,.bool (rN (a-(bP a (thr l)))),.string ⟨(rP (a-(bP a (thr l)))).toArray⟩,.string ⟨(rD (a-(bP a (thr l)))).toArray⟩] at hR9
  have hb:=aN hG9 hb hb.size (by omega);have hB2:=aE hG9 hB2 (by omega);have hOu:=aO hOu hG9 (fun g h h9=>bG hOu hD11 rfl (h9.trans h.symm));have hOz:=aO hOz hG9 (fun g h h9=>bG hOz hD11 rfl (h9.trans h.symm));have hD11:=hR9;clear hR9 hG9 hs9;refine wpList_nil ?_;go_upto_region 11 with fail;refine jq 1 ?_;refine ja hD11 Tryz.underlying41 (by rfl) aM ?_;refine bV hb hB2 hD11 fun X9 hX9 hb hB2 hD11=>?_;replace hOu:=aC hOu hX9;replace hOz:=aC hOz hX9;refine aS rfl 41 (.tmp 4) (.tmp 42) rfl (w.heap.size+2) 41 _ hB2 rfl [.bool p.1,vS p.2.1,vS p.2.2,.slice A5 (taD p l (loF l a) 0).l.length c5,.slice A6 (taD p l (loF l a) 0).q.length c6,.bool (rN (a-(bP a (thr l)))),.string ⟨(rP (a-(bP a (thr l)))).toArray⟩,.string ⟨(rD (a-(bP a (thr l)))).toArray⟩] rfl (by rfl) (al8 rfl rfl rfl rfl rfl rfl rfl rfl) aM ?_;intro w9 hR9 hG9;have hb:=aN hG9 hb hb.size (by omega);have hOu:=aO hOu hG9 (fun g h h9=>by injection h with h;have h8:=(bL hOu _ h9).1;omega);have hOz:=aO hOz hG9 (fun g h h9=>by injection h with h;have h8:=(bL hOz _ h9).1;omega)
  go_wp2
  refine bJ (v:=vI 0) rfl rfl (by rfl) (by rfl) Tryz.underlying41 rfl hR9 aM ⟨_,rfl,⟨_,by rw [HE.out],by rw [HR.out];exact ⟨_,_,rfl,bI hOu (by omega),bI hOz (by omega)⟩⟩,hb⟩
 ·refine jq 6 ?_
  refine ja hD8 Tryz.underlying23 (by rfl) aB ?_;refine ja hD7 Tryz.underlying23 (by rfl) aB ?_;refine jc (.tuple #[rt (rN y) (rP y) (rD y),vI 0]) (fun X hX hF=>mo (divG (rN (bP a (thr l))) (rP (bP a (thr l))) (rD (bP a (thr l))) (rN (thr l)) (rP (thr l)) (rD (thr l)) (bH (bP a (thr l))) (bH (thr l)) X (tzR LB2 (by omega)) (tzR LB1 (by omega)) hz) (by rw [HY.out])) ?_;refine bY (.tuple #[rt (rN y) (rP y) (rD y),vI 0]) (rt (rN y) (rP y) (rD y)) (vI 0) ?_;refine cC hb hB0 hB1 hB2 hD7 hD8 fun X6 hX6 hb hB0 hB1 hB2 hD7 hD8=>?_;go_upto_region 9 with (refine osn 23 9 33 #[.bool (rN y),vS (rP y),vS (rD y)] aB ?_);obtain ⟨Y6,hY9,hD9,hS9⟩:=aZ X6 23 [.bool (rN y),vS (rP y),vS (rD y)];rw [← hY9];clear hY9;have hgs9:=hb.size;have hlt9x0:=hB0.lt;have hlt9x1:=hB1.lt;have hlt9x2:=hB2.lt;have hlt9x3:=hD7.lt;have hlt9x4:=hD8.lt;obtain ⟨hB0,hB1,hB2,hD7,hD8⟩:=bl5 hS9 hB0 hB1 hB2 hD7 hD8;have hb:=aG hb hS9;clear hS9;generalize X6.heap.size=g9 at *;have hwB:=hB2.lt
  have HBY:Hid (∀ X,Since Y6 X→Blk X g9 23 [.bool (rN y),vS (rP y),vS (rD y)]):=fun X h=>hD9.bel h
  refine aV 3 [none,none,some (Pow Y6.heap.size (taD p l (loF l a) 0))] (aA (aA (aD (Pow.lasts _ _) (aF)))) ?_;simp only [its,List.take,List.drop,Nat.zero_add,Nat.reduceAdd];refine ja hB0 Tryz.underlying26 (by rfl) aL ?_;refine jv (.func (.func 51) #[] #[vP g9 0]) (eY 51 [.tmp 9] [vP g9 0] (by rfl) (by rfl)) ?_;refine jk (fun X hX hF=>(zC p v l 51 [vP g9 0] (loF l a) X (HV.out X (Since.next hb hX)) hs HOK hn8 (fun k hk=>(sR (hs.out.mono (show 1000≤1000 by decide)) (by decide) hn8 (haz.mono (by decide)) k).mono (by decide)) (by kernel_rfl) (fun _ _ _=>by go_simp) (fun Y k hY hk=>by rw [HOK.out.ho_tr hk,show loF l a k=ct l k * y by unfold loF;rw [HY.out]];exact lo1C _ _ _ _ _ _ Y (HBY.out Y (Since.next hX hY)) (hs.out.ct (by decide) k) (hs.out.mx (by decide) k) hyz)).mono fun e X' ⟨u,h1,h2,h3⟩=>⟨u,h1,h2.low hX.size,h3⟩) ?_;intro v37;refine aH ?_;intro X7 hX7 hF;have hv37:=hF _ _ List.mem_cons_self;obtain ⟨hB0,hB1,hB2,hD7,hD8,hD9⟩:=bl6 hX7 hB0 hB1 hB2 hD7 hD8 hD9;have hb:=aG hb hX7;clear hF hX7;obtain ⟨uo37,zo37,rfl,hOu,hOz⟩:=hv37
  unfold Oh at hOu
  replace hOu:=bI hOu (show w.heap.size+3≤Y6.heap.size by omega);replace hOz:=bI hOz (show w.heap.size+3≤Y6.heap.size by omega);obtain ⟨A5,c5,rfl,_,_⟩:=(Rd.of_own hOu).form;obtain ⟨A6,c6,rfl,_,_⟩:=(Rd.of_own hOz).form;go_upto_region 10 with (refine osn 41 11 37 #[.bool p.1,vS p.2.1,vS p.2.2,.slice A5 (taD p l (loF l a) 0).l.length c5,.slice A6 (taD p l (loF l a) 0).q.length c6,.bool false,.string ⟨#[]⟩,.string ⟨#[]⟩] aM ?_);obtain ⟨Y7,hY9,hD11,hS9⟩:=aZ X7 41 [.bool p.1,vS p.2.1,vS p.2.2,.slice A5 (taD p l (loF l a) 0).l.length c5,.slice A6 (taD p l (loF l a) 0).q.length c6,.bool false,.string ⟨#[]⟩,.string ⟨#[]⟩];rw [← hY9];clear hY9;have hgs11:=hb.size;have hlt11x0:=hB0.lt;have hlt11x1:=hB1.lt;have hlt11x2:=hB2.lt;have hlt11x3:=hD7.lt;have hlt11x4:=hD8.lt;have hlt11x5:=hD9.lt;replace hOu:=aC hOu hS9;replace hOz:=aC hOz hS9;obtain ⟨hB0,hB1,hB2,hD7,hD8,hD9⟩:=bl6 hS9 hB0 hB1 hB2 hD7 hD8 hD9;have hb:=aG hb hS9;clear hS9;generalize X7.heap.size=g11 at *;refine jq 4 ?_;refine ja hB1 Tryz.underlying23 (by rfl) aB ?_;refine ja hD8 Tryz.underlying23 (by rfl) aB ?_;refine jc (.agg #[.bool (rN (a-(bP a (thr l)))),st (rP (a-(bP a (thr l)))),st (rD (a-(bP a (thr l))))]) (fun X hX hF=>oM (rN a) (rP a) (rD a) (rN (bP a (thr l))) (rP (bP a (thr l))) (rD (bP a (thr l))) (bH a) (bH (bP a (thr l))) X (tzR LB0 (by omega)) (tzR LB2 (by omega))) ?_
  refine jn (vP g11 5) ?_;refine lP hb hB0 hB1 hB2 hD7 hD8 hD9 fun X8 hX8 hb hB0 hB1 hB2 hD7 hD8 hD9=>?_;replace hOu:=aC hOu hX8;replace hOz:=aC hOz hX8;replace hD11:=hD11.bel hX8;refine cZ rfl 23 (.tmp 41) (.tmp 40) rfl g11 41 _ hD11 5 rfl [.bool (rN (a-(bP a (thr l)))),.string ⟨(rP (a-(bP a (thr l)))).toArray⟩,.string ⟨(rD (a-(bP a (thr l)))).toArray⟩] rfl (by simp) (al3 rfl rfl rfl) aB ?_;intro w10 hR9 hG9 hs9
  change Blk w10 g11 41 [.bool p.1,vS p.2.1,vS p.2.2,.slice A5 (taD p l (loF l a) 0).l.length c5,.slice A6 (taD p l (loF l a) 0).q.length c6,.bool (rN (a-(bP a (thr l)))),.string ⟨(rP (a-(bP a (thr l)))).toArray⟩,.string ⟨(rD (a-(bP a (thr l)))).toArray⟩] at hR9
  have hb:=aN hG9 hb hb.size (by omega);have hB2:=aE hG9 hB2 (by omega);have hOu:=aO hOu hG9 (fun g h h9=>bG hOu hD11 rfl (h9.trans h.symm));have hOz:=aO hOz hG9 (fun g h h9=>bG hOz hD11 rfl (h9.trans h.symm));have hD11:=hR9;clear hR9 hG9 hs9;refine wpList_nil ?_;go_upto_region 11 with fail;refine jq 1 ?_;refine ja hD11 Tryz.underlying41 (by rfl) aM ?_;refine bV hb hB2 hD11 fun X9 hX9 hb hB2 hD11=>?_;replace hOu:=aC hOu hX9;replace hOz:=aC hOz hX9;refine aS rfl 41 (.tmp 4) (.tmp 42) rfl (w.heap.size+2) 41 _ hB2 rfl [.bool p.1,vS p.2.1,vS p.2.2,.slice A5 (taD p l (loF l a) 0).l.length c5,.slice A6 (taD p l (loF l a) 0).q.length c6,.bool (rN (a-(bP a (thr l)))),.string ⟨(rP (a-(bP a (thr l)))).toArray⟩,.string ⟨(rD (a-(bP a (thr l)))).toArray⟩] rfl (by rfl) (al8 rfl rfl rfl rfl rfl rfl rfl rfl) aM ?_;intro w9 hR9 hG9;have hb:=aN hG9 hb hb.size (by omega);have hOu:=aO hOu hG9 (fun g h h9=>by injection h with h;have h8:=(bL hOu _ h9).1;omega);have hOz:=aO hOz hG9 (fun g h h9=>by injection h with h;have h8:=(bL hOz _ h9).1;omega)
  go_wp2
  refine bJ (v:=vI 0) rfl rfl (by rfl) (by rfl) Tryz.underlying41 rfl hR9 aM ⟨_,rfl,⟨_,by rw [HE.out],by rw [HR.out];exact ⟨_,_,rfl,bI hOu (by omega),bI hOz (by omega)⟩⟩,hb⟩
theorem losC (p:Tr) (v:Value) (l:List Ho) (t:Tr) (w:World) (hv:Hl l v w) (hs:Hid (Szp l 1000)) (hp:tz p.2.1 p.2.2 1000) (hn:l.length≤8∨20<l.length) (ht:tz t.2.1 t.2.2 1000):Calls Tryz.prog 15 #[.agg #[.bool p.1,vS p.2.1,vS p.2.2,v],.agg #[.bool t.1,vS t.2.1,vS t.2.2]] w fun e w'=>∃ u,e=.returned u∧Tp (Pow w.heap.size (loR p l t)) (fiE p l t) u w'∧Since w w':=by
 by_cases h0:chE p l=0
 ·cases hf:fnT t with
  | false=>exact los1 p v l t w hv hs hp ht h0 hf
  | true =>
   obtain ⟨a,ha,rfl⟩:∃ a:Rat,0≤a∧t=tr a:=⟨trq t,fT hf,(gW (fnT_t.1 hf).2).symm⟩
   have haz:szR a 1000:=by
    have h9:=cV (x:=trq (tr a)) rfl ht (by decide)
    rwa [cF] at h9
   exact los2 p v l a w hv hs hp (qV hn h0) ha haz h0
 ·exact los0 p v l t w hv hs hp h0
theorem rel0 (p:Tr) (v vw:Value) (l:List Ho) (ws:List Tr) (w:World) (hv:Hl l v w) (hs:Hid (Szp l 1000)) (hp:tz p.2.1 p.2.2 1000) (hw:Rl ws vw w) (hws:Hid (∀ k,tz (xt ws k).2.1 (xt ws k).2.2 1000)) (h0:chE p l≠0):Calls Tryz.prog 13 #[.agg #[.bool p.1,vS p.2.1,vS p.2.2,v],vw] w fun e w'=>∃ u,e=.returned u∧Tp (Pow w.heap.size (reR p l ws)) (reE p l ws) u w'∧Since w w':=by
 obtain ⟨Aw,nw,cw,rfl,hwl,hwn,hwr⟩:=eB hw
 have HWX:Hid (∀ X,Since w X→Rd X 3 (.slice Aw nw cw) nw (fl trc ws)):=fun X h=>hwr.below h
 have HWR:Hid (∀ X,Since w X→Rl ws (.slice Aw nw cw) X):=fun X h=>Rl.lasts ws _ _ _ hw h
 have HWL:=Lib.hid hwl;clear hw hwr;obtain ⟨A,n,cp,rfl,hln,hn1,_⟩:=hv.at;have HLN:=Lib.hid hln
 have HV:Hid (∀ X,Since w X→Hl l (.slice A n cp) X):=fun X h=>Hl.lasts l _ _ _ hv h
 clear hv;have hs4:Hid (Szp l 40000):=hs.out.mono (by decide);have hp6:tz p.2.1 p.2.2 1000000:=hp.mono (by decide);obtain ⟨z,z9⟩:∃ z,chE p l=z:=⟨_,rfl⟩;have HZ:=Lib.hid z9;clear z9
 have hz0:z≠0:=by rw [← HZ.out];exact h0
 clear h0
 have HE:Hid (reE p l ws=z):=by
  show _=_
  unfold reE
  rw [HZ.out,if_pos hz0]
 have HR:Hid (reR p l ws=pd0):=if_neg (by rw [HE.out];exact hz0)
 go_enter Tryz.func13,Tryz.ntmps13
 go_upto_region 1 with fail;obtain ⟨W0,hW0,hB0,hB1,hB2,hb⟩:=bS w 26 27 41 [.bool p.1,vS p.2.1,vS p.2.2,.slice A n cp] [.slice Aw nw cw] [.bool false,.string ⟨#[]⟩,.string ⟨#[]⟩,.slice none 0 0,.slice none 0 0,.bool false,.string ⟨#[]⟩,.string ⟨#[]⟩];rw [← hW0];clear hW0;refine jp ?_;refine ja hB0 Tryz.underlying26 (by rfl) aL ?_;refine jc (vI z) (fun X hX hF=>mo (iU p _ l X (HV.out X (Since.next hb hX)) hs4 hp6) (by rw [HZ.out])) ?_;refine jm (vI z) ?_;refine bD hb hB0 hB1 hB2 fun X1 hX1 hb hB0 hB1 hB2=>?_;go_upto_region 2 with fail;refine jp ?_;refine jm (vI z) ?_;refine jv (.bool true) (bE _ _ _ _ (by rfl) .i64 z 0 (by rfl) (by rfl) true (by rw [decide_eq_false (by omega)];rfl)) ?_;refine bD hb hB0 hB1 hB2 fun X2 hX2 hb hB0 hB1 hB2=>?_;go_upto_region 3 with fail;refine jq 2 ?_;refine jn (.agg #[.bool false,.string ⟨#[]⟩,.string ⟨#[]⟩,.slice none 0 0,.slice none 0 0,.bool false,.string ⟨#[]⟩,.string ⟨#[]⟩]) ?_;refine jm (vI z) ?_;refine bD hb hB0 hB1 hB2 fun X3 hX3 hb hB0 hB1 hB2=>?_;refine osb 41 4 11 (w.heap.size+2) 41 hB2 [.bool false,.string ⟨#[]⟩,.string ⟨#[]⟩,.slice none 0 0,.slice none 0 0,.bool false,.string ⟨#[]⟩,.string ⟨#[]⟩] aM ?_;intro w9 hR9 hO9 hB9 hs9;have hb9:=hB9 _ _ hb (by omega);have hB0:=hO9 _ _ _ (by omega) hB0;have hB1:=hO9 _ _ _ (by omega) hB1;clear hO9 hB9
 go_wp2
 refine bJ (v:=vI z) rfl rfl (by rfl) (by rfl) Tryz.underlying41 rfl hR9 aM ⟨_,rfl,⟨_,by rw [HE.out],by rw [HR.out];exact Pow.z _ _⟩,hb9⟩
theorem rel1 (p:Tr) (v vw:Value) (l:List Ho) (ws:List Tr) (w:World) (hv:Hl l v w) (hs:Hid (Szp l 1000)) (hp:tz p.2.1 p.2.2 1000) (hw:Rl ws vw w) (hws:Hid (∀ k,tz (xt ws k).2.1 (xt ws k).2.2 1000)) (h0:chE p l=0) (hf:ws.length≠l.length∨fnL ws=false):Calls Tryz.prog 13 #[.agg #[.bool p.1,vS p.2.1,vS p.2.2,v],vw] w fun e w'=>∃ u,e=.returned u∧Tp (Pow w.heap.size (reR p l ws)) (reE p l ws) u w'∧Since w w':=by
 obtain ⟨Aw,nw,cw,rfl,hwl,hwn,hwr⟩:=eB hw
 have HWX:Hid (∀ X,Since w X→Rd X 3 (.slice Aw nw cw) nw (fl trc ws)):=fun X h=>hwr.below h
 have HWR:Hid (∀ X,Since w X→Rl ws (.slice Aw nw cw) X):=fun X h=>Rl.lasts ws _ _ _ hw h
 have HWL:=Lib.hid hwl;clear hw hwr;obtain ⟨A,n,cp,rfl,hln,hn1,_⟩:=hv.at;have HLN:=Lib.hid hln
 have HV:Hid (∀ X,Since w X→Hl l (.slice A n cp) X):=fun X h=>Hl.lasts l _ _ _ hv h
 clear hv;have hs4:Hid (Szp l 40000):=hs.out.mono (by decide);have hp6:tz p.2.1 p.2.2 1000000:=hp.mono (by decide);have HC:Hid (chE p l=0):=h0;clear h0
 have HE:Hid (reE p l ws=1):=by
  show _=_
  unfold reE
  rw [HC.out,if_neg (by decide),if_pos (hf.imp id fun h9 h8=>by rw [fnL_t.2 h8] at h9;cases h9)]
 have HR:Hid (reR p l ws=pd0):=if_neg (by rw [HE.out];decide);rw [hwl,hln] at hf
 have hws6:Hid (∀ k,tz (xt ws k).2.1 (xt ws k).2.2 1000000):=fun k=>(hws.out k).mono (by decide)
 go_enter Tryz.func13,Tryz.ntmps13
 go_upto_region 1 with fail;obtain ⟨W0,hW0,hB0,hB1,hB2,hb⟩:=bS w 26 27 41 [.bool p.1,vS p.2.1,vS p.2.2,.slice A n cp] [.slice Aw nw cw] [.bool false,.string ⟨#[]⟩,.string ⟨#[]⟩,.slice none 0 0,.slice none 0 0,.bool false,.string ⟨#[]⟩,.string ⟨#[]⟩];rw [← hW0];clear hW0;refine jp ?_;refine ja hB0 Tryz.underlying26 (by rfl) aL ?_;refine jc (vI 0) (fun X hX hF=>mo (iU p _ l X (HV.out X (Since.next hb hX)) hs4 hp6) (by rw [HC.out])) ?_;refine jm (vI 0) ?_;refine bD hb hB0 hB1 hB2 fun X1 hX1 hb hB0 hB1 hB2=>?_;go_upto_region 2 with fail;refine jp ?_;refine jm (vI 0) ?_;refine jv (.bool false) (bE _ _ _ _ (by rfl) .i64 0 0 (by rfl) (by rfl) false (by rw [decide_eq_true (by omega)];rfl)) ?_;refine bD hb hB0 hB1 hB2 fun X2 hX2 hb hB0 hB1 hB2=>?_
 by_cases hq:nw=n
 ·have HFL:Hid (fnL ws=false):=by
   rcases hf with h9|h9
   ·exact absurd hq h9
   ·exact h9
  clear hf;go_upto_region 4 with fail;refine jp ?_;refine jf _ hB1 0 bA ?_;refine jv (vI nw) (aJ Tryz.underlying27 _ (by rfl) Aw nw cw (by rfl) _ rfl) ?_;refine jnf hB0 3 aR ?_;refine jv (vI n) (aJ Tryz.underlying24 _ (by rfl) A n cp (by rfl) _ rfl) ?_;refine jv (.bool false) (bE _ _ _ _ (by rfl) .i64 (nw:Int) (n:Int) (by rfl) (by rfl) false (by rw [decide_eq_true (by omega)];rfl)) ?_;refine jm (.bool false) ?_;refine jf _ hB1 0 bA ?_;refine jc (.bool false) (fun X hX hF=>mo (rF _ ws X (HWR.out X (Since.next hb hX)) hws6) (by rw [HFL.out])) ?_;refine jmm (.bool true) (.bool true) ?_;refine bD hb hB0 hB1 hB2 fun X3 hX3 hb hB0 hB1 hB2=>?_;go_upto_region 5 with fail;refine jq 1 ?_;refine jn (.agg #[.bool false,.string ⟨#[]⟩,.string ⟨#[]⟩,.slice none 0 0,.slice none 0 0,.bool false,.string ⟨#[]⟩,.string ⟨#[]⟩]) ?_;refine bD hb hB0 hB1 hB2 fun X4 hX4 hb hB0 hB1 hB2=>?_;refine osb 41 4 24 (w.heap.size+2) 41 hB2 [.bool false,.string ⟨#[]⟩,.string ⟨#[]⟩,.slice none 0 0,.slice none 0 0,.bool false,.string ⟨#[]⟩,.string ⟨#[]⟩] aM ?_;intro w9 hR9 hO9 hB9 hs9;have hb9:=hB9 _ _ hb (by omega);have hB0:=hO9 _ _ _ (by omega) hB0;have hB1:=hO9 _ _ _ (by omega) hB1;clear hO9 hB9
  go_wp2
  refine bJ (v:=vI 1) rfl rfl (by rfl) (by rfl) Tryz.underlying41 rfl hR9 aM ⟨_,rfl,⟨_,by rw [HE.out],by rw [HR.out];exact Pow.z _ _⟩,hb9⟩
 ·clear hf
  go_upto_region 4 with fail;refine jp ?_;refine jf _ hB1 0 bA ?_;refine jv (vI nw) (aJ Tryz.underlying27 _ (by rfl) Aw nw cw (by rfl) _ rfl) ?_;refine jnf hB0 3 aR ?_;refine jv (vI n) (aJ Tryz.underlying24 _ (by rfl) A n cp (by rfl) _ rfl) ?_;refine jv (.bool true) (bE _ _ _ _ (by rfl) .i64 (nw:Int) (n:Int) (by rfl) (by rfl) true (by rw [decide_eq_false (by omega)];rfl)) ?_;refine jm (.bool true) ?_;refine jss ?_;refine js ?_;refine jm (.bool true) ?_;refine bD hb hB0 hB1 hB2 fun X3 hX3 hb hB0 hB1 hB2=>?_;go_upto_region 5 with fail;refine jq 1 ?_;refine jn (.agg #[.bool false,.string ⟨#[]⟩,.string ⟨#[]⟩,.slice none 0 0,.slice none 0 0,.bool false,.string ⟨#[]⟩,.string ⟨#[]⟩]) ?_;refine bD hb hB0 hB1 hB2 fun X4 hX4 hb hB0 hB1 hB2=>?_;refine osb 41 4 24 (w.heap.size+2) 41 hB2 [.bool false,.string ⟨#[]⟩,.string ⟨#[]⟩,.slice none 0 0,.slice none 0 0,.bool false,.string ⟨#[]⟩,.string ⟨#[]⟩] aM ?_;intro w9 hR9 hO9 hB9 hs9;have hb9:=hB9 _ _ hb (by omega);have hB0:=hO9 _ _ _ (by omega) hB0;have hB1:=hO9 _ _ _ (by omega) hB1;clear hO9 hB9
  go_wp2
  refine bJ (v:=vI 1) rfl rfl (by rfl) (by rfl) Tryz.underlying41 rfl hR9 aM ⟨_,rfl,⟨_,by rw [HE.out],by rw [HR.out];exact Pow.z _ _⟩,hb9⟩
theorem rel2 (p:Tr) (v vw:Value) (l:List Ho) (ws:List Tr) (w:World) (hv:Hl l v w) (hs:Hid (Szp l 1000)) (hp:tz p.2.1 p.2.2 1000) (hw:Rl ws vw w) (hws:Hid (∀ k,tz (xt ws k).2.1 (xt ws k).2.2 1000)) (hn8:l.length≤8) (h0:chE p l=0) (hl:ws.length=l.length) (hf:fnL ws=true):Calls Tryz.prog 13 #[.agg #[.bool p.1,vS p.2.1,vS p.2.2,v],vw] w fun e w'=>∃ u,e=.returned u∧Tp (Pow w.heap.size (reR p l ws)) (reE p l ws) u w'∧Since w w':=by
 obtain ⟨Aw,nw,cw,rfl,hwl,hwn,hwr⟩:=eB hw
 have HWX:Hid (∀ X,Since w X→Rd X 3 (.slice Aw nw cw) nw (fl trc ws)):=fun X h=>hwr.below h
 have HWR:Hid (∀ X,Since w X→Rl ws (.slice Aw nw cw) X):=fun X h=>Rl.lasts ws _ _ _ hw h
 have HWL:=Lib.hid hwl;clear hw hwr;obtain ⟨A,n,cp,rfl,hln,hn1,_⟩:=hv.at;have HLN:=Lib.hid hln
 have HV:Hid (∀ X,Since w X→Hl l (.slice A n cp) X):=fun X h=>Hl.lasts l _ _ _ hv h
 clear hv;have hs4:Hid (Szp l 40000):=hs.out.mono (by decide);have hp6:tz p.2.1 p.2.2 1000000:=hp.mono (by decide);have HOK:Hid (Okp p l):=chE_ok.1 h0;have HC:Hid (chE p l=0):=h0;clear h0
 have HE:Hid (reE p l ws=0):=by
  show _=_
  unfold reE
  rw [HC.out,if_neg (by decide),if_neg]
  rintro (h9|h9)
  ·exact h9 hl
  ·exact h9 (fnL_t.1 hf)
 have HR:Hid (reR p l ws=taD p l (reF l ws) 0):=if_pos HE.out;have HFL:Hid (fnL ws=true):=hf
 have hq1:nw≤n:=by omega
 have hq2:n≤nw:=by omega
 clear hf hl
 have hws6:Hid (∀ k,tz (xt ws k).2.1 (xt ws k).2.2 1000000):=fun k=>(hws.out k).mono (by decide)
 go_enter Tryz.func13,Tryz.ntmps13
 go_upto_region 1 with fail;obtain ⟨W0,hW0,hB0,hB1,hB2,hb⟩:=bS w 26 27 41 [.bool p.1,vS p.2.1,vS p.2.2,.slice A n cp] [.slice Aw nw cw] [.bool false,.string ⟨#[]⟩,.string ⟨#[]⟩,.slice none 0 0,.slice none 0 0,.bool false,.string ⟨#[]⟩,.string ⟨#[]⟩];rw [← hW0];clear hW0;refine jp ?_;refine ja hB0 Tryz.underlying26 (by rfl) aL ?_;refine jc (vI 0) (fun X hX hF=>mo (iU p _ l X (HV.out X (Since.next hb hX)) hs4 hp6) (by rw [HC.out])) ?_;refine jm (vI 0) ?_;refine bD hb hB0 hB1 hB2 fun X1 hX1 hb hB0 hB1 hB2=>?_;go_upto_region 2 with fail;refine jp ?_;refine jm (vI 0) ?_;refine jv (.bool false) (bE _ _ _ _ (by rfl) .i64 0 0 (by rfl) (by rfl) false (by rw [decide_eq_true (by omega)];rfl)) ?_;refine bD hb hB0 hB1 hB2 fun X2 hX2 hb hB0 hB1 hB2=>?_;go_upto_region 4 with fail;refine jp ?_;refine jf _ hB1 0 bA ?_;refine jv (vI nw) (aJ Tryz.underlying27 _ (by rfl) Aw nw cw (by rfl) _ rfl) ?_;refine jnf hB0 3 aR ?_;refine jv (vI n) (aJ Tryz.underlying24 _ (by rfl) A n cp (by rfl) _ rfl) ?_;refine jv (.bool false) (bE _ _ _ _ (by rfl) .i64 (nw:Int) (n:Int) (by rfl) (by rfl) false (by rw [decide_eq_true (by omega)];rfl)) ?_;refine jm (.bool false) ?_;refine jf _ hB1 0 bA ?_;refine jc (.bool true) (fun X hX hF=>mo (rF _ ws X (HWR.out X (Since.next hb hX)) hws6) (by rw [HFL.out])) ?_;refine jmm (.bool false) (.bool false) ?_;refine bD hb hB0 hB1 hB2 fun X3 hX3 hb hB0 hB1 hB2=>?_
 have hwB:=hB2.lt
 have HBQ:Hid (∀ X,Since X3 X→Blk X (w.heap.size+1) 27 [.slice Aw nw cw]∧Since w X):=fun X h=>⟨hB1.bel h,Since.next hb h⟩
 go_upto_region 6 with fail;refine aV 3 [none,none,some (Pow X3.heap.size (taD p l (reF l ws) 0))] (aA (aA (aD (Pow.lasts _ _) (aF)))) ?_;simp only [its,List.take,List.drop,Nat.zero_add,Nat.reduceAdd];refine ja hB0 Tryz.underlying26 (by rfl) aL ?_;refine jv (.func (.func 45) #[] #[vP (w.heap.size+1) 0]) (eY 45 [.tmp 3] [vP (w.heap.size+1) 0] (by rfl) (by rfl)) ?_;refine jk (fun X hX hF=>(zC p _ l 45 [vP (w.heap.size+1) 0] (reF l ws) X (HV.out X (Since.next hb hX)) hs HOK hn8 (fun k hk=>(sA hs.out (by decide) hws.out k).mono (by decide)) (by kernel_rfl) (fun _ _ _=>by go_simp) (fun Y k hY hk=>by rw [HOK.out.ho_tr hk];exact rl1C k _ _ _ _ Aw nw cw ws Y (HBQ.out Y (Since.next hX hY)).1 (HWX.out Y (HBQ.out Y (Since.next hX hY)).2) HWL.out (by rw [HLN.out] at hk;omega) (hws.out k) (hs.out.ct (by decide) k))).mono fun e X' ⟨u,h1,h2,h3⟩=>⟨u,h1,h2.low hX.size,h3⟩) ?_;intro v27;refine aH ?_;intro X4 hX4 hF;have hv27:=hF _ _ List.mem_cons_self;obtain ⟨hB0,hB1,hB2⟩:=bl3 hX4 hB0 hB1 hB2;have hb:=aG hb hX4;clear hF hX4;obtain ⟨uo27,zo27,rfl,hOu,hOz⟩:=hv27
 unfold Oh at hOu
 replace hOu:=bI hOu (show w.heap.size+3≤X3.heap.size by omega);replace hOz:=bI hOz (show w.heap.size+3≤X3.heap.size by omega);obtain ⟨A5,c5,rfl,_,_⟩:=(Rd.of_own hOu).form;obtain ⟨A6,c6,rfl,_,_⟩:=(Rd.of_own hOz).form;refine aS rfl 41 (.tmp 4) (.tmp 27) rfl (w.heap.size+2) 41 _ hB2 rfl [.bool p.1,vS p.2.1,vS p.2.2,.slice A5 (taD p l (reF l ws) 0).l.length c5,.slice A6 (taD p l (reF l ws) 0).q.length c6,.bool false,.string ⟨#[]⟩,.string ⟨#[]⟩] rfl (by rfl) (al8 rfl rfl rfl rfl rfl rfl rfl rfl) aM ?_;intro w9 hR9 hG9;have hb:=aN hG9 hb hb.size (by omega);have hOu:=aO hOu hG9 (fun g h h9=>by injection h with h;have h8:=(bL hOu _ h9).1;omega);have hOz:=aO hOz hG9 (fun g h h9=>by injection h with h;have h8:=(bL hOz _ h9).1;omega)
 go_wp2
 refine bJ (v:=vI 0) rfl rfl (by rfl) (by rfl) Tryz.underlying41 rfl hR9 aM ⟨_,rfl,⟨_,by rw [HE.out],by rw [HR.out];exact ⟨_,_,rfl,bI hOu (by omega),bI hOz (by omega)⟩⟩,hb⟩
theorem relC (p:Tr) (v vw:Value) (l:List Ho) (ws:List Tr) (w:World) (hv:Hl l v w) (hs:Hid (Szp l 1000)) (hp:tz p.2.1 p.2.2 1000) (hw:Rl ws vw w) (hws:Hid (∀ k,tz (xt ws k).2.1 (xt ws k).2.2 1000)) (hn:l.length≤8∨20<l.length):Calls Tryz.prog 13 #[.agg #[.bool p.1,vS p.2.1,vS p.2.2,v],vw] w fun e w'=>∃ u,e=.returned u∧Tp (Pow w.heap.size (reR p l ws)) (reE p l ws) u w'∧Since w w':=by
 by_cases h0:chE p l=0
 ·by_cases hl:ws.length=l.length
  ·cases hf:fnL ws with
   | false=>exact rel1 p v vw l ws w hv hs hp hw hws h0 (.inr hf)
   | true=>exact rel2 p v vw l ws w hv hs hp hw hws (qV hn h0) h0 hl hf
  ·exact rel1 p v vw l ws w hv hs hp hw hws h0 (.inl hl)
 ·exact rel0 p v vw l ws w hv hs hp hw hws h0
end Go.Proofs.YtnfpenhldlfafaaGreatDoor

/- The reference of layer 45: Set, Close. -/
import Derived.Test.YtjkfchehkpmhkaaGreatDoorRc45
import Derived.Test.YtjkfchehkpmhkaaGreatDoorLp
import Derived.Test.YtjkfchehkpmhkaaGreatDoorPh45
set_option linter.unusedSimpArgs false
set_option linter.unusedVariables false
set_option maxRecDepth 100000
set_option maxHeartbeats 1600000
namespace Go.Proofs.YtjkfchehkpmhkaaGreatDoor
open Go.RowKit
theorem vYn (a b c d e f g h:Value) (X:World):(Instr.field 59 (.agg #[a,b,c,d,e,f,g,h]) 0).run Tryz.prog X=.ok (.agg #[a,b,c,d,e,f,g]) X:=by kernel_rfl
def iF (n:Nat):Code→Option Code
 | .seq (.region i o d) b=>if i=n then some (.seq (.region i o d) b) else iF n b
 | .seq a b=>match iF n a with
  | some c=>some c
  | none=>iF n b
 | .block _ c=>iF n c
 | .cond _ a b=>match iF n a with
  | some c=>some c
  | none=>iF n b
 | .loop c=>iF n c
 | .scope c=>iF n c
 | _=>none
def zW (n:Nat) (f:Func):Option Code:=match f.body with
 | some c=>iF n c
 | none=>none
set_option maxHeartbeats 8000000 in
theorem rsT (c:Int) (l:List En) (A:Option Addr) (n cp:Nat) (A2:Option Addr) (m cp2 g9:Nat) (x:En) (w wr:World) (HRX':∀ X,Since w X→Rd X 13 (.slice A n cp) n (fl enc l)) (hln:l.length=n) (hn9:n≤900) (hg9:w.heap.size+2<g9) (hB0:Blk wr w.heap.size 27 [vI c,.slice A n cp,.slice A2 m cp2]) (hB2:Blk wr (w.heap.size+2) 35 [vI 0,.slice none 0 0,.slice none 0 0,vI 0]) (hD9:Blk wr g9 76 (eL x)) (hb:Since w wr) (R9 C9:Code) (K9:Act→World→Prop) (Q:Exit→Act→World→Prop) (hKc:∀ a w,C9.wp Tryz.prog Q a w→K9 a w) (hC:zW 27 Tryz.f13=some (.seq R9 C9)) (z0 z1 z3 z5 z6 z7 z8 z10 z11 z12 z13 z14 z15 z16 z17 z18 z19 z20 z21 z22 z23 z24 z25 z26 z27 z28 z29 z30 z31 z32 z33 z34 z35 z36 z37 z38 z39 z40 z41 z42 z43 z44 z45 z46 z47 z48 z49 z50 z51 z52 z53 z54 z55 z56 z57 z58 z59 z60 z61 z62 z63 z64 z65 z66 z67 z68 z69 z70 z71 z72 z73 z74 z75 z76 z77 z78 z79 z80 z81 z82 z83 z84 z85 z86 z87 z88 z89 z90 z91 z92 z93 z94 z95 z96 z97 z98 z99 z100 z101 z102 z103 z104 z105 z106 z107 z108 z109 z110:Value) (hKt:∀ (U y11 y98 y99 y100 y101 y102 y103 y104 y105 y106 y107 y108 y109 y110:Value) (W:World),Es (l++[x]) U W→Blk W (w.heap.size+2) 35 [vI c,U,.slice A2 m cp2,vI 0]→Since w W→Q .ret ⟨#[z0,z1,.pointer (some ⟨w.heap.size,0,none⟩),z3,.pointer (some ⟨(w.heap.size+2),0,none⟩),z5,z6,z7,z8,.pointer (some ⟨g9,0,none⟩),z10,y11,z12,z13,z14,z15,z16,z17,z18,z19,z20,z21,z22,z23,z24,z25,z26,z27,z28,z29,z30,z31,z32,z33,z34,z35,z36,z37,z38,z39,z40,z41,z42,z43,z44,z45,z46,z47,z48,z49,z50,z51,z52,z53,z54,z55,z56,z57,z58,z59,z60,z61,z62,z63,z64,z65,z66,z67,z68,z69,z70,z71,z72,z73,z74,z75,z76,z77,z78,z79,z80,z81,z82,z83,z84,z85,z86,z87,z88,z89,z90,z91,z92,z93,z94,z95,z96,z97,y98,y99,y100,y101,y102,y103,y104,y105,y106,y107,y108,y109,y110],[]⟩ W):R9.wp Tryz.prog (Exit.then K9 Q) ⟨#[z0,z1,.pointer (some ⟨w.heap.size,0,none⟩),z3,.pointer (some ⟨(w.heap.size+2),0,none⟩),z5,z6,z7,z8,.pointer (some ⟨g9,0,none⟩),z10,z11,z12,z13,z14,z15,z16,z17,z18,z19,z20,z21,z22,z23,z24,z25,z26,z27,z28,z29,z30,z31,z32,z33,z34,z35,z36,z37,z38,z39,z40,z41,z42,z43,z44,z45,z46,z47,z48,z49,z50,z51,z52,z53,z54,z55,z56,z57,z58,z59,z60,z61,z62,z63,z64,z65,z66,z67,z68,z69,z70,z71,z72,z73,z74,z75,z76,z77,z78,z79,z80,z81,z82,z83,z84,z85,z86,z87,z88,z89,z90,z91,z92,z93,z94,z95,z96,z97,z98,z99,z100,z101,z102,z103,z104,z105,z106,z107,z108,z109,z110],[]⟩ wr:=by
 simp only [zW,iF,Tryz.f13,reduceCtorEq,if_true,if_false,Nat.reduceEqDiff,Option.some.injEq,Code.seq.injEq] at hC;obtain ⟨rfl,rfl⟩:=hC;have HRX:=Lib.hid HRX';have HLN:=Lib.hid hln;have HKT:=Lib.hid hKt;clear HRX' hKt hln;go_upto_region 27 with fail;refine jq 1 ?_;refine ja hB0 Tryz.underlying27 (by rfl) aK ?_;refine bE hb hB0 hB2 hD9 fun X1 hX1 hb hB0 hB2 hD9=>?_;go_upto_region 28 with (refine osn 27 11 98 #[vI c,.slice A n cp,.slice A2 m cp2] aK ?_);obtain ⟨Y1,hY9,hD11,hS9⟩:=aT X1 27 [vI c,.slice A n cp,.slice A2 m cp2];rw [← hY9];clear hY9;have hgs11:=hb.size;have hlt11x0:=hB0.lt;have hlt11x1:=hB2.lt;have hlt11x2:=hD9.lt;obtain ⟨hB0,hB2,hD9⟩:=bl3 hS9 hB0 hB2 hD9;have hb:=aI hb hS9;clear hS9;generalize X1.heap.size=g11 at *
 have hlX:(fl enc l).length=n * 13:=by rw [xG,HLN.out]
 have hgw2:=hB2.lt;have hgo:=hD11.lt;go_upto_region 28 with fail;refine rU 7 [some (fun v _=>(fun v=>∃ g,v=.slice (some ⟨g,0,none⟩) 0 0) v),none,none,none,some (lM (Pcp Y1.heap.size 76 13 n (fl enc l))),none,some (lM (fun v X=>∃ g,v=.slice (some ⟨g,0,none⟩) 1 1∧Blk X g 76 (eL x))),some (zI (fun v X=>X.ownsRow Y1.heap.size 76 13 v (n+1) ((fl enc l)++(eL x))))] (by kernel_rfl) (by kernel_rfl) (by kernel_rfl) rfl (uX (dD (dD (dD (mZ (Pcp.lasts _ _ _ _ _) (dD (mZ (fun _ _ _ ⟨g,h1,h2⟩ hS=>⟨g,h1,h2.bel hS⟩) (uZ (S0:=fun v X=>X.ownsRow Y1.heap.size 76 13 v (n+1) ((fl enc l)++(eL x))) (fun _ _ _ h hS=>cH h hS) (uY))))))))) ?_;simp only [iB,List.dropLast,Nat.reduceAdd];refine qQp (fun v=>∃ g,v=.slice (some ⟨g,0,none⟩) 0 0) (fun X hX hF=>⟨_,_,vXr 76 (by unfold execOp;go_simp),⟨_,rfl⟩,bL X _⟩) (Nat.le_refl _) fun v99=>?_
 simp only [pX];refine pg (vP w.heap.size 0) (fun X hX hF=>by (unfold execOp;go_simp)) ?_;simp only [pX];refine pg (vP w.heap.size 1) (fun X hX hF=>by (unfold execOp;go_simp)) ?_;simp only [pX];refine pg (.slice A n cp) (fun X hX hF=>aP 22 _ (by rfl) w.heap.size 1 (by rfl) _ X ((hB0.bel hX).cell (j:=1) rfl) (fun X u h=>aO w.heap.size 1 X u h)) ?_;simp only [pX]
 refine yG (Pcp Y1.heap.size 76 13 n (fl enc l)) (fun X hX hF=>by
  obtain ⟨_,g9,h9⟩:=hF _ _ List.mem_cons_self rfl;obtain ⟨v',X',h1,h2,h3⟩:=jR (P:=Tryz.prog) X _ _ 76 _ 13 120 Tryz.underlying22 jX rfl (by decide) g9 _ n (fl enc l) (HRX.out X (Since.next hb hX)) (by omega) (by unfold maxLen;omega);refine ⟨v',X',gN _ _ _ (by rfl) (show _=.slice (some ⟨g9,0,none⟩) 0 0 from h9) (by rfl) h1,?_,h3⟩
  rcases h2 with ⟨h4,h5⟩|h4
  ·exact .inl ⟨h4,g9,h5⟩
  ·exact .inr (fC h4 hX.size)) (Nat.le_refl _) fun v103=>?_
 simp only [pX];refine pg (.agg #[vI x.day,vI x.deb,vI x.cre,.bool x.am.1,vS x.am.2.1,vS x.am.2.2,vI x.kd,vI x.pd,vI x.rf,vI x.w1,vI x.w2,vI x.w3,vI x.w4]) (fun X hX hF=>tT 76 _ (by rfl) g9 (by rfl) Tryz.underlying76 rfl X (hD9.bel hX) aL) ?_;simp only [pX];refine yG (fun v X=>∃ g,v=.slice (some ⟨g,0,none⟩) 1 1∧Blk X g 76 (eL x)) (fun X hX hF=>⟨_,_,vXq 76 (eL x) (by unfold execOp;go_simp),⟨_,rfl,Blk.new rfl⟩,bL X _⟩) (Nat.le_refl _) fun v105=>?_;simp only [pX];refine pap (hw:=?hw9) (fun v X=>X.ownsRow Y1.heap.size 76 13 v (n+1) ((fl enc l)++(eL x))) ?hr9 ?_
 case hw9=>rfl
 case hr9 =>
  intro X hX hF;have h8:=hF _ (lM (Pcp Y1.heap.size 76 13 n (fl enc l)) v103) (List.mem_cons_of_mem _ List.mem_cons_self) rfl rfl;obtain ⟨g9,h9,h7⟩:=hF _ (lM (fun v X=>∃ g,v=.slice (some ⟨g,0,none⟩) 1 1∧Blk X g 76 (eL x)) v105) List.mem_cons_self rfl rfl;obtain ⟨v',X',h1,h2,h3⟩:=jQ (P:=Tryz.prog) X Y1.heap.size _ _ 76 _ 13 120 Tryz.underlying22 jX rfl (by decide) h8 (hlX) h7 rfl (al13 rfl rfl rfl rfl rfl rfl rfl rfl rfl rfl rfl rfl rfl) (by omega) (by unfold maxLen;omega) hX.size;exact ⟨v',X',gN _ _ _ (by rfl) (by rfl) (show _=.slice (some ⟨g9,0,none⟩) 1 1 from h9) h1,h2,h3⟩
 intro v106;simp only [pX];refine pg (vP g11 0) (fun X hX hF=>by (unfold execOp;go_simp)) ?_;simp only [pX];refine pg (vP g11 1) (fun X hX hF=>by (unfold execOp;go_simp)) ?_;simp only [pX];refine pz ?_;intro X2 hX hF;obtain ⟨_,_,hO106⟩:=hF _ _ List.mem_cons_self;replace hO106:X2.ownsRow Y1.heap.size 76 13 v106 (n+1) ((fl enc l)++(eL x)):=hO106;obtain ⟨hB0,hB2,hD9,hD11⟩:=bl4 hX hB0 hB2 hD9 hD11;have hb:=aI hb hX;clear hF hX;obtain ⟨A6,c6,rfl,_,_⟩:=(Rd.of_own hO106).form;have hOw:=hO106;clear hO106;refine cB rfl g11 1 27 _ hD11 (.slice A6 (n+1) c6) (by simp) (fun X u h1 h2=>pH _ _ (by rfl) _ _ (by rfl) (by rfl) u X h1 h2) ?_;intro w28 hR9 hG9;have hb:=aV hG9 hb hb.size (by omega);replace hB2:=aE hG9 hB2 (by omega);have hOw:=eD hOw hG9 (fun g h h9=>by injection h with h;have h8:=(dG hOw _ h9).1;omega);have hD11:=hR9;clear hR9 hG9 hB0 hD9;refine wpList_nil ?_;go_upto_region 29 with fail;refine jq 2 ?_;refine ja hD11 Tryz.underlying27 (by rfl) aK ?_;refine jn (.agg #[vI c,.slice A6 (n+1) c6,.slice A2 m cp2,vI 0]) ?_;refine aN hb hB2 hD11 fun X3 hX3 hb hB2 hD11=>?_;replace hOw:=cH hOw hX3
 refine bG rfl 35 (.tmp 4) (.tmp 110) rfl (w.heap.size+2) 35 _ hB2 rfl [vI c,.slice A6 (n+1) c6,.slice A2 m cp2,vI 0] rfl (by rfl) (al4 rfl rfl rfl rfl) bJ ?_;intro w9 hR9 hG9;have hOw:=eD hOw hG9 (fun g h h9=>by injection h with h;have h8:=(dG hOw _ h9).1;omega);have hb:=aV hG9 hb hb.size (by omega)
 go_wp2
 exact HKT.out _ _ _ _ _ _ _ _ _ _ _ _ _ _ _ _ (vK (by rw [← pG];exact hOw) (by rw [List.length_append,HLN.out];rfl)) hR9 hb
set_option maxHeartbeats 16000000 in
theorem rseC (B:Nat) (c:Int) (v z:Value) (l:List En) (cs:List Cg) (q:Stg) (w:World) (hv:Es l v w) (hz:Cs B cs z w) (hs1:Hid (Sz45 l)) (hq1:tz q.am.2.1 q.am.2.2 100):Calls Tryz.prog 13 #[.agg #[vI c,v,z],.agg #[vI q.day,vI q.pd,vI q.ac,.bool q.am.1,vS q.am.2.1,vS q.am.2.2,vI q.w1,vI q.w2,vI q.w3,vI q.w4]] w fun e w'=>∃ u,e=.returned u∧Mo B (ifz (cF c l cs q) c) (cX c l cs q) (cY (cF c l cs q) cs) (cF c l cs q) u w'∧Since w w':=by
 have hs:Hid (∀ k,tz (en l k).am.2.1 (en l k).am.2.2 1000000):=fun k=>(hs1.out.sz k).mono (by decide)
 have hq6:tz q.am.2.1 q.am.2.2 1000000:=hq1.mono (by decide);obtain ⟨A,n,cp,A2,m,cp2,rfl,rfl,hln,hn1,hlm,hm1,HRX,HLN,HES,HCS,HRC,HLM⟩:=eU hv hz;clear hv hz;obtain ⟨z0,z09⟩:∃ z,peE c l cs=z:=⟨_,rfl⟩;have HZ:=Lib.hid z09;clear z09
 go_enter Tryz.func13,Tryz.ntmps13
 go_upto_region 1 with fail;obtain ⟨W0,hW0,hB0,hB1,hB2,hb⟩:=dO w 27 44 35 [vI c,.slice A n cp,.slice A2 m cp2] [vI q.day,vI q.pd,vI q.ac,.bool q.am.1,vS q.am.2.1,vS q.am.2.2,vI q.w1,vI q.w2,vI q.w3,vI q.w4] [vI 0,.slice none 0 0,.slice none 0 0,vI 0];rw [← hW0];clear hW0;refine jp ?_;refine ja hB0 Tryz.underlying27 (by rfl) aK ?_;refine jc (vI z0) (fun X hX hF=>mo (yE B c _ _ l cs X (HES.out X (Since.next hb hX)) (HCS.out X (Since.next hb hX)) hs) (by rw [HZ.out])) ?_;refine jm (vI z0) ?_;refine bE hb hB0 hB1 hB2 fun X1 hX1 hb hB0 hB1 hB2=>?_
 by_cases hz0:z0=0
 ·have HC:Hid (peE c l cs=0):=HZ.out.trans hz0
  have HZ0:=Lib.hid hz0;clear hz0;go_upto_region 2 with fail;refine jp ?_;refine jm (vI z0) ?_;refine jv (.bool false) (bA _ _ _ _ (by rfl) .i64 z0 0 (by rfl) (by rfl) false (by rw [HZ0.out];rfl)) ?_;refine bE hb hB0 hB1 hB2 fun X2 hX2 hb hB0 hB1 hB2=>?_;obtain ⟨vv,vv9⟩:∃ z,vd q.am.1 q.am.2.1 q.am.2.2=z:=⟨_,rfl⟩;have HV:=Lib.hid vv9;clear vv9;go_upto_region 4 with fail
  rcases vv with _|_
  ·skip
   refine jp ?_;refine jn (vP (w.heap.size+1) 3) ?_;refine jg (.agg #[.bool q.am.1,st q.am.2.1,st q.am.2.2]) (fun X hX hF=>aY 40 _ (by rfl) (w.heap.size+1) 3 [.bool q.am.1,vS q.am.2.1,vS q.am.2.2] (by rfl) Tryz.underlying40 rfl X (hB1.bel hX) (by rfl) aC) ?_;refine jc (.bool false) (fun X hX hF=>mo (xX q.am.1 q.am.2.1 q.am.2.2 X (Nat.le_trans hq6.1 (by decide)) (Nat.le_trans hq6.2 (by decide))) (by rw [HV.out])) ?_;refine jm (.bool false) ?_;refine bE hb hB0 hB1 hB2 fun X3 hX3 hb hB0 hB1 hB2=>?_
   have HE:Hid (cF c l cs q=1):=by
    show _=_
    unfold cF
    rw [HC.out,if_neg (by decide),if_pos HV.out]
   go_upto_region 5 with fail;refine jp ?_;refine jmm (.bool false) (.bool true) ?_;refine bE hb hB0 hB1 hB2 fun X4 hX4 hb hB0 hB1 hB2=>?_
   have HL:Hid (cX c l cs q=[]):=by
    show _=_
    unfold cX
    rw [HE.out,if_neg (by decide)]
   have HI:Hid (cY (cF c l cs q) cs=[]):=by
    show _=_
    unfold cY
    rw [HE.out,if_neg (by decide)]
   have HJ:Hid (ifz (cF c l cs q) c=0):=by
    show _=_
    unfold ifz
    rw [HE.out,if_neg (by decide)]
   go_upto_region 6 with fail;refine jq 1 ?_;refine jn (.agg #[vI 0,.slice none 0 0,.slice none 0 0,vI 1]) ?_;refine bE hb hB0 hB1 hB2 fun X5 hX5 hb hB0 hB1 hB2=>?_;refine osb 35 4 23 (w.heap.size+2) 35 hB2 [vI 0,.slice none 0 0,.slice none 0 0,vI 1] bJ ?_;intro w9 hR9 hO9 hB9 hs9;have hb9:=hB9 _ _ hb (by omega);have hB0:=hO9 _ _ _ (by omega) hB0;have hB1:=hO9 _ _ _ (by omega) hB1;clear hO9 hB9
   go_wp2
   refine aU rfl rfl (by rfl) Tryz.underlying35 rfl hR9 bJ ⟨_,rfl,⟨.slice none 0 0,.slice none 0 0,by rw [HJ.out,HE.out],by rw [HL.out];exact dV _,by rw [HI.out];exact dW _ _⟩,hb9⟩
  ·skip
   refine jp ?_;refine jn (vP (w.heap.size+1) 3) ?_;refine jg (.agg #[.bool q.am.1,st q.am.2.1,st q.am.2.2]) (fun X hX hF=>aY 40 _ (by rfl) (w.heap.size+1) 3 [.bool q.am.1,vS q.am.2.1,vS q.am.2.2] (by rfl) Tryz.underlying40 rfl X (hB1.bel hX) (by rfl) aC) ?_;refine jc (.bool true) (fun X hX hF=>mo (xX q.am.1 q.am.2.1 q.am.2.2 X (Nat.le_trans hq6.1 (by decide)) (Nat.le_trans hq6.2 (by decide))) (by rw [HV.out])) ?_;refine jm (.bool true) ?_;refine bE hb hB0 hB1 hB2 fun X3 hX3 hb hB0 hB1 hB2=>?_;go_upto_region 5 with fail;refine jp ?_;refine jmm (.bool true) (.bool false) ?_;refine bE hb hB0 hB1 hB2 fun X4 hX4 hb hB0 hB1 hB2=>?_;obtain ⟨k0,k09⟩:∃ z,eA c q.pd q.ac q.day=z:=⟨_,rfl⟩;have HK9:=Lib.hid k09;clear k09;go_upto_region 7 with fail;refine jp ?_;refine ja hB0 Tryz.underlying27 (by rfl) aK ?_;refine jnf hB1 1 aA ?_;refine jnf hB1 2 aA ?_;refine jnf hB1 0 aA ?_;refine jc (vI k0) (fun X hX hF=>mo (vXp B c _ _ l cs q.pd q.ac q.day X (HES.out X (Since.next hb hX)) (HCS.out X (Since.next hb hX))) (by rw [HK9.out])) ?_;refine jm (vI k0) ?_;refine bE hb hB0 hB1 hB2 fun X5 hX5 hb hB0 hB1 hB2=>?_
   by_cases hk0:k0=0
   ·have HA:Hid (eA c q.pd q.ac q.day=0):=HK9.out.trans hk0
    have HKZ:=Lib.hid hk0;clear hk0;go_upto_region 8 with fail;refine jp ?_;refine jm (vI k0) ?_;refine jv (.bool false) (bA _ _ _ _ (by rfl) .i64 k0 0 (by rfl) (by rfl) false (by rw [HKZ.out];rfl)) ?_;refine bE hb hB0 hB1 hB2 fun X6 hX6 hb hB0 hB1 hB2=>?_;obtain ⟨st9,st99⟩:∃ z,stl l cs q.day=z:=⟨_,rfl⟩;have HST:=Lib.hid st99;clear st99;go_upto_region 10 with fail
    rcases st9 with _|_
    ·skip
     refine jp ?_;refine ja hB0 Tryz.underlying27 (by rfl) aK ?_;refine jnf hB1 0 aA ?_;refine jc (.bool false) (fun X hX hF=>mo (qZa B c _ _ l cs q.day X (HES.out X (Since.next hb hX)) (HCS.out X (Since.next hb hX))) (by rw [HST.out])) ?_;refine jm (.bool false) ?_;refine bE hb hB0 hB1 hB2 fun X7 hX7 hb hB0 hB1 hB2=>?_;go_upto_region 11 with fail;refine jp ?_;refine jm (.bool false) ?_;refine bE hb hB0 hB1 hB2 fun X8 hX8 hb hB0 hB1 hB2=>?_
     by_cases hn:l.length=4000
     ·have HE:Hid (cF c l cs q=2):=by
       show _=_
       unfold cF
       rw [HC.out,if_neg (by decide),if_neg (by rw [HV.out];decide),HA.out,if_neg (by decide),if_neg (by rw [HST.out];decide),if_pos hn]
      have HN4:Hid (n=4000):=by show _=_;rw [← HLN.out];exact hn
      clear hn;go_upto_region 13 with fail;refine jp ?_;refine jn (vP w.heap.size 0) ?_;refine jnf hB0 1 aO ?_;refine jv (vI n) (aF Tryz.underlying22 _ (by rfl) A n cp (by rfl) _ rfl) ?_;refine dA (n:Int) 4000 (by rw [HN4.out];rfl) ?_;refine bE hb hB0 hB1 hB2 fun X9 hX9 hb hB0 hB1 hB2=>?_
      have HL:Hid (cX c l cs q=[]):=by
       show _=_
       unfold cX
       rw [HE.out,if_neg (by decide)]
      have HI:Hid (cY (cF c l cs q) cs=[]):=by
       show _=_
       unfold cY
       rw [HE.out,if_neg (by decide)]
      have HJ:Hid (ifz (cF c l cs q) c=0):=by
       show _=_
       unfold ifz
       rw [HE.out,if_neg (by decide)]
      go_upto_region 14 with fail;refine jq 1 ?_;refine jn (.agg #[vI 0,.slice none 0 0,.slice none 0 0,vI 2]) ?_;refine bE hb hB0 hB1 hB2 fun X10 hX10 hb hB0 hB1 hB2=>?_;refine osb 35 4 47 (w.heap.size+2) 35 hB2 [vI 0,.slice none 0 0,.slice none 0 0,vI 2] bJ ?_;intro w9 hR9 hO9 hB9 hs9;have hb9:=hB9 _ _ hb (by omega);have hB0:=hO9 _ _ _ (by omega) hB0;have hB1:=hO9 _ _ _ (by omega) hB1;clear hO9 hB9
      go_wp2
      refine aU rfl rfl (by rfl) Tryz.underlying35 rfl hR9 bJ ⟨_,rfl,⟨.slice none 0 0,.slice none 0 0,by rw [HJ.out,HE.out],by rw [HL.out];exact dV _,by rw [HI.out];exact dW _ _⟩,hb9⟩
     ·have HE:Hid (cF c l cs q=0):=by
       show _=_
       unfold cF
       rw [HC.out,if_neg (by decide),if_neg (by rw [HV.out];decide),HA.out,if_neg (by decide),if_neg (by rw [HST.out];decide),if_neg hn]
      have HI:Hid (cY (cF c l cs q) cs=cs):=if_pos HE.out;have HJ:Hid (ifz (cF c l cs q) c=c):=if_pos HE.out;have HOK:Hid (Ok45 c l cs):=peE_ok.1 HC.out;have hlen4:=HOK.out.ac.len;have hl9:=hs1.out.ln hlen4;have hp0:0≤q.pd:=(fS HA.out).1;have HLT9:Hid (kT cs q.pd (l.length:Int)=decide (q.pd<(cs.length:Int))):=HOK.out.late hp0;obtain ⟨fd1,hfd1⟩:∃ z,gG c l cs q.pd q.ac 14609=z:=⟨_,rfl⟩;obtain ⟨fd2,hfd2⟩:∃ z,mG c l cs q.pd q.ac 14609=z:=⟨_,rfl⟩;have HFD1:=Lib.hid hfd1;have HFD2:=Lib.hid hfd2
      have HFE:Hid (fK c l cs q.pd q.ac 14609=0):=by
       show _=_
       have h9:=fS HA.out
       unfold fK
       rw [HC.out,if_neg (by decide)];exact if_neg (by omega)
      obtain ⟨K0,hK0⟩:∃ z,knw l q.pd q.ac 14609=z:=⟨_,rfl⟩;have HK0:=Lib.hid hK0;have HFK:Hid (gF c l cs q.pd q.ac 14609=K0):=(vF HFE.out).1.trans hK0
      have hsK:szR K0 808001:=by rw [← hK0];exact (nZ (by decide) hs1.out.sz _ _ _ _).mono (by omega)
      clear hK0 hfd1 hfd2;obtain ⟨M,hM⟩:∃ z,mor l q=z:=⟨_,rfl⟩;have HM:=Lib.hid hM
      have HMS:Hid (trq q.am-K0=M):=by
       show _=_
       rw [← hM]
       unfold mor
       rw [HK0.out]
      have hsM:szR M 808102:=by
       rw [← HMS.out];exact (lQ (gQ rfl hq1) hsK).mono (by decide)
      clear hM;rw [HLN.out] at hn hlen4;go_upto_region 13 with fail;refine jp ?_;refine jn (vP w.heap.size 0) ?_;refine jnf hB0 1 aO ?_;refine jv (vI n) (aF Tryz.underlying22 _ (by rfl) A n cp (by rfl) _ rfl) ?_;refine dN (n:Int) 4000 (by omega) ?_;refine bE hb hB0 hB1 hB2 fun X9 hX9 hb hB0 hB1 hB2=>?_;have hlt8x0:=hB0.lt;have hlt8x1:=hB1.lt;have hlt8x2:=hB2.lt;have hsn8:=hb.size;have hbs8:Since X9 X9:=Below.refl _ _;go_upto_region 15 with fail;refine bD [none,none,none,none,none,none,none,none,none,none,none,some (Av 40 [.bool false,.string ⟨#[]⟩,.string ⟨#[]⟩] X9.heap.size)] (by kernel_rfl) (by kernel_rfl) (by kernel_rfl) rfl (aB (aB (aB (aB (aB (aB (aB (aB (aB (aB (aB (aD (Av.lasts _ _ _) (aH))))))))))))) ?_;simp only [its,List.dropLast,Nat.zero_add,Nat.reduceAdd];refine jn (vP (w.heap.size+1) 3) ?_;refine jg (.agg #[.bool q.am.1,st q.am.2.1,st q.am.2.2]) (fun X hX hF=>aY 40 _ (by rfl) (w.heap.size+1) 3 [.bool q.am.1,vS q.am.2.1,vS q.am.2.2] (by rfl) Tryz.underlying40 rfl X (hB1.bel hX) (by rfl) aC) ?_;refine ja hB0 Tryz.underlying27 (by rfl) aK ?_;refine jnf hB1 1 aA ?_;refine jnf hB1 2 aA ?_;refine jc (.agg #[.bool (rN K0),st (rP K0),st (rD K0),.bool (rN fd1),st (rP fd1),st (rD fd1),.bool fd2,vI 0]) (fun X hX hF=>mo (rfgC B c _ _ l cs q.pd q.ac 14609 X (HES.out X (Since.next hb hX)) (HCS.out X (Since.next hb hX)) hs1) (by rw [HFK.out,HFD1.out,HFD2.out,HFE.out])) ?_
      refine jv (.agg #[.bool (rN K0),st (rP K0),st (rD K0),.bool (rN fd1),st (rP fd1),st (rD fd1),.bool fd2]) (fun X=>nG _ _ _ (by rfl) (by rfl) X (vYn _ _ _ _ _ _ _ _ X)) ?_;refine jv (rt (rN K0) (rP K0) (rD K0)) (fun X=>nG _ _ _ (by rfl) (by rfl) X (qVy _ _ _ _ _ _ _ X)) ?_;refine jc (rt (rN M) (rP M) (rD M)) (fun X hX hF=>(subV5 q.am.1 q.am.2.1 q.am.2.2 (rN K0) (rP K0) (rD K0) rfl (eM K0) X hq6 (tzR hsK (by decide))).mono fun e X' ⟨h1,h2⟩=>⟨by rw [h1];show _=_;rw [show rq q.am.1 q.am.2.1 q.am.2.2=trq q.am from rfl,HMS.out],h2⟩) ?_;refine cC (by rfl) (fun X hX hF=>Av.mk 40 [.bool false,.string ⟨#[]⟩,.string ⟨#[]⟩] X9.heap.size hX.size (by unfold execOp;go_simp)) ?_;intro v8;simp only [pX];refine aJ ?_;intro X10 hX10 hF;have hv8:=hF _ _ List.mem_cons_self;have hbs8:=Since.next hbs8 hX10;obtain ⟨hB0,hB1,hB2⟩:=bl3 hX10 hB0 hB1 hB2;have hb:=aI hb hX10;clear hF hX10;obtain ⟨g8,rfl,hge8,hD8⟩:=hv8;refine bG rfl 40 (.tmp 8) (.tmp 58) rfl g8 40 _ hD8 rfl [.bool (rN M),vS (rP M),vS (rD M)] rfl (by rfl) (al3 rfl rfl rfl) aC ?_;intro w8s hR9 hG9;have hSN8:Since X9 w8s:=aV hG9 hbs8 hbs8.size hge8;have hb:=aV hG9 hb hb.size (by omega);replace hB0:=aE hG9 hB0 (by omega);replace hB1:=aE hG9 hB1 (by omega);replace hB2:=aE hG9 hB2 (by omega);have hD8:=hR9;clear hG9 hR9 hSN8 hbs8;refine wpList_nil ?_
      by_cases hm0:M=0
      ·have HM0:Hid (M=0):=hm0
       have HL:Hid (cX c l cs q=l):=(if_pos HE.out).trans (if_pos (HM.out.trans hm0))
       have HZQ:Hid ((rN M == false && rP M == [] && rD M == [])=true):=by
        show _=_
        rw [HM0.out]
        rfl
       clear hm0;go_upto_region 16 with fail;refine jp ?_;refine ja hD8 Tryz.underlying40 (by rfl) aC ?_;refine jn (rz) ?_;refine jv (.bool true) (dB _ _ (by rfl) (rN M) (rP M) (rD M) false [] [] (by rfl) (by rfl) true HZQ.out) ?_;refine cM hb hB0 hB1 hB2 hD8 fun X11 hX11 hb hB0 hB1 hB2 hD8=>?_;go_upto_region 17 with fail;refine jq 2 ?_;refine ja hB0 Tryz.underlying27 (by rfl) aK ?_;refine jn (.agg #[vI c,.slice A n cp,.slice A2 m cp2,vI 0]) ?_;refine cM hb hB0 hB1 hB2 hD8 fun X12 hX12 hb hB0 hB1 hB2 hD8=>?_;refine bG rfl 35 (.tmp 4) (.tmp 63) rfl (w.heap.size+2) 35 _ hB2 rfl [vI c,.slice A n cp,.slice A2 m cp2,vI 0] rfl (by rfl) (al4 rfl rfl rfl rfl) bJ ?_;intro w9 hR9 hG9;have hb:=aV hG9 hb hb.size (by omega);have hCS9:=HCS.out _ hb;have hES9:=HES.out _ hb
       go_wp2
       refine aU rfl rfl (by rfl) Tryz.underlying35 rfl hR9 bJ ⟨_,rfl,⟨_,_,by rw [HJ.out,HE.out],by rw [HL.out];exact hES9,by rw [HI.out];exact hCS9⟩,hb⟩
      ·have HMN:Hid (M≠0):=hm0
       have HL:Hid (cX c l cs q=l++[dM l cs q]):=(if_pos HE.out).trans (if_neg (by rw [HM.out];exact hm0));have HZQ:Hid ((rN M == false && rP M == [] && rD M == [])=false):=vZ (by rw [eM];exact hm0);clear hm0;go_upto_region 16 with fail;refine jp ?_;refine ja hD8 Tryz.underlying40 (by rfl) aC ?_;refine jn (rz) ?_;refine jv (.bool false) (dB _ _ (by rfl) (rN M) (rP M) (rD M) false [] [] (by rfl) (by rfl) false HZQ.out) ?_;refine cM hb hB0 hB1 hB2 hD8 fun X11 hX11 hb hB0 hB1 hB2 hD8=>?_;go_upto_region 18 with fail;refine jq 11 ?_;refine jnf hB1 0 aA ?_;refine jnf hB1 2 aA ?_;refine ja hD8 Tryz.underlying40 (by rfl) aC ?_;refine jnf hB1 1 aA ?_;refine jn (vP (w.heap.size+1) 6) ?_;refine jg (.agg #[vI q.w1,vI q.w2,vI q.w3,vI q.w4]) (fun X hX hF=>aY 42 _ (by rfl) (w.heap.size+1) 6 [vI q.w1,vI q.w2,vI q.w3,vI q.w4] (by rfl) Tryz.underlying42 rfl X (hB1.bel hX) (by rfl) fR) ?_;refine jnn (.agg #[vI 1,vI q.pd,vI (-1),vI q.w1,vI q.w2,vI q.w3,vI q.w4]) (.agg #[vI q.day,vI q.ac,vI 0,.bool (rN M),st (rP M),st (rD M),vI 1,vI q.pd,vI (-1),vI q.w1,vI q.w2,vI q.w3,vI q.w4]) ?_;refine cM hb hB0 hB1 hB2 hD8 fun X12 hX12 hb hB0 hB1 hB2 hD8=>?_;go_upto_region 19 with (refine osn 76 9 74 #[vI q.day,vI q.ac,vI 0,.bool (rN M),vS (rP M),vS (rD M),vI 1,vI q.pd,vI (-1),vI q.w1,vI q.w2,vI q.w3,vI q.w4] aL ?_)
       obtain ⟨Y12,hY9,hD9,hS9⟩:=aT X12 76 [vI q.day,vI q.ac,vI 0,.bool (rN M),vS (rP M),vS (rD M),vI 1,vI q.pd,vI (-1),vI q.w1,vI q.w2,vI q.w3,vI q.w4];rw [← hY9];clear hY9;have hgs9:=hb.size;have hlt9x0:=hB0.lt;have hlt9x1:=hB1.lt;have hlt9x2:=hB2.lt;have hlt9x3:=hD8.lt;obtain ⟨hB0,hB1,hB2,hD8⟩:=bl4 hS9 hB0 hB1 hB2 hD8;have hb:=aI hb hS9;clear hS9;generalize X12.heap.size=g9 at *;obtain ⟨lt9,hlt9⟩:∃ b,decide (q.pd<(cs.length:Int))=b:=⟨_,rfl⟩;have HLT:=Lib.hid hlt9
       have HCD9:Hid (kT cs q.pd (n:Int)=lt9):=by
        show _=_
        rw [← HLN.out,HLT9.out,HLT.out]
       clear hlt9;go_upto_region 19 with fail;refine jp ?_;refine ja hB0 Tryz.underlying27 (by rfl) aK ?_;refine jnf hB1 1 aA ?_;refine jn (vP w.heap.size 0) ?_;refine jnf hB0 1 aO ?_;refine jv (vI n) (aF Tryz.underlying22 _ (by rfl) A n cp (by rfl) _ rfl) ?_;refine jc (.bool lt9) (fun X hX hF=>mo (vXm B c _ _ l cs q.pd (n:Int) X (HES.out X (Since.next hb hX)) (HCS.out X (Since.next hb hX)) hp0) (by rw [HCD9.out])) ?_;refine jm (.bool lt9) ?_;refine dU hb hB0 hB1 hB2 hD8 hD9 fun X13 hX13 hb hB0 hB1 hB2 hD8 hD9=>?_
       rcases lt9 with _|_
       ·skip
        go_upto_region 20 with fail;refine jp ?_;refine jm (.bool false) ?_;refine dU hb hB0 hB1 hB2 hD8 hD9 fun X14 hX14 hb hB0 hB1 hB2 hD8 hD9=>?_;have HO:Hid (kP cs q=0):=if_neg (of_decide_eq_false HLT.out);have HKD:Hid (kQ cs q=1):=if_neg (of_decide_eq_false HLT.out);go_upto_region 23 with fail
        by_cases hs0:M<0
        ·have HRN:Hid (rN M=true):=rN_iff.2 hs0
         have HXS:Hid (dM l cs q=⟨q.day,0,q.ac,tr (-M),1,q.pd,-1,q.w1,q.w2,q.w3,q.w4⟩):=by
          show _=_
          unfold dM
          rw [if_pos (by rw [HM.out];exact hs0),HM.out,HO.out,HKD.out]
         refine jp ?_;refine jn (vP g8 0) ?_;refine jg (.bool true) (fun X hX hF=>jE (congrArg Value.bool HRN.out.symm) (aP 4 _ (by rfl) g8 0 (by rfl) _ X ((hD8.bel hX).cell (j:=0) rfl) (fun X u h=>aS g8 0 X u h))) ?_;refine dU hb hB0 hB1 hB2 hD8 hD9 fun X15 hX15 hb hB0 hB1 hB2 hD8 hD9=>?_;go_upto_region 24 with fail;refine jq 3 ?_;refine jnf hD9 2 aA ?_;refine jn (vP g9 1) ?_;refine dU hb hB0 hB1 hB2 hD8 hD9 fun X16 hX16 hb hB0 hB1 hB2 hD8 hD9=>?_;refine cB rfl g9 1 76 _ hD9 (vI 0) (by simp) (fun X u h1 h2=>eX _ _ (by rfl) _ _ (by rfl) (by rfl) u X h1 h2) ?_;intro w24 hR9 hG9;have hb:=aV hG9 hb hb.size (by omega);replace hB0:=aE hG9 hB0 (by omega);replace hB1:=aE hG9 hB1 (by omega);replace hB2:=aE hG9 hB2 (by omega);replace hD8:=aE hG9 hD8 (by omega)
         change Blk w24 g9 76 [vI q.day,vI 0,vI 0,.bool (rN M),vS (rP M),vS (rD M),vI 1,vI q.pd,vI (-1),vI q.w1,vI q.w2,vI q.w3,vI q.w4] at hR9
         have hD9:=hR9;clear hR9 hG9;refine wpList_nil ?_;go_upto_region 25 with fail;refine jq 3 ?_;refine jnf hB1 2 aA ?_;refine jn (vP g9 2) ?_;refine dU hb hB0 hB1 hB2 hD8 hD9 fun X17 hX17 hb hB0 hB1 hB2 hD8 hD9=>?_;refine cB rfl g9 2 76 _ hD9 (vI q.ac) (by simp) (fun X u h1 h2=>eX _ _ (by rfl) _ _ (by rfl) (by rfl) u X h1 h2) ?_;intro w25 hR9 hG9;have hb:=aV hG9 hb hb.size (by omega);replace hB0:=aE hG9 hB0 (by omega);replace hB1:=aE hG9 hB1 (by omega);replace hB2:=aE hG9 hB2 (by omega);replace hD8:=aE hG9 hD8 (by omega)
         change Blk w25 g9 76 [vI q.day,vI 0,vI q.ac,.bool (rN M),vS (rP M),vS (rD M),vI 1,vI q.pd,vI (-1),vI q.w1,vI q.w2,vI q.w3,vI q.w4] at hR9
         have hD9:=hR9;clear hR9 hG9;refine wpList_nil ?_;go_upto_region 26 with fail;refine jq 3 ?_;refine ja hD8 Tryz.underlying40 (by rfl) aC ?_;refine jc (rt (rN (-M)) (rP (-M)) (rD (-M))) (fun X hX hF=>qZh (rN M) (rP M) (rD M) (eM M) X (tzR hsM (by decide))) ?_;refine jn (vP g9 3) ?_;refine dU hb hB0 hB1 hB2 hD8 hD9 fun X18 hX18 hb hB0 hB1 hB2 hD8 hD9=>?_;refine cL rfl 40 (.tmp 97) (.tmp 96) rfl g9 76 _ hD9 3 rfl [.bool (rN (-M)),vS (rP (-M)),vS (rD (-M))] rfl (by simp) (al3 rfl rfl rfl) aC ?_;intro w26 hR9 hG9 hs9;have hb:=aV hG9 hb hb.size (by omega);replace hB0:=aE hG9 hB0 (by omega);replace hB1:=aE hG9 hB1 (by omega);replace hB2:=aE hG9 hB2 (by omega);replace hD8:=aE hG9 hD8 (by omega)
         change Blk w26 g9 76 [vI q.day,vI 0,vI q.ac,.bool (rN (-M)),vS (rP (-M)),vS (rD (-M)),vI 1,vI q.pd,vI (-1),vI q.w1,vI q.w2,vI q.w3,vI q.w4] at hR9
         have hD9:=hR9;clear hR9 hG9 hs9;refine wpList_nil ?_;go_upto_region 27 with fail;refine rsT c l A n cp A2 m cp2 g9 (⟨q.day,0,q.ac,tr (-M),1,q.pd,-1,q.w1,q.w2,q.w3,q.w4⟩:En) w w26 HRX.out HLN.out (by rw [← HLN.out];exact hl9) (by omega) hB0 hB2 hD9 hb _ _ _ _ (by assumption) (by kernel_rfl) _ _ _ _ _ _ _ _ _ _ _ _ _ _ _ _ _ _ _ _ _ _ _ _ _ _ _ _ _ _ _ _ _ _ _ _ _ _ _ _ _ _ _ _ _ _ _ _ _ _ _ _ _ _ _ _ _ _ _ _ _ _ _ _ _ _ _ _ _ _ _ _ _ _ _ _ _ _ _ _ _ _ _ _ _ _ _ _ _ _ _ _ _ _ _ _ _ _ _ _ _ _ _ _ _ _ _ _ ?_;clear hB0 hB2 hD9 hb;intro U y11 y98 y99 y100 y101 y102 y103 y104 y105 y106 y107 y108 y109 y110 W9 hU hR9 hb;have hCS9:=HCS.out _ hb
         try go_wp2
         refine aU rfl rfl (by rfl) Tryz.underlying35 rfl hR9 bJ ⟨_,rfl,⟨_,_,by rw [HJ.out,HE.out],by rw [HL.out,HXS.out];exact hU,by rw [HI.out];exact hCS9⟩,hb⟩
        ·have HRN:Hid (rN M=false):=by
          show _=_
          rw [Bool.eq_false_iff]
          exact fun h9=>hs0 (rN_iff.1 h9)
         have HXS:Hid (dM l cs q=⟨q.day,q.ac,0,tr M,1,q.pd,-1,q.w1,q.w2,q.w3,q.w4⟩):=by
          show _=_
          unfold dM
          rw [if_neg (by rw [HM.out];exact hs0),HM.out,HO.out,HKD.out]
         refine jp ?_;refine jn (vP g8 0) ?_;refine jg (.bool false) (fun X hX hF=>jE (congrArg Value.bool HRN.out.symm) (aP 4 _ (by rfl) g8 0 (by rfl) _ X ((hD8.bel hX).cell (j:=0) rfl) (fun X u h=>aS g8 0 X u h))) ?_;refine dU hb hB0 hB1 hB2 hD8 hD9 fun X15 hX15 hb hB0 hB1 hB2 hD8 hD9=>?_;go_upto_region 27 with fail;refine rsT c l A n cp A2 m cp2 g9 (⟨q.day,q.ac,0,tr M,1,q.pd,-1,q.w1,q.w2,q.w3,q.w4⟩:En) w X15 HRX.out HLN.out (by rw [← HLN.out];exact hl9) (by omega) hB0 hB2 hD9 hb _ _ _ _ (by assumption) (by kernel_rfl) _ _ _ _ _ _ _ _ _ _ _ _ _ _ _ _ _ _ _ _ _ _ _ _ _ _ _ _ _ _ _ _ _ _ _ _ _ _ _ _ _ _ _ _ _ _ _ _ _ _ _ _ _ _ _ _ _ _ _ _ _ _ _ _ _ _ _ _ _ _ _ _ _ _ _ _ _ _ _ _ _ _ _ _ _ _ _ _ _ _ _ _ _ _ _ _ _ _ _ _ _ _ _ _ _ _ _ _ ?_;clear hB0 hB2 hD9 hb;intro U y11 y98 y99 y100 y101 y102 y103 y104 y105 y106 y107 y108 y109 y110 W9 hU hR9 hb;have hCS9:=HCS.out _ hb
         try go_wp2
         refine aU rfl rfl (by rfl) Tryz.underlying35 rfl hR9 bJ ⟨_,rfl,⟨_,_,by rw [HJ.out,HE.out],by rw [HL.out,HXS.out];exact hU,by rw [HI.out];exact hCS9⟩,hb⟩
       ·skip
        go_upto_region 20 with fail;refine jp ?_;refine jm (.bool true) ?_;refine dU hb hB0 hB1 hB2 hD8 hD9 fun X14 hX14 hb hB0 hB1 hB2 hD8 hD9=>?_;go_upto_region 21 with fail;refine jq 1 ?_;refine jn (vP g9 2) ?_;refine dU hb hB0 hB1 hB2 hD8 hD9 fun X15 hX15 hb hB0 hB1 hB2 hD8 hD9=>?_;refine cB rfl g9 2 76 _ hD9 (vI 1) (by simp) (fun X u h1 h2=>eX _ _ (by rfl) _ _ (by rfl) (by rfl) u X h1 h2) ?_;intro w21 hR9 hG9;have hb:=aV hG9 hb hb.size (by omega);replace hB0:=aE hG9 hB0 (by omega);replace hB1:=aE hG9 hB1 (by omega);replace hB2:=aE hG9 hB2 (by omega);replace hD8:=aE hG9 hD8 (by omega)
        change Blk w21 g9 76 [vI q.day,vI q.ac,vI 1,.bool (rN M),vS (rP M),vS (rD M),vI 1,vI q.pd,vI (-1),vI q.w1,vI q.w2,vI q.w3,vI q.w4] at hR9
        have hD9:=hR9;clear hR9 hG9;refine wpList_nil ?_;go_upto_region 22 with fail;refine jq 2 ?_;refine jnn (vP g9 6) (vP g9 6) ?_;refine dU hb hB0 hB1 hB2 hD8 hD9 fun X16 hX16 hb hB0 hB1 hB2 hD8 hD9=>?_;refine cB rfl g9 6 76 _ hD9 (vI 3) (by simp) (fun X u h1 h2=>eX _ _ (by rfl) _ _ (by rfl) (by rfl) u X h1 h2) ?_;intro w22 hR9 hG9;have hb:=aV hG9 hb hb.size (by omega);replace hB0:=aE hG9 hB0 (by omega);replace hB1:=aE hG9 hB1 (by omega);replace hB2:=aE hG9 hB2 (by omega);replace hD8:=aE hG9 hD8 (by omega)
        change Blk w22 g9 76 [vI q.day,vI q.ac,vI 1,.bool (rN M),vS (rP M),vS (rD M),vI 3,vI q.pd,vI (-1),vI q.w1,vI q.w2,vI q.w3,vI q.w4] at hR9
        have hD9:=hR9;clear hR9 hG9;refine wpList_nil ?_;have HO:Hid (kP cs q=1):=if_pos (of_decide_eq_true HLT.out);have HKD:Hid (kQ cs q=3):=if_pos (of_decide_eq_true HLT.out);go_upto_region 23 with fail
        by_cases hs0:M<0
        ·have HRN:Hid (rN M=true):=rN_iff.2 hs0
         have HXS:Hid (dM l cs q=⟨q.day,1,q.ac,tr (-M),3,q.pd,-1,q.w1,q.w2,q.w3,q.w4⟩):=by
          show _=_
          unfold dM
          rw [if_pos (by rw [HM.out];exact hs0),HM.out,HO.out,HKD.out]
         refine jp ?_;refine jn (vP g8 0) ?_;refine jg (.bool true) (fun X hX hF=>jE (congrArg Value.bool HRN.out.symm) (aP 4 _ (by rfl) g8 0 (by rfl) _ X ((hD8.bel hX).cell (j:=0) rfl) (fun X u h=>aS g8 0 X u h))) ?_;refine dU hb hB0 hB1 hB2 hD8 hD9 fun X17 hX17 hb hB0 hB1 hB2 hD8 hD9=>?_;go_upto_region 24 with fail;refine jq 3 ?_;refine jnf hD9 2 aA ?_;refine jn (vP g9 1) ?_;refine dU hb hB0 hB1 hB2 hD8 hD9 fun X18 hX18 hb hB0 hB1 hB2 hD8 hD9=>?_;refine cB rfl g9 1 76 _ hD9 (vI 1) (by simp) (fun X u h1 h2=>eX _ _ (by rfl) _ _ (by rfl) (by rfl) u X h1 h2) ?_;intro w24 hR9 hG9;have hb:=aV hG9 hb hb.size (by omega);replace hB0:=aE hG9 hB0 (by omega);replace hB1:=aE hG9 hB1 (by omega);replace hB2:=aE hG9 hB2 (by omega);replace hD8:=aE hG9 hD8 (by omega)
         change Blk w24 g9 76 [vI q.day,vI 1,vI 1,.bool (rN M),vS (rP M),vS (rD M),vI 3,vI q.pd,vI (-1),vI q.w1,vI q.w2,vI q.w3,vI q.w4] at hR9
         have hD9:=hR9;clear hR9 hG9;refine wpList_nil ?_;go_upto_region 25 with fail;refine jq 3 ?_;refine jnf hB1 2 aA ?_;refine jn (vP g9 2) ?_;refine dU hb hB0 hB1 hB2 hD8 hD9 fun X19 hX19 hb hB0 hB1 hB2 hD8 hD9=>?_;refine cB rfl g9 2 76 _ hD9 (vI q.ac) (by simp) (fun X u h1 h2=>eX _ _ (by rfl) _ _ (by rfl) (by rfl) u X h1 h2) ?_;intro w25 hR9 hG9;have hb:=aV hG9 hb hb.size (by omega);replace hB0:=aE hG9 hB0 (by omega);replace hB1:=aE hG9 hB1 (by omega);replace hB2:=aE hG9 hB2 (by omega);replace hD8:=aE hG9 hD8 (by omega)
         change Blk w25 g9 76 [vI q.day,vI 1,vI q.ac,.bool (rN M),vS (rP M),vS (rD M),vI 3,vI q.pd,vI (-1),vI q.w1,vI q.w2,vI q.w3,vI q.w4] at hR9
         have hD9:=hR9;clear hR9 hG9;refine wpList_nil ?_;go_upto_region 26 with fail;refine jq 3 ?_;refine ja hD8 Tryz.underlying40 (by rfl) aC ?_;refine jc (rt (rN (-M)) (rP (-M)) (rD (-M))) (fun X hX hF=>qZh (rN M) (rP M) (rD M) (eM M) X (tzR hsM (by decide))) ?_;refine jn (vP g9 3) ?_;refine dU hb hB0 hB1 hB2 hD8 hD9 fun X20 hX20 hb hB0 hB1 hB2 hD8 hD9=>?_;refine cL rfl 40 (.tmp 97) (.tmp 96) rfl g9 76 _ hD9 3 rfl [.bool (rN (-M)),vS (rP (-M)),vS (rD (-M))] rfl (by simp) (al3 rfl rfl rfl) aC ?_;intro w26 hR9 hG9 hs9;have hb:=aV hG9 hb hb.size (by omega);replace hB0:=aE hG9 hB0 (by omega);replace hB1:=aE hG9 hB1 (by omega);replace hB2:=aE hG9 hB2 (by omega);replace hD8:=aE hG9 hD8 (by omega)
         change Blk w26 g9 76 [vI q.day,vI 1,vI q.ac,.bool (rN (-M)),vS (rP (-M)),vS (rD (-M)),vI 3,vI q.pd,vI (-1),vI q.w1,vI q.w2,vI q.w3,vI q.w4] at hR9
         have hD9:=hR9;clear hR9 hG9 hs9;refine wpList_nil ?_;go_upto_region 27 with fail;refine rsT c l A n cp A2 m cp2 g9 (⟨q.day,1,q.ac,tr (-M),3,q.pd,-1,q.w1,q.w2,q.w3,q.w4⟩:En) w w26 HRX.out HLN.out (by rw [← HLN.out];exact hl9) (by omega) hB0 hB2 hD9 hb _ _ _ _ (by assumption) (by kernel_rfl) _ _ _ _ _ _ _ _ _ _ _ _ _ _ _ _ _ _ _ _ _ _ _ _ _ _ _ _ _ _ _ _ _ _ _ _ _ _ _ _ _ _ _ _ _ _ _ _ _ _ _ _ _ _ _ _ _ _ _ _ _ _ _ _ _ _ _ _ _ _ _ _ _ _ _ _ _ _ _ _ _ _ _ _ _ _ _ _ _ _ _ _ _ _ _ _ _ _ _ _ _ _ _ _ _ _ _ _ ?_;clear hB0 hB2 hD9 hb;intro U y11 y98 y99 y100 y101 y102 y103 y104 y105 y106 y107 y108 y109 y110 W9 hU hR9 hb;have hCS9:=HCS.out _ hb
         try go_wp2
         refine aU rfl rfl (by rfl) Tryz.underlying35 rfl hR9 bJ ⟨_,rfl,⟨_,_,by rw [HJ.out,HE.out],by rw [HL.out,HXS.out];exact hU,by rw [HI.out];exact hCS9⟩,hb⟩
        ·have HRN:Hid (rN M=false):=by
          show _=_
          rw [Bool.eq_false_iff]
          exact fun h9=>hs0 (rN_iff.1 h9)
         have HXS:Hid (dM l cs q=⟨q.day,q.ac,1,tr M,3,q.pd,-1,q.w1,q.w2,q.w3,q.w4⟩):=by
          show _=_
          unfold dM
          rw [if_neg (by rw [HM.out];exact hs0),HM.out,HO.out,HKD.out]
         refine jp ?_;refine jn (vP g8 0) ?_;refine jg (.bool false) (fun X hX hF=>jE (congrArg Value.bool HRN.out.symm) (aP 4 _ (by rfl) g8 0 (by rfl) _ X ((hD8.bel hX).cell (j:=0) rfl) (fun X u h=>aS g8 0 X u h))) ?_;refine dU hb hB0 hB1 hB2 hD8 hD9 fun X17 hX17 hb hB0 hB1 hB2 hD8 hD9=>?_;go_upto_region 27 with fail;refine rsT c l A n cp A2 m cp2 g9 (⟨q.day,q.ac,1,tr M,3,q.pd,-1,q.w1,q.w2,q.w3,q.w4⟩:En) w X17 HRX.out HLN.out (by rw [← HLN.out];exact hl9) (by omega) hB0 hB2 hD9 hb _ _ _ _ (by assumption) (by kernel_rfl) _ _ _ _ _ _ _ _ _ _ _ _ _ _ _ _ _ _ _ _ _ _ _ _ _ _ _ _ _ _ _ _ _ _ _ _ _ _ _ _ _ _ _ _ _ _ _ _ _ _ _ _ _ _ _ _ _ _ _ _ _ _ _ _ _ _ _ _ _ _ _ _ _ _ _ _ _ _ _ _ _ _ _ _ _ _ _ _ _ _ _ _ _ _ _ _ _ _ _ _ _ _ _ _ _ _ _ _ ?_;clear hB0 hB2 hD9 hb;intro U y11 y98 y99 y100 y101 y102 y103 y104 y105 y106 y107 y108 y109 y110 W9 hU hR9 hb;have hCS9:=HCS.out _ hb
         try go_wp2
         refine aU rfl rfl (by rfl) Tryz.underlying35 rfl hR9 bJ ⟨_,rfl,⟨_,_,by rw [HJ.out,HE.out],by rw [HL.out,HXS.out];exact hU,by rw [HI.out];exact hCS9⟩,hb⟩
    ·skip
     refine jp ?_;refine ja hB0 Tryz.underlying27 (by rfl) aK ?_;refine jnf hB1 0 aA ?_;refine jc (.bool true) (fun X hX hF=>mo (qZa B c _ _ l cs q.day X (HES.out X (Since.next hb hX)) (HCS.out X (Since.next hb hX))) (by rw [HST.out])) ?_;refine jm (.bool true) ?_;refine bE hb hB0 hB1 hB2 fun X7 hX7 hb hB0 hB1 hB2=>?_;go_upto_region 11 with fail;refine jp ?_;refine jm (.bool true) ?_;refine bE hb hB0 hB1 hB2 fun X8 hX8 hb hB0 hB1 hB2=>?_
     have HE:Hid (cF c l cs q=15):=by
      show _=_
      unfold cF
      rw [HC.out,if_neg (by decide),if_neg (by rw [HV.out];decide),HA.out,if_neg (by decide),if_pos HST.out]
     have HL:Hid (cX c l cs q=[]):=by
      show _=_
      unfold cX
      rw [HE.out,if_neg (by decide)]
     have HI:Hid (cY (cF c l cs q) cs=[]):=by
      show _=_
      unfold cY
      rw [HE.out,if_neg (by decide)]
     have HJ:Hid (ifz (cF c l cs q) c=0):=by
      show _=_
      unfold ifz
      rw [HE.out,if_neg (by decide)]
     go_upto_region 12 with fail;refine jq 1 ?_;refine jn (.agg #[vI 0,.slice none 0 0,.slice none 0 0,vI 15]) ?_;refine bE hb hB0 hB1 hB2 fun X9 hX9 hb hB0 hB1 hB2=>?_;refine osb 35 4 41 (w.heap.size+2) 35 hB2 [vI 0,.slice none 0 0,.slice none 0 0,vI 15] bJ ?_;intro w9 hR9 hO9 hB9 hs9;have hb9:=hB9 _ _ hb (by omega);have hB0:=hO9 _ _ _ (by omega) hB0;have hB1:=hO9 _ _ _ (by omega) hB1;clear hO9 hB9
     go_wp2
     refine aU rfl rfl (by rfl) Tryz.underlying35 rfl hR9 bJ ⟨_,rfl,⟨.slice none 0 0,.slice none 0 0,by rw [HJ.out,HE.out],by rw [HL.out];exact dV _,by rw [HI.out];exact dW _ _⟩,hb9⟩
   ·have HE:Hid (cF c l cs q=k0):=by
     show _=_
     unfold cF
     rw [HC.out,if_neg (by decide),if_neg (by rw [HV.out];decide),HK9.out,if_pos hk0]
    go_upto_region 8 with fail;refine jp ?_;refine jm (vI k0) ?_;refine jv (.bool true) (bA _ _ _ _ (by rfl) .i64 k0 0 (by rfl) (by rfl) true (by rw [decide_eq_false (by omega)];rfl)) ?_;refine bE hb hB0 hB1 hB2 fun X6 hX6 hb hB0 hB1 hB2=>?_
    have HL:Hid (cX c l cs q=[]):=by
     show _=_
     unfold cX
     rw [HE.out,if_neg hk0]
    have HI:Hid (cY (cF c l cs q) cs=[]):=by
     show _=_
     unfold cY
     rw [HE.out,if_neg hk0]
    have HJ:Hid (ifz (cF c l cs q) c=0):=by
     show _=_
     unfold ifz
     rw [HE.out,if_neg hk0]
    go_upto_region 9 with fail;refine jq 2 ?_;refine jmn (vI k0) (.agg #[vI 0,.slice none 0 0,.slice none 0 0,vI k0]) ?_;refine bE hb hB0 hB1 hB2 fun X7 hX7 hb hB0 hB1 hB2=>?_;refine osb 35 4 35 (w.heap.size+2) 35 hB2 [vI 0,.slice none 0 0,.slice none 0 0,vI k0] bJ ?_;intro w9 hR9 hO9 hB9 hs9;have hb9:=hB9 _ _ hb (by omega);have hB0:=hO9 _ _ _ (by omega) hB0;have hB1:=hO9 _ _ _ (by omega) hB1;clear hO9 hB9
    go_wp2
    refine aU rfl rfl (by rfl) Tryz.underlying35 rfl hR9 bJ ⟨_,rfl,⟨.slice none 0 0,.slice none 0 0,by rw [HJ.out,HE.out],by rw [HL.out];exact dV _,by rw [HI.out];exact dW _ _⟩,hb9⟩
 ·have HE:Hid (cF c l cs q=z0):=by
   show _=_
   unfold cF
   rw [HZ.out,if_pos hz0]
  go_upto_region 2 with fail;refine jp ?_;refine jm (vI z0) ?_;refine jv (.bool true) (bA _ _ _ _ (by rfl) .i64 z0 0 (by rfl) (by rfl) true (by rw [decide_eq_false (by omega)];rfl)) ?_;refine bE hb hB0 hB1 hB2 fun X2 hX2 hb hB0 hB1 hB2=>?_
  have HL:Hid (cX c l cs q=[]):=by
   show _=_
   unfold cX
   rw [HE.out,if_neg hz0]
  have HI:Hid (cY (cF c l cs q) cs=[]):=by
   show _=_
   unfold cY
   rw [HE.out,if_neg hz0]
  have HJ:Hid (ifz (cF c l cs q) c=0):=by
   show _=_
   unfold ifz
   rw [HE.out,if_neg hz0]
  go_upto_region 3 with fail;refine jq 2 ?_;refine jmn (vI z0) (.agg #[vI 0,.slice none 0 0,.slice none 0 0,vI z0]) ?_;refine bE hb hB0 hB1 hB2 fun X3 hX3 hb hB0 hB1 hB2=>?_;refine osb 35 4 17 (w.heap.size+2) 35 hB2 [vI 0,.slice none 0 0,.slice none 0 0,vI z0] bJ ?_;intro w9 hR9 hO9 hB9 hs9;have hb9:=hB9 _ _ hb (by omega);have hB0:=hO9 _ _ _ (by omega) hB0;have hB1:=hO9 _ _ _ (by omega) hB1;clear hO9 hB9
  go_wp2
  refine aU rfl rfl (by rfl) Tryz.underlying35 rfl hR9 bJ ⟨_,rfl,⟨.slice none 0 0,.slice none 0 0,by rw [HJ.out,HE.out],by rw [HL.out];exact dV _,by rw [HI.out];exact dW _ _⟩,hb9⟩
set_option maxHeartbeats 8000000 in
theorem rclC (B:Nat) (c:Int) (v z:Value) (l:List En) (cs:List Cg) (d:Int) (w:World) (hv:Es l v w) (hz:Cs B cs z w) (hs:Hid (∀ k,tz (en l k).am.2.1 (en l k).am.2.2 1000000)):Calls Tryz.prog 15 #[.agg #[vI c,v,z],vI d] w fun e w'=>∃ u,e=.returned u∧Mo B (ifz (cO c l cs d) c) (cY (cO c l cs d) l) (eS c l cs d) (cO c l cs d) u w'∧Since w w':=by
 obtain ⟨A,n,cp,A2,m,cp2,rfl,rfl,hln,hn1,hlm,hm1,HRX,HLN,HES,HCS,HRC,HLM⟩:=eU hv hz;clear hv hz;obtain ⟨z0,z09⟩:∃ z,peE c l cs=z:=⟨_,rfl⟩;have HZ:=Lib.hid z09;clear z09
 go_enter Tryz.func15,Tryz.ntmps15
 go_upto_region 1 with fail;obtain ⟨W0,hW0,hB0,hB1,hb⟩:=cV w 27 35 [vI c,.slice A n cp,.slice A2 m cp2] [vI 0,.slice none 0 0,.slice none 0 0,vI 0];rw [← hW0];clear hW0;refine jp ?_;refine ja hB0 Tryz.underlying27 (by rfl) aK ?_;refine jc (vI z0) (fun X hX hF=>mo (yE B c _ _ l cs X (HES.out X (Since.next hb hX)) (HCS.out X (Since.next hb hX)) hs) (by rw [HZ.out])) ?_;refine jm (vI z0) ?_;refine aN hb hB0 hB1 fun X1 hX1 hb hB0 hB1=>?_
 by_cases hz0:z0=0
 ·have HC:Hid (peE c l cs=0):=HZ.out.trans hz0
  have HZ0:=Lib.hid hz0;clear hz0;go_upto_region 2 with fail;refine jp ?_;refine jm (vI z0) ?_;refine jv (.bool false) (bA _ _ _ _ (by rfl) .i64 z0 0 (by rfl) (by rfl) false (by rw [HZ0.out];rfl)) ?_;refine aN hb hB0 hB1 fun X2 hX2 hb hB0 hB1=>?_
  rcases (show d<0∨(0≤d∧14609<d)∨(0≤d∧d≤14609) by omega) with h|h|h
  ·have HE:Hid (cO c l cs d=3):=by
    show _=_
    unfold cO
    rw [HC.out,if_neg (by decide),if_pos (.inl h)]
   go_upto_region 4 with fail;refine jp ?_;refine jm (vI d) ?_;refine cE d 0 (by omega) ?_;refine jm (.bool true) ?_;refine jss ?_;refine jm (.bool true) ?_;refine aN hb hB0 hB1 fun X3 hX3 hb hB0 hB1=>?_
   have HL:Hid (cY (cO c l cs d) l=[]):=by
    show _=_
    unfold cY
    rw [HE.out,if_neg (by decide)]
   have HI:Hid (eS c l cs d=[]):=by
    show _=_
    unfold eS
    rw [HE.out,if_neg (by decide)]
   have HJ:Hid (ifz (cO c l cs d) c=0):=by
    show _=_
    unfold ifz
    rw [HE.out,if_neg (by decide)]
   go_upto_region 5 with fail;refine jq 1 ?_;refine jn (.agg #[vI 0,.slice none 0 0,.slice none 0 0,vI 3]) ?_;refine aN hb hB0 hB1 fun X4 hX4 hb hB0 hB1=>?_;refine osb 35 4 20 (w.heap.size+1) 35 hB1 [vI 0,.slice none 0 0,.slice none 0 0,vI 3] bJ ?_;intro w9 hR9 hO9 hB9 hs9;have hb9:=hB9 _ _ hb (by omega);have hB0:=hO9 _ _ _ (by omega) hB0;clear hO9 hB9
   go_wp2
   refine aU rfl rfl (by rfl) Tryz.underlying35 rfl hR9 bJ ⟨_,rfl,⟨.slice none 0 0,.slice none 0 0,by rw [HJ.out,HE.out],by rw [HL.out];exact dV _,by rw [HI.out];exact dW _ _⟩,hb9⟩
  ·have HE:Hid (cO c l cs d=3):=by
    show _=_
    unfold cO
    rw [HC.out,if_neg (by decide),if_pos (.inr h.2)]
   go_upto_region 4 with fail;refine jp ?_;refine jm (vI d) ?_;refine bI d 0 (by omega) ?_;refine jmm (.bool false) (vI d) ?_;refine cD d 14609 (by omega) ?_;refine jm (.bool true) ?_;refine aN hb hB0 hB1 fun X3 hX3 hb hB0 hB1=>?_
   have HL:Hid (cY (cO c l cs d) l=[]):=by
    show _=_
    unfold cY
    rw [HE.out,if_neg (by decide)]
   have HI:Hid (eS c l cs d=[]):=by
    show _=_
    unfold eS
    rw [HE.out,if_neg (by decide)]
   have HJ:Hid (ifz (cO c l cs d) c=0):=by
    show _=_
    unfold ifz
    rw [HE.out,if_neg (by decide)]
   go_upto_region 5 with fail;refine jq 1 ?_;refine jn (.agg #[vI 0,.slice none 0 0,.slice none 0 0,vI 3]) ?_;refine aN hb hB0 hB1 fun X4 hX4 hb hB0 hB1=>?_;refine osb 35 4 20 (w.heap.size+1) 35 hB1 [vI 0,.slice none 0 0,.slice none 0 0,vI 3] bJ ?_;intro w9 hR9 hO9 hB9 hs9;have hb9:=hB9 _ _ hb (by omega);have hB0:=hO9 _ _ _ (by omega) hB0;clear hO9 hB9
   go_wp2
   refine aU rfl rfl (by rfl) Tryz.underlying35 rfl hR9 bJ ⟨_,rfl,⟨.slice none 0 0,.slice none 0 0,by rw [HJ.out,HE.out],by rw [HL.out];exact dV _,by rw [HI.out];exact dW _ _⟩,hb9⟩
  ·have hd:=h
   clear h;obtain ⟨st9,st99⟩:∃ z,stl l cs d=z:=⟨_,rfl⟩;have HST:=Lib.hid st99;clear st99;go_upto_region 4 with fail;refine jp ?_;refine jm (vI d) ?_;refine bI d 0 (by omega) ?_;refine jmm (.bool false) (vI d) ?_;refine bZ d 14609 (by omega) ?_;refine jm (.bool false) ?_;refine aN hb hB0 hB1 fun X3 hX3 hb hB0 hB1=>?_;go_upto_region 6 with fail
   rcases st9 with _|_
   ·skip
    refine jp ?_;refine ja hB0 Tryz.underlying27 (by rfl) aK ?_;refine jm (vI d) ?_;refine jc (.bool false) (fun X hX hF=>mo (qZa B c _ _ l cs d X (HES.out X (Since.next hb hX)) (HCS.out X (Since.next hb hX))) (by rw [HST.out])) ?_;refine jm (.bool false) ?_;refine aN hb hB0 hB1 fun X4 hX4 hb hB0 hB1=>?_;go_upto_region 7 with fail;refine jp ?_;refine jm (.bool false) ?_;refine aN hb hB0 hB1 fun X5 hX5 hb hB0 hB1=>?_
    by_cases hn:cs.length=4000
    ·have HE:Hid (cO c l cs d=2):=by
      show _=_
      unfold cO
      rw [HC.out,if_neg (by decide),if_neg (by omega),if_neg (by rw [HST.out];decide),if_pos hn]
     have HM4:Hid (m=4000):=by show _=_;rw [← HLM.out];exact hn
     clear hn;go_upto_region 9 with fail;refine jp ?_;refine jnf hB0 2 aZ ?_;refine jv (vI m) (aF Tryz.underlying25 _ (by rfl) A2 m cp2 (by rfl) _ rfl) ?_;refine dA (m:Int) 4000 (by rw [HM4.out];rfl) ?_;refine aN hb hB0 hB1 fun X6 hX6 hb hB0 hB1=>?_
     have HL:Hid (cY (cO c l cs d) l=[]):=by
      show _=_
      unfold cY
      rw [HE.out,if_neg (by decide)]
     have HI:Hid (eS c l cs d=[]):=by
      show _=_
      unfold eS
      rw [HE.out,if_neg (by decide)]
     have HJ:Hid (ifz (cO c l cs d) c=0):=by
      show _=_
      unfold ifz
      rw [HE.out,if_neg (by decide)]
     go_upto_region 10 with fail;refine jq 1 ?_;refine jn (.agg #[vI 0,.slice none 0 0,.slice none 0 0,vI 2]) ?_;refine aN hb hB0 hB1 fun X7 hX7 hb hB0 hB1=>?_;refine osb 35 4 30 (w.heap.size+1) 35 hB1 [vI 0,.slice none 0 0,.slice none 0 0,vI 2] bJ ?_;intro w9 hR9 hO9 hB9 hs9;have hb9:=hB9 _ _ hb (by omega);have hB0:=hO9 _ _ _ (by omega) hB0;clear hO9 hB9
     go_wp2
     refine aU rfl rfl (by rfl) Tryz.underlying35 rfl hR9 bJ ⟨_,rfl,⟨.slice none 0 0,.slice none 0 0,by rw [HJ.out,HE.out],by rw [HL.out];exact dV _,by rw [HI.out];exact dW _ _⟩,hb9⟩
    ·have HE:Hid (cO c l cs d=0):=by
      show _=_
      unfold cO
      rw [HC.out,if_neg (by decide),if_neg (by omega),if_neg (by rw [HST.out];decide),if_neg hn]
     have HL:Hid (eS c l cs d=cs++[⟨d,(l.length:Int)⟩]):=by
      show _=_
      unfold eS
      rw [if_pos HE.out]
     have HI:Hid (cY (cO c l cs d) l=l):=if_pos HE.out;have HJ:Hid (ifz (cO c l cs d) c=c):=if_pos HE.out;have hf4:=(peE_ok.1 HC.out).few;rw [HLM.out] at hn hf4;go_upto_region 9 with fail;refine jp ?_;refine jnf hB0 2 aZ ?_;refine jv (vI m) (aF Tryz.underlying25 _ (by rfl) A2 m cp2 (by rfl) _ rfl) ?_;refine dN (m:Int) 4000 (by omega) ?_;refine aN hb hB0 hB1 fun X6 hX6 hb hB0 hB1=>?_;go_upto_region 11 with fail;refine jq 1 ?_;refine ja hB0 Tryz.underlying27 (by rfl) aK ?_;refine aN hb hB0 hB1 fun X7 hX7 hb hB0 hB1=>?_;go_upto_region 12 with (refine osn 27 7 31 #[vI c,.slice A n cp,.slice A2 m cp2] aK ?_);obtain ⟨Y7,hY9,hD7,hS9⟩:=aT X7 27 [vI c,.slice A n cp,.slice A2 m cp2];rw [← hY9];clear hY9;have hgs7:=hb.size;have hlt7x0:=hB0.lt;have hlt7x1:=hB1.lt;obtain ⟨hB0,hB1⟩:=bl2 hS9 hB0 hB1;have hb:=aI hb hS9;clear hS9;generalize X7.heap.size=g7 at *
     have hlX:(fl clc cs).length=m * 2:=by rw [xK,HLM.out]
     have hgw2:=hB1.lt;have hgo:=hD7.lt;go_upto_region 12 with fail;refine rU 11 [some (fun v _=>(fun v=>∃ g,v=.slice (some ⟨g,0,none⟩) 0 0) v),none,none,some (lM (Pcp Y7.heap.size 72 2 m (fl clc cs))),none,none,none,none,none,none,some (lM (fun v X=>∃ g,v=.slice (some ⟨g,0,none⟩) 1 1∧Blk X g 72 [vI d,vI n])),some (zI (fun v X=>X.ownsRow Y7.heap.size 72 2 v (m+1) ((fl clc cs)++[vI d,vI n])))] (by kernel_rfl) (by kernel_rfl) (by kernel_rfl) rfl (uX (dD (dD (mZ (Pcp.lasts _ _ _ _ _) (dD (dD (dD (dD (dD (dD (mZ (fun _ _ _ ⟨g,h1,h2⟩ hS=>⟨g,h1,h2.bel hS⟩) (uZ (S0:=fun v X=>X.ownsRow Y7.heap.size 72 2 v (m+1) ((fl clc cs)++[vI d,vI n])) (fun _ _ _ h hS=>cH h hS) (uY))))))))))))) ?_;simp only [iB,List.dropLast,Nat.reduceAdd];refine qQp (fun v=>∃ g,v=.slice (some ⟨g,0,none⟩) 0 0) (fun X hX hF=>⟨_,_,vXr 72 (by unfold execOp;go_simp),⟨_,rfl⟩,bL X _⟩) (Nat.le_refl _) fun v32=>?_;simp only [pX];refine pg (vP w.heap.size 2) (fun X hX hF=>by (unfold execOp;go_simp)) ?_;simp only [pX];refine pg (.slice A2 m cp2) (fun X hX hF=>aP 25 _ (by rfl) w.heap.size 2 (by rfl) _ X ((hB0.bel hX).cell (j:=2) rfl) (fun X u h=>aZ w.heap.size 2 X u h)) ?_;simp only [pX]
     refine yG (Pcp Y7.heap.size 72 2 m (fl clc cs)) (fun X hX hF=>by
      obtain ⟨_,g9,h9⟩:=hF _ _ List.mem_cons_self rfl;obtain ⟨v',X',h1,h2,h3⟩:=jR (P:=Tryz.prog) X _ _ 72 _ 2 16 Tryz.underlying25 mD rfl (by decide) g9 _ m (fl clc cs) (HRC.out X (Since.next hb hX)) (by omega) (by unfold maxLen;omega);refine ⟨v',X',gN _ _ _ (by rfl) (show _=.slice (some ⟨g9,0,none⟩) 0 0 from h9) (by rfl) h1,?_,h3⟩
      rcases h2 with ⟨h4,h5⟩|h4
      ·exact .inl ⟨h4,g9,h5⟩
      ·exact .inr (fC h4 hX.size)) (Nat.le_refl _) fun v35=>?_
     simp only [pX];refine pg (vI d) (fun X hX hF=>by rfl) ?_;simp only [pX];refine pg (vP w.heap.size 0) (fun X hX hF=>by (unfold execOp;go_simp)) ?_;simp only [pX];refine pg (vP w.heap.size 1) (fun X hX hF=>by (unfold execOp;go_simp)) ?_;simp only [pX];refine pg (.slice A n cp) (fun X hX hF=>aP 22 _ (by rfl) w.heap.size 1 (by rfl) _ X ((hB0.bel hX).cell (j:=1) rfl) (fun X u h=>aO w.heap.size 1 X u h)) ?_;simp only [pX];refine pg (vI n) (fun X hX hF=>aF Tryz.underlying22 _ (by rfl) A n cp (by rfl) _ rfl X) ?_;simp only [pX];refine pg (.agg #[vI d,vI n]) (fun X hX hF=>by (unfold execOp;go_simp)) ?_;simp only [pX];refine yG (fun v X=>∃ g,v=.slice (some ⟨g,0,none⟩) 1 1∧Blk X g 72 [vI d,vI n]) (fun X hX hF=>⟨_,_,vXq 72 [vI d,vI n] (by unfold execOp;go_simp),⟨_,rfl,Blk.new rfl⟩,bL X _⟩) (Nat.le_refl _) fun v42=>?_;simp only [pX];refine pap (hw:=?hw9) (fun v X=>X.ownsRow Y7.heap.size 72 2 v (m+1) ((fl clc cs)++[vI d,vI n])) ?hr9 ?_
     case hw9=>rfl
     case hr9 =>
      intro X hX hF;have h8:=hF _ (lM (Pcp Y7.heap.size 72 2 m (fl clc cs)) v35) (List.mem_cons_of_mem _ List.mem_cons_self) rfl rfl;obtain ⟨g9,h9,h7⟩:=hF _ (lM (fun v X=>∃ g,v=.slice (some ⟨g,0,none⟩) 1 1∧Blk X g 72 [vI d,vI n]) v42) List.mem_cons_self rfl rfl;obtain ⟨v',X',h1,h2,h3⟩:=jQ (P:=Tryz.prog) X Y7.heap.size _ _ 72 _ 2 16 Tryz.underlying25 mD rfl (by decide) h8 (hlX) h7 rfl (al2 rfl rfl) (by omega) (by unfold maxLen;omega) hX.size;exact ⟨v',X',gN _ _ _ (by rfl) (by rfl) (show _=.slice (some ⟨g9,0,none⟩) 1 1 from h9) h1,h2,h3⟩
     intro v43;simp only [pX];refine pg (vP g7 2) (fun X hX hF=>by (unfold execOp;go_simp)) ?_;simp only [pX];refine pz ?_;intro X8 hX hF;obtain ⟨_,_,hO43⟩:=hF _ _ List.mem_cons_self;replace hO43:X8.ownsRow Y7.heap.size 72 2 v43 (m+1) ((fl clc cs)++[vI d,vI n]):=hO43;obtain ⟨hB0,hB1,hD7⟩:=bl3 hX hB0 hB1 hD7;have hb:=aI hb hX;clear hF hX;obtain ⟨A6,c6,rfl,_,_⟩:=(Rd.of_own hO43).form;have hOw:=hO43;clear hO43;refine cB rfl g7 2 27 _ hD7 (.slice A6 (m+1) c6) (by simp) (fun X u h1 h2=>tR _ _ (by rfl) _ _ (by rfl) (by rfl) u X h1 h2) ?_;intro w12 hR9 hG9;have hb:=aV hG9 hb hb.size (by omega);replace hB1:=aE hG9 hB1 (by omega);have hOw:=eD hOw hG9 (fun g h h9=>by injection h with h;have h8:=(dG hOw _ h9).1;omega);have hD7:=hR9;clear hR9 hG9 hB0;refine wpList_nil ?_;go_upto_region 13 with fail;refine jq 2 ?_;refine ja hD7 Tryz.underlying27 (by rfl) aK ?_;refine jn (.agg #[vI c,.slice A n cp,.slice A6 (m+1) c6,vI 0]) ?_;refine aN hb hB1 hD7 fun X9 hX9 hb hB1 hD7=>?_;replace hOw:=cH hOw hX9;refine bG rfl 35 (.tmp 4) (.tmp 46) rfl (w.heap.size+1) 35 _ hB1 rfl [vI c,.slice A n cp,.slice A6 (m+1) c6,vI 0] rfl (by rfl) (al4 rfl rfl rfl rfl) bJ ?_;intro w9 hR9 hG9;have hb:=aV hG9 hb hb.size (by omega);have hOw:=eD hOw hG9 (fun g h h9=>by injection h with h;have h8:=(dG hOw _ h9).1;omega)
     have hES9:=HES.out _ hb
     go_wp2
     refine aU rfl rfl (by rfl) Tryz.underlying35 rfl hR9 bJ ⟨_,rfl,⟨_,_,by rw [HJ.out,HE.out],by rw [HI.out];exact hES9,by rw [HL.out];exact qXr (by rw [← tO];show World.ownsRow _ _ _ _ _ _ (fl clc cs++[vI d,vI (l.length:Int)]);rw [HLN.out];exact hOw) (by rw [List.length_append,HLM.out];rfl)⟩,hb⟩
   ·skip
    refine jp ?_;refine ja hB0 Tryz.underlying27 (by rfl) aK ?_;refine jm (vI d) ?_;refine jc (.bool true) (fun X hX hF=>mo (qZa B c _ _ l cs d X (HES.out X (Since.next hb hX)) (HCS.out X (Since.next hb hX))) (by rw [HST.out])) ?_;refine jm (.bool true) ?_;refine aN hb hB0 hB1 fun X4 hX4 hb hB0 hB1=>?_;go_upto_region 7 with fail;refine jp ?_;refine jm (.bool true) ?_;refine aN hb hB0 hB1 fun X5 hX5 hb hB0 hB1=>?_
    have HE:Hid (cO c l cs d=15):=by
     show _=_
     unfold cO
     rw [HC.out,if_neg (by decide),if_neg (by omega),if_pos HST.out]
    have HL:Hid (cY (cO c l cs d) l=[]):=by
     show _=_
     unfold cY
     rw [HE.out,if_neg (by decide)]
    have HI:Hid (eS c l cs d=[]):=by
     show _=_
     unfold eS
     rw [HE.out,if_neg (by decide)]
    have HJ:Hid (ifz (cO c l cs d) c=0):=by
     show _=_
     unfold ifz
     rw [HE.out,if_neg (by decide)]
    go_upto_region 8 with fail;refine jq 1 ?_;refine jn (.agg #[vI 0,.slice none 0 0,.slice none 0 0,vI 15]) ?_;refine aN hb hB0 hB1 fun X6 hX6 hb hB0 hB1=>?_;refine osb 35 4 25 (w.heap.size+1) 35 hB1 [vI 0,.slice none 0 0,.slice none 0 0,vI 15] bJ ?_;intro w9 hR9 hO9 hB9 hs9;have hb9:=hB9 _ _ hb (by omega);have hB0:=hO9 _ _ _ (by omega) hB0;clear hO9 hB9
    go_wp2
    refine aU rfl rfl (by rfl) Tryz.underlying35 rfl hR9 bJ ⟨_,rfl,⟨.slice none 0 0,.slice none 0 0,by rw [HJ.out,HE.out],by rw [HL.out];exact dV _,by rw [HI.out];exact dW _ _⟩,hb9⟩
 ·have HE:Hid (cO c l cs d=z0):=by
   show _=_
   unfold cO
   rw [HZ.out,if_pos hz0]
  go_upto_region 2 with fail;refine jp ?_;refine jm (vI z0) ?_;refine jv (.bool true) (bA _ _ _ _ (by rfl) .i64 z0 0 (by rfl) (by rfl) true (by rw [decide_eq_false (by omega)];rfl)) ?_;refine aN hb hB0 hB1 fun X2 hX2 hb hB0 hB1=>?_
  have HL:Hid (cY (cO c l cs d) l=[]):=by
   show _=_
   unfold cY
   rw [HE.out,if_neg hz0]
  have HI:Hid (eS c l cs d=[]):=by
   show _=_
   unfold eS
   rw [HE.out,if_neg hz0]
  have HJ:Hid (ifz (cO c l cs d) c=0):=by
   show _=_
   unfold ifz
   rw [HE.out,if_neg hz0]
  go_upto_region 3 with fail;refine jq 2 ?_;refine jmn (vI z0) (.agg #[vI 0,.slice none 0 0,.slice none 0 0,vI z0]) ?_;refine aN hb hB0 hB1 fun X3 hX3 hb hB0 hB1=>?_;refine osb 35 4 13 (w.heap.size+1) 35 hB1 [vI 0,.slice none 0 0,.slice none 0 0,vI z0] bJ ?_;intro w9 hR9 hO9 hB9 hs9;have hb9:=hB9 _ _ hb (by omega);have hB0:=hO9 _ _ _ (by omega) hB0;clear hO9 hB9
  go_wp2
  refine aU rfl rfl (by rfl) Tryz.underlying35 rfl hR9 bJ ⟨_,rfl,⟨.slice none 0 0,.slice none 0 0,by rw [HJ.out,HE.out],by rw [HL.out];exact dV _,by rw [HI.out];exact dW _ _⟩,hb9⟩
end Go.Proofs.YtjkfchehkpmhkaaGreatDoor

/- account: opposite, undone. -/
import Derived.Test.YtjkfchehkpmhkaaGreatDoorLb
import Derived.Test.YtjkfchehkpmhkaaGreatDoorAw
set_option linter.unusedSimpArgs false
set_option linter.unusedVariables false
set_option maxRecDepth 100000
set_option maxHeartbeats 1600000
namespace Go.Proofs.YtjkfchehkpmhkaaGreatDoor
open Go.RowKit
theorem qXq (z:Int) (w:World):Calls Tryz.prog 83 #[vI z] w fun e w'=>e=.returned (.bool (decide (0≤z) && decide (z≤14609)))∧Since w w':=by
 rcases (show z<0∨14609<z∨(0≤z∧z≤14609) by omega) with hy|hy|hy
 ·have HB:(decide (0≤z) && decide (z≤14609))=false:=by rw [decide_eq_false (show ¬ 0≤z by omega)];rfl
  rw [HB];clear HB
  go_enter Tryz.func83,Tryz.ntmps83
  go_upto_region 1 with fail;refine jp ?_;refine jm (vI z) ?_;refine fW z 0 (by omega) ?_;refine jm (.bool false) ?_;refine jss ?_;refine jmm (.bool false) (.bool false) ?_;refine jz fun X1 hX1=>?_;have hb:Below w.heap.size w X1:=hX1
  go_wp2
  go_ret
  exact ⟨rfl,hb⟩
 ·have HB:(decide (0≤z) && decide (z≤14609))=false:=by rw [decide_eq_false (show ¬ z≤14609 by omega),Bool.and_false]
  rw [HB];clear HB
  go_enter Tryz.func83,Tryz.ntmps83
  go_upto_region 1 with fail;refine jp ?_;refine jm (vI z) ?_;refine iS z 0 (by omega) ?_;refine jmm (.bool true) (vI z) ?_;refine jW z 14609 (by omega) ?_;refine jmm (.bool false) (.bool false) ?_;refine jz fun X1 hX1=>?_;have hb:Below w.heap.size w X1:=hX1
  go_wp2
  go_ret
  exact ⟨rfl,hb⟩
 ·have HB:(decide (0≤z) && decide (z≤14609))=true:=by rw [decide_eq_true hy.1,decide_eq_true hy.2];rfl
  rw [HB];clear HB
  go_enter Tryz.func83,Tryz.ntmps83
  go_upto_region 1 with fail;refine jp ?_;refine jm (vI z) ?_;refine iS z 0 (by omega) ?_;refine jmm (.bool true) (vI z) ?_;refine nT z 14609 (by omega) ?_;refine jmm (.bool true) (.bool true) ?_;refine jz fun X1 hX1=>?_;have hb:Below w.heap.size w X1:=hX1
  go_wp2
  go_ret
  exact ⟨rfl,hb⟩
theorem uL (c:Int) (A:Option Addr) (n cp:Nat) (x:En) (w:World) (hn:n≤9223372036854775807) (hx:tz x.am.2.1 x.am.2.2 1000000):Calls Tryz.prog 58 #[.agg #[vI c,.slice A n cp],.agg #[vI x.day,vI x.deb,vI x.cre,.bool x.am.1,vS x.am.2.1,vS x.am.2.2,vI x.kd,vI x.pd,vI x.rf,vI x.w1,vI x.w2,vI x.w3,vI x.w4]] w fun e w'=>e=.returned (.bool (rgt c n x))∧Since w w':=by
 obtain ⟨day,deb,cre,⟨g,nn,dd⟩,kd,pd,rf,w1,w2,w3,w4⟩:=x
 dsimp only at hx ⊢
 go_enter Tryz.func58,Tryz.ntmps58
 go_upto_region 1 with fail;obtain ⟨W0,hW0,hB0,hB1,hb⟩:=cV w 24 76 [vI c,.slice A n cp] [vI day,vI deb,vI cre,.bool g,vS nn,vS dd,vI kd,vI pd,vI rf,vI w1,vI w2,vI w3,vI w4];rw [← hW0];clear hW0;refine bU [none,none,none,none,some (Ks [deb,cre])] (aB (aB (aB (aB (aD (Ks.lasts _) (aH)))))) ?_;simp only [iX,Nat.reduceAdd];refine jnf hB1 1 aA ?_;refine jnf hB1 2 aA ?_;refine cC (by rfl) (fun X hX hF=>Ks.mk [deb,cre] 2 rfl (by decide) (by unfold execOp;go_simp)) ?_;intro v12;simp only [pX];refine jg (vI ([deb,cre].length:Int)) (fun X hX hF=>by obtain ⟨A9,c9,h9,_⟩:=(hF _ _ List.mem_cons_self rfl);subst h9;exact aF Tryz.underlying61 _ (by rfl) A9 _ c9 (by rfl) _ rfl X) ?_;refine jm (vI 0) ?_;refine aJ ?_;intro X1 hX1 hF;have hv12:=hF _ _ List.mem_cons_self;obtain ⟨hB0,hB1⟩:=bl2 hX1 hB0 hB1;have hb:=aI hb hX1;clear hF hX1;obtain ⟨AK,nk,ck,ek,hlk,_,hrk⟩:=hv12.at;subst ek;obtain rfl:2=nk:=hlk;clear hv12;obtain ⟨WB,rfl⟩:∃ W,W=X1:=⟨_,rfl⟩
 have HRX:Hid (∀ X,Since WB X→Rd X 1 (.slice AK 2 ck) 2 ([deb,cre].map I64)):=fun X h=>hrk.below h
 clear hrk;have hb9:=hb
 have HB0:Hid (∀ X,Since WB X→Blk X w.heap.size 24 [vI c,.slice A n cp]):=fun X h=>hB0.bel h
 have HB1:Hid (∀ X,Since WB X→Blk X (w.heap.size+1) 76 [vI day,vI deb,vI cre,.bool g,vS nn,vS dd,vI kd,vI pd,vI rf,vI w1,vI w2,vI w3,vI w4]):=fun X h=>hB1.bel h
 clear hB0 hB1 hb;have hb:Below WB.heap.size WB WB:=Below.refl _ _
 go_wp2
 go_loopw [14] (fun kv wr=>∃ k:Nat,k≤2∧kv=vI k∧Hid (∀ j,j<k→0≤wt [deb,cre] j∧wt [deb,cre] j<c)∧Below WB.heap.size WB wr) (fun kv _=>2-(intOf kv).toNat)
 case atStart=>exact ⟨0,by omega,rfl,(fun j hj=>by omega),hb⟩
 case round =>
  clear hb;obtain ⟨k,hk,rfl,HZ,hb⟩:=hrel;have hB0:=HB0.out _ hb;have hB1:=HB1.out _ hb
  rcases Nat.lt_or_ge k 2 with hlt|hlt
  ·obtain ⟨b,off,rfl,hbb,hcx⟩:=vVj (HRX.out _ hb) rfl hlt
   obtain ⟨z,z9⟩:∃ z,z=wt [deb,cre] k:=⟨_,rfl⟩;have HX:=Lib.hid z9;clear z9;rw [← HX.out] at hcx;go_upto_region 2 with fail;refine jp ?_;refine cE (k:Int) ((2:Nat):Int) (by omega) ?_;refine aN hb hB0 hB1 fun X1 hX1 hb hB0 hB1=>?_;have hcx:=hcx.below hX1 hbb;replace hbb:=Nat.lt_of_lt_of_le hbb (hX1).size;go_upto_region 3 with fail;refine jp ?_;refine jv (vP b (off+k * 1)) (aR Tryz.underlying61 rZ _ _ (by rfl) b (off) 2 ck k (by omega) (by rfl) (by rfl) rfl) ?_;refine jg (vI z) (fun X hX hF=>aP 3 _ (by rfl) b (off+k * 1) (by rfl) _ X ((hcx.below hX hbb) 0 _ rfl) (fun X u h=>aA b (off+k * 1) X u h)) ?_;refine jm (vI z) ?_;refine aN hb hB0 hB1 fun X2 hX2 hb hB0 hB1=>?_;have hcx:=hcx.below hX2 hbb;replace hbb:=Nat.lt_of_lt_of_le hbb (hX2).size
   rcases (show z<0∨(0≤z∧c≤z)∨(0≤z∧z<c) by omega) with hz|hz|hz
   ·go_upto_region 4 with fail
    refine jp ?_;refine jm (vI z) ?_;refine cE z 0 (by omega) ?_;refine jm (.bool true) ?_;refine bR ?_;refine jm (.bool true) ?_;refine aN hb hB0 hB1 fun X3 hX3 hb hB0 hB1=>?_;go_upto_region 5 with fail;refine jp ?_;refine jm (.bool false) ?_;refine aN hb hB0 hB1 fun X4 hX4 hb hB0 hB1=>?_;have hb:=hb9.trans (hb.mono hb9.size)
    have HC:Hid (rgt c n (⟨day,deb,cre,(g,nn,dd),kd,pd,rf,w1,w2,w3,w4⟩:En)=false):=dP (fun h=>by
     have h8:k=0∨k=1:=by omega
     have h7:=HX.out
     rcases h8 with rfl|rfl
     ·have h6:z=deb:=h7
      have:=h.d0;have:=h.d1
      dsimp only at *
      omega
     ·have h6:z=cre:=h7
      have:=h.c0;have:=h.c1
      dsimp only at *
      omega)
    go_wp2
    go_ret
    exact ⟨by rw [HC.out];rfl,hb⟩
   ·go_upto_region 4 with fail
    refine jp ?_;refine jm (vI z) ?_;refine bI z 0 (by omega) ?_;refine jmm (.bool false) (vI z) ?_;refine jnf hB0 0 aA ?_;refine iS z c (by omega) ?_;refine jm (.bool true) ?_;refine aN hb hB0 hB1 fun X3 hX3 hb hB0 hB1=>?_;go_upto_region 5 with fail;refine jp ?_;refine jm (.bool false) ?_;refine aN hb hB0 hB1 fun X4 hX4 hb hB0 hB1=>?_;have hb:=hb9.trans (hb.mono hb9.size)
    have HC:Hid (rgt c n (⟨day,deb,cre,(g,nn,dd),kd,pd,rf,w1,w2,w3,w4⟩:En)=false):=dP (fun h=>by
     have h8:k=0∨k=1:=by omega
     have h7:=HX.out
     rcases h8 with rfl|rfl
     ·have h6:z=deb:=h7
      have:=h.d0;have:=h.d1
      dsimp only at *
      omega
     ·have h6:z=cre:=h7
      have:=h.c0;have:=h.c1
      dsimp only at *
      omega)
    go_wp2
    go_ret
    exact ⟨by rw [HC.out];rfl,hb⟩
   ·go_upto_region 4 with fail
    refine jp ?_;refine jm (vI z) ?_;refine bI z 0 (by omega) ?_;refine jmm (.bool false) (vI z) ?_;refine jnf hB0 0 aA ?_;refine fW z c (by omega) ?_;refine jm (.bool false) ?_;refine aN hb hB0 hB1 fun X3 hX3 hb hB0 hB1=>?_;go_upto_region 6 with fail;refine jp ?_;refine jv (vI ((k+1:Nat):Int)) (bB _ _ _ _ (by rfl) (k:Int) 1 ((k+1:Nat):Int) (by rfl) (by rfl) (by omega) (by omega) (by omega)) ?_;refine jm (vI ((k+1:Nat):Int)) ?_;refine aN hb hB0 hB1 fun X4 hX4 hb hB0 hB1=>?_
    have HZ2:Hid (∀ j,j<k+1→0≤wt [deb,cre] j∧wt [deb,cre] j<c):=fun j hj=>by
     rcases Nat.lt_or_ge j k with h9|h9
     ·exact HZ.out j h9
     ·rw [show j=k by omega,← HX.out];exact hz
    go_wp2
    go_roundw
    case rel=>exact ⟨k+1,by omega,rfl,HZ2,hb⟩
    case measure=>simp [intOf];omega
  ·have hk2:k=2:=by omega
   subst hk2;obtain ⟨hd0,hd1⟩:0≤deb∧deb<c:=HZ.out 0 (by omega);obtain ⟨hc0,hc1⟩:0≤cre∧cre<c:=HZ.out 1 (by omega);have hb:=hb9.trans (hb.mono hb9.size);clear HB0 HB1 HRX hb9 HZ;go_upto_region 2 with fail;refine jp ?_;refine bI ((2:Nat):Int) ((2:Nat):Int) (by omega) ?_;refine aN hb hB0 hB1 fun X1 hX1 hb hB0 hB1=>?_
   rcases (show deb=cre∨deb≠cre by omega) with hne|hne
   ·go_upto_region 7 with fail
    refine jp ?_;refine jnf hB1 1 aA ?_;refine jnf hB1 2 aA ?_;refine dA deb cre (by omega) ?_;refine jm (.bool true) ?_;refine bR ?_;refine jmm (.bool true) (.bool true) ?_;refine jss ?_;refine js ?_;refine jmm (.bool true) (.bool true) ?_;refine bR ?_;refine jmm (.bool true) (.bool true) ?_;refine bR ?_;refine jm (.bool true) ?_;refine aN hb hB0 hB1 fun X2 hX2 hb hB0 hB1=>?_;go_upto_region 8 with fail;refine jp ?_;refine jm (.bool false) ?_;refine aN hb hB0 hB1 fun X3 hX3 hb hB0 hB1=>?_;have HC:Hid (rgt c n (⟨day,deb,cre,(g,nn,dd),kd,pd,rf,w1,w2,w3,w4⟩:En)=false):=dP (fun h=>by exact h.ne hne)
    go_wp2
    go_ret
    exact ⟨by rw [HC.out];rfl,hb⟩
   ·rcases (show (day<0∨14609<day)∨(0≤day∧day≤14609) by omega) with hy|hy
    ·have HD:Hid ((decide (0≤day) && decide (day≤14609))=false):=by
      show _=_
      rcases hy with h9|h9
      ·rw [decide_eq_false (show ¬ 0≤day by omega)];rfl
      ·rw [decide_eq_false (show ¬ day≤14609 by omega),Bool.and_false]
     go_upto_region 7 with fail;refine jp ?_;refine jnf hB1 1 aA ?_;refine jnf hB1 2 aA ?_;refine dN deb cre (by omega) ?_;refine jm (.bool false) ?_;refine jnf hB1 0 aA ?_;refine jc (.bool false) (fun X hX hF=>mo (qXq day X) (by rw [HD.out])) ?_;refine aX (.bool true) (.bool true) (.bool true) ?_;refine jss ?_;refine js ?_;refine jmm (.bool true) (.bool true) ?_;refine bR ?_;refine jmm (.bool true) (.bool true) ?_;refine bR ?_;refine jm (.bool true) ?_;refine aN hb hB0 hB1 fun X2 hX2 hb hB0 hB1=>?_;go_upto_region 8 with fail;refine jp ?_;refine jm (.bool false) ?_;refine aN hb hB0 hB1 fun X3 hX3 hb hB0 hB1=>?_;have HC:Hid (rgt c n (⟨day,deb,cre,(g,nn,dd),kd,pd,rf,w1,w2,w3,w4⟩:En)=false):=dP (fun h=>by have:=h.y0;have:=h.y1;dsimp only at *;omega)
     go_wp2
     go_ret
     exact ⟨by rw [HC.out];rfl,hb⟩
    ·have HD:Hid ((decide (0≤day) && decide (day≤14609))=true):=by
      show _=_
      rw [decide_eq_true hy.1,decide_eq_true hy.2];rfl
     rcases g with _|_
     ·obtain hzq|hzq:zam (false,nn,dd)=true∨zam (false,nn,dd)=false:=by cases zam (false,nn,dd) <;> simp
      ·have HZQ:Hid ((false == false && nn == [] && dd == [])=true):=hzq
       go_upto_region 7 with fail;refine jp ?_;refine jnf hB1 1 aA ?_;refine jnf hB1 2 aA ?_;refine dN deb cre (by omega) ?_;refine jm (.bool false) ?_;refine jnf hB1 0 aA ?_;refine jc (.bool true) (fun X hX hF=>mo (qXq day X) (by rw [HD.out])) ?_;refine aX (.bool false) (.bool false) (.bool false) ?_;refine jn (vP (w.heap.size+1) 3) ?_;refine jnf hB1 3 aS ?_;refine eE (.bool false) (.bool false) (vP (w.heap.size+1) 3) ?_;refine jg (rt false nn dd) (fun X hX hF=>aY 40 _ (by rfl) (w.heap.size+1) 3 [.bool false,vS nn,vS dd] (by rfl) Tryz.underlying40 rfl X (hB1.bel hX) (by rfl) aC) ?_;refine jn (rz) ?_;refine jv (.bool true) (dB _ _ (by rfl) false nn dd false [] [] (by rfl) (by rfl) true HZQ.out) ?_;refine jmm (.bool true) (.bool true) ?_;refine bR ?_;refine jm (.bool true) ?_;refine aN hb hB0 hB1 fun X2 hX2 hb hB0 hB1=>?_;go_upto_region 8 with fail;refine jp ?_;refine jm (.bool false) ?_;refine aN hb hB0 hB1 fun X3 hX3 hb hB0 hB1=>?_;have HC:Hid (rgt c n (⟨day,deb,cre,(false,nn,dd),kd,pd,rf,w1,w2,w3,w4⟩:En)=false):=dP (fun h=>by have:=h.nz;rw [hzq] at this;cases this)
       go_wp2
       go_ret
       exact ⟨by rw [HC.out];rfl,hb⟩
      ·have HZQ:Hid ((false == false && nn == [] && dd == [])=false):=hzq
       obtain ⟨vv,hvv⟩:∃ vv,vd false nn dd=vv:=⟨_,rfl⟩;have HV:=Lib.hid hvv;clear hvv
       rcases vv with _|_
       ·go_upto_region 7 with fail
        refine jp ?_;refine jnf hB1 1 aA ?_;refine jnf hB1 2 aA ?_;refine dN deb cre (by omega) ?_;refine jm (.bool false) ?_;refine jnf hB1 0 aA ?_;refine jc (.bool true) (fun X hX hF=>mo (qXq day X) (by rw [HD.out])) ?_;refine aX (.bool false) (.bool false) (.bool false) ?_;refine jn (vP (w.heap.size+1) 3) ?_;refine jnf hB1 3 aS ?_;refine eE (.bool false) (.bool false) (vP (w.heap.size+1) 3) ?_;refine jg (rt false nn dd) (fun X hX hF=>aY 40 _ (by rfl) (w.heap.size+1) 3 [.bool false,vS nn,vS dd] (by rfl) Tryz.underlying40 rfl X (hB1.bel hX) (by rfl) aC) ?_;refine jn (rz) ?_;refine jv (.bool false) (dB _ _ (by rfl) false nn dd false [] [] (by rfl) (by rfl) false HZQ.out) ?_;refine eE (.bool false) (.bool false) (vP (w.heap.size+1) 3) ?_;refine jg (rt false nn dd) (fun X hX hF=>aY 40 _ (by rfl) (w.heap.size+1) 3 [.bool false,vS nn,vS dd] (by rfl) Tryz.underlying40 rfl X (hB1.bel hX) (by rfl) aC) ?_;refine jc (.bool false) (fun X hX hF=>mo (mR false nn dd X hx) (by rw [HV.out])) ?_;refine jmm (.bool true) (.bool true) ?_;refine aN hb hB0 hB1 fun X2 hX2 hb hB0 hB1=>?_;go_upto_region 8 with fail;refine jp ?_;refine jm (.bool false) ?_;refine aN hb hB0 hB1 fun X3 hX3 hb hB0 hB1=>?_;have HC:Hid (rgt c n (⟨day,deb,cre,(false,nn,dd),kd,pd,rf,w1,w2,w3,w4⟩:En)=false):=dP (fun h=>by have:=h.vl;dsimp only at *;rw [HV.out] at this;cases this)
        go_wp2
        go_ret
        exact ⟨by rw [HC.out];rfl,hb⟩
       ·go_upto_region 7 with fail
        refine jp ?_;refine jnf hB1 1 aA ?_;refine jnf hB1 2 aA ?_;refine dN deb cre (by omega) ?_;refine jm (.bool false) ?_;refine jnf hB1 0 aA ?_;refine jc (.bool true) (fun X hX hF=>mo (qXq day X) (by rw [HD.out])) ?_;refine aX (.bool false) (.bool false) (.bool false) ?_;refine jn (vP (w.heap.size+1) 3) ?_;refine jnf hB1 3 aS ?_;refine eE (.bool false) (.bool false) (vP (w.heap.size+1) 3) ?_;refine jg (rt false nn dd) (fun X hX hF=>aY 40 _ (by rfl) (w.heap.size+1) 3 [.bool false,vS nn,vS dd] (by rfl) Tryz.underlying40 rfl X (hB1.bel hX) (by rfl) aC) ?_;refine jn (rz) ?_;refine jv (.bool false) (dB _ _ (by rfl) false nn dd false [] [] (by rfl) (by rfl) false HZQ.out) ?_;refine eE (.bool false) (.bool false) (vP (w.heap.size+1) 3) ?_;refine jg (rt false nn dd) (fun X hX hF=>aY 40 _ (by rfl) (w.heap.size+1) 3 [.bool false,vS nn,vS dd] (by rfl) Tryz.underlying40 rfl X (hB1.bel hX) (by rfl) aC) ?_;refine jc (.bool true) (fun X hX hF=>mo (mR false nn dd X hx) (by rw [HV.out])) ?_;refine jmm (.bool false) (.bool false) ?_;refine aN hb hB0 hB1 fun X2 hX2 hb hB0 hB1=>?_;go_upto_region 9 with fail;refine jq 2 ?_;refine jn (vP (w.heap.size+1) 6) ?_;refine jg (.agg #[vI kd,vI pd,vI rf,vI w1,vI w2,vI w3,vI w4]) (fun X hX hF=>aY 74 _ (by rfl) (w.heap.size+1) 6 [vI kd,vI pd,vI rf,vI w1,vI w2,vI w3,vI w4] (by rfl) Tryz.underlying74 rfl X (hB1.bel hX) (by rfl) oA) ?_
        refine aN hb hB0 hB1 fun X3 hX3 hb hB0 hB1=>?_;go_upto_region 10 with (refine osn 74 7 56 #[vI kd,vI pd,vI rf,vI w1,vI w2,vI w3,vI w4] oA ?_);obtain ⟨Y3,hY9,hD7,hS9⟩:=aT X3 74 [vI kd,vI pd,vI rf,vI w1,vI w2,vI w3,vI w4];rw [← hY9];clear hY9;have hgs7:=hb.size;have hlt7x0:=hB0.lt;have hlt7x1:=hB1.lt;obtain ⟨hB0,hB1⟩:=bl2 hS9 hB0 hB1;have hb:=aI hb hS9;clear hS9;generalize X3.heap.size=g7 at *
        rcases (show kd<1∨(1≤kd∧5<kd)∨(1≤kd∧kd≤5∧pd<0)∨(1≤kd∧kd≤5∧0≤pd∧4000<pd)∨(1≤kd∧kd≤5∧0≤pd∧pd≤4000) by omega) with hkp|hkp|hkp|hkp|hkp
        ·go_upto_region 10 with fail
         refine jp ?_;refine jnf hD7 0 aA ?_;refine cE kd 1 (by omega) ?_;refine jm (.bool true) ?_;refine jss ?_;refine js ?_;refine jmm (.bool true) (.bool true) ?_;refine jss ?_;refine js ?_;refine jmm (.bool true) (.bool true) ?_;refine jss ?_;refine js ?_;refine jm (.bool true) ?_;refine bE hb hB0 hB1 hD7 fun X4 hX4 hb hB0 hB1 hD7=>?_;go_upto_region 11 with fail;refine jp ?_;refine jm (.bool false) ?_;refine bE hb hB0 hB1 hD7 fun X5 hX5 hb hB0 hB1 hD7=>?_;have HC:Hid (rgt c n (⟨day,deb,cre,(false,nn,dd),kd,pd,rf,w1,w2,w3,w4⟩:En)=false):=dP (fun h=>by have:=h.k1;have:=h.k5;have:=h.p0;have:=h.p4;dsimp only at *;omega)
         go_wp2
         go_ret
         exact ⟨by rw [HC.out];rfl,hb⟩
        ·go_upto_region 10 with fail
         refine jp ?_;refine jnf hD7 0 aA ?_;refine bI kd 1 (by omega) ?_;refine jm (.bool false) ?_;refine jnf hD7 0 aA ?_;refine cD kd 5 (by omega) ?_;refine jmm (.bool true) (.bool true) ?_;refine jss ?_;refine js ?_;refine jmm (.bool true) (.bool true) ?_;refine jss ?_;refine js ?_;refine jm (.bool true) ?_;refine bE hb hB0 hB1 hD7 fun X4 hX4 hb hB0 hB1 hD7=>?_;go_upto_region 11 with fail;refine jp ?_;refine jm (.bool false) ?_;refine bE hb hB0 hB1 hD7 fun X5 hX5 hb hB0 hB1 hD7=>?_;have HC:Hid (rgt c n (⟨day,deb,cre,(false,nn,dd),kd,pd,rf,w1,w2,w3,w4⟩:En)=false):=dP (fun h=>by have:=h.k1;have:=h.k5;have:=h.p0;have:=h.p4;dsimp only at *;omega)
         go_wp2
         go_ret
         exact ⟨by rw [HC.out];rfl,hb⟩
        ·go_upto_region 10 with fail
         refine jp ?_;refine jnf hD7 0 aA ?_;refine bI kd 1 (by omega) ?_;refine jm (.bool false) ?_;refine jnf hD7 0 aA ?_;refine bZ kd 5 (by omega) ?_;refine jmm (.bool false) (.bool false) ?_;refine jnf hD7 1 aA ?_;refine cE pd 0 (by omega) ?_;refine jmm (.bool true) (.bool true) ?_;refine jss ?_;refine js ?_;refine jm (.bool true) ?_;refine bE hb hB0 hB1 hD7 fun X4 hX4 hb hB0 hB1 hD7=>?_;go_upto_region 11 with fail;refine jp ?_;refine jm (.bool false) ?_;refine bE hb hB0 hB1 hD7 fun X5 hX5 hb hB0 hB1 hD7=>?_;have HC:Hid (rgt c n (⟨day,deb,cre,(false,nn,dd),kd,pd,rf,w1,w2,w3,w4⟩:En)=false):=dP (fun h=>by have:=h.k1;have:=h.k5;have:=h.p0;have:=h.p4;dsimp only at *;omega)
         go_wp2
         go_ret
         exact ⟨by rw [HC.out];rfl,hb⟩
        ·go_upto_region 10 with fail
         refine jp ?_;refine jnf hD7 0 aA ?_;refine bI kd 1 (by omega) ?_;refine jm (.bool false) ?_;refine jnf hD7 0 aA ?_;refine bZ kd 5 (by omega) ?_;refine jmm (.bool false) (.bool false) ?_;refine jnf hD7 1 aA ?_;refine bI pd 0 (by omega) ?_;refine jmm (.bool false) (.bool false) ?_;refine jnf hD7 1 aA ?_;refine cD pd 4000 (by omega) ?_;refine jm (.bool true) ?_;refine bE hb hB0 hB1 hD7 fun X4 hX4 hb hB0 hB1 hD7=>?_;go_upto_region 11 with fail;refine jp ?_;refine jm (.bool false) ?_;refine bE hb hB0 hB1 hD7 fun X5 hX5 hb hB0 hB1 hD7=>?_;have HC:Hid (rgt c n (⟨day,deb,cre,(false,nn,dd),kd,pd,rf,w1,w2,w3,w4⟩:En)=false):=dP (fun h=>by have:=h.k1;have:=h.k5;have:=h.p0;have:=h.p4;dsimp only at *;omega)
         go_wp2
         go_ret
         exact ⟨by rw [HC.out];rfl,hb⟩
        ·go_upto_region 10 with fail
         refine jp ?_;refine jnf hD7 0 aA ?_;refine bI kd 1 (by omega) ?_;refine jm (.bool false) ?_;refine jnf hD7 0 aA ?_;refine bZ kd 5 (by omega) ?_;refine jmm (.bool false) (.bool false) ?_;refine jnf hD7 1 aA ?_;refine bI pd 0 (by omega) ?_;refine jmm (.bool false) (.bool false) ?_;refine jnf hD7 1 aA ?_;refine bZ pd 4000 (by omega) ?_;refine jm (.bool false) ?_;refine bE hb hB0 hB1 hD7 fun X4 hX4 hb hB0 hB1 hD7=>?_
         rcases (show kd=4∨kd≠4 by omega) with h4|h4
         ·go_upto_region 12 with fail
          refine jp ?_;refine jnf hD7 0 aA ?_;refine dA kd 4 (by omega) ?_;refine bE hb hB0 hB1 hD7 fun X5 hX5 hb hB0 hB1 hD7=>?_
          rcases (show rf<0∨(0≤rf∧(n:Int)≤rf)∨(0≤rf∧rf<(n:Int)) by omega) with hr|hr|hr
          ·go_upto_region 13 with fail
           refine jp ?_;refine jnf hD7 2 aA ?_;refine fW rf 0 (by omega) ?_;refine jm (.bool false) ?_;refine bR ?_;refine jss ?_;refine jmm (.bool false) (.bool false) ?_;refine bE hb hB0 hB1 hD7 fun X6 hX6 hb hB0 hB1 hD7=>?_;have HC:Hid (rgt c n (⟨day,deb,cre,(false,nn,dd),kd,pd,rf,w1,w2,w3,w4⟩:En)=false):=dP (fun h=>by have h9:=h.rf;rw [if_pos (by exact h4)] at h9;dsimp only at h9;omega)
           go_wp2
           go_ret
           exact ⟨by rw [HC.out];rfl,hb⟩
          ·go_upto_region 13 with fail
           refine jp ?_;refine jnf hD7 2 aA ?_;refine iS rf 0 (by omega) ?_;refine jm (.bool true) ?_;refine jnf hD7 2 aA ?_;refine jnf hB0 1 aO ?_;refine jv (vI n) (aF Tryz.underlying22 _ (by rfl) A n cp (by rfl) _ rfl) ?_;refine bI rf (n:Int) (by omega) ?_;refine jmm (.bool false) (.bool false) ?_;refine bE hb hB0 hB1 hD7 fun X6 hX6 hb hB0 hB1 hD7=>?_;have HC:Hid (rgt c n (⟨day,deb,cre,(false,nn,dd),kd,pd,rf,w1,w2,w3,w4⟩:En)=false):=dP (fun h=>by have h9:=h.rf;rw [if_pos (by exact h4)] at h9;dsimp only at h9;omega)
           go_wp2
           go_ret
           exact ⟨by rw [HC.out];rfl,hb⟩
          ·go_upto_region 13 with fail
           refine jp ?_;refine jnf hD7 2 aA ?_;refine iS rf 0 (by omega) ?_;refine jm (.bool true) ?_;refine jnf hD7 2 aA ?_;refine jnf hB0 1 aO ?_;refine jv (vI n) (aF Tryz.underlying22 _ (by rfl) A n cp (by rfl) _ rfl) ?_;refine cE rf (n:Int) (by omega) ?_;refine jmm (.bool true) (.bool true) ?_;refine bE hb hB0 hB1 hD7 fun X6 hX6 hb hB0 hB1 hD7=>?_;have HC:Hid (rgt c n (⟨day,deb,cre,(false,nn,dd),kd,pd,rf,w1,w2,w3,w4⟩:En)=true):=rgt_t.2 ⟨hd0,hd1,hc0,hc1,hne,hy.1,hy.2,rfl,hzq,HV.out,hkp.1,hkp.2.1,hkp.2.2.1,hkp.2.2.2,(by rw [if_pos (by exact h4)];exact hr)⟩
           go_wp2
           go_ret
           exact ⟨by rw [HC.out];rfl,hb⟩
         ·go_upto_region 12 with fail
          refine jp ?_;refine jnf hD7 0 aA ?_;refine dN kd 4 (by omega) ?_;refine bE hb hB0 hB1 hD7 fun X5 hX5 hb hB0 hB1 hD7=>?_
          rcases (show rf=-1∨rf≠-1 by omega) with hr|hr
          ·go_upto_region 14 with fail
           refine jp ?_;refine jnf hD7 2 aA ?_;refine dA rf (-1) (by omega) ?_;refine jm (.bool true) ?_;refine bE hb hB0 hB1 hD7 fun X6 hX6 hb hB0 hB1 hD7=>?_;have HC:Hid (rgt c n (⟨day,deb,cre,(false,nn,dd),kd,pd,rf,w1,w2,w3,w4⟩:En)=true):=rgt_t.2 ⟨hd0,hd1,hc0,hc1,hne,hy.1,hy.2,rfl,hzq,HV.out,hkp.1,hkp.2.1,hkp.2.2.1,hkp.2.2.2,(by rw [if_neg (by exact h4)];exact hr)⟩
           go_wp2
           go_ret
           exact ⟨by rw [HC.out];rfl,hb⟩
          ·go_upto_region 14 with fail
           refine jp ?_;refine jnf hD7 2 aA ?_;refine dN rf (-1) (by omega) ?_;refine jm (.bool false) ?_;refine bE hb hB0 hB1 hD7 fun X6 hX6 hb hB0 hB1 hD7=>?_;have HC:Hid (rgt c n (⟨day,deb,cre,(false,nn,dd),kd,pd,rf,w1,w2,w3,w4⟩:En)=false):=dP (fun h=>by have h9:=h.rf;rw [if_neg (by exact h4)] at h9;dsimp only at h9;exact hr h9)
           go_wp2
           go_ret
           exact ⟨by rw [HC.out];rfl,hb⟩
     ·go_upto_region 7 with fail
      refine jp ?_;refine jnf hB1 1 aA ?_;refine jnf hB1 2 aA ?_;refine dN deb cre (by omega) ?_;refine jm (.bool false) ?_;refine jnf hB1 0 aA ?_;refine jc (.bool true) (fun X hX hF=>mo (qXq day X) (by rw [HD.out])) ?_;refine aX (.bool false) (.bool false) (.bool false) ?_;refine jn (vP (w.heap.size+1) 3) ?_;refine jnf hB1 3 aS ?_;refine jmm (.bool true) (.bool true) ?_;refine bR ?_;refine jmm (.bool true) (.bool true) ?_;refine bR ?_;refine jm (.bool true) ?_;refine aN hb hB0 hB1 fun X2 hX2 hb hB0 hB1=>?_;go_upto_region 8 with fail;refine jp ?_;refine jm (.bool false) ?_;refine aN hb hB0 hB1 fun X3 hX3 hb hB0 hB1=>?_;have HC:Hid (rgt c n (⟨day,deb,cre,(true,nn,dd),kd,pd,rf,w1,w2,w3,w4⟩:En)=false):=dP (fun h=>by have:=h.ng;dsimp only at *;cases this)
      go_wp2
      go_ret
      exact ⟨by rw [HC.out];rfl,hb⟩
section
variable {P:Program} {ops:Array Oper} {R:World→World→Prop} {w0:World} {Q:Act→World→Prop} {pre:Nat→Nat→Bool} {l:List (Nat×Oper×cJ)} {Fs:List (Nat×(World→Prop))} {a:Act} {k:Nat} {o:Oper}
theorem vJ {ρ:Operand→Value} {X:World} (f:FuncId) (x:Operand) (xs:List Operand) (ts:Array TypeId) (lb:List Value) (ho:o.op=.call { callee:=.value x,args:=xs.toArray,argTypes:=ts }) (hx:ρ x=.func (.func f) #[] lb.toArray) (args:List Value) (he:xs.toArray.map ρ=args.toArray)
  (hf:(callFunc f (args++lb).toArray).run P X=.ok (.enter f (args++lb).toArray) X):(execOp ρ o).run P X=.ok (.enter f (args++lb).toArray) X:=by
 unfold execOp
 rw [ho]
 go_simp
theorem qT {f:Operand→Value} (F0:FuncId) (xs:List Operand) (vs:List Value) (ho:o.op=.makeFunc (.func F0) #[] xs.toArray) (hv:xs.map f=vs) (X:World):(execOp f o).run P X=.ok (.value (.func (.func F0) #[] vs.toArray)) X:=by
 unfold execOp
 simp only [ho,Instr.makeFunc,List.map_toArray,hv,Sem.run_bind,Sem.run_pure,Result.andThen_ok,List.map_nil]
end
theorem vYi {l:List En} {a:Int} (hz:∀ j,j<l.length→(decide ((en l j).kd=4) && decide ((en l j).rf=a))=false):und l a=false:=by
 refine Bool.eq_false_iff.2 fun h=>?_;obtain ⟨x,hx,h2⟩:=List.any_eq_true.1 h;obtain ⟨j,hj,rfl⟩:=List.mem_iff_getElem.1 hx;have h3:=hz j hj;rw [mN hj] at h3;rw [h3] at h2
 cases h2
theorem oppC (v:Value) (l:List En) (k:Nat) (day:Int) (y:En) (w:World) (hv:Es l v w) (hk:k<l.length) (hy:y=en l k):Calls Tryz.prog 59 #[v,vI k,vI day] w fun e w'=>e=.returned (.agg #[vI (opp y (k:Int) day).day,vI (opp y (k:Int) day).deb,vI (opp y (k:Int) day).cre,.bool (opp y (k:Int) day).am.1,vS (opp y (k:Int) day).am.2.1,vS (opp y (k:Int) day).am.2.2,vI (opp y (k:Int) day).kd,vI (opp y (k:Int) day).pd,vI (opp y (k:Int) day).rf,vI (opp y (k:Int) day).w1,vI (opp y (k:Int) day).w2,vI (opp y (k:Int) day).w3,vI (opp y (k:Int) day).w4])∧Since w w':=by
 obtain ⟨A,n,cp,rfl,hln,hn1,HRX,HLN⟩:=hv19 hv;clear hv
 have hlt:k<n:=by rw [← hln];exact hk
 have hb:Below w.heap.size w w:=Below.refl _ _;obtain ⟨b,off,rfl,hbb,hcx⟩:=fL (HRX.out _ hb) HLN.out hlt;obtain ⟨x,x9⟩:∃ x,x=en l k:=⟨_,rfl⟩;have HX:=Lib.hid x9;clear x9;rw [← HX.out] at hcx
 change Cl w b (off+k * 13) (eL x) at hcx
 clear hb
 obtain rfl:y=x:=by rw [hy,HX.out]
 go_enter Tryz.func59,Tryz.ntmps59
 go_upto_region 1 with fail;obtain ⟨W0,hW0,hB0,hb⟩:=aT w 76 [vI 0,vI 0,vI 0,.bool false,.string ⟨#[]⟩,.string ⟨#[]⟩,vI 0,vI 0,vI 0,vI 0,vI 0,vI 0,vI 0];rw [← hW0];clear hW0;have hcx:=hcx.below hb hbb;replace hbb:=Nat.lt_of_lt_of_le hbb hb.size;refine jq 4 ?_;refine jmm (.slice (some ⟨b,off,none⟩) n cp) (vI k) ?_;refine jv (vP b (off+k * 13)) (aR Tryz.underlying22 aL _ _ (by rfl) b (off) n cp k (by omega) (by rfl) (by rfl) rfl) ?_;refine jg (.agg #[vI y.day,vI y.deb,vI y.cre,.bool y.am.1,st y.am.2.1,st y.am.2.2,vI y.kd,vI y.pd,vI y.rf,vI y.w1,vI y.w2,vI y.w3,vI y.w4]) (fun X hX hF=>cW 76 _ (by rfl) b (off+k * 13) (by rfl) Tryz.underlying76 rfl (eL y) X (Cl.part (hcx.below hX hbb) 0 _ (by rfl)) aL) ?_;refine aQ hb hB0 fun X1 hX1 hb hB0=>?_;have hcx:=hcx.below hX1 hbb;replace hbb:=Nat.lt_of_lt_of_le hbb (hX1).size;go_upto_region 2 with (refine osn 76 7 11 #[vI y.day,vI y.deb,vI y.cre,.bool y.am.1,vS y.am.2.1,vS y.am.2.2,vI y.kd,vI y.pd,vI y.rf,vI y.w1,vI y.w2,vI y.w3,vI y.w4] aL ?_)
 obtain ⟨Y1,hY9,hD7,hS9⟩:=aT X1 76 (eL y);rw [← hY9];clear hY9;have hgs7:=hb.size;have hlt7x0:=hB0.lt;have hcx:=hcx.below hS9 hbb;replace hbb:=Nat.lt_of_lt_of_le hbb (hS9).size;have hB0:=hB0.bel hS9;have hb:=aI hb hS9;clear hS9;generalize X1.heap.size=g7 at *;go_upto_region 2 with fail;refine jq 16 ?_;refine jm (vI day) ?_;refine jnf hD7 2 aA ?_;refine jnf hD7 1 aA ?_;refine jn (vP g7 3) ?_;refine jg (.agg #[.bool y.am.1,st y.am.2.1,st y.am.2.2]) (fun X hX hF=>aY 40 _ (by rfl) g7 3 [.bool y.am.1,vS y.am.2.1,vS y.am.2.2] (by rfl) Tryz.underlying40 rfl X (hD7.bel hX) (by rfl) aC) ?_;refine jn (vP g7 6) ?_;refine jnf hD7 7 aA ?_;refine jmn (vI k) (vP g7 6) ?_;refine jn (vP g7 9) ?_;refine jg (.agg #[vI y.w1,vI y.w2,vI y.w3,vI y.w4]) (fun X hX hF=>aY 42 _ (by rfl) g7 9 [vI y.w1,vI y.w2,vI y.w3,vI y.w4] (by rfl) Tryz.underlying42 rfl X (hD7.bel hX) (by rfl) fR) ?_;refine jnn (.agg #[vI 4,vI y.pd,vI k,vI y.w1,vI y.w2,vI y.w3,vI y.w4]) (.agg #[vI day,vI y.cre,vI y.deb,.bool y.am.1,st y.am.2.1,st y.am.2.2,vI 4,vI y.pd,vI k,vI y.w1,vI y.w2,vI y.w3,vI y.w4]) ?_
 refine aN hb hB0 hD7 fun X2 hX2 hb hB0 hD7=>?_;refine osb 76 6 27 w.heap.size 76 hB0 [vI day,vI y.cre,vI y.deb,.bool y.am.1,vS y.am.2.1,vS y.am.2.2,vI 4,vI y.pd,vI k,vI y.w1,vI y.w2,vI y.w3,vI y.w4] aL ?_;intro w9 hR9 hO9 hB9 hs9;have hb9:=hB9 _ _ hb (by omega);clear hO9 hB9
 go_wp2
 refine aU rfl rfl (by rfl) Tryz.underlying76 rfl hR9 aL ⟨rfl,hb9⟩
end Go.Proofs.YtjkfchehkpmhkaaGreatDoor

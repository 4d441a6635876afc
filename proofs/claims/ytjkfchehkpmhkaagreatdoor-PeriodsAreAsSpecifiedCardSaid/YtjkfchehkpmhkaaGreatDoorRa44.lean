/- The reference of layer 44: Right, Undone, dT, Check. -/
import Derived.Test.YtjkfchehkpmhkaaGreatDoorBg
import Derived.Test.YtjkfchehkpmhkaaGreatDoorR5b
import Derived.Test.YtjkfchehkpmhkaaGreatDoorAw
set_option linter.unusedSimpArgs false
set_option linter.unusedVariables false
set_option maxRecDepth 100000
set_option maxHeartbeats 1600000
namespace Go.Proofs.YtjkfchehkpmhkaaGreatDoor
open Go.RowKit
theorem vd_pz {n:Bool} {q:List UInt8} (h:vd n [] q=true):zam (n,[],q)=true:=by
 obtain ⟨h1,h2,h3,_⟩:=oF h
 have h4:(rq n [] q).num.natAbs=0:=by
  rcases Nat.eq_zero_or_pos (rq n [] q).num.natAbs with h5|h5
  ·exact h5
  ·exfalso
   have h6:rP (rq n [] q)≠[]:=pR (by omega);exact h6 h2
 have h5:rq n [] q=0:=(iP _).1 (by omega);rw [h5] at h1 h3
 have e1:rN 0=false:=by decide +kernel
 have e3:rD 0=[]:=by decide +kernel
 rw [← h1,← h3,e1,e3]
 rfl
theorem rrgC (c:Int) (A:Option Addr) (n cp:Nat) (x:En) (w:World) (hn:n≤9223372036854775807) (hx:tz x.am.2.1 x.am.2.2 1000000):Calls Tryz.prog 61 #[.agg #[vI c,.slice A n cp],.agg #[vI x.day,vI x.deb,vI x.cre,.bool x.am.1,vS x.am.2.1,vS x.am.2.2,vI x.kd,vI x.pd,vI x.rf,vI x.w1,vI x.w2,vI x.w3,vI x.w4]] w fun e w'=>e=.returned (.bool (rgt c n x))∧Since w w':=by
 obtain ⟨day,deb,cre,⟨g,nn,dd⟩,kd,pd,rf,w1,w2,w3,w4⟩:=x
 dsimp only at hx ⊢
 go_enter Tryz.func61,Tryz.ntmps61
 go_upto_region 1 with fail;obtain ⟨W0,hW0,hB0,hB1,hb⟩:=cV w 24 76 [vI c,.slice A n cp] [vI day,vI deb,vI cre,.bool g,vS nn,vS dd,vI kd,vI pd,vI rf,vI w1,vI w2,vI w3,vI w4];rw [← hW0];clear hW0
 rcases (show deb<0∨(0≤deb∧c≤deb)∨(0≤deb∧deb<c∧cre<0)∨(0≤deb∧deb<c∧0≤cre∧c≤cre)∨(0≤deb∧deb<c∧0≤cre∧cre<c∧deb=cre)∨(0≤deb∧deb<c∧0≤cre∧cre<c∧deb≠cre∧day<0)∨(0≤deb∧deb<c∧0≤cre∧cre<c∧deb≠cre∧0≤day∧14609<day)∨(0≤deb∧deb<c∧0≤cre∧cre<c∧deb≠cre∧0≤day∧day≤14609) by omega) with hy|hy|hy|hy|hy|hy|hy|hy
 ·refine jp ?_
  refine jnf hB1 1 aA ?_;refine cE deb 0 (by omega) ?_;refine jm (.bool true) ?_;refine bR ?_;refine js ?_;refine jmm (.bool true) (.bool true) ?_;refine jss ?_;refine js ?_;refine jmm (.bool true) (.bool true) ?_;refine bR ?_;refine js ?_;refine jmm (.bool true) (.bool true) ?_;refine bR ?_;refine js ?_;refine jmm (.bool true) (.bool true) ?_;refine jss ?_;refine js ?_;refine jmm (.bool true) (.bool true) ?_;refine jss ?_;refine js ?_;refine jm (.bool true) ?_;refine aN hb hB0 hB1 fun X1 hX1 hb hB0 hB1=>?_;go_upto_region 2 with fail;refine jp ?_;refine jm (.bool false) ?_;refine aN hb hB0 hB1 fun X2 hX2 hb hB0 hB1=>?_;have HC:Hid (rgt c n (⟨day,deb,cre,(g,nn,dd),kd,pd,rf,w1,w2,w3,w4⟩:En)=false):=dP (fun h=>by have:=h.d0;have:=h.d1;have:=h.c0;have:=h.c1;have:=h.ne;have:=h.y0;have:=h.y1;dsimp only at *;omega)
  go_wp2
  go_ret
  exact ⟨by rw [HC.out];rfl,hb⟩
 ·refine jp ?_
  refine jnf hB1 1 aA ?_;refine bI deb 0 (by omega) ?_;refine jm (.bool false) ?_;refine jnf hB1 1 aA ?_;refine jnf hB0 0 aA ?_;refine iS deb c (by omega) ?_;refine jmm (.bool true) (.bool true) ?_;refine jss ?_;refine js ?_;refine jmm (.bool true) (.bool true) ?_;refine bR ?_;refine js ?_;refine jmm (.bool true) (.bool true) ?_;refine bR ?_;refine js ?_;refine jmm (.bool true) (.bool true) ?_;refine jss ?_;refine js ?_;refine jmm (.bool true) (.bool true) ?_;refine jss ?_;refine js ?_;refine jm (.bool true) ?_;refine aN hb hB0 hB1 fun X1 hX1 hb hB0 hB1=>?_;go_upto_region 2 with fail;refine jp ?_;refine jm (.bool false) ?_;refine aN hb hB0 hB1 fun X2 hX2 hb hB0 hB1=>?_;have HC:Hid (rgt c n (⟨day,deb,cre,(g,nn,dd),kd,pd,rf,w1,w2,w3,w4⟩:En)=false):=dP (fun h=>by have:=h.d0;have:=h.d1;have:=h.c0;have:=h.c1;have:=h.ne;have:=h.y0;have:=h.y1;dsimp only at *;omega)
  go_wp2
  go_ret
  exact ⟨by rw [HC.out];rfl,hb⟩
 ·refine jp ?_
  refine jnf hB1 1 aA ?_;refine bI deb 0 (by omega) ?_;refine jm (.bool false) ?_;refine jnf hB1 1 aA ?_;refine jnf hB0 0 aA ?_;refine fW deb c (by omega) ?_;refine jmm (.bool false) (.bool false) ?_;refine jnf hB1 2 aA ?_;refine cE cre 0 (by omega) ?_;refine jmm (.bool true) (.bool true) ?_;refine bR ?_;refine js ?_;refine jmm (.bool true) (.bool true) ?_;refine bR ?_;refine js ?_;refine jmm (.bool true) (.bool true) ?_;refine jss ?_;refine js ?_;refine jmm (.bool true) (.bool true) ?_;refine jss ?_;refine js ?_;refine jm (.bool true) ?_;refine aN hb hB0 hB1 fun X1 hX1 hb hB0 hB1=>?_;go_upto_region 2 with fail;refine jp ?_;refine jm (.bool false) ?_;refine aN hb hB0 hB1 fun X2 hX2 hb hB0 hB1=>?_;have HC:Hid (rgt c n (⟨day,deb,cre,(g,nn,dd),kd,pd,rf,w1,w2,w3,w4⟩:En)=false):=dP (fun h=>by have:=h.d0;have:=h.d1;have:=h.c0;have:=h.c1;have:=h.ne;have:=h.y0;have:=h.y1;dsimp only at *;omega)
  go_wp2
  go_ret
  exact ⟨by rw [HC.out];rfl,hb⟩
 ·refine jp ?_
  refine jnf hB1 1 aA ?_;refine bI deb 0 (by omega) ?_;refine jm (.bool false) ?_;refine jnf hB1 1 aA ?_;refine jnf hB0 0 aA ?_;refine fW deb c (by omega) ?_;refine jmm (.bool false) (.bool false) ?_;refine jnf hB1 2 aA ?_;refine bI cre 0 (by omega) ?_;refine jmm (.bool false) (.bool false) ?_;refine jnf hB1 2 aA ?_;refine jnf hB0 0 aA ?_;refine iS cre c (by omega) ?_;refine jmm (.bool true) (.bool true) ?_;refine bR ?_;refine js ?_;refine jmm (.bool true) (.bool true) ?_;refine jss ?_;refine js ?_;refine jmm (.bool true) (.bool true) ?_;refine jss ?_;refine js ?_;refine jm (.bool true) ?_;refine aN hb hB0 hB1 fun X1 hX1 hb hB0 hB1=>?_;go_upto_region 2 with fail;refine jp ?_;refine jm (.bool false) ?_;refine aN hb hB0 hB1 fun X2 hX2 hb hB0 hB1=>?_;have HC:Hid (rgt c n (⟨day,deb,cre,(g,nn,dd),kd,pd,rf,w1,w2,w3,w4⟩:En)=false):=dP (fun h=>by have:=h.d0;have:=h.d1;have:=h.c0;have:=h.c1;have:=h.ne;have:=h.y0;have:=h.y1;dsimp only at *;omega)
  go_wp2
  go_ret
  exact ⟨by rw [HC.out];rfl,hb⟩
 ·refine jp ?_
  refine jnf hB1 1 aA ?_;refine bI deb 0 (by omega) ?_;refine jm (.bool false) ?_;refine jnf hB1 1 aA ?_;refine jnf hB0 0 aA ?_;refine fW deb c (by omega) ?_;refine jmm (.bool false) (.bool false) ?_;refine jnf hB1 2 aA ?_;refine bI cre 0 (by omega) ?_;refine jmm (.bool false) (.bool false) ?_;refine jnf hB1 2 aA ?_;refine jnf hB0 0 aA ?_;refine fW cre c (by omega) ?_;refine jmm (.bool false) (.bool false) ?_;refine jnf hB1 1 aA ?_;refine jnf hB1 2 aA ?_;refine dA deb cre (by omega) ?_;refine jmm (.bool true) (.bool true) ?_;refine jss ?_;refine js ?_;refine jmm (.bool true) (.bool true) ?_;refine jss ?_;refine js ?_;refine jm (.bool true) ?_;refine aN hb hB0 hB1 fun X1 hX1 hb hB0 hB1=>?_;go_upto_region 2 with fail;refine jp ?_;refine jm (.bool false) ?_;refine aN hb hB0 hB1 fun X2 hX2 hb hB0 hB1=>?_;have HC:Hid (rgt c n (⟨day,deb,cre,(g,nn,dd),kd,pd,rf,w1,w2,w3,w4⟩:En)=false):=dP (fun h=>by have:=h.d0;have:=h.d1;have:=h.c0;have:=h.c1;have:=h.ne;have:=h.y0;have:=h.y1;dsimp only at *;omega)
  go_wp2
  go_ret
  exact ⟨by rw [HC.out];rfl,hb⟩
 ·refine jp ?_
  refine jnf hB1 1 aA ?_;refine bI deb 0 (by omega) ?_;refine jm (.bool false) ?_;refine jnf hB1 1 aA ?_;refine jnf hB0 0 aA ?_;refine fW deb c (by omega) ?_;refine jmm (.bool false) (.bool false) ?_;refine jnf hB1 2 aA ?_;refine bI cre 0 (by omega) ?_;refine jmm (.bool false) (.bool false) ?_;refine jnf hB1 2 aA ?_;refine jnf hB0 0 aA ?_;refine fW cre c (by omega) ?_;refine jmm (.bool false) (.bool false) ?_;refine jnf hB1 1 aA ?_;refine jnf hB1 2 aA ?_;refine dN deb cre (by omega) ?_;refine jmm (.bool false) (.bool false) ?_;refine jnf hB1 0 aA ?_;refine cE day 0 (by omega) ?_;refine jmm (.bool true) (.bool true) ?_;refine jss ?_;refine js ?_;refine jm (.bool true) ?_;refine aN hb hB0 hB1 fun X1 hX1 hb hB0 hB1=>?_;go_upto_region 2 with fail;refine jp ?_;refine jm (.bool false) ?_;refine aN hb hB0 hB1 fun X2 hX2 hb hB0 hB1=>?_;have HC:Hid (rgt c n (⟨day,deb,cre,(g,nn,dd),kd,pd,rf,w1,w2,w3,w4⟩:En)=false):=dP (fun h=>by have:=h.d0;have:=h.d1;have:=h.c0;have:=h.c1;have:=h.ne;have:=h.y0;have:=h.y1;dsimp only at *;omega)
  go_wp2
  go_ret
  exact ⟨by rw [HC.out];rfl,hb⟩
 ·refine jp ?_
  refine jnf hB1 1 aA ?_;refine bI deb 0 (by omega) ?_;refine jm (.bool false) ?_;refine jnf hB1 1 aA ?_;refine jnf hB0 0 aA ?_;refine fW deb c (by omega) ?_;refine jmm (.bool false) (.bool false) ?_;refine jnf hB1 2 aA ?_;refine bI cre 0 (by omega) ?_;refine jmm (.bool false) (.bool false) ?_;refine jnf hB1 2 aA ?_;refine jnf hB0 0 aA ?_;refine fW cre c (by omega) ?_;refine jmm (.bool false) (.bool false) ?_;refine jnf hB1 1 aA ?_;refine jnf hB1 2 aA ?_;refine dN deb cre (by omega) ?_;refine jmm (.bool false) (.bool false) ?_;refine jnf hB1 0 aA ?_;refine bI day 0 (by omega) ?_;refine jmm (.bool false) (.bool false) ?_;refine jnf hB1 0 aA ?_;refine cD day 14609 (by omega) ?_;refine jm (.bool true) ?_;refine aN hb hB0 hB1 fun X1 hX1 hb hB0 hB1=>?_;go_upto_region 2 with fail;refine jp ?_;refine jm (.bool false) ?_;refine aN hb hB0 hB1 fun X2 hX2 hb hB0 hB1=>?_;have HC:Hid (rgt c n (⟨day,deb,cre,(g,nn,dd),kd,pd,rf,w1,w2,w3,w4⟩:En)=false):=dP (fun h=>by have:=h.d0;have:=h.d1;have:=h.c0;have:=h.c1;have:=h.ne;have:=h.y0;have:=h.y1;dsimp only at *;omega)
  go_wp2
  go_ret
  exact ⟨by rw [HC.out];rfl,hb⟩
 ·refine jp ?_
  refine jnf hB1 1 aA ?_;refine bI deb 0 (by omega) ?_;refine jm (.bool false) ?_;refine jnf hB1 1 aA ?_;refine jnf hB0 0 aA ?_;refine fW deb c (by omega) ?_;refine jmm (.bool false) (.bool false) ?_;refine jnf hB1 2 aA ?_;refine bI cre 0 (by omega) ?_;refine jmm (.bool false) (.bool false) ?_;refine jnf hB1 2 aA ?_;refine jnf hB0 0 aA ?_;refine fW cre c (by omega) ?_;refine jmm (.bool false) (.bool false) ?_;refine jnf hB1 1 aA ?_;refine jnf hB1 2 aA ?_;refine dN deb cre (by omega) ?_;refine jmm (.bool false) (.bool false) ?_;refine jnf hB1 0 aA ?_;refine bI day 0 (by omega) ?_;refine jmm (.bool false) (.bool false) ?_;refine jnf hB1 0 aA ?_;refine bZ day 14609 (by omega) ?_;refine jm (.bool false) ?_;refine aN hb hB0 hB1 fun X1 hX1 hb hB0 hB1=>?_;obtain ⟨vv,hvv⟩:∃ vv,vd g nn dd=vv:=⟨_,rfl⟩;have HV:=Lib.hid hvv;clear hvv
  rcases vv with _|_
  ·go_upto_region 3 with fail
   refine jp ?_;refine jn (vP (w.heap.size+1) 3) ?_;refine jg (rt g nn dd) (fun X hX hF=>aY 40 _ (by rfl) (w.heap.size+1) 3 [.bool g,vS nn,vS dd] (by rfl) Tryz.underlying40 rfl X (hB1.bel hX) (by rfl) aC) ?_;refine jc (.bool false) (fun X hX hF=>mo (xX g nn dd X (Nat.le_trans hx.1 (by decide)) (Nat.le_trans hx.2 (by decide))) (by rw [HV.out])) ?_;refine jm (.bool false) ?_;refine aN hb hB0 hB1 fun X2 hX2 hb hB0 hB1=>?_;go_upto_region 4 with fail;refine jp ?_;refine aX (.bool false) (.bool true) (.bool true) ?_;refine jss ?_;refine js ?_;refine jmm (.bool true) (.bool true) ?_;refine bR ?_;refine jm (.bool true) ?_;refine aN hb hB0 hB1 fun X3 hX3 hb hB0 hB1=>?_;go_upto_region 5 with fail;refine jp ?_;refine jm (.bool false) ?_;refine aN hb hB0 hB1 fun X4 hX4 hb hB0 hB1=>?_;have HC:Hid (rgt c n (⟨day,deb,cre,(g,nn,dd),kd,pd,rf,w1,w2,w3,w4⟩:En)=false):=dP (fun h=>by have:=h.vl;dsimp only at *;rw [HV.out] at this;cases this)
   go_wp2
   go_ret
   exact ⟨by rw [HC.out];rfl,hb⟩
  ·go_upto_region 3 with fail
   refine jp ?_;refine jn (vP (w.heap.size+1) 3) ?_;refine jg (rt g nn dd) (fun X hX hF=>aY 40 _ (by rfl) (w.heap.size+1) 3 [.bool g,vS nn,vS dd] (by rfl) Tryz.underlying40 rfl X (hB1.bel hX) (by rfl) aC) ?_;refine jc (.bool true) (fun X hX hF=>mo (xX g nn dd X (Nat.le_trans hx.1 (by decide)) (Nat.le_trans hx.2 (by decide))) (by rw [HV.out])) ?_;refine jm (.bool true) ?_;refine aN hb hB0 hB1 fun X2 hX2 hb hB0 hB1=>?_
   rcases g with _|_
   ·obtain ⟨pz,hpz⟩:∃ pz,(nn == [])=pz:=⟨_,rfl⟩
    have HPZ:Hid ((nn == [])=pz):=hpz;clear hpz
    rcases pz with _|_
    ·have hzq:zam (false,nn,dd)=false:=by
      rw [Bool.eq_false_iff];intro h9
      unfold zam at h9
      simp only [Bool.and_eq_true] at h9;have h8:=HPZ.out;rw [h9.1.2] at h8
      cases h8
     go_upto_region 4 with fail;refine jp ?_;refine aX (.bool true) (.bool false) (.bool false) ?_;refine jn (vP (w.heap.size+1) 3) ?_;refine jnf hB1 3 aS ?_;refine eE (.bool false) (.bool false) (vP (w.heap.size+1) 3) ?_;refine jnf hB1 4 aG ?_;refine jv (.bool false) (bH _ _ _ _ (by rfl) nn ([]:List UInt8) (by rfl) (by rfl) false HPZ.out) ?_;refine jm (.bool false) ?_;refine aN hb hB0 hB1 fun X3 hX3 hb hB0 hB1=>?_;go_upto_region 6 with fail;refine jq 2 ?_;refine jn (vP (w.heap.size+1) 6) ?_;refine jg (.agg #[vI kd,vI pd,vI rf,vI w1,vI w2,vI w3,vI w4]) (fun X hX hF=>aY 74 _ (by rfl) (w.heap.size+1) 6 [vI kd,vI pd,vI rf,vI w1,vI w2,vI w3,vI w4] (by rfl) Tryz.underlying74 rfl X (hB1.bel hX) (by rfl) oA) ?_;refine aN hb hB0 hB1 fun X4 hX4 hb hB0 hB1=>?_;go_upto_region 7 with (refine osn 74 6 63 #[vI kd,vI pd,vI rf,vI w1,vI w2,vI w3,vI w4] oA ?_);obtain ⟨Y4,hY9,hD6,hS9⟩:=aT X4 74 [vI kd,vI pd,vI rf,vI w1,vI w2,vI w3,vI w4];rw [← hY9];clear hY9;have hgs6:=hb.size;have hlt6x0:=hB0.lt;have hlt6x1:=hB1.lt;obtain ⟨hB0,hB1⟩:=bl2 hS9 hB0 hB1;have hb:=aI hb hS9;clear hS9;generalize X4.heap.size=g6 at *
     rcases (show kd<1∨(1≤kd∧5<kd)∨(1≤kd∧kd≤5∧pd<0)∨(1≤kd∧kd≤5∧0≤pd∧4000<pd)∨(1≤kd∧kd≤5∧0≤pd∧pd≤4000) by omega) with hkp|hkp|hkp|hkp|hkp
     ·refine jp ?_
      refine jnf hD6 0 aA ?_;refine cE kd 1 (by omega) ?_;refine jm (.bool true) ?_;refine jss ?_;refine js ?_;refine jmm (.bool true) (.bool true) ?_;refine jss ?_;refine js ?_;refine jmm (.bool true) (.bool true) ?_;refine jss ?_;refine js ?_;refine jm (.bool true) ?_;refine bE hb hB0 hB1 hD6 fun X5 hX5 hb hB0 hB1 hD6=>?_;go_upto_region 8 with fail;refine jp ?_;refine jm (.bool false) ?_;refine bE hb hB0 hB1 hD6 fun X6 hX6 hb hB0 hB1 hD6=>?_;have HC:Hid (rgt c n (⟨day,deb,cre,(false,nn,dd),kd,pd,rf,w1,w2,w3,w4⟩:En)=false):=dP (fun h=>by have:=h.k1;have:=h.k5;have:=h.p0;have:=h.p4;dsimp only at *;omega)
      go_wp2
      go_ret
      exact ⟨by rw [HC.out];rfl,hb⟩
     ·refine jp ?_
      refine jnf hD6 0 aA ?_;refine bI kd 1 (by omega) ?_;refine jm (.bool false) ?_;refine jnf hD6 0 aA ?_;refine cD kd 5 (by omega) ?_;refine jmm (.bool true) (.bool true) ?_;refine jss ?_;refine js ?_;refine jmm (.bool true) (.bool true) ?_;refine jss ?_;refine js ?_;refine jm (.bool true) ?_;refine bE hb hB0 hB1 hD6 fun X5 hX5 hb hB0 hB1 hD6=>?_;go_upto_region 8 with fail;refine jp ?_;refine jm (.bool false) ?_;refine bE hb hB0 hB1 hD6 fun X6 hX6 hb hB0 hB1 hD6=>?_;have HC:Hid (rgt c n (⟨day,deb,cre,(false,nn,dd),kd,pd,rf,w1,w2,w3,w4⟩:En)=false):=dP (fun h=>by have:=h.k1;have:=h.k5;have:=h.p0;have:=h.p4;dsimp only at *;omega)
      go_wp2
      go_ret
      exact ⟨by rw [HC.out];rfl,hb⟩
     ·refine jp ?_
      refine jnf hD6 0 aA ?_;refine bI kd 1 (by omega) ?_;refine jm (.bool false) ?_;refine jnf hD6 0 aA ?_;refine bZ kd 5 (by omega) ?_;refine jmm (.bool false) (.bool false) ?_;refine jnf hD6 1 aA ?_;refine cE pd 0 (by omega) ?_;refine jmm (.bool true) (.bool true) ?_;refine jss ?_;refine js ?_;refine jm (.bool true) ?_;refine bE hb hB0 hB1 hD6 fun X5 hX5 hb hB0 hB1 hD6=>?_;go_upto_region 8 with fail;refine jp ?_;refine jm (.bool false) ?_;refine bE hb hB0 hB1 hD6 fun X6 hX6 hb hB0 hB1 hD6=>?_;have HC:Hid (rgt c n (⟨day,deb,cre,(false,nn,dd),kd,pd,rf,w1,w2,w3,w4⟩:En)=false):=dP (fun h=>by have:=h.k1;have:=h.k5;have:=h.p0;have:=h.p4;dsimp only at *;omega)
      go_wp2
      go_ret
      exact ⟨by rw [HC.out];rfl,hb⟩
     ·refine jp ?_
      refine jnf hD6 0 aA ?_;refine bI kd 1 (by omega) ?_;refine jm (.bool false) ?_;refine jnf hD6 0 aA ?_;refine bZ kd 5 (by omega) ?_;refine jmm (.bool false) (.bool false) ?_;refine jnf hD6 1 aA ?_;refine bI pd 0 (by omega) ?_;refine jmm (.bool false) (.bool false) ?_;refine jnf hD6 1 aA ?_;refine cD pd 4000 (by omega) ?_;refine jm (.bool true) ?_;refine bE hb hB0 hB1 hD6 fun X5 hX5 hb hB0 hB1 hD6=>?_;go_upto_region 8 with fail;refine jp ?_;refine jm (.bool false) ?_;refine bE hb hB0 hB1 hD6 fun X6 hX6 hb hB0 hB1 hD6=>?_;have HC:Hid (rgt c n (⟨day,deb,cre,(false,nn,dd),kd,pd,rf,w1,w2,w3,w4⟩:En)=false):=dP (fun h=>by have:=h.k1;have:=h.k5;have:=h.p0;have:=h.p4;dsimp only at *;omega)
      go_wp2
      go_ret
      exact ⟨by rw [HC.out];rfl,hb⟩
     ·refine jp ?_
      refine jnf hD6 0 aA ?_;refine bI kd 1 (by omega) ?_;refine jm (.bool false) ?_;refine jnf hD6 0 aA ?_;refine bZ kd 5 (by omega) ?_;refine jmm (.bool false) (.bool false) ?_;refine jnf hD6 1 aA ?_;refine bI pd 0 (by omega) ?_;refine jmm (.bool false) (.bool false) ?_;refine jnf hD6 1 aA ?_;refine bZ pd 4000 (by omega) ?_;refine jm (.bool false) ?_;refine bE hb hB0 hB1 hD6 fun X5 hX5 hb hB0 hB1 hD6=>?_
      rcases (show kd=4∨kd≠4 by omega) with h4|h4
      ·go_upto_region 9 with fail
       refine jp ?_;refine jnf hD6 0 aA ?_;refine dA kd 4 (by omega) ?_;refine bE hb hB0 hB1 hD6 fun X6 hX6 hb hB0 hB1 hD6=>?_
       rcases (show rf<0∨(0≤rf∧(n:Int)≤rf)∨(0≤rf∧rf<(n:Int)) by omega) with hr|hr|hr
       ·go_upto_region 10 with fail
        refine jp ?_;refine jnf hD6 2 aA ?_;refine fW rf 0 (by omega) ?_;refine jm (.bool false) ?_;refine bR ?_;refine jss ?_;refine jmm (.bool false) (.bool false) ?_;refine bE hb hB0 hB1 hD6 fun X7 hX7 hb hB0 hB1 hD6=>?_;have HC:Hid (rgt c n (⟨day,deb,cre,(false,nn,dd),kd,pd,rf,w1,w2,w3,w4⟩:En)=false):=dP (fun h=>by have h9:=h.rf;rw [if_pos (by exact h4)] at h9;dsimp only at h9;omega)
        go_wp2
        go_ret
        exact ⟨by rw [HC.out];rfl,hb⟩
       ·go_upto_region 10 with fail
        refine jp ?_;refine jnf hD6 2 aA ?_;refine iS rf 0 (by omega) ?_;refine jm (.bool true) ?_;refine jnf hD6 2 aA ?_;refine jnf hB0 1 aO ?_;refine jv (vI n) (aF Tryz.underlying22 _ (by rfl) A n cp (by rfl) _ rfl) ?_;refine bI rf (n:Int) (by omega) ?_;refine jmm (.bool false) (.bool false) ?_;refine bE hb hB0 hB1 hD6 fun X7 hX7 hb hB0 hB1 hD6=>?_;have HC:Hid (rgt c n (⟨day,deb,cre,(false,nn,dd),kd,pd,rf,w1,w2,w3,w4⟩:En)=false):=dP (fun h=>by have h9:=h.rf;rw [if_pos (by exact h4)] at h9;dsimp only at h9;omega)
        go_wp2
        go_ret
        exact ⟨by rw [HC.out];rfl,hb⟩
       ·go_upto_region 10 with fail
        refine jp ?_;refine jnf hD6 2 aA ?_;refine iS rf 0 (by omega) ?_;refine jm (.bool true) ?_;refine jnf hD6 2 aA ?_;refine jnf hB0 1 aO ?_;refine jv (vI n) (aF Tryz.underlying22 _ (by rfl) A n cp (by rfl) _ rfl) ?_;refine cE rf (n:Int) (by omega) ?_;refine jmm (.bool true) (.bool true) ?_;refine bE hb hB0 hB1 hD6 fun X7 hX7 hb hB0 hB1 hD6=>?_;have HC:Hid (rgt c n (⟨day,deb,cre,(false,nn,dd),kd,pd,rf,w1,w2,w3,w4⟩:En)=true):=rgt_t.2 ⟨hy.1,hy.2.1,hy.2.2.1,hy.2.2.2.1,hy.2.2.2.2.1,hy.2.2.2.2.2.1,hy.2.2.2.2.2.2,rfl,hzq,HV.out,hkp.1,hkp.2.1,hkp.2.2.1,hkp.2.2.2,(by rw [if_pos (by exact h4)];exact hr)⟩
        go_wp2
        go_ret
        exact ⟨by rw [HC.out];rfl,hb⟩
      ·go_upto_region 9 with fail
       refine jp ?_;refine jnf hD6 0 aA ?_;refine dN kd 4 (by omega) ?_;refine bE hb hB0 hB1 hD6 fun X6 hX6 hb hB0 hB1 hD6=>?_
       rcases (show rf=-1∨rf≠-1 by omega) with hr|hr
       ·go_upto_region 11 with fail
        refine jp ?_;refine jnf hD6 2 aA ?_;refine dA rf (-1) (by omega) ?_;refine jm (.bool true) ?_;refine bE hb hB0 hB1 hD6 fun X7 hX7 hb hB0 hB1 hD6=>?_;have HC:Hid (rgt c n (⟨day,deb,cre,(false,nn,dd),kd,pd,rf,w1,w2,w3,w4⟩:En)=true):=rgt_t.2 ⟨hy.1,hy.2.1,hy.2.2.1,hy.2.2.2.1,hy.2.2.2.2.1,hy.2.2.2.2.2.1,hy.2.2.2.2.2.2,rfl,hzq,HV.out,hkp.1,hkp.2.1,hkp.2.2.1,hkp.2.2.2,(by rw [if_neg (by exact h4)];exact hr)⟩
        go_wp2
        go_ret
        exact ⟨by rw [HC.out];rfl,hb⟩
       ·go_upto_region 11 with fail
        refine jp ?_;refine jnf hD6 2 aA ?_;refine dN rf (-1) (by omega) ?_;refine jm (.bool false) ?_;refine bE hb hB0 hB1 hD6 fun X7 hX7 hb hB0 hB1 hD6=>?_;have HC:Hid (rgt c n (⟨day,deb,cre,(false,nn,dd),kd,pd,rf,w1,w2,w3,w4⟩:En)=false):=dP (fun h=>by have h9:=h.rf;rw [if_neg (by exact h4)] at h9;dsimp only at h9;exact hr h9)
        go_wp2
        go_ret
        exact ⟨by rw [HC.out];rfl,hb⟩
    ·go_upto_region 4 with fail
     refine jp ?_;refine aX (.bool true) (.bool false) (.bool false) ?_;refine jn (vP (w.heap.size+1) 3) ?_;refine jnf hB1 3 aS ?_;refine eE (.bool false) (.bool false) (vP (w.heap.size+1) 3) ?_;refine jnf hB1 4 aG ?_;refine jv (.bool true) (bH _ _ _ _ (by rfl) nn ([]:List UInt8) (by rfl) (by rfl) true HPZ.out) ?_;refine jm (.bool true) ?_;refine aN hb hB0 hB1 fun X3 hX3 hb hB0 hB1=>?_;go_upto_region 5 with fail;refine jp ?_;refine jm (.bool false) ?_;refine aN hb hB0 hB1 fun X4 hX4 hb hB0 hB1=>?_;have HC:Hid (rgt c n (⟨day,deb,cre,(false,nn,dd),kd,pd,rf,w1,w2,w3,w4⟩:En)=false):=dP (fun h=>by have h9:=h.nz;dsimp only at *;have h8:=HPZ.out;rw [beq_iff_eq] at h8;subst h8;rw [vd_pz HV.out] at h9;cases h9)
     go_wp2
     go_ret
     exact ⟨by rw [HC.out];rfl,hb⟩
   ·go_upto_region 4 with fail
    refine jp ?_;refine aX (.bool true) (.bool false) (.bool false) ?_;refine jn (vP (w.heap.size+1) 3) ?_;refine jnf hB1 3 aS ?_;refine jmm (.bool true) (.bool true) ?_;refine bR ?_;refine jm (.bool true) ?_;refine aN hb hB0 hB1 fun X3 hX3 hb hB0 hB1=>?_;go_upto_region 5 with fail;refine jp ?_;refine jm (.bool false) ?_;refine aN hb hB0 hB1 fun X4 hX4 hb hB0 hB1=>?_;have HC:Hid (rgt c n (⟨day,deb,cre,(true,nn,dd),kd,pd,rf,w1,w2,w3,w4⟩:En)=false):=dP (fun h=>by have:=h.ng;dsimp only at *;cases this)
    go_wp2
    go_ret
    exact ⟨by rw [HC.out];rfl,hb⟩
theorem runC (v:Value) (l:List En) (a:Int) (w:World) (hv:Es l v w):Calls Tryz.prog 86 #[v,vI a] w fun e w'=>e=.returned (.bool (und l a))∧Since w w':=by
 obtain ⟨A,n,cp,rfl,hln,hn1,HRX,HLN⟩:=hv19 hv;clear hv
 go_enter Tryz.func86,Tryz.ntmps86
 go_upto_region 1 with fail;refine jp ?_;refine jm (vI 0) ?_;refine jz fun X1 hX1=>?_;have hb:Below w.heap.size w X1:=hX1
 go_wp2
 go_loopw [5] (fun kv wr=>∃ k:Nat,k≤n∧kv=vI k∧Hid (∀ j,j<k→(decide ((en l j).kd=4) && decide ((en l j).rf=a))=false)∧Below w.heap.size w wr) (fun kv _=>n-(intOf kv).toNat)
 case atStart=>exact ⟨0,by omega,rfl,(fun j hj=>by omega),hb⟩
 case round =>
  clear hb;obtain ⟨k,hk,rfl,HZ,hb⟩:=hrel
  rcases Nat.lt_or_ge k n with hlt|hlt
  ·obtain ⟨b,off,rfl,hbb,hcx⟩:=fL (HRX.out _ hb) HLN.out hlt
   obtain ⟨x,x9⟩:∃ x,x=en l k:=⟨_,rfl⟩;have HX:=Lib.hid x9;clear x9;rw [← HX.out] at hcx
   change Cl wr b (off+k * 13) (eL x) at hcx
   go_upto_region 2 with fail;refine jp ?_;refine jmm (vI k) (.slice (some ⟨b,off,none⟩) n cp) ?_;refine jv (vI n) (aF Tryz.underlying22 _ (by rfl) (some ⟨b,off,none⟩) n cp (by rfl) _ rfl) ?_;refine cE (k:Int) (n:Int) (by omega) ?_;refine jzb hb fun X1 hX1 hb=>?_;have hcx:=hcx.below hX1 hbb;replace hbb:=Nat.lt_of_lt_of_le hbb (hX1).size
   rcases (show x.kd≠4∨(x.kd=4∧x.rf≠a)∨(x.kd=4∧x.rf=a) by omega) with h4|h4|h4
   ·have HZ2:Hid (∀ j,j<k+1→(decide ((en l j).kd=4) && decide ((en l j).rf=a))=false):=fun j hj=>by
     rcases Nat.lt_or_ge j k with h9|h9
     ·exact HZ.out j h9
     ·rw [show j=k by omega,← HX.out,decide_eq_false h4,Bool.false_and]
    go_upto_region 4 with fail;refine jp ?_;refine jmm (.slice (some ⟨b,off,none⟩) n cp) (vI k) ?_;refine jv (vP b (off+k * 13)) (aR Tryz.underlying22 aL _ _ (by rfl) b (off) n cp k (by omega) (by rfl) (by rfl) rfl) ?_;refine jnn (vP b (off+k * 13+6)) (vP b (off+k * 13+6)) ?_;refine jg (vI x.kd) (fun X hX hF=>aP 3 _ (by rfl) b (off+k * 13+6) (by rfl) _ X ((hcx.below hX hbb) 6 _ rfl) (fun X u h=>aA b (off+k * 13+6) X u h)) ?_;refine dN x.kd 4 (by omega) ?_;refine jm (.bool false) ?_;refine cN ?_;refine jm (.bool false) ?_;refine jzb hb fun X2 hX2 hb=>?_;have hcx:=hcx.below hX2 hbb;replace hbb:=Nat.lt_of_lt_of_le hbb (hX2).size;go_upto_region 3 with fail;refine jp ?_;refine jm (vI k) ?_;refine jv (vI ((k+1:Nat):Int)) (bB _ _ _ _ (by rfl) (k:Int) 1 ((k+1:Nat):Int) (by rfl) (by rfl) (by omega) (by omega) (by omega)) ?_;refine jm (vI ((k+1:Nat):Int)) ?_;refine jzb hb fun X3 hX3 hb=>?_
    go_wp2
    go_roundw
    case rel=>exact ⟨k+1,by omega,rfl,HZ2,hb⟩
    case measure=>simp [intOf];omega
   ·have HK4:=Lib.hid h4.1
    have hrf:=h4.2
    have HZ2:Hid (∀ j,j<k+1→(decide ((en l j).kd=4) && decide ((en l j).rf=a))=false):=fun j hj=>by
     rcases Nat.lt_or_ge j k with h9|h9
     ·exact HZ.out j h9
     ·rw [show j=k by omega,← HX.out,decide_eq_false hrf,Bool.and_false]
    go_upto_region 4 with fail;refine jp ?_;refine jmm (.slice (some ⟨b,off,none⟩) n cp) (vI k) ?_;refine jv (vP b (off+k * 13)) (aR Tryz.underlying22 aL _ _ (by rfl) b (off) n cp k (by omega) (by rfl) (by rfl) rfl) ?_;refine jnn (vP b (off+k * 13+6)) (vP b (off+k * 13+6)) ?_;refine jg (vI x.kd) (fun X hX hF=>aP 3 _ (by rfl) b (off+k * 13+6) (by rfl) _ X ((hcx.below hX hbb) 6 _ rfl) (fun X u h=>aA b (off+k * 13+6) X u h)) ?_;refine dA x.kd 4 HK4.out ?_;refine aX (.bool true) (.slice (some ⟨b,off,none⟩) n cp) (vI k) ?_;refine jv (vP b (off+k * 13)) (aR Tryz.underlying22 aL _ _ (by rfl) b (off) n cp k (by omega) (by rfl) (by rfl) rfl) ?_;refine jnn (vP b (off+k * 13+6)) (vP b (off+k * 13+8)) ?_;refine jg (vI x.rf) (fun X hX hF=>aP 3 _ (by rfl) b (off+k * 13+8) (by rfl) _ X ((hcx.below hX hbb) 8 _ rfl) (fun X u h=>aA b (off+k * 13+8) X u h)) ?_;refine jm (vI a) ?_;refine dN x.rf a (by omega) ?_;refine jm (.bool false) ?_;refine jzb hb fun X2 hX2 hb=>?_;have hcx:=hcx.below hX2 hbb;replace hbb:=Nat.lt_of_lt_of_le hbb (hX2).size;go_upto_region 3 with fail;refine jp ?_;refine jm (vI k) ?_;refine jv (vI ((k+1:Nat):Int)) (bB _ _ _ _ (by rfl) (k:Int) 1 ((k+1:Nat):Int) (by rfl) (by rfl) (by omega) (by omega) (by omega)) ?_
    refine jm (vI ((k+1:Nat):Int)) ?_;refine jzb hb fun X3 hX3 hb=>?_
    go_wp2
    go_roundw
    case rel=>exact ⟨k+1,by omega,rfl,HZ2,hb⟩
    case measure=>simp [intOf];omega
   ·have HU:Hid (und l a=true):=by
     show _=_
     unfold und
     exact List.any_eq_true.2 ⟨l[k]'(by rw [HLN.out];exact hlt),List.getElem_mem _,by rw [← mN,← HX.out,decide_eq_true h4.1,decide_eq_true h4.2];rfl⟩
    have HK4:=Lib.hid h4;clear h4;go_upto_region 4 with fail;refine jp ?_;refine jmm (.slice (some ⟨b,off,none⟩) n cp) (vI k) ?_;refine jv (vP b (off+k * 13)) (aR Tryz.underlying22 aL _ _ (by rfl) b (off) n cp k (by omega) (by rfl) (by rfl) rfl) ?_;refine jnn (vP b (off+k * 13+6)) (vP b (off+k * 13+6)) ?_;refine jg (vI x.kd) (fun X hX hF=>aP 3 _ (by rfl) b (off+k * 13+6) (by rfl) _ X ((hcx.below hX hbb) 6 _ rfl) (fun X u h=>aA b (off+k * 13+6) X u h)) ?_;refine dA x.kd 4 HK4.out.1 ?_;refine aX (.bool true) (.slice (some ⟨b,off,none⟩) n cp) (vI k) ?_;refine jv (vP b (off+k * 13)) (aR Tryz.underlying22 aL _ _ (by rfl) b (off) n cp k (by omega) (by rfl) (by rfl) rfl) ?_;refine jnn (vP b (off+k * 13+6)) (vP b (off+k * 13+8)) ?_;refine jg (vI x.rf) (fun X hX hF=>aP 3 _ (by rfl) b (off+k * 13+8) (by rfl) _ X ((hcx.below hX hbb) 8 _ rfl) (fun X u h=>aA b (off+k * 13+8) X u h)) ?_;refine jm (vI a) ?_;refine dA x.rf a HK4.out.2 ?_;refine jm (.bool true) ?_;refine jzb hb fun X2 hX2 hb=>?_;have hcx:=hcx.below hX2 hbb;replace hbb:=Nat.lt_of_lt_of_le hbb (hX2).size;go_upto_region 5 with fail;refine jp ?_;refine jm (.bool true) ?_;refine jzb hb fun X3 hX3 hb=>?_
    go_wp2
    go_ret
    exact ⟨by rw [HU.out];rfl,hb⟩
  ·have HU:Hid (und l a=false):=vYi (fun j hj=>HZ.out j (by rw [HLN.out] at hj;omega))
   go_upto_region 2 with fail;refine jp ?_;refine jmm (vI k) (.slice A n cp) ?_;refine jv (vI n) (aF Tryz.underlying22 _ (by rfl) A n cp (by rfl) _ rfl) ?_;refine bI (k:Int) (n:Int) (by omega) ?_;refine jzb hb fun X1 hX1 hb=>?_;go_upto_region 6 with fail;refine jp ?_;refine jm (.bool false) ?_;refine jzb hb fun X2 hX2 hb=>?_
   go_wp2
   go_ret
   exact ⟨by rw [HU.out];rfl,hb⟩
theorem jN {l:List En} {x:En} (h:und l x.rf=true∨¬ (x.deb=(en l x.rf.toNat).cre∧x.cre=(en l x.rf.toNat).deb∧x.am=(en l x.rf.toNat).am∧x.pd=(en l x.rf.toNat).pd)):dT l x=false:=by
 unfold dT
 rcases h with h|h
 ·rw [h]
  rfl
 ·rw [decide_eq_false,Bool.and_false]
  intro h9
  apply h
  unfold opp at h9
  have e3:=congrArg En.am h9;have e4:=congrArg En.pd h9;simp only at e3 e4;exact ⟨congrArg En.deb h9,congrArg En.cre h9,e3,e4⟩
theorem zQ {l:List En} {x:En} (hu:und l x.rf=false) (h4:x.kd=4) (h1:x.deb=(en l x.rf.toNat).cre) (h2:x.cre=(en l x.rf.toNat).deb) (h3:x.am=(en l x.rf.toNat).am) (h5:x.pd=(en l x.rf.toNat).pd):dT l x=true:=by
 unfold dT
 rw [hu,Bool.not_false,Bool.true_and,decide_eq_true_eq];obtain ⟨a1,a2,a3,a4,a5,a6,a7,a8,a9,a10,a11⟩:=x;simp only at h1 h2 h3 h4 h5
 unfold opp
 simp only [En.mk.injEq,and_true,true_and];exact ⟨h1,h2,h3,h4,h5⟩
theorem am_eq {a b:Tr}:(a.1 == b.1 && a.2.1 == b.2.1 && a.2.2 == b.2.2)=decide (a=b):=by
 obtain ⟨a1,a2,a3⟩:=a;obtain ⟨b1,b2,b3⟩:=b;rw [Bool.eq_iff_iff]
 simp [Bool.and_eq_true,beq_iff_eq,Prod.ext_iff,and_assoc]
theorem qYz (v:Value) (l:List En) (x:En) (r:Nat) (w:World) (hv:Es l v w) (h4:Hid (x.kd=4)) (hr:x.rf=(r:Int)) (hr9:r<l.length):Calls Tryz.prog 62 #[v,.agg #[vI x.day,vI x.deb,vI x.cre,.bool x.am.1,vS x.am.2.1,vS x.am.2.2,vI x.kd,vI x.pd,vI x.rf,vI x.w1,vI x.w2,vI x.w3,vI x.w4]] w fun e w'=>e=.returned (.bool (dT l x))∧Since w w':=by
 obtain ⟨A,n,cp,rfl,hln,hn1,HRX,HLN⟩:=hv19 hv;clear hv
 have hlt:r<n:=by rw [← hln];exact hr9
 have hb:Below w.heap.size w w:=Below.refl _ _;obtain ⟨b,off,rfl,hbb,hcx⟩:=fL (HRX.out _ hb) HLN.out hlt;obtain ⟨y,y9⟩:∃ y,y=en l r:=⟨_,rfl⟩
 have HY:Hid (y=en l x.rf.toNat):=by
  show _=_
  rw [y9,hr]
  rfl
 rw [← y9] at hcx;clear y9 hb
 change Cl w b (off+r * 13) (eL y) at hcx
 have HRR:=Lib.hid hr;clear hr
 go_enter Tryz.func62,Tryz.ntmps62
 go_upto_region 1 with fail;obtain ⟨W0,hW0,hB0,hb⟩:=aT w 76 (eL x);rw [← hW0];clear hW0;have hcx:=hcx.below hb hbb;replace hbb:=Nat.lt_of_lt_of_le hbb hb.size;refine jq 6 ?_;refine jmn (.slice (some ⟨b,off,none⟩) n cp) (vP w.heap.size 6) ?_;refine jnf hB0 8 aA ?_;refine jv (vP b (off+r * 13)) (aR Tryz.underlying22 aL _ _ (by rfl) b (off) n cp r (by omega) (by rfl) (by rfl) HRR.out) ?_;refine jg (.agg #[vI y.day,vI y.deb,vI y.cre,.bool y.am.1,st y.am.2.1,st y.am.2.2,vI y.kd,vI y.pd,vI y.rf,vI y.w1,vI y.w2,vI y.w3,vI y.w4]) (fun X hX hF=>cW 76 _ (by rfl) b (off+r * 13) (by rfl) Tryz.underlying76 rfl (eL y) X (Cl.part (hcx.below hX hbb) 0 _ (by rfl)) aL) ?_;refine aQ hb hB0 fun X1 hX1 hb hB0=>?_;have hcx:=hcx.below hX1 hbb;replace hbb:=Nat.lt_of_lt_of_le hbb (hX1).size;go_upto_region 2 with (refine osn 76 5 12 #[vI y.day,vI y.deb,vI y.cre,.bool y.am.1,vS y.am.2.1,vS y.am.2.2,vI y.kd,vI y.pd,vI y.rf,vI y.w1,vI y.w2,vI y.w3,vI y.w4] aL ?_)
 obtain ⟨Y1,hY9,hD5,hS9⟩:=aT X1 76 (eL y);rw [← hY9];clear hY9;have hgs5:=hb.size;have hlt5x0:=hB0.lt;have hcx:=hcx.below hS9 hbb;replace hbb:=Nat.lt_of_lt_of_le hbb (hS9).size;have hB0:=hB0.bel hS9;have hb:=aI hb hS9;clear hS9;generalize X1.heap.size=g5 at *
 have HES:Hid (∀ X,Since w X→Es l (.slice (some ⟨b,off,none⟩) n cp) X):=fun X h=>by show Rd X 13 _ l.length _;rw [HLN.out];exact HRX.out X h
 obtain ⟨u,u9⟩:∃ u,und l x.rf=u:=⟨_,rfl⟩;have HU:=Lib.hid u9;clear u9
 rcases u with _|_
 ·refine jp ?_
  refine jmn (.slice (some ⟨b,off,none⟩) n cp) (vP w.heap.size 6) ?_;refine jnf hB0 8 aA ?_;refine jc (.bool false) (fun X hX hF=>mo (runC _ l x.rf X (HES.out X (Since.next hb hX))) (by rw [HU.out])) ?_;refine jm (.bool false) ?_;refine aN hb hB0 hD5 fun X2 hX2 hb hB0 hD5=>?_;obtain ⟨am,am9⟩:∃ am,decide (x.am=y.am)=am:=⟨_,rfl⟩
  have HAM:Hid ((x.am.1 == y.am.1 && x.am.2.1 == y.am.2.1 && x.am.2.2 == y.am.2.2)=am):=by
   show _=_
   rw [am_eq,am9]
  have HAD:=Lib.hid am9;clear am9
  rcases (show x.deb≠y.cre∨(x.deb=y.cre∧x.cre≠y.deb)∨(x.deb=y.cre∧x.cre=y.deb) by omega) with hd|hd|hd
  ·go_upto_region 3 with fail
   refine jp ?_;refine aX (.bool false) (.bool true) (.bool true) ?_;refine jnf hB0 1 aA ?_;refine jnf hD5 2 aA ?_;refine dN x.deb y.cre (by omega) ?_;refine jmm (.bool false) (.bool false) ?_;refine bR ?_;refine js ?_;refine jmm (.bool false) (.bool false) ?_;refine bR ?_;refine js ?_;refine jmm (.bool false) (.bool false) ?_;refine bR ?_;refine jss ?_;refine js ?_;refine jmm (.bool false) (.bool false) ?_;refine aN hb hB0 hD5 fun X3 hX3 hb hB0 hD5=>?_;have HC:Hid (dT l x=false):=jN (.inr (fun h9=>by rw [← HY.out] at h9;exact hd h9.1))
   go_wp2
   go_ret
   exact ⟨by rw [HC.out];rfl,hb⟩
  ·have HDE:=Lib.hid hd.1
   replace hd:=hd.2;go_upto_region 3 with fail;refine jp ?_;refine aX (.bool false) (.bool true) (.bool true) ?_;refine jnf hB0 1 aA ?_;refine jnf hD5 2 aA ?_;refine dA x.deb y.cre HDE.out ?_;refine jmm (.bool true) (.bool true) ?_;refine jnf hB0 2 aA ?_;refine jnf hD5 1 aA ?_;refine dN x.cre y.deb (by omega) ?_;refine jmm (.bool false) (.bool false) ?_;refine bR ?_;refine js ?_;refine jmm (.bool false) (.bool false) ?_;refine bR ?_;refine jss ?_;refine js ?_;refine jmm (.bool false) (.bool false) ?_;refine aN hb hB0 hD5 fun X3 hX3 hb hB0 hD5=>?_;have HC:Hid (dT l x=false):=jN (.inr (fun h9=>by rw [← HY.out] at h9;exact hd h9.2.1))
   go_wp2
   go_ret
   exact ⟨by rw [HC.out];rfl,hb⟩
  ·have HDE:=Lib.hid hd
   clear hd
   rcases am with _|_
   ·go_upto_region 3 with fail
    refine jp ?_;refine aX (.bool false) (.bool true) (.bool true) ?_;refine jnf hB0 1 aA ?_;refine jnf hD5 2 aA ?_;refine dA x.deb y.cre HDE.out.1 ?_;refine jmm (.bool true) (.bool true) ?_;refine jnf hB0 2 aA ?_;refine jnf hD5 1 aA ?_;refine dA x.cre y.deb HDE.out.2 ?_;refine eE (.bool true) (.bool true) (vP w.heap.size 3) ?_;refine jg (.agg #[.bool x.am.1,st x.am.2.1,st x.am.2.2]) (fun X hX hF=>aY 40 _ (by rfl) w.heap.size 3 [.bool x.am.1,vS x.am.2.1,vS x.am.2.2] (by rfl) Tryz.underlying40 rfl X (hB0.bel hX) (by rfl) aC) ?_;refine jn (vP g5 3) ?_;refine jg (.agg #[.bool y.am.1,st y.am.2.1,st y.am.2.2]) (fun X hX hF=>aY 40 _ (by rfl) g5 3 [.bool y.am.1,vS y.am.2.1,vS y.am.2.2] (by rfl) Tryz.underlying40 rfl X (hD5.bel hX) (by rfl) aC) ?_;refine jv (.bool false) (dB _ _ (by rfl) x.am.1 x.am.2.1 x.am.2.2 y.am.1 y.am.2.1 y.am.2.2 (by rfl) (by rfl) false HAM.out) ?_;refine jmm (.bool false) (.bool false) ?_;refine bR ?_;refine jss ?_;refine js ?_;refine jmm (.bool false) (.bool false) ?_;refine aN hb hB0 hD5 fun X3 hX3 hb hB0 hD5=>?_;have HC:Hid (dT l x=false):=jN (.inr (fun h9=>by rw [← HY.out] at h9;exact absurd h9.2.2.1 (of_decide_eq_false HAD.out)))
    go_wp2
    go_ret
    exact ⟨by rw [HC.out];rfl,hb⟩
   ·rcases (show x.pd=y.pd∨x.pd≠y.pd by omega) with hp|hp
    ·have HPD:=Lib.hid hp
     clear hp;go_upto_region 3 with fail;refine jp ?_;refine aX (.bool false) (.bool true) (.bool true) ?_;refine jnf hB0 1 aA ?_;refine jnf hD5 2 aA ?_;refine dA x.deb y.cre HDE.out.1 ?_;refine jmm (.bool true) (.bool true) ?_;refine jnf hB0 2 aA ?_;refine jnf hD5 1 aA ?_;refine dA x.cre y.deb HDE.out.2 ?_;refine eE (.bool true) (.bool true) (vP w.heap.size 3) ?_;refine jg (.agg #[.bool x.am.1,st x.am.2.1,st x.am.2.2]) (fun X hX hF=>aY 40 _ (by rfl) w.heap.size 3 [.bool x.am.1,vS x.am.2.1,vS x.am.2.2] (by rfl) Tryz.underlying40 rfl X (hB0.bel hX) (by rfl) aC) ?_;refine jn (vP g5 3) ?_;refine jg (.agg #[.bool y.am.1,st y.am.2.1,st y.am.2.2]) (fun X hX hF=>aY 40 _ (by rfl) g5 3 [.bool y.am.1,vS y.am.2.1,vS y.am.2.2] (by rfl) Tryz.underlying40 rfl X (hD5.bel hX) (by rfl) aC) ?_;refine jv (.bool true) (dB _ _ (by rfl) x.am.1 x.am.2.1 x.am.2.2 y.am.1 y.am.2.1 y.am.2.2 (by rfl) (by rfl) true HAM.out) ?_;refine eE (.bool true) (.bool true) (vP w.heap.size 6) ?_;refine jnf hB0 7 aA ?_;refine jn (vP g5 6) ?_;refine jnf hD5 7 aA ?_;refine dA x.pd y.pd HPD.out ?_;refine jmm (.bool true) (.bool true) ?_;refine aN hb hB0 hD5 fun X3 hX3 hb hB0 hD5=>?_;have HC:Hid (dT l x=true):=zQ HU.out h4.out (by rw [← HY.out];exact HDE.out.1) (by rw [← HY.out];exact HDE.out.2) (by rw [← HY.out];exact of_decide_eq_true HAD.out) (by rw [← HY.out];exact HPD.out)
     go_wp2
     go_ret
     exact ⟨by rw [HC.out];rfl,hb⟩
    ·go_upto_region 3 with fail
     refine jp ?_;refine aX (.bool false) (.bool true) (.bool true) ?_;refine jnf hB0 1 aA ?_;refine jnf hD5 2 aA ?_;refine dA x.deb y.cre HDE.out.1 ?_;refine jmm (.bool true) (.bool true) ?_;refine jnf hB0 2 aA ?_;refine jnf hD5 1 aA ?_;refine dA x.cre y.deb HDE.out.2 ?_;refine eE (.bool true) (.bool true) (vP w.heap.size 3) ?_;refine jg (.agg #[.bool x.am.1,st x.am.2.1,st x.am.2.2]) (fun X hX hF=>aY 40 _ (by rfl) w.heap.size 3 [.bool x.am.1,vS x.am.2.1,vS x.am.2.2] (by rfl) Tryz.underlying40 rfl X (hB0.bel hX) (by rfl) aC) ?_;refine jn (vP g5 3) ?_;refine jg (.agg #[.bool y.am.1,st y.am.2.1,st y.am.2.2]) (fun X hX hF=>aY 40 _ (by rfl) g5 3 [.bool y.am.1,vS y.am.2.1,vS y.am.2.2] (by rfl) Tryz.underlying40 rfl X (hD5.bel hX) (by rfl) aC) ?_;refine jv (.bool true) (dB _ _ (by rfl) x.am.1 x.am.2.1 x.am.2.2 y.am.1 y.am.2.1 y.am.2.2 (by rfl) (by rfl) true HAM.out) ?_;refine eE (.bool true) (.bool true) (vP w.heap.size 6) ?_;refine jnf hB0 7 aA ?_;refine jn (vP g5 6) ?_;refine jnf hD5 7 aA ?_;refine dN x.pd y.pd (by omega) ?_;refine jmm (.bool false) (.bool false) ?_;refine aN hb hB0 hD5 fun X3 hX3 hb hB0 hD5=>?_;have HC:Hid (dT l x=false):=jN (.inr (fun h9=>by rw [← HY.out] at h9;exact hp h9.2.2.2))
     go_wp2
     go_ret
     exact ⟨by rw [HC.out];rfl,hb⟩
 ·refine jp ?_
  refine jmn (.slice (some ⟨b,off,none⟩) n cp) (vP w.heap.size 6) ?_;refine jnf hB0 8 aA ?_;refine jc (.bool true) (fun X hX hF=>mo (runC _ l x.rf X (HES.out X (Since.next hb hX))) (by rw [HU.out])) ?_;refine jm (.bool true) ?_;refine aN hb hB0 hD5 fun X2 hX2 hb hB0 hD5=>?_;go_upto_region 3 with fail;refine jp ?_;refine aX (.bool true) (.bool false) (.bool false) ?_;refine bR ?_;refine js ?_;refine jmm (.bool false) (.bool false) ?_;refine bR ?_;refine js ?_;refine jmm (.bool false) (.bool false) ?_;refine bR ?_;refine js ?_;refine jmm (.bool false) (.bool false) ?_;refine bR ?_;refine jss ?_;refine js ?_;refine jmm (.bool false) (.bool false) ?_;refine aN hb hB0 hD5 fun X3 hX3 hb hB0 hD5=>?_;have HC:Hid (dT l x=false):=jN (.inl HU.out)
  go_wp2
  go_ret
  exact ⟨by rw [HC.out];rfl,hb⟩
theorem rak0 (c:Int) (v:Value) (l:List En) (w:World) (hv:Es l v w) (h:100<c):Calls Tryz.prog 27 #[.agg #[vI c,v]] w fun e w'=>e=.returned (vI (acE c l))∧Since w w':=by
 obtain ⟨A,n,cp,rfl,hln,hn1,HRX,HLN⟩:=hv19 hv;clear hv
 go_enter Tryz.func27,Tryz.ntmps27
 go_upto_region 1 with fail;obtain ⟨W0,hW0,hB0,hb⟩:=aT w 24 [vI c,.slice A n cp];rw [← hW0];clear hW0;refine jp ?_;refine jnf hB0 0 aA ?_;refine cD c 100 (by omega) ?_;refine jm (.bool true) ?_;refine bR ?_;refine jm (.bool true) ?_;refine aQ hb hB0 fun X1 hX1 hb hB0=>?_;go_upto_region 2 with fail;refine jp ?_;refine jm (vI 2) ?_;refine aQ hb hB0 fun X2 hX2 hb hB0=>?_;have HC:Hid (acE c l=2):=oC (by omega)
 go_wp2
 go_ret
 exact ⟨by rw [HC.out];rfl,hb⟩
theorem rak1 (c:Int) (v:Value) (l:List En) (w:World) (hv:Es l v w) (h0:c≤100) (h:4000<l.length):Calls Tryz.prog 27 #[.agg #[vI c,v]] w fun e w'=>e=.returned (vI (acE c l))∧Since w w':=by
 obtain ⟨A,n,cp,rfl,hln,hn1,HRX,HLN⟩:=hv19 hv;clear hv
 go_enter Tryz.func27,Tryz.ntmps27
 go_upto_region 1 with fail;obtain ⟨W0,hW0,hB0,hb⟩:=aT w 24 [vI c,.slice A n cp];rw [← hW0];clear hW0;rw [hln] at h;refine jp ?_;refine jnf hB0 0 aA ?_;refine bZ c 100 (by omega) ?_;refine jm (.bool false) ?_;refine jnf hB0 1 aO ?_;refine jv (vI n) (aF Tryz.underlying22 _ (by rfl) A n cp (by rfl) _ rfl) ?_;refine cD (n:Int) 4000 (by omega) ?_;refine jm (.bool true) ?_;refine aQ hb hB0 fun X1 hX1 hb hB0=>?_;go_upto_region 2 with fail;refine jp ?_;refine jm (vI 2) ?_;refine aQ hb hB0 fun X2 hX2 hb hB0=>?_;have HC:Hid (acE c l=2):=oC (by rw [HLN.out];omega)
 go_wp2
 go_ret
 exact ⟨by rw [HC.out];rfl,hb⟩
theorem rak2 (c:Int) (v:Value) (l:List En) (w:World) (hv:Es l v w) (h0:c≤100) (h1:l.length≤4000) (h:c<1):Calls Tryz.prog 27 #[.agg #[vI c,v]] w fun e w'=>e=.returned (vI (acE c l))∧Since w w':=by
 obtain ⟨A,n,cp,rfl,hln,hn1,HRX,HLN⟩:=hv19 hv;clear hv
 go_enter Tryz.func27,Tryz.ntmps27
 go_upto_region 1 with fail;obtain ⟨W0,hW0,hB0,hb⟩:=aT w 24 [vI c,.slice A n cp];rw [← hW0];clear hW0;rw [hln] at h1;refine jp ?_;refine jnf hB0 0 aA ?_;refine bZ c 100 (by omega) ?_;refine jm (.bool false) ?_;refine jnf hB0 1 aO ?_;refine jv (vI n) (aF Tryz.underlying22 _ (by rfl) A n cp (by rfl) _ rfl) ?_;refine bZ (n:Int) 4000 (by omega) ?_;refine jm (.bool false) ?_;refine aQ hb hB0 fun X1 hX1 hb hB0=>?_;go_upto_region 3 with fail;refine jp ?_;refine jnf hB0 0 aA ?_;refine cE c 1 (by omega) ?_;refine aQ hb hB0 fun X2 hX2 hb hB0=>?_;go_upto_region 4 with fail;refine jp ?_;refine jm (vI 3) ?_;refine aQ hb hB0 fun X3 hX3 hb hB0=>?_;have HC:Hid (acE c l=3):=xO h (by rw [HLN.out];exact h1)
 go_wp2
 go_ret
 exact ⟨by rw [HC.out];rfl,hb⟩
theorem rakM (c:Int) (v:Value) (l:List En) (w:World) (hv:Es l v w) (hs:Hid (∀ k,tz (en l k).am.2.1 (en l k).am.2.2 1000000)) (hc1:1≤c) (hc2:c≤100) (h4:l.length≤4000):Calls Tryz.prog 27 #[.agg #[vI c,v]] w fun e w'=>e=.returned (vI (acE c l))∧Since w w':=by
 obtain ⟨A,n,cp,rfl,hln,hn1,HRX,HLN⟩:=hv19 hv;clear hv
 go_enter Tryz.func27,Tryz.ntmps27
 go_upto_region 1 with fail;obtain ⟨W0,hW0,hB0,hb⟩:=aT w 24 [vI c,.slice A n cp];rw [← hW0];clear hW0;rw [hln] at h4;have hcp:=HRX.out w (Below.refl _ _);replace hcp:=Es.cap hcp;refine jp ?_;refine jnf hB0 0 aA ?_;refine bZ c 100 (by omega) ?_;refine jm (.bool false) ?_;refine jnf hB0 1 aO ?_;refine jv (vI n) (aF Tryz.underlying22 _ (by rfl) A n cp (by rfl) _ rfl) ?_;refine bZ (n:Int) 4000 (by omega) ?_;refine jm (.bool false) ?_;refine aQ hb hB0 fun X1 hX1 hb hB0=>?_;go_upto_region 3 with fail;refine jp ?_;refine jnf hB0 0 aA ?_;refine bI c 1 (by omega) ?_;refine aQ hb hB0 fun X2 hX2 hb hB0=>?_;go_upto_region 5 with fail;refine jp ?_;refine jm (vI 0) ?_;refine aQ hb hB0 fun X3 hX3 hb hB0=>?_
 go_wp2
 go_loopw [3] (fun kv wr=>∃ k:Nat,k≤n∧kv=vI k∧Hid (∀ j,j<k→okE c l j=true)∧Blk wr w.heap.size 24 [vI c,.slice A n cp]∧Below w.heap.size w wr) (fun kv _=>n-(intOf kv).toNat)
 case atStart=>exact ⟨0,by omega,rfl,(fun j hj=>by omega),hB0,hb⟩
 case round =>
  clear hB0 hb;obtain ⟨k,hk,rfl,HZ,hB0,hb⟩:=hrel
  rcases Nat.lt_or_ge k n with hlt|hlt
  ·obtain ⟨b,off,rfl,hbb,hcx⟩:=fL (HRX.out _ hb) HLN.out hlt
   obtain ⟨x,x9⟩:∃ x,x=en l k:=⟨_,rfl⟩;have HX:=Lib.hid x9;clear x9;rw [← HX.out] at hcx
   change Cl wr b (off+k * 13) (eL x) at hcx
   have hxs:tz x.am.2.1 x.am.2.2 1000000:=by rw [HX.out];exact hs.out k
   go_upto_region 6 with fail;refine jp ?_;refine jm (vI k) ?_;refine jnf hB0 1 aO ?_;refine jv (vI n) (aF Tryz.underlying22 _ (by rfl) (some ⟨b,off,none⟩) n cp (by rfl) _ rfl) ?_;refine cE (k:Int) (n:Int) (by omega) ?_;refine aQ hb hB0 fun X1 hX1 hb hB0=>?_;have hcx:=hcx.below hX1 hbb;replace hbb:=Nat.lt_of_lt_of_le hbb (hX1).size;go_upto_region 8 with fail;refine jq 5 ?_;refine jnf hB0 1 aO ?_;refine jm (vI k) ?_;refine jv (vP b (off+k * 13)) (aR Tryz.underlying22 aL _ _ (by rfl) b (off) n cp k (by omega) (by rfl) (by rfl) rfl) ?_;refine jg (.agg #[vI x.day,vI x.deb,vI x.cre,.bool x.am.1,st x.am.2.1,st x.am.2.2,vI x.kd,vI x.pd,vI x.rf,vI x.w1,vI x.w2,vI x.w3,vI x.w4]) (fun X hX hF=>cW 76 _ (by rfl) b (off+k * 13) (by rfl) Tryz.underlying76 rfl (eL x) X (Cl.part (hcx.below hX hbb) 0 _ (by rfl)) aL) ?_;refine aQ hb hB0 fun X2 hX2 hb hB0=>?_;have hcx:=hcx.below hX2 hbb;replace hbb:=Nat.lt_of_lt_of_le hbb (hX2).size;go_upto_region 9 with (refine osn 76 4 30 #[vI x.day,vI x.deb,vI x.cre,.bool x.am.1,vS x.am.2.1,vS x.am.2.2,vI x.kd,vI x.pd,vI x.rf,vI x.w1,vI x.w2,vI x.w3,vI x.w4] aL ?_)
   obtain ⟨Y2,hY9,hD4,hS9⟩:=aT X2 76 (eL x);rw [← hY9];clear hY9;have hgs4:=hb.size;have hlt4x0:=hB0.lt;have hcx:=hcx.below hS9 hbb;replace hbb:=Nat.lt_of_lt_of_le hbb (hS9).size;have hB0:=hB0.bel hS9;have hb:=aI hb hS9;clear hS9;generalize X2.heap.size=g4 at *;obtain ⟨rr,r9⟩:∃ rr,rgt c k x=rr:=⟨_,rfl⟩;have HR:=Lib.hid r9;clear r9
   rcases rr with _|_
   ·refine jd ?_
    refine jnf hB0 0 aA ?_;refine jnf hB0 1 aO ?_;refine jm (vI k) ?_;refine jv (.slice (some ⟨b,off,none⟩) k cp) (eY Tryz.underlying22 aL _ _ (by rfl) (some ⟨b,off,none⟩) n cp k (by omega) (by rfl) (by rfl) rfl) ?_;refine jn (.agg #[vI c,.slice (some ⟨b,off,none⟩) k cp]) ?_;refine ja hD4 Tryz.underlying76 (by rfl) aL ?_;refine jc (.bool false) (fun X hX hF=>mo (rrgC c (some ⟨b,off,none⟩) k cp x X (by omega) hxs) (by rw [HR.out])) ?_;refine jm (.bool false) ?_;refine aN hb hB0 hD4 fun X3 hX3 hb hB0 hD4=>?_;go_upto_region 10 with fail;refine jd ?_;refine aX (.bool false) (.bool true) (.bool true) ?_;refine cN ?_;refine bR ?_;refine jss ?_;refine jm (.bool true) ?_;refine aN hb hB0 hD4 fun X4 hX4 hb hB0 hD4=>?_;go_upto_region 11 with fail;refine jp ?_;refine jm (vI 1) ?_;refine aN hb hB0 hD4 fun X5 hX5 hb hB0 hD4=>?_;have HC:Hid (acE c l=1):=fT hc1 hc2 (by rw [HLN.out];exact h4) (k:=k) (by rw [HLN.out];exact hlt) (kW (.inl (by rw [← HX.out];exact HR.out)))
    go_wp2
    go_ret
    exact ⟨by rw [HC.out];rfl,hb⟩
   ·refine jd ?_
    refine jnf hB0 0 aA ?_;refine jnf hB0 1 aO ?_;refine jm (vI k) ?_;refine jv (.slice (some ⟨b,off,none⟩) k cp) (eY Tryz.underlying22 aL _ _ (by rfl) (some ⟨b,off,none⟩) n cp k (by omega) (by rfl) (by rfl) rfl) ?_;refine jn (.agg #[vI c,.slice (some ⟨b,off,none⟩) k cp]) ?_;refine ja hD4 Tryz.underlying76 (by rfl) aL ?_;refine jc (.bool true) (fun X hX hF=>mo (rrgC c (some ⟨b,off,none⟩) k cp x X (by omega) hxs) (by rw [HR.out])) ?_;refine jm (.bool true) ?_;refine aN hb hB0 hD4 fun X3 hX3 hb hB0 hD4=>?_
    rcases Nat.eq_zero_or_pos k with hk0|hk0
    ·have HK0:=Lib.hid hk0
     have hk0:k≤0:=by omega
     have hk0':¬ 0<k:=by omega
     have hday:¬ (0<k∧x.day<(en l (k-1)).day):=by omega
     go_upto_region 10 with fail;refine jd ?_;refine aX (.bool true) (.bool false) (.bool false) ?_;refine jm (vI k) ?_;refine bZ (k:Int) 0 (by omega) ?_;refine jm (.bool false) ?_;refine cN ?_;refine jss ?_;refine jmm (.bool false) (.bool false) ?_;refine aN hb hB0 hD4 fun X4 hX4 hb hB0 hD4=>?_;have HG:Hid (Rg c k x):=rgt_t.1 HR.out
     rcases (show x.kd≠4∨x.kd=4 by omega) with hkd|hkd
     ·go_upto_region 12 with fail
      refine jp ?_;refine jn (vP g4 6) ?_;refine jnf hD4 6 aA ?_;refine dN x.kd 4 (by omega) ?_;refine aN hb hB0 hD4 fun X5 hX5 hb hB0 hD4=>?_;have HOK:Hid (okE c l k=true):=nO (by rw [← HX.out];exact HR.out) (by rw [← HX.out];exact hday) (fun h9=>by rw [← HX.out] at h9;exact absurd h9 hkd)
      have HZ2:Hid (∀ j,j<k+1→okE c l j=true):=fun j hj=>by
       rcases Nat.lt_or_ge j k with h9|h9
       ·exact HZ.out j h9
       ·rw [show j=k by omega];exact HOK.out
      go_upto_region 7 with fail;refine jp ?_;refine jm (vI k) ?_;refine jv (vI ((k+1:Nat):Int)) (bB _ _ _ _ (by rfl) (k:Int) 1 ((k+1:Nat):Int) (by rfl) (by rfl) (by omega) (by omega) (by omega)) ?_;refine jm (vI ((k+1:Nat):Int)) ?_;refine aN hb hB0 hD4 fun X6 hX6 hb hB0 hD4=>?_
      go_wp2
      go_roundw
      case rel=>exact ⟨k+1,by omega,rfl,HZ2,hB0,hb⟩
      case measure=>simp [intOf];omega
     ·have HKD:=Lib.hid hkd
      clear hkd;go_upto_region 12 with fail;refine jp ?_;refine jn (vP g4 6) ?_;refine jnf hD4 6 aA ?_;refine dA x.kd 4 HKD.out ?_;refine aN hb hB0 hD4 fun X5 hX5 hb hB0 hD4=>?_
      have hrf:0≤x.rf∧x.rf<(k:Int):=by
       have h9:=HG.out.rf
       rwa [if_pos HKD.out] at h9
      obtain ⟨r,hr⟩:∃ r:Nat,x.rf=(r:Int):=⟨x.rf.toNat,by omega⟩;have HRR:=Lib.hid hr
      have hrk:r<k:=by omega
      clear hr;obtain ⟨u,u9⟩:∃ u,dT (l.take k) x=u:=⟨_,rfl⟩;have HU:=Lib.hid u9;clear u9
      have HTL:Hid ((l.take k).length=k):=by
       show _=_
       rw [List.length_take,HLN.out];omega
      rcases u with _|_
      ·go_upto_region 13 with fail
       refine jd ?_;refine jnf hB0 1 aO ?_;refine jm (vI k) ?_;refine jv (.slice (some ⟨b,off,none⟩) k cp) (eY Tryz.underlying22 aL _ _ (by rfl) (some ⟨b,off,none⟩) n cp k (by omega) (by rfl) (by rfl) rfl) ?_;refine ja hD4 Tryz.underlying76 (by rfl) aL ?_;refine jc (.bool false) (fun X hX hF=>mo (qYz _ (l.take k) x r X (sD (HRX.out X (Since.next hb hX)) HLN.out (by omega)) HKD HRR.out (by rw [HTL.out];exact hrk)) (by rw [HU.out])) ?_;refine jm (.bool false) ?_;refine aN hb hB0 hD4 fun X6 hX6 hb hB0 hD4=>?_;go_upto_region 14 with fail;refine jp ?_;refine jmm (.bool false) (.bool true) ?_;refine aN hb hB0 hD4 fun X7 hX7 hb hB0 hD4=>?_;go_upto_region 15 with fail;refine jp ?_;refine jm (vI 1) ?_;refine aN hb hB0 hD4 fun X8 hX8 hb hB0 hD4=>?_;have HC:Hid (acE c l=1):=fT hc1 hc2 (by rw [HLN.out];exact h4) (k:=k) (by rw [HLN.out];exact hlt) (kW (.inr (.inr ⟨by rw [← HX.out];exact HKD.out,by rw [← HX.out];exact HU.out⟩)))
       go_wp2
       go_ret
       exact ⟨by rw [HC.out];rfl,hb⟩
      ·go_upto_region 13 with fail
       refine jd ?_;refine jnf hB0 1 aO ?_;refine jm (vI k) ?_;refine jv (.slice (some ⟨b,off,none⟩) k cp) (eY Tryz.underlying22 aL _ _ (by rfl) (some ⟨b,off,none⟩) n cp k (by omega) (by rfl) (by rfl) rfl) ?_;refine ja hD4 Tryz.underlying76 (by rfl) aL ?_;refine jc (.bool true) (fun X hX hF=>mo (qYz _ (l.take k) x r X (sD (HRX.out X (Since.next hb hX)) HLN.out (by omega)) HKD HRR.out (by rw [HTL.out];exact hrk)) (by rw [HU.out])) ?_;refine jm (.bool true) ?_;refine aN hb hB0 hD4 fun X6 hX6 hb hB0 hD4=>?_;go_upto_region 14 with fail;refine jp ?_;refine jmm (.bool true) (.bool false) ?_;refine aN hb hB0 hD4 fun X7 hX7 hb hB0 hD4=>?_;have HOK:Hid (okE c l k=true):=nO (by rw [← HX.out];exact HR.out) (by rw [← HX.out];exact hday) (fun _=>by rw [← HX.out];exact HU.out)
       have HZ2:Hid (∀ j,j<k+1→okE c l j=true):=fun j hj=>by
        rcases Nat.lt_or_ge j k with h9|h9
        ·exact HZ.out j h9
        ·rw [show j=k by omega];exact HOK.out
       go_upto_region 7 with fail;refine jp ?_;refine jm (vI k) ?_;refine jv (vI ((k+1:Nat):Int)) (bB _ _ _ _ (by rfl) (k:Int) 1 ((k+1:Nat):Int) (by rfl) (by rfl) (by omega) (by omega) (by omega)) ?_;refine jm (vI ((k+1:Nat):Int)) ?_;refine aN hb hB0 hD4 fun X8 hX8 hb hB0 hD4=>?_
       go_wp2
       go_roundw
       case rel=>exact ⟨k+1,by omega,rfl,HZ2,hB0,hb⟩
       case measure=>simp [intOf];omega
    ·obtain ⟨j,hj9⟩:∃ j,k=j+1:=⟨k-1,by omega⟩
     have HJ:=Lib.hid hj9
     have hj1:j<k:=by omega
     have hj2:k≤j+1:=by omega
     clear hj9;obtain ⟨p,p9⟩:∃ p,p=en l (k-1):=⟨_,rfl⟩;have HP:=Lib.hid p9;clear p9;obtain ⟨hbp,hcp9⟩:=tY (HRX.out _ hb) HLN.out (k:=j) (by omega);rw [show en l j=p by rw [HP.out,HJ.out,Nat.add_sub_cancel]] at hcp9
     change Cl X3 b (off+j * 13) (eL p) at hcp9
     rcases (show x.day<p.day∨p.day≤x.day by omega) with hdd|hdd
     ·go_upto_region 10 with fail
      refine jd ?_;refine aX (.bool true) (.bool false) (.bool false) ?_;refine jm (vI k) ?_;refine cD (k:Int) 0 (by omega) ?_;refine jm (.bool true) ?_;refine jnf hD4 0 aA ?_;refine jnf hB0 1 aO ?_;refine jm (vI k) ?_;refine jv (vI j) (aW _ _ _ _ (by rfl) (k:Int) 1 (j:Int) (by rfl) (by rfl) (by omega) (by omega) (by omega)) ?_;refine jv (vP b (off+j * 13)) (aR Tryz.underlying22 aL _ _ (by rfl) b (off) n cp j (by omega) (by rfl) (by rfl) rfl) ?_;refine jn (vP b (off+j * 13)) ?_;refine jg (vI p.day) (fun X hX hF=>aP 3 _ (by rfl) b (off+j * 13) (by rfl) _ X ((hcp9.below hX hbp) 0 _ rfl) (fun X u h=>aA b (off+j * 13) X u h)) ?_;refine cE x.day p.day (by omega) ?_;refine jmm (.bool true) (.bool true) ?_;refine aN hb hB0 hD4 fun X4 hX4 hb hB0 hD4=>?_;have hcp9:=hcp9.below hX4 hbp;replace hbp:=Nat.lt_of_lt_of_le hbp (hX4).size;go_upto_region 11 with fail;refine jp ?_;refine jm (vI 1) ?_;refine aN hb hB0 hD4 fun X5 hX5 hb hB0 hD4=>?_;have HC:Hid (acE c l=1):=fT hc1 hc2 (by rw [HLN.out];exact h4) (k:=k) (by rw [HLN.out];exact hlt) (kW (.inr (.inl ⟨by omega,by rw [← HX.out,← HP.out];exact hdd⟩)))
      go_wp2
      go_ret
      exact ⟨by rw [HC.out];rfl,hb⟩
     ·have hday:¬ (0<k∧x.day<(en l (k-1)).day):=fun h9=>by rw [← HP.out] at h9;omega
      go_upto_region 10 with fail;refine jd ?_;refine aX (.bool true) (.bool false) (.bool false) ?_;refine jm (vI k) ?_;refine cD (k:Int) 0 (by omega) ?_;refine jm (.bool true) ?_;refine jnf hD4 0 aA ?_;refine jnf hB0 1 aO ?_;refine jm (vI k) ?_;refine jv (vI j) (aW _ _ _ _ (by rfl) (k:Int) 1 (j:Int) (by rfl) (by rfl) (by omega) (by omega) (by omega)) ?_;refine jv (vP b (off+j * 13)) (aR Tryz.underlying22 aL _ _ (by rfl) b (off) n cp j (by omega) (by rfl) (by rfl) rfl) ?_;refine jn (vP b (off+j * 13)) ?_;refine jg (vI p.day) (fun X hX hF=>aP 3 _ (by rfl) b (off+j * 13) (by rfl) _ X ((hcp9.below hX hbp) 0 _ rfl) (fun X u h=>aA b (off+j * 13) X u h)) ?_;refine bI x.day p.day (by omega) ?_;refine jmm (.bool false) (.bool false) ?_;refine aN hb hB0 hD4 fun X4 hX4 hb hB0 hD4=>?_;have hcp9:=hcp9.below hX4 hbp;replace hbp:=Nat.lt_of_lt_of_le hbp (hX4).size;have HG:Hid (Rg c k x):=rgt_t.1 HR.out
      rcases (show x.kd≠4∨x.kd=4 by omega) with hkd|hkd
      ·go_upto_region 12 with fail
       refine jp ?_;refine jn (vP g4 6) ?_;refine jnf hD4 6 aA ?_;refine dN x.kd 4 (by omega) ?_;refine aN hb hB0 hD4 fun X5 hX5 hb hB0 hD4=>?_;have HOK:Hid (okE c l k=true):=nO (by rw [← HX.out];exact HR.out) (by rw [← HX.out];exact hday) (fun h9=>by rw [← HX.out] at h9;exact absurd h9 hkd)
       have HZ2:Hid (∀ j,j<k+1→okE c l j=true):=fun j hj=>by
        rcases Nat.lt_or_ge j k with h9|h9
        ·exact HZ.out j h9
        ·rw [show j=k by omega];exact HOK.out
       go_upto_region 7 with fail;refine jp ?_;refine jm (vI k) ?_;refine jv (vI ((k+1:Nat):Int)) (bB _ _ _ _ (by rfl) (k:Int) 1 ((k+1:Nat):Int) (by rfl) (by rfl) (by omega) (by omega) (by omega)) ?_;refine jm (vI ((k+1:Nat):Int)) ?_;refine aN hb hB0 hD4 fun X6 hX6 hb hB0 hD4=>?_
       go_wp2
       go_roundw
       case rel=>exact ⟨k+1,by omega,rfl,HZ2,hB0,hb⟩
       case measure=>simp [intOf];omega
      ·have HKD:=Lib.hid hkd
       clear hkd;go_upto_region 12 with fail;refine jp ?_;refine jn (vP g4 6) ?_;refine jnf hD4 6 aA ?_;refine dA x.kd 4 HKD.out ?_;refine aN hb hB0 hD4 fun X5 hX5 hb hB0 hD4=>?_
       have hrf:0≤x.rf∧x.rf<(k:Int):=by
        have h9:=HG.out.rf
        rwa [if_pos HKD.out] at h9
       obtain ⟨r,hr⟩:∃ r:Nat,x.rf=(r:Int):=⟨x.rf.toNat,by omega⟩;have HRR:=Lib.hid hr
       have hrk:r<k:=by omega
       clear hr;obtain ⟨u,u9⟩:∃ u,dT (l.take k) x=u:=⟨_,rfl⟩;have HU:=Lib.hid u9;clear u9
       have HTL:Hid ((l.take k).length=k):=by
        show _=_
        rw [List.length_take,HLN.out];omega
       rcases u with _|_
       ·go_upto_region 13 with fail
        refine jd ?_;refine jnf hB0 1 aO ?_;refine jm (vI k) ?_;refine jv (.slice (some ⟨b,off,none⟩) k cp) (eY Tryz.underlying22 aL _ _ (by rfl) (some ⟨b,off,none⟩) n cp k (by omega) (by rfl) (by rfl) rfl) ?_;refine ja hD4 Tryz.underlying76 (by rfl) aL ?_;refine jc (.bool false) (fun X hX hF=>mo (qYz _ (l.take k) x r X (sD (HRX.out X (Since.next hb hX)) HLN.out (by omega)) HKD HRR.out (by rw [HTL.out];exact hrk)) (by rw [HU.out])) ?_;refine jm (.bool false) ?_;refine aN hb hB0 hD4 fun X6 hX6 hb hB0 hD4=>?_;go_upto_region 14 with fail;refine jp ?_;refine jmm (.bool false) (.bool true) ?_;refine aN hb hB0 hD4 fun X7 hX7 hb hB0 hD4=>?_;go_upto_region 15 with fail;refine jp ?_;refine jm (vI 1) ?_;refine aN hb hB0 hD4 fun X8 hX8 hb hB0 hD4=>?_;have HC:Hid (acE c l=1):=fT hc1 hc2 (by rw [HLN.out];exact h4) (k:=k) (by rw [HLN.out];exact hlt) (kW (.inr (.inr ⟨by rw [← HX.out];exact HKD.out,by rw [← HX.out];exact HU.out⟩)))
        go_wp2
        go_ret
        exact ⟨by rw [HC.out];rfl,hb⟩
       ·go_upto_region 13 with fail
        refine jd ?_;refine jnf hB0 1 aO ?_;refine jm (vI k) ?_;refine jv (.slice (some ⟨b,off,none⟩) k cp) (eY Tryz.underlying22 aL _ _ (by rfl) (some ⟨b,off,none⟩) n cp k (by omega) (by rfl) (by rfl) rfl) ?_;refine ja hD4 Tryz.underlying76 (by rfl) aL ?_;refine jc (.bool true) (fun X hX hF=>mo (qYz _ (l.take k) x r X (sD (HRX.out X (Since.next hb hX)) HLN.out (by omega)) HKD HRR.out (by rw [HTL.out];exact hrk)) (by rw [HU.out])) ?_;refine jm (.bool true) ?_;refine aN hb hB0 hD4 fun X6 hX6 hb hB0 hD4=>?_;go_upto_region 14 with fail;refine jp ?_;refine jmm (.bool true) (.bool false) ?_;refine aN hb hB0 hD4 fun X7 hX7 hb hB0 hD4=>?_;have HOK:Hid (okE c l k=true):=nO (by rw [← HX.out];exact HR.out) (by rw [← HX.out];exact hday) (fun _=>by rw [← HX.out];exact HU.out)
        have HZ2:Hid (∀ j,j<k+1→okE c l j=true):=fun j hj=>by
         rcases Nat.lt_or_ge j k with h9|h9
         ·exact HZ.out j h9
         ·rw [show j=k by omega];exact HOK.out
        go_upto_region 7 with fail;refine jp ?_;refine jm (vI k) ?_;refine jv (vI ((k+1:Nat):Int)) (bB _ _ _ _ (by rfl) (k:Int) 1 ((k+1:Nat):Int) (by rfl) (by rfl) (by omega) (by omega) (by omega)) ?_;refine jm (vI ((k+1:Nat):Int)) ?_;refine aN hb hB0 hD4 fun X8 hX8 hb hB0 hD4=>?_
        go_wp2
        go_roundw
        case rel=>exact ⟨k+1,by omega,rfl,HZ2,hB0,hb⟩
        case measure=>simp [intOf];omega
  ·have HA:Hid (Ok44 c l):=⟨hc1,hc2,by rw [HLN.out];exact h4,fun j hj=>HZ.out j (by rw [HLN.out] at hj;omega)⟩
   go_upto_region 6 with fail;refine jp ?_;refine jm (vI k) ?_;refine jnf hB0 1 aO ?_;refine jv (vI n) (aF Tryz.underlying22 _ (by rfl) A n cp (by rfl) _ rfl) ?_;refine bI (k:Int) (n:Int) (by omega) ?_;refine aQ hb hB0 fun X1 hX1 hb hB0=>?_;go_upto_region 16 with fail;refine jp ?_;refine jm (vI 0) ?_;refine aQ hb hB0 fun X2 hX2 hb hB0=>?_;have HC:Hid (acE c l=0):=acE_ok.2 HA.out
   go_wp2
   go_ret
   exact ⟨by rw [HC.out];rfl,hb⟩
theorem qZd (c:Int) (v:Value) (l:List En) (w:World) (hv:Es l v w) (hs:Hid (∀ k,tz (en l k).am.2.1 (en l k).am.2.2 1000000)):Calls Tryz.prog 27 #[.agg #[vI c,v]] w fun e w'=>e=.returned (vI (acE c l))∧Since w w':=by
 rcases (show 100<c∨(c≤100∧4000<l.length)∨(c≤100∧l.length≤4000∧c<1)∨(c≤100∧l.length≤4000∧1≤c) by omega) with h|h|h|h
 ·exact rak0 c v l w hv h
 ·exact rak1 c v l w hv h.1 h.2
 ·exact rak2 c v l w hv h.1 h.2.1 h.2.2
 ·exact rakM c v l w hv hs h.2.2 h.1 h.2.1
end Go.Proofs.YtjkfchehkpmhkaaGreatDoor

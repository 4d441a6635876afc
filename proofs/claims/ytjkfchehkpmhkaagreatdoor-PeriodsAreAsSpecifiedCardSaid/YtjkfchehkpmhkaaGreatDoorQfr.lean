/- rat: fractions. -/
import Derived.Test.YtjkfchehkpmhkaaGreatDoorRw
import Derived.Test.YtjkfchehkpmhkaaGreatDoorMF
set_option linter.unusedSimpArgs false
set_option linter.unusedVariables false
set_option maxRecDepth 100000
set_option maxHeartbeats 1600000
namespace Go.Proofs.YtjkfchehkpmhkaaGreatDoor
open Go.RowKit
theorem iC:Tryz.prog.eqGuardType Tryz.prog.depth 40=false:=by kernel_rfl
theorem vVq (n:Bool) (p q:List UInt8) (w:World) (hp:p.length≤4194300) (hq:q.length≤4194300) (h:(n == false && p == [] && q == [])=true):Calls Tryz.prog 32 #[.agg #[.bool n,vS p,vS q]] w fun e w'=>e=.returned (.bool (vd n p q))∧Since w w':=by
 have HE:=Lib.hid h
 have HV:Hid (vd n p q=true):=by
  show _=_
  simp only [Bool.and_eq_true,beq_iff_eq] at h;obtain ⟨⟨rfl,rfl⟩,rfl⟩:=h
  rfl
 clear h
 go_enter Tryz.func32,Tryz.ntmps32
 go_upto_region 1 with fail;obtain ⟨W0,hW0,hB0,hb⟩:=aT w 40 [.bool n,vS p,vS q];rw [← hW0];clear hW0;refine jp ?_;refine ja hB0 Tryz.underlying40 (by rfl) aC ?_;refine jn (rz) ?_;refine jv (.bool true) (fun X=>cK .eql 40 _ (.tmp 3) (.tmp 4) (by rfl) _ _ (by rfl) (by rfl) iC _ X ((eO X n false p q [] []).trans (by rw [HE.out]))) ?_;refine aQ hb hB0 fun X1 hX1 hb hB0=>?_
 go_wp2
 go_ret
 exact ⟨by rw [HV.out];rfl,hb⟩
theorem vVp (n:Bool) (p q:List UInt8) (w:World) (hp:p.length≤4194300) (hq:q.length≤4194300) (h:(n == false && p == [] && q == [])=false) (hp0:p=[]):Calls Tryz.prog 32 #[.agg #[.bool n,vS p,vS q]] w fun e w'=>e=.returned (.bool (vd n p q))∧Since w w':=by
 have HE:=Lib.hid h;have HP0:Hid (p=[]):=hp0
 have HV:Hid (vd n p q=false):=by
  show _=_
  unfold vd
  rw [if_pos (.inl hp0)]
  cases n <;> simp_all
 clear h hp0
 go_enter Tryz.func32,Tryz.ntmps32
 go_upto_region 1 with fail;obtain ⟨W0,hW0,hB0,hb⟩:=aT w 40 [.bool n,vS p,vS q];rw [← hW0];clear hW0;refine jp ?_;refine ja hB0 Tryz.underlying40 (by rfl) aC ?_;refine jn (rz) ?_;refine jv (.bool false) (fun X=>cK .eql 40 _ (.tmp 3) (.tmp 4) (by rfl) _ _ (by rfl) (by rfl) iC _ X ((eO X n false p q [] []).trans (by rw [HE.out]))) ?_;refine aQ hb hB0 fun X1 hX1 hb hB0=>?_;go_upto_region 3 with fail;refine jp ?_;refine jnf hB0 1 aG ?_;refine jv (.bool false) (cU _ _ _ _ (by rfl) p ([]:List UInt8) (by rfl) (by rfl) false (wQ HP0.out)) ?_;refine jm (.bool false) ?_;refine jss ?_;refine js ?_;refine jmm (.bool false) (.bool false) ?_;refine jss ?_;refine js ?_;refine jmm (.bool false) (.bool false) ?_;refine jss ?_;refine js ?_;refine jmm (.bool false) (.bool false) ?_;refine bR ?_;refine jss ?_;refine jmm (.bool false) (.bool false) ?_;refine aQ hb hB0 fun X2 hX2 hb hB0=>?_
 go_wp2
 go_ret
 exact ⟨by rw [HV.out];rfl,hb⟩
theorem vVo (n:Bool) (p q:List UInt8) (w:World) (hp:p.length≤4194300) (hq:q.length≤4194300) (hp0:p≠[]) (hq0:q=[]):Calls Tryz.prog 32 #[.agg #[.bool n,vS p,vS q]] w fun e w'=>e=.returned (.bool (vd n p q))∧Since w w':=by
 have HE:Hid ((n == false && p == [] && q == [])=false):=by show _=_;rw [dJ hp0];simp
 have HPN:Hid (p≠[]):=hp0;have HQ0:Hid (q=[]):=hq0
 have HV:Hid (vd n p q=false):=by
  show _=_
  unfold vd
  rw [if_pos (.inr hq0),dJ hp0]
  simp
 clear hp0 hq0
 go_enter Tryz.func32,Tryz.ntmps32
 go_upto_region 1 with fail;obtain ⟨W0,hW0,hB0,hb⟩:=aT w 40 [.bool n,vS p,vS q];rw [← hW0];clear hW0;refine jp ?_;refine ja hB0 Tryz.underlying40 (by rfl) aC ?_;refine jn (rz) ?_;refine jv (.bool false) (fun X=>cK .eql 40 _ (.tmp 3) (.tmp 4) (by rfl) _ _ (by rfl) (by rfl) iC _ X ((eO X n false p q [] []).trans (by rw [HE.out]))) ?_;refine aQ hb hB0 fun X1 hX1 hb hB0=>?_;go_upto_region 3 with fail;refine jp ?_;refine jnf hB0 1 aG ?_;refine jv (.bool true) (cU _ _ _ _ (by rfl) p ([]:List UInt8) (by rfl) (by rfl) true (jJ HPN.out)) ?_;refine jm (.bool true) ?_;refine jnf hB0 2 aG ?_;refine jv (.bool false) (cU _ _ _ _ (by rfl) q ([]:List UInt8) (by rfl) (by rfl) false (wQ HQ0.out)) ?_;refine jmm (.bool false) (.bool false) ?_;refine jss ?_;refine js ?_;refine jmm (.bool false) (.bool false) ?_;refine jss ?_;refine js ?_;refine jmm (.bool false) (.bool false) ?_;refine bR ?_;refine jss ?_;refine jmm (.bool false) (.bool false) ?_;refine aQ hb hB0 fun X2 hX2 hb hB0=>?_
 go_wp2
 go_ret
 exact ⟨by rw [HV.out];rfl,hb⟩
theorem vVn (n:Bool) (p q:List UInt8) (w:World) (hp:p.length≤4194300) (hq:q.length≤4194300) (hp0:p≠[]) (hq0:q≠[]) (h1:cn p=false):Calls Tryz.prog 32 #[.agg #[.bool n,vS p,vS q]] w fun e w'=>e=.returned (.bool (vd n p q))∧Since w w':=by
 have HE:Hid ((n == false && p == [] && q == [])=false):=by show _=_;rw [dJ hp0];simp
 have HPN:Hid (p≠[]):=hp0;have HQN:Hid (q≠[]):=hq0;have HPC:=Lib.hid h1
 have HV:Hid (vd n p q=false):=by
  show _=_
  unfold vd
  rw [if_neg (by rintro (h9|h9);exact hp0 h9;exact hq0 h9),h1]
  rfl
 clear hp0 hq0 h1
 go_enter Tryz.func32,Tryz.ntmps32
 go_upto_region 1 with fail;obtain ⟨W0,hW0,hB0,hb⟩:=aT w 40 [.bool n,vS p,vS q];rw [← hW0];clear hW0;refine jp ?_;refine ja hB0 Tryz.underlying40 (by rfl) aC ?_;refine jn (rz) ?_;refine jv (.bool false) (fun X=>cK .eql 40 _ (.tmp 3) (.tmp 4) (by rfl) _ _ (by rfl) (by rfl) iC _ X ((eO X n false p q [] []).trans (by rw [HE.out]))) ?_;refine aQ hb hB0 fun X1 hX1 hb hB0=>?_;go_upto_region 3 with fail;refine jp ?_;refine jnf hB0 1 aG ?_;refine jv (.bool true) (cU _ _ _ _ (by rfl) p ([]:List UInt8) (by rfl) (by rfl) true (jJ HPN.out)) ?_;refine jm (.bool true) ?_;refine jnf hB0 2 aG ?_;refine jv (.bool true) (cU _ _ _ _ (by rfl) q ([]:List UInt8) (by rfl) (by rfl) true (jJ HQN.out)) ?_;refine jmm (.bool true) (.bool true) ?_;refine jnf hB0 1 aG ?_;refine jc (.bool false) (fun X hX hF=>(lC p X).mono fun e X' ⟨h1,h2⟩=>⟨by rw [h1,HPC.out],eH h2⟩) ?_;refine jmm (.bool false) (.bool false) ?_;refine jss ?_;refine js ?_;refine jmm (.bool false) (.bool false) ?_;refine bR ?_;refine jss ?_;refine jmm (.bool false) (.bool false) ?_;refine aQ hb hB0 fun X2 hX2 hb hB0=>?_
 go_wp2
 go_ret
 exact ⟨by rw [HV.out];rfl,hb⟩
theorem vVm (n:Bool) (p q:List UInt8) (w:World) (hp:p.length≤4194300) (hq:q.length≤4194300) (hp0:p≠[]) (hq0:q≠[]) (h1:cn p=true) (h2:cn q=false):Calls Tryz.prog 32 #[.agg #[.bool n,vS p,vS q]] w fun e w'=>e=.returned (.bool (vd n p q))∧Since w w':=by
 have HE:Hid ((n == false && p == [] && q == [])=false):=by show _=_;rw [dJ hp0];simp
 have HPN:Hid (p≠[]):=hp0;have HQN:Hid (q≠[]):=hq0;have HPC:=Lib.hid h1;have HQC:=Lib.hid h2
 have HV:Hid (vd n p q=false):=by
  show _=_
  unfold vd
  rw [if_neg (by rintro (h9|h9);exact hp0 h9;exact hq0 h9),h1,h2]
  rfl
 clear hp0 hq0 h1 h2
 go_enter Tryz.func32,Tryz.ntmps32
 go_upto_region 1 with fail;obtain ⟨W0,hW0,hB0,hb⟩:=aT w 40 [.bool n,vS p,vS q];rw [← hW0];clear hW0;refine jp ?_;refine ja hB0 Tryz.underlying40 (by rfl) aC ?_;refine jn (rz) ?_;refine jv (.bool false) (fun X=>cK .eql 40 _ (.tmp 3) (.tmp 4) (by rfl) _ _ (by rfl) (by rfl) iC _ X ((eO X n false p q [] []).trans (by rw [HE.out]))) ?_;refine aQ hb hB0 fun X1 hX1 hb hB0=>?_;go_upto_region 3 with fail;refine jp ?_;refine jnf hB0 1 aG ?_;refine jv (.bool true) (cU _ _ _ _ (by rfl) p ([]:List UInt8) (by rfl) (by rfl) true (jJ HPN.out)) ?_;refine jm (.bool true) ?_;refine jnf hB0 2 aG ?_;refine jv (.bool true) (cU _ _ _ _ (by rfl) q ([]:List UInt8) (by rfl) (by rfl) true (jJ HQN.out)) ?_;refine jmm (.bool true) (.bool true) ?_;refine jnf hB0 1 aG ?_;refine jc (.bool true) (fun X hX hF=>(lC p X).mono fun e X' ⟨h1,h2⟩=>⟨by rw [h1,HPC.out],eH h2⟩) ?_;refine jmm (.bool true) (.bool true) ?_;refine jnf hB0 2 aG ?_;refine jc (.bool false) (fun X hX hF=>(lC q X).mono fun e X' ⟨h1,h2⟩=>⟨by rw [h1,HQC.out],eH h2⟩) ?_;refine jmm (.bool false) (.bool false) ?_;refine bR ?_;refine jss ?_;refine jmm (.bool false) (.bool false) ?_;refine aQ hb hB0 fun X2 hX2 hb hB0=>?_
 go_wp2
 go_ret
 exact ⟨by rw [HV.out];rfl,hb⟩
theorem vVl (n:Bool) (p q:List UInt8) (w:World) (hp:p.length≤4194300) (hq:q.length≤4194300) (hp0:p≠[]) (hq0:q≠[]) (h1:cn p=true) (h2:cn q=true) (h3:Nat.gcd (val p) (val q)=1):Calls Tryz.prog 32 #[.agg #[.bool n,vS p,vS q]] w fun e w'=>e=.returned (.bool (vd n p q))∧Since w w':=by
 have HE:Hid ((n == false && p == [] && q == [])=false):=by show _=_;rw [dJ hp0];simp
 have HPN:Hid (p≠[]):=hp0;have HQN:Hid (q≠[]):=hq0;have HPC:=Lib.hid h1;have HQC:=Lib.hid h2
 have HG:Hid (be (Nat.gcd (val p) (val q))=[1]):=by show _=_;rw [h3,be_one]
 have HV:Hid (vd n p q=true):=by
  show _=_
  unfold vd
  rw [if_neg (by rintro (h9|h9);exact hp0 h9;exact hq0 h9),h1,h2];rw [h3];rfl
 clear hp0 hq0 h1 h2 h3
 go_enter Tryz.func32,Tryz.ntmps32
 go_upto_region 1 with fail;obtain ⟨W0,hW0,hB0,hb⟩:=aT w 40 [.bool n,vS p,vS q];rw [← hW0];clear hW0;refine jp ?_;refine ja hB0 Tryz.underlying40 (by rfl) aC ?_;refine jn (rz) ?_;refine jv (.bool false) (fun X=>cK .eql 40 _ (.tmp 3) (.tmp 4) (by rfl) _ _ (by rfl) (by rfl) iC _ X ((eO X n false p q [] []).trans (by rw [HE.out]))) ?_;refine aQ hb hB0 fun X1 hX1 hb hB0=>?_;go_upto_region 3 with fail;refine jp ?_;refine jnf hB0 1 aG ?_;refine jv (.bool true) (cU _ _ _ _ (by rfl) p ([]:List UInt8) (by rfl) (by rfl) true (jJ HPN.out)) ?_;refine jm (.bool true) ?_;refine jnf hB0 2 aG ?_;refine jv (.bool true) (cU _ _ _ _ (by rfl) q ([]:List UInt8) (by rfl) (by rfl) true (jJ HQN.out)) ?_;refine jmm (.bool true) (.bool true) ?_;refine jnf hB0 1 aG ?_;refine jc (.bool true) (fun X hX hF=>(lC p X).mono fun e X' ⟨h1,h2⟩=>⟨by rw [h1,HPC.out],eH h2⟩) ?_;refine jmm (.bool true) (.bool true) ?_;refine jnf hB0 2 aG ?_;refine jc (.bool true) (fun X hX hF=>(lC q X).mono fun e X' ⟨h1,h2⟩=>⟨by rw [h1,HQC.out],eH h2⟩) ?_;refine jmm (.bool true) (.bool true) ?_;refine jnf hB0 1 aG ?_;refine jnf hB0 2 aG ?_;refine jc (st (be (Nat.gcd (val p) (val q)))) (fun X hX hF=>qVa p q X (by omega) (by omega)) ?_;refine jv (.bool true) (bH _ _ _ _ (by rfl) (be (Nat.gcd (val p) (val q))) ([1]:List UInt8) (by rfl) (by rfl) true (iY HG.out)) ?_
 refine jmm (.bool true) (.bool true) ?_;refine aQ hb hB0 fun X2 hX2 hb hB0=>?_
 go_wp2
 go_ret
 exact ⟨by rw [HV.out];rfl,hb⟩
theorem vVk (n:Bool) (p q:List UInt8) (w:World) (hp:p.length≤4194300) (hq:q.length≤4194300) (hp0:p≠[]) (hq0:q≠[]) (h1:cn p=true) (h2:cn q=true) (h3:¬ Nat.gcd (val p) (val q)=1):Calls Tryz.prog 32 #[.agg #[.bool n,vS p,vS q]] w fun e w'=>e=.returned (.bool (vd n p q))∧Since w w':=by
 have HE:Hid ((n == false && p == [] && q == [])=false):=by show _=_;rw [dJ hp0];simp
 have HPN:Hid (p≠[]):=hp0;have HQN:Hid (q≠[]):=hq0;have HPC:=Lib.hid h1;have HQC:=Lib.hid h2
 have HG:Hid (be (Nat.gcd (val p) (val q))≠[1]):=fun h9=>h3 (lK (h9.trans be_one.symm))
 have HV:Hid (vd n p q=false):=by
  show _=_
  unfold vd
  rw [if_neg (by rintro (h9|h9);exact hp0 h9;exact hq0 h9),h1,h2]
  simp [h3]
 clear hp0 hq0 h1 h2 h3
 go_enter Tryz.func32,Tryz.ntmps32
 go_upto_region 1 with fail;obtain ⟨W0,hW0,hB0,hb⟩:=aT w 40 [.bool n,vS p,vS q];rw [← hW0];clear hW0;refine jp ?_;refine ja hB0 Tryz.underlying40 (by rfl) aC ?_;refine jn (rz) ?_;refine jv (.bool false) (fun X=>cK .eql 40 _ (.tmp 3) (.tmp 4) (by rfl) _ _ (by rfl) (by rfl) iC _ X ((eO X n false p q [] []).trans (by rw [HE.out]))) ?_;refine aQ hb hB0 fun X1 hX1 hb hB0=>?_;go_upto_region 3 with fail;refine jp ?_;refine jnf hB0 1 aG ?_;refine jv (.bool true) (cU _ _ _ _ (by rfl) p ([]:List UInt8) (by rfl) (by rfl) true (jJ HPN.out)) ?_;refine jm (.bool true) ?_;refine jnf hB0 2 aG ?_;refine jv (.bool true) (cU _ _ _ _ (by rfl) q ([]:List UInt8) (by rfl) (by rfl) true (jJ HQN.out)) ?_;refine jmm (.bool true) (.bool true) ?_;refine jnf hB0 1 aG ?_;refine jc (.bool true) (fun X hX hF=>(lC p X).mono fun e X' ⟨h1,h2⟩=>⟨by rw [h1,HPC.out],eH h2⟩) ?_;refine jmm (.bool true) (.bool true) ?_;refine jnf hB0 2 aG ?_;refine jc (.bool true) (fun X hX hF=>(lC q X).mono fun e X' ⟨h1,h2⟩=>⟨by rw [h1,HQC.out],eH h2⟩) ?_;refine jmm (.bool true) (.bool true) ?_;refine jnf hB0 1 aG ?_;refine jnf hB0 2 aG ?_;refine jc (st (be (Nat.gcd (val p) (val q)))) (fun X hX hF=>qVa p q X (by omega) (by omega)) ?_;refine jv (.bool false) (bH _ _ _ _ (by rfl) (be (Nat.gcd (val p) (val q))) ([1]:List UInt8) (by rfl) (by rfl) false (dJ HG.out)) ?_
 refine jmm (.bool false) (.bool false) ?_;refine aQ hb hB0 fun X2 hX2 hb hB0=>?_
 go_wp2
 go_ret
 exact ⟨by rw [HV.out];rfl,hb⟩
theorem rH (n:Bool) (p q:List UInt8) (w:World) (hp:p.length≤4194300) (hq:q.length≤4194300):Calls Tryz.prog 32 #[.agg #[.bool n,vS p,vS q]] w fun e w'=>e=.returned (.bool (vd n p q))∧Since w w':=by
 by_cases hp0:p=[]
 ·rcases h:(n == false && p == [] && q == []) with _|_
  ·exact vVp n p q w hp hq h hp0
  ·exact vVq n p q w hp hq h
 ·by_cases hq0:q=[]
  ·exact vVo n p q w hp hq hp0 hq0
  ·rcases h1:cn p with _|_
   ·exact vVn n p q w hp hq hp0 hq0 h1
   ·rcases h2:cn q with _|_
    ·exact vVm n p q w hp hq hp0 hq0 h1 h2
    ·by_cases h3:Nat.gcd (val p) (val q)=1
     ·exact vVl n p q w hp hq hp0 hq0 h1 h2 h3
     ·exact vVk n p q w hp hq hp0 hq0 h1 h2 h3
theorem of0 (n:Bool) (p q:List UInt8) (w:World) (hp:p.length≤4194300) (hq:q.length≤4194300) (h0:p=[]):Calls Tryz.prog 56 #[.agg #[.bool n,vS p,vS q]] w fun e w'=>e=.returned (.agg #[.bool (rN (rq n p q)),vS (be (rq n p q).num.natAbs),vS (be (rq n p q).den)])∧Since w w':=by
 have HP0:Hid (p=[]):=h0
 have HX:Hid (rq n p q=0):=by
  show _=_
  unfold rq
  split
  ·rename_i h
   unfold vd at h
   rw [if_pos (.inl h0)] at h;simp only [Bool.and_eq_true,Bool.not_eq_true',beq_iff_eq] at h;obtain ⟨⟨rfl,rfl⟩,rfl⟩:=h
   rfl
  ·rfl
 clear h0
 go_enter Tryz.func56,Tryz.ntmps56
 go_upto_region 1 with fail;obtain ⟨W0,hW0,hB0,hB1,hb⟩:=cV w 40 102 [.bool n,vS p,vS q] [.bool false,.string ⟨#[]⟩,.string ⟨#[]⟩];rw [← hW0];clear hW0;refine jp ?_;refine jnf hB0 1 aG ?_;refine jv (.bool true) (bH _ _ _ _ (by rfl) p ([]:List UInt8) (by rfl) (by rfl) true (iY HP0.out)) ?_;refine jm (.bool true) ?_;refine jss ?_;refine js ?_;refine jm (.bool true) ?_;refine aN hb hB0 hB1 fun X1 hX1 hb hB0 hB1=>?_;go_upto_region 2 with fail;refine jq 1 ?_;refine jn (rt false [] ([1]:List UInt8)) ?_;refine aN hb hB0 hB1 fun X2 hX2 hb hB0 hB1=>?_;refine osb 102 2 11 (w.heap.size+1) 102 hB1 [.bool false,vS ([]:List UInt8),vS ([1]:List UInt8)] bS ?_;intro w9 hR9 hO9 hB9 hs9;have hb9:=hB9 _ _ hb (by omega);clear hO9 hB9
 go_wp2
 refine aU rfl rfl (by rfl) Tryz.underlying102 rfl hR9 bS ⟨by rw [HX.out];rfl,hb9⟩
theorem of1 (n:Bool) (p q:List UInt8) (w:World) (hp:p.length≤4194300) (hq:q.length≤4194300) (h0:p≠[]) (hv:vd n p q=false):Calls Tryz.prog 56 #[.agg #[.bool n,vS p,vS q]] w fun e w'=>e=.returned (.agg #[.bool (rN (rq n p q)),vS (be (rq n p q).num.natAbs),vS (be (rq n p q).den)])∧Since w w':=by
 have HP0:Hid (p≠[]):=h0;have HV:=Lib.hid hv;have HX:Hid (rq n p q=0):=oE hv;clear h0 hv
 go_enter Tryz.func56,Tryz.ntmps56
 go_upto_region 1 with fail;obtain ⟨W0,hW0,hB0,hB1,hb⟩:=cV w 40 102 [.bool n,vS p,vS q] [.bool false,.string ⟨#[]⟩,.string ⟨#[]⟩];rw [← hW0];clear hW0;refine jp ?_;refine jnf hB0 1 aG ?_;refine jv (.bool false) (bH _ _ _ _ (by rfl) p ([]:List UInt8) (by rfl) (by rfl) false (dJ HP0.out)) ?_;refine jm (.bool false) ?_;refine ja hB0 Tryz.underlying40 (by rfl) aC ?_;refine jc (.bool false) (fun X hX hF=>mo (rH n p q X hp hq) (by rw [HV.out])) ?_;refine jmm (.bool true) (.bool true) ?_;refine aN hb hB0 hB1 fun X1 hX1 hb hB0 hB1=>?_;go_upto_region 2 with fail;refine jq 1 ?_;refine jn (rt false [] ([1]:List UInt8)) ?_;refine aN hb hB0 hB1 fun X2 hX2 hb hB0 hB1=>?_;refine osb 102 2 11 (w.heap.size+1) 102 hB1 [.bool false,vS ([]:List UInt8),vS ([1]:List UInt8)] bS ?_;intro w9 hR9 hO9 hB9 hs9;have hb9:=hB9 _ _ hb (by omega);clear hO9 hB9
 go_wp2
 refine aU rfl rfl (by rfl) Tryz.underlying102 rfl hR9 bS ⟨by rw [HX.out];rfl,hb9⟩
theorem of2 (n:Bool) (p q:List UInt8) (w:World) (hp:p.length≤4194300) (hq:q.length≤4194300) (h0:p≠[]) (hv:vd n p q=true):Calls Tryz.prog 56 #[.agg #[.bool n,vS p,vS q]] w fun e w'=>e=.returned (.agg #[.bool (rN (rq n p q)),vS (be (rq n p q).num.natAbs),vS (be (rq n p q).den)])∧Since w w':=by
 have HP0:Hid (p≠[]):=h0;have HV:=Lib.hid hv;have hvv:=oF hv;have HN:=Lib.hid hvv.1;have HP1:Hid (be (rq n p q).num.natAbs=p):=hvv.2.1;have HD1:Hid (be (rq n p q).den=q):=hvv.2.2.2 h0;clear h0 hv hvv
 go_enter Tryz.func56,Tryz.ntmps56
 go_upto_region 1 with fail;obtain ⟨W0,hW0,hB0,hB1,hb⟩:=cV w 40 102 [.bool n,vS p,vS q] [.bool false,.string ⟨#[]⟩,.string ⟨#[]⟩];rw [← hW0];clear hW0;refine jp ?_;refine jnf hB0 1 aG ?_;refine jv (.bool false) (bH _ _ _ _ (by rfl) p ([]:List UInt8) (by rfl) (by rfl) false (dJ HP0.out)) ?_;refine jm (.bool false) ?_;refine ja hB0 Tryz.underlying40 (by rfl) aC ?_;refine jc (.bool true) (fun X hX hF=>mo (rH n p q X hp hq) (by rw [HV.out])) ?_;refine jmm (.bool false) (.bool false) ?_;refine aN hb hB0 hB1 fun X1 hX1 hb hB0 hB1=>?_;go_upto_region 3 with fail;refine jq 7 ?_;refine jnf hB0 0 aS ?_;refine jnf hB0 1 aG ?_;refine jnf hB0 2 aG ?_;refine jn (rt n p q) ?_;refine aN hb hB0 hB1 fun X2 hX2 hb hB0 hB1=>?_;refine osb 102 2 18 (w.heap.size+1) 102 hB1 [.bool n,vS p,vS q] bS ?_;intro w9 hR9 hO9 hB9 hs9;have hb9:=hB9 _ _ hb (by omega);clear hO9 hB9
 go_wp2
 refine aU rfl rfl (by rfl) Tryz.underlying102 rfl hR9 bS ⟨by rw [HN.out,HP1.out,HD1.out],hb9⟩
theorem ofQ (n:Bool) (p q:List UInt8) (w:World) (hp:p.length≤4194300) (hq:q.length≤4194300):Calls Tryz.prog 56 #[.agg #[.bool n,vS p,vS q]] w fun e w'=>e=.returned (.agg #[.bool (rN (rq n p q)),vS (be (rq n p q).num.natAbs),vS (be (rq n p q).den)])∧Since w w':=by
 by_cases h0:p=[]
 ·exact of0 n p q w hp hq h0
 ·rcases hv:vd n p q with _|_
  ·exact of1 n p q w hp hq h0 hv
  ·exact of2 n p q w hp hq h0 hv
theorem low0 (n:Bool) (p d:Nat) (w:World) (hd:0<d) (hp:(be p).length≤4194300) (hq:(be d).length≤4194300) (h0:p=0):Calls Tryz.prog 54 #[.agg #[.bool n,vS (be p),vS (be d)]] w fun e w'=>e=.returned (rbv (mkRat (sg n p) d))∧Since w w':=by
 have HE:Hid (be p=[]):=be_nil.2 h0
 have HX:Hid (rN (mkRat (sg n p) d)=false∧rP (mkRat (sg n p) d)=[]∧rD (mkRat (sg n p) d)=[]):=by show _∧_;rw [h0,iR];exact uP
 clear h0
 go_enter Tryz.func54,Tryz.ntmps54
 go_upto_region 1 with fail;obtain ⟨W0,hW0,hB0,hB1,hb⟩:=cV w 102 40 [.bool n,vS (be p),vS (be d)] [.bool false,.string ⟨#[]⟩,.string ⟨#[]⟩];rw [← hW0];clear hW0;refine jp ?_;refine jnf hB0 1 aG ?_;refine jv (.bool true) (bH _ _ _ _ (by rfl) (be p) ([]:List UInt8) (by rfl) (by rfl) true (iY HE.out)) ?_;refine aN hb hB0 hB1 fun X1 hX1 hb hB0 hB1=>?_;go_upto_region 2 with fail;refine jq 1 ?_;refine jn (rz) ?_;refine aN hb hB0 hB1 fun X2 hX2 hb hB0 hB1=>?_;refine osb 40 2 13 (w.heap.size+1) 40 hB1 [.bool false,.string ⟨#[]⟩,.string ⟨#[]⟩] aC ?_;intro w9 hR9 hO9 hB9 hs9;have hb9:=hB9 _ _ hb (by omega);clear hO9 hB9
 go_wp2
 refine aU rfl rfl (by rfl) Tryz.underlying40 rfl hR9 aC ⟨by rw [jS HX.out],hb9⟩
theorem low1 (n:Bool) (p d:Nat) (w:World) (hd:0<d) (hp:(be p).length≤4194300) (hq:(be d).length≤4194300) (h0:0<p):Calls Tryz.prog 54 #[.agg #[.bool n,vS (be p),vS (be d)]] w fun e w'=>e=.returned (rbv (mkRat (sg n p) d))∧Since w w':=by
 have HE:Hid (be p≠[]):=pR h0;have HX:=Lib.hid (qO n h0 hd);have HGP:Hid (0<Nat.gcd p d):=Nat.gcd_pos_of_pos_left d h0;have hgl:=gJ (Nat.gcd_le_left d h0);clear h0
 go_enter Tryz.func54,Tryz.ntmps54
 go_upto_region 1 with fail;obtain ⟨W0,hW0,hB0,hB1,hb⟩:=cV w 102 40 [.bool n,vS (be p),vS (be d)] [.bool false,.string ⟨#[]⟩,.string ⟨#[]⟩];rw [← hW0];clear hW0;refine jp ?_;refine jnf hB0 1 aG ?_;refine jv (.bool false) (bH _ _ _ _ (by rfl) (be p) ([]:List UInt8) (by rfl) (by rfl) false (dJ HE.out)) ?_;refine aN hb hB0 hB1 fun X1 hX1 hb hB0 hB1=>?_;go_upto_region 3 with fail;refine jp ?_;refine jnf hB0 1 aG ?_;refine jnf hB0 2 aG ?_;refine jc (st (be (Nat.gcd p d))) (fun X hX hF=>mo (qVa (be p) (be d) X (by omega) (by omega)) (by rw [aM,aM])) ?_;refine jm (st (be (Nat.gcd p d))) ?_;refine aN hb hB0 hB1 fun X2 hX2 hb hB0 hB1=>?_;go_upto_region 4 with fail;refine jp ?_;refine jnf hB0 1 aG ?_;refine jm (st (be (Nat.gcd p d))) ?_;refine jc (.tuple #[st (be (p / (Nat.gcd p d))),st (be (p % (Nat.gcd p d))),vI 0]) (fun X hX hF=>mo (vQt (be p) (be (Nat.gcd p d)) X (by omega) (by omega) (by rw [aM];exact HGP.out)) (by simp only [aM])) ?_;refine aX (.tuple #[st (be (p / (Nat.gcd p d))),st (be (p % (Nat.gcd p d))),vI 0]) (st (be (p / (Nat.gcd p d)))) (st (be (p % (Nat.gcd p d)))) ?_;refine aX (vI 0) (st (be (p / (Nat.gcd p d)))) (st (be (p % (Nat.gcd p d)))) ?_;refine jm (vI 0) ?_;refine aN hb hB0 hB1 fun X3 hX3 hb hB0 hB1=>?_;go_upto_region 5 with fail;refine jp ?_;refine jnf hB0 2 aG ?_;refine jm (st (be (Nat.gcd p d))) ?_;refine jc (.tuple #[st (be (d / (Nat.gcd p d))),st (be (d % (Nat.gcd p d))),vI 0]) (fun X hX hF=>mo (vQt (be d) (be (Nat.gcd p d)) X (by omega) (by omega) (by rw [aM];exact HGP.out)) (by simp only [aM])) ?_
 refine aX (.tuple #[st (be (d / (Nat.gcd p d))),st (be (d % (Nat.gcd p d))),vI 0]) (st (be (d / (Nat.gcd p d)))) (st (be (d % (Nat.gcd p d)))) ?_;refine aX (vI 0) (st (be (d / (Nat.gcd p d)))) (st (be (d % (Nat.gcd p d)))) ?_;refine jm (vI 0) ?_;refine aN hb hB0 hB1 fun X4 hX4 hb hB0 hB1=>?_;go_upto_region 6 with fail;refine jq 5 ?_;refine jnf hB0 0 aS ?_;refine eE (st (be (p / (Nat.gcd p d)))) (st (be (d / (Nat.gcd p d)))) (rt n (be (p / (Nat.gcd p d))) (be (d / (Nat.gcd p d)))) ?_;refine aN hb hB0 hB1 fun X5 hX5 hb hB0 hB1=>?_;refine osb 40 2 39 (w.heap.size+1) 40 hB1 [.bool n,.string ⟨(be (p / (Nat.gcd p d))).toArray⟩,.string ⟨(be (d / (Nat.gcd p d))).toArray⟩] aC ?_;intro w9 hR9 hO9 hB9 hs9;have hb9:=hB9 _ _ hb (by omega);clear hO9 hB9
 go_wp2
 refine aU rfl rfl (by rfl) Tryz.underlying40 rfl hR9 aC ⟨by rw [jS HX.out],hb9⟩
theorem vYb (x:Rat) (B:Nat) (v:Value) (w:World) (h:IsF x B v w) (hB:B≤4194300):Calls Tryz.prog 54 #[v] w fun e w'=>e=.returned (rbv x)∧Since w w':=by
 obtain ⟨n,p,d,rfl,hd,rfl,hp,hq⟩:=h
 rcases Nat.eq_zero_or_pos p with h0|h0
 ·exact low0 n p d w hd (by omega) (by omega) h0
 ·exact low1 n p d w hd (by omega) (by omega) h0
theorem yH (p d q c B B':Nat) (w:World) (hp:(be p).length≤B) (hd:(be d).length≤B) (hq:(be q).length≤B') (he:(be c).length≤B') (hB:B+B'≤4194200) :Calls Tryz.prog 78 #[.agg #[.bool true,vS (be p),vS (be d)],.agg #[.bool true,vS (be q),vS (be c)]] w fun e w'=>e=.returned (.agg #[.bool true,vS (be (p * c+q * d)),vS (be (d * c))])∧Since w w':=by
 have lpe:=bW hp he;have lqd:=bW hq hd;have lde:=bW hd he;have lsum:=gK lpe lqd
 go_enter Tryz.func78,Tryz.ntmps78
 go_upto_region 1 with fail;obtain ⟨W0,hW0,hB0,hB1,hB2,hb⟩:=dO w 102 102 102 [.bool true,vS (be p),vS (be d)] [.bool true,vS (be q),vS (be c)] [.bool false,.string ⟨#[]⟩,.string ⟨#[]⟩];rw [← hW0];clear hW0;refine jd ?_;refine jnf hB0 1 aG ?_;refine jnf hB1 2 aG ?_;refine jc (st (be (p * c))) (fun X hX hF=>mo (eF (be p) (be c) X (by omega) (by omega)) (by rw [aM,aM])) ?_;refine jnf hB1 1 aG ?_;refine jnf hB0 2 aG ?_;refine jc (st (be (q * d))) (fun X hX hF=>mo (eF (be q) (be d) X (by omega) (by omega)) (by rw [aM,aM])) ?_;refine jnf hB0 2 aG ?_;refine jnf hB1 2 aG ?_;refine jc (st (be (d * c))) (fun X hX hF=>mo (eF (be d) (be c) X (by omega) (by omega)) (by rw [aM,aM])) ?_;refine aX (st (be (p * c))) (st (be (q * d))) (st (be (d * c))) ?_;refine bE hb hB0 hB1 hB2 fun X1 hX1 hb hB0 hB1 hB2=>?_;go_upto_region 2 with fail;refine jp ?_;refine jnf hB0 0 aS ?_;refine jnf hB1 0 aS ?_;refine jm (.bool true) ?_;refine bE hb hB0 hB1 hB2 fun X2 hX2 hb hB0 hB1 hB2=>?_;go_upto_region 3 with fail;refine bD [] (by kernel_rfl) (by kernel_rfl) (by kernel_rfl) rfl (aH) ?_;simp only [its,List.dropLast,Nat.zero_add,Nat.reduceAdd];refine jnf hB0 0 aS ?_;refine jmm (st (be (p * c))) (st (be (q * d))) ?_;refine jc (st (be (p * c+q * d))) (fun X hX hF=>mo (vQu (be (p * c)) (be (q * d)) X (by omega) (by omega)) (by rw [aM,aM])) ?_
 refine jmn (st (be (d * c))) (rt true (be (p * c+q * d)) (be (d * c))) ?_;refine bE hb hB0 hB1 hB2 fun X3 hX3 hb hB0 hB1 hB2=>?_;refine osb 102 4 36 (w.heap.size+2) 102 hB2 [.bool true,vS (be (p * c+q * d)),vS (be (d * c))] bS ?_;intro w9 hR9 hO9 hB9 hs9;have hb9:=hB9 _ _ hb (by omega);clear hO9 hB9
 go_wp2
 refine aU rfl rfl (by rfl) Tryz.underlying102 rfl hR9 bS ⟨rfl,hb9⟩
theorem uO (p d q c B B':Nat) (w:World) (hp:(be p).length≤B) (hd:(be d).length≤B) (hq:(be q).length≤B') (he:(be c).length≤B') (hB:B+B'≤4194200) :Calls Tryz.prog 78 #[.agg #[.bool false,vS (be p),vS (be d)],.agg #[.bool false,vS (be q),vS (be c)]] w fun e w'=>e=.returned (.agg #[.bool false,vS (be (p * c+q * d)),vS (be (d * c))])∧Since w w':=by
 have lpe:=bW hp he;have lqd:=bW hq hd;have lde:=bW hd he;have lsum:=gK lpe lqd
 go_enter Tryz.func78,Tryz.ntmps78
 go_upto_region 1 with fail;obtain ⟨W0,hW0,hB0,hB1,hB2,hb⟩:=dO w 102 102 102 [.bool false,vS (be p),vS (be d)] [.bool false,vS (be q),vS (be c)] [.bool false,.string ⟨#[]⟩,.string ⟨#[]⟩];rw [← hW0];clear hW0;refine jd ?_;refine jnf hB0 1 aG ?_;refine jnf hB1 2 aG ?_;refine jc (st (be (p * c))) (fun X hX hF=>mo (eF (be p) (be c) X (by omega) (by omega)) (by rw [aM,aM])) ?_;refine jnf hB1 1 aG ?_;refine jnf hB0 2 aG ?_;refine jc (st (be (q * d))) (fun X hX hF=>mo (eF (be q) (be d) X (by omega) (by omega)) (by rw [aM,aM])) ?_;refine jnf hB0 2 aG ?_;refine jnf hB1 2 aG ?_;refine jc (st (be (d * c))) (fun X hX hF=>mo (eF (be d) (be c) X (by omega) (by omega)) (by rw [aM,aM])) ?_;refine aX (st (be (p * c))) (st (be (q * d))) (st (be (d * c))) ?_;refine bE hb hB0 hB1 hB2 fun X1 hX1 hb hB0 hB1 hB2=>?_;go_upto_region 2 with fail;refine jp ?_;refine jnf hB0 0 aS ?_;refine jnf hB1 0 aS ?_;refine jm (.bool true) ?_;refine bE hb hB0 hB1 hB2 fun X2 hX2 hb hB0 hB1 hB2=>?_;go_upto_region 3 with fail;refine bD [] (by kernel_rfl) (by kernel_rfl) (by kernel_rfl) rfl (aH) ?_;simp only [its,List.dropLast,Nat.zero_add,Nat.reduceAdd];refine jnf hB0 0 aS ?_;refine jmm (st (be (p * c))) (st (be (q * d))) ?_;refine jc (st (be (p * c+q * d))) (fun X hX hF=>mo (vQu (be (p * c)) (be (q * d)) X (by omega) (by omega)) (by rw [aM,aM])) ?_
 refine jmn (st (be (d * c))) (rt false (be (p * c+q * d)) (be (d * c))) ?_;refine bE hb hB0 hB1 hB2 fun X3 hX3 hb hB0 hB1 hB2=>?_;refine osb 102 4 36 (w.heap.size+2) 102 hB2 [.bool false,vS (be (p * c+q * d)),vS (be (d * c))] bS ?_;intro w9 hR9 hO9 hB9 hs9;have hb9:=hB9 _ _ hb (by omega);clear hO9 hB9
 go_wp2
 refine aU rfl rfl (by rfl) Tryz.underlying102 rfl hR9 bS ⟨rfl,hb9⟩
theorem rL (p d q c B B':Nat) (w:World) (hp:(be p).length≤B) (hd:(be d).length≤B) (hq:(be q).length≤B') (he:(be c).length≤B') (hB:B+B'≤4194200) (hlt:p * c<q * d):Calls Tryz.prog 78 #[.agg #[.bool true,vS (be p),vS (be d)],.agg #[.bool false,vS (be q),vS (be c)]] w fun e w'=>e=.returned (.agg #[.bool false,vS (be (q * d-p * c)),vS (be (d * c))])∧Since w w':=by
 have lpe:=bW hp he;have lqd:=bW hq hd;have lde:=bW hd he;have lsum:=gK lpe lqd;have lsub:=gC (Nat.sub_le (q * d) (p * c)) lqd
 go_enter Tryz.func78,Tryz.ntmps78
 go_upto_region 1 with fail;obtain ⟨W0,hW0,hB0,hB1,hB2,hb⟩:=dO w 102 102 102 [.bool true,vS (be p),vS (be d)] [.bool false,vS (be q),vS (be c)] [.bool false,.string ⟨#[]⟩,.string ⟨#[]⟩];rw [← hW0];clear hW0;refine jd ?_;refine jnf hB0 1 aG ?_;refine jnf hB1 2 aG ?_;refine jc (st (be (p * c))) (fun X hX hF=>mo (eF (be p) (be c) X (by omega) (by omega)) (by rw [aM,aM])) ?_;refine jnf hB1 1 aG ?_;refine jnf hB0 2 aG ?_;refine jc (st (be (q * d))) (fun X hX hF=>mo (eF (be q) (be d) X (by omega) (by omega)) (by rw [aM,aM])) ?_;refine jnf hB0 2 aG ?_;refine jnf hB1 2 aG ?_;refine jc (st (be (d * c))) (fun X hX hF=>mo (eF (be d) (be c) X (by omega) (by omega)) (by rw [aM,aM])) ?_;refine aX (st (be (p * c))) (st (be (q * d))) (st (be (d * c))) ?_;refine bE hb hB0 hB1 hB2 fun X1 hX1 hb hB0 hB1 hB2=>?_;go_upto_region 2 with fail;refine jp ?_;refine jnf hB0 0 aS ?_;refine jnf hB1 0 aS ?_;refine jm (.bool false) ?_;refine bE hb hB0 hB1 hB2 fun X2 hX2 hb hB0 hB1 hB2=>?_;go_upto_region 4 with fail;refine jp ?_;refine jmm (st (be (p * c))) (st (be (q * d))) ?_;refine jc (vI (bX ((p * c:Nat):Int) ((q * d:Nat):Int))) (fun X hX hF=>mo (wR (be (p * c)) (be (q * d)) X (by omega) (by omega)) (by rw [aM,aM])) ?_;refine jv (.bool true) (dZ _ _ _ _ (by rfl) .i64 (bX ((p * c:Nat):Int) ((q * d:Nat):Int)) 0 (by rfl) (by rfl) true (by rw [eB (by omega)];rfl)) ?_
 refine bE hb hB0 hB1 hB2 fun X3 hX3 hb hB0 hB1 hB2=>?_;go_upto_region 5 with fail;refine bD [] (by kernel_rfl) (by kernel_rfl) (by kernel_rfl) rfl (aH) ?_;simp only [its,List.dropLast,Nat.zero_add,Nat.reduceAdd];refine jmm (st (be (q * d))) (st (be (p * c))) ?_;refine jnf hB1 0 aS ?_;refine eE (st (be (q * d))) (st (be (p * c))) (vP w.heap.size 0) ?_;refine bE hb hB0 hB1 hB2 fun X4 hX4 hb hB0 hB1 hB2=>?_;refine fN rfl w.heap.size 0 102 _ hB0 (.bool false) (by simp) (fun X u h1 h2=>eI _ _ (by rfl) _ _ (by rfl) (by rfl) u X h1 h2) ?_;intro w5 hR5 hO5 hB5;have hb:=hB5 _ _ hb (by omega);have hB1:=hO5 _ _ _ (by omega) hB1;have hB2:=hO5 _ _ _ (by omega) hB2;have hB0:=hR5;clear hR5 hO5 hB5;go_upto_region 6 with fail;refine jp ?_;refine jmm (st (be (q * d))) (st (be (p * c))) ?_;refine jc (.tuple #[st (be (q * d-p * c)),vI 0]) (fun X hX hF=>mo (wP (be (q * d)) (be (p * c)) X (by omega) (by omega) (by rw [aM,aM];omega)) (by rw [aM,aM])) ?_;refine aX (.tuple #[st (be (q * d-p * c)),vI 0]) (st (be (q * d-p * c))) (vI 0) ?_;refine jmm (st (be (q * d-p * c))) (vI 0) ?_;refine bE hb hB0 hB1 hB2 fun X5 hX5 hb hB0 hB1 hB2=>?_;go_upto_region 7 with fail;refine jq 5 ?_;refine jnf hB0 0 aS ?_;refine eE (st (be (q * d-p * c))) (st (be (d * c))) (rt false (be (q * d-p * c)) (be (d * c))) ?_;refine bE hb hB0 hB1 hB2 fun X6 hX6 hb hB0 hB1 hB2=>?_
 refine osb 102 4 56 (w.heap.size+2) 102 hB2 [.bool false,vS (be (q * d-p * c)),vS (be (d * c))] bS ?_;intro w9 hR9 hO9 hB9 hs9;have hb9:=hB9 _ _ hb (by omega);clear hO9 hB9
 go_wp2
 refine aU rfl rfl (by rfl) Tryz.underlying102 rfl hR9 bS ⟨rfl,hb9⟩
theorem rM (p d q c B B':Nat) (w:World) (hp:(be p).length≤B) (hd:(be d).length≤B) (hq:(be q).length≤B') (he:(be c).length≤B') (hB:B+B'≤4194200) (hge:q * d≤p * c):Calls Tryz.prog 78 #[.agg #[.bool true,vS (be p),vS (be d)],.agg #[.bool false,vS (be q),vS (be c)]] w fun e w'=>e=.returned (.agg #[.bool true,vS (be (p * c-q * d)),vS (be (d * c))])∧Since w w':=by
 have lpe:=bW hp he;have lqd:=bW hq hd;have lde:=bW hd he;have lsum:=gK lpe lqd;have lsub:=gC (Nat.sub_le (p * c) (q * d)) lpe
 go_enter Tryz.func78,Tryz.ntmps78
 go_upto_region 1 with fail;obtain ⟨W0,hW0,hB0,hB1,hB2,hb⟩:=dO w 102 102 102 [.bool true,vS (be p),vS (be d)] [.bool false,vS (be q),vS (be c)] [.bool false,.string ⟨#[]⟩,.string ⟨#[]⟩];rw [← hW0];clear hW0;refine jd ?_;refine jnf hB0 1 aG ?_;refine jnf hB1 2 aG ?_;refine jc (st (be (p * c))) (fun X hX hF=>mo (eF (be p) (be c) X (by omega) (by omega)) (by rw [aM,aM])) ?_;refine jnf hB1 1 aG ?_;refine jnf hB0 2 aG ?_;refine jc (st (be (q * d))) (fun X hX hF=>mo (eF (be q) (be d) X (by omega) (by omega)) (by rw [aM,aM])) ?_;refine jnf hB0 2 aG ?_;refine jnf hB1 2 aG ?_;refine jc (st (be (d * c))) (fun X hX hF=>mo (eF (be d) (be c) X (by omega) (by omega)) (by rw [aM,aM])) ?_;refine aX (st (be (p * c))) (st (be (q * d))) (st (be (d * c))) ?_;refine bE hb hB0 hB1 hB2 fun X1 hX1 hb hB0 hB1 hB2=>?_;go_upto_region 2 with fail;refine jp ?_;refine jnf hB0 0 aS ?_;refine jnf hB1 0 aS ?_;refine jm (.bool false) ?_;refine bE hb hB0 hB1 hB2 fun X2 hX2 hb hB0 hB1 hB2=>?_;go_upto_region 4 with fail;refine jp ?_;refine jmm (st (be (p * c))) (st (be (q * d))) ?_;refine jc (vI (bX ((p * c:Nat):Int) ((q * d:Nat):Int))) (fun X hX hF=>mo (wR (be (p * c)) (be (q * d)) X (by omega) (by omega)) (by rw [aM,aM])) ?_;refine bI (bX ((p * c:Nat):Int) ((q * d:Nat):Int)) 0 (by unfold bX;rw [if_neg (by omega)];split <;> omega) ?_
 refine bE hb hB0 hB1 hB2 fun X3 hX3 hb hB0 hB1 hB2=>?_;go_upto_region 6 with fail;refine jp ?_;refine jmm (st (be (p * c))) (st (be (q * d))) ?_;refine jc (.tuple #[st (be (p * c-q * d)),vI 0]) (fun X hX hF=>mo (wP (be (p * c)) (be (q * d)) X (by omega) (by omega) (by rw [aM,aM];omega)) (by rw [aM,aM])) ?_;refine aX (.tuple #[st (be (p * c-q * d)),vI 0]) (st (be (p * c-q * d))) (vI 0) ?_;refine jmm (st (be (p * c-q * d))) (vI 0) ?_;refine bE hb hB0 hB1 hB2 fun X4 hX4 hb hB0 hB1 hB2=>?_;go_upto_region 7 with fail;refine jq 5 ?_;refine jnf hB0 0 aS ?_;refine eE (st (be (p * c-q * d))) (st (be (d * c))) (rt true (be (p * c-q * d)) (be (d * c))) ?_;refine bE hb hB0 hB1 hB2 fun X5 hX5 hb hB0 hB1 hB2=>?_;refine osb 102 4 56 (w.heap.size+2) 102 hB2 [.bool true,vS (be (p * c-q * d)),vS (be (d * c))] bS ?_;intro w9 hR9 hO9 hB9 hs9;have hb9:=hB9 _ _ hb (by omega);clear hO9 hB9
 go_wp2
 refine aU rfl rfl (by rfl) Tryz.underlying102 rfl hR9 bS ⟨rfl,hb9⟩
theorem pW (p d q c B B':Nat) (w:World) (hp:(be p).length≤B) (hd:(be d).length≤B) (hq:(be q).length≤B') (he:(be c).length≤B') (hB:B+B'≤4194200) (hlt:p * c<q * d):Calls Tryz.prog 78 #[.agg #[.bool false,vS (be p),vS (be d)],.agg #[.bool true,vS (be q),vS (be c)]] w fun e w'=>e=.returned (.agg #[.bool true,vS (be (q * d-p * c)),vS (be (d * c))])∧Since w w':=by
 have lpe:=bW hp he;have lqd:=bW hq hd;have lde:=bW hd he;have lsum:=gK lpe lqd;have lsub:=gC (Nat.sub_le (q * d) (p * c)) lqd
 go_enter Tryz.func78,Tryz.ntmps78
 go_upto_region 1 with fail;obtain ⟨W0,hW0,hB0,hB1,hB2,hb⟩:=dO w 102 102 102 [.bool false,vS (be p),vS (be d)] [.bool true,vS (be q),vS (be c)] [.bool false,.string ⟨#[]⟩,.string ⟨#[]⟩];rw [← hW0];clear hW0;refine jd ?_;refine jnf hB0 1 aG ?_;refine jnf hB1 2 aG ?_;refine jc (st (be (p * c))) (fun X hX hF=>mo (eF (be p) (be c) X (by omega) (by omega)) (by rw [aM,aM])) ?_;refine jnf hB1 1 aG ?_;refine jnf hB0 2 aG ?_;refine jc (st (be (q * d))) (fun X hX hF=>mo (eF (be q) (be d) X (by omega) (by omega)) (by rw [aM,aM])) ?_;refine jnf hB0 2 aG ?_;refine jnf hB1 2 aG ?_;refine jc (st (be (d * c))) (fun X hX hF=>mo (eF (be d) (be c) X (by omega) (by omega)) (by rw [aM,aM])) ?_;refine aX (st (be (p * c))) (st (be (q * d))) (st (be (d * c))) ?_;refine bE hb hB0 hB1 hB2 fun X1 hX1 hb hB0 hB1 hB2=>?_;go_upto_region 2 with fail;refine jp ?_;refine jnf hB0 0 aS ?_;refine jnf hB1 0 aS ?_;refine jm (.bool false) ?_;refine bE hb hB0 hB1 hB2 fun X2 hX2 hb hB0 hB1 hB2=>?_;go_upto_region 4 with fail;refine jp ?_;refine jmm (st (be (p * c))) (st (be (q * d))) ?_;refine jc (vI (bX ((p * c:Nat):Int) ((q * d:Nat):Int))) (fun X hX hF=>mo (wR (be (p * c)) (be (q * d)) X (by omega) (by omega)) (by rw [aM,aM])) ?_;refine jv (.bool true) (dZ _ _ _ _ (by rfl) .i64 (bX ((p * c:Nat):Int) ((q * d:Nat):Int)) 0 (by rfl) (by rfl) true (by rw [eB (by omega)];rfl)) ?_
 refine bE hb hB0 hB1 hB2 fun X3 hX3 hb hB0 hB1 hB2=>?_;go_upto_region 5 with fail;refine bD [] (by kernel_rfl) (by kernel_rfl) (by kernel_rfl) rfl (aH) ?_;simp only [its,List.dropLast,Nat.zero_add,Nat.reduceAdd];refine jmm (st (be (q * d))) (st (be (p * c))) ?_;refine jnf hB1 0 aS ?_;refine eE (st (be (q * d))) (st (be (p * c))) (vP w.heap.size 0) ?_;refine bE hb hB0 hB1 hB2 fun X4 hX4 hb hB0 hB1 hB2=>?_;refine fN rfl w.heap.size 0 102 _ hB0 (.bool true) (by simp) (fun X u h1 h2=>eI _ _ (by rfl) _ _ (by rfl) (by rfl) u X h1 h2) ?_;intro w5 hR5 hO5 hB5;have hb:=hB5 _ _ hb (by omega);have hB1:=hO5 _ _ _ (by omega) hB1;have hB2:=hO5 _ _ _ (by omega) hB2;have hB0:=hR5;clear hR5 hO5 hB5;go_upto_region 6 with fail;refine jp ?_;refine jmm (st (be (q * d))) (st (be (p * c))) ?_;refine jc (.tuple #[st (be (q * d-p * c)),vI 0]) (fun X hX hF=>mo (wP (be (q * d)) (be (p * c)) X (by omega) (by omega) (by rw [aM,aM];omega)) (by rw [aM,aM])) ?_;refine aX (.tuple #[st (be (q * d-p * c)),vI 0]) (st (be (q * d-p * c))) (vI 0) ?_;refine jmm (st (be (q * d-p * c))) (vI 0) ?_;refine bE hb hB0 hB1 hB2 fun X5 hX5 hb hB0 hB1 hB2=>?_;go_upto_region 7 with fail;refine jq 5 ?_;refine jnf hB0 0 aS ?_;refine eE (st (be (q * d-p * c))) (st (be (d * c))) (rt true (be (q * d-p * c)) (be (d * c))) ?_;refine bE hb hB0 hB1 hB2 fun X6 hX6 hb hB0 hB1 hB2=>?_
 refine osb 102 4 56 (w.heap.size+2) 102 hB2 [.bool true,vS (be (q * d-p * c)),vS (be (d * c))] bS ?_;intro w9 hR9 hO9 hB9 hs9;have hb9:=hB9 _ _ hb (by omega);clear hO9 hB9
 go_wp2
 refine aU rfl rfl (by rfl) Tryz.underlying102 rfl hR9 bS ⟨rfl,hb9⟩
theorem pY (p d q c B B':Nat) (w:World) (hp:(be p).length≤B) (hd:(be d).length≤B) (hq:(be q).length≤B') (he:(be c).length≤B') (hB:B+B'≤4194200) (hge:q * d≤p * c):Calls Tryz.prog 78 #[.agg #[.bool false,vS (be p),vS (be d)],.agg #[.bool true,vS (be q),vS (be c)]] w fun e w'=>e=.returned (.agg #[.bool false,vS (be (p * c-q * d)),vS (be (d * c))])∧Since w w':=by
 have lpe:=bW hp he;have lqd:=bW hq hd;have lde:=bW hd he;have lsum:=gK lpe lqd;have lsub:=gC (Nat.sub_le (p * c) (q * d)) lpe
 go_enter Tryz.func78,Tryz.ntmps78
 go_upto_region 1 with fail;obtain ⟨W0,hW0,hB0,hB1,hB2,hb⟩:=dO w 102 102 102 [.bool false,vS (be p),vS (be d)] [.bool true,vS (be q),vS (be c)] [.bool false,.string ⟨#[]⟩,.string ⟨#[]⟩];rw [← hW0];clear hW0;refine jd ?_;refine jnf hB0 1 aG ?_;refine jnf hB1 2 aG ?_;refine jc (st (be (p * c))) (fun X hX hF=>mo (eF (be p) (be c) X (by omega) (by omega)) (by rw [aM,aM])) ?_;refine jnf hB1 1 aG ?_;refine jnf hB0 2 aG ?_;refine jc (st (be (q * d))) (fun X hX hF=>mo (eF (be q) (be d) X (by omega) (by omega)) (by rw [aM,aM])) ?_;refine jnf hB0 2 aG ?_;refine jnf hB1 2 aG ?_;refine jc (st (be (d * c))) (fun X hX hF=>mo (eF (be d) (be c) X (by omega) (by omega)) (by rw [aM,aM])) ?_;refine aX (st (be (p * c))) (st (be (q * d))) (st (be (d * c))) ?_;refine bE hb hB0 hB1 hB2 fun X1 hX1 hb hB0 hB1 hB2=>?_;go_upto_region 2 with fail;refine jp ?_;refine jnf hB0 0 aS ?_;refine jnf hB1 0 aS ?_;refine jm (.bool false) ?_;refine bE hb hB0 hB1 hB2 fun X2 hX2 hb hB0 hB1 hB2=>?_;go_upto_region 4 with fail;refine jp ?_;refine jmm (st (be (p * c))) (st (be (q * d))) ?_;refine jc (vI (bX ((p * c:Nat):Int) ((q * d:Nat):Int))) (fun X hX hF=>mo (wR (be (p * c)) (be (q * d)) X (by omega) (by omega)) (by rw [aM,aM])) ?_;refine bI (bX ((p * c:Nat):Int) ((q * d:Nat):Int)) 0 (by unfold bX;rw [if_neg (by omega)];split <;> omega) ?_
 refine bE hb hB0 hB1 hB2 fun X3 hX3 hb hB0 hB1 hB2=>?_;go_upto_region 6 with fail;refine jp ?_;refine jmm (st (be (p * c))) (st (be (q * d))) ?_;refine jc (.tuple #[st (be (p * c-q * d)),vI 0]) (fun X hX hF=>mo (wP (be (p * c)) (be (q * d)) X (by omega) (by omega) (by rw [aM,aM];omega)) (by rw [aM,aM])) ?_;refine aX (.tuple #[st (be (p * c-q * d)),vI 0]) (st (be (p * c-q * d))) (vI 0) ?_;refine jmm (st (be (p * c-q * d))) (vI 0) ?_;refine bE hb hB0 hB1 hB2 fun X4 hX4 hb hB0 hB1 hB2=>?_;go_upto_region 7 with fail;refine jq 5 ?_;refine jnf hB0 0 aS ?_;refine eE (st (be (p * c-q * d))) (st (be (d * c))) (rt false (be (p * c-q * d)) (be (d * c))) ?_;refine bE hb hB0 hB1 hB2 fun X5 hX5 hb hB0 hB1 hB2=>?_;refine osb 102 4 56 (w.heap.size+2) 102 hB2 [.bool false,vS (be (p * c-q * d)),vS (be (d * c))] bS ?_;intro w9 hR9 hO9 hB9 hs9;have hb9:=hB9 _ _ hb (by omega);clear hO9 hB9
 go_wp2
 refine aU rfl rfl (by rfl) Tryz.underlying102 rfl hR9 bS ⟨rfl,hb9⟩
theorem vQp (x y:Rat) (B B':Nat) (v v':Value) (w:World) (h:IsF x B v w) (h':IsF y B' v' w) (hB:B+B'≤4194200):Calls Tryz.prog 78 #[v,v'] w fun e w'=>∃ u,e=.returned u∧IsF (x+y) (B+B'+1) u w'∧Since w w':=by
 obtain ⟨m,p,d,rfl,hd,rfl,hp,hq⟩:=h;obtain ⟨n,q,c,rfl,he,rfl,hp',hq'⟩:=h';have hde:0<d * c:=Nat.mul_pos hd he;have lpe:=bW hp hq';have lqd:=bW hp' hq;have lde:=bW hq hq';have lsum:=gK lpe lqd;have key:=vW m n p q hd he
 have mk:∀ (s:Bool) (t:Nat),(be t).length≤B+B'+1→sg m (p * c)+sg n (q * d)=sg s t→IsF (mkRat (sg m p) d+mkRat (sg n q) c) (B+B'+1) (fv s t (d * c)) w :=
  fun s t ht hs=>⟨s,t,d * c,rfl,hde,by rw [key,hs],ht,by omega⟩
 have fin:∀ (s:Bool) (t:Nat),(be t).length≤B+B'+1→sg m (p * c)+sg n (q * d)=sg s t→Calls Tryz.prog 78 #[fv m p d,fv n q c] w (fun e' w'=>e'=.returned (fv s t (d * c))∧Since w w') →
   Calls Tryz.prog 78 #[fv m p d,fv n q c] w fun e' w'=>∃ u,e'=.returned u∧IsF (mkRat (sg m p) d+mkRat (sg n q) c) (B+B'+1) u w'∧Since w w' :=
  fun s t ht hs hc=>hc.mono fun e' w' ⟨h1,h2⟩=>⟨_,h1,mk s t ht hs,h2⟩
 have l1:(be (p * c+q * d)).length≤B+B'+1:=by omega
 have l2:=gC (Nat.sub_le (p * c) (q * d)) lpe;have l3:=gC (Nat.sub_le (q * d) (p * c)) lqd
 rcases m with _|_ <;> rcases n with _|_
 ·exact fin false _ l1 (fV _ _ _) (uO p d q c B B' w hp hq hp' hq' hB)
 ·rcases Nat.lt_or_ge (p * c) (q * d) with h|h
  ·exact fin true _ (by omega) (iN (by decide) h) (pW p d q c B B' w hp hq hp' hq' hB h)
  ·exact fin false _ (by omega) (iO (by decide) h) (pY p d q c B B' w hp hq hp' hq' hB h)
 ·rcases Nat.lt_or_ge (p * c) (q * d) with h|h
  ·exact fin false _ (by omega) (iN (by decide) h) (rL p d q c B B' w hp hq hp' hq' hB h)
  ·exact fin true _ (by omega) (iO (by decide) h) (rM p d q c B B' w hp hq hp' hq' hB h)
 ·exact fin true _ l1 (fV _ _ _) (yH p d q c B B' w hp hq hp' hq' hB)
end Go.Proofs.YtjkfchehkpmhkaaGreatDoor

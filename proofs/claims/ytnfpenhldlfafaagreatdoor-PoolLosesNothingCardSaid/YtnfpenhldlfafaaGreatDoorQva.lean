/- rat: Valid, of. -/
import Derived.Test.YtnfpenhldlfafaaGreatDoorRw
import Derived.Test.YtnfpenhldlfafaaGreatDoorMF
set_option linter.unusedSimpArgs false
set_option linter.unusedVariables false
set_option maxRecDepth 100000
set_option maxHeartbeats 1600000
namespace Go.Proofs.YtnfpenhldlfafaaGreatDoor
open Go.RowKit
theorem fJ:Tryz.prog.eqGuardType Tryz.prog.depth 23=false:=by kernel_rfl
theorem qXf (n:Bool) (p q:List UInt8) (w:World) (hp:p.length≤4194300) (hq:q.length≤4194300) (h:(n == false && p == [] && q == [])=true):Calls Tryz.prog 57 #[.agg #[.bool n,vS p,vS q]] w fun e w'=>e=.returned (.bool (vd n p q))∧Since w w':=by
 have HE:=Lib.hid h
 have HV:Hid (vd n p q=true):=by
  show _=_
  simp only [Bool.and_eq_true,beq_iff_eq] at h;obtain ⟨⟨rfl,rfl⟩,rfl⟩:=h
  rfl
 clear h
 go_enter Tryz.func57,Tryz.ntmps57
 go_upto_region 1 with fail;obtain ⟨W0,hW0,hB0,hb⟩:=aZ w 23 [.bool n,vS p,vS q];rw [← hW0];clear hW0;refine jp ?_;refine ja hB0 Tryz.underlying23 (by rfl) aB ?_;refine jn (rz) ?_;refine jv (.bool true) (fun X=>cH .eql 23 _ (.tmp 3) (.tmp 4) (by rfl) _ _ (by rfl) (by rfl) fJ _ X ((dL X n false p q [] []).trans (by rw [HE.out]))) ?_;refine bZ hb hB0 fun X1 hX1 hb hB0=>?_
 go_wp2
 go_ret
 exact ⟨by rw [HV.out];rfl,hb⟩
theorem qXe (n:Bool) (p q:List UInt8) (w:World) (hp:p.length≤4194300) (hq:q.length≤4194300) (h:(n == false && p == [] && q == [])=false) (hp0:p=[]):Calls Tryz.prog 57 #[.agg #[.bool n,vS p,vS q]] w fun e w'=>e=.returned (.bool (vd n p q))∧Since w w':=by
 have HE:=Lib.hid h;have HP0:Hid (p=[]):=hp0
 have HV:Hid (vd n p q=false):=by
  show _=_
  unfold vd
  rw [if_pos (.inl hp0)]
  cases n <;> simp_all
 clear h hp0
 go_enter Tryz.func57,Tryz.ntmps57
 go_upto_region 1 with fail;obtain ⟨W0,hW0,hB0,hb⟩:=aZ w 23 [.bool n,vS p,vS q];rw [← hW0];clear hW0;refine jp ?_;refine ja hB0 Tryz.underlying23 (by rfl) aB ?_;refine jn (rz) ?_;refine jv (.bool false) (fun X=>cH .eql 23 _ (.tmp 3) (.tmp 4) (by rfl) _ _ (by rfl) (by rfl) fJ _ X ((dL X n false p q [] []).trans (by rw [HE.out]))) ?_;refine bZ hb hB0 fun X1 hX1 hb hB0=>?_;go_upto_region 3 with fail;refine jp ?_;refine jnf hB0 1 aI ?_;refine jv (.bool false) (cY _ _ _ _ (by rfl) p ([]:List UInt8) (by rfl) (by rfl) false (qQy HP0.out)) ?_;refine jm (.bool false) ?_;refine jss ?_;refine js ?_;refine jmm (.bool false) (.bool false) ?_;refine jss ?_;refine js ?_;refine jmm (.bool false) (.bool false) ?_;refine jss ?_;refine js ?_;refine jmm (.bool false) (.bool false) ?_;refine hI ?_;refine jss ?_;refine jmm (.bool false) (.bool false) ?_;refine bZ hb hB0 fun X2 hX2 hb hB0=>?_
 go_wp2
 go_ret
 exact ⟨by rw [HV.out];rfl,hb⟩
theorem qXd (n:Bool) (p q:List UInt8) (w:World) (hp:p.length≤4194300) (hq:q.length≤4194300) (hp0:p≠[]) (hq0:q=[]):Calls Tryz.prog 57 #[.agg #[.bool n,vS p,vS q]] w fun e w'=>e=.returned (.bool (vd n p q))∧Since w w':=by
 have HE:Hid ((n == false && p == [] && q == [])=false):=by show _=_;rw [gB hp0];simp
 have HPN:Hid (p≠[]):=hp0;have HQ0:Hid (q=[]):=hq0
 have HV:Hid (vd n p q=false):=by
  show _=_
  unfold vd
  rw [if_pos (.inr hq0),gB hp0]
  simp
 clear hp0 hq0
 go_enter Tryz.func57,Tryz.ntmps57
 go_upto_region 1 with fail;obtain ⟨W0,hW0,hB0,hb⟩:=aZ w 23 [.bool n,vS p,vS q];rw [← hW0];clear hW0;refine jp ?_;refine ja hB0 Tryz.underlying23 (by rfl) aB ?_;refine jn (rz) ?_;refine jv (.bool false) (fun X=>cH .eql 23 _ (.tmp 3) (.tmp 4) (by rfl) _ _ (by rfl) (by rfl) fJ _ X ((dL X n false p q [] []).trans (by rw [HE.out]))) ?_;refine bZ hb hB0 fun X1 hX1 hb hB0=>?_;go_upto_region 3 with fail;refine jp ?_;refine jnf hB0 1 aI ?_;refine jv (.bool true) (cY _ _ _ _ (by rfl) p ([]:List UInt8) (by rfl) (by rfl) true (kC HPN.out)) ?_;refine jm (.bool true) ?_;refine jnf hB0 2 aI ?_;refine jv (.bool false) (cY _ _ _ _ (by rfl) q ([]:List UInt8) (by rfl) (by rfl) false (qQy HQ0.out)) ?_;refine jmm (.bool false) (.bool false) ?_;refine jss ?_;refine js ?_;refine jmm (.bool false) (.bool false) ?_;refine jss ?_;refine js ?_;refine jmm (.bool false) (.bool false) ?_;refine hI ?_;refine jss ?_;refine jmm (.bool false) (.bool false) ?_;refine bZ hb hB0 fun X2 hX2 hb hB0=>?_
 go_wp2
 go_ret
 exact ⟨by rw [HV.out];rfl,hb⟩
theorem qXc (n:Bool) (p q:List UInt8) (w:World) (hp:p.length≤4194300) (hq:q.length≤4194300) (hp0:p≠[]) (hq0:q≠[]) (h1:cn p=false):Calls Tryz.prog 57 #[.agg #[.bool n,vS p,vS q]] w fun e w'=>e=.returned (.bool (vd n p q))∧Since w w':=by
 have HE:Hid ((n == false && p == [] && q == [])=false):=by show _=_;rw [gB hp0];simp
 have HPN:Hid (p≠[]):=hp0;have HQN:Hid (q≠[]):=hq0;have HPC:=Lib.hid h1
 have HV:Hid (vd n p q=false):=by
  show _=_
  unfold vd
  rw [if_neg (by rintro (h9|h9);exact hp0 h9;exact hq0 h9),h1]
  rfl
 clear hp0 hq0 h1
 go_enter Tryz.func57,Tryz.ntmps57
 go_upto_region 1 with fail;obtain ⟨W0,hW0,hB0,hb⟩:=aZ w 23 [.bool n,vS p,vS q];rw [← hW0];clear hW0;refine jp ?_;refine ja hB0 Tryz.underlying23 (by rfl) aB ?_;refine jn (rz) ?_;refine jv (.bool false) (fun X=>cH .eql 23 _ (.tmp 3) (.tmp 4) (by rfl) _ _ (by rfl) (by rfl) fJ _ X ((dL X n false p q [] []).trans (by rw [HE.out]))) ?_;refine bZ hb hB0 fun X1 hX1 hb hB0=>?_;go_upto_region 3 with fail;refine jp ?_;refine jnf hB0 1 aI ?_;refine jv (.bool true) (cY _ _ _ _ (by rfl) p ([]:List UInt8) (by rfl) (by rfl) true (kC HPN.out)) ?_;refine jm (.bool true) ?_;refine jnf hB0 2 aI ?_;refine jv (.bool true) (cY _ _ _ _ (by rfl) q ([]:List UInt8) (by rfl) (by rfl) true (kC HQN.out)) ?_;refine jmm (.bool true) (.bool true) ?_;refine jnf hB0 1 aI ?_;refine jc (.bool false) (fun X hX hF=>(jK p X).mono fun e X' ⟨h1,h2⟩=>⟨by rw [h1,HPC.out],dG h2⟩) ?_;refine jmm (.bool false) (.bool false) ?_;refine jss ?_;refine js ?_;refine jmm (.bool false) (.bool false) ?_;refine hI ?_;refine jss ?_;refine jmm (.bool false) (.bool false) ?_;refine bZ hb hB0 fun X2 hX2 hb hB0=>?_
 go_wp2
 go_ret
 exact ⟨by rw [HV.out];rfl,hb⟩
theorem qXb (n:Bool) (p q:List UInt8) (w:World) (hp:p.length≤4194300) (hq:q.length≤4194300) (hp0:p≠[]) (hq0:q≠[]) (h1:cn p=true) (h2:cn q=false):Calls Tryz.prog 57 #[.agg #[.bool n,vS p,vS q]] w fun e w'=>e=.returned (.bool (vd n p q))∧Since w w':=by
 have HE:Hid ((n == false && p == [] && q == [])=false):=by show _=_;rw [gB hp0];simp
 have HPN:Hid (p≠[]):=hp0;have HQN:Hid (q≠[]):=hq0;have HPC:=Lib.hid h1;have HQC:=Lib.hid h2
 have HV:Hid (vd n p q=false):=by
  show _=_
  unfold vd
  rw [if_neg (by rintro (h9|h9);exact hp0 h9;exact hq0 h9),h1,h2]
  rfl
 clear hp0 hq0 h1 h2
 go_enter Tryz.func57,Tryz.ntmps57
 go_upto_region 1 with fail;obtain ⟨W0,hW0,hB0,hb⟩:=aZ w 23 [.bool n,vS p,vS q];rw [← hW0];clear hW0;refine jp ?_;refine ja hB0 Tryz.underlying23 (by rfl) aB ?_;refine jn (rz) ?_;refine jv (.bool false) (fun X=>cH .eql 23 _ (.tmp 3) (.tmp 4) (by rfl) _ _ (by rfl) (by rfl) fJ _ X ((dL X n false p q [] []).trans (by rw [HE.out]))) ?_;refine bZ hb hB0 fun X1 hX1 hb hB0=>?_;go_upto_region 3 with fail;refine jp ?_;refine jnf hB0 1 aI ?_;refine jv (.bool true) (cY _ _ _ _ (by rfl) p ([]:List UInt8) (by rfl) (by rfl) true (kC HPN.out)) ?_;refine jm (.bool true) ?_;refine jnf hB0 2 aI ?_;refine jv (.bool true) (cY _ _ _ _ (by rfl) q ([]:List UInt8) (by rfl) (by rfl) true (kC HQN.out)) ?_;refine jmm (.bool true) (.bool true) ?_;refine jnf hB0 1 aI ?_;refine jc (.bool true) (fun X hX hF=>(jK p X).mono fun e X' ⟨h1,h2⟩=>⟨by rw [h1,HPC.out],dG h2⟩) ?_;refine jmm (.bool true) (.bool true) ?_;refine jnf hB0 2 aI ?_;refine jc (.bool false) (fun X hX hF=>(jK q X).mono fun e X' ⟨h1,h2⟩=>⟨by rw [h1,HQC.out],dG h2⟩) ?_;refine jmm (.bool false) (.bool false) ?_;refine hI ?_;refine jss ?_;refine jmm (.bool false) (.bool false) ?_;refine bZ hb hB0 fun X2 hX2 hb hB0=>?_
 go_wp2
 go_ret
 exact ⟨by rw [HV.out];rfl,hb⟩
theorem qXa (n:Bool) (p q:List UInt8) (w:World) (hp:p.length≤4194300) (hq:q.length≤4194300) (hp0:p≠[]) (hq0:q≠[]) (h1:cn p=true) (h2:cn q=true) (h3:Nat.gcd (val p) (val q)=1):Calls Tryz.prog 57 #[.agg #[.bool n,vS p,vS q]] w fun e w'=>e=.returned (.bool (vd n p q))∧Since w w':=by
 have HE:Hid ((n == false && p == [] && q == [])=false):=by show _=_;rw [gB hp0];simp
 have HPN:Hid (p≠[]):=hp0;have HQN:Hid (q≠[]):=hq0;have HPC:=Lib.hid h1;have HQC:=Lib.hid h2
 have HG:Hid (be (Nat.gcd (val p) (val q))=[1]):=by show _=_;rw [h3,be_one]
 have HV:Hid (vd n p q=true):=by
  show _=_
  unfold vd
  rw [if_neg (by rintro (h9|h9);exact hp0 h9;exact hq0 h9),h1,h2];rw [h3];rfl
 clear hp0 hq0 h1 h2 h3
 go_enter Tryz.func57,Tryz.ntmps57
 go_upto_region 1 with fail;obtain ⟨W0,hW0,hB0,hb⟩:=aZ w 23 [.bool n,vS p,vS q];rw [← hW0];clear hW0;refine jp ?_;refine ja hB0 Tryz.underlying23 (by rfl) aB ?_;refine jn (rz) ?_;refine jv (.bool false) (fun X=>cH .eql 23 _ (.tmp 3) (.tmp 4) (by rfl) _ _ (by rfl) (by rfl) fJ _ X ((dL X n false p q [] []).trans (by rw [HE.out]))) ?_;refine bZ hb hB0 fun X1 hX1 hb hB0=>?_;go_upto_region 3 with fail;refine jp ?_;refine jnf hB0 1 aI ?_;refine jv (.bool true) (cY _ _ _ _ (by rfl) p ([]:List UInt8) (by rfl) (by rfl) true (kC HPN.out)) ?_;refine jm (.bool true) ?_;refine jnf hB0 2 aI ?_;refine jv (.bool true) (cY _ _ _ _ (by rfl) q ([]:List UInt8) (by rfl) (by rfl) true (kC HQN.out)) ?_;refine jmm (.bool true) (.bool true) ?_;refine jnf hB0 1 aI ?_;refine jc (.bool true) (fun X hX hF=>(jK p X).mono fun e X' ⟨h1,h2⟩=>⟨by rw [h1,HPC.out],dG h2⟩) ?_;refine jmm (.bool true) (.bool true) ?_;refine jnf hB0 2 aI ?_;refine jc (.bool true) (fun X hX hF=>(jK q X).mono fun e X' ⟨h1,h2⟩=>⟨by rw [h1,HQC.out],dG h2⟩) ?_;refine jmm (.bool true) (.bool true) ?_;refine jnf hB0 1 aI ?_;refine jnf hB0 2 aI ?_;refine jc (st (be (Nat.gcd (val p) (val q)))) (fun X hX hF=>xA p q X (by omega) (by omega)) ?_;refine jv (.bool true) (cT _ _ _ _ (by rfl) (be (Nat.gcd (val p) (val q))) ([1]:List UInt8) (by rfl) (by rfl) true (oB HG.out)) ?_
 refine jmm (.bool true) (.bool true) ?_;refine bZ hb hB0 fun X2 hX2 hb hB0=>?_
 go_wp2
 go_ret
 exact ⟨by rw [HV.out];rfl,hb⟩
theorem qVz (n:Bool) (p q:List UInt8) (w:World) (hp:p.length≤4194300) (hq:q.length≤4194300) (hp0:p≠[]) (hq0:q≠[]) (h1:cn p=true) (h2:cn q=true) (h3:¬ Nat.gcd (val p) (val q)=1):Calls Tryz.prog 57 #[.agg #[.bool n,vS p,vS q]] w fun e w'=>e=.returned (.bool (vd n p q))∧Since w w':=by
 have HE:Hid ((n == false && p == [] && q == [])=false):=by show _=_;rw [gB hp0];simp
 have HPN:Hid (p≠[]):=hp0;have HQN:Hid (q≠[]):=hq0;have HPC:=Lib.hid h1;have HQC:=Lib.hid h2
 have HG:Hid (be (Nat.gcd (val p) (val q))≠[1]):=fun h9=>h3 (yY (h9.trans be_one.symm))
 have HV:Hid (vd n p q=false):=by
  show _=_
  unfold vd
  rw [if_neg (by rintro (h9|h9);exact hp0 h9;exact hq0 h9),h1,h2]
  simp [h3]
 clear hp0 hq0 h1 h2 h3
 go_enter Tryz.func57,Tryz.ntmps57
 go_upto_region 1 with fail;obtain ⟨W0,hW0,hB0,hb⟩:=aZ w 23 [.bool n,vS p,vS q];rw [← hW0];clear hW0;refine jp ?_;refine ja hB0 Tryz.underlying23 (by rfl) aB ?_;refine jn (rz) ?_;refine jv (.bool false) (fun X=>cH .eql 23 _ (.tmp 3) (.tmp 4) (by rfl) _ _ (by rfl) (by rfl) fJ _ X ((dL X n false p q [] []).trans (by rw [HE.out]))) ?_;refine bZ hb hB0 fun X1 hX1 hb hB0=>?_;go_upto_region 3 with fail;refine jp ?_;refine jnf hB0 1 aI ?_;refine jv (.bool true) (cY _ _ _ _ (by rfl) p ([]:List UInt8) (by rfl) (by rfl) true (kC HPN.out)) ?_;refine jm (.bool true) ?_;refine jnf hB0 2 aI ?_;refine jv (.bool true) (cY _ _ _ _ (by rfl) q ([]:List UInt8) (by rfl) (by rfl) true (kC HQN.out)) ?_;refine jmm (.bool true) (.bool true) ?_;refine jnf hB0 1 aI ?_;refine jc (.bool true) (fun X hX hF=>(jK p X).mono fun e X' ⟨h1,h2⟩=>⟨by rw [h1,HPC.out],dG h2⟩) ?_;refine jmm (.bool true) (.bool true) ?_;refine jnf hB0 2 aI ?_;refine jc (.bool true) (fun X hX hF=>(jK q X).mono fun e X' ⟨h1,h2⟩=>⟨by rw [h1,HQC.out],dG h2⟩) ?_;refine jmm (.bool true) (.bool true) ?_;refine jnf hB0 1 aI ?_;refine jnf hB0 2 aI ?_;refine jc (st (be (Nat.gcd (val p) (val q)))) (fun X hX hF=>xA p q X (by omega) (by omega)) ?_;refine jv (.bool false) (cT _ _ _ _ (by rfl) (be (Nat.gcd (val p) (val q))) ([1]:List UInt8) (by rfl) (by rfl) false (gB HG.out)) ?_
 refine jmm (.bool false) (.bool false) ?_;refine bZ hb hB0 fun X2 hX2 hb hB0=>?_
 go_wp2
 go_ret
 exact ⟨by rw [HV.out];rfl,hb⟩
theorem oR (n:Bool) (p q:List UInt8) (w:World) (hp:p.length≤4194300) (hq:q.length≤4194300):Calls Tryz.prog 57 #[.agg #[.bool n,vS p,vS q]] w fun e w'=>e=.returned (.bool (vd n p q))∧Since w w':=by
 by_cases hp0:p=[]
 ·rcases h:(n == false && p == [] && q == []) with _|_
  ·exact qXe n p q w hp hq h hp0
  ·exact qXf n p q w hp hq h
 ·by_cases hq0:q=[]
  ·exact qXd n p q w hp hq hp0 hq0
  ·rcases h1:cn p with _|_
   ·exact qXc n p q w hp hq hp0 hq0 h1
   ·rcases h2:cn q with _|_
    ·exact qXb n p q w hp hq hp0 hq0 h1 h2
    ·by_cases h3:Nat.gcd (val p) (val q)=1
     ·exact qXa n p q w hp hq hp0 hq0 h1 h2 h3
     ·exact qVz n p q w hp hq hp0 hq0 h1 h2 h3
theorem of0 (n:Bool) (p q:List UInt8) (w:World) (hp:p.length≤4194300) (hq:q.length≤4194300) (h0:p=[]):Calls Tryz.prog 68 #[.agg #[.bool n,vS p,vS q]] w fun e w'=>e=.returned (.agg #[.bool (rN (rq n p q)),vS (be (rq n p q).num.natAbs),vS (be (rq n p q).den)])∧Since w w':=by
 have HP0:Hid (p=[]):=h0
 have HX:Hid (rq n p q=0):=by
  show _=_
  unfold rq
  split
  ·rename_i h
   unfold vd at h
   rw [if_pos (.inl h0)] at h;simp only [Bool.and_eq_true,Bool.not_eq_true',beq_iff_eq] at h;obtain ⟨⟨rfl,rfl⟩,rfl⟩:=h
   rfl
  ·rfl
 clear h0
 go_enter Tryz.func68,Tryz.ntmps68
 go_upto_region 1 with fail;obtain ⟨W0,hW0,hB0,hB1,hb⟩:=cI w 23 93 [.bool n,vS p,vS q] [.bool false,.string ⟨#[]⟩,.string ⟨#[]⟩];rw [← hW0];clear hW0;refine jp ?_;refine jnf hB0 1 aI ?_;refine jv (.bool true) (cT _ _ _ _ (by rfl) p ([]:List UInt8) (by rfl) (by rfl) true (oB HP0.out)) ?_;refine jm (.bool true) ?_;refine jss ?_;refine js ?_;refine jm (.bool true) ?_;refine bV hb hB0 hB1 fun X1 hX1 hb hB0 hB1=>?_;go_upto_region 2 with fail;refine jq 1 ?_;refine jn (rt false [] ([1]:List UInt8)) ?_;refine bV hb hB0 hB1 fun X2 hX2 hb hB0 hB1=>?_;refine osb 93 2 11 (w.heap.size+1) 93 hB1 [.bool false,vS ([]:List UInt8),vS ([1]:List UInt8)] bO ?_;intro w9 hR9 hO9 hB9 hs9;have hb9:=hB9 _ _ hb (by omega);clear hO9 hB9
 go_wp2
 refine aX rfl rfl (by rfl) Tryz.underlying93 rfl hR9 bO ⟨by rw [HX.out];rfl,hb9⟩
theorem of1 (n:Bool) (p q:List UInt8) (w:World) (hp:p.length≤4194300) (hq:q.length≤4194300) (h0:p≠[]) (hv:vd n p q=false):Calls Tryz.prog 68 #[.agg #[.bool n,vS p,vS q]] w fun e w'=>e=.returned (.agg #[.bool (rN (rq n p q)),vS (be (rq n p q).num.natAbs),vS (be (rq n p q).den)])∧Since w w':=by
 have HP0:Hid (p≠[]):=h0;have HV:=Lib.hid hv;have HX:Hid (rq n p q=0):=oF hv;clear h0 hv
 go_enter Tryz.func68,Tryz.ntmps68
 go_upto_region 1 with fail;obtain ⟨W0,hW0,hB0,hB1,hb⟩:=cI w 23 93 [.bool n,vS p,vS q] [.bool false,.string ⟨#[]⟩,.string ⟨#[]⟩];rw [← hW0];clear hW0;refine jp ?_;refine jnf hB0 1 aI ?_;refine jv (.bool false) (cT _ _ _ _ (by rfl) p ([]:List UInt8) (by rfl) (by rfl) false (gB HP0.out)) ?_;refine jm (.bool false) ?_;refine ja hB0 Tryz.underlying23 (by rfl) aB ?_;refine jc (.bool false) (fun X hX hF=>mo (oR n p q X hp hq) (by rw [HV.out])) ?_;refine jmm (.bool true) (.bool true) ?_;refine bV hb hB0 hB1 fun X1 hX1 hb hB0 hB1=>?_;go_upto_region 2 with fail;refine jq 1 ?_;refine jn (rt false [] ([1]:List UInt8)) ?_;refine bV hb hB0 hB1 fun X2 hX2 hb hB0 hB1=>?_;refine osb 93 2 11 (w.heap.size+1) 93 hB1 [.bool false,vS ([]:List UInt8),vS ([1]:List UInt8)] bO ?_;intro w9 hR9 hO9 hB9 hs9;have hb9:=hB9 _ _ hb (by omega);clear hO9 hB9
 go_wp2
 refine aX rfl rfl (by rfl) Tryz.underlying93 rfl hR9 bO ⟨by rw [HX.out];rfl,hb9⟩
theorem of2 (n:Bool) (p q:List UInt8) (w:World) (hp:p.length≤4194300) (hq:q.length≤4194300) (h0:p≠[]) (hv:vd n p q=true):Calls Tryz.prog 68 #[.agg #[.bool n,vS p,vS q]] w fun e w'=>e=.returned (.agg #[.bool (rN (rq n p q)),vS (be (rq n p q).num.natAbs),vS (be (rq n p q).den)])∧Since w w':=by
 have HP0:Hid (p≠[]):=h0;have HV:=Lib.hid hv;have hvv:=mC hv;have HN:=Lib.hid hvv.1;have HP1:Hid (be (rq n p q).num.natAbs=p):=hvv.2.1;have HD1:Hid (be (rq n p q).den=q):=hvv.2.2.2 h0;clear h0 hv hvv
 go_enter Tryz.func68,Tryz.ntmps68
 go_upto_region 1 with fail;obtain ⟨W0,hW0,hB0,hB1,hb⟩:=cI w 23 93 [.bool n,vS p,vS q] [.bool false,.string ⟨#[]⟩,.string ⟨#[]⟩];rw [← hW0];clear hW0;refine jp ?_;refine jnf hB0 1 aI ?_;refine jv (.bool false) (cT _ _ _ _ (by rfl) p ([]:List UInt8) (by rfl) (by rfl) false (gB HP0.out)) ?_;refine jm (.bool false) ?_;refine ja hB0 Tryz.underlying23 (by rfl) aB ?_;refine jc (.bool true) (fun X hX hF=>mo (oR n p q X hp hq) (by rw [HV.out])) ?_;refine jmm (.bool false) (.bool false) ?_;refine bV hb hB0 hB1 fun X1 hX1 hb hB0 hB1=>?_;go_upto_region 3 with fail;refine jq 7 ?_;refine jnf hB0 0 aQ ?_;refine jnf hB0 1 aI ?_;refine jnf hB0 2 aI ?_;refine jn (rt n p q) ?_;refine bV hb hB0 hB1 fun X2 hX2 hb hB0 hB1=>?_;refine osb 93 2 18 (w.heap.size+1) 93 hB1 [.bool n,vS p,vS q] bO ?_;intro w9 hR9 hO9 hB9 hs9;have hb9:=hB9 _ _ hb (by omega);clear hO9 hB9
 go_wp2
 refine aX rfl rfl (by rfl) Tryz.underlying93 rfl hR9 bO ⟨by rw [HN.out,HP1.out,HD1.out],hb9⟩
theorem ofQ (n:Bool) (p q:List UInt8) (w:World) (hp:p.length≤4194300) (hq:q.length≤4194300):Calls Tryz.prog 68 #[.agg #[.bool n,vS p,vS q]] w fun e w'=>e=.returned (.agg #[.bool (rN (rq n p q)),vS (be (rq n p q).num.natAbs),vS (be (rq n p q).den)])∧Since w w':=by
 by_cases h0:p=[]
 ·exact of0 n p q w hp hq h0
 ·rcases hv:vd n p q with _|_
  ·exact of1 n p q w hp hq h0 hv
  ·exact of2 n p q w hp hq h0 hv
end Go.Proofs.YtnfpenhldlfafaaGreatDoor

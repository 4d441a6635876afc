/- rat: Valid, of. -/
import Derived.Test.YtffgfkcljcollaaGreatDoorRw
import Derived.Test.YtffgfkcljcollaaGreatDoorMF
set_option linter.unusedSimpArgs false
set_option linter.unusedVariables false
set_option maxRecDepth 100000
set_option maxHeartbeats 1600000
namespace Go.Proofs.YtffgfkcljcollaaGreatDoor
open Go.RowKit
theorem fP:Tryz.prog.eqGuardType Tryz.prog.depth 26=false:=by kernel_rfl
theorem qYx (n:Bool) (p q:List UInt8) (w:World) (hp:p.length≤4194300) (hq:q.length≤4194300) (h:(n == false && p == [] && q == [])=true):Calls Tryz.prog 42 #[.agg #[.bool n,vS p,vS q]] w fun e w'=>e=.returned (.bool (vd n p q))∧Since w w':=by
 have HE:=Lib.hid h
 have HV:Hid (vd n p q=true):=by
  show _=_
  simp only [Bool.and_eq_true,beq_iff_eq] at h;obtain ⟨⟨rfl,rfl⟩,rfl⟩:=h
  rfl
 clear h
 go_enter Tryz.func42,Tryz.ntmps42
 go_upto_region 1 with fail;obtain ⟨W0,hW0,hB0,hb⟩:=aQ w 26 [.bool n,vS p,vS q];rw [← hW0];clear hW0;refine jp ?_;refine ja hB0 Tryz.underlying26 (by rfl) aC ?_;refine jn (rz) ?_;refine jv (.bool true) (fun X=>cL .eql 26 _ (.tmp 3) (.tmp 4) (by rfl) _ _ (by rfl) (by rfl) fP _ X ((dP X n false p q [] []).trans (by rw [HE.out]))) ?_;refine jzb hb fun X1 hX1 hb=>?_;have hB0:=hB0.bel hX1
 go_wp2
 go_ret
 exact ⟨by rw [HV.out];rfl,hb⟩
theorem qYw (n:Bool) (p q:List UInt8) (w:World) (hp:p.length≤4194300) (hq:q.length≤4194300) (h:(n == false && p == [] && q == [])=false) (hp0:p=[]):Calls Tryz.prog 42 #[.agg #[.bool n,vS p,vS q]] w fun e w'=>e=.returned (.bool (vd n p q))∧Since w w':=by
 have HE:=Lib.hid h;have HP0:Hid (p=[]):=hp0
 have HV:Hid (vd n p q=false):=by
  show _=_
  unfold vd
  rw [if_pos (.inl hp0)]
  cases n <;> simp_all
 clear h hp0
 go_enter Tryz.func42,Tryz.ntmps42
 go_upto_region 1 with fail;obtain ⟨W0,hW0,hB0,hb⟩:=aQ w 26 [.bool n,vS p,vS q];rw [← hW0];clear hW0;refine jp ?_;refine ja hB0 Tryz.underlying26 (by rfl) aC ?_;refine jn (rz) ?_;refine jv (.bool false) (fun X=>cL .eql 26 _ (.tmp 3) (.tmp 4) (by rfl) _ _ (by rfl) (by rfl) fP _ X ((dP X n false p q [] []).trans (by rw [HE.out]))) ?_;refine jzb hb fun X1 hX1 hb=>?_;have hB0:=hB0.bel hX1;go_upto_region 3 with fail;refine jp ?_;refine jn (vP w.heap.size 1) ?_;refine jf _ hB0 1 aH ?_;refine jv (.bool false) (cG _ _ _ _ (by rfl) p ([]:List UInt8) (by rfl) (by rfl) false (uS HP0.out)) ?_;refine jm (.bool false) ?_;refine js ?_;refine js ?_;refine js ?_;refine jm (.bool false) ?_;refine jm (.bool false) ?_;refine js ?_;refine js ?_;refine js ?_;refine jm (.bool false) ?_;refine jm (.bool false) ?_;refine js ?_;refine js ?_;refine js ?_;refine jm (.bool false) ?_;refine jm (.bool false) ?_;refine js ?_;refine js ?_;refine js ?_;refine js ?_;refine js ?_;refine js ?_;refine jm (.bool false) ?_;refine jm (.bool false) ?_;refine jzb hb fun X2 hX2 hb=>?_;have hB0:=hB0.bel hX2
 go_wp2
 go_ret
 exact ⟨by rw [HV.out];rfl,hb⟩
theorem qYv (n:Bool) (p q:List UInt8) (w:World) (hp:p.length≤4194300) (hq:q.length≤4194300) (hp0:p≠[]) (hq0:q=[]):Calls Tryz.prog 42 #[.agg #[.bool n,vS p,vS q]] w fun e w'=>e=.returned (.bool (vd n p q))∧Since w w':=by
 have HE:Hid ((n == false && p == [] && q == [])=false):=by show _=_;rw [cS hp0];simp
 have HPN:Hid (p≠[]):=hp0;have HQ0:Hid (q=[]):=hq0
 have HV:Hid (vd n p q=false):=by
  show _=_
  unfold vd
  rw [if_pos (.inr hq0),cS hp0]
  simp
 clear hp0 hq0
 go_enter Tryz.func42,Tryz.ntmps42
 go_upto_region 1 with fail;obtain ⟨W0,hW0,hB0,hb⟩:=aQ w 26 [.bool n,vS p,vS q];rw [← hW0];clear hW0;refine jp ?_;refine ja hB0 Tryz.underlying26 (by rfl) aC ?_;refine jn (rz) ?_;refine jv (.bool false) (fun X=>cL .eql 26 _ (.tmp 3) (.tmp 4) (by rfl) _ _ (by rfl) (by rfl) fP _ X ((dP X n false p q [] []).trans (by rw [HE.out]))) ?_;refine jzb hb fun X1 hX1 hb=>?_;have hB0:=hB0.bel hX1;go_upto_region 3 with fail;refine jp ?_;refine jn (vP w.heap.size 1) ?_;refine jf _ hB0 1 aH ?_;refine jv (.bool true) (cG _ _ _ _ (by rfl) p ([]:List UInt8) (by rfl) (by rfl) true (iO HPN.out)) ?_;refine jm (.bool true) ?_;refine jn (vP w.heap.size 2) ?_;refine jf _ hB0 2 aH ?_;refine jv (.bool false) (cG _ _ _ _ (by rfl) q ([]:List UInt8) (by rfl) (by rfl) false (uS HQ0.out)) ?_;refine jm (.bool false) ?_;refine jm (.bool false) ?_;refine js ?_;refine js ?_;refine js ?_;refine jm (.bool false) ?_;refine jm (.bool false) ?_;refine js ?_;refine js ?_;refine js ?_;refine jm (.bool false) ?_;refine jm (.bool false) ?_;refine js ?_;refine js ?_;refine js ?_;refine js ?_;refine js ?_;refine js ?_;refine jm (.bool false) ?_;refine jm (.bool false) ?_;refine jzb hb fun X2 hX2 hb=>?_;have hB0:=hB0.bel hX2
 go_wp2
 go_ret
 exact ⟨by rw [HV.out];rfl,hb⟩
theorem qYu (n:Bool) (p q:List UInt8) (w:World) (hp:p.length≤4194300) (hq:q.length≤4194300) (hp0:p≠[]) (hq0:q≠[]) (h1:cn p=false):Calls Tryz.prog 42 #[.agg #[.bool n,vS p,vS q]] w fun e w'=>e=.returned (.bool (vd n p q))∧Since w w':=by
 have HE:Hid ((n == false && p == [] && q == [])=false):=by show _=_;rw [cS hp0];simp
 have HPN:Hid (p≠[]):=hp0;have HQN:Hid (q≠[]):=hq0;have HPC:=Lib.hid h1
 have HV:Hid (vd n p q=false):=by
  show _=_
  unfold vd
  rw [if_neg (by rintro (h9|h9);exact hp0 h9;exact hq0 h9),h1]
  rfl
 clear hp0 hq0 h1
 go_enter Tryz.func42,Tryz.ntmps42
 go_upto_region 1 with fail;obtain ⟨W0,hW0,hB0,hb⟩:=aQ w 26 [.bool n,vS p,vS q];rw [← hW0];clear hW0;refine jp ?_;refine ja hB0 Tryz.underlying26 (by rfl) aC ?_;refine jn (rz) ?_;refine jv (.bool false) (fun X=>cL .eql 26 _ (.tmp 3) (.tmp 4) (by rfl) _ _ (by rfl) (by rfl) fP _ X ((dP X n false p q [] []).trans (by rw [HE.out]))) ?_;refine jzb hb fun X1 hX1 hb=>?_;have hB0:=hB0.bel hX1;go_upto_region 3 with fail;refine jp ?_;refine jn (vP w.heap.size 1) ?_;refine jf _ hB0 1 aH ?_;refine jv (.bool true) (cG _ _ _ _ (by rfl) p ([]:List UInt8) (by rfl) (by rfl) true (iO HPN.out)) ?_;refine jm (.bool true) ?_;refine jn (vP w.heap.size 2) ?_;refine jf _ hB0 2 aH ?_;refine jv (.bool true) (cG _ _ _ _ (by rfl) q ([]:List UInt8) (by rfl) (by rfl) true (iO HQN.out)) ?_;refine jm (.bool true) ?_;refine jm (.bool true) ?_;refine jn (vP w.heap.size 1) ?_;refine jf _ hB0 1 aH ?_;refine jc (.bool false) (fun X hX hF=>(kA p X).mono fun e X' ⟨h1,h2⟩=>⟨by rw [h1,HPC.out],dK h2⟩) ?_;refine jm (.bool false) ?_;refine jm (.bool false) ?_;refine js ?_;refine js ?_;refine js ?_;refine jm (.bool false) ?_;refine jm (.bool false) ?_;refine js ?_;refine js ?_;refine js ?_;refine js ?_;refine js ?_;refine js ?_;refine jm (.bool false) ?_;refine jm (.bool false) ?_;refine jzb hb fun X2 hX2 hb=>?_;have hB0:=hB0.bel hX2
 go_wp2
 go_ret
 exact ⟨by rw [HV.out];rfl,hb⟩
theorem qYt (n:Bool) (p q:List UInt8) (w:World) (hp:p.length≤4194300) (hq:q.length≤4194300) (hp0:p≠[]) (hq0:q≠[]) (h1:cn p=true) (h2:cn q=false):Calls Tryz.prog 42 #[.agg #[.bool n,vS p,vS q]] w fun e w'=>e=.returned (.bool (vd n p q))∧Since w w':=by
 have HE:Hid ((n == false && p == [] && q == [])=false):=by show _=_;rw [cS hp0];simp
 have HPN:Hid (p≠[]):=hp0;have HQN:Hid (q≠[]):=hq0;have HPC:=Lib.hid h1;have HQC:=Lib.hid h2
 have HV:Hid (vd n p q=false):=by
  show _=_
  unfold vd
  rw [if_neg (by rintro (h9|h9);exact hp0 h9;exact hq0 h9),h1,h2]
  rfl
 clear hp0 hq0 h1 h2
 go_enter Tryz.func42,Tryz.ntmps42
 go_upto_region 1 with fail;obtain ⟨W0,hW0,hB0,hb⟩:=aQ w 26 [.bool n,vS p,vS q];rw [← hW0];clear hW0;refine jp ?_;refine ja hB0 Tryz.underlying26 (by rfl) aC ?_;refine jn (rz) ?_;refine jv (.bool false) (fun X=>cL .eql 26 _ (.tmp 3) (.tmp 4) (by rfl) _ _ (by rfl) (by rfl) fP _ X ((dP X n false p q [] []).trans (by rw [HE.out]))) ?_;refine jzb hb fun X1 hX1 hb=>?_;have hB0:=hB0.bel hX1;go_upto_region 3 with fail;refine jp ?_;refine jn (vP w.heap.size 1) ?_;refine jf _ hB0 1 aH ?_;refine jv (.bool true) (cG _ _ _ _ (by rfl) p ([]:List UInt8) (by rfl) (by rfl) true (iO HPN.out)) ?_;refine jm (.bool true) ?_;refine jn (vP w.heap.size 2) ?_;refine jf _ hB0 2 aH ?_;refine jv (.bool true) (cG _ _ _ _ (by rfl) q ([]:List UInt8) (by rfl) (by rfl) true (iO HQN.out)) ?_;refine jm (.bool true) ?_;refine jm (.bool true) ?_;refine jn (vP w.heap.size 1) ?_;refine jf _ hB0 1 aH ?_;refine jc (.bool true) (fun X hX hF=>(kA p X).mono fun e X' ⟨h1,h2⟩=>⟨by rw [h1,HPC.out],dK h2⟩) ?_;refine jm (.bool true) ?_;refine jm (.bool true) ?_;refine jn (vP w.heap.size 2) ?_;refine jf _ hB0 2 aH ?_;refine jc (.bool false) (fun X hX hF=>(kA q X).mono fun e X' ⟨h1,h2⟩=>⟨by rw [h1,HQC.out],dK h2⟩) ?_;refine jm (.bool false) ?_;refine jm (.bool false) ?_;refine js ?_;refine js ?_
 refine js ?_;refine js ?_;refine js ?_;refine js ?_;refine jm (.bool false) ?_;refine jm (.bool false) ?_;refine jzb hb fun X2 hX2 hb=>?_;have hB0:=hB0.bel hX2
 go_wp2
 go_ret
 exact ⟨by rw [HV.out];rfl,hb⟩
theorem qYs (n:Bool) (p q:List UInt8) (w:World) (hp:p.length≤4194300) (hq:q.length≤4194300) (hp0:p≠[]) (hq0:q≠[]) (h1:cn p=true) (h2:cn q=true) (h3:Nat.gcd (val p) (val q)=1):Calls Tryz.prog 42 #[.agg #[.bool n,vS p,vS q]] w fun e w'=>e=.returned (.bool (vd n p q))∧Since w w':=by
 have HE:Hid ((n == false && p == [] && q == [])=false):=by show _=_;rw [cS hp0];simp
 have HPN:Hid (p≠[]):=hp0;have HQN:Hid (q≠[]):=hq0;have HPC:=Lib.hid h1;have HQC:=Lib.hid h2
 have HG:Hid (be (Nat.gcd (val p) (val q))=[1]):=by show _=_;rw [h3,be_one]
 have HV:Hid (vd n p q=true):=by
  show _=_
  unfold vd
  rw [if_neg (by rintro (h9|h9);exact hp0 h9;exact hq0 h9),h1,h2];rw [h3];rfl
 clear hp0 hq0 h1 h2 h3
 go_enter Tryz.func42,Tryz.ntmps42
 go_upto_region 1 with fail;obtain ⟨W0,hW0,hB0,hb⟩:=aQ w 26 [.bool n,vS p,vS q];rw [← hW0];clear hW0;refine jp ?_;refine ja hB0 Tryz.underlying26 (by rfl) aC ?_;refine jn (rz) ?_;refine jv (.bool false) (fun X=>cL .eql 26 _ (.tmp 3) (.tmp 4) (by rfl) _ _ (by rfl) (by rfl) fP _ X ((dP X n false p q [] []).trans (by rw [HE.out]))) ?_;refine jzb hb fun X1 hX1 hb=>?_;have hB0:=hB0.bel hX1;go_upto_region 3 with fail;refine jp ?_;refine jn (vP w.heap.size 1) ?_;refine jf _ hB0 1 aH ?_;refine jv (.bool true) (cG _ _ _ _ (by rfl) p ([]:List UInt8) (by rfl) (by rfl) true (iO HPN.out)) ?_;refine jm (.bool true) ?_;refine jn (vP w.heap.size 2) ?_;refine jf _ hB0 2 aH ?_;refine jv (.bool true) (cG _ _ _ _ (by rfl) q ([]:List UInt8) (by rfl) (by rfl) true (iO HQN.out)) ?_;refine jm (.bool true) ?_;refine jm (.bool true) ?_;refine jn (vP w.heap.size 1) ?_;refine jf _ hB0 1 aH ?_;refine jc (.bool true) (fun X hX hF=>(kA p X).mono fun e X' ⟨h1,h2⟩=>⟨by rw [h1,HPC.out],dK h2⟩) ?_;refine jm (.bool true) ?_;refine jm (.bool true) ?_;refine jn (vP w.heap.size 2) ?_;refine jf _ hB0 2 aH ?_;refine jc (.bool true) (fun X hX hF=>(kA q X).mono fun e X' ⟨h1,h2⟩=>⟨by rw [h1,HQC.out],dK h2⟩) ?_;refine jm (.bool true) ?_;refine jm (.bool true) ?_;refine jn (vP w.heap.size 1) ?_
 refine jf _ hB0 1 aH ?_;refine jn (vP w.heap.size 2) ?_;refine jf _ hB0 2 aH ?_;refine jc (st (be (Nat.gcd (val p) (val q)))) (fun X hX hF=>yL p q X (by omega) (by omega)) ?_;refine jv (.bool true) (bC _ _ _ _ (by rfl) (be (Nat.gcd (val p) (val q))) ([1]:List UInt8) (by rfl) (by rfl) true (iA HG.out)) ?_;refine jm (.bool true) ?_;refine jm (.bool true) ?_;refine jzb hb fun X2 hX2 hb=>?_;have hB0:=hB0.bel hX2
 go_wp2
 go_ret
 exact ⟨by rw [HV.out];rfl,hb⟩
theorem qYr (n:Bool) (p q:List UInt8) (w:World) (hp:p.length≤4194300) (hq:q.length≤4194300) (hp0:p≠[]) (hq0:q≠[]) (h1:cn p=true) (h2:cn q=true) (h3:¬ Nat.gcd (val p) (val q)=1):Calls Tryz.prog 42 #[.agg #[.bool n,vS p,vS q]] w fun e w'=>e=.returned (.bool (vd n p q))∧Since w w':=by
 have HE:Hid ((n == false && p == [] && q == [])=false):=by show _=_;rw [cS hp0];simp
 have HPN:Hid (p≠[]):=hp0;have HQN:Hid (q≠[]):=hq0;have HPC:=Lib.hid h1;have HQC:=Lib.hid h2
 have HG:Hid (be (Nat.gcd (val p) (val q))≠[1]):=fun h9=>h3 (kH (h9.trans be_one.symm))
 have HV:Hid (vd n p q=false):=by
  show _=_
  unfold vd
  rw [if_neg (by rintro (h9|h9);exact hp0 h9;exact hq0 h9),h1,h2]
  simp [h3]
 clear hp0 hq0 h1 h2 h3
 go_enter Tryz.func42,Tryz.ntmps42
 go_upto_region 1 with fail;obtain ⟨W0,hW0,hB0,hb⟩:=aQ w 26 [.bool n,vS p,vS q];rw [← hW0];clear hW0;refine jp ?_;refine ja hB0 Tryz.underlying26 (by rfl) aC ?_;refine jn (rz) ?_;refine jv (.bool false) (fun X=>cL .eql 26 _ (.tmp 3) (.tmp 4) (by rfl) _ _ (by rfl) (by rfl) fP _ X ((dP X n false p q [] []).trans (by rw [HE.out]))) ?_;refine jzb hb fun X1 hX1 hb=>?_;have hB0:=hB0.bel hX1;go_upto_region 3 with fail;refine jp ?_;refine jn (vP w.heap.size 1) ?_;refine jf _ hB0 1 aH ?_;refine jv (.bool true) (cG _ _ _ _ (by rfl) p ([]:List UInt8) (by rfl) (by rfl) true (iO HPN.out)) ?_;refine jm (.bool true) ?_;refine jn (vP w.heap.size 2) ?_;refine jf _ hB0 2 aH ?_;refine jv (.bool true) (cG _ _ _ _ (by rfl) q ([]:List UInt8) (by rfl) (by rfl) true (iO HQN.out)) ?_;refine jm (.bool true) ?_;refine jm (.bool true) ?_;refine jn (vP w.heap.size 1) ?_;refine jf _ hB0 1 aH ?_;refine jc (.bool true) (fun X hX hF=>(kA p X).mono fun e X' ⟨h1,h2⟩=>⟨by rw [h1,HPC.out],dK h2⟩) ?_;refine jm (.bool true) ?_;refine jm (.bool true) ?_;refine jn (vP w.heap.size 2) ?_;refine jf _ hB0 2 aH ?_;refine jc (.bool true) (fun X hX hF=>(kA q X).mono fun e X' ⟨h1,h2⟩=>⟨by rw [h1,HQC.out],dK h2⟩) ?_;refine jm (.bool true) ?_;refine jm (.bool true) ?_;refine jn (vP w.heap.size 1) ?_
 refine jf _ hB0 1 aH ?_;refine jn (vP w.heap.size 2) ?_;refine jf _ hB0 2 aH ?_;refine jc (st (be (Nat.gcd (val p) (val q)))) (fun X hX hF=>yL p q X (by omega) (by omega)) ?_;refine jv (.bool false) (bC _ _ _ _ (by rfl) (be (Nat.gcd (val p) (val q))) ([1]:List UInt8) (by rfl) (by rfl) false (cS HG.out)) ?_;refine jm (.bool false) ?_;refine jm (.bool false) ?_;refine jzb hb fun X2 hX2 hb=>?_;have hB0:=hB0.bel hX2
 go_wp2
 go_ret
 exact ⟨by rw [HV.out];rfl,hb⟩
theorem pU (n:Bool) (p q:List UInt8) (w:World) (hp:p.length≤4194300) (hq:q.length≤4194300):Calls Tryz.prog 42 #[.agg #[.bool n,vS p,vS q]] w fun e w'=>e=.returned (.bool (vd n p q))∧Since w w':=by
 by_cases hp0:p=[]
 ·rcases h:(n == false && p == [] && q == []) with _|_
  ·exact qYw n p q w hp hq h hp0
  ·exact qYx n p q w hp hq h
 ·by_cases hq0:q=[]
  ·exact qYv n p q w hp hq hp0 hq0
  ·rcases h1:cn p with _|_
   ·exact qYu n p q w hp hq hp0 hq0 h1
   ·rcases h2:cn q with _|_
    ·exact qYt n p q w hp hq hp0 hq0 h1 h2
    ·by_cases h3:Nat.gcd (val p) (val q)=1
     ·exact qYs n p q w hp hq hp0 hq0 h1 h2 h3
     ·exact qYr n p q w hp hq hp0 hq0 h1 h2 h3
theorem of0 (n:Bool) (p q:List UInt8) (w:World) (hp:p.length≤4194300) (hq:q.length≤4194300) (h0:p=[]):Calls Tryz.prog 58 #[.agg #[.bool n,vS p,vS q]] w fun e w'=>e=.returned (.agg #[.bool (rN (rq n p q)),vS (be (rq n p q).num.natAbs),vS (be (rq n p q).den)])∧Since w w':=by
 have HP0:Hid (p=[]):=h0
 have HX:Hid (rq n p q=0):=by
  show _=_
  unfold rq
  split
  ·rename_i h
   unfold vd at h
   rw [if_pos (.inl h0)] at h;simp only [Bool.and_eq_true,Bool.not_eq_true',beq_iff_eq] at h;obtain ⟨⟨rfl,rfl⟩,rfl⟩:=h
   rfl
  ·rfl
 clear h0
 go_enter Tryz.func58,Tryz.ntmps58
 go_upto_region 1 with fail;obtain ⟨W0,hW0,hB0,hB1,hb⟩:=bL w 26 95 [.bool n,vS p,vS q] [.bool false,.string ⟨#[]⟩,.string ⟨#[]⟩];rw [← hW0];clear hW0;refine jp ?_;refine jn (vP w.heap.size 1) ?_;refine jf _ hB0 1 aH ?_;refine jv (.bool true) (bC _ _ _ _ (by rfl) p ([]:List UInt8) (by rfl) (by rfl) true (iA HP0.out)) ?_;refine jm (.bool true) ?_;refine js ?_;refine js ?_;refine js ?_;refine jm (.bool true) ?_;refine jzb hb fun X1 hX1 hb=>?_;obtain ⟨hB0,hB1⟩:=bl2 hX1 hB0 hB1;go_upto_region 2 with fail;refine jq 1 ?_;refine jn (rt false [] ([1]:List UInt8)) ?_;refine jzb hb fun X2 hX2 hb=>?_;obtain ⟨hB0,hB1⟩:=bl2 hX2 hB0 hB1;refine osb 95 2 11 (w.heap.size+1) 95 hB1 [.bool false,vS ([]:List UInt8),vS ([1]:List UInt8)] bK ?_;intro w9 hR9 hO9 hB9 hs9;have hb9:=hB9 _ _ hb (by omega);clear hO9 hB9
 go_wp2
 refine aL rfl rfl (by rfl) Tryz.underlying95 rfl hR9 bK ⟨by rw [HX.out];rfl,hb9⟩
theorem of1 (n:Bool) (p q:List UInt8) (w:World) (hp:p.length≤4194300) (hq:q.length≤4194300) (h0:p≠[]) (hv:vd n p q=false):Calls Tryz.prog 58 #[.agg #[.bool n,vS p,vS q]] w fun e w'=>e=.returned (.agg #[.bool (rN (rq n p q)),vS (be (rq n p q).num.natAbs),vS (be (rq n p q).den)])∧Since w w':=by
 have HP0:Hid (p≠[]):=h0;have HV:=Lib.hid hv;have HX:Hid (rq n p q=0):=mX hv;clear h0 hv
 go_enter Tryz.func58,Tryz.ntmps58
 go_upto_region 1 with fail;obtain ⟨W0,hW0,hB0,hB1,hb⟩:=bL w 26 95 [.bool n,vS p,vS q] [.bool false,.string ⟨#[]⟩,.string ⟨#[]⟩];rw [← hW0];clear hW0;refine jp ?_;refine jn (vP w.heap.size 1) ?_;refine jf _ hB0 1 aH ?_;refine jv (.bool false) (bC _ _ _ _ (by rfl) p ([]:List UInt8) (by rfl) (by rfl) false (cS HP0.out)) ?_;refine jm (.bool false) ?_;refine ja hB0 Tryz.underlying26 (by rfl) aC ?_;refine jc (.bool false) (fun X hX hF=>mo (pU n p q X hp hq) (by rw [HV.out])) ?_;refine jm (.bool true) ?_;refine jm (.bool true) ?_;refine jzb hb fun X1 hX1 hb=>?_;obtain ⟨hB0,hB1⟩:=bl2 hX1 hB0 hB1;go_upto_region 2 with fail;refine jq 1 ?_;refine jn (rt false [] ([1]:List UInt8)) ?_;refine jzb hb fun X2 hX2 hb=>?_;obtain ⟨hB0,hB1⟩:=bl2 hX2 hB0 hB1;refine osb 95 2 11 (w.heap.size+1) 95 hB1 [.bool false,vS ([]:List UInt8),vS ([1]:List UInt8)] bK ?_;intro w9 hR9 hO9 hB9 hs9;have hb9:=hB9 _ _ hb (by omega);clear hO9 hB9
 go_wp2
 refine aL rfl rfl (by rfl) Tryz.underlying95 rfl hR9 bK ⟨by rw [HX.out];rfl,hb9⟩
theorem of2 (n:Bool) (p q:List UInt8) (w:World) (hp:p.length≤4194300) (hq:q.length≤4194300) (h0:p≠[]) (hv:vd n p q=true):Calls Tryz.prog 58 #[.agg #[.bool n,vS p,vS q]] w fun e w'=>e=.returned (.agg #[.bool (rN (rq n p q)),vS (be (rq n p q).num.natAbs),vS (be (rq n p q).den)])∧Since w w':=by
 have HP0:Hid (p≠[]):=h0;have HV:=Lib.hid hv;have hvv:=iN hv;have HN:=Lib.hid hvv.1;have HP1:Hid (be (rq n p q).num.natAbs=p):=hvv.2.1;have HD1:Hid (be (rq n p q).den=q):=hvv.2.2.2 h0;clear h0 hv hvv
 go_enter Tryz.func58,Tryz.ntmps58
 go_upto_region 1 with fail;obtain ⟨W0,hW0,hB0,hB1,hb⟩:=bL w 26 95 [.bool n,vS p,vS q] [.bool false,.string ⟨#[]⟩,.string ⟨#[]⟩];rw [← hW0];clear hW0;refine jp ?_;refine jn (vP w.heap.size 1) ?_;refine jf _ hB0 1 aH ?_;refine jv (.bool false) (bC _ _ _ _ (by rfl) p ([]:List UInt8) (by rfl) (by rfl) false (cS HP0.out)) ?_;refine jm (.bool false) ?_;refine ja hB0 Tryz.underlying26 (by rfl) aC ?_;refine jc (.bool true) (fun X hX hF=>mo (pU n p q X hp hq) (by rw [HV.out])) ?_;refine jm (.bool false) ?_;refine jm (.bool false) ?_;refine jzb hb fun X1 hX1 hb=>?_;obtain ⟨hB0,hB1⟩:=bl2 hX1 hB0 hB1;go_upto_region 3 with fail;refine jq 7 ?_;refine jn (vP w.heap.size 0) ?_;refine jf _ hB0 0 aT ?_;refine jn (vP w.heap.size 1) ?_;refine jf _ hB0 1 aH ?_;refine jn (vP w.heap.size 2) ?_;refine jf _ hB0 2 aH ?_;refine jn (rt n p q) ?_;refine jzb hb fun X2 hX2 hb=>?_;obtain ⟨hB0,hB1⟩:=bl2 hX2 hB0 hB1;refine osb 95 2 18 (w.heap.size+1) 95 hB1 [.bool n,vS p,vS q] bK ?_;intro w9 hR9 hO9 hB9 hs9;have hb9:=hB9 _ _ hb (by omega);clear hO9 hB9
 go_wp2
 refine aL rfl rfl (by rfl) Tryz.underlying95 rfl hR9 bK ⟨by rw [HN.out,HP1.out,HD1.out],hb9⟩
theorem ofQ (n:Bool) (p q:List UInt8) (w:World) (hp:p.length≤4194300) (hq:q.length≤4194300):Calls Tryz.prog 58 #[.agg #[.bool n,vS p,vS q]] w fun e w'=>e=.returned (.agg #[.bool (rN (rq n p q)),vS (be (rq n p q).num.natAbs),vS (be (rq n p q).den)])∧Since w w':=by
 by_cases h0:p=[]
 ·exact of0 n p q w hp hq h0
 ·rcases hv:vd n p q with _|_
  ·exact of1 n p q w hp hq h0 hv
  ·exact of2 n p q w hp hq h0 hv
end Go.Proofs.YtffgfkcljcollaaGreatDoor

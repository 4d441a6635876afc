/- rat: fractions. -/
import Derived.Test.YtjkfchehkpmhkaaDoorRw
import Derived.Test.YtjkfchehkpmhkaaDoorMH
set_option linter.unusedSimpArgs false
set_option linter.unusedVariables false
set_option maxRecDepth 100000
set_option maxHeartbeats 1600000
namespace Go.Proofs.YtjkfchehkpmhkaaDoor
open Go.RowKit
theorem gE:Tryd.prog.eqGuardType Tryd.prog.depth 39=false:=by kernel_rfl
theorem vYf (n:Bool) (p q:List UInt8) (w:World) (hp:p.length≤4194300) (hq:q.length≤4194300) (h:(n == false && p == [] && q == [])=true):Calls Tryd.prog 36 #[.agg #[.bool n,vS p,vS q]] w fun e w'=>e=.returned (.bool (vd n p q))∧Since w w':=by
 have HE:=Lib.hid h
 have HV:Hid (vd n p q=true):=by
  show _=_
  simp only [Bool.and_eq_true,beq_iff_eq] at h;obtain ⟨⟨rfl,rfl⟩,rfl⟩:=h
  rfl
 clear h
 go_enter Tryd.func36,Tryd.ntmps36
 go_upto_region 1 with fail;obtain ⟨W0,hW0,hB0,hb⟩:=aT w 39 [.bool n,vS p,vS q];rw [← hW0];clear hW0;refine jp ?_;refine ja hB0 Tryd.underlying39 (by rfl) aF ?_;refine jn (rz) ?_;refine jv (.bool true) (fun X=>bW .eql 39 _ (.tmp 3) (.tmp 4) (by rfl) _ _ (by rfl) (by rfl) gE _ X ((eC X n false p q [] []).trans (by rw [HE.out]))) ?_;refine jzb hb fun X1 hX1 hb=>?_;have hB0:=hB0.bel hX1
 go_wp2
 go_ret
 exact ⟨by rw [HV.out];rfl,hb⟩
theorem vYe (n:Bool) (p q:List UInt8) (w:World) (hp:p.length≤4194300) (hq:q.length≤4194300) (h:(n == false && p == [] && q == [])=false) (hp0:p=[]):Calls Tryd.prog 36 #[.agg #[.bool n,vS p,vS q]] w fun e w'=>e=.returned (.bool (vd n p q))∧Since w w':=by
 have HE:=Lib.hid h;have HP0:Hid (p=[]):=hp0
 have HV:Hid (vd n p q=false):=by
  show _=_
  unfold vd
  rw [if_pos (.inl hp0)]
  cases n <;> simp_all
 clear h hp0
 go_enter Tryd.func36,Tryd.ntmps36
 go_upto_region 1 with fail;obtain ⟨W0,hW0,hB0,hb⟩:=aT w 39 [.bool n,vS p,vS q];rw [← hW0];clear hW0;refine jp ?_;refine ja hB0 Tryd.underlying39 (by rfl) aF ?_;refine jn (rz) ?_;refine jv (.bool false) (fun X=>bW .eql 39 _ (.tmp 3) (.tmp 4) (by rfl) _ _ (by rfl) (by rfl) gE _ X ((eC X n false p q [] []).trans (by rw [HE.out]))) ?_;refine jzb hb fun X1 hX1 hb=>?_;have hB0:=hB0.bel hX1;go_upto_region 3 with fail;refine jp ?_;refine jn (vP w.heap.size 1) ?_;refine jf _ hB0 1 aM ?_;refine jv (.bool false) (dQ _ _ _ _ (by rfl) p ([]:List UInt8) (by rfl) (by rfl) false (vXj HP0.out)) ?_;refine jm (.bool false) ?_;refine js ?_;refine js ?_;refine js ?_;refine jm (.bool false) ?_;refine jm (.bool false) ?_;refine js ?_;refine js ?_;refine js ?_;refine jm (.bool false) ?_;refine jm (.bool false) ?_;refine js ?_;refine js ?_;refine js ?_;refine jm (.bool false) ?_;refine jm (.bool false) ?_;refine js ?_;refine js ?_;refine js ?_;refine js ?_;refine js ?_;refine js ?_;refine jm (.bool false) ?_;refine jm (.bool false) ?_;refine jzb hb fun X2 hX2 hb=>?_;have hB0:=hB0.bel hX2
 go_wp2
 go_ret
 exact ⟨by rw [HV.out];rfl,hb⟩
theorem vYd (n:Bool) (p q:List UInt8) (w:World) (hp:p.length≤4194300) (hq:q.length≤4194300) (hp0:p≠[]) (hq0:q=[]):Calls Tryd.prog 36 #[.agg #[.bool n,vS p,vS q]] w fun e w'=>e=.returned (.bool (vd n p q))∧Since w w':=by
 have HE:Hid ((n == false && p == [] && q == [])=false):=by show _=_;rw [iV hp0];simp
 have HPN:Hid (p≠[]):=hp0;have HQ0:Hid (q=[]):=hq0
 have HV:Hid (vd n p q=false):=by
  show _=_
  unfold vd
  rw [if_pos (.inr hq0),iV hp0]
  simp
 clear hp0 hq0
 go_enter Tryd.func36,Tryd.ntmps36
 go_upto_region 1 with fail;obtain ⟨W0,hW0,hB0,hb⟩:=aT w 39 [.bool n,vS p,vS q];rw [← hW0];clear hW0;refine jp ?_;refine ja hB0 Tryd.underlying39 (by rfl) aF ?_;refine jn (rz) ?_;refine jv (.bool false) (fun X=>bW .eql 39 _ (.tmp 3) (.tmp 4) (by rfl) _ _ (by rfl) (by rfl) gE _ X ((eC X n false p q [] []).trans (by rw [HE.out]))) ?_;refine jzb hb fun X1 hX1 hb=>?_;have hB0:=hB0.bel hX1;go_upto_region 3 with fail;refine jp ?_;refine jn (vP w.heap.size 1) ?_;refine jf _ hB0 1 aM ?_;refine jv (.bool true) (dQ _ _ _ _ (by rfl) p ([]:List UInt8) (by rfl) (by rfl) true (mE HPN.out)) ?_;refine jm (.bool true) ?_;refine jn (vP w.heap.size 2) ?_;refine jf _ hB0 2 aM ?_;refine jv (.bool false) (dQ _ _ _ _ (by rfl) q ([]:List UInt8) (by rfl) (by rfl) false (vXj HQ0.out)) ?_;refine jm (.bool false) ?_;refine jm (.bool false) ?_;refine js ?_;refine js ?_;refine js ?_;refine jm (.bool false) ?_;refine jm (.bool false) ?_;refine js ?_;refine js ?_;refine js ?_;refine jm (.bool false) ?_;refine jm (.bool false) ?_;refine js ?_;refine js ?_;refine js ?_;refine js ?_;refine js ?_;refine js ?_;refine jm (.bool false) ?_;refine jm (.bool false) ?_;refine jzb hb fun X2 hX2 hb=>?_;have hB0:=hB0.bel hX2
 go_wp2
 go_ret
 exact ⟨by rw [HV.out];rfl,hb⟩
theorem vYc (n:Bool) (p q:List UInt8) (w:World) (hp:p.length≤4194300) (hq:q.length≤4194300) (hp0:p≠[]) (hq0:q≠[]) (h1:cn p=false):Calls Tryd.prog 36 #[.agg #[.bool n,vS p,vS q]] w fun e w'=>e=.returned (.bool (vd n p q))∧Since w w':=by
 have HE:Hid ((n == false && p == [] && q == [])=false):=by show _=_;rw [iV hp0];simp
 have HPN:Hid (p≠[]):=hp0;have HQN:Hid (q≠[]):=hq0;have HPC:=Lib.hid h1
 have HV:Hid (vd n p q=false):=by
  show _=_
  unfold vd
  rw [if_neg (by rintro (h9|h9);exact hp0 h9;exact hq0 h9),h1]
  rfl
 clear hp0 hq0 h1
 go_enter Tryd.func36,Tryd.ntmps36
 go_upto_region 1 with fail;obtain ⟨W0,hW0,hB0,hb⟩:=aT w 39 [.bool n,vS p,vS q];rw [← hW0];clear hW0;refine jp ?_;refine ja hB0 Tryd.underlying39 (by rfl) aF ?_;refine jn (rz) ?_;refine jv (.bool false) (fun X=>bW .eql 39 _ (.tmp 3) (.tmp 4) (by rfl) _ _ (by rfl) (by rfl) gE _ X ((eC X n false p q [] []).trans (by rw [HE.out]))) ?_;refine jzb hb fun X1 hX1 hb=>?_;have hB0:=hB0.bel hX1;go_upto_region 3 with fail;refine jp ?_;refine jn (vP w.heap.size 1) ?_;refine jf _ hB0 1 aM ?_;refine jv (.bool true) (dQ _ _ _ _ (by rfl) p ([]:List UInt8) (by rfl) (by rfl) true (mE HPN.out)) ?_;refine jm (.bool true) ?_;refine jn (vP w.heap.size 2) ?_;refine jf _ hB0 2 aM ?_;refine jv (.bool true) (dQ _ _ _ _ (by rfl) q ([]:List UInt8) (by rfl) (by rfl) true (mE HQN.out)) ?_;refine jm (.bool true) ?_;refine jm (.bool true) ?_;refine jn (vP w.heap.size 1) ?_;refine jf _ hB0 1 aM ?_;refine jc (.bool false) (fun X hX hF=>(lH p X).mono fun e X' ⟨h1,h2⟩=>⟨by rw [h1,HPC.out],dX h2⟩) ?_;refine jm (.bool false) ?_;refine jm (.bool false) ?_;refine js ?_;refine js ?_;refine js ?_;refine jm (.bool false) ?_;refine jm (.bool false) ?_;refine js ?_;refine js ?_;refine js ?_;refine js ?_;refine js ?_;refine js ?_;refine jm (.bool false) ?_;refine jm (.bool false) ?_;refine jzb hb fun X2 hX2 hb=>?_;have hB0:=hB0.bel hX2
 go_wp2
 go_ret
 exact ⟨by rw [HV.out];rfl,hb⟩
theorem vYb (n:Bool) (p q:List UInt8) (w:World) (hp:p.length≤4194300) (hq:q.length≤4194300) (hp0:p≠[]) (hq0:q≠[]) (h1:cn p=true) (h2:cn q=false):Calls Tryd.prog 36 #[.agg #[.bool n,vS p,vS q]] w fun e w'=>e=.returned (.bool (vd n p q))∧Since w w':=by
 have HE:Hid ((n == false && p == [] && q == [])=false):=by show _=_;rw [iV hp0];simp
 have HPN:Hid (p≠[]):=hp0;have HQN:Hid (q≠[]):=hq0;have HPC:=Lib.hid h1;have HQC:=Lib.hid h2
 have HV:Hid (vd n p q=false):=by
  show _=_
  unfold vd
  rw [if_neg (by rintro (h9|h9);exact hp0 h9;exact hq0 h9),h1,h2]
  rfl
 clear hp0 hq0 h1 h2
 go_enter Tryd.func36,Tryd.ntmps36
 go_upto_region 1 with fail;obtain ⟨W0,hW0,hB0,hb⟩:=aT w 39 [.bool n,vS p,vS q];rw [← hW0];clear hW0;refine jp ?_;refine ja hB0 Tryd.underlying39 (by rfl) aF ?_;refine jn (rz) ?_;refine jv (.bool false) (fun X=>bW .eql 39 _ (.tmp 3) (.tmp 4) (by rfl) _ _ (by rfl) (by rfl) gE _ X ((eC X n false p q [] []).trans (by rw [HE.out]))) ?_;refine jzb hb fun X1 hX1 hb=>?_;have hB0:=hB0.bel hX1;go_upto_region 3 with fail;refine jp ?_;refine jn (vP w.heap.size 1) ?_;refine jf _ hB0 1 aM ?_;refine jv (.bool true) (dQ _ _ _ _ (by rfl) p ([]:List UInt8) (by rfl) (by rfl) true (mE HPN.out)) ?_;refine jm (.bool true) ?_;refine jn (vP w.heap.size 2) ?_;refine jf _ hB0 2 aM ?_;refine jv (.bool true) (dQ _ _ _ _ (by rfl) q ([]:List UInt8) (by rfl) (by rfl) true (mE HQN.out)) ?_;refine jm (.bool true) ?_;refine jm (.bool true) ?_;refine jn (vP w.heap.size 1) ?_;refine jf _ hB0 1 aM ?_;refine jc (.bool true) (fun X hX hF=>(lH p X).mono fun e X' ⟨h1,h2⟩=>⟨by rw [h1,HPC.out],dX h2⟩) ?_;refine jm (.bool true) ?_;refine jm (.bool true) ?_;refine jn (vP w.heap.size 2) ?_;refine jf _ hB0 2 aM ?_;refine jc (.bool false) (fun X hX hF=>(lH q X).mono fun e X' ⟨h1,h2⟩=>⟨by rw [h1,HQC.out],dX h2⟩) ?_;refine jm (.bool false) ?_;refine jm (.bool false) ?_;refine js ?_;refine js ?_
 refine js ?_;refine js ?_;refine js ?_;refine js ?_;refine jm (.bool false) ?_;refine jm (.bool false) ?_;refine jzb hb fun X2 hX2 hb=>?_;have hB0:=hB0.bel hX2
 go_wp2
 go_ret
 exact ⟨by rw [HV.out];rfl,hb⟩
theorem vYa (n:Bool) (p q:List UInt8) (w:World) (hp:p.length≤4194300) (hq:q.length≤4194300) (hp0:p≠[]) (hq0:q≠[]) (h1:cn p=true) (h2:cn q=true) (h3:Nat.gcd (val p) (val q)=1):Calls Tryd.prog 36 #[.agg #[.bool n,vS p,vS q]] w fun e w'=>e=.returned (.bool (vd n p q))∧Since w w':=by
 have HE:Hid ((n == false && p == [] && q == [])=false):=by show _=_;rw [iV hp0];simp
 have HPN:Hid (p≠[]):=hp0;have HQN:Hid (q≠[]):=hq0;have HPC:=Lib.hid h1;have HQC:=Lib.hid h2
 have HG:Hid (be (Nat.gcd (val p) (val q))=[1]):=by show _=_;rw [h3,be_one]
 have HV:Hid (vd n p q=true):=by
  show _=_
  unfold vd
  rw [if_neg (by rintro (h9|h9);exact hp0 h9;exact hq0 h9),h1,h2];rw [h3];rfl
 clear hp0 hq0 h1 h2 h3
 go_enter Tryd.func36,Tryd.ntmps36
 go_upto_region 1 with fail;obtain ⟨W0,hW0,hB0,hb⟩:=aT w 39 [.bool n,vS p,vS q];rw [← hW0];clear hW0;refine jp ?_;refine ja hB0 Tryd.underlying39 (by rfl) aF ?_;refine jn (rz) ?_;refine jv (.bool false) (fun X=>bW .eql 39 _ (.tmp 3) (.tmp 4) (by rfl) _ _ (by rfl) (by rfl) gE _ X ((eC X n false p q [] []).trans (by rw [HE.out]))) ?_;refine jzb hb fun X1 hX1 hb=>?_;have hB0:=hB0.bel hX1;go_upto_region 3 with fail;refine jp ?_;refine jn (vP w.heap.size 1) ?_;refine jf _ hB0 1 aM ?_;refine jv (.bool true) (dQ _ _ _ _ (by rfl) p ([]:List UInt8) (by rfl) (by rfl) true (mE HPN.out)) ?_;refine jm (.bool true) ?_;refine jn (vP w.heap.size 2) ?_;refine jf _ hB0 2 aM ?_;refine jv (.bool true) (dQ _ _ _ _ (by rfl) q ([]:List UInt8) (by rfl) (by rfl) true (mE HQN.out)) ?_;refine jm (.bool true) ?_;refine jm (.bool true) ?_;refine jn (vP w.heap.size 1) ?_;refine jf _ hB0 1 aM ?_;refine jc (.bool true) (fun X hX hF=>(lH p X).mono fun e X' ⟨h1,h2⟩=>⟨by rw [h1,HPC.out],dX h2⟩) ?_;refine jm (.bool true) ?_;refine jm (.bool true) ?_;refine jn (vP w.heap.size 2) ?_;refine jf _ hB0 2 aM ?_;refine jc (.bool true) (fun X hX hF=>(lH q X).mono fun e X' ⟨h1,h2⟩=>⟨by rw [h1,HQC.out],dX h2⟩) ?_;refine jm (.bool true) ?_;refine jm (.bool true) ?_;refine jn (vP w.heap.size 1) ?_
 refine jf _ hB0 1 aM ?_;refine jn (vP w.heap.size 2) ?_;refine jf _ hB0 2 aM ?_;refine jc (st (be (Nat.gcd (val p) (val q)))) (fun X hX hF=>qXa p q X (by omega) (by omega)) ?_;refine jv (.bool true) (dZ _ _ _ _ (by rfl) (be (Nat.gcd (val p) (val q))) ([1]:List UInt8) (by rfl) (by rfl) true (vB HG.out)) ?_;refine jm (.bool true) ?_;refine jm (.bool true) ?_;refine jzb hb fun X2 hX2 hb=>?_;have hB0:=hB0.bel hX2
 go_wp2
 go_ret
 exact ⟨by rw [HV.out];rfl,hb⟩
theorem vXz (n:Bool) (p q:List UInt8) (w:World) (hp:p.length≤4194300) (hq:q.length≤4194300) (hp0:p≠[]) (hq0:q≠[]) (h1:cn p=true) (h2:cn q=true) (h3:¬ Nat.gcd (val p) (val q)=1):Calls Tryd.prog 36 #[.agg #[.bool n,vS p,vS q]] w fun e w'=>e=.returned (.bool (vd n p q))∧Since w w':=by
 have HE:Hid ((n == false && p == [] && q == [])=false):=by show _=_;rw [iV hp0];simp
 have HPN:Hid (p≠[]):=hp0;have HQN:Hid (q≠[]):=hq0;have HPC:=Lib.hid h1;have HQC:=Lib.hid h2
 have HG:Hid (be (Nat.gcd (val p) (val q))≠[1]):=fun h9=>h3 (qZf (h9.trans be_one.symm))
 have HV:Hid (vd n p q=false):=by
  show _=_
  unfold vd
  rw [if_neg (by rintro (h9|h9);exact hp0 h9;exact hq0 h9),h1,h2]
  simp [h3]
 clear hp0 hq0 h1 h2 h3
 go_enter Tryd.func36,Tryd.ntmps36
 go_upto_region 1 with fail;obtain ⟨W0,hW0,hB0,hb⟩:=aT w 39 [.bool n,vS p,vS q];rw [← hW0];clear hW0;refine jp ?_;refine ja hB0 Tryd.underlying39 (by rfl) aF ?_;refine jn (rz) ?_;refine jv (.bool false) (fun X=>bW .eql 39 _ (.tmp 3) (.tmp 4) (by rfl) _ _ (by rfl) (by rfl) gE _ X ((eC X n false p q [] []).trans (by rw [HE.out]))) ?_;refine jzb hb fun X1 hX1 hb=>?_;have hB0:=hB0.bel hX1;go_upto_region 3 with fail;refine jp ?_;refine jn (vP w.heap.size 1) ?_;refine jf _ hB0 1 aM ?_;refine jv (.bool true) (dQ _ _ _ _ (by rfl) p ([]:List UInt8) (by rfl) (by rfl) true (mE HPN.out)) ?_;refine jm (.bool true) ?_;refine jn (vP w.heap.size 2) ?_;refine jf _ hB0 2 aM ?_;refine jv (.bool true) (dQ _ _ _ _ (by rfl) q ([]:List UInt8) (by rfl) (by rfl) true (mE HQN.out)) ?_;refine jm (.bool true) ?_;refine jm (.bool true) ?_;refine jn (vP w.heap.size 1) ?_;refine jf _ hB0 1 aM ?_;refine jc (.bool true) (fun X hX hF=>(lH p X).mono fun e X' ⟨h1,h2⟩=>⟨by rw [h1,HPC.out],dX h2⟩) ?_;refine jm (.bool true) ?_;refine jm (.bool true) ?_;refine jn (vP w.heap.size 2) ?_;refine jf _ hB0 2 aM ?_;refine jc (.bool true) (fun X hX hF=>(lH q X).mono fun e X' ⟨h1,h2⟩=>⟨by rw [h1,HQC.out],dX h2⟩) ?_;refine jm (.bool true) ?_;refine jm (.bool true) ?_;refine jn (vP w.heap.size 1) ?_
 refine jf _ hB0 1 aM ?_;refine jn (vP w.heap.size 2) ?_;refine jf _ hB0 2 aM ?_;refine jc (st (be (Nat.gcd (val p) (val q)))) (fun X hX hF=>qXa p q X (by omega) (by omega)) ?_;refine jv (.bool false) (dZ _ _ _ _ (by rfl) (be (Nat.gcd (val p) (val q))) ([1]:List UInt8) (by rfl) (by rfl) false (iV HG.out)) ?_;refine jm (.bool false) ?_;refine jm (.bool false) ?_;refine jzb hb fun X2 hX2 hb=>?_;have hB0:=hB0.bel hX2
 go_wp2
 go_ret
 exact ⟨by rw [HV.out];rfl,hb⟩
theorem sG (n:Bool) (p q:List UInt8) (w:World) (hp:p.length≤4194300) (hq:q.length≤4194300):Calls Tryd.prog 36 #[.agg #[.bool n,vS p,vS q]] w fun e w'=>e=.returned (.bool (vd n p q))∧Since w w':=by
 by_cases hp0:p=[]
 ·rcases h:(n == false && p == [] && q == []) with _|_
  ·exact vYe n p q w hp hq h hp0
  ·exact vYf n p q w hp hq h
 ·by_cases hq0:q=[]
  ·exact vYd n p q w hp hq hp0 hq0
  ·rcases h1:cn p with _|_
   ·exact vYc n p q w hp hq hp0 hq0 h1
   ·rcases h2:cn q with _|_
    ·exact vYb n p q w hp hq hp0 hq0 h1 h2
    ·by_cases h3:Nat.gcd (val p) (val q)=1
     ·exact vYa n p q w hp hq hp0 hq0 h1 h2 h3
     ·exact vXz n p q w hp hq hp0 hq0 h1 h2 h3
theorem of0 (n:Bool) (p q:List UInt8) (w:World) (hp:p.length≤4194300) (hq:q.length≤4194300) (h0:p=[]):Calls Tryd.prog 26 #[.agg #[.bool n,vS p,vS q]] w fun e w'=>e=.returned (.agg #[.bool (rN (rq n p q)),vS (be (rq n p q).num.natAbs),vS (be (rq n p q).den)])∧Since w w':=by
 have HP0:Hid (p=[]):=h0
 have HX:Hid (rq n p q=0):=by
  show _=_
  unfold rq
  split
  ·rename_i h
   unfold vd at h
   rw [if_pos (.inl h0)] at h;simp only [Bool.and_eq_true,Bool.not_eq_true',beq_iff_eq] at h;obtain ⟨⟨rfl,rfl⟩,rfl⟩:=h
   rfl
  ·rfl
 clear h0
 go_enter Tryd.func26,Tryd.ntmps26
 go_upto_region 1 with fail;obtain ⟨W0,hW0,hB0,hB1,hb⟩:=cF w 39 85 [.bool n,vS p,vS q] [.bool false,.string ⟨#[]⟩,.string ⟨#[]⟩];rw [← hW0];clear hW0;refine jp ?_;refine jn (vP w.heap.size 1) ?_;refine jf _ hB0 1 aM ?_;refine jv (.bool true) (dZ _ _ _ _ (by rfl) p ([]:List UInt8) (by rfl) (by rfl) true (vB HP0.out)) ?_;refine jm (.bool true) ?_;refine js ?_;refine js ?_;refine js ?_;refine jm (.bool true) ?_;refine jzb hb fun X1 hX1 hb=>?_;obtain ⟨hB0,hB1⟩:=bl2 hX1 hB0 hB1;go_upto_region 2 with fail;refine jq 1 ?_;refine jn (rt false [] ([1]:List UInt8)) ?_;refine jzb hb fun X2 hX2 hb=>?_;obtain ⟨hB0,hB1⟩:=bl2 hX2 hB0 hB1;refine osb 85 2 11 (w.heap.size+1) 85 hB1 [.bool false,vS ([]:List UInt8),vS ([1]:List UInt8)] bK ?_;intro w9 hR9 hO9 hB9 hs9;have hb9:=hB9 _ _ hb (by omega);clear hO9 hB9
 go_wp2
 refine bL rfl rfl (by rfl) Tryd.underlying85 rfl hR9 bK ⟨by rw [HX.out];rfl,hb9⟩
theorem of1 (n:Bool) (p q:List UInt8) (w:World) (hp:p.length≤4194300) (hq:q.length≤4194300) (h0:p≠[]) (hv:vd n p q=false):Calls Tryd.prog 26 #[.agg #[.bool n,vS p,vS q]] w fun e w'=>e=.returned (.agg #[.bool (rN (rq n p q)),vS (be (rq n p q).num.natAbs),vS (be (rq n p q).den)])∧Since w w':=by
 have HP0:Hid (p≠[]):=h0;have HV:=Lib.hid hv;have HX:Hid (rq n p q=0):=rV hv;clear h0 hv
 go_enter Tryd.func26,Tryd.ntmps26
 go_upto_region 1 with fail;obtain ⟨W0,hW0,hB0,hB1,hb⟩:=cF w 39 85 [.bool n,vS p,vS q] [.bool false,.string ⟨#[]⟩,.string ⟨#[]⟩];rw [← hW0];clear hW0;refine jp ?_;refine jn (vP w.heap.size 1) ?_;refine jf _ hB0 1 aM ?_;refine jv (.bool false) (dZ _ _ _ _ (by rfl) p ([]:List UInt8) (by rfl) (by rfl) false (iV HP0.out)) ?_;refine jm (.bool false) ?_;refine ja hB0 Tryd.underlying39 (by rfl) aF ?_;refine jc (.bool false) (fun X hX hF=>mo (sG n p q X hp hq) (by rw [HV.out])) ?_;refine jm (.bool true) ?_;refine jm (.bool true) ?_;refine jzb hb fun X1 hX1 hb=>?_;obtain ⟨hB0,hB1⟩:=bl2 hX1 hB0 hB1;go_upto_region 2 with fail;refine jq 1 ?_;refine jn (rt false [] ([1]:List UInt8)) ?_;refine jzb hb fun X2 hX2 hb=>?_;obtain ⟨hB0,hB1⟩:=bl2 hX2 hB0 hB1;refine osb 85 2 11 (w.heap.size+1) 85 hB1 [.bool false,vS ([]:List UInt8),vS ([1]:List UInt8)] bK ?_;intro w9 hR9 hO9 hB9 hs9;have hb9:=hB9 _ _ hb (by omega);clear hO9 hB9
 go_wp2
 refine bL rfl rfl (by rfl) Tryd.underlying85 rfl hR9 bK ⟨by rw [HX.out];rfl,hb9⟩
theorem of2 (n:Bool) (p q:List UInt8) (w:World) (hp:p.length≤4194300) (hq:q.length≤4194300) (h0:p≠[]) (hv:vd n p q=true):Calls Tryd.prog 26 #[.agg #[.bool n,vS p,vS q]] w fun e w'=>e=.returned (.agg #[.bool (rN (rq n p q)),vS (be (rq n p q).num.natAbs),vS (be (rq n p q).den)])∧Since w w':=by
 have HP0:Hid (p≠[]):=h0;have HV:=Lib.hid hv;have hvv:=oZ hv;have HN:=Lib.hid hvv.1;have HP1:Hid (be (rq n p q).num.natAbs=p):=hvv.2.1;have HD1:Hid (be (rq n p q).den=q):=hvv.2.2.2 h0;clear h0 hv hvv
 go_enter Tryd.func26,Tryd.ntmps26
 go_upto_region 1 with fail;obtain ⟨W0,hW0,hB0,hB1,hb⟩:=cF w 39 85 [.bool n,vS p,vS q] [.bool false,.string ⟨#[]⟩,.string ⟨#[]⟩];rw [← hW0];clear hW0;refine jp ?_;refine jn (vP w.heap.size 1) ?_;refine jf _ hB0 1 aM ?_;refine jv (.bool false) (dZ _ _ _ _ (by rfl) p ([]:List UInt8) (by rfl) (by rfl) false (iV HP0.out)) ?_;refine jm (.bool false) ?_;refine ja hB0 Tryd.underlying39 (by rfl) aF ?_;refine jc (.bool true) (fun X hX hF=>mo (sG n p q X hp hq) (by rw [HV.out])) ?_;refine jm (.bool false) ?_;refine jm (.bool false) ?_;refine jzb hb fun X1 hX1 hb=>?_;obtain ⟨hB0,hB1⟩:=bl2 hX1 hB0 hB1;go_upto_region 3 with fail;refine jq 7 ?_;refine jn (vP w.heap.size 0) ?_;refine jf _ hB0 0 aS ?_;refine jn (vP w.heap.size 1) ?_;refine jf _ hB0 1 aM ?_;refine jn (vP w.heap.size 2) ?_;refine jf _ hB0 2 aM ?_;refine jn (rt n p q) ?_;refine jzb hb fun X2 hX2 hb=>?_;obtain ⟨hB0,hB1⟩:=bl2 hX2 hB0 hB1;refine osb 85 2 18 (w.heap.size+1) 85 hB1 [.bool n,vS p,vS q] bK ?_;intro w9 hR9 hO9 hB9 hs9;have hb9:=hB9 _ _ hb (by omega);clear hO9 hB9
 go_wp2
 refine bL rfl rfl (by rfl) Tryd.underlying85 rfl hR9 bK ⟨by rw [HN.out,HP1.out,HD1.out],hb9⟩
theorem ofQ (n:Bool) (p q:List UInt8) (w:World) (hp:p.length≤4194300) (hq:q.length≤4194300):Calls Tryd.prog 26 #[.agg #[.bool n,vS p,vS q]] w fun e w'=>e=.returned (.agg #[.bool (rN (rq n p q)),vS (be (rq n p q).num.natAbs),vS (be (rq n p q).den)])∧Since w w':=by
 by_cases h0:p=[]
 ·exact of0 n p q w hp hq h0
 ·rcases hv:vd n p q with _|_
  ·exact of1 n p q w hp hq h0 hv
  ·exact of2 n p q w hp hq h0 hv
theorem low0 (n:Bool) (p d:Nat) (w:World) (hd:0<d) (hp:(be p).length≤4194300) (hq:(be d).length≤4194300) (h0:p=0):Calls Tryd.prog 42 #[.agg #[.bool n,vS (be p),vS (be d)]] w fun e w'=>e=.returned (rbv (mkRat (sg n p) d))∧Since w w':=by
 have HE:Hid (be p=[]):=be_nil.2 h0
 have HX:Hid (rN (mkRat (sg n p) d)=false∧rP (mkRat (sg n p) d)=[]∧rD (mkRat (sg n p) d)=[]):=by show _∧_;rw [h0,jZ];exact wC
 clear h0
 go_enter Tryd.func42,Tryd.ntmps42
 go_upto_region 1 with fail;obtain ⟨W0,hW0,hB0,hB1,hb⟩:=cF w 85 39 [.bool n,vS (be p),vS (be d)] [.bool false,.string ⟨#[]⟩,.string ⟨#[]⟩];rw [← hW0];clear hW0;refine jp ?_;refine jn (vP w.heap.size 1) ?_;refine jf _ hB0 1 aM ?_;refine jv (.bool true) (dZ _ _ _ _ (by rfl) (be p) ([]:List UInt8) (by rfl) (by rfl) true (vB HE.out)) ?_;refine jzb hb fun X1 hX1 hb=>?_;obtain ⟨hB0,hB1⟩:=bl2 hX1 hB0 hB1;go_upto_region 2 with fail;refine jq 1 ?_;refine jn (rz) ?_;refine jzb hb fun X2 hX2 hb=>?_;obtain ⟨hB0,hB1⟩:=bl2 hX2 hB0 hB1;refine osb 39 2 13 (w.heap.size+1) 39 hB1 [.bool false,.string ⟨#[]⟩,.string ⟨#[]⟩] aF ?_;intro w9 hR9 hO9 hB9 hs9;have hb9:=hB9 _ _ hb (by omega);clear hO9 hB9
 go_wp2
 refine bL rfl rfl (by rfl) Tryd.underlying39 rfl hR9 aF ⟨by rw [sI HX.out],hb9⟩
theorem low1 (n:Bool) (p d:Nat) (w:World) (hd:0<d) (hp:(be p).length≤4194300) (hq:(be d).length≤4194300) (h0:0<p):Calls Tryd.prog 42 #[.agg #[.bool n,vS (be p),vS (be d)]] w fun e w'=>e=.returned (rbv (mkRat (sg n p) d))∧Since w w':=by
 have HE:Hid (be p≠[]):=qZe h0;have HX:=Lib.hid (zT n h0 hd);have HGP:Hid (0<Nat.gcd p d):=Nat.gcd_pos_of_pos_left d h0;have hgl:=yW (Nat.gcd_le_left d h0);clear h0
 go_enter Tryd.func42,Tryd.ntmps42
 go_upto_region 1 with fail;obtain ⟨W0,hW0,hB0,hB1,hb⟩:=cF w 85 39 [.bool n,vS (be p),vS (be d)] [.bool false,.string ⟨#[]⟩,.string ⟨#[]⟩];rw [← hW0];clear hW0;refine jp ?_;refine jn (vP w.heap.size 1) ?_;refine jf _ hB0 1 aM ?_;refine jv (.bool false) (dZ _ _ _ _ (by rfl) (be p) ([]:List UInt8) (by rfl) (by rfl) false (iV HE.out)) ?_;refine jzb hb fun X1 hX1 hb=>?_;obtain ⟨hB0,hB1⟩:=bl2 hX1 hB0 hB1;go_upto_region 3 with fail;refine jp ?_;refine jn (vP w.heap.size 1) ?_;refine jf _ hB0 1 aM ?_;refine jn (vP w.heap.size 2) ?_;refine jf _ hB0 2 aM ?_;refine jc (st (be (Nat.gcd p d))) (fun X hX hF=>mo (qXa (be p) (be d) X (by omega) (by omega)) (by rw [aV,aV])) ?_;refine jm (st (be (Nat.gcd p d))) ?_;refine jzb hb fun X2 hX2 hb=>?_;obtain ⟨hB0,hB1⟩:=bl2 hX2 hB0 hB1;go_upto_region 4 with fail;refine jp ?_;refine jn (vP w.heap.size 1) ?_;refine jf _ hB0 1 aM ?_;refine jm (st (be (Nat.gcd p d))) ?_;refine jc (.tuple #[st (be (p / (Nat.gcd p d))),st (be (p % (Nat.gcd p d))),vI 0]) (fun X hX hF=>mo (vXk (be p) (be (Nat.gcd p d)) X (by omega) (by omega) (by rw [aV];exact HGP.out)) (by simp only [aV])) ?_;refine jm (.tuple #[st (be (p / (Nat.gcd p d))),st (be (p % (Nat.gcd p d))),vI 0]) ?_;refine jm (st (be (p / (Nat.gcd p d)))) ?_;refine jm (st (be (p % (Nat.gcd p d)))) ?_
 refine jm (vI 0) ?_;refine jm (st (be (p / (Nat.gcd p d)))) ?_;refine jm (st (be (p % (Nat.gcd p d)))) ?_;refine jm (vI 0) ?_;refine jzb hb fun X3 hX3 hb=>?_;obtain ⟨hB0,hB1⟩:=bl2 hX3 hB0 hB1;go_upto_region 5 with fail;refine jp ?_;refine jn (vP w.heap.size 2) ?_;refine jf _ hB0 2 aM ?_;refine jm (st (be (Nat.gcd p d))) ?_;refine jc (.tuple #[st (be (d / (Nat.gcd p d))),st (be (d % (Nat.gcd p d))),vI 0]) (fun X hX hF=>mo (vXk (be d) (be (Nat.gcd p d)) X (by omega) (by omega) (by rw [aV];exact HGP.out)) (by simp only [aV])) ?_;refine jm (.tuple #[st (be (d / (Nat.gcd p d))),st (be (d % (Nat.gcd p d))),vI 0]) ?_;refine jm (st (be (d / (Nat.gcd p d)))) ?_;refine jm (st (be (d % (Nat.gcd p d)))) ?_;refine jm (vI 0) ?_;refine jm (st (be (d / (Nat.gcd p d)))) ?_;refine jm (st (be (d % (Nat.gcd p d)))) ?_;refine jm (vI 0) ?_;refine jzb hb fun X4 hX4 hb=>?_;obtain ⟨hB0,hB1⟩:=bl2 hX4 hB0 hB1;go_upto_region 6 with fail;refine jq 5 ?_;refine jn (vP w.heap.size 0) ?_;refine jf _ hB0 0 aS ?_;refine jm (st (be (p / (Nat.gcd p d)))) ?_;refine jm (st (be (d / (Nat.gcd p d)))) ?_;refine jn (rt n (be (p / (Nat.gcd p d))) (be (d / (Nat.gcd p d)))) ?_;refine jzb hb fun X5 hX5 hb=>?_;obtain ⟨hB0,hB1⟩:=bl2 hX5 hB0 hB1;refine osb 39 2 39 (w.heap.size+1) 39 hB1 [.bool n,.string ⟨(be (p / (Nat.gcd p d))).toArray⟩,.string ⟨(be (d / (Nat.gcd p d))).toArray⟩] aF ?_;intro w9 hR9 hO9 hB9 hs9
 have hb9:=hB9 _ _ hb (by omega);clear hO9 hB9
 go_wp2
 refine bL rfl rfl (by rfl) Tryd.underlying39 rfl hR9 aF ⟨by rw [sI HX.out],hb9⟩
theorem vZu (x:Rat) (B:Nat) (v:Value) (w:World) (h:IsF x B v w) (hB:B≤4194300):Calls Tryd.prog 42 #[v] w fun e w'=>e=.returned (rbv x)∧Since w w':=by
 obtain ⟨n,p,d,rfl,hd,rfl,hp,hq⟩:=h
 rcases Nat.eq_zero_or_pos p with h0|h0
 ·exact low0 n p d w hd (by omega) (by omega) h0
 ·exact low1 n p d w hd (by omega) (by omega) h0
theorem zP (p d q c B B':Nat) (w:World) (hp:(be p).length≤B) (hd:(be d).length≤B) (hq:(be q).length≤B') (he:(be c).length≤B') (hB:B+B'≤4194200) :Calls Tryd.prog 27 #[.agg #[.bool true,vS (be p),vS (be d)],.agg #[.bool true,vS (be q),vS (be c)]] w fun e w'=>e=.returned (.agg #[.bool true,vS (be (p * c+q * d)),vS (be (d * c))])∧Since w w':=by
 have lpe:=bM hp he;have lqd:=bM hq hd;have lde:=bM hd he;have lsum:=hH lpe lqd
 go_enter Tryd.func27,Tryd.ntmps27
 go_upto_region 1 with fail;obtain ⟨W0,hW0,hB0,hB1,hB2,hb⟩:=bV w 85 85 85 [.bool true,vS (be p),vS (be d)] [.bool true,vS (be q),vS (be c)] [.bool false,.string ⟨#[]⟩,.string ⟨#[]⟩];rw [← hW0];clear hW0;refine jd ?_;refine jn (vP w.heap.size 1) ?_;refine jf _ hB0 1 aM ?_;refine jn (vP (w.heap.size+1) 2) ?_;refine jf _ hB1 2 aM ?_;refine jc (st (be (p * c))) (fun X hX hF=>mo (dS (be p) (be c) X (by omega) (by omega)) (by rw [aV,aV])) ?_;refine jn (vP (w.heap.size+1) 1) ?_;refine jf _ hB1 1 aM ?_;refine jn (vP w.heap.size 2) ?_;refine jf _ hB0 2 aM ?_;refine jc (st (be (q * d))) (fun X hX hF=>mo (dS (be q) (be d) X (by omega) (by omega)) (by rw [aV,aV])) ?_;refine jn (vP w.heap.size 2) ?_;refine jf _ hB0 2 aM ?_;refine jn (vP (w.heap.size+1) 2) ?_;refine jf _ hB1 2 aM ?_;refine jc (st (be (d * c))) (fun X hX hF=>mo (dS (be d) (be c) X (by omega) (by omega)) (by rw [aV,aV])) ?_;refine jm (st (be (p * c))) ?_;refine jm (st (be (q * d))) ?_;refine jm (st (be (d * c))) ?_;refine jzb hb fun X1 hX1 hb=>?_;obtain ⟨hB0,hB1,hB2⟩:=bl3 hX1 hB0 hB1 hB2;go_upto_region 2 with fail;refine jp ?_;refine jn (vP w.heap.size 0) ?_;refine jf _ hB0 0 aS ?_;refine jn (vP (w.heap.size+1) 0) ?_
 refine jf _ hB1 0 aS ?_;refine jm (.bool true) ?_;refine jzb hb fun X2 hX2 hb=>?_;obtain ⟨hB0,hB1,hB2⟩:=bl3 hX2 hB0 hB1 hB2;go_upto_region 3 with fail;refine bD [] (by kernel_rfl) (by kernel_rfl) (by kernel_rfl) rfl (aG) ?_;simp only [its,List.dropLast,Nat.zero_add,Nat.reduceAdd];refine jn (vP w.heap.size 0) ?_;refine jf _ hB0 0 aS ?_;refine jm (st (be (p * c))) ?_;refine jm (st (be (q * d))) ?_;refine jc (st (be (p * c+q * d))) (fun X hX hF=>mo (vXl (be (p * c)) (be (q * d)) X (by omega) (by omega)) (by rw [aV,aV])) ?_;refine jm (st (be (d * c))) ?_;refine jn (rt true (be (p * c+q * d)) (be (d * c))) ?_;refine jzb hb fun X3 hX3 hb=>?_;obtain ⟨hB0,hB1,hB2⟩:=bl3 hX3 hB0 hB1 hB2;refine osb 85 4 36 (w.heap.size+2) 85 hB2 [.bool true,vS (be (p * c+q * d)),vS (be (d * c))] bK ?_;intro w9 hR9 hO9 hB9 hs9;have hb9:=hB9 _ _ hb (by omega);clear hO9 hB9
 go_wp2
 refine bL rfl rfl (by rfl) Tryd.underlying85 rfl hR9 bK ⟨rfl,hb9⟩
theorem wB (p d q c B B':Nat) (w:World) (hp:(be p).length≤B) (hd:(be d).length≤B) (hq:(be q).length≤B') (he:(be c).length≤B') (hB:B+B'≤4194200) :Calls Tryd.prog 27 #[.agg #[.bool false,vS (be p),vS (be d)],.agg #[.bool false,vS (be q),vS (be c)]] w fun e w'=>e=.returned (.agg #[.bool false,vS (be (p * c+q * d)),vS (be (d * c))])∧Since w w':=by
 have lpe:=bM hp he;have lqd:=bM hq hd;have lde:=bM hd he;have lsum:=hH lpe lqd
 go_enter Tryd.func27,Tryd.ntmps27
 go_upto_region 1 with fail;obtain ⟨W0,hW0,hB0,hB1,hB2,hb⟩:=bV w 85 85 85 [.bool false,vS (be p),vS (be d)] [.bool false,vS (be q),vS (be c)] [.bool false,.string ⟨#[]⟩,.string ⟨#[]⟩];rw [← hW0];clear hW0;refine jd ?_;refine jn (vP w.heap.size 1) ?_;refine jf _ hB0 1 aM ?_;refine jn (vP (w.heap.size+1) 2) ?_;refine jf _ hB1 2 aM ?_;refine jc (st (be (p * c))) (fun X hX hF=>mo (dS (be p) (be c) X (by omega) (by omega)) (by rw [aV,aV])) ?_;refine jn (vP (w.heap.size+1) 1) ?_;refine jf _ hB1 1 aM ?_;refine jn (vP w.heap.size 2) ?_;refine jf _ hB0 2 aM ?_;refine jc (st (be (q * d))) (fun X hX hF=>mo (dS (be q) (be d) X (by omega) (by omega)) (by rw [aV,aV])) ?_;refine jn (vP w.heap.size 2) ?_;refine jf _ hB0 2 aM ?_;refine jn (vP (w.heap.size+1) 2) ?_;refine jf _ hB1 2 aM ?_;refine jc (st (be (d * c))) (fun X hX hF=>mo (dS (be d) (be c) X (by omega) (by omega)) (by rw [aV,aV])) ?_;refine jm (st (be (p * c))) ?_;refine jm (st (be (q * d))) ?_;refine jm (st (be (d * c))) ?_;refine jzb hb fun X1 hX1 hb=>?_;obtain ⟨hB0,hB1,hB2⟩:=bl3 hX1 hB0 hB1 hB2;go_upto_region 2 with fail;refine jp ?_;refine jn (vP w.heap.size 0) ?_;refine jf _ hB0 0 aS ?_;refine jn (vP (w.heap.size+1) 0) ?_
 refine jf _ hB1 0 aS ?_;refine jm (.bool true) ?_;refine jzb hb fun X2 hX2 hb=>?_;obtain ⟨hB0,hB1,hB2⟩:=bl3 hX2 hB0 hB1 hB2;go_upto_region 3 with fail;refine bD [] (by kernel_rfl) (by kernel_rfl) (by kernel_rfl) rfl (aG) ?_;simp only [its,List.dropLast,Nat.zero_add,Nat.reduceAdd];refine jn (vP w.heap.size 0) ?_;refine jf _ hB0 0 aS ?_;refine jm (st (be (p * c))) ?_;refine jm (st (be (q * d))) ?_;refine jc (st (be (p * c+q * d))) (fun X hX hF=>mo (vXl (be (p * c)) (be (q * d)) X (by omega) (by omega)) (by rw [aV,aV])) ?_;refine jm (st (be (d * c))) ?_;refine jn (rt false (be (p * c+q * d)) (be (d * c))) ?_;refine jzb hb fun X3 hX3 hb=>?_;obtain ⟨hB0,hB1,hB2⟩:=bl3 hX3 hB0 hB1 hB2;refine osb 85 4 36 (w.heap.size+2) 85 hB2 [.bool false,vS (be (p * c+q * d)),vS (be (d * c))] bK ?_;intro w9 hR9 hO9 hB9 hs9;have hb9:=hB9 _ _ hb (by omega);clear hO9 hB9
 go_wp2
 refine bL rfl rfl (by rfl) Tryd.underlying85 rfl hR9 bK ⟨rfl,hb9⟩
theorem sK (p d q c B B':Nat) (w:World) (hp:(be p).length≤B) (hd:(be d).length≤B) (hq:(be q).length≤B') (he:(be c).length≤B') (hB:B+B'≤4194200) (hlt:p * c<q * d):Calls Tryd.prog 27 #[.agg #[.bool true,vS (be p),vS (be d)],.agg #[.bool false,vS (be q),vS (be c)]] w fun e w'=>e=.returned (.agg #[.bool false,vS (be (q * d-p * c)),vS (be (d * c))])∧Since w w':=by
 have lpe:=bM hp he;have lqd:=bM hq hd;have lde:=bM hd he;have lsum:=hH lpe lqd;have lsub:=iK (Nat.sub_le (q * d) (p * c)) lqd
 go_enter Tryd.func27,Tryd.ntmps27
 go_upto_region 1 with fail;obtain ⟨W0,hW0,hB0,hB1,hB2,hb⟩:=bV w 85 85 85 [.bool true,vS (be p),vS (be d)] [.bool false,vS (be q),vS (be c)] [.bool false,.string ⟨#[]⟩,.string ⟨#[]⟩];rw [← hW0];clear hW0;refine jd ?_;refine jn (vP w.heap.size 1) ?_;refine jf _ hB0 1 aM ?_;refine jn (vP (w.heap.size+1) 2) ?_;refine jf _ hB1 2 aM ?_;refine jc (st (be (p * c))) (fun X hX hF=>mo (dS (be p) (be c) X (by omega) (by omega)) (by rw [aV,aV])) ?_;refine jn (vP (w.heap.size+1) 1) ?_;refine jf _ hB1 1 aM ?_;refine jn (vP w.heap.size 2) ?_;refine jf _ hB0 2 aM ?_;refine jc (st (be (q * d))) (fun X hX hF=>mo (dS (be q) (be d) X (by omega) (by omega)) (by rw [aV,aV])) ?_;refine jn (vP w.heap.size 2) ?_;refine jf _ hB0 2 aM ?_;refine jn (vP (w.heap.size+1) 2) ?_;refine jf _ hB1 2 aM ?_;refine jc (st (be (d * c))) (fun X hX hF=>mo (dS (be d) (be c) X (by omega) (by omega)) (by rw [aV,aV])) ?_;refine jm (st (be (p * c))) ?_;refine jm (st (be (q * d))) ?_;refine jm (st (be (d * c))) ?_;refine jzb hb fun X1 hX1 hb=>?_;obtain ⟨hB0,hB1,hB2⟩:=bl3 hX1 hB0 hB1 hB2;go_upto_region 2 with fail;refine jp ?_;refine jn (vP w.heap.size 0) ?_;refine jf _ hB0 0 aS ?_;refine jn (vP (w.heap.size+1) 0) ?_
 refine jf _ hB1 0 aS ?_;refine jm (.bool false) ?_;refine jzb hb fun X2 hX2 hb=>?_;obtain ⟨hB0,hB1,hB2⟩:=bl3 hX2 hB0 hB1 hB2;go_upto_region 4 with fail;refine jp ?_;refine jm (st (be (p * c))) ?_;refine jm (st (be (q * d))) ?_;refine jc (vI (cD ((p * c:Nat):Int) ((q * d:Nat):Int))) (fun X hX hF=>mo (xW (be (p * c)) (be (q * d)) X (by omega) (by omega)) (by rw [aV,aV])) ?_;refine jv (.bool true) (dK _ _ _ _ (by rfl) .i64 (cD ((p * c:Nat):Int) ((q * d:Nat):Int)) 0 (by rfl) (by rfl) true (by rw [fG (by omega)];rfl)) ?_;refine jzb hb fun X3 hX3 hb=>?_;obtain ⟨hB0,hB1,hB2⟩:=bl3 hX3 hB0 hB1 hB2;go_upto_region 5 with fail;refine bD [] (by kernel_rfl) (by kernel_rfl) (by kernel_rfl) rfl (aG) ?_;simp only [its,List.dropLast,Nat.zero_add,Nat.reduceAdd];refine jm (st (be (q * d))) ?_;refine jm (st (be (p * c))) ?_;refine jn (vP (w.heap.size+1) 0) ?_;refine jf _ hB1 0 aS ?_;refine jm (st (be (q * d))) ?_;refine jm (st (be (p * c))) ?_;refine jn (vP w.heap.size 0) ?_;refine jzb hb fun X4 hX4 hb=>?_;obtain ⟨hB0,hB1,hB2⟩:=bl3 hX4 hB0 hB1 hB2;refine iN rfl w.heap.size 0 85 _ hB0 (.bool false) (by simp) (fun X u h1 h2=>fS _ _ (by rfl) _ _ (by rfl) (by rfl) u X h1 h2) ?_;intro w5 hR5 hO5 hB5;have hb:=hB5 _ _ hb (by omega);have hB1:=hO5 _ _ _ (by omega) hB1;have hB2:=hO5 _ _ _ (by omega) hB2;have hB0:=hR5;clear hR5 hO5 hB5;go_upto_region 6 with fail
 refine jp ?_;refine jm (st (be (q * d))) ?_;refine jm (st (be (p * c))) ?_;refine jc (.tuple #[st (be (q * d-p * c)),vI 0]) (fun X hX hF=>mo (xV (be (q * d)) (be (p * c)) X (by omega) (by omega) (by rw [aV,aV];omega)) (by rw [aV,aV])) ?_;refine jm (.tuple #[st (be (q * d-p * c)),vI 0]) ?_;refine jm (st (be (q * d-p * c))) ?_;refine jm (vI 0) ?_;refine jm (st (be (q * d-p * c))) ?_;refine jm (vI 0) ?_;refine jzb hb fun X5 hX5 hb=>?_;obtain ⟨hB0,hB1,hB2⟩:=bl3 hX5 hB0 hB1 hB2;go_upto_region 7 with fail;refine jq 5 ?_;refine jn (vP w.heap.size 0) ?_;refine jf _ hB0 0 aS ?_;refine jm (st (be (q * d-p * c))) ?_;refine jm (st (be (d * c))) ?_;refine jn (rt false (be (q * d-p * c)) (be (d * c))) ?_;refine jzb hb fun X6 hX6 hb=>?_;obtain ⟨hB0,hB1,hB2⟩:=bl3 hX6 hB0 hB1 hB2;refine osb 85 4 56 (w.heap.size+2) 85 hB2 [.bool false,vS (be (q * d-p * c)),vS (be (d * c))] bK ?_;intro w9 hR9 hO9 hB9 hs9;have hb9:=hB9 _ _ hb (by omega);clear hO9 hB9
 go_wp2
 refine bL rfl rfl (by rfl) Tryd.underlying85 rfl hR9 bK ⟨rfl,hb9⟩
theorem sL (p d q c B B':Nat) (w:World) (hp:(be p).length≤B) (hd:(be d).length≤B) (hq:(be q).length≤B') (he:(be c).length≤B') (hB:B+B'≤4194200) (hge:q * d≤p * c):Calls Tryd.prog 27 #[.agg #[.bool true,vS (be p),vS (be d)],.agg #[.bool false,vS (be q),vS (be c)]] w fun e w'=>e=.returned (.agg #[.bool true,vS (be (p * c-q * d)),vS (be (d * c))])∧Since w w':=by
 have lpe:=bM hp he;have lqd:=bM hq hd;have lde:=bM hd he;have lsum:=hH lpe lqd;have lsub:=iK (Nat.sub_le (p * c) (q * d)) lpe
 go_enter Tryd.func27,Tryd.ntmps27
 go_upto_region 1 with fail;obtain ⟨W0,hW0,hB0,hB1,hB2,hb⟩:=bV w 85 85 85 [.bool true,vS (be p),vS (be d)] [.bool false,vS (be q),vS (be c)] [.bool false,.string ⟨#[]⟩,.string ⟨#[]⟩];rw [← hW0];clear hW0;refine jd ?_;refine jn (vP w.heap.size 1) ?_;refine jf _ hB0 1 aM ?_;refine jn (vP (w.heap.size+1) 2) ?_;refine jf _ hB1 2 aM ?_;refine jc (st (be (p * c))) (fun X hX hF=>mo (dS (be p) (be c) X (by omega) (by omega)) (by rw [aV,aV])) ?_;refine jn (vP (w.heap.size+1) 1) ?_;refine jf _ hB1 1 aM ?_;refine jn (vP w.heap.size 2) ?_;refine jf _ hB0 2 aM ?_;refine jc (st (be (q * d))) (fun X hX hF=>mo (dS (be q) (be d) X (by omega) (by omega)) (by rw [aV,aV])) ?_;refine jn (vP w.heap.size 2) ?_;refine jf _ hB0 2 aM ?_;refine jn (vP (w.heap.size+1) 2) ?_;refine jf _ hB1 2 aM ?_;refine jc (st (be (d * c))) (fun X hX hF=>mo (dS (be d) (be c) X (by omega) (by omega)) (by rw [aV,aV])) ?_;refine jm (st (be (p * c))) ?_;refine jm (st (be (q * d))) ?_;refine jm (st (be (d * c))) ?_;refine jzb hb fun X1 hX1 hb=>?_;obtain ⟨hB0,hB1,hB2⟩:=bl3 hX1 hB0 hB1 hB2;go_upto_region 2 with fail;refine jp ?_;refine jn (vP w.heap.size 0) ?_;refine jf _ hB0 0 aS ?_;refine jn (vP (w.heap.size+1) 0) ?_
 refine jf _ hB1 0 aS ?_;refine jm (.bool false) ?_;refine jzb hb fun X2 hX2 hb=>?_;obtain ⟨hB0,hB1,hB2⟩:=bl3 hX2 hB0 hB1 hB2;go_upto_region 4 with fail;refine jp ?_;refine jm (st (be (p * c))) ?_;refine jm (st (be (q * d))) ?_;refine jc (vI (cD ((p * c:Nat):Int) ((q * d:Nat):Int))) (fun X hX hF=>mo (xW (be (p * c)) (be (q * d)) X (by omega) (by omega)) (by rw [aV,aV])) ?_;refine bR (cD ((p * c:Nat):Int) ((q * d:Nat):Int)) 0 (by unfold cD;rw [if_neg (by omega)];split <;> omega) ?_;refine jzb hb fun X3 hX3 hb=>?_;obtain ⟨hB0,hB1,hB2⟩:=bl3 hX3 hB0 hB1 hB2;go_upto_region 6 with fail;refine jp ?_;refine jm (st (be (p * c))) ?_;refine jm (st (be (q * d))) ?_;refine jc (.tuple #[st (be (p * c-q * d)),vI 0]) (fun X hX hF=>mo (xV (be (p * c)) (be (q * d)) X (by omega) (by omega) (by rw [aV,aV];omega)) (by rw [aV,aV])) ?_;refine jm (.tuple #[st (be (p * c-q * d)),vI 0]) ?_;refine jm (st (be (p * c-q * d))) ?_;refine jm (vI 0) ?_;refine jm (st (be (p * c-q * d))) ?_;refine jm (vI 0) ?_;refine jzb hb fun X4 hX4 hb=>?_;obtain ⟨hB0,hB1,hB2⟩:=bl3 hX4 hB0 hB1 hB2;go_upto_region 7 with fail;refine jq 5 ?_;refine jn (vP w.heap.size 0) ?_;refine jf _ hB0 0 aS ?_;refine jm (st (be (p * c-q * d))) ?_;refine jm (st (be (d * c))) ?_;refine jn (rt true (be (p * c-q * d)) (be (d * c))) ?_;refine jzb hb fun X5 hX5 hb=>?_;obtain ⟨hB0,hB1,hB2⟩:=bl3 hX5 hB0 hB1 hB2
 refine osb 85 4 56 (w.heap.size+2) 85 hB2 [.bool true,vS (be (p * c-q * d)),vS (be (d * c))] bK ?_;intro w9 hR9 hO9 hB9 hs9;have hb9:=hB9 _ _ hb (by omega);clear hO9 hB9
 go_wp2
 refine bL rfl rfl (by rfl) Tryd.underlying85 rfl hR9 bK ⟨rfl,hb9⟩
theorem qW (p d q c B B':Nat) (w:World) (hp:(be p).length≤B) (hd:(be d).length≤B) (hq:(be q).length≤B') (he:(be c).length≤B') (hB:B+B'≤4194200) (hlt:p * c<q * d):Calls Tryd.prog 27 #[.agg #[.bool false,vS (be p),vS (be d)],.agg #[.bool true,vS (be q),vS (be c)]] w fun e w'=>e=.returned (.agg #[.bool true,vS (be (q * d-p * c)),vS (be (d * c))])∧Since w w':=by
 have lpe:=bM hp he;have lqd:=bM hq hd;have lde:=bM hd he;have lsum:=hH lpe lqd;have lsub:=iK (Nat.sub_le (q * d) (p * c)) lqd
 go_enter Tryd.func27,Tryd.ntmps27
 go_upto_region 1 with fail;obtain ⟨W0,hW0,hB0,hB1,hB2,hb⟩:=bV w 85 85 85 [.bool false,vS (be p),vS (be d)] [.bool true,vS (be q),vS (be c)] [.bool false,.string ⟨#[]⟩,.string ⟨#[]⟩];rw [← hW0];clear hW0;refine jd ?_;refine jn (vP w.heap.size 1) ?_;refine jf _ hB0 1 aM ?_;refine jn (vP (w.heap.size+1) 2) ?_;refine jf _ hB1 2 aM ?_;refine jc (st (be (p * c))) (fun X hX hF=>mo (dS (be p) (be c) X (by omega) (by omega)) (by rw [aV,aV])) ?_;refine jn (vP (w.heap.size+1) 1) ?_;refine jf _ hB1 1 aM ?_;refine jn (vP w.heap.size 2) ?_;refine jf _ hB0 2 aM ?_;refine jc (st (be (q * d))) (fun X hX hF=>mo (dS (be q) (be d) X (by omega) (by omega)) (by rw [aV,aV])) ?_;refine jn (vP w.heap.size 2) ?_;refine jf _ hB0 2 aM ?_;refine jn (vP (w.heap.size+1) 2) ?_;refine jf _ hB1 2 aM ?_;refine jc (st (be (d * c))) (fun X hX hF=>mo (dS (be d) (be c) X (by omega) (by omega)) (by rw [aV,aV])) ?_;refine jm (st (be (p * c))) ?_;refine jm (st (be (q * d))) ?_;refine jm (st (be (d * c))) ?_;refine jzb hb fun X1 hX1 hb=>?_;obtain ⟨hB0,hB1,hB2⟩:=bl3 hX1 hB0 hB1 hB2;go_upto_region 2 with fail;refine jp ?_;refine jn (vP w.heap.size 0) ?_;refine jf _ hB0 0 aS ?_;refine jn (vP (w.heap.size+1) 0) ?_
 refine jf _ hB1 0 aS ?_;refine jm (.bool false) ?_;refine jzb hb fun X2 hX2 hb=>?_;obtain ⟨hB0,hB1,hB2⟩:=bl3 hX2 hB0 hB1 hB2;go_upto_region 4 with fail;refine jp ?_;refine jm (st (be (p * c))) ?_;refine jm (st (be (q * d))) ?_;refine jc (vI (cD ((p * c:Nat):Int) ((q * d:Nat):Int))) (fun X hX hF=>mo (xW (be (p * c)) (be (q * d)) X (by omega) (by omega)) (by rw [aV,aV])) ?_;refine jv (.bool true) (dK _ _ _ _ (by rfl) .i64 (cD ((p * c:Nat):Int) ((q * d:Nat):Int)) 0 (by rfl) (by rfl) true (by rw [fG (by omega)];rfl)) ?_;refine jzb hb fun X3 hX3 hb=>?_;obtain ⟨hB0,hB1,hB2⟩:=bl3 hX3 hB0 hB1 hB2;go_upto_region 5 with fail;refine bD [] (by kernel_rfl) (by kernel_rfl) (by kernel_rfl) rfl (aG) ?_;simp only [its,List.dropLast,Nat.zero_add,Nat.reduceAdd];refine jm (st (be (q * d))) ?_;refine jm (st (be (p * c))) ?_;refine jn (vP (w.heap.size+1) 0) ?_;refine jf _ hB1 0 aS ?_;refine jm (st (be (q * d))) ?_;refine jm (st (be (p * c))) ?_;refine jn (vP w.heap.size 0) ?_;refine jzb hb fun X4 hX4 hb=>?_;obtain ⟨hB0,hB1,hB2⟩:=bl3 hX4 hB0 hB1 hB2;refine iN rfl w.heap.size 0 85 _ hB0 (.bool true) (by simp) (fun X u h1 h2=>fS _ _ (by rfl) _ _ (by rfl) (by rfl) u X h1 h2) ?_;intro w5 hR5 hO5 hB5;have hb:=hB5 _ _ hb (by omega);have hB1:=hO5 _ _ _ (by omega) hB1;have hB2:=hO5 _ _ _ (by omega) hB2;have hB0:=hR5;clear hR5 hO5 hB5;go_upto_region 6 with fail
 refine jp ?_;refine jm (st (be (q * d))) ?_;refine jm (st (be (p * c))) ?_;refine jc (.tuple #[st (be (q * d-p * c)),vI 0]) (fun X hX hF=>mo (xV (be (q * d)) (be (p * c)) X (by omega) (by omega) (by rw [aV,aV];omega)) (by rw [aV,aV])) ?_;refine jm (.tuple #[st (be (q * d-p * c)),vI 0]) ?_;refine jm (st (be (q * d-p * c))) ?_;refine jm (vI 0) ?_;refine jm (st (be (q * d-p * c))) ?_;refine jm (vI 0) ?_;refine jzb hb fun X5 hX5 hb=>?_;obtain ⟨hB0,hB1,hB2⟩:=bl3 hX5 hB0 hB1 hB2;go_upto_region 7 with fail;refine jq 5 ?_;refine jn (vP w.heap.size 0) ?_;refine jf _ hB0 0 aS ?_;refine jm (st (be (q * d-p * c))) ?_;refine jm (st (be (d * c))) ?_;refine jn (rt true (be (q * d-p * c)) (be (d * c))) ?_;refine jzb hb fun X6 hX6 hb=>?_;obtain ⟨hB0,hB1,hB2⟩:=bl3 hX6 hB0 hB1 hB2;refine osb 85 4 56 (w.heap.size+2) 85 hB2 [.bool true,vS (be (q * d-p * c)),vS (be (d * c))] bK ?_;intro w9 hR9 hO9 hB9 hs9;have hb9:=hB9 _ _ hb (by omega);clear hO9 hB9
 go_wp2
 refine bL rfl rfl (by rfl) Tryd.underlying85 rfl hR9 bK ⟨rfl,hb9⟩
theorem qX (p d q c B B':Nat) (w:World) (hp:(be p).length≤B) (hd:(be d).length≤B) (hq:(be q).length≤B') (he:(be c).length≤B') (hB:B+B'≤4194200) (hge:q * d≤p * c):Calls Tryd.prog 27 #[.agg #[.bool false,vS (be p),vS (be d)],.agg #[.bool true,vS (be q),vS (be c)]] w fun e w'=>e=.returned (.agg #[.bool false,vS (be (p * c-q * d)),vS (be (d * c))])∧Since w w':=by
 have lpe:=bM hp he;have lqd:=bM hq hd;have lde:=bM hd he;have lsum:=hH lpe lqd;have lsub:=iK (Nat.sub_le (p * c) (q * d)) lpe
 go_enter Tryd.func27,Tryd.ntmps27
 go_upto_region 1 with fail;obtain ⟨W0,hW0,hB0,hB1,hB2,hb⟩:=bV w 85 85 85 [.bool false,vS (be p),vS (be d)] [.bool true,vS (be q),vS (be c)] [.bool false,.string ⟨#[]⟩,.string ⟨#[]⟩];rw [← hW0];clear hW0;refine jd ?_;refine jn (vP w.heap.size 1) ?_;refine jf _ hB0 1 aM ?_;refine jn (vP (w.heap.size+1) 2) ?_;refine jf _ hB1 2 aM ?_;refine jc (st (be (p * c))) (fun X hX hF=>mo (dS (be p) (be c) X (by omega) (by omega)) (by rw [aV,aV])) ?_;refine jn (vP (w.heap.size+1) 1) ?_;refine jf _ hB1 1 aM ?_;refine jn (vP w.heap.size 2) ?_;refine jf _ hB0 2 aM ?_;refine jc (st (be (q * d))) (fun X hX hF=>mo (dS (be q) (be d) X (by omega) (by omega)) (by rw [aV,aV])) ?_;refine jn (vP w.heap.size 2) ?_;refine jf _ hB0 2 aM ?_;refine jn (vP (w.heap.size+1) 2) ?_;refine jf _ hB1 2 aM ?_;refine jc (st (be (d * c))) (fun X hX hF=>mo (dS (be d) (be c) X (by omega) (by omega)) (by rw [aV,aV])) ?_;refine jm (st (be (p * c))) ?_;refine jm (st (be (q * d))) ?_;refine jm (st (be (d * c))) ?_;refine jzb hb fun X1 hX1 hb=>?_;obtain ⟨hB0,hB1,hB2⟩:=bl3 hX1 hB0 hB1 hB2;go_upto_region 2 with fail;refine jp ?_;refine jn (vP w.heap.size 0) ?_;refine jf _ hB0 0 aS ?_;refine jn (vP (w.heap.size+1) 0) ?_
 refine jf _ hB1 0 aS ?_;refine jm (.bool false) ?_;refine jzb hb fun X2 hX2 hb=>?_;obtain ⟨hB0,hB1,hB2⟩:=bl3 hX2 hB0 hB1 hB2;go_upto_region 4 with fail;refine jp ?_;refine jm (st (be (p * c))) ?_;refine jm (st (be (q * d))) ?_;refine jc (vI (cD ((p * c:Nat):Int) ((q * d:Nat):Int))) (fun X hX hF=>mo (xW (be (p * c)) (be (q * d)) X (by omega) (by omega)) (by rw [aV,aV])) ?_;refine bR (cD ((p * c:Nat):Int) ((q * d:Nat):Int)) 0 (by unfold cD;rw [if_neg (by omega)];split <;> omega) ?_;refine jzb hb fun X3 hX3 hb=>?_;obtain ⟨hB0,hB1,hB2⟩:=bl3 hX3 hB0 hB1 hB2;go_upto_region 6 with fail;refine jp ?_;refine jm (st (be (p * c))) ?_;refine jm (st (be (q * d))) ?_;refine jc (.tuple #[st (be (p * c-q * d)),vI 0]) (fun X hX hF=>mo (xV (be (p * c)) (be (q * d)) X (by omega) (by omega) (by rw [aV,aV];omega)) (by rw [aV,aV])) ?_;refine jm (.tuple #[st (be (p * c-q * d)),vI 0]) ?_;refine jm (st (be (p * c-q * d))) ?_;refine jm (vI 0) ?_;refine jm (st (be (p * c-q * d))) ?_;refine jm (vI 0) ?_;refine jzb hb fun X4 hX4 hb=>?_;obtain ⟨hB0,hB1,hB2⟩:=bl3 hX4 hB0 hB1 hB2;go_upto_region 7 with fail;refine jq 5 ?_;refine jn (vP w.heap.size 0) ?_;refine jf _ hB0 0 aS ?_;refine jm (st (be (p * c-q * d))) ?_;refine jm (st (be (d * c))) ?_;refine jn (rt false (be (p * c-q * d)) (be (d * c))) ?_;refine jzb hb fun X5 hX5 hb=>?_;obtain ⟨hB0,hB1,hB2⟩:=bl3 hX5 hB0 hB1 hB2
 refine osb 85 4 56 (w.heap.size+2) 85 hB2 [.bool false,vS (be (p * c-q * d)),vS (be (d * c))] bK ?_;intro w9 hR9 hO9 hB9 hs9;have hb9:=hB9 _ _ hb (by omega);clear hO9 hB9
 go_wp2
 refine bL rfl rfl (by rfl) Tryd.underlying85 rfl hR9 bK ⟨rfl,hb9⟩
theorem vXf (x y:Rat) (B B':Nat) (v v':Value) (w:World) (h:IsF x B v w) (h':IsF y B' v' w) (hB:B+B'≤4194200):Calls Tryd.prog 27 #[v,v'] w fun e w'=>∃ u,e=.returned u∧IsF (x+y) (B+B'+1) u w'∧Since w w':=by
 obtain ⟨m,p,d,rfl,hd,rfl,hp,hq⟩:=h;obtain ⟨n,q,c,rfl,he,rfl,hp',hq'⟩:=h';have hde:0<d * c:=Nat.mul_pos hd he;have lpe:=bM hp hq';have lqd:=bM hp' hq;have lde:=bM hq hq';have lsum:=hH lpe lqd;have key:=qZk m n p q hd he
 have mk:∀ (s:Bool) (t:Nat),(be t).length≤B+B'+1→sg m (p * c)+sg n (q * d)=sg s t→IsF (mkRat (sg m p) d+mkRat (sg n q) c) (B+B'+1) (fv s t (d * c)) w :=
  fun s t ht hs=>⟨s,t,d * c,rfl,hde,by rw [key,hs],ht,by omega⟩
 have fin:∀ (s:Bool) (t:Nat),(be t).length≤B+B'+1→sg m (p * c)+sg n (q * d)=sg s t→Calls Tryd.prog 27 #[fv m p d,fv n q c] w (fun e' w'=>e'=.returned (fv s t (d * c))∧Since w w') →
   Calls Tryd.prog 27 #[fv m p d,fv n q c] w fun e' w'=>∃ u,e'=.returned u∧IsF (mkRat (sg m p) d+mkRat (sg n q) c) (B+B'+1) u w'∧Since w w' :=
  fun s t ht hs hc=>hc.mono fun e' w' ⟨h1,h2⟩=>⟨_,h1,mk s t ht hs,h2⟩
 have l1:(be (p * c+q * d)).length≤B+B'+1:=by omega
 have l2:=iK (Nat.sub_le (p * c) (q * d)) lpe;have l3:=iK (Nat.sub_le (q * d) (p * c)) lqd
 rcases m with _|_ <;> rcases n with _|_
 ·exact fin false _ l1 (jT _ _ _) (wB p d q c B B' w hp hq hp' hq' hB)
 ·rcases Nat.lt_or_ge (p * c) (q * d) with h|h
  ·exact fin true _ (by omega) (nJ (by decide) h) (qW p d q c B B' w hp hq hp' hq' hB h)
  ·exact fin false _ (by omega) (nK (by decide) h) (qX p d q c B B' w hp hq hp' hq' hB h)
 ·rcases Nat.lt_or_ge (p * c) (q * d) with h|h
  ·exact fin false _ (by omega) (nJ (by decide) h) (sK p d q c B B' w hp hq hp' hq' hB h)
  ·exact fin true _ (by omega) (nK (by decide) h) (sL p d q c B B' w hp hq hp' hq' hB h)
 ·exact fin true _ l1 (jT _ _ _) (zP p d q c B B' w hp hq hp' hq' hB)
end Go.Proofs.YtjkfchehkpmhkaaDoor

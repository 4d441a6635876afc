/- law 05: words. -/
import Derived.Test.YtnfpenhldlfafaaGreatDoorQsu
import Derived.Test.YtnfpenhldlfafaaGreatDoorMH
set_option linter.unusedSimpArgs false
set_option linter.unusedVariables false
set_option maxRecDepth 100000
set_option maxHeartbeats 1600000
namespace Go.Proofs.YtnfpenhldlfafaaGreatDoor
open Go.RowKit
theorem uR (w:World) (n n':Bool) (p q p' q':List UInt8):(binOp .neq 23 (rtv n p q) (rtv n' p' q')).run Tryz.prog w=.ok (.bool (!(n == n' && p == p' && q == q'))) w:=by
 have h1:(p == p')=decide (p=p'):=by rw [Bool.eq_iff_iff];simp
 have h2:(q == q')=decide (q=q'):=by rw [Bool.eq_iff_iff];simp
 rw [h1,h2]
 go_simp
 by_cases e1:n=n' <;> by_cases e2:p=p' <;> by_cases e3:q=q' <;> simp [e1,e2,e3]
theorem cT {f:Operand→Value} {o:Oper} (x y:Operand) (ho:o.op=.binOp .eql 23 x y 23) (n:Bool) (p q:List UInt8) (n':Bool) (p' q':List UInt8) (hx:f x=rtv n p q) (hy:f y=rtv n' p' q') (b:Bool) (hb:(n == n' && p == p' && q == q')=b) (X:World):(execOp f o).run Tryz.prog X=.ok (.value (.bool b)) X :=
 cZ .eql _ _ x y ho _ _ hx hy gS _ X ((eQ X n n' p q p' q').trans (by rw [hb]))
theorem gI {f:Operand→Value} {o:Oper} (x y:Operand) (ho:o.op=.binOp .neq 23 x y 23) (n:Bool) (p q:List UInt8) (n':Bool) (p' q':List UInt8) (hx:f x=rtv n p q) (hy:f y=rtv n' p' q') (b:Bool) (hb:(n == n' && p == p' && q == q')=!b) (X:World):(execOp f o).run Tryz.prog X=.ok (.value (.bool b)) X :=
 cZ .neq _ _ x y ho _ _ hx hy gS _ X ((uR X n n' p q p' q').trans (by rw [hb,Bool.not_not]))
theorem vQj {x y:Rat} (b:Bool) (h:x=y↔b=true):(rN x == rN y && rP x == rP y && rD x == rD y)=b:=by
 rw [Bool.eq_iff_iff,← h];simp only [Bool.and_eq_true,beq_iff_eq];exact ⟨fun ⟨⟨h1,h2⟩,h3⟩=>vXx h1 h2 h3,fun h=>by rw [h];exact ⟨⟨rfl,rfl⟩,rfl⟩⟩
theorem gK {x y:Rat} (h:x=y):(rN x == rN y && rP x == rP y && rD x == rD y)=true:=vQj true ⟨fun _=>rfl,fun _=>h⟩
theorem rS {x y:Rat} (h:x≠y):(rN x == rN y && rP x == rP y && rD x == rD y)=false:=vQj false ⟨fun h9=>absurd h9 h,fun h9=>by cases h9⟩
theorem qQn {x:Rat} (h:x=0):(rN x == false && rP x == [] && rD x == [])=true:=gK h
theorem qQo {x:Rat} (h:x≠0):(rN x == false && rP x == [] && rD x == [])=false:=rS (y:=0) h
theorem qYw {x:Rat} {n:Bool} {p q:List UInt8} (hv:vd n p q=true) (hx:rq n p q=x):rbv x=rtv n p q:=by
 obtain ⟨h1,h2,h3,_⟩:=nJ hv;rw [← hx];exact mS ⟨h1,h2,h3⟩
def few (p q:List UInt8) (m:Nat):Bool:=decide (p.length≤m) && decide (q.length≤m)
theorem qYv (n:Bool) (p q:List UInt8) (w:World) (hp:p.length≤4194300) (hq:q.length≤4194300) (hp0:p=[]) (h:(n == false && p == [] && q == [])=true):Calls Tryz.prog 60 #[.agg #[.bool n,vS p,vS q]] w fun e w'=>e=.returned (.bool (vd n p q))∧Since w w':=by
 have HP0:Hid (p=[]):=hp0;have HE:=Lib.hid h
 have HV:Hid (vd n p q=true):=by
  show _=_
  unfold vd
  rw [if_pos (.inl hp0),← h]
  cases n <;> simp
 clear h hp0
 go_enter Tryz.func60,Tryz.ntmps60
 go_upto_region 1 with fail;obtain ⟨W0,hW0,hB0,hb⟩:=bW w 23 [.bool n,vS p,vS q];rw [← hW0];clear hW0;refine jp ?_;refine jnf hB0 1 aH ?_;refine jv (.bool true) (bF _ _ _ _ (by rfl) p ([]:List UInt8) (by rfl) (by rfl) true (iC HP0.out)) ?_;refine jm (.bool true) ?_;refine jss ?_;refine js ?_;refine jm (.bool true) ?_;refine bJ hb hB0 fun X1 hX1 hb hB0=>?_;go_upto_region 2 with fail;refine jp ?_;refine aC hB0 ?_;refine jn (rz) ?_;refine jv (.bool true) (cT _ _ (by rfl) n p q false [] [] (by rfl) (by rfl) true HE.out) ?_;refine jm (.bool true) ?_;refine bJ hb hB0 fun X2 hX2 hb hB0=>?_
 go_wp2
 go_ret
 exact ⟨by rw [HV.out];rfl,hb⟩
theorem qYu (n:Bool) (p q:List UInt8) (w:World) (hp:p.length≤4194300) (hq:q.length≤4194300) (hp0:p≠[]) (hq0:q=[]) (h:(n == false && p == [] && q == [])=true):Calls Tryz.prog 60 #[.agg #[.bool n,vS p,vS q]] w fun e w'=>e=.returned (.bool (vd n p q))∧Since w w':=by
 have HPN:Hid (p≠[]):=hp0;have HQ0:Hid (q=[]):=hq0;have HE:=Lib.hid h
 have HV:Hid (vd n p q=true):=by
  show _=_
  unfold vd
  rw [if_pos (.inr hq0),← h]
  cases n <;> simp
 clear h hp0 hq0
 go_enter Tryz.func60,Tryz.ntmps60
 go_upto_region 1 with fail;obtain ⟨W0,hW0,hB0,hb⟩:=bW w 23 [.bool n,vS p,vS q];rw [← hW0];clear hW0;refine jp ?_;refine jnf hB0 1 aH ?_;refine jv (.bool false) (bF _ _ _ _ (by rfl) p ([]:List UInt8) (by rfl) (by rfl) false (cU HPN.out)) ?_;refine jm (.bool false) ?_;refine jnf hB0 2 aH ?_;refine jv (.bool true) (bF _ _ _ _ (by rfl) q ([]:List UInt8) (by rfl) (by rfl) true (iC HQ0.out)) ?_;refine jm (.bool true) ?_;refine bJ hb hB0 fun X1 hX1 hb hB0=>?_;go_upto_region 2 with fail;refine jp ?_;refine aC hB0 ?_;refine jn (rz) ?_;refine jv (.bool true) (cT _ _ (by rfl) n p q false [] [] (by rfl) (by rfl) true HE.out) ?_;refine jm (.bool true) ?_;refine bJ hb hB0 fun X2 hX2 hb hB0=>?_
 go_wp2
 go_ret
 exact ⟨by rw [HV.out];rfl,hb⟩
theorem qQc (n:Bool) (p q:List UInt8) (w:World) (hp:p.length≤4194300) (hq:q.length≤4194300) (hp0:p=[]) (h:(n == false && p == [] && q == [])=false):Calls Tryz.prog 60 #[.agg #[.bool n,vS p,vS q]] w fun e w'=>e=.returned (.bool (vd n p q))∧Since w w':=by
 have HP0:Hid (p=[]):=hp0;have HE:=Lib.hid h
 have HV:Hid (vd n p q=false):=by
  show _=_
  unfold vd
  rw [if_pos (.inl hp0),← h]
  cases n <;> simp
 clear h hp0
 go_enter Tryz.func60,Tryz.ntmps60
 go_upto_region 1 with fail;obtain ⟨W0,hW0,hB0,hb⟩:=bW w 23 [.bool n,vS p,vS q];rw [← hW0];clear hW0;refine jp ?_;refine jnf hB0 1 aH ?_;refine jv (.bool true) (bF _ _ _ _ (by rfl) p ([]:List UInt8) (by rfl) (by rfl) true (iC HP0.out)) ?_;refine jm (.bool true) ?_;refine jss ?_;refine js ?_;refine jm (.bool true) ?_;refine bJ hb hB0 fun X1 hX1 hb hB0=>?_;go_upto_region 2 with fail;refine jp ?_;refine aC hB0 ?_;refine jn (rz) ?_;refine jv (.bool false) (cT _ _ (by rfl) n p q false [] [] (by rfl) (by rfl) false HE.out) ?_;refine jm (.bool false) ?_;refine bJ hb hB0 fun X2 hX2 hb hB0=>?_
 go_wp2
 go_ret
 exact ⟨by rw [HV.out];rfl,hb⟩
theorem qQb (n:Bool) (p q:List UInt8) (w:World) (hp:p.length≤4194300) (hq:q.length≤4194300) (hp0:p≠[]) (hq0:q=[]) (h:(n == false && p == [] && q == [])=false):Calls Tryz.prog 60 #[.agg #[.bool n,vS p,vS q]] w fun e w'=>e=.returned (.bool (vd n p q))∧Since w w':=by
 have HPN:Hid (p≠[]):=hp0;have HQ0:Hid (q=[]):=hq0;have HE:=Lib.hid h
 have HV:Hid (vd n p q=false):=by
  show _=_
  unfold vd
  rw [if_pos (.inr hq0),← h]
  cases n <;> simp
 clear h hp0 hq0
 go_enter Tryz.func60,Tryz.ntmps60
 go_upto_region 1 with fail;obtain ⟨W0,hW0,hB0,hb⟩:=bW w 23 [.bool n,vS p,vS q];rw [← hW0];clear hW0;refine jp ?_;refine jnf hB0 1 aH ?_;refine jv (.bool false) (bF _ _ _ _ (by rfl) p ([]:List UInt8) (by rfl) (by rfl) false (cU HPN.out)) ?_;refine jm (.bool false) ?_;refine jnf hB0 2 aH ?_;refine jv (.bool true) (bF _ _ _ _ (by rfl) q ([]:List UInt8) (by rfl) (by rfl) true (iC HQ0.out)) ?_;refine jm (.bool true) ?_;refine bJ hb hB0 fun X1 hX1 hb hB0=>?_;go_upto_region 2 with fail;refine jp ?_;refine aC hB0 ?_;refine jn (rz) ?_;refine jv (.bool false) (cT _ _ (by rfl) n p q false [] [] (by rfl) (by rfl) false HE.out) ?_;refine jm (.bool false) ?_;refine bJ hb hB0 fun X2 hX2 hb hB0=>?_
 go_wp2
 go_ret
 exact ⟨by rw [HV.out];rfl,hb⟩
theorem qYt (n:Bool) (p q:List UInt8) (w:World) (hp:p.length≤4194300) (hq:q.length≤4194300) (hp0:p≠[]) (hq0:q≠[]) (h1:cn p=true) (h2:cn q=true) (h3:Nat.gcd (val p) (val q)=1):Calls Tryz.prog 60 #[.agg #[.bool n,vS p,vS q]] w fun e w'=>e=.returned (.bool (vd n p q))∧Since w w':=by
 have HPN:Hid (p≠[]):=hp0;have HQN:Hid (q≠[]):=hq0;have HPC:=Lib.hid h1;have HQC:=Lib.hid h2
 have HG:Hid (be (Nat.gcd (val p) (val q))=[1]):=by show _=_;rw [h3,be_one]
 have HV:Hid (vd n p q=true):=by
  show _=_
  unfold vd
  rw [if_neg (by rintro (h9|h9);exact hp0 h9;exact hq0 h9),h1,h2];rw [h3];rfl
 clear hp0 hq0 h1 h2 h3
 go_enter Tryz.func60,Tryz.ntmps60
 go_upto_region 1 with fail;obtain ⟨W0,hW0,hB0,hb⟩:=bW w 23 [.bool n,vS p,vS q];rw [← hW0];clear hW0;refine jp ?_;refine jnf hB0 1 aH ?_;refine jv (.bool false) (bF _ _ _ _ (by rfl) p ([]:List UInt8) (by rfl) (by rfl) false (cU HPN.out)) ?_;refine jm (.bool false) ?_;refine jnf hB0 2 aH ?_;refine jv (.bool false) (bF _ _ _ _ (by rfl) q ([]:List UInt8) (by rfl) (by rfl) false (cU HQN.out)) ?_;refine jm (.bool false) ?_;refine bJ hb hB0 fun X1 hX1 hb hB0=>?_;go_upto_region 3 with fail;refine jp ?_;refine jnf hB0 1 aH ?_;refine jc (.bool true) (fun X hX hF=>mo (gC p X (by omega)) (by rw [HPC.out])) ?_;refine jm (.bool true) ?_;refine bJ hb hB0 fun X2 hX2 hb hB0=>?_;go_upto_region 4 with fail;refine jp ?_;refine jnf hB0 2 aH ?_;refine jc (.bool true) (fun X hX hF=>mo (gC q X (by omega)) (by rw [HQC.out])) ?_;refine jm (.bool true) ?_;refine bJ hb hB0 fun X3 hX3 hb hB0=>?_;go_upto_region 5 with fail;refine jp ?_;refine bZ (.bool true) (.bool true) (.bool true) ?_;refine jmm (.bool true) (.bool true) ?_;refine jnf hB0 1 aH ?_;refine jnf hB0 2 aH ?_;refine jc (st (be (Nat.gcd (val p) (val q)))) (fun X hX hF=>qQi p q X (by omega) (by omega)) ?_;refine jv (.bool true) (bF _ _ _ _ (by rfl) (be (Nat.gcd (val p) (val q))) ([1]:List UInt8) (by rfl) (by rfl) true (iC HG.out)) ?_;refine jmm (.bool true) (.bool true) ?_;refine bJ hb hB0 fun X4 hX4 hb hB0=>?_
 go_wp2
 go_ret
 exact ⟨by rw [HV.out];rfl,hb⟩
theorem qQa (n:Bool) (p q:List UInt8) (w:World) (hp:p.length≤4194300) (hq:q.length≤4194300) (hp0:p≠[]) (hq0:q≠[]) (h1:cn p=true) (h2:cn q=true) (h3:¬ Nat.gcd (val p) (val q)=1):Calls Tryz.prog 60 #[.agg #[.bool n,vS p,vS q]] w fun e w'=>e=.returned (.bool (vd n p q))∧Since w w':=by
 have HPN:Hid (p≠[]):=hp0;have HQN:Hid (q≠[]):=hq0;have HPC:=Lib.hid h1;have HQC:=Lib.hid h2
 have HG:Hid (be (Nat.gcd (val p) (val q))≠[1]):=fun h9=>h3 (lQ (h9.trans be_one.symm))
 have HV:Hid (vd n p q=false):=by
  show _=_
  unfold vd
  rw [if_neg (by rintro (h9|h9);exact hp0 h9;exact hq0 h9),h1,h2]
  simp [h3]
 clear hp0 hq0 h1 h2 h3
 go_enter Tryz.func60,Tryz.ntmps60
 go_upto_region 1 with fail;obtain ⟨W0,hW0,hB0,hb⟩:=bW w 23 [.bool n,vS p,vS q];rw [← hW0];clear hW0;refine jp ?_;refine jnf hB0 1 aH ?_;refine jv (.bool false) (bF _ _ _ _ (by rfl) p ([]:List UInt8) (by rfl) (by rfl) false (cU HPN.out)) ?_;refine jm (.bool false) ?_;refine jnf hB0 2 aH ?_;refine jv (.bool false) (bF _ _ _ _ (by rfl) q ([]:List UInt8) (by rfl) (by rfl) false (cU HQN.out)) ?_;refine jm (.bool false) ?_;refine bJ hb hB0 fun X1 hX1 hb hB0=>?_;go_upto_region 3 with fail;refine jp ?_;refine jnf hB0 1 aH ?_;refine jc (.bool true) (fun X hX hF=>mo (gC p X (by omega)) (by rw [HPC.out])) ?_;refine jm (.bool true) ?_;refine bJ hb hB0 fun X2 hX2 hb hB0=>?_;go_upto_region 4 with fail;refine jp ?_;refine jnf hB0 2 aH ?_;refine jc (.bool true) (fun X hX hF=>mo (gC q X (by omega)) (by rw [HQC.out])) ?_;refine jm (.bool true) ?_;refine bJ hb hB0 fun X3 hX3 hb hB0=>?_;go_upto_region 5 with fail;refine jp ?_;refine bZ (.bool true) (.bool true) (.bool true) ?_;refine jmm (.bool true) (.bool true) ?_;refine jnf hB0 1 aH ?_;refine jnf hB0 2 aH ?_;refine jc (st (be (Nat.gcd (val p) (val q)))) (fun X hX hF=>qQi p q X (by omega) (by omega)) ?_;refine jv (.bool false) (bF _ _ _ _ (by rfl) (be (Nat.gcd (val p) (val q))) ([1]:List UInt8) (by rfl) (by rfl) false (cU HG.out)) ?_;refine jmm (.bool false) (.bool false) ?_;refine bJ hb hB0 fun X4 hX4 hb hB0=>?_
 go_wp2
 go_ret
 exact ⟨by rw [HV.out];rfl,hb⟩
theorem rO (n:Bool) (p q:List UInt8) (w:World) (hp:p.length≤4194300) (hq:q.length≤4194300) (hp0:p≠[]) (hq0:q≠[]) (h1:cn p=true) (h2:cn q=false):Calls Tryz.prog 60 #[.agg #[.bool n,vS p,vS q]] w fun e w'=>e=.returned (.bool (vd n p q))∧Since w w':=by
 have HPN:Hid (p≠[]):=hp0;have HQN:Hid (q≠[]):=hq0;have HPC:=Lib.hid h1;have HQC:=Lib.hid h2
 have HV:Hid (vd n p q=false):=by
  show _=_
  unfold vd
  rw [if_neg (by rintro (h9|h9);exact hp0 h9;exact hq0 h9),h1,h2]
  rfl
 clear hp0 hq0 h1 h2
 go_enter Tryz.func60,Tryz.ntmps60
 go_upto_region 1 with fail;obtain ⟨W0,hW0,hB0,hb⟩:=bW w 23 [.bool n,vS p,vS q];rw [← hW0];clear hW0;refine jp ?_;refine jnf hB0 1 aH ?_;refine jv (.bool false) (bF _ _ _ _ (by rfl) p ([]:List UInt8) (by rfl) (by rfl) false (cU HPN.out)) ?_;refine jm (.bool false) ?_;refine jnf hB0 2 aH ?_;refine jv (.bool false) (bF _ _ _ _ (by rfl) q ([]:List UInt8) (by rfl) (by rfl) false (cU HQN.out)) ?_;refine jm (.bool false) ?_;refine bJ hb hB0 fun X1 hX1 hb hB0=>?_;go_upto_region 3 with fail;refine jp ?_;refine jnf hB0 1 aH ?_;refine jc (.bool true) (fun X hX hF=>mo (gC p X (by omega)) (by rw [HPC.out])) ?_;refine jm (.bool true) ?_;refine bJ hb hB0 fun X2 hX2 hb hB0=>?_;go_upto_region 4 with fail;refine jp ?_;refine jnf hB0 2 aH ?_;refine jc (.bool false) (fun X hX hF=>mo (gC q X (by omega)) (by rw [HQC.out])) ?_;refine jm (.bool false) ?_;refine bJ hb hB0 fun X3 hX3 hb hB0=>?_;go_upto_region 5 with fail;refine jp ?_;refine bZ (.bool true) (.bool true) (.bool false) ?_;refine jmm (.bool false) (.bool false) ?_;refine jL ?_;refine jss ?_;refine jmm (.bool false) (.bool false) ?_;refine bJ hb hB0 fun X4 hX4 hb hB0=>?_
 go_wp2
 go_ret
 exact ⟨by rw [HV.out];rfl,hb⟩
theorem rQ (n:Bool) (p q:List UInt8) (w:World) (hp:p.length≤4194300) (hq:q.length≤4194300) (hp0:p≠[]) (hq0:q≠[]) (h1:cn p=false) (h2:cn q=true):Calls Tryz.prog 60 #[.agg #[.bool n,vS p,vS q]] w fun e w'=>e=.returned (.bool (vd n p q))∧Since w w':=by
 have HPN:Hid (p≠[]):=hp0;have HQN:Hid (q≠[]):=hq0;have HPC:=Lib.hid h1;have HQC:=Lib.hid h2
 have HV:Hid (vd n p q=false):=by
  show _=_
  unfold vd
  rw [if_neg (by rintro (h9|h9);exact hp0 h9;exact hq0 h9),h1,h2]
  rfl
 clear hp0 hq0 h1 h2
 go_enter Tryz.func60,Tryz.ntmps60
 go_upto_region 1 with fail;obtain ⟨W0,hW0,hB0,hb⟩:=bW w 23 [.bool n,vS p,vS q];rw [← hW0];clear hW0;refine jp ?_;refine jnf hB0 1 aH ?_;refine jv (.bool false) (bF _ _ _ _ (by rfl) p ([]:List UInt8) (by rfl) (by rfl) false (cU HPN.out)) ?_;refine jm (.bool false) ?_;refine jnf hB0 2 aH ?_;refine jv (.bool false) (bF _ _ _ _ (by rfl) q ([]:List UInt8) (by rfl) (by rfl) false (cU HQN.out)) ?_;refine jm (.bool false) ?_;refine bJ hb hB0 fun X1 hX1 hb hB0=>?_;go_upto_region 3 with fail;refine jp ?_;refine jnf hB0 1 aH ?_;refine jc (.bool false) (fun X hX hF=>mo (gC p X (by omega)) (by rw [HPC.out])) ?_;refine jm (.bool false) ?_;refine bJ hb hB0 fun X2 hX2 hb hB0=>?_;go_upto_region 4 with fail;refine jp ?_;refine jnf hB0 2 aH ?_;refine jc (.bool true) (fun X hX hF=>mo (gC q X (by omega)) (by rw [HQC.out])) ?_;refine jm (.bool true) ?_;refine bJ hb hB0 fun X3 hX3 hb hB0=>?_;go_upto_region 5 with fail;refine jp ?_;refine jmm (.bool false) (.bool false) ?_;refine js ?_;refine jmm (.bool false) (.bool false) ?_;refine jL ?_;refine jss ?_;refine jmm (.bool false) (.bool false) ?_;refine bJ hb hB0 fun X4 hX4 hb hB0=>?_
 go_wp2
 go_ret
 exact ⟨by rw [HV.out];rfl,hb⟩
theorem qI (n:Bool) (p q:List UInt8) (w:World) (hp:p.length≤4194300) (hq:q.length≤4194300) (hp0:p≠[]) (hq0:q≠[]) (h1:cn p=false) (h2:cn q=false):Calls Tryz.prog 60 #[.agg #[.bool n,vS p,vS q]] w fun e w'=>e=.returned (.bool (vd n p q))∧Since w w':=by
 have HPN:Hid (p≠[]):=hp0;have HQN:Hid (q≠[]):=hq0;have HPC:=Lib.hid h1;have HQC:=Lib.hid h2
 have HV:Hid (vd n p q=false):=by
  show _=_
  unfold vd
  rw [if_neg (by rintro (h9|h9);exact hp0 h9;exact hq0 h9),h1,h2]
  rfl
 clear hp0 hq0 h1 h2
 go_enter Tryz.func60,Tryz.ntmps60
 go_upto_region 1 with fail;obtain ⟨W0,hW0,hB0,hb⟩:=bW w 23 [.bool n,vS p,vS q];rw [← hW0];clear hW0;refine jp ?_;refine jnf hB0 1 aH ?_;refine jv (.bool false) (bF _ _ _ _ (by rfl) p ([]:List UInt8) (by rfl) (by rfl) false (cU HPN.out)) ?_;refine jm (.bool false) ?_;refine jnf hB0 2 aH ?_;refine jv (.bool false) (bF _ _ _ _ (by rfl) q ([]:List UInt8) (by rfl) (by rfl) false (cU HQN.out)) ?_;refine jm (.bool false) ?_;refine bJ hb hB0 fun X1 hX1 hb hB0=>?_;go_upto_region 3 with fail;refine jp ?_;refine jnf hB0 1 aH ?_;refine jc (.bool false) (fun X hX hF=>mo (gC p X (by omega)) (by rw [HPC.out])) ?_;refine jm (.bool false) ?_;refine bJ hb hB0 fun X2 hX2 hb hB0=>?_;go_upto_region 4 with fail;refine jp ?_;refine jnf hB0 2 aH ?_;refine jc (.bool false) (fun X hX hF=>mo (gC q X (by omega)) (by rw [HQC.out])) ?_;refine jm (.bool false) ?_;refine bJ hb hB0 fun X3 hX3 hb hB0=>?_;go_upto_region 5 with fail;refine jp ?_;refine jmm (.bool false) (.bool false) ?_;refine js ?_;refine jmm (.bool false) (.bool false) ?_;refine jL ?_;refine jss ?_;refine jmm (.bool false) (.bool false) ?_;refine bJ hb hB0 fun X4 hX4 hb hB0=>?_
 go_wp2
 go_ret
 exact ⟨by rw [HV.out];rfl,hb⟩
theorem uQ (n:Bool) (p q:List UInt8) (w:World) (hp:p.length≤4194300) (hq:q.length≤4194300):Calls Tryz.prog 60 #[.agg #[.bool n,vS p,vS q]] w fun e w'=>e=.returned (.bool (vd n p q))∧Since w w':=by
 by_cases hp0:p=[]
 ·rcases h:(n == false && p == [] && q == []) with _|_
  ·exact qQc n p q w hp hq hp0 h
  ·exact qYv n p q w hp hq hp0 h
 ·by_cases hq0:q=[]
  ·rcases h:(n == false && p == [] && q == []) with _|_
   ·exact qQb n p q w hp hq hp0 hq0 h
   ·exact qYu n p q w hp hq hp0 hq0 h
  ·rcases h1:cn p with _|_ <;> rcases h2:cn q with _|_
   ·exact qI n p q w hp hq hp0 hq0 h1 h2
   ·exact rQ n p q w hp hq hp0 hq0 h1 h2
   ·exact rO n p q w hp hq hp0 hq0 h1 h2
   ·by_cases h3:Nat.gcd (val p) (val q)=1
    ·exact qYt n p q w hp hq hp0 hq0 h1 h2 h3
    ·exact qQa n p q w hp hq hp0 hq0 h1 h2 h3
end Go.Proofs.YtnfpenhldlfafaaGreatDoor

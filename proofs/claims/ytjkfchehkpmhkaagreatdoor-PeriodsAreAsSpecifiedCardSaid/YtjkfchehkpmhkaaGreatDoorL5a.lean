/- law 05: words. -/
import Derived.Test.YtjkfchehkpmhkaaGreatDoorQsu
import Derived.Test.YtjkfchehkpmhkaaGreatDoorMH
set_option linter.unusedSimpArgs false
set_option linter.unusedVariables false
set_option maxRecDepth 100000
set_option maxHeartbeats 1600000
namespace Go.Proofs.YtjkfchehkpmhkaaGreatDoor
open Go.RowKit
theorem dB {f:Operand→Value} {o:Oper} (x y:Operand) (ho:o.op=.binOp .eql 40 x y 40) (n:Bool) (p q:List UInt8) (n':Bool) (p' q':List UInt8) (hx:f x=rtv n p q) (hy:f y=rtv n' p' q') (b:Bool) (hb:(n == n' && p == p' && q == q')=b) (X:World):(execOp f o).run Tryz.prog X=.ok (.value (.bool b)) X :=
 cK .eql _ _ x y ho _ _ hx hy iC _ X ((eO X n n' p q p' q').trans (by rw [hb]))
theorem rb_eq {x y:Rat} (b:Bool) (h:x=y↔b=true):(rN x == rN y && rP x == rP y && rD x == rD y)=b:=by
 rw [Bool.eq_iff_iff,← h];simp only [Bool.and_eq_true,beq_iff_eq];exact ⟨fun ⟨⟨h1,h2⟩,h3⟩=>uN h1 h2 h3,fun h=>by rw [h];exact ⟨⟨rfl,rfl⟩,rfl⟩⟩
theorem vXo {x y:Rat} (h:x=y):(rN x == rN y && rP x == rP y && rD x == rD y)=true:=rb_eq true ⟨fun _=>rfl,fun _=>h⟩
theorem qZc {x:Rat} {n:Bool} {p q:List UInt8} (hv:vd n p q=true) (hx:rq n p q=x):rbv x=rtv n p q:=by
 obtain ⟨h1,h2,h3,_⟩:=oF hv;rw [← hx];exact jS ⟨h1,h2,h3⟩
def few (p q:List UInt8) (m:Nat):Bool:=decide (p.length≤m) && decide (q.length≤m)
theorem qYy (n:Bool) (p q:List UInt8) (w:World) (hp:p.length≤4194300) (hq:q.length≤4194300) (hp0:p=[]) (h:(n == false && p == [] && q == [])=true):Calls Tryz.prog 40 #[.agg #[.bool n,vS p,vS q]] w fun e w'=>e=.returned (.bool (vd n p q))∧Since w w':=by
 have HP0:Hid (p=[]):=hp0;have HE:=Lib.hid h
 have HV:Hid (vd n p q=true):=by
  show _=_
  unfold vd
  rw [if_pos (.inl hp0),← h]
  cases n <;> simp
 clear h hp0
 go_enter Tryz.func40,Tryz.ntmps40
 go_upto_region 1 with fail;obtain ⟨W0,hW0,hB0,hb⟩:=aT w 40 [.bool n,vS p,vS q];rw [← hW0];clear hW0;refine jp ?_;refine jnf hB0 1 aG ?_;refine jv (.bool true) (bH _ _ _ _ (by rfl) p ([]:List UInt8) (by rfl) (by rfl) true (iY HP0.out)) ?_;refine jm (.bool true) ?_;refine jss ?_;refine js ?_;refine jm (.bool true) ?_;refine aQ hb hB0 fun X1 hX1 hb hB0=>?_;go_upto_region 2 with fail;refine jp ?_;refine ja hB0 Tryz.underlying40 (by rfl) aC ?_;refine jn (rz) ?_;refine jv (.bool true) (dB _ _ (by rfl) n p q false [] [] (by rfl) (by rfl) true HE.out) ?_;refine jm (.bool true) ?_;refine aQ hb hB0 fun X2 hX2 hb hB0=>?_
 go_wp2
 go_ret
 exact ⟨by rw [HV.out];rfl,hb⟩
theorem qYx (n:Bool) (p q:List UInt8) (w:World) (hp:p.length≤4194300) (hq:q.length≤4194300) (hp0:p≠[]) (hq0:q=[]) (h:(n == false && p == [] && q == [])=true):Calls Tryz.prog 40 #[.agg #[.bool n,vS p,vS q]] w fun e w'=>e=.returned (.bool (vd n p q))∧Since w w':=by
 have HPN:Hid (p≠[]):=hp0;have HQ0:Hid (q=[]):=hq0;have HE:=Lib.hid h
 have HV:Hid (vd n p q=true):=by
  show _=_
  unfold vd
  rw [if_pos (.inr hq0),← h]
  cases n <;> simp
 clear h hp0 hq0
 go_enter Tryz.func40,Tryz.ntmps40
 go_upto_region 1 with fail;obtain ⟨W0,hW0,hB0,hb⟩:=aT w 40 [.bool n,vS p,vS q];rw [← hW0];clear hW0;refine jp ?_;refine jnf hB0 1 aG ?_;refine jv (.bool false) (bH _ _ _ _ (by rfl) p ([]:List UInt8) (by rfl) (by rfl) false (dJ HPN.out)) ?_;refine jm (.bool false) ?_;refine jnf hB0 2 aG ?_;refine jv (.bool true) (bH _ _ _ _ (by rfl) q ([]:List UInt8) (by rfl) (by rfl) true (iY HQ0.out)) ?_;refine jm (.bool true) ?_;refine aQ hb hB0 fun X1 hX1 hb hB0=>?_;go_upto_region 2 with fail;refine jp ?_;refine ja hB0 Tryz.underlying40 (by rfl) aC ?_;refine jn (rz) ?_;refine jv (.bool true) (dB _ _ (by rfl) n p q false [] [] (by rfl) (by rfl) true HE.out) ?_;refine jm (.bool true) ?_;refine aQ hb hB0 fun X2 hX2 hb hB0=>?_
 go_wp2
 go_ret
 exact ⟨by rw [HV.out];rfl,hb⟩
theorem qQg (n:Bool) (p q:List UInt8) (w:World) (hp:p.length≤4194300) (hq:q.length≤4194300) (hp0:p=[]) (h:(n == false && p == [] && q == [])=false):Calls Tryz.prog 40 #[.agg #[.bool n,vS p,vS q]] w fun e w'=>e=.returned (.bool (vd n p q))∧Since w w':=by
 have HP0:Hid (p=[]):=hp0;have HE:=Lib.hid h
 have HV:Hid (vd n p q=false):=by
  show _=_
  unfold vd
  rw [if_pos (.inl hp0),← h]
  cases n <;> simp
 clear h hp0
 go_enter Tryz.func40,Tryz.ntmps40
 go_upto_region 1 with fail;obtain ⟨W0,hW0,hB0,hb⟩:=aT w 40 [.bool n,vS p,vS q];rw [← hW0];clear hW0;refine jp ?_;refine jnf hB0 1 aG ?_;refine jv (.bool true) (bH _ _ _ _ (by rfl) p ([]:List UInt8) (by rfl) (by rfl) true (iY HP0.out)) ?_;refine jm (.bool true) ?_;refine jss ?_;refine js ?_;refine jm (.bool true) ?_;refine aQ hb hB0 fun X1 hX1 hb hB0=>?_;go_upto_region 2 with fail;refine jp ?_;refine ja hB0 Tryz.underlying40 (by rfl) aC ?_;refine jn (rz) ?_;refine jv (.bool false) (dB _ _ (by rfl) n p q false [] [] (by rfl) (by rfl) false HE.out) ?_;refine jm (.bool false) ?_;refine aQ hb hB0 fun X2 hX2 hb hB0=>?_
 go_wp2
 go_ret
 exact ⟨by rw [HV.out];rfl,hb⟩
theorem qQf (n:Bool) (p q:List UInt8) (w:World) (hp:p.length≤4194300) (hq:q.length≤4194300) (hp0:p≠[]) (hq0:q=[]) (h:(n == false && p == [] && q == [])=false):Calls Tryz.prog 40 #[.agg #[.bool n,vS p,vS q]] w fun e w'=>e=.returned (.bool (vd n p q))∧Since w w':=by
 have HPN:Hid (p≠[]):=hp0;have HQ0:Hid (q=[]):=hq0;have HE:=Lib.hid h
 have HV:Hid (vd n p q=false):=by
  show _=_
  unfold vd
  rw [if_pos (.inr hq0),← h]
  cases n <;> simp
 clear h hp0 hq0
 go_enter Tryz.func40,Tryz.ntmps40
 go_upto_region 1 with fail;obtain ⟨W0,hW0,hB0,hb⟩:=aT w 40 [.bool n,vS p,vS q];rw [← hW0];clear hW0;refine jp ?_;refine jnf hB0 1 aG ?_;refine jv (.bool false) (bH _ _ _ _ (by rfl) p ([]:List UInt8) (by rfl) (by rfl) false (dJ HPN.out)) ?_;refine jm (.bool false) ?_;refine jnf hB0 2 aG ?_;refine jv (.bool true) (bH _ _ _ _ (by rfl) q ([]:List UInt8) (by rfl) (by rfl) true (iY HQ0.out)) ?_;refine jm (.bool true) ?_;refine aQ hb hB0 fun X1 hX1 hb hB0=>?_;go_upto_region 2 with fail;refine jp ?_;refine ja hB0 Tryz.underlying40 (by rfl) aC ?_;refine jn (rz) ?_;refine jv (.bool false) (dB _ _ (by rfl) n p q false [] [] (by rfl) (by rfl) false HE.out) ?_;refine jm (.bool false) ?_;refine aQ hb hB0 fun X2 hX2 hb hB0=>?_
 go_wp2
 go_ret
 exact ⟨by rw [HV.out];rfl,hb⟩
theorem qYw (n:Bool) (p q:List UInt8) (w:World) (hp:p.length≤4194300) (hq:q.length≤4194300) (hp0:p≠[]) (hq0:q≠[]) (h1:cn p=true) (h2:cn q=true) (h3:Nat.gcd (val p) (val q)=1):Calls Tryz.prog 40 #[.agg #[.bool n,vS p,vS q]] w fun e w'=>e=.returned (.bool (vd n p q))∧Since w w':=by
 have HPN:Hid (p≠[]):=hp0;have HQN:Hid (q≠[]):=hq0;have HPC:=Lib.hid h1;have HQC:=Lib.hid h2
 have HG:Hid (be (Nat.gcd (val p) (val q))=[1]):=by show _=_;rw [h3,be_one]
 have HV:Hid (vd n p q=true):=by
  show _=_
  unfold vd
  rw [if_neg (by rintro (h9|h9);exact hp0 h9;exact hq0 h9),h1,h2];rw [h3];rfl
 clear hp0 hq0 h1 h2 h3
 go_enter Tryz.func40,Tryz.ntmps40
 go_upto_region 1 with fail;obtain ⟨W0,hW0,hB0,hb⟩:=aT w 40 [.bool n,vS p,vS q];rw [← hW0];clear hW0;refine jp ?_;refine jnf hB0 1 aG ?_;refine jv (.bool false) (bH _ _ _ _ (by rfl) p ([]:List UInt8) (by rfl) (by rfl) false (dJ HPN.out)) ?_;refine jm (.bool false) ?_;refine jnf hB0 2 aG ?_;refine jv (.bool false) (bH _ _ _ _ (by rfl) q ([]:List UInt8) (by rfl) (by rfl) false (dJ HQN.out)) ?_;refine jm (.bool false) ?_;refine aQ hb hB0 fun X1 hX1 hb hB0=>?_;go_upto_region 3 with fail;refine jp ?_;refine jnf hB0 1 aG ?_;refine jc (.bool true) (fun X hX hF=>mo (fP p X (by omega)) (by rw [HPC.out])) ?_;refine jm (.bool true) ?_;refine aQ hb hB0 fun X2 hX2 hb hB0=>?_;go_upto_region 4 with fail;refine jp ?_;refine jnf hB0 2 aG ?_;refine jc (.bool true) (fun X hX hF=>mo (fP q X (by omega)) (by rw [HQC.out])) ?_;refine jm (.bool true) ?_;refine aQ hb hB0 fun X3 hX3 hb hB0=>?_;go_upto_region 5 with fail;refine jp ?_;refine aX (.bool true) (.bool true) (.bool true) ?_;refine jmm (.bool true) (.bool true) ?_;refine jnf hB0 1 aG ?_;refine jnf hB0 2 aG ?_;refine jc (st (be (Nat.gcd (val p) (val q)))) (fun X hX hF=>qQj p q X (by omega) (by omega)) ?_;refine jv (.bool true) (bH _ _ _ _ (by rfl) (be (Nat.gcd (val p) (val q))) ([1]:List UInt8) (by rfl) (by rfl) true (iY HG.out)) ?_;refine jmm (.bool true) (.bool true) ?_;refine aQ hb hB0 fun X4 hX4 hb hB0=>?_
 go_wp2
 go_ret
 exact ⟨by rw [HV.out];rfl,hb⟩
theorem qQe (n:Bool) (p q:List UInt8) (w:World) (hp:p.length≤4194300) (hq:q.length≤4194300) (hp0:p≠[]) (hq0:q≠[]) (h1:cn p=true) (h2:cn q=true) (h3:¬ Nat.gcd (val p) (val q)=1):Calls Tryz.prog 40 #[.agg #[.bool n,vS p,vS q]] w fun e w'=>e=.returned (.bool (vd n p q))∧Since w w':=by
 have HPN:Hid (p≠[]):=hp0;have HQN:Hid (q≠[]):=hq0;have HPC:=Lib.hid h1;have HQC:=Lib.hid h2
 have HG:Hid (be (Nat.gcd (val p) (val q))≠[1]):=fun h9=>h3 (lK (h9.trans be_one.symm))
 have HV:Hid (vd n p q=false):=by
  show _=_
  unfold vd
  rw [if_neg (by rintro (h9|h9);exact hp0 h9;exact hq0 h9),h1,h2]
  simp [h3]
 clear hp0 hq0 h1 h2 h3
 go_enter Tryz.func40,Tryz.ntmps40
 go_upto_region 1 with fail;obtain ⟨W0,hW0,hB0,hb⟩:=aT w 40 [.bool n,vS p,vS q];rw [← hW0];clear hW0;refine jp ?_;refine jnf hB0 1 aG ?_;refine jv (.bool false) (bH _ _ _ _ (by rfl) p ([]:List UInt8) (by rfl) (by rfl) false (dJ HPN.out)) ?_;refine jm (.bool false) ?_;refine jnf hB0 2 aG ?_;refine jv (.bool false) (bH _ _ _ _ (by rfl) q ([]:List UInt8) (by rfl) (by rfl) false (dJ HQN.out)) ?_;refine jm (.bool false) ?_;refine aQ hb hB0 fun X1 hX1 hb hB0=>?_;go_upto_region 3 with fail;refine jp ?_;refine jnf hB0 1 aG ?_;refine jc (.bool true) (fun X hX hF=>mo (fP p X (by omega)) (by rw [HPC.out])) ?_;refine jm (.bool true) ?_;refine aQ hb hB0 fun X2 hX2 hb hB0=>?_;go_upto_region 4 with fail;refine jp ?_;refine jnf hB0 2 aG ?_;refine jc (.bool true) (fun X hX hF=>mo (fP q X (by omega)) (by rw [HQC.out])) ?_;refine jm (.bool true) ?_;refine aQ hb hB0 fun X3 hX3 hb hB0=>?_;go_upto_region 5 with fail;refine jp ?_;refine aX (.bool true) (.bool true) (.bool true) ?_;refine jmm (.bool true) (.bool true) ?_;refine jnf hB0 1 aG ?_;refine jnf hB0 2 aG ?_;refine jc (st (be (Nat.gcd (val p) (val q)))) (fun X hX hF=>qQj p q X (by omega) (by omega)) ?_;refine jv (.bool false) (bH _ _ _ _ (by rfl) (be (Nat.gcd (val p) (val q))) ([1]:List UInt8) (by rfl) (by rfl) false (dJ HG.out)) ?_;refine jmm (.bool false) (.bool false) ?_;refine aQ hb hB0 fun X4 hX4 hb hB0=>?_
 go_wp2
 go_ret
 exact ⟨by rw [HV.out];rfl,hb⟩
theorem rI (n:Bool) (p q:List UInt8) (w:World) (hp:p.length≤4194300) (hq:q.length≤4194300) (hp0:p≠[]) (hq0:q≠[]) (h1:cn p=true) (h2:cn q=false):Calls Tryz.prog 40 #[.agg #[.bool n,vS p,vS q]] w fun e w'=>e=.returned (.bool (vd n p q))∧Since w w':=by
 have HPN:Hid (p≠[]):=hp0;have HQN:Hid (q≠[]):=hq0;have HPC:=Lib.hid h1;have HQC:=Lib.hid h2
 have HV:Hid (vd n p q=false):=by
  show _=_
  unfold vd
  rw [if_neg (by rintro (h9|h9);exact hp0 h9;exact hq0 h9),h1,h2]
  rfl
 clear hp0 hq0 h1 h2
 go_enter Tryz.func40,Tryz.ntmps40
 go_upto_region 1 with fail;obtain ⟨W0,hW0,hB0,hb⟩:=aT w 40 [.bool n,vS p,vS q];rw [← hW0];clear hW0;refine jp ?_;refine jnf hB0 1 aG ?_;refine jv (.bool false) (bH _ _ _ _ (by rfl) p ([]:List UInt8) (by rfl) (by rfl) false (dJ HPN.out)) ?_;refine jm (.bool false) ?_;refine jnf hB0 2 aG ?_;refine jv (.bool false) (bH _ _ _ _ (by rfl) q ([]:List UInt8) (by rfl) (by rfl) false (dJ HQN.out)) ?_;refine jm (.bool false) ?_;refine aQ hb hB0 fun X1 hX1 hb hB0=>?_;go_upto_region 3 with fail;refine jp ?_;refine jnf hB0 1 aG ?_;refine jc (.bool true) (fun X hX hF=>mo (fP p X (by omega)) (by rw [HPC.out])) ?_;refine jm (.bool true) ?_;refine aQ hb hB0 fun X2 hX2 hb hB0=>?_;go_upto_region 4 with fail;refine jp ?_;refine jnf hB0 2 aG ?_;refine jc (.bool false) (fun X hX hF=>mo (fP q X (by omega)) (by rw [HQC.out])) ?_;refine jm (.bool false) ?_;refine aQ hb hB0 fun X3 hX3 hb hB0=>?_;go_upto_region 5 with fail;refine jp ?_;refine aX (.bool true) (.bool true) (.bool false) ?_;refine jmm (.bool false) (.bool false) ?_;refine bR ?_;refine jss ?_;refine jmm (.bool false) (.bool false) ?_;refine aQ hb hB0 fun X4 hX4 hb hB0=>?_
 go_wp2
 go_ret
 exact ⟨by rw [HV.out];rfl,hb⟩
theorem rJ (n:Bool) (p q:List UInt8) (w:World) (hp:p.length≤4194300) (hq:q.length≤4194300) (hp0:p≠[]) (hq0:q≠[]) (h1:cn p=false) (h2:cn q=true):Calls Tryz.prog 40 #[.agg #[.bool n,vS p,vS q]] w fun e w'=>e=.returned (.bool (vd n p q))∧Since w w':=by
 have HPN:Hid (p≠[]):=hp0;have HQN:Hid (q≠[]):=hq0;have HPC:=Lib.hid h1;have HQC:=Lib.hid h2
 have HV:Hid (vd n p q=false):=by
  show _=_
  unfold vd
  rw [if_neg (by rintro (h9|h9);exact hp0 h9;exact hq0 h9),h1,h2]
  rfl
 clear hp0 hq0 h1 h2
 go_enter Tryz.func40,Tryz.ntmps40
 go_upto_region 1 with fail;obtain ⟨W0,hW0,hB0,hb⟩:=aT w 40 [.bool n,vS p,vS q];rw [← hW0];clear hW0;refine jp ?_;refine jnf hB0 1 aG ?_;refine jv (.bool false) (bH _ _ _ _ (by rfl) p ([]:List UInt8) (by rfl) (by rfl) false (dJ HPN.out)) ?_;refine jm (.bool false) ?_;refine jnf hB0 2 aG ?_;refine jv (.bool false) (bH _ _ _ _ (by rfl) q ([]:List UInt8) (by rfl) (by rfl) false (dJ HQN.out)) ?_;refine jm (.bool false) ?_;refine aQ hb hB0 fun X1 hX1 hb hB0=>?_;go_upto_region 3 with fail;refine jp ?_;refine jnf hB0 1 aG ?_;refine jc (.bool false) (fun X hX hF=>mo (fP p X (by omega)) (by rw [HPC.out])) ?_;refine jm (.bool false) ?_;refine aQ hb hB0 fun X2 hX2 hb hB0=>?_;go_upto_region 4 with fail;refine jp ?_;refine jnf hB0 2 aG ?_;refine jc (.bool true) (fun X hX hF=>mo (fP q X (by omega)) (by rw [HQC.out])) ?_;refine jm (.bool true) ?_;refine aQ hb hB0 fun X3 hX3 hb hB0=>?_;go_upto_region 5 with fail;refine jp ?_;refine jmm (.bool false) (.bool false) ?_;refine js ?_;refine jmm (.bool false) (.bool false) ?_;refine bR ?_;refine jss ?_;refine jmm (.bool false) (.bool false) ?_;refine aQ hb hB0 fun X4 hX4 hb hB0=>?_
 go_wp2
 go_ret
 exact ⟨by rw [HV.out];rfl,hb⟩
theorem pV (n:Bool) (p q:List UInt8) (w:World) (hp:p.length≤4194300) (hq:q.length≤4194300) (hp0:p≠[]) (hq0:q≠[]) (h1:cn p=false) (h2:cn q=false):Calls Tryz.prog 40 #[.agg #[.bool n,vS p,vS q]] w fun e w'=>e=.returned (.bool (vd n p q))∧Since w w':=by
 have HPN:Hid (p≠[]):=hp0;have HQN:Hid (q≠[]):=hq0;have HPC:=Lib.hid h1;have HQC:=Lib.hid h2
 have HV:Hid (vd n p q=false):=by
  show _=_
  unfold vd
  rw [if_neg (by rintro (h9|h9);exact hp0 h9;exact hq0 h9),h1,h2]
  rfl
 clear hp0 hq0 h1 h2
 go_enter Tryz.func40,Tryz.ntmps40
 go_upto_region 1 with fail;obtain ⟨W0,hW0,hB0,hb⟩:=aT w 40 [.bool n,vS p,vS q];rw [← hW0];clear hW0;refine jp ?_;refine jnf hB0 1 aG ?_;refine jv (.bool false) (bH _ _ _ _ (by rfl) p ([]:List UInt8) (by rfl) (by rfl) false (dJ HPN.out)) ?_;refine jm (.bool false) ?_;refine jnf hB0 2 aG ?_;refine jv (.bool false) (bH _ _ _ _ (by rfl) q ([]:List UInt8) (by rfl) (by rfl) false (dJ HQN.out)) ?_;refine jm (.bool false) ?_;refine aQ hb hB0 fun X1 hX1 hb hB0=>?_;go_upto_region 3 with fail;refine jp ?_;refine jnf hB0 1 aG ?_;refine jc (.bool false) (fun X hX hF=>mo (fP p X (by omega)) (by rw [HPC.out])) ?_;refine jm (.bool false) ?_;refine aQ hb hB0 fun X2 hX2 hb hB0=>?_;go_upto_region 4 with fail;refine jp ?_;refine jnf hB0 2 aG ?_;refine jc (.bool false) (fun X hX hF=>mo (fP q X (by omega)) (by rw [HQC.out])) ?_;refine jm (.bool false) ?_;refine aQ hb hB0 fun X3 hX3 hb hB0=>?_;go_upto_region 5 with fail;refine jp ?_;refine jmm (.bool false) (.bool false) ?_;refine js ?_;refine jmm (.bool false) (.bool false) ?_;refine bR ?_;refine jss ?_;refine jmm (.bool false) (.bool false) ?_;refine aQ hb hB0 fun X4 hX4 hb hB0=>?_
 go_wp2
 go_ret
 exact ⟨by rw [HV.out];rfl,hb⟩
theorem xX (n:Bool) (p q:List UInt8) (w:World) (hp:p.length≤4194300) (hq:q.length≤4194300):Calls Tryz.prog 40 #[.agg #[.bool n,vS p,vS q]] w fun e w'=>e=.returned (.bool (vd n p q))∧Since w w':=by
 by_cases hp0:p=[]
 ·rcases h:(n == false && p == [] && q == []) with _|_
  ·exact qQg n p q w hp hq hp0 h
  ·exact qYy n p q w hp hq hp0 h
 ·by_cases hq0:q=[]
  ·rcases h:(n == false && p == [] && q == []) with _|_
   ·exact qQf n p q w hp hq hp0 hq0 h
   ·exact qYx n p q w hp hq hp0 hq0 h
  ·rcases h1:cn p with _|_ <;> rcases h2:cn q with _|_
   ·exact pV n p q w hp hq hp0 hq0 h1 h2
   ·exact rJ n p q w hp hq hp0 hq0 h1 h2
   ·exact rI n p q w hp hq hp0 hq0 h1 h2
   ·by_cases h3:Nat.gcd (val p) (val q)=1
    ·exact qYw n p q w hp hq hp0 hq0 h1 h2 h3
    ·exact qQe n p q w hp hq hp0 hq0 h1 h2 h3
end Go.Proofs.YtjkfchehkpmhkaaGreatDoor

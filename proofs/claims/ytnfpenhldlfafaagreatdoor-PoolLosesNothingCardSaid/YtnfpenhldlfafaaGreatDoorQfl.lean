/- rat: Min, Max, Floor, Ceil. -/
import Derived.Test.YtnfpenhldlfafaaGreatDoorQdv
set_option linter.unusedSimpArgs false
set_option linter.unusedVariables false
set_option maxRecDepth 100000
set_option maxHeartbeats 1600000
namespace Go.Proofs.YtnfpenhldlfafaaGreatDoor
open Go.RowKit
def bP (x y:Rat):Rat:=if cA x y≤0 then x else y
def gG (x y:Rat):Rat:=if 0≤cA x y then x else y
theorem minQ1 (n:Bool) (p q:List UInt8) (n':Bool) (p' q':List UInt8) (w:World) (hp:p.length≤1000000) (hq:q.length≤1000000) (hp':p'.length≤1000000) (hq':q'.length≤1000000) (h:cA (rq n p q) (rq n' p' q')≤0):Calls Tryz.prog 46 #[.agg #[.bool n,vS p,vS q],.agg #[.bool n',vS p',vS q']] w fun e w'=>e=.returned (rbv (bP (rq n p q) (rq n' p' q')))∧Since w w':=by
 have HM:Hid (bP (rq n p q) (rq n' p' q')=(rq n p q)):=by unfold bP;exact if_pos h
 go_enter Tryz.func46,Tryz.ntmps46
 go_upto_region 1 with fail;obtain ⟨W0,hW0,hB0,hB1,hB2,hb⟩:=bS w 23 23 23 [.bool n,vS p,vS q] [.bool n',vS p',vS q'] [.bool false,.string ⟨#[]⟩,.string ⟨#[]⟩];rw [← hW0];clear hW0;refine jp ?_;refine ja hB0 Tryz.underlying23 (by rfl) aB ?_;refine ja hB1 Tryz.underlying23 (by rfl) aB ?_;refine jc (vI (cA (rq n p q) (rq n' p' q'))) (fun X hX hF=>yV n p q n' p' q' X hp hq hp' hq') ?_;refine vF (cA (rq n p q) (rq n' p' q')) 0 (by omega) ?_;refine bD hb hB0 hB1 hB2 fun X1 hX1 hb hB0 hB1 hB2=>?_;go_upto_region 2 with fail;refine jq 3 ?_;refine ja hB0 Tryz.underlying23 (by rfl) aB ?_;refine jc (rt (rN (rq n p q)) (be (rq n p q).num.natAbs) (be (rq n p q).den)) (fun X hX hF=>ofQ n p q X (by omega) (by omega)) ?_;refine jc (rt (rN (rq n p q)) (rP (rq n p q)) (rD (rq n p q))) (fun X hX hF=>sQ (rq n p q) 1000000 _ X (dW n p q hp hq (by omega) X) (by omega)) ?_;refine bD hb hB0 hB1 hB2 fun X2 hX2 hb hB0 hB1 hB2=>?_;refine osb 23 4 11 (w.heap.size+2) 23 hB2 [.bool (rN (rq n p q)),vS (rP (rq n p q)),vS (rD (rq n p q))] aB ?_;intro w9 hR9 hO9 hB9 hs9;have hb9:=hB9 _ _ hb (by omega);clear hO9 hB9
 go_wp2
 refine aX rfl rfl (by rfl) Tryz.underlying23 rfl hR9 aB ⟨by rw [HM.out],hb9⟩
theorem minQ0 (n:Bool) (p q:List UInt8) (n':Bool) (p' q':List UInt8) (w:World) (hp:p.length≤1000000) (hq:q.length≤1000000) (hp':p'.length≤1000000) (hq':q'.length≤1000000) (h:¬ cA (rq n p q) (rq n' p' q')≤0):Calls Tryz.prog 46 #[.agg #[.bool n,vS p,vS q],.agg #[.bool n',vS p',vS q']] w fun e w'=>e=.returned (rbv (bP (rq n p q) (rq n' p' q')))∧Since w w':=by
 have HM:Hid (bP (rq n p q) (rq n' p' q')=(rq n' p' q')):=by unfold bP;exact if_neg h
 go_enter Tryz.func46,Tryz.ntmps46
 go_upto_region 1 with fail;obtain ⟨W0,hW0,hB0,hB1,hB2,hb⟩:=bS w 23 23 23 [.bool n,vS p,vS q] [.bool n',vS p',vS q'] [.bool false,.string ⟨#[]⟩,.string ⟨#[]⟩];rw [← hW0];clear hW0;refine jp ?_;refine ja hB0 Tryz.underlying23 (by rfl) aB ?_;refine ja hB1 Tryz.underlying23 (by rfl) aB ?_;refine jc (vI (cA (rq n p q) (rq n' p' q'))) (fun X hX hF=>yV n p q n' p' q' X hp hq hp' hq') ?_;refine vG (cA (rq n p q) (rq n' p' q')) 0 (by omega) ?_;refine bD hb hB0 hB1 hB2 fun X1 hX1 hb hB0 hB1 hB2=>?_;go_upto_region 3 with fail;refine jq 3 ?_;refine ja hB1 Tryz.underlying23 (by rfl) aB ?_;refine jc (rt (rN (rq (n') p' q')) (be (rq (n') p' q').num.natAbs) (be (rq (n') p' q').den)) (fun X hX hF=>ofQ (n') p' q' X (by omega) (by omega)) ?_;refine jc (rt (rN (rq n' p' q')) (rP (rq n' p' q')) (rD (rq n' p' q'))) (fun X hX hF=>sQ (rq n' p' q') 1000000 _ X (dW n' p' q' hp' hq' (by omega) X) (by omega)) ?_;refine bD hb hB0 hB1 hB2 fun X2 hX2 hb hB0 hB1 hB2=>?_;refine osb 23 4 14 (w.heap.size+2) 23 hB2 [.bool (rN (rq n' p' q')),vS (rP (rq n' p' q')),vS (rD (rq n' p' q'))] aB ?_;intro w9 hR9 hO9 hB9 hs9;have hb9:=hB9 _ _ hb (by omega);clear hO9 hB9
 go_wp2
 refine aX rfl rfl (by rfl) Tryz.underlying23 rfl hR9 aB ⟨by rw [HM.out],hb9⟩
theorem minQ (n:Bool) (p q:List UInt8) (n':Bool) (p' q':List UInt8) (w:World) (hp:p.length≤1000000) (hq:q.length≤1000000) (hp':p'.length≤1000000) (hq':q'.length≤1000000):Calls Tryz.prog 46 #[.agg #[.bool n,vS p,vS q],.agg #[.bool n',vS p',vS q']] w fun e w'=>e=.returned (rbv (bP (rq n p q) (rq n' p' q')))∧Since w w':=by
 by_cases h:cA (rq n p q) (rq n' p' q')≤0
 ·exact minQ1 n p q n' p' q' w hp hq hp' hq' h
 ·exact minQ0 n p q n' p' q' w hp hq hp' hq' h
theorem maxQ1 (n:Bool) (p q:List UInt8) (n':Bool) (p' q':List UInt8) (w:World) (hp:p.length≤1000000) (hq:q.length≤1000000) (hp':p'.length≤1000000) (hq':q'.length≤1000000) (h:0≤cA (rq n p q) (rq n' p' q')):Calls Tryz.prog 59 #[.agg #[.bool n,vS p,vS q],.agg #[.bool n',vS p',vS q']] w fun e w'=>e=.returned (rbv (gG (rq n p q) (rq n' p' q')))∧Since w w':=by
 have HM:Hid (gG (rq n p q) (rq n' p' q')=(rq n p q)):=by unfold gG;exact if_pos h
 go_enter Tryz.func59,Tryz.ntmps59
 go_upto_region 1 with fail;obtain ⟨W0,hW0,hB0,hB1,hB2,hb⟩:=bS w 23 23 23 [.bool n,vS p,vS q] [.bool n',vS p',vS q'] [.bool false,.string ⟨#[]⟩,.string ⟨#[]⟩];rw [← hW0];clear hW0;refine jp ?_;refine ja hB0 Tryz.underlying23 (by rfl) aB ?_;refine ja hB1 Tryz.underlying23 (by rfl) aB ?_;refine jc (vI (cA (rq n p q) (rq n' p' q'))) (fun X hX hF=>yV n p q n' p' q' X hp hq hp' hq') ?_;refine zX (cA (rq n p q) (rq n' p' q')) 0 (by omega) ?_;refine bD hb hB0 hB1 hB2 fun X1 hX1 hb hB0 hB1 hB2=>?_;go_upto_region 2 with fail;refine jq 3 ?_;refine ja hB0 Tryz.underlying23 (by rfl) aB ?_;refine jc (rt (rN (rq n p q)) (be (rq n p q).num.natAbs) (be (rq n p q).den)) (fun X hX hF=>ofQ n p q X (by omega) (by omega)) ?_;refine jc (rt (rN (rq n p q)) (rP (rq n p q)) (rD (rq n p q))) (fun X hX hF=>sQ (rq n p q) 1000000 _ X (dW n p q hp hq (by omega) X) (by omega)) ?_;refine bD hb hB0 hB1 hB2 fun X2 hX2 hb hB0 hB1 hB2=>?_;refine osb 23 4 11 (w.heap.size+2) 23 hB2 [.bool (rN (rq n p q)),vS (rP (rq n p q)),vS (rD (rq n p q))] aB ?_;intro w9 hR9 hO9 hB9 hs9;have hb9:=hB9 _ _ hb (by omega);clear hO9 hB9
 go_wp2
 refine aX rfl rfl (by rfl) Tryz.underlying23 rfl hR9 aB ⟨by rw [HM.out],hb9⟩
theorem maxQ0 (n:Bool) (p q:List UInt8) (n':Bool) (p' q':List UInt8) (w:World) (hp:p.length≤1000000) (hq:q.length≤1000000) (hp':p'.length≤1000000) (hq':q'.length≤1000000) (h:¬ 0≤cA (rq n p q) (rq n' p' q')):Calls Tryz.prog 59 #[.agg #[.bool n,vS p,vS q],.agg #[.bool n',vS p',vS q']] w fun e w'=>e=.returned (rbv (gG (rq n p q) (rq n' p' q')))∧Since w w':=by
 have HM:Hid (gG (rq n p q) (rq n' p' q')=(rq n' p' q')):=by unfold gG;exact if_neg h
 go_enter Tryz.func59,Tryz.ntmps59
 go_upto_region 1 with fail;obtain ⟨W0,hW0,hB0,hB1,hB2,hb⟩:=bS w 23 23 23 [.bool n,vS p,vS q] [.bool n',vS p',vS q'] [.bool false,.string ⟨#[]⟩,.string ⟨#[]⟩];rw [← hW0];clear hW0;refine jp ?_;refine ja hB0 Tryz.underlying23 (by rfl) aB ?_;refine ja hB1 Tryz.underlying23 (by rfl) aB ?_;refine jc (vI (cA (rq n p q) (rq n' p' q'))) (fun X hX hF=>yV n p q n' p' q' X hp hq hp' hq') ?_;refine qYq (cA (rq n p q) (rq n' p' q')) 0 (by omega) ?_;refine bD hb hB0 hB1 hB2 fun X1 hX1 hb hB0 hB1 hB2=>?_;go_upto_region 3 with fail;refine jq 3 ?_;refine ja hB1 Tryz.underlying23 (by rfl) aB ?_;refine jc (rt (rN (rq (n') p' q')) (be (rq (n') p' q').num.natAbs) (be (rq (n') p' q').den)) (fun X hX hF=>ofQ (n') p' q' X (by omega) (by omega)) ?_;refine jc (rt (rN (rq n' p' q')) (rP (rq n' p' q')) (rD (rq n' p' q'))) (fun X hX hF=>sQ (rq n' p' q') 1000000 _ X (dW n' p' q' hp' hq' (by omega) X) (by omega)) ?_;refine bD hb hB0 hB1 hB2 fun X2 hX2 hb hB0 hB1 hB2=>?_;refine osb 23 4 14 (w.heap.size+2) 23 hB2 [.bool (rN (rq n' p' q')),vS (rP (rq n' p' q')),vS (rD (rq n' p' q'))] aB ?_;intro w9 hR9 hO9 hB9 hs9;have hb9:=hB9 _ _ hb (by omega);clear hO9 hB9
 go_wp2
 refine aX rfl rfl (by rfl) Tryz.underlying23 rfl hR9 aB ⟨by rw [HM.out],hb9⟩
theorem maxQ (n:Bool) (p q:List UInt8) (n':Bool) (p' q':List UInt8) (w:World) (hp:p.length≤1000000) (hq:q.length≤1000000) (hp':p'.length≤1000000) (hq':q'.length≤1000000):Calls Tryz.prog 59 #[.agg #[.bool n,vS p,vS q],.agg #[.bool n',vS p',vS q']] w fun e w'=>e=.returned (rbv (gG (rq n p q) (rq n' p' q')))∧Since w w':=by
 by_cases h:0≤cA (rq n p q) (rq n' p' q')
 ·exact maxQ1 n p q n' p' q' w hp hq hp' hq' h
 ·exact maxQ0 n p q n' p' q' w hp hq hp' hq' h
theorem lenP (n:Bool) (p q:List UInt8) {B:Nat} (hp:p.length≤B) (hq:q.length≤B) (h1:1≤B):(be (rq n p q).num.natAbs).length≤B:=by
 show (rP (rq n p q)).length≤B
 rcases hv:vd n p q with _|_
 ·rw [oF hv]
  exact Nat.zero_le _
 ·rw [(mC hv).2.1]
  exact hp
theorem lenD (n:Bool) (p q:List UInt8) {B:Nat} (hp:p.length≤B) (hq:q.length≤B) (h1:1≤B):(be (rq n p q).den).length≤B:=by
 obtain ⟨s,t,u,h2,h3,h4,h5,h6⟩:=dW n p q hp hq h1 default
 injection h2 with h2
 have h7:=congrArg (fun a:Array Value=>a.toList) h2;simp only [List.cons.injEq,Value.string.injEq,ByteArray.mk.injEq,List.toArray_inj,and_true] at h7;rw [show be (rq n p q).den=be u from congrArg Array.toList h7.2.2];exact h6
end Go.Proofs.YtnfpenhldlfafaaGreatDoor

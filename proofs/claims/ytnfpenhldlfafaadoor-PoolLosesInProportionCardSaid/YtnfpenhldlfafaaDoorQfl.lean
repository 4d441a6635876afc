/- rat: Min, Max, Floor, Ceil. -/
import Derived.Test.YtnfpenhldlfafaaDoorQdv
set_option linter.unusedSimpArgs false
set_option linter.unusedVariables false
set_option maxRecDepth 100000
set_option maxHeartbeats 1600000
namespace Go.Proofs.YtnfpenhldlfafaaDoor
open Go.RowKit
def bT (x y:Rat):Rat:=if cB x y≤0 then x else y
def gO (x y:Rat):Rat:=if 0≤cB x y then x else y
theorem minQ1 (n:Bool) (p q:List UInt8) (n':Bool) (p' q':List UInt8) (w:World) (hp:p.length≤1000000) (hq:q.length≤1000000) (hp':p'.length≤1000000) (hq':q'.length≤1000000) (h:cB (rq n p q) (rq n' p' q')≤0):Calls Tryd.prog 38 #[.agg #[.bool n,vS p,vS q],.agg #[.bool n',vS p',vS q']] w fun e w'=>e=.returned (rbv (bT (rq n p q) (rq n' p' q')))∧Since w w':=by
 have HM:Hid (bT (rq n p q) (rq n' p' q')=(rq n p q)):=by unfold bT;exact if_pos h
 go_enter Tryd.func38,Tryd.ntmps38
 go_upto_region 1 with fail;obtain ⟨W0,hW0,hB0,hB1,hB2,hb⟩:=bS w 23 23 23 [.bool n,vS p,vS q] [.bool n',vS p',vS q'] [.bool false,.string ⟨#[]⟩,.string ⟨#[]⟩];rw [← hW0];clear hW0;refine jp ?_;refine ja hB0 Tryd.underlying23 (by rfl) aB ?_;refine ja hB1 Tryd.underlying23 (by rfl) aB ?_;refine jc (vI (cB (rq n p q) (rq n' p' q'))) (fun X hX hF=>yL n p q n' p' q' X hp hq hp' hq') ?_;refine uQ (cB (rq n p q) (rq n' p' q')) 0 (by omega) ?_;refine bF hb hB0 hB1 hB2 fun X1 hX1 hb hB0 hB1 hB2=>?_;go_upto_region 2 with fail;refine jq 3 ?_;refine ja hB0 Tryd.underlying23 (by rfl) aB ?_;refine jc (rt (rN (rq n p q)) (be (rq n p q).num.natAbs) (be (rq n p q).den)) (fun X hX hF=>ofQ n p q X (by omega) (by omega)) ?_;refine jc (rt (rN (rq n p q)) (rP (rq n p q)) (rD (rq n p q))) (fun X hX hF=>sF (rq n p q) 1000000 _ X (eC n p q hp hq (by omega) X) (by omega)) ?_;refine bF hb hB0 hB1 hB2 fun X2 hX2 hb hB0 hB1 hB2=>?_;refine osb 23 4 11 (w.heap.size+2) 23 hB2 [.bool (rN (rq n p q)),vS (rP (rq n p q)),vS (rD (rq n p q))] aB ?_;intro w9 hR9 hO9 hB9 hs9;have hb9:=hB9 _ _ hb (by omega);clear hO9 hB9
 go_wp2
 refine bA rfl rfl (by rfl) Tryd.underlying23 rfl hR9 aB ⟨by rw [HM.out],hb9⟩
theorem minQ0 (n:Bool) (p q:List UInt8) (n':Bool) (p' q':List UInt8) (w:World) (hp:p.length≤1000000) (hq:q.length≤1000000) (hp':p'.length≤1000000) (hq':q'.length≤1000000) (h:¬ cB (rq n p q) (rq n' p' q')≤0):Calls Tryd.prog 38 #[.agg #[.bool n,vS p,vS q],.agg #[.bool n',vS p',vS q']] w fun e w'=>e=.returned (rbv (bT (rq n p q) (rq n' p' q')))∧Since w w':=by
 have HM:Hid (bT (rq n p q) (rq n' p' q')=(rq n' p' q')):=by unfold bT;exact if_neg h
 go_enter Tryd.func38,Tryd.ntmps38
 go_upto_region 1 with fail;obtain ⟨W0,hW0,hB0,hB1,hB2,hb⟩:=bS w 23 23 23 [.bool n,vS p,vS q] [.bool n',vS p',vS q'] [.bool false,.string ⟨#[]⟩,.string ⟨#[]⟩];rw [← hW0];clear hW0;refine jp ?_;refine ja hB0 Tryd.underlying23 (by rfl) aB ?_;refine ja hB1 Tryd.underlying23 (by rfl) aB ?_;refine jc (vI (cB (rq n p q) (rq n' p' q'))) (fun X hX hF=>yL n p q n' p' q' X hp hq hp' hq') ?_;refine uR (cB (rq n p q) (rq n' p' q')) 0 (by omega) ?_;refine bF hb hB0 hB1 hB2 fun X1 hX1 hb hB0 hB1 hB2=>?_;go_upto_region 3 with fail;refine jq 3 ?_;refine ja hB1 Tryd.underlying23 (by rfl) aB ?_;refine jc (rt (rN (rq (n') p' q')) (be (rq (n') p' q').num.natAbs) (be (rq (n') p' q').den)) (fun X hX hF=>ofQ (n') p' q' X (by omega) (by omega)) ?_;refine jc (rt (rN (rq n' p' q')) (rP (rq n' p' q')) (rD (rq n' p' q'))) (fun X hX hF=>sF (rq n' p' q') 1000000 _ X (eC n' p' q' hp' hq' (by omega) X) (by omega)) ?_;refine bF hb hB0 hB1 hB2 fun X2 hX2 hb hB0 hB1 hB2=>?_;refine osb 23 4 14 (w.heap.size+2) 23 hB2 [.bool (rN (rq n' p' q')),vS (rP (rq n' p' q')),vS (rD (rq n' p' q'))] aB ?_;intro w9 hR9 hO9 hB9 hs9;have hb9:=hB9 _ _ hb (by omega);clear hO9 hB9
 go_wp2
 refine bA rfl rfl (by rfl) Tryd.underlying23 rfl hR9 aB ⟨by rw [HM.out],hb9⟩
theorem minQ (n:Bool) (p q:List UInt8) (n':Bool) (p' q':List UInt8) (w:World) (hp:p.length≤1000000) (hq:q.length≤1000000) (hp':p'.length≤1000000) (hq':q'.length≤1000000):Calls Tryd.prog 38 #[.agg #[.bool n,vS p,vS q],.agg #[.bool n',vS p',vS q']] w fun e w'=>e=.returned (rbv (bT (rq n p q) (rq n' p' q')))∧Since w w':=by
 by_cases h:cB (rq n p q) (rq n' p' q')≤0
 ·exact minQ1 n p q n' p' q' w hp hq hp' hq' h
 ·exact minQ0 n p q n' p' q' w hp hq hp' hq' h
theorem maxQ1 (n:Bool) (p q:List UInt8) (n':Bool) (p' q':List UInt8) (w:World) (hp:p.length≤1000000) (hq:q.length≤1000000) (hp':p'.length≤1000000) (hq':q'.length≤1000000) (h:0≤cB (rq n p q) (rq n' p' q')):Calls Tryd.prog 51 #[.agg #[.bool n,vS p,vS q],.agg #[.bool n',vS p',vS q']] w fun e w'=>e=.returned (rbv (gO (rq n p q) (rq n' p' q')))∧Since w w':=by
 have HM:Hid (gO (rq n p q) (rq n' p' q')=(rq n p q)):=by unfold gO;exact if_pos h
 go_enter Tryd.func51,Tryd.ntmps51
 go_upto_region 1 with fail;obtain ⟨W0,hW0,hB0,hB1,hB2,hb⟩:=bS w 23 23 23 [.bool n,vS p,vS q] [.bool n',vS p',vS q'] [.bool false,.string ⟨#[]⟩,.string ⟨#[]⟩];rw [← hW0];clear hW0;refine jp ?_;refine ja hB0 Tryd.underlying23 (by rfl) aB ?_;refine ja hB1 Tryd.underlying23 (by rfl) aB ?_;refine jc (vI (cB (rq n p q) (rq n' p' q'))) (fun X hX hF=>yL n p q n' p' q' X hp hq hp' hq') ?_;refine zP (cB (rq n p q) (rq n' p' q')) 0 (by omega) ?_;refine bF hb hB0 hB1 hB2 fun X1 hX1 hb hB0 hB1 hB2=>?_;go_upto_region 2 with fail;refine jq 3 ?_;refine ja hB0 Tryd.underlying23 (by rfl) aB ?_;refine jc (rt (rN (rq n p q)) (be (rq n p q).num.natAbs) (be (rq n p q).den)) (fun X hX hF=>ofQ n p q X (by omega) (by omega)) ?_;refine jc (rt (rN (rq n p q)) (rP (rq n p q)) (rD (rq n p q))) (fun X hX hF=>sF (rq n p q) 1000000 _ X (eC n p q hp hq (by omega) X) (by omega)) ?_;refine bF hb hB0 hB1 hB2 fun X2 hX2 hb hB0 hB1 hB2=>?_;refine osb 23 4 11 (w.heap.size+2) 23 hB2 [.bool (rN (rq n p q)),vS (rP (rq n p q)),vS (rD (rq n p q))] aB ?_;intro w9 hR9 hO9 hB9 hs9;have hb9:=hB9 _ _ hb (by omega);clear hO9 hB9
 go_wp2
 refine bA rfl rfl (by rfl) Tryd.underlying23 rfl hR9 aB ⟨by rw [HM.out],hb9⟩
theorem maxQ0 (n:Bool) (p q:List UInt8) (n':Bool) (p' q':List UInt8) (w:World) (hp:p.length≤1000000) (hq:q.length≤1000000) (hp':p'.length≤1000000) (hq':q'.length≤1000000) (h:¬ 0≤cB (rq n p q) (rq n' p' q')):Calls Tryd.prog 51 #[.agg #[.bool n,vS p,vS q],.agg #[.bool n',vS p',vS q']] w fun e w'=>e=.returned (rbv (gO (rq n p q) (rq n' p' q')))∧Since w w':=by
 have HM:Hid (gO (rq n p q) (rq n' p' q')=(rq n' p' q')):=by unfold gO;exact if_neg h
 go_enter Tryd.func51,Tryd.ntmps51
 go_upto_region 1 with fail;obtain ⟨W0,hW0,hB0,hB1,hB2,hb⟩:=bS w 23 23 23 [.bool n,vS p,vS q] [.bool n',vS p',vS q'] [.bool false,.string ⟨#[]⟩,.string ⟨#[]⟩];rw [← hW0];clear hW0;refine jp ?_;refine ja hB0 Tryd.underlying23 (by rfl) aB ?_;refine ja hB1 Tryd.underlying23 (by rfl) aB ?_;refine jc (vI (cB (rq n p q) (rq n' p' q'))) (fun X hX hF=>yL n p q n' p' q' X hp hq hp' hq') ?_;refine qYl (cB (rq n p q) (rq n' p' q')) 0 (by omega) ?_;refine bF hb hB0 hB1 hB2 fun X1 hX1 hb hB0 hB1 hB2=>?_;go_upto_region 3 with fail;refine jq 3 ?_;refine ja hB1 Tryd.underlying23 (by rfl) aB ?_;refine jc (rt (rN (rq (n') p' q')) (be (rq (n') p' q').num.natAbs) (be (rq (n') p' q').den)) (fun X hX hF=>ofQ (n') p' q' X (by omega) (by omega)) ?_;refine jc (rt (rN (rq n' p' q')) (rP (rq n' p' q')) (rD (rq n' p' q'))) (fun X hX hF=>sF (rq n' p' q') 1000000 _ X (eC n' p' q' hp' hq' (by omega) X) (by omega)) ?_;refine bF hb hB0 hB1 hB2 fun X2 hX2 hb hB0 hB1 hB2=>?_;refine osb 23 4 14 (w.heap.size+2) 23 hB2 [.bool (rN (rq n' p' q')),vS (rP (rq n' p' q')),vS (rD (rq n' p' q'))] aB ?_;intro w9 hR9 hO9 hB9 hs9;have hb9:=hB9 _ _ hb (by omega);clear hO9 hB9
 go_wp2
 refine bA rfl rfl (by rfl) Tryd.underlying23 rfl hR9 aB ⟨by rw [HM.out],hb9⟩
theorem maxQ (n:Bool) (p q:List UInt8) (n':Bool) (p' q':List UInt8) (w:World) (hp:p.length≤1000000) (hq:q.length≤1000000) (hp':p'.length≤1000000) (hq':q'.length≤1000000):Calls Tryd.prog 51 #[.agg #[.bool n,vS p,vS q],.agg #[.bool n',vS p',vS q']] w fun e w'=>e=.returned (rbv (gO (rq n p q) (rq n' p' q')))∧Since w w':=by
 by_cases h:0≤cB (rq n p q) (rq n' p' q')
 ·exact maxQ1 n p q n' p' q' w hp hq hp' hq' h
 ·exact maxQ0 n p q n' p' q' w hp hq hp' hq' h
theorem lenP (n:Bool) (p q:List UInt8) {B:Nat} (hp:p.length≤B) (hq:q.length≤B) (h1:1≤B):(be (rq n p q).num.natAbs).length≤B:=by
 show (rP (rq n p q)).length≤B
 rcases hv:vd n p q with _|_
 ·rw [oB hv]
  exact Nat.zero_le _
 ·rw [(lY hv).2.1]
  exact hp
theorem lenD (n:Bool) (p q:List UInt8) {B:Nat} (hp:p.length≤B) (hq:q.length≤B) (h1:1≤B):(be (rq n p q).den).length≤B:=by
 obtain ⟨s,t,u,h2,h3,h4,h5,h6⟩:=eC n p q hp hq h1 default
 injection h2 with h2
 have h7:=congrArg (fun a:Array Value=>a.toList) h2;simp only [List.cons.injEq,Value.string.injEq,ByteArray.mk.injEq,List.toArray_inj,and_true] at h7;rw [show be (rq n p q).den=be u from congrArg Array.toList h7.2.2];exact h6
end Go.Proofs.YtnfpenhldlfafaaDoor

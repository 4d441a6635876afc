/- The reference of layer 5: integers, operations, order, round -/
import Derived.Test.YtjkfchehkpmhkaaGreatDoorR5a
import Derived.Test.YtjkfchehkpmhkaaGreatDoorMH
import Derived.Test.YtjkfchehkpmhkaaGreatDoorKe
set_option linter.unusedSimpArgs false
set_option linter.unusedVariables false
set_option maxRecDepth 100000
set_option maxHeartbeats 1600000
namespace Go.Proofs.YtjkfchehkpmhkaaGreatDoor
open Go.RowKit
theorem tG (b k:Nat) (X:World) (v:Value) (h:X.cell? ⟨b,k,none⟩=some v):(loadVar 31 ⟨b,k,none⟩).run Tryz.prog X=.ok v X:=by
 go_simp
theorem vXq (n:Bool) (p q:List UInt8) (x:Rat) (HX:Hid (rq n p q=x)) (w:World) (h:tz p q 1000000) (HM:Hid (rN x=false)) (HE:Hid (rP x=[])) (HK:Hid (-x=x)):Calls Tryz.prog 45 #[.agg #[.bool n,vS p,vS q]] w fun e w'=>e=.returned (rbv (-x))∧Since w w':=by
 go_enter Tryz.func45,Tryz.ntmps45
 go_upto_region 1 with fail;obtain ⟨W0,hW0,hB0,hB1,hb⟩:=cK w 40 40 [.bool n,vS p,vS q] [.bool false,.string ⟨#[]⟩,.string ⟨#[]⟩];rw [← hW0];clear hW0;refine jq 2 ?_;refine ja hB0 Tryz.underlying40 (by rfl) aC ?_;refine jc (rt false (rP x) (rD x)) (fun X hX hF=>mo (eW n p q HX.out X h) (by rw [fW HM.out])) ?_;refine aN hb hB0 hB1 fun X1 hX1 hb hB0 hB1=>?_;go_upto_region 2 with (refine osn 40 3 5 #[.bool false,vS (rP x),vS (rD x)] aC ?_);obtain ⟨Y1,hY9,hD3,hS9⟩:=aP X1 40 [.bool false,vS (rP x),vS (rD x)];rw [← hY9];clear hY9;have hgs3:=hb.size;have hlt3x0:=hB0.lt;have hlt3x1:=hB1.lt;obtain ⟨hB0,hB1⟩:=bl2 hS9 hB0 hB1;have hb:=aF hb hS9;clear hS9;generalize X1.heap.size=g3 at *;refine jp ?_;refine jn (vP g3 1) ?_;refine jf _ hD3 1 aE ?_;refine jv (.bool false) (cT _ _ _ _ (by rfl) (rP x) ([]:List UInt8) (by rfl) (by rfl) false (wK HE.out)) ?_;refine bE hb hB0 hB1 hD3 fun X2 hX2 hb hB0 hB1 hD3=>?_;go_upto_region 4 with fail;refine jq 1 ?_;refine ja hD3 Tryz.underlying40 (by rfl) aC ?_;refine bE hb hB0 hB1 hD3 fun X3 hX3 hb hB0 hB1 hD3=>?_;refine osb 40 2 13 (w.heap.size+1) 40 hB1 [.bool false,vS (rP x),vS (rD x)] aC ?_;intro w9 hR9 hO9 hB9 hs9;have hb9:=hB9 _ _ hb (by omega);clear hO9 hB9
 go_wp2
 refine aY rfl rfl (by rfl) Tryz.underlying40 rfl hR9 aC ⟨by rw [HK.out,fW HM.out],hb9⟩
theorem yA (n:Bool) (p q:List UInt8) (x:Rat) (HX:Hid (rq n p q=x)) (w:World) (h:tz p q 1000000) (HM:Hid (rN x=true)) (HE:Hid (rP x≠[])) (HK:Hid (rN (-x)=false∧rP (-x)=rP x∧rD (-x)=rD x)):Calls Tryz.prog 45 #[.agg #[.bool n,vS p,vS q]] w fun e w'=>e=.returned (rbv (-x))∧Since w w':=by
 go_enter Tryz.func45,Tryz.ntmps45
 go_upto_region 1 with fail;obtain ⟨W0,hW0,hB0,hB1,hb⟩:=cK w 40 40 [.bool n,vS p,vS q] [.bool false,.string ⟨#[]⟩,.string ⟨#[]⟩];rw [← hW0];clear hW0;refine jq 2 ?_;refine ja hB0 Tryz.underlying40 (by rfl) aC ?_;refine jc (rt true (rP x) (rD x)) (fun X hX hF=>mo (eW n p q HX.out X h) (by rw [fW HM.out])) ?_;refine aN hb hB0 hB1 fun X1 hX1 hb hB0 hB1=>?_;go_upto_region 2 with (refine osn 40 3 5 #[.bool true,vS (rP x),vS (rD x)] aC ?_);obtain ⟨Y1,hY9,hD3,hS9⟩:=aP X1 40 [.bool true,vS (rP x),vS (rD x)];rw [← hY9];clear hY9;have hgs3:=hb.size;have hlt3x0:=hB0.lt;have hlt3x1:=hB1.lt;obtain ⟨hB0,hB1⟩:=bl2 hS9 hB0 hB1;have hb:=aF hb hS9;clear hS9;generalize X1.heap.size=g3 at *;refine jp ?_;refine jn (vP g3 1) ?_;refine jf _ hD3 1 aE ?_;refine jv (.bool true) (cT _ _ _ _ (by rfl) (rP x) ([]:List UInt8) (by rfl) (by rfl) true (jS HE.out)) ?_;refine bE hb hB0 hB1 hD3 fun X2 hX2 hb hB0 hB1 hD3=>?_;go_upto_region 3 with fail;refine jq 4 ?_;refine jn (vP g3 0) ?_;refine jf _ hD3 0 aO ?_;refine jmn (.bool false) (vP g3 0) ?_;refine bE hb hB0 hB1 hD3 fun X3 hX3 hb hB0 hB1 hD3=>?_;refine fM rfl g3 0 40 _ hD3 (.bool false) (by simp) (fun X u h1 h2=>eG _ _ (by rfl) _ _ (by rfl) (by rfl) u X h1 h2) ?_;intro w5 hR5 hO5 hB5;have hb:=hB5 _ _ hb (by omega)
 have hB0:=hO5 _ _ _ (by omega) hB0;have hB1:=hO5 _ _ _ (by omega) hB1;have hD3:=hR5;clear hR5 hO5 hB5;go_upto_region 4 with fail;refine jq 1 ?_;refine ja hD3 Tryz.underlying40 (by rfl) aC ?_;refine bE hb hB0 hB1 hD3 fun X4 hX4 hb hB0 hB1 hD3=>?_;refine osb 40 2 13 (w.heap.size+1) 40 hB1 [.bool false,vS (rP x),vS (rD x)] aC ?_;intro w9 hR9 hO9 hB9 hs9;have hb9:=hB9 _ _ hb (by omega);clear hO9 hB9
 go_wp2
 refine aY rfl rfl (by rfl) Tryz.underlying40 rfl hR9 aC ⟨by rw [kA HK.out],hb9⟩
theorem uR (n:Bool) (p q:List UInt8) (x:Rat) (HX:Hid (rq n p q=x)) (w:World) (h:tz p q 1000000) (HM:Hid (rN x=false)) (HE:Hid (rP x≠[])) (HK:Hid (rN (-x)=true∧rP (-x)=rP x∧rD (-x)=rD x)):Calls Tryz.prog 45 #[.agg #[.bool n,vS p,vS q]] w fun e w'=>e=.returned (rbv (-x))∧Since w w':=by
 go_enter Tryz.func45,Tryz.ntmps45
 go_upto_region 1 with fail;obtain ⟨W0,hW0,hB0,hB1,hb⟩:=cK w 40 40 [.bool n,vS p,vS q] [.bool false,.string ⟨#[]⟩,.string ⟨#[]⟩];rw [← hW0];clear hW0;refine jq 2 ?_;refine ja hB0 Tryz.underlying40 (by rfl) aC ?_;refine jc (rt false (rP x) (rD x)) (fun X hX hF=>mo (eW n p q HX.out X h) (by rw [fW HM.out])) ?_;refine aN hb hB0 hB1 fun X1 hX1 hb hB0 hB1=>?_;go_upto_region 2 with (refine osn 40 3 5 #[.bool false,vS (rP x),vS (rD x)] aC ?_);obtain ⟨Y1,hY9,hD3,hS9⟩:=aP X1 40 [.bool false,vS (rP x),vS (rD x)];rw [← hY9];clear hY9;have hgs3:=hb.size;have hlt3x0:=hB0.lt;have hlt3x1:=hB1.lt;obtain ⟨hB0,hB1⟩:=bl2 hS9 hB0 hB1;have hb:=aF hb hS9;clear hS9;generalize X1.heap.size=g3 at *;refine jp ?_;refine jn (vP g3 1) ?_;refine jf _ hD3 1 aE ?_;refine jv (.bool true) (cT _ _ _ _ (by rfl) (rP x) ([]:List UInt8) (by rfl) (by rfl) true (jS HE.out)) ?_;refine bE hb hB0 hB1 hD3 fun X2 hX2 hb hB0 hB1 hD3=>?_;go_upto_region 3 with fail;refine jq 4 ?_;refine jn (vP g3 0) ?_;refine jf _ hD3 0 aO ?_;refine jmn (.bool true) (vP g3 0) ?_;refine bE hb hB0 hB1 hD3 fun X3 hX3 hb hB0 hB1 hD3=>?_;refine fM rfl g3 0 40 _ hD3 (.bool true) (by simp) (fun X u h1 h2=>eG _ _ (by rfl) _ _ (by rfl) (by rfl) u X h1 h2) ?_;intro w5 hR5 hO5 hB5;have hb:=hB5 _ _ hb (by omega)
 have hB0:=hO5 _ _ _ (by omega) hB0;have hB1:=hO5 _ _ _ (by omega) hB1;have hD3:=hR5;clear hR5 hO5 hB5;go_upto_region 4 with fail;refine jq 1 ?_;refine ja hD3 Tryz.underlying40 (by rfl) aC ?_;refine bE hb hB0 hB1 hD3 fun X4 hX4 hb hB0 hB1 hD3=>?_;refine osb 40 2 13 (w.heap.size+1) 40 hB1 [.bool true,vS (rP x),vS (rD x)] aC ?_;intro w9 hR9 hO9 hB9 hs9;have hb9:=hB9 _ _ hb (by omega);clear hO9 hB9
 go_wp2
 refine aY rfl rfl (by rfl) Tryz.underlying40 rfl hR9 aC ⟨by rw [kA HK.out],hb9⟩
theorem negS (n:Bool) (p q:List UInt8) {x:Rat} (hx:rq n p q=x) (w:World) (h:tz p q 1000000):Calls Tryz.prog 45 #[.agg #[.bool n,vS p,vS q]] w fun e w'=>e=.returned (rbv (-x))∧Since w w':=by
 by_cases h0:x=0
 ·exact vXq n p q x hx w h (by rw [h0];rfl) (by rw [h0];rfl) (show -x=x by rw [h0];rfl)
 ·have he:rP x≠[]:=fun h9=>h0 ((iU x).1 (be_nil.1 h9))
  have hn:x.num≠0:=fun h9=>h0 ((iU x).1 (by rw [h9];rfl))
  have h2:rP (-x)=rP x:=by unfold rP;rw [Rat.neg_num,Int.natAbs_neg]
  have h3:rD (-x)=rD x:=by
   unfold rD
   rw [Rat.neg_num,Rat.neg_den,if_neg hn,if_neg (by omega)]
  rcases hm:rN x with _|_
  ·refine uR n p q x hx w h hm he ⟨?_,h2,h3⟩
   unfold rN at hm ⊢
   rw [Rat.neg_num];have:=of_decide_eq_false hm;exact decide_eq_true (by omega)
  ·refine yA n p q x hx w h hm he ⟨?_,h2,h3⟩
   unfold rN at hm ⊢
   rw [Rat.neg_num];have:=of_decide_eq_true hm;exact decide_eq_false (by omega)
end Go.Proofs.YtjkfchehkpmhkaaGreatDoor

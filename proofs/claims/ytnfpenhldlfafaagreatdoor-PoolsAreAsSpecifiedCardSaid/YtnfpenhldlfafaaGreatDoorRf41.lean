/- The reference of layer 41: Carry. -/
import Derived.Test.YtnfpenhldlfafaaGreatDoorRe41
import Derived.Test.YtnfpenhldlfafaaGreatDoorHe41
set_option linter.unusedSimpArgs false
set_option linter.unusedVariables false
set_option maxRecDepth 100000
set_option maxHeartbeats 1600000
namespace Go.Proofs.YtnfpenhldlfafaaGreatDoor
open Go.RowKit
theorem qZz (l:List Ho) (y:Rat) (k:Nat):ct l k-bL (ct l k) (y * mx l k)=caF l y k:=by
 unfold caF
 rcases vG (ct l k) (y * mx l k) with ⟨h1,h2⟩|⟨h1,h2⟩ <;> rcases pE 0 (ct l k-y * mx l k) with ⟨h3,h4⟩|⟨h3,h4⟩ <;> rw [h2,h4] <;> grind
theorem qXd (a b c d e f g h:Value) (X:World):(Instr.field 41 (.agg #[a,b,c,d,e,f,g,h]) 0).run Tryz.prog X=.ok (.agg #[a,b,c,d]) X:=by kernel_rfl
theorem vXq (x y:Rat) (w:World) (hx:szR x 900000) (hy:szR y 900000) {b:Bool} (hb:decide (x<y)=b):Calls Tryz.prog 61 #[.agg #[.bool (rN x),vS (rP x),vS (rD x)],.agg #[.bool (rN y),vS (rP y),vS (rD y)]] w fun e w'=>e=.returned (.bool b)∧Since w w':=by
 subst hb
 by_cases h:x<y
 ·rw [decide_eq_true h]
  exact qQf _ _ _ _ _ _ (aZ x) (aZ y) w (tzR hx (by decide)) (tzR hy (by decide)) (Int.not_le.1 fun h8=>absurd h (Rat.not_lt.2 (cmpR_ge.1 h8)))
 ·rw [decide_eq_false h]
  exact qQg _ _ _ _ _ _ (aZ x) (aZ y) w (tzR hx (by decide)) (tzR hy (by decide)) (cmpR_ge.2 (Rat.not_lt.1 h))
theorem rpoP {B:Nat} (p:Tr) (v:Value) (l:List Ho) (a:Rat) (w:World) (h:Pn B p l v w) (hs:Hid (Szp l 1000)) (HOK:Hid (Okp p l)) (hn8:l.length≤8) (hp:tz p.2.1 p.2.2 1000) (ha:0≤a) (haz:szR a 10000):Calls Tryz.prog 43 #[v,.agg #[.bool (rN a),vS (rP a),vS (rD a)]] w fun e w'=>∃ u,e=.returned u∧Pow w.heap.size (fiD p l a) u w'∧Since w w':=by
 obtain ⟨u9,rfl,h9⟩:=h;exact rpoC p u9 l a w h9.hl hs HOK hn8 hp ha haz
theorem rca0 (p:Tr) (v:Value) (l:List Ho) (t:Tr) (w:World) (hv:Hl l v w) (hs1:Hid (Szp l 100)) (hp:tz p.2.1 p.2.2 1000) (h0:chE p l≠0):Calls Tryz.prog 18 #[.agg #[.bool p.1,vS p.2.1,vS p.2.2,v],.agg #[.bool t.1,vS t.2.1,vS t.2.2]] w fun e w'=>∃ u,e=.returned u∧Sw w.heap.size (caR p l t) (caE p l t) u w'∧Since w w':=by
 have hs:Hid (Szp l 1000):=hs1.out.mono (by decide)
 have HV:Hid (∀ X,Since w X→Hl l v X):=fun X h=>Hl.lasts l _ _ _ hv h
 clear hv;have hs4:Hid (Szp l 40000):=hs.out.mono (by decide);have hp6:tz p.2.1 p.2.2 1000000:=hp.mono (by decide);obtain ⟨z,z9⟩:∃ z,chE p l=z:=⟨_,rfl⟩;have HZ:=Lib.hid z9;clear z9
 have hz0:z≠0:=by rw [← HZ.out];exact h0
 clear h0
 have HE:Hid (caE p l t=z):=by
  show _=_
  unfold caE
  rw [HZ.out,if_pos hz0]
 have HR:Hid (caR p l t=pd0):=if_neg (by rw [HE.out];exact hz0)
 go_enter Tryz.func18,Tryz.ntmps18
 go_upto_region 1 with fail;obtain ⟨W0,hW0,hB0,hB1,hB2,hb⟩:=bN w 26 23 45 [.bool p.1,vS p.2.1,vS p.2.2,v] [.bool t.1,vS t.2.1,vS t.2.2] zC;rw [← hW0];clear hW0;refine jp ?_;refine aJ hB0 ?_;refine jc (vI z) (fun X hX hF=>mo (kY p _ l X (HV.out X (Since.next hb hX)) hs4 hp6) (by rw [HZ.out])) ?_;refine jm (vI z) ?_;refine aX hb hB0 hB1 hB2 fun X1 hX1 hb hB0 hB1 hB2=>?_;go_upto_region 2 with fail;refine jp ?_;refine jm (vI z) ?_;refine jv (.bool true) (bB _ _ _ _ (by rfl) .i64 z 0 (by rfl) (by rfl) true (by rw [decide_eq_false (by omega)];rfl)) ?_;refine aX hb hB0 hB1 hB2 fun X2 hX2 hb hB0 hB1 hB2=>?_;go_upto_region 3 with fail;refine jq 2 ?_;refine jmn (vI z) (.agg #[.bool false,.string ⟨#[]⟩,.string ⟨#[]⟩,.slice none 0 0,.slice none 0 0,.bool false,.string ⟨#[]⟩,.string ⟨#[]⟩,vI z]) ?_;refine aX hb hB0 hB1 hB2 fun X3 hX3 hb hB0 hB1 hB2=>?_;refine osb 45 4 21 (w.heap.size+2) 45 hB2 [.bool false,.string ⟨#[]⟩,.string ⟨#[]⟩,.slice none 0 0,.slice none 0 0,.bool false,.string ⟨#[]⟩,.string ⟨#[]⟩,vI z] bQ ?_;intro w9 hR9 hO9 hB9 hs9;have hb9:=hB9 _ _ hb (by omega);clear hO9 hB9
 go_wp2
 refine aK rfl rfl (by rfl) G45 rfl hR9 bQ ⟨_,rfl,by rw [HE.out,HR.out];exact Sw.z _ _ _,hb9⟩
theorem rca1 (p:Tr) (v:Value) (l:List Ho) (t:Tr) (w:World) (hv:Hl l v w) (hs1:Hid (Szp l 100)) (hp:tz p.2.1 p.2.2 1000) (ht:tz t.2.1 t.2.2 100) (h0:chE p l=0) (hf:vd t.1 t.2.1 t.2.2=false):Calls Tryz.prog 18 #[.agg #[.bool p.1,vS p.2.1,vS p.2.2,v],.agg #[.bool t.1,vS t.2.1,vS t.2.2]] w fun e w'=>∃ u,e=.returned u∧Sw w.heap.size (caR p l t) (caE p l t) u w'∧Since w w':=by
 have hs:Hid (Szp l 1000):=hs1.out.mono (by decide)
 have HV:Hid (∀ X,Since w X→Hl l v X):=fun X h=>Hl.lasts l _ _ _ hv h
 clear hv;have hs4:Hid (Szp l 40000):=hs.out.mono (by decide);have hp6:tz p.2.1 p.2.2 1000000:=hp.mono (by decide);have HC:Hid (chE p l=0):=h0;clear h0;have HV9:Hid (vd t.1 t.2.1 t.2.2=false):=hf
 have HE:Hid (caE p l t=1):=by
  show _=_
  unfold caE
  rw [HC.out,if_neg (by decide),if_pos hf]
 clear hf;have HR:Hid (caR p l t=pd0):=if_neg (by rw [HE.out];decide)
 go_enter Tryz.func18,Tryz.ntmps18
 go_upto_region 1 with fail;obtain ⟨W0,hW0,hB0,hB1,hB2,hb⟩:=bN w 26 23 45 [.bool p.1,vS p.2.1,vS p.2.2,v] [.bool t.1,vS t.2.1,vS t.2.2] zC;rw [← hW0];clear hW0;refine jp ?_;refine aJ hB0 ?_;refine jc (vI 0) (fun X hX hF=>mo (kY p _ l X (HV.out X (Since.next hb hX)) hs4 hp6) (by rw [HC.out])) ?_;refine jm (vI 0) ?_;refine aX hb hB0 hB1 hB2 fun X1 hX1 hb hB0 hB1 hB2=>?_;go_upto_region 2 with fail;refine jp ?_;refine jm (vI 0) ?_;refine jv (.bool false) (bB _ _ _ _ (by rfl) .i64 0 0 (by rfl) (by rfl) false (by rw [decide_eq_true (by omega)];rfl)) ?_;refine aX hb hB0 hB1 hB2 fun X2 hX2 hb hB0 hB1 hB2=>?_;go_upto_region 4 with fail;refine jp ?_;refine aC hB1 ?_;refine jc (.bool false) (fun X hX hF=>mo (uQ t.1 t.2.1 t.2.2 X (Nat.le_trans ht.1 (by decide)) (Nat.le_trans ht.2 (by decide))) (by rw [HV9.out])) ?_;refine jm (.bool false) ?_;refine aX hb hB0 hB1 hB2 fun X3 hX3 hb hB0 hB1 hB2=>?_;go_upto_region 5 with fail;refine jp ?_;refine jmm (.bool false) (.bool true) ?_;refine aX hb hB0 hB1 hB2 fun X4 hX4 hb hB0 hB1 hB2=>?_;go_upto_region 6 with fail;refine jq 1 ?_;refine jn (.agg #[.bool false,.string ⟨#[]⟩,.string ⟨#[]⟩,.slice none 0 0,.slice none 0 0,.bool false,.string ⟨#[]⟩,.string ⟨#[]⟩,vI 1]) ?_
 refine aX hb hB0 hB1 hB2 fun X5 hX5 hb hB0 hB1 hB2=>?_;refine osb 45 4 26 (w.heap.size+2) 45 hB2 [.bool false,.string ⟨#[]⟩,.string ⟨#[]⟩,.slice none 0 0,.slice none 0 0,.bool false,.string ⟨#[]⟩,.string ⟨#[]⟩,vI 1] bQ ?_;intro w9 hR9 hO9 hB9 hs9;have hb9:=hB9 _ _ hb (by omega);clear hO9 hB9
 go_wp2
 refine aK rfl rfl (by rfl) G45 rfl hR9 bQ ⟨_,rfl,by rw [HE.out,HR.out];exact Sw.z _ _ _,hb9⟩
theorem rca2 (p:Tr) (v:Value) (l:List Ho) (y:Rat) (w:World) (hv:Hl l v w) (hs1:Hid (Szp l 100)) (hp:tz p.2.1 p.2.2 1000) (hyz:szR y 100) (h0:chE p l=0) (hn1:rN y=true):Calls Tryz.prog 18 #[.agg #[.bool p.1,vS p.2.1,vS p.2.2,v],.agg #[.bool (rN y),vS (rP y),vS (rD y)]] w fun e w'=>∃ u,e=.returned u∧Sw w.heap.size (caR p l (tr y)) (caE p l (tr y)) u w'∧Since w w':=by
 have hs:Hid (Szp l 1000):=hs1.out.mono (by decide)
 have HV:Hid (∀ X,Since w X→Hl l v X):=fun X h=>Hl.lasts l _ _ _ hv h
 clear hv;have hs4:Hid (Szp l 40000):=hs.out.mono (by decide);have hp6:tz p.2.1 p.2.2 1000000:=hp.mono (by decide);have HC:Hid (chE p l=0):=h0;clear h0;have HN:Hid (rN y=true):=hn1;obtain ⟨bq,bq9⟩:∃ z,decide (((1:Int):Rat)<y)=z:=⟨_,rfl⟩;have HB:=Lib.hid bq9;clear bq9
 have HE:Hid (caE p l (tr y)=3):=by
  show _=_
  unfold caE
  rw [HC.out,if_neg (by decide),if_neg (by rw [show vd (tr y).1 (tr y).2.1 (tr y).2.2=true from nI y];decide),if_pos (.inl hn1)]
 have HR:Hid (caR p l (tr y)=pd0):=if_neg (by rw [HE.out];decide);clear hn1
 go_enter Tryz.func18,Tryz.ntmps18
 go_upto_region 1 with fail;obtain ⟨W0,hW0,hB0,hB1,hB2,hb⟩:=bN w 26 23 45 [.bool p.1,vS p.2.1,vS p.2.2,v] (zD y) zC;rw [← hW0];clear hW0;refine jp ?_;refine aJ hB0 ?_;refine jc (vI 0) (fun X hX hF=>mo (kY p _ l X (HV.out X (Since.next hb hX)) hs4 hp6) (by rw [HC.out])) ?_;refine jm (vI 0) ?_;refine aX hb hB0 hB1 hB2 fun X1 hX1 hb hB0 hB1 hB2=>?_;go_upto_region 2 with fail;refine jp ?_;refine jm (vI 0) ?_;refine jv (.bool false) (bB _ _ _ _ (by rfl) .i64 0 0 (by rfl) (by rfl) false (by rw [decide_eq_true (by omega)];rfl)) ?_;refine aX hb hB0 hB1 hB2 fun X2 hX2 hb hB0 hB1 hB2=>?_;go_upto_region 4 with fail;refine jp ?_;refine aC hB1 ?_;refine jc (.bool true) (fun X hX hF=>mo (uQ (rN y) (rP y) (rD y) X (Nat.le_trans hyz.rP (by decide)) (Nat.le_trans hyz.rD (by decide))) (by rw [nI y])) ?_;refine jm (.bool true) ?_;refine aX hb hB0 hB1 hB2 fun X3 hX3 hb hB0 hB1 hB2=>?_;go_upto_region 5 with fail;refine jp ?_;refine jmm (.bool true) (.bool false) ?_;refine aX hb hB0 hB1 hB2 fun X4 hX4 hb hB0 hB1 hB2=>?_;go_upto_region 7 with fail;refine jd ?_;refine jc (rt (rN ((1:Int):Rat)) (rP ((1:Int):Rat)) (rD ((1:Int):Rat))) (fun X hX hF=>vYu (1) X (by decide)) ?_;refine aC hB1 ?_
 refine jc (.bool bq) (fun X hX hF=>vXq ((1:Int):Rat) y X ((lU (n:=1) (by decide)).mono (by decide)) (hyz.mono (by decide)) HB.out) ?_;refine jm (.bool bq) ?_;refine aX hb hB0 hB1 hB2 fun X5 hX5 hb hB0 hB1 hB2=>?_;go_upto_region 8 with fail;refine jp ?_;refine jn (vP (w.heap.size+1) 0) ?_;refine jg (.bool true) (fun X hX hF=>(cA 4 _ (by rfl) (w.heap.size+1) 0 (by rfl) _ X ((hB1.bel hX).cell (j:=0) rfl) (fun X u h=>aS (w.heap.size+1) 0 X u h)).trans (by rw [HN.out])) ?_;refine jm (.bool true) ?_;refine js ?_;refine jm (.bool true) ?_;refine aX hb hB0 hB1 hB2 fun X6 hX6 hb hB0 hB1 hB2=>?_;go_upto_region 9 with fail;refine jq 1 ?_;refine jn (.agg #[.bool false,.string ⟨#[]⟩,.string ⟨#[]⟩,.slice none 0 0,.slice none 0 0,.bool false,.string ⟨#[]⟩,.string ⟨#[]⟩,vI 3]) ?_;refine aX hb hB0 hB1 hB2 fun X7 hX7 hb hB0 hB1 hB2=>?_;refine osb 45 4 35 (w.heap.size+2) 45 hB2 [.bool false,.string ⟨#[]⟩,.string ⟨#[]⟩,.slice none 0 0,.slice none 0 0,.bool false,.string ⟨#[]⟩,.string ⟨#[]⟩,vI 3] bQ ?_;intro w9 hR9 hO9 hB9 hs9;have hb9:=hB9 _ _ hb (by omega);clear hO9 hB9
 go_wp2
 refine aK rfl rfl (by rfl) G45 rfl hR9 bQ ⟨_,rfl,by rw [HE.out,HR.out];exact Sw.z _ _ _,hb9⟩
theorem rca3 (p:Tr) (v:Value) (l:List Ho) (y:Rat) (w:World) (hv:Hl l v w) (hs1:Hid (Szp l 100)) (hp:tz p.2.1 p.2.2 1000) (hyz:szR y 100) (h0:chE p l=0) (hn1:rN y=false) (hgt:((1:Int):Rat)<y):Calls Tryz.prog 18 #[.agg #[.bool p.1,vS p.2.1,vS p.2.2,v],.agg #[.bool (rN y),vS (rP y),vS (rD y)]] w fun e w'=>∃ u,e=.returned u∧Sw w.heap.size (caR p l (tr y)) (caE p l (tr y)) u w'∧Since w w':=by
 have hs:Hid (Szp l 1000):=hs1.out.mono (by decide)
 have HV:Hid (∀ X,Since w X→Hl l v X):=fun X h=>Hl.lasts l _ _ _ hv h
 clear hv;have hs4:Hid (Szp l 40000):=hs.out.mono (by decide);have hp6:tz p.2.1 p.2.2 1000000:=hp.mono (by decide);have HC:Hid (chE p l=0):=h0;clear h0;have HN:Hid (rN y=false):=hn1;have HB:Hid (decide (((1:Int):Rat)<y)=true):=decide_eq_true hgt
 have HE:Hid (caE p l (tr y)=3):=by
  show _=_
  unfold caE
  rw [HC.out,if_neg (by decide),if_neg (by rw [show vd (tr y).1 (tr y).2.1 (tr y).2.2=true from nI y];decide),if_pos (.inr (by rw [eN];exact hgt))]
 have HR:Hid (caR p l (tr y)=pd0):=if_neg (by rw [HE.out];decide);clear hn1 hgt
 go_enter Tryz.func18,Tryz.ntmps18
 go_upto_region 1 with fail;obtain ⟨W0,hW0,hB0,hB1,hB2,hb⟩:=bN w 26 23 45 [.bool p.1,vS p.2.1,vS p.2.2,v] (zD y) zC;rw [← hW0];clear hW0;refine jp ?_;refine aJ hB0 ?_;refine jc (vI 0) (fun X hX hF=>mo (kY p _ l X (HV.out X (Since.next hb hX)) hs4 hp6) (by rw [HC.out])) ?_;refine jm (vI 0) ?_;refine aX hb hB0 hB1 hB2 fun X1 hX1 hb hB0 hB1 hB2=>?_;go_upto_region 2 with fail;refine jp ?_;refine jm (vI 0) ?_;refine jv (.bool false) (bB _ _ _ _ (by rfl) .i64 0 0 (by rfl) (by rfl) false (by rw [decide_eq_true (by omega)];rfl)) ?_;refine aX hb hB0 hB1 hB2 fun X2 hX2 hb hB0 hB1 hB2=>?_;go_upto_region 4 with fail;refine jp ?_;refine aC hB1 ?_;refine jc (.bool true) (fun X hX hF=>mo (uQ (rN y) (rP y) (rD y) X (Nat.le_trans hyz.rP (by decide)) (Nat.le_trans hyz.rD (by decide))) (by rw [nI y])) ?_;refine jm (.bool true) ?_;refine aX hb hB0 hB1 hB2 fun X3 hX3 hb hB0 hB1 hB2=>?_;go_upto_region 5 with fail;refine jp ?_;refine jmm (.bool true) (.bool false) ?_;refine aX hb hB0 hB1 hB2 fun X4 hX4 hb hB0 hB1 hB2=>?_;go_upto_region 7 with fail;refine jd ?_;refine jc (rt (rN ((1:Int):Rat)) (rP ((1:Int):Rat)) (rD ((1:Int):Rat))) (fun X hX hF=>vYu (1) X (by decide)) ?_;refine aC hB1 ?_
 refine jc (.bool true) (fun X hX hF=>vXq ((1:Int):Rat) y X ((lU (n:=1) (by decide)).mono (by decide)) (hyz.mono (by decide)) HB.out) ?_;refine jm (.bool true) ?_;refine aX hb hB0 hB1 hB2 fun X5 hX5 hb hB0 hB1 hB2=>?_;go_upto_region 8 with fail;refine jp ?_;refine jn (vP (w.heap.size+1) 0) ?_;refine jg (.bool false) (fun X hX hF=>(cA 4 _ (by rfl) (w.heap.size+1) 0 (by rfl) _ X ((hB1.bel hX).cell (j:=0) rfl) (fun X u h=>aS (w.heap.size+1) 0 X u h)).trans (by rw [HN.out])) ?_;refine bZ (.bool false) (.bool true) (.bool true) ?_;refine aX hb hB0 hB1 hB2 fun X6 hX6 hb hB0 hB1 hB2=>?_;go_upto_region 9 with fail;refine jq 1 ?_;refine jn (.agg #[.bool false,.string ⟨#[]⟩,.string ⟨#[]⟩,.slice none 0 0,.slice none 0 0,.bool false,.string ⟨#[]⟩,.string ⟨#[]⟩,vI 3]) ?_;refine aX hb hB0 hB1 hB2 fun X7 hX7 hb hB0 hB1 hB2=>?_;refine osb 45 4 35 (w.heap.size+2) 45 hB2 [.bool false,.string ⟨#[]⟩,.string ⟨#[]⟩,.slice none 0 0,.slice none 0 0,.bool false,.string ⟨#[]⟩,.string ⟨#[]⟩,vI 3] bQ ?_;intro w9 hR9 hO9 hB9 hs9;have hb9:=hB9 _ _ hb (by omega);clear hO9 hB9
 go_wp2
 refine aK rfl rfl (by rfl) G45 rfl hR9 bQ ⟨_,rfl,by rw [HE.out,HR.out];exact Sw.z _ _ _,hb9⟩
set_option maxHeartbeats 8000000 in
theorem rca4 (p:Tr) (v:Value) (l:List Ho) (y:Rat) (w:World) (hv:Hl l v w) (hs1:Hid (Szp l 100)) (hp:tz p.2.1 p.2.2 1000) (hyz:szR y 100) (hn8:l.length≤8) (h0:chE p l=0) (hy0:0≤y) (hle:¬ ((1:Int):Rat)<y):Calls Tryz.prog 18 #[.agg #[.bool p.1,vS p.2.1,vS p.2.2,v],.agg #[.bool (rN y),vS (rP y),vS (rD y)]] w fun e w'=>∃ u,e=.returned u∧Sw w.heap.size (caR p l (tr y)) (caE p l (tr y)) u w'∧Since w w':=by
 obtain ⟨A,n,cp,rfl,hln,hn1v,hr⟩:=hv.at;have hs:Hid (Szp l 1000):=hs1.out.mono (by decide)
 have HV:Hid (∀ X,Since w X→Hl l (.slice A n cp) X):=fun X h=>Hl.lasts l _ _ _ hv h
 clear hv;have hs4:Hid (Szp l 40000):=hs.out.mono (by decide);have hp6:tz p.2.1 p.2.2 1000000:=hp.mono (by decide)
 have HRX:Hid (∀ X,Since w X→Rd X 9 (.slice A n cp) n (fl hoc l)):=fun X h=>hr.below h
 have HLN:=Lib.hid hln;clear hr;have HOK:Hid (Okp p l):=chE_ok.1 h0;have HC:Hid (chE p l=0):=h0
 have hn9:n≤8:=by omega
 have HN:Hid (rN y=false):=vQn hy0;have HB:Hid (decide (((1:Int):Rat)<y)=false):=decide_eq_false hle
 have HE:Hid (caE p l (tr y)=0):=by
  show _=_
  unfold caE
  rw [HC.out,if_neg (by decide),if_neg (by rw [show vd (tr y).1 (tr y).2.1 (tr y).2.2=true from nI y];decide),if_neg (by
   rintro (h9|h9)
   ·rw [show (tr y).1=false from HN.out] at h9
    cases h9
   ·rw [eN] at h9
    exact hle h9)]
 have HR:Hid (caR p l (tr y)=caD p l y):=by
  show _=_
  unfold caR
  rw [if_pos HE.out,eN]
 have HOC:Hid (Okp p (caL l y)):=HOK.out.ca hy0;have hsC:Hid (Szp (caL l y) 1000):=vVh (p:=p) hs1.out hyz
 have hcz:Hid (∀ k,szR (caF l y k) 301):=fun k=>wB hs1.out (by decide) hyz k
 have hcl:(caL l y).length≤8:=by rw [fT];exact hn8
 obtain ⟨S,S9⟩:∃ S,S=sm l.length (caF l y):=⟨_,rfl⟩;have HS:=Lib.hid S9
 have hS0:0≤S:=by rw [S9];exact xN HOK.out hy0
 have hSz:szR S 10000:=by
  rw [S9];exact (fU (B:=301) fun k _=>hcz.out k).mono (show l.length * (301+1)+1≤10000 by omega)
 clear S9 hle h0
 go_enter Tryz.func18,Tryz.ntmps18
 go_upto_region 1 with fail;obtain ⟨W0,hW0,hB0,hB1,hB2,hb⟩:=bN w 26 23 45 [.bool p.1,vS p.2.1,vS p.2.2,.slice A n cp] (zD y) zC;rw [← hW0];clear hW0;refine jp ?_;refine aJ hB0 ?_;refine jc (vI 0) (fun X hX hF=>mo (kY p _ l X (HV.out X (Since.next hb hX)) hs4 hp6) (by rw [HC.out])) ?_;refine jm (vI 0) ?_;refine aX hb hB0 hB1 hB2 fun X1 hX1 hb hB0 hB1 hB2=>?_;go_upto_region 2 with fail;refine jp ?_;refine jm (vI 0) ?_;refine jv (.bool false) (bB _ _ _ _ (by rfl) .i64 0 0 (by rfl) (by rfl) false (by rw [decide_eq_true (by omega)];rfl)) ?_;refine aX hb hB0 hB1 hB2 fun X2 hX2 hb hB0 hB1 hB2=>?_;go_upto_region 4 with fail;refine jp ?_;refine aC hB1 ?_;refine jc (.bool true) (fun X hX hF=>mo (uQ (rN y) (rP y) (rD y) X (Nat.le_trans hyz.rP (by decide)) (Nat.le_trans hyz.rD (by decide))) (by rw [nI y])) ?_;refine jm (.bool true) ?_;refine aX hb hB0 hB1 hB2 fun X3 hX3 hb hB0 hB1 hB2=>?_;go_upto_region 5 with fail;refine jp ?_;refine jmm (.bool true) (.bool false) ?_;refine aX hb hB0 hB1 hB2 fun X4 hX4 hb hB0 hB1 hB2=>?_;go_upto_region 7 with fail;refine jd ?_;refine jc (rt (rN ((1:Int):Rat)) (rP ((1:Int):Rat)) (rD ((1:Int):Rat))) (fun X hX hF=>vYu (1) X (by decide)) ?_;refine aC hB1 ?_
 refine jc (.bool false) (fun X hX hF=>vXq ((1:Int):Rat) y X ((lU (n:=1) (by decide)).mono (by decide)) (hyz.mono (by decide)) HB.out) ?_;refine jm (.bool false) ?_;refine aX hb hB0 hB1 hB2 fun X5 hX5 hb hB0 hB1 hB2=>?_;go_upto_region 8 with fail;refine jp ?_;refine jn (vP (w.heap.size+1) 0) ?_;refine jg (.bool false) (fun X hX hF=>(cA 4 _ (by rfl) (w.heap.size+1) 0 (by rfl) _ X ((hB1.bel hX).cell (j:=0) rfl) (fun X u h=>aS (w.heap.size+1) 0 X u h)).trans (by rw [HN.out])) ?_;refine bZ (.bool false) (.bool false) (.bool false) ?_;refine aX hb hB0 hB1 hB2 fun X6 hX6 hb hB0 hB1 hB2=>?_;go_upto_region 10 with fail;refine jp ?_;refine jm (.slice none 0 0) ?_;refine aX hb hB0 hB1 hB2 fun X7 hX7 hb hB0 hB1 hB2=>?_;go_upto_region 11 with fail;refine jq 1 ?_;refine jc (rt (rN (0:Rat)) (rP (0:Rat)) (rD (0:Rat))) (fun X hX hF=>uS X) ?_;refine aX hb hB0 hB1 hB2 fun X8 hX8 hb hB0 hB1 hB2=>?_;go_upto_region 12 with (refine osm 23 9 36 (zD (0:Rat)) aD fun Y8 hD9 hS9=>?_);have hgs9:=hb.size;have:=lt3 hB0 hB1 hB2;obtain ⟨hB0,hB1,hB2⟩:=bl3 hS9 hB0 hB1 hB2;have hb:=aF hb hS9;clear hS9;generalize X8.heap.size=g9 at *;refine jp ?_;refine jm (vI 0) ?_;refine dI hb hB0 hB1 hB2 hD9 fun X9 hX9 hb hB0 hB1 hB2 hD9=>?_;have hOZ:X9.ownsRow (g9+1) 23 3 (.slice none 0 0) 0 (fl rc (ptl 0 (caF l y))):=⟨rfl,.inl ⟨rfl,rfl⟩⟩
 go_wp2
 go_loopw [8,10] (fun sv kv wr=>∃ (k c5:Nat) (A5:Option Addr) (s:Rat),k≤n∧sv=.slice A5 k c5∧kv=vI k∧Hid (s=sm k (caF l y))∧Blk wr g9 23 (zD s)∧Blk wr w.heap.size 26 [.bool p.1,vS p.2.1,vS p.2.2,.slice A n cp]∧Blk wr (w.heap.size+1) 23 (zD y)∧Blk wr (w.heap.size+2) 45 zC∧wr.ownsRow (g9+1) 23 3 (.slice A5 k c5) k (fl rc (ptl k (caF l y)))∧Below w.heap.size w wr) (fun _ kv _=>n-(intOf kv).toNat)
 case atStart=>exact ⟨0,0,none,0,by omega,rfl,rfl,rfl,hD9,hB0,hB1,hB2,hOZ,hb⟩
 case round =>
  clear hD9 hB0 hB1 hB2 hOZ hb;obtain ⟨k,c5,A5,s,hk,rfl,rfl,HSS,hD9,hB0,hB1,hB2,hOZ,hb⟩:=hrel
  have hsz:szR s 10000:=by
   rw [HSS.out];exact (fU (B:=301) fun j _=>hcz.out j).mono (show k * (301+1)+1≤10000 by omega)
  rcases Nat.lt_or_ge k n with hlt|hlt
  ·obtain ⟨b,off,rfl,hbb,hcx⟩:=gM (HRX.out _ hb) HLN.out hlt
   rw [HOK.out.ho_tr (by rw [HLN.out];exact hlt)] at hcx
   change Cl wr b (off+k * 9) [.bool (rN (ct l k)),vS (rP (ct l k)),vS (rD (ct l k)),.bool (rN (mx l k)),vS (rP (mx l k)),vS (rD (mx l k)),.bool (rN (sr l k)),vS (rP (sr l k)),vS (rD (sr l k))] at hcx
   have hkl:k<l.length:=by rw [HLN.out];exact hlt
   go_upto_region 13 with fail;refine jp ?_;refine jm (vI k) ?_;refine jnf hB0 3 aT ?_;refine jv (vI n) (aM G24 _ (by rfl) (some ⟨b,off,none⟩) n cp (by rfl) _ rfl) ?_;refine dP (k:Int) (n:Int) (by omega) ?_;refine dI hb hB0 hB1 hB2 hD9 fun X1 hX1 hb hB0 hB1 hB2 hD9=>?_;replace hOZ:=aB hOZ hX1;have hcx:=hcx.below hX1 hbb;replace hbb:=Nat.lt_of_lt_of_le hbb (hX1).size;go_upto_region 15 with fail;refine jq 5 ?_;refine jnf hB0 3 aT ?_;refine jm (vI k) ?_;refine jv (vP b (off+k * 9)) (bD G24 bC _ _ (by rfl) b (off) n cp k (by omega) (by rfl) (by rfl) rfl) ?_;refine jg (.agg #[.bool (rN (ct l k)),st (rP (ct l k)),st (rD (ct l k)),.bool (rN (mx l k)),st (rP (mx l k)),st (rD (mx l k)),.bool (rN (sr l k)),st (rP (sr l k)),st (rD (sr l k))]) (fun X hX hF=>bP 66 _ (by rfl) b (off+k * 9) (by rfl) G66 rfl [.bool (rN (ct l k)),vS (rP (ct l k)),vS (rD (ct l k)),.bool (rN (mx l k)),vS (rP (mx l k)),vS (rD (mx l k)),.bool (rN (sr l k)),vS (rP (sr l k)),vS (rD (sr l k))] X (Cl.part (hcx.below hX hbb) 0 _ (by rfl)) bC) ?_;refine dI hb hB0 hB1 hB2 hD9 fun X2 hX2 hb hB0 hB1 hB2 hD9=>?_;replace hOZ:=aB hOZ hX2;have hcx:=hcx.below hX2 hbb;replace hbb:=Nat.lt_of_lt_of_le hbb (hX2).size;have hog0:=aQ hOZ
   go_upto_region 16 with (refine osm 66 11 48 [.bool (rN (ct l k)),vS (rP (ct l k)),vS (rD (ct l k)),.bool (rN (mx l k)),vS (rP (mx l k)),vS (rD (mx l k)),.bool (rN (sr l k)),vS (rP (sr l k)),vS (rD (sr l k))] bC fun Y2 hD11 hS9=>?_);have hgs11:=hb.size;have:=lt4 hB0 hB1 hB2 hD9;replace hOZ:=aB hOZ hS9;have hcx:=hcx.below hS9 hbb;replace hbb:=Nat.lt_of_lt_of_le hbb (hS9).size;obtain ⟨hB0,hB1,hB2,hD9⟩:=bl4 hS9 hB0 hB1 hB2 hD9;have hb:=aF hb hS9;clear hS9;generalize X2.heap.size=g11 at *;have LB0:szR y 100:=hyz;have LB1:szR (mx l k) 100:=hs1.out.mx (by decide) k;have LB2:szR (ct l k) 100:=hs1.out.ct (by decide) k;have LB3:szR (y * (mx l k)) 200:=gB LB0 LB1;have LB4:szR (bL (ct l k) (y * (mx l k))) 200:=fJ (C:=200) LB2 LB3 (by decide) (by decide);have LB5:szR s 10000:=hsz;have LB6:szR (caF l y k) 301:=hcz.out k;have hog:=aQ hOZ;have:=lt5 hB0 hB1 hB2 hD9 hD11;have KR12hOZ:=hOZ;have hsn12:=hb.size;have hbs12:Since Y2 Y2:=Below.refl _ _;refine aN [none,none,none,none,none,none,none,some (Av 23 zA Y2.heap.size)] (by kernel_rfl) (by kernel_rfl) (by kernel_rfl) rfl (aA (aA (aA (aA (aA (aA (aA (aE (Av.lasts _ _ _) (aG))))))))) ?_;simp only [its,List.dropLast,Nat.zero_add,Nat.reduceAdd]
   refine jn (vP g11 0) ?_;refine jg (rt (rN (ct l k)) (rP (ct l k)) (rD (ct l k))) (fun X hX hF=>aP 23 _ (by rfl) g11 0 (zD (ct l k)) (by rfl) G23 rfl X (hD11.bel hX) (by rfl) aD) ?_;refine aC hB1 ?_;refine jn (vP g11 3) ?_;refine jg (rt (rN (mx l k)) (rP (mx l k)) (rD (mx l k))) (fun X hX hF=>aP 23 _ (by rfl) g11 3 (zD (mx l k)) (by rfl) G23 rfl X (hD11.bel hX) (by rfl) aD) ?_;refine jc (rt (rN (y * (mx l k))) (rP (y * (mx l k))) (rD (y * (mx l k)))) (fun X hX hF=>qYz (rN y) (rP y) (rD y) (rN (mx l k)) (rP (mx l k)) (rD (mx l k)) (aZ y) (aZ (mx l k)) X (tzR LB0 (by omega)) (tzR LB1 (by omega))) ?_;refine jc (.agg #[.bool (rN (bL (ct l k) (y * (mx l k)))),st (rP (bL (ct l k) (y * (mx l k)))),st (rD (bL (ct l k) (y * (mx l k))))]) (fun X hX hF=>qVe (rN (ct l k)) (rP (ct l k)) (rD (ct l k)) (rN (y * (mx l k))) (rP (y * (mx l k))) (rD (y * (mx l k))) (aZ (ct l k)) (aZ (y * (mx l k))) X (tzR LB2 (by omega)) (tzR LB3 (by omega))) ?_;refine bH (by rfl) (fun X hX hF=>Av.mk 23 zA Y2.heap.size hX.size (by unfold execOp;go_simp)) ?_;intro v12;simp only [pX];refine aI ?_;intro X3 hX3 hF;have hv12:=hF _ _ zE;replace hOZ:=aB hOZ hX3
   have hbs12:=Since.next hbs12 hX3;obtain ⟨hB0,hB1,hB2,hD9,hD11⟩:=bl5 hX3 hB0 hB1 hB2 hD9 hD11;have hb:=aF hb hX3;clear hF hX3;obtain ⟨g12,rfl,hge12,hD12⟩:=hv12;refine aU rfl 23 (.tmp 12) (.tmp 55) rfl g12 23 _ hD12 rfl [.bool (rN (bL (ct l k) (y * (mx l k)))),.string ⟨(rP (bL (ct l k) (y * (mx l k)))).toArray⟩,.string ⟨(rD (bL (ct l k) (y * (mx l k)))).toArray⟩] rfl (by rfl) (al3 rfl rfl rfl) aD ?_;intro w12s hR9 hG9;have hSN12:Since Y2 w12s:=aR hG9 hbs12 hbs12.size hge12;have hb:=aR hG9 hb hb.size (by omega);obtain ⟨hB0,hB1,hB2,hD9,hD11⟩:=bg5 hG9 hB0 hB1 hB2 hD9 hD11;have hOZ:=aB KR12hOZ hSN12;have hD12:=hR9;clear hG9 hR9 hSN12 hbs12;refine wpList_nil ?_
   skip
   go_upto_region 17 with fail;refine jq 4 ?_;refine jn (vP g11 0) ?_;refine jg (rt (rN (ct l k)) (rP (ct l k)) (rD (ct l k))) (fun X hX hF=>aP 23 _ (by rfl) g11 0 (zD (ct l k)) (by rfl) G23 rfl X (hD11.bel hX) (by rfl) aD) ?_;refine aC hD12 ?_;refine jc (rt (rN (caF l y k)) (rP (caF l y k)) (rD (caF l y k))) (fun X hX hF=>mo (jZ (rN (ct l k)) (rP (ct l k)) (rD (ct l k)) (rN (bL (ct l k) (y * (mx l k)))) (rP (bL (ct l k) (y * (mx l k)))) (rD (bL (ct l k) (y * (mx l k)))) (aZ (ct l k)) (aZ (bL (ct l k) (y * (mx l k)))) X (tzR LB2 (by omega)) (tzR LB4 (by omega))) (by rw [qZz])) ?_;refine dO hb hB0 hB1 hB2 hD9 hD11 hD12 fun X4 hX4 hb hB0 hB1 hB2 hD9 hD11 hD12=>?_;replace hOZ:=aB hOZ hX4;have hog3:=aQ hOZ;go_upto_region 18 with (refine osm 23 13 59 (zD (caF l y k)) aD fun Y4 hD13 hS9=>?_);have hgs13:=hb.size;have:=lt6 hB0 hB1 hB2 hD9 hD11 hD12;replace hOZ:=aB hOZ hS9;obtain ⟨hB0,hB1,hB2,hD9,hD11,hD12⟩:=bl6 hS9 hB0 hB1 hB2 hD9 hD11 hD12;have hb:=aF hb hS9;clear hS9;generalize X4.heap.size=g13 at *;have hl9:=hD9.lt;go_upto_region 18 with fail
   have hbA:(g9+1)≤Y4.heap.size:=by omega
   have hn_hB0:(Value.ownBlock (.slice A5 k c5))≠some w.heap.size:=fun h9=>by have h8:=aQ hOZ _ h9;omega
   have hn_hB1:(Value.ownBlock (.slice A5 k c5))≠some (w.heap.size+1):=fun h9=>by have h8:=aQ hOZ _ h9;omega
   have hn_hB2:(Value.ownBlock (.slice A5 k c5))≠some (w.heap.size+2):=fun h9=>by have h8:=aQ hOZ _ h9;omega
   have hn_hD9:(Value.ownBlock (.slice A5 k c5))≠some g9:=fun h9=>by have h8:=aQ hOZ _ h9;omega
   have hn_hD12:(Value.ownBlock (.slice A5 k c5))≠some g12:=fun h9=>by have h8:=hog _ h9;omega
   have hn_hD13:(Value.ownBlock (.slice A5 k c5))≠some g13:=fun h9=>by have h8:=hog3 _ h9;omega
   refine mE (⟨(g9+1),23,3,.slice A5 k c5,k,(fl rc (ptl k (caF l y))),(zD (caF l y k))⟩:Ar) 3 [none,none,some (Anew (⟨(g9+1),23,3,.slice A5 k c5,k,(fl rc (ptl k (caF l y))),(zD (caF l y k))⟩:Ar) 23),some (Aout (⟨(g9+1),23,3,.slice A5 k c5,k,(fl rc (ptl k (caF l y))),(zD (caF l y k))⟩:Ar))] (cG (cG (dU (fun v X Y h hR=>Anew.lasts v X Y h hR) (dU (fun v X Y h hR=>Aout.lasts v X Y h hR) (jK))))) ?_;simp only [iB,Nat.reduceAdd];refine am (.slice A5 k c5) ?_;refine ag hOZ hbA (.agg #[.bool (rN (caF l y k)),vS (rP (caF l y k)),vS (rD (caF l y k))]) (fun X σ hX hF=>eG 23 _ (by rfl) g13 (by rfl) G23 rfl X (hX.blk hD13 hn_hD13) aD) ?_;refine ab hOZ 23 (fun X=>by unfold execOp;go_simp) ?_;intro v62;refine aa hOZ hbA 23 2 v62 zE G27 fF rfl (show 0<3 by decide) (by rfl) (al3 rfl rfl rfl) (show k+1≤maxLen by unfold maxLen;omega) (show (k+1) * 40≤140737488355328 by omega) ?_;intro v63;refine am (v63) ?_;refine az hOZ hbA ?_;intro X5 σ hX hF;have hO63:X5.ownsRow (g9+1) 23 3 v63 (k+1) ((fl rc (ptl k (caF l y)))++(zD (caF l y k))):=(hF _ _ zE).2
   have hB0:=hX.blk hB0 hn_hB0;have hB1:=hX.blk hB1 hn_hB1;have hB2:=hX.blk hB2 hn_hB2;have hD9:=hX.blk hD9 hn_hD9;have hD12:=hX.blk hD12 hn_hD12;have hD13:=hX.blk hD13 hn_hD13;have hb:=hb.trans (hX.below.mono (show w.heap.size≤(g9+1) by omega));clear hF hn_hB0 hn_hB1 hn_hB2 hn_hD9 hn_hD12 hn_hD13;obtain ⟨A7,c7,rfl,_,_⟩:=(Rd.of_own hO63).form;clear hOZ hog hog0 hog3
   have hOZ:X5.ownsRow (g9+1) 23 3 (.slice A7 (k+1) c7) (k+1) (fl rc (ptl (k+1) (caF l y))):=by rw [iU];exact hO63
   clear hO63 hX;go_upto_region 19 with fail;refine jq 3 ?_;refine aC hD9 ?_;refine aC hD13 ?_;refine jc (rt (rN (s+(caF l y k))) (rP (s+(caF l y k))) (rD (s+(caF l y k)))) (fun X hX hF=>uJ (rN s) (rP s) (rD s) (rN (caF l y k)) (rP (caF l y k)) (rD (caF l y k)) (aZ s) (aZ (caF l y k)) X (tzR LB5 (by omega)) (tzR LB6 (by omega))) ?_;refine bU hb hB0 hB1 hB2 hD9 hD13 fun X6 hX6 hb hB0 hB1 hB2 hD9 hD13=>?_;replace hOZ:=aB hOZ hX6;obtain ⟨s',hs'⟩:∃ z,z=s+caF l y k:=⟨_,rfl⟩
   have HS2:Hid (s'=sm (k+1) (caF l y)):=by
    show _=_
    rw [cK,← HSS.out,hs']
   rw [← hs'];clear hs';refine aU rfl 23 (.tmp 9) (.tmp 66) rfl g9 23 _ hD9 rfl (zD s') rfl (by rfl) (al3 rfl rfl rfl) aD ?_;intro w19 hR9 hG9;have hb:=aR hG9 hb hb.size (by omega);obtain ⟨hB0,hB1,hB2,hD13⟩:=bg4 hG9 hB0 hB1 hB2 hD13;have hOZ:=aO hOZ hG9 (fun g h h9=>by injection h with h;have h8:=aQ hOZ _ h9;omega);have hD9:=hR9;clear hR9 hG9;refine wpList_nil ?_;go_upto_region 14 with fail;refine jp ?_;refine jm (vI k) ?_;refine jv (vI ((k+1:Nat):Int)) (aV _ _ _ _ (by rfl) (k:Int) 1 ((k+1:Nat):Int) (by rfl) (by rfl) (by omega) (by omega) (by omega)) ?_;refine jm (vI ((k+1:Nat):Int)) ?_;refine dI hb hB0 hB1 hB2 hD9 fun X7 hX7 hb hB0 hB1 hB2 hD9=>?_;replace hOZ:=aB hOZ hX7
   go_wp2
   go_roundw
   case rel=>exact ⟨k+1,c7,A7,s',by omega,rfl,rfl,HS2,hD9,hB0,hB1,hB2,hOZ,hb⟩
   case measure=>simp [intOf];omega
  ·have hkn:k=n:=by omega
   have hln2:l.length=k:=HLN.out.trans hkn.symm;obtain rfl:l.length=k:=hln2
   have HSE:Hid (s=S):=by
    show _=_
    rw [HSS.out,HS.out]
   rw [HSE.out] at hD9;have hl9:=hD9.lt;go_upto_region 13 with fail;refine jp ?_;refine jm (vI (l.length:Int)) ?_;refine jnf hB0 3 aT ?_;refine jv (vI n) (aM G24 _ (by rfl) A n cp (by rfl) _ rfl) ?_;refine dJ (l.length:Int) (n:Int) (by omega) ?_;refine dI hb hB0 hB1 hB2 hD9 fun X1 hX1 hb hB0 hB1 hB2 hD9=>?_;replace hOZ:=aB hOZ hX1;have hl9:=hD9.lt;have hwB:=hB2.lt;have hog:=aQ hOZ;have hwW:=hb.size;go_upto_region 20 with fail;refine aN [none,none,none,some (Tk X1.heap.size p (stc l (fun j=>ct l j-(caF l y) j)) (.slice A5 l.length c5) (0:Rat)),some (Pn X1.heap.size p (caL l y)),none,some (Pow X1.heap.size (fiD p (caL l y) S)),some (Av 41 zB X1.heap.size)] (by kernel_rfl) (by kernel_rfl) (by kernel_rfl) rfl (aA (aA (aA (aE (Tk.lasts _ _ _ _ _) (aE (Pn.lasts _ _ _) (aA (aE (Pow.lasts _ _) (aE (Av.lasts _ _ _) (aG))))))))) ?_;simp only [its,List.dropLast,Nat.zero_add,Nat.reduceAdd];refine aJ hB0 ?_;refine jm (.slice A5 l.length c5) ?_;refine jc (rt (rN (0:Rat)) (rP (0:Rat)) (rD (0:Rat))) (fun X hX hF=>uS X) ?_;refine jk (fun X hX hF=>(vXo p _ (.slice A5 l.length c5) l (ptl l.length (caF l y)) 0 X (HV.out X (Since.next hb hX)) (mR (aB hOZ hX) (cF _ _)) hs HOK hn8 (cF _ _) (fun j hj=>by rw [jH _ hj];exact (hcz.out j).mono (by decide))).mono fun e X' ⟨u,h1,h2,h3⟩=>⟨u,h1,by rw [uL rfl] at h2;exact h2.low hX.size,h3⟩) ?_
   intro v70;refine bH (by rfl) (fun X hX hF=>by obtain ⟨u9,e9,h9⟩:=(hF _ _ zE rfl);exact ⟨_,X,kW _ _ _ (by rfl) e9 X (qXd _ _ _ _ _ _ _ _ X),⟨u9,rfl,h9⟩,Below.refl _ _⟩) ?_;intro v71;simp only [pX];refine aC hD9 ?_;refine jk (fun X hX hF=>(rpoP p v71 (caL l y) S X (hF _ _ zE rfl) hsC HOC hcl hp hS0 hSz).mono fun e X' ⟨u,h1,h2,h3⟩=>⟨u,h1,h2.low hX.size,h3⟩) ?_;intro v73;refine bH (by rfl) (fun X hX hF=>Av.mk 41 zB X1.heap.size hX.size (by unfold execOp;go_simp)) ?_;intro v14;simp only [pX];refine aI ?_;intro X2 hX2 hF;have hv70:=hF _ _ (zF (zF (zF zE)));have hv71:=hF _ _ (zF (zF zE));have hv73:=hF _ _ (zF zE);have hv14:=hF _ _ zE;replace hOZ:=aB hOZ hX2;obtain ⟨hB0,hB1,hB2,hD9⟩:=bl4 hX2 hB0 hB1 hB2 hD9;have hb:=aF hb hX2;clear hF hX2;obtain ⟨g14,rfl,hge14,hD14⟩:=hv14;clear hv70 hv71;obtain ⟨uo73,zo73,rfl,hPu,hPz⟩:=hv73
   replace hPu:X2.ownsRow X1.heap.size 66 9 uo73 l.length (fl hoc (fiD p (caL l y) S).l):=by
    have h9:=hPu
    unfold Oh at h9
    rw [show (fiD p (caL l y) S).l.length=l.length from (pR _ _ _).trans (fT _ _)] at h9;exact h9
   replace hPz:X2.ownsRow X1.heap.size 23 3 zo73 l.length (fl rc (ptl l.length (pou (caL l y) (gn p (caL l y) S)))):=by
    have h9:X2.ownsRow X1.heap.size 23 3 zo73 (ptl (caL l y).length (pou (caL l y) (gn p (caL l y) S))).length (fl rc (ptl (caL l y).length (pou (caL l y) (gn p (caL l y) S)))):=hPz;rw [cF,fT] at h9;exact h9
   obtain ⟨A7,c7,rfl,_,_⟩:=(Rd.of_own hPu).form;obtain ⟨A8,c8,rfl,_,_⟩:=(Rd.of_own hPz).form;refine aU rfl 41 (.tmp 14) (.tmp 73) rfl g14 41 _ hD14 rfl [.bool p.1,vS p.2.1,vS p.2.2,.slice A7 l.length c7,.slice A8 l.length c8,.bool (rN (fiD p (caL l y) S).r),.string ⟨(rP (fiD p (caL l y) S).r).toArray⟩,.string ⟨(rD (fiD p (caL l y) S).r).toArray⟩] rfl (by rfl) (al8 rfl rfl rfl rfl rfl rfl rfl rfl) aY ?_;intro w9s hR9 hG9;have hb:=aR hG9 hb hb.size (by omega);have hB2:=aW hG9 hB2 (by omega);have hOZ:=aO hOZ hG9 (fun g h h9=>bK hOZ hD14 rfl (h9.trans h.symm));have hPu:=aO hPu hG9 (fun g h h9=>bK hPu hD14 rfl (h9.trans h.symm));have hPz:=aO hPz hG9 (fun g h h9=>bK hPz hD14 rfl (h9.trans h.symm));have hD14:=hR9;clear hR9 hG9 hB0 hB1 hD9;refine wpList_nil ?_;go_upto_region 21 with fail;refine jp ?_;refine jm (vI 0) ?_;refine bO hb hB2 hD14 fun X3 hX3 hb hB2 hD14=>?_;replace hOZ:=aB hOZ hX3;replace hPu:=aB hPu hX3;replace hPz:=aB hPz hX3
   replace hPz:X3.ownsRow X1.heap.size 23 3 (.slice A8 l.length c8) l.length (fl rc (ptl l.length (fun j=>if j<0 then (pou (caL l y) (gn p (caL l y) S)) j-caF l y j else (pou (caL l y) (gn p (caL l y) S)) j))):=by
    rw [eX (g:=(pou (caL l y) (gn p (caL l y) S))) (fun j _=>if_neg (Nat.not_lt_zero j))];exact hPz
   have hcP:Hid (∀ j,j<l.length→szR ((pou (caL l y) (gn p (caL l y) S)) j) 36030):=fun j hj=>HOC.out.psz hS0 hcl hsC.out hp (by decide) hSz (by decide) (by rw [fT];exact hj)
   go_wp2
   go_loopw [15] (fun kv wr=>∃ k:Nat,k≤l.length∧kv=vI k∧Blk wr (w.heap.size+2) 45 zC∧Blk wr g14 41 [.bool p.1,vS p.2.1,vS p.2.2,.slice A7 l.length c7,.slice A8 l.length c8,.bool (rN (fiD p (caL l y) S).r),.string ⟨(rP (fiD p (caL l y) S).r).toArray⟩,.string ⟨(rD (fiD p (caL l y) S).r).toArray⟩]∧wr.ownsRow (g9+1) 23 3 (.slice A5 l.length c5) l.length (fl rc (ptl l.length (caF l y)))∧wr.ownsRow X1.heap.size 66 9 (.slice A7 l.length c7) l.length (fl hoc (fiD p (caL l y) S).l)∧wr.ownsRow X1.heap.size 23 3 (.slice A8 l.length c8) l.length (fl rc (ptl l.length (fun j=>if j<k then (pou (caL l y) (gn p (caL l y) S)) j-caF l y j else (pou (caL l y) (gn p (caL l y) S)) j)))∧Below w.heap.size w wr) (fun kv _=>l.length-(intOf kv).toNat)
   case atStart=>exact ⟨0,by omega,rfl,hB2,hD14,hOZ,hPu,hPz,hb⟩
   case round =>
    clear hB2 hD14 hOZ hPu hPz hb;obtain ⟨k,hk,rfl,hB2,hD14,hOZ,hPu,hPz,hb⟩:=hrel
    rcases Nat.lt_or_ge k l.length with hlt|hlt
    ·obtain ⟨gq,rfl⟩:=iV hOZ (show 0<l.length by omega)
     obtain ⟨gp,rfl⟩:=iV hPz (show 0<l.length by omega);obtain ⟨hcq,hbq⟩:=rV hOZ hlt;obtain ⟨hcp,hbp⟩:=rV hPz hlt;rw [if_neg (Nat.lt_irrefl k)] at hcp
     change Cl wr gq (0+k * 3) (zD (caF l y k)) at hcq
     change Cl wr gp (0+k * 3) [.bool (rN ((pou (caL l y) (gn p (caL l y) S)) k)),.string ⟨(rP ((pou (caL l y) (gn p (caL l y) S)) k)).toArray⟩,.string ⟨(rD ((pou (caL l y) (gn p (caL l y) S)) k)).toArray⟩] at hcp
     have hpq:gq≠gp:=by
      have h1:=(hog gq rfl).2;have h2:=(aQ hPz gp rfl).1
      omega
     have LB0:szR ((pou (caL l y) (gn p (caL l y) S)) k) 36030:=hcP.out k hlt;have LB1:szR (caF l y k) 301:=hcz.out k;go_upto_region 22 with fail;refine jp ?_;refine jmm (vI k) (.slice (some ⟨gq,0,none⟩) l.length c5) ?_;refine jv (vI (l.length:Int)) (aM G27 _ (by rfl) (some ⟨gq,0,none⟩) l.length c5 (by rfl) _ rfl) ?_;refine dP (k:Int) (l.length:Int) (by omega) ?_;refine bO hb hB2 hD14 fun X1 hX1 hb hB2 hD14=>?_;replace hOZ:=aB hOZ hX1;replace hPu:=aB hPu hX1;replace hPz:=aB hPz hX1;have hcq:=hcq.below hX1 hbq;have hcp:=hcp.below hX1 hbp;replace hbq:=Nat.lt_of_lt_of_le hbq (hX1).size;replace hbp:=Nat.lt_of_lt_of_le hbp (hX1).size;go_upto_region 24 with fail;refine aN [] (by kernel_rfl) (by kernel_rfl) (by kernel_rfl) rfl (aG) ?_;simp only [its,List.dropLast,Nat.zero_add,Nat.reduceAdd];refine jnf hD14 4 bV ?_;refine jm (vI k) ?_;refine jnf hD14 4 bV ?_;refine jm (vI k) ?_;refine jv (vP gp (0+k * 3)) (bD G27 aD _ _ (by rfl) gp (0) l.length c8 k (by omega) (by rfl) (by rfl) rfl) ?_;refine jg (.agg #[.bool (rN ((pou (caL l y) (gn p (caL l y) S)) k)),st (rP ((pou (caL l y) (gn p (caL l y) S)) k)),st (rD ((pou (caL l y) (gn p (caL l y) S)) k))]) (fun X hX hF=>bP 23 _ (by rfl) gp (0+k * 3) (by rfl) G23 rfl [.bool (rN ((pou (caL l y) (gn p (caL l y) S)) k)),.string ⟨(rP ((pou (caL l y) (gn p (caL l y) S)) k)).toArray⟩,.string ⟨(rD ((pou (caL l y) (gn p (caL l y) S)) k)).toArray⟩] X (Cl.part (hcp.below hX hbp) 0 _ (by rfl)) aD) ?_
     refine jmm (.slice (some ⟨gq,0,none⟩) l.length c5) (vI k) ?_;refine jv (vP gq (0+k * 3)) (bD G27 aD _ _ (by rfl) gq (0) l.length c5 k (by omega) (by rfl) (by rfl) rfl) ?_;refine jg (rt (rN (caF l y k)) (rP (caF l y k)) (rD (caF l y k))) (fun X hX hF=>bP 23 _ (by rfl) gq (0+k * 3) (by rfl) G23 rfl (zD (caF l y k)) X (Cl.part (hcq.below hX hbq) 0 _ (by rfl)) aD) ?_;refine jc (.agg #[.bool (rN (((pou (caL l y) (gn p (caL l y) S)) k)-(caF l y k))),st (rP (((pou (caL l y) (gn p (caL l y) S)) k)-(caF l y k))),st (rD (((pou (caL l y) (gn p (caL l y) S)) k)-(caF l y k)))]) (fun X hX hF=>jZ (rN ((pou (caL l y) (gn p (caL l y) S)) k)) (rP ((pou (caL l y) (gn p (caL l y) S)) k)) (rD ((pou (caL l y) (gn p (caL l y) S)) k)) (rN (caF l y k)) (rP (caF l y k)) (rD (caF l y k)) (aZ ((pou (caL l y) (gn p (caL l y) S)) k)) (aZ (caF l y k)) X (tzR LB0 (by omega)) (tzR LB1 (by omega))) ?_;refine jv (vP gp (0+k * 3)) (bD G27 aD _ _ (by rfl) gp (0) l.length c8 k (by omega) (by rfl) (by rfl) rfl) ?_;refine bO hb hB2 hD14 fun X2 hX2 hb hB2 hD14=>?_;replace hOZ:=aB hOZ hX2;replace hPu:=aB hPu hX2;replace hPz:=aB hPz hX2;have hcq:=hcq.below hX2 hbq;have hcp:=hcp.below hX2 hbp;replace hbq:=Nat.lt_of_lt_of_le hbq (hX2).size;replace hbp:=Nat.lt_of_lt_of_le hbp (hX2).size
     refine gD rfl 23 (.tmp 93) (.tmp 92) rfl hPz (k * 3) (by show vP gp (0+k * 3)=_;rw [Nat.zero_add]) (rc ((pou (caL l y) (gn p (caL l y) S)) k-caF l y k)) rfl (by rw [jG,cF,eR];omega) (by intro u hu;simp only [rc,trc,List.mem_cons,List.not_mem_nil,or_false] at hu;rcases hu with rfl|rfl|rfl <;> rfl) aD ?_;intro w13 hR9 hG9
     rw [show k * 3+(rc ((pou (caL l y) (gn p (caL l y) S)) k-caF l y k)).length=k * 3+3 from rfl,oH eR (by rw [cF];exact hlt),oD (fun j=>if j<k then (pou (caL l y) (gn p (caL l y) S)) j-caF l y j else (pou (caL l y) (gn p (caL l y) S)) j) (fun j=>if j<(k+1) then (pou (caL l y) (gn p (caL l y) S)) j-caF l y j else (pou (caL l y) (gn p (caL l y) S)) j) ((pou (caL l y) (gn p (caL l y) S)) k-caF l y k) hlt (fun j _=>by
      by_cases h9:j=k
      ·subst h9
       rw [if_pos (Nat.lt_succ_self j),if_pos rfl]
      ·rw [if_neg h9]
       simp only [eT h9])] at hR9
     have hgb:=aQ hPz gp rfl;have hb:=aR hG9 hb hb.size (by omega);have hB2:=aW hG9 hB2 (by omega);have hD14:=aW hG9 hD14 (fun h9=>bK hPz hD14 rfl (by rw [h9];rfl))
     have hOZ:=aO hOZ hG9 (fun g h h9=>hpq (by
      injection h with h
      have h8:(some gq:Option Nat)=some g:=h9
      injection h8 with h8
      omega))
     have hPu:=aO hPu hG9 (fun g h h9=>kR hPz hPu h h9);have hPz:=hR9;clear hR9 hG9 hgb;refine wpList_nil ?_;go_upto_region 23 with fail;refine jp ?_;refine jm (vI k) ?_;refine jv (vI ((k+1:Nat):Int)) (aV _ _ _ _ (by rfl) (k:Int) 1 ((k+1:Nat):Int) (by rfl) (by rfl) (by omega) (by omega) (by omega)) ?_;refine jm (vI ((k+1:Nat):Int)) ?_;refine bO hb hB2 hD14 fun X3 hX3 hb hB2 hD14=>?_;replace hOZ:=aB hOZ hX3;replace hPu:=aB hPu hX3;replace hPz:=aB hPz hX3
     go_wp2
     go_roundw
     case rel=>exact ⟨k+1,by omega,rfl,hB2,hD14,hOZ,hPu,hPz,hb⟩
     case measure=>simp [intOf];omega
    ·have hkn:k=l.length:=by omega
     rw [hkn] at hPz;go_upto_region 22 with fail;refine jp ?_;refine jmm (vI k) (.slice A5 l.length c5) ?_;refine jv (vI (l.length:Int)) (aM G27 _ (by rfl) A5 l.length c5 (by rfl) _ rfl) ?_;refine dJ (k:Int) (l.length:Int) (by omega) ?_;refine bO hb hB2 hD14 fun X1 hX1 hb hB2 hD14=>?_;replace hOZ:=aB hOZ hX1;replace hPu:=aB hPu hX1;replace hPz:=aB hPz hX1;go_upto_region 25 with fail;refine jq 2 ?_;refine cJ hD14 ?_;refine jn (.agg #[.bool p.1,st p.2.1,st p.2.2,.slice A7 l.length c7,.slice A8 l.length c8,.bool (rN (fiD p (caL l y) S).r),st (rP (fiD p (caL l y) S).r),st (rD (fiD p (caL l y) S).r),vI 0]) ?_;refine bO hb hB2 hD14 fun X2 hX2 hb hB2 hD14=>?_;replace hOZ:=aB hOZ hX2;replace hPu:=aB hPu hX2;replace hPz:=aB hPz hX2;refine aU rfl 45 (.tmp 4) (.tmp 95) rfl (w.heap.size+2) 45 _ hB2 rfl [.bool p.1,vS p.2.1,vS p.2.2,.slice A7 l.length c7,.slice A8 l.length c8,.bool (rN (fiD p (caL l y) S).r),.string ⟨(rP (fiD p (caL l y) S).r).toArray⟩,.string ⟨(rD (fiD p (caL l y) S).r).toArray⟩,vI 0] rfl (by rfl) (al9 rfl rfl rfl rfl rfl rfl rfl rfl rfl) bQ ?_;intro w9 hR9 hG9;have hb:=aR hG9 hb hb.size (by omega);have hPu:=aO hPu hG9 (fun g h h9=>bK hPu hB2 rfl (h9.trans h.symm));have hPz:=aO hPz hG9 (fun g h h9=>bK hPz hB2 rfl (h9.trans h.symm))
     have hPV:Sw w.heap.size (caR p l (tr y)) 0 (.agg #[.bool p.1,vS p.2.1,vS p.2.2,.slice A7 l.length c7,.slice A8 l.length c8,.bool (rN (fiD p (caL l y) S).r),.string ⟨(rP (fiD p (caL l y) S).r).toArray⟩,.string ⟨(rD (fiD p (caL l y) S).r).toArray⟩,vI 0]) w9:=by
      rw [HR.out]
      unfold caD
      rw [← HS.out];refine ⟨_,_,rfl,?_,?_⟩
      ·show World.ownsRow _ _ _ _ _ (fiD p (caL l y) S).l.length _
       rw [pR,fT];exact bG hPu hwW
      ·show World.ownsRow _ _ _ _ _ (ptl l.length _).length (fl rc (ptl l.length _))
       rw [eX (g:=fun k=>pou (caL l y) (gn p (caL l y) S) k-caF l y k) (fun j hj=>if_pos hj)] at hPz;rw [cF];exact bG hPz hwW
     go_wp2
     refine aK rfl rfl (by rfl) G45 rfl hR9 bQ ⟨_,rfl,by rw [HE.out];exact hPV,hb⟩
theorem rcaC (p:Tr) (v:Value) (l:List Ho) (t:Tr) (w:World) (hv:Hl l v w) (hs1:Hid (Szp l 100)) (hp:tz p.2.1 p.2.2 1000) (hn:l.length≤8∨20<l.length) (ht:tz t.2.1 t.2.2 100):Calls Tryz.prog 18 #[.agg #[.bool p.1,vS p.2.1,vS p.2.2,v],.agg #[.bool t.1,vS t.2.1,vS t.2.2]] w fun e w'=>∃ u,e=.returned u∧Sw w.heap.size (caR p l t) (caE p l t) u w'∧Since w w':=by
 by_cases h0:chE p l=0
 ·cases hf:vd t.1 t.2.1 t.2.2 with
  | false=>exact rca1 p v l t w hv hs1 hp ht h0 hf
  | true =>
   obtain ⟨y,rfl⟩:∃ y:Rat,t=tr y:=⟨trq t,(jF hf).symm⟩
   have hyz:szR y 100:=by
    have h9:=dQ (x:=trq (tr y)) rfl ht (by decide)
    rwa [eN] at h9
   cases hn1:rN y with
   | true=>exact rca2 p v l y w hv hs1 hp hyz h0 hn1
   | false =>
    by_cases hgt:((1:Int):Rat)<y
    ·exact rca3 p v l y w hv hs1 hp hyz h0 hn1 hgt
    ·exact rca4 p v l y w hv hs1 hp hyz (mA hn h0) h0 (qQq hn1) hgt
 ·exact rca0 p v l t w hv hs1 hp h0
end Go.Proofs.YtnfpenhldlfafaaGreatDoor

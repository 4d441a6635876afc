/- reservoir: Carry. -/
import Derived.Test.YtnfpenhldlfafaaGreatDoorHd41
set_option linter.unusedSimpArgs false
set_option linter.unusedVariables false
set_option maxRecDepth 100000
set_option maxHeartbeats 1600000
namespace Go.Proofs.YtnfpenhldlfafaaGreatDoor
open Go.RowKit
theorem iW (n:Nat) (f:Nat→Rat):cK ((ptl n f).map tr)=sm n f:=by
 induction n with
 | zero=>rfl
 | succ n ih =>
  have h1:ptl (n+1) f=ptl n f++[f n]:=by
   unfold ptl
   rw [List.range_succ,List.map_append]
   rfl
  rw [h1,List.map_append,cB,← ih]
  show cK (_++[tr (f n)])=_
  rw [kW,cF]
theorem wV {X:World} {B n c g k m:Nat} {f:Nat→Rat} (h:X.ownsRow B 23 3 (.slice (some ⟨g,0,none⟩) n c) n (fl rc (ptl m f))) (hk:k<m):Cl X g (0+k * 3) (rc (f k))∧g<X.heap.size:=by
 obtain ⟨h1,h2,_,_⟩:=wW h;have h3:=lE (g:=rc) (m:=3) (l:=ptl m f) (fun x _=>eD x) (List.drop_eq_getElem_cons (by rw [bX];exact hk));rw [← qC,eE f hk] at h3;exact ⟨Cl.part h1 (k * 3) _ (by rw [eD];exact h3),h2⟩
theorem gY {n:Nat} {f:Nat→Rat} {B:Nat} (h:∀ k,k<n→szR (f k) B):∀ t∈(ptl n f).map tr,t.2.1.length≤B∧t.2.2.length≤B:=by
 intro t ht;obtain ⟨x,hx,rfl⟩:=List.mem_map.1 ht
 unfold ptl at hx
 obtain ⟨k,hk,rfl⟩:=List.mem_map.1 hx;exact tzR (h k (List.mem_range.1 hk)) (Nat.le_refl _)
theorem ca_sz {p:Tr} {l:List Ho} {y:Rat} (hs:Szp l 100) (hy:szR y 100):Szp (caL l y) 1000 :=
 (qJ (p:=p) 0 hs (by decide) (fun k _=>tI hs (by decide) hy k)).mono (by decide)
theorem car0 (p:Tr) (v:Value) (l:List Ho) (g:Bool) (nn dd:List UInt8) (w:World) (hv:Hl l v w) (hs1:Hid (Szp l 100)) (hp:tz p.2.1 p.2.2 1000) (h0:chE p l≠0):Calls Tryz.prog 17 #[.agg #[.bool p.1,vS p.2.1,vS p.2.2,v],.agg #[.bool g,vS nn,vS dd]] w fun e w'=>∃ u,e=.returned u∧Tp (Pow w.heap.size (caR p l (g,nn,dd))) (caE p l (g,nn,dd)) u w'∧Since w w':=by
 have hs:Hid (Szp l 1000):=hs1.out.mono (by decide)
 have HV:Hid (∀ X,Since w X→Hl l v X):=fun X h=>Hl.lasts l _ _ _ hv h
 clear hv;have hs4:Hid (Szp l 40000):=hs.out.mono (by decide);have hp6:tz p.2.1 p.2.2 1000000:=hp.mono (by decide);obtain ⟨z,z9⟩:∃ z,chE p l=z:=⟨_,rfl⟩;have HZ:=Lib.hid z9;clear z9
 have hz0:z≠0:=by rw [← HZ.out];exact h0
 clear h0
 have HE:Hid (caE p l (g,nn,dd)=z):=by
  show _=_
  unfold caE
  rw [HZ.out,if_pos hz0]
 have HR:Hid (caR p l (g,nn,dd)=pd0):=if_neg (by rw [HE.out];exact hz0)
 go_enter Tryz.func17,Tryz.ntmps17
 go_upto_region 1 with fail;obtain ⟨W0,hW0,hB0,hB1,hB2,hb⟩:=bS w 26 23 41 [.bool p.1,vS p.2.1,vS p.2.2,v] [.bool g,vS nn,vS dd] [.bool false,.string ⟨#[]⟩,.string ⟨#[]⟩,.slice none 0 0,.slice none 0 0,.bool false,.string ⟨#[]⟩,.string ⟨#[]⟩];rw [← hW0];clear hW0;refine jp ?_;refine ja hB0 Tryz.underlying26 (by rfl) aL ?_;refine jc (vI z) (fun X hX hF=>mo (iU p v l X (HV.out X (Since.next hb hX)) hs4 hp6) (by rw [HZ.out])) ?_;refine jm (vI z) ?_;refine bD hb hB0 hB1 hB2 fun X1 hX1 hb hB0 hB1 hB2=>?_;go_upto_region 2 with fail;refine jp ?_;refine jm (vI z) ?_;refine jv (.bool true) (bE _ _ _ _ (by rfl) .i64 z 0 (by rfl) (by rfl) true (by rw [decide_eq_false (by omega)];rfl)) ?_;refine bD hb hB0 hB1 hB2 fun X2 hX2 hb hB0 hB1 hB2=>?_;go_upto_region 3 with fail;refine jq 2 ?_;refine jn (.agg #[.bool false,.string ⟨#[]⟩,.string ⟨#[]⟩,.slice none 0 0,.slice none 0 0,.bool false,.string ⟨#[]⟩,.string ⟨#[]⟩]) ?_;refine jm (vI z) ?_;refine bD hb hB0 hB1 hB2 fun X3 hX3 hb hB0 hB1 hB2=>?_;refine osb 41 4 15 (w.heap.size+2) 41 hB2 [.bool false,.string ⟨#[]⟩,.string ⟨#[]⟩,.slice none 0 0,.slice none 0 0,.bool false,.string ⟨#[]⟩,.string ⟨#[]⟩] aM ?_;intro w9 hR9 hO9 hB9 hs9;have hb9:=hB9 _ _ hb (by omega);have hB0:=hO9 _ _ _ (by omega) hB0;have hB1:=hO9 _ _ _ (by omega) hB1;clear hO9 hB9
 go_wp2
 refine bJ (v:=vI z) rfl rfl (by rfl) (by rfl) Tryz.underlying41 rfl hR9 aM ⟨_,rfl,⟨_,by rw [HE.out],by rw [HR.out];exact Pow.z _ _⟩,hb9⟩
theorem car1 (p:Tr) (v:Value) (l:List Ho) (g:Bool) (nn dd:List UInt8) (w:World) (hv:Hl l v w) (hs1:Hid (Szp l 100)) (hp:tz p.2.1 p.2.2 1000) (ht:tz nn dd 100) (h0:chE p l=0) (hf:vd g nn dd=false):Calls Tryz.prog 17 #[.agg #[.bool p.1,vS p.2.1,vS p.2.2,v],.agg #[.bool g,vS nn,vS dd]] w fun e w'=>∃ u,e=.returned u∧Tp (Pow w.heap.size (caR p l (g,nn,dd))) (caE p l (g,nn,dd)) u w'∧Since w w':=by
 have hs:Hid (Szp l 1000):=hs1.out.mono (by decide)
 have HV:Hid (∀ X,Since w X→Hl l v X):=fun X h=>Hl.lasts l _ _ _ hv h
 clear hv;have hs4:Hid (Szp l 40000):=hs.out.mono (by decide);have hp6:tz p.2.1 p.2.2 1000000:=hp.mono (by decide);have HC:Hid (chE p l=0):=h0;clear h0;have HV9:Hid (vd g nn dd=false):=hf
 have HE:Hid (caE p l (g,nn,dd)=1):=by
  show _=_
  unfold caE
  rw [HC.out,if_neg (by decide),if_pos hf]
 clear hf;have HR:Hid (caR p l (g,nn,dd)=pd0):=if_neg (by rw [HE.out];decide)
 go_enter Tryz.func17,Tryz.ntmps17
 go_upto_region 1 with fail;obtain ⟨W0,hW0,hB0,hB1,hB2,hb⟩:=bS w 26 23 41 [.bool p.1,vS p.2.1,vS p.2.2,v] [.bool g,vS nn,vS dd] [.bool false,.string ⟨#[]⟩,.string ⟨#[]⟩,.slice none 0 0,.slice none 0 0,.bool false,.string ⟨#[]⟩,.string ⟨#[]⟩];rw [← hW0];clear hW0;refine jp ?_;refine ja hB0 Tryz.underlying26 (by rfl) aL ?_;refine jc (vI 0) (fun X hX hF=>mo (iU p v l X (HV.out X (Since.next hb hX)) hs4 hp6) (by rw [HC.out])) ?_;refine jm (vI 0) ?_;refine bD hb hB0 hB1 hB2 fun X1 hX1 hb hB0 hB1 hB2=>?_;go_upto_region 2 with fail;refine jp ?_;refine jm (vI 0) ?_;refine jv (.bool false) (bE _ _ _ _ (by rfl) .i64 0 0 (by rfl) (by rfl) false (by rw [decide_eq_true (by omega)];rfl)) ?_;refine bD hb hB0 hB1 hB2 fun X2 hX2 hb hB0 hB1 hB2=>?_;go_upto_region 4 with fail;refine jp ?_;refine ja hB1 Tryz.underlying23 (by rfl) aB ?_;refine jc (.bool false) (fun X hX hF=>mo (kT g nn dd X (ht.mono (by decide))) (by rw [HV9.out])) ?_;refine jm (.bool true) ?_;refine bD hb hB0 hB1 hB2 fun X3 hX3 hb hB0 hB1 hB2=>?_;go_upto_region 5 with fail;refine jq 1 ?_;refine jn (.agg #[.bool false,.string ⟨#[]⟩,.string ⟨#[]⟩,.slice none 0 0,.slice none 0 0,.bool false,.string ⟨#[]⟩,.string ⟨#[]⟩]) ?_;refine bD hb hB0 hB1 hB2 fun X4 hX4 hb hB0 hB1 hB2=>?_;refine osb 41 4 20 (w.heap.size+2) 41 hB2 [.bool false,.string ⟨#[]⟩,.string ⟨#[]⟩,.slice none 0 0,.slice none 0 0,.bool false,.string ⟨#[]⟩,.string ⟨#[]⟩] aM ?_
 intro w9 hR9 hO9 hB9 hs9;have hb9:=hB9 _ _ hb (by omega);have hB0:=hO9 _ _ _ (by omega) hB0;have hB1:=hO9 _ _ _ (by omega) hB1;clear hO9 hB9
 go_wp2
 refine bJ (v:=vI 1) rfl rfl (by rfl) (by rfl) Tryz.underlying41 rfl hR9 aM ⟨_,rfl,⟨_,by rw [HE.out],by rw [HR.out];exact Pow.z _ _⟩,hb9⟩
theorem car2 (p:Tr) (v:Value) (l:List Ho) (nn dd:List UInt8) (w:World) (hv:Hl l v w) (hs1:Hid (Szp l 100)) (hp:tz p.2.1 p.2.2 1000) (ht:tz nn dd 100) (h0:chE p l=0) (hf:vd true nn dd=true):Calls Tryz.prog 17 #[.agg #[.bool p.1,vS p.2.1,vS p.2.2,v],.agg #[.bool true,vS nn,vS dd]] w fun e w'=>∃ u,e=.returned u∧Tp (Pow w.heap.size (caR p l (true,nn,dd))) (caE p l (true,nn,dd)) u w'∧Since w w':=by
 have hs:Hid (Szp l 1000):=hs1.out.mono (by decide)
 have HV:Hid (∀ X,Since w X→Hl l v X):=fun X h=>Hl.lasts l _ _ _ hv h
 clear hv;have hs4:Hid (Szp l 40000):=hs.out.mono (by decide);have hp6:tz p.2.1 p.2.2 1000000:=hp.mono (by decide);have HC:Hid (chE p l=0):=h0;clear h0;have HV9:Hid (vd true nn dd=true):=hf
 have HE:Hid (caE p l (true,nn,dd)=3):=by
  show _=_
  unfold caE
  rw [HC.out,if_neg (by decide),if_neg (by rw [hf];decide),if_pos (.inl rfl)]
 clear hf;have HR:Hid (caR p l (true,nn,dd)=pd0):=if_neg (by rw [HE.out];decide)
 go_enter Tryz.func17,Tryz.ntmps17
 go_upto_region 1 with fail;obtain ⟨W0,hW0,hB0,hB1,hB2,hb⟩:=bS w 26 23 41 [.bool p.1,vS p.2.1,vS p.2.2,v] [.bool true,vS nn,vS dd] [.bool false,.string ⟨#[]⟩,.string ⟨#[]⟩,.slice none 0 0,.slice none 0 0,.bool false,.string ⟨#[]⟩,.string ⟨#[]⟩];rw [← hW0];clear hW0;refine jp ?_;refine ja hB0 Tryz.underlying26 (by rfl) aL ?_;refine jc (vI 0) (fun X hX hF=>mo (iU p v l X (HV.out X (Since.next hb hX)) hs4 hp6) (by rw [HC.out])) ?_;refine jm (vI 0) ?_;refine bD hb hB0 hB1 hB2 fun X1 hX1 hb hB0 hB1 hB2=>?_;go_upto_region 2 with fail;refine jp ?_;refine jm (vI 0) ?_;refine jv (.bool false) (bE _ _ _ _ (by rfl) .i64 0 0 (by rfl) (by rfl) false (by rw [decide_eq_true (by omega)];rfl)) ?_;refine bD hb hB0 hB1 hB2 fun X2 hX2 hb hB0 hB1 hB2=>?_;go_upto_region 4 with fail;refine jp ?_;refine ja hB1 Tryz.underlying23 (by rfl) aB ?_;refine jc (.bool true) (fun X hX hF=>mo (kT true nn dd X (ht.mono (by decide))) (by rw [HV9.out])) ?_;refine jm (.bool false) ?_;refine bD hb hB0 hB1 hB2 fun X3 hX3 hb hB0 hB1 hB2=>?_;go_upto_region 6 with fail;refine jd ?_;refine jnf hB1 0 aQ ?_;refine jm (.bool true) ?_;refine hI ?_;refine jm (.bool true) ?_;refine bD hb hB0 hB1 hB2 fun X4 hX4 hb hB0 hB1 hB2=>?_;go_upto_region 7 with fail;refine jq 1 ?_;refine jn (.agg #[.bool false,.string ⟨#[]⟩,.string ⟨#[]⟩,.slice none 0 0,.slice none 0 0,.bool false,.string ⟨#[]⟩,.string ⟨#[]⟩]) ?_
 refine bD hb hB0 hB1 hB2 fun X5 hX5 hb hB0 hB1 hB2=>?_;refine osb 41 4 29 (w.heap.size+2) 41 hB2 [.bool false,.string ⟨#[]⟩,.string ⟨#[]⟩,.slice none 0 0,.slice none 0 0,.bool false,.string ⟨#[]⟩,.string ⟨#[]⟩] aM ?_;intro w9 hR9 hO9 hB9 hs9;have hb9:=hB9 _ _ hb (by omega);have hB0:=hO9 _ _ _ (by omega) hB0;have hB1:=hO9 _ _ _ (by omega) hB1;clear hO9 hB9
 go_wp2
 refine bJ (v:=vI 3) rfl rfl (by rfl) (by rfl) Tryz.underlying41 rfl hR9 aM ⟨_,rfl,⟨_,by rw [HE.out],by rw [HR.out];exact Pow.z _ _⟩,hb9⟩
theorem car3 (p:Tr) (v:Value) (l:List Ho) (nn dd:List UInt8) (w:World) (hv:Hl l v w) (hs1:Hid (Szp l 100)) (hp:tz p.2.1 p.2.2 1000) (ht:tz nn dd 100) (h0:chE p l=0) (hf:vd false nn dd=true) (hgt:1<trq (false,nn,dd)):Calls Tryz.prog 17 #[.agg #[.bool p.1,vS p.2.1,vS p.2.2,v],.agg #[.bool false,vS nn,vS dd]] w fun e w'=>∃ u,e=.returned u∧Tp (Pow w.heap.size (caR p l (false,nn,dd))) (caE p l (false,nn,dd)) u w'∧Since w w':=by
 have hs:Hid (Szp l 1000):=hs1.out.mono (by decide)
 have HV:Hid (∀ X,Since w X→Hl l v X):=fun X h=>Hl.lasts l _ _ _ hv h
 clear hv;have hs4:Hid (Szp l 40000):=hs.out.mono (by decide);have hp6:tz p.2.1 p.2.2 1000000:=hp.mono (by decide);have HC:Hid (chE p l=0):=h0;clear h0;have HV9:Hid (vd false nn dd=true):=hf
 have HE:Hid (caE p l (false,nn,dd)=3):=by
  show _=_
  unfold caE
  rw [HC.out,if_neg (by decide),if_neg (by rw [hf];decide),if_pos (.inr hgt)]
 clear hf;have HR:Hid (caR p l (false,nn,dd)=pd0):=if_neg (by rw [HE.out];decide);obtain ⟨y,y9⟩:∃ z,rq false nn dd=z:=⟨_,rfl⟩;have HY:=Lib.hid y9;clear y9
 have hy1:((1:Int):Rat)<y:=by rw [← HY.out];exact hgt
 have hc:0<cA y ((1:Int):Rat):=Int.not_le.1 fun h9=>Rat.not_le.2 hy1 (cmpR_le.1 h9)
 clear hy1 hgt;have LB0:szR ((1:Int):Rat) 7:=oL (n:=1) (by decide)
 go_enter Tryz.func17,Tryz.ntmps17
 go_upto_region 1 with fail;obtain ⟨W0,hW0,hB0,hB1,hB2,hb⟩:=bS w 26 23 41 [.bool p.1,vS p.2.1,vS p.2.2,v] [.bool false,vS nn,vS dd] [.bool false,.string ⟨#[]⟩,.string ⟨#[]⟩,.slice none 0 0,.slice none 0 0,.bool false,.string ⟨#[]⟩,.string ⟨#[]⟩];rw [← hW0];clear hW0;refine jp ?_;refine ja hB0 Tryz.underlying26 (by rfl) aL ?_;refine jc (vI 0) (fun X hX hF=>mo (iU p v l X (HV.out X (Since.next hb hX)) hs4 hp6) (by rw [HC.out])) ?_;refine jm (vI 0) ?_;refine bD hb hB0 hB1 hB2 fun X1 hX1 hb hB0 hB1 hB2=>?_;go_upto_region 2 with fail;refine jp ?_;refine jm (vI 0) ?_;refine jv (.bool false) (bE _ _ _ _ (by rfl) .i64 0 0 (by rfl) (by rfl) false (by rw [decide_eq_true (by omega)];rfl)) ?_;refine bD hb hB0 hB1 hB2 fun X2 hX2 hb hB0 hB1 hB2=>?_;go_upto_region 4 with fail;refine jp ?_;refine ja hB1 Tryz.underlying23 (by rfl) aB ?_;refine jc (.bool true) (fun X hX hF=>mo (kT false nn dd X (ht.mono (by decide))) (by rw [HV9.out])) ?_;refine jm (.bool false) ?_;refine bD hb hB0 hB1 hB2 fun X3 hX3 hb hB0 hB1 hB2=>?_;go_upto_region 6 with fail;refine jd ?_;refine jnf hB1 0 aQ ?_;refine jm (.bool false) ?_;refine ja hB1 Tryz.underlying23 (by rfl) aB ?_;refine jc (rt (rN ((1:Int):Rat)) (rP ((1:Int):Rat)) (rD ((1:Int):Rat))) (fun X hX hF=>eH (1) X (by decide)) ?_;refine jc (vI (cA y ((1:Int):Rat))) (fun X hX hF=>iE false nn dd (rN ((1:Int):Rat)) (rP ((1:Int):Rat)) (rD ((1:Int):Rat)) HY.out (bH ((1:Int):Rat)) X (ht.mono (by omega)) (tzR LB0 (by omega))) ?_
 refine mV (cA y ((1:Int):Rat)) 0 (by omega) ?_;refine jm (.bool true) ?_;refine bD hb hB0 hB1 hB2 fun X4 hX4 hb hB0 hB1 hB2=>?_;go_upto_region 7 with fail;refine jq 1 ?_;refine jn (.agg #[.bool false,.string ⟨#[]⟩,.string ⟨#[]⟩,.slice none 0 0,.slice none 0 0,.bool false,.string ⟨#[]⟩,.string ⟨#[]⟩]) ?_;refine bD hb hB0 hB1 hB2 fun X5 hX5 hb hB0 hB1 hB2=>?_;refine osb 41 4 29 (w.heap.size+2) 41 hB2 [.bool false,.string ⟨#[]⟩,.string ⟨#[]⟩,.slice none 0 0,.slice none 0 0,.bool false,.string ⟨#[]⟩,.string ⟨#[]⟩] aM ?_;intro w9 hR9 hO9 hB9 hs9;have hb9:=hB9 _ _ hb (by omega);have hB0:=hO9 _ _ _ (by omega) hB0;have hB1:=hO9 _ _ _ (by omega) hB1;clear hO9 hB9
 go_wp2
 refine bJ (v:=vI 3) rfl rfl (by rfl) (by rfl) Tryz.underlying41 rfl hR9 aM ⟨_,rfl,⟨_,by rw [HE.out],by rw [HR.out];exact Pow.z _ _⟩,hb9⟩
set_option maxHeartbeats 8000000 in
theorem car4 (p:Tr) (v:Value) (l:List Ho) (nn dd:List UInt8) (w:World) (hv:Hl l v w) (hs1:Hid (Szp l 100)) (hp:tz p.2.1 p.2.2 1000) (ht:tz nn dd 100) (hn8:l.length≤8) (h0:chE p l=0) (hf:vd false nn dd=true) (hle:¬ 1<trq (false,nn,dd)):Calls Tryz.prog 17 #[.agg #[.bool p.1,vS p.2.1,vS p.2.2,v],.agg #[.bool false,vS nn,vS dd]] w fun e w'=>∃ u,e=.returned u∧Tp (Pow w.heap.size (caR p l (false,nn,dd))) (caE p l (false,nn,dd)) u w'∧Since w w':=by
 have hs:Hid (Szp l 1000):=hs1.out.mono (by decide)
 have HV:Hid (∀ X,Since w X→Hl l v X):=fun X h=>Hl.lasts l _ _ _ hv h
 clear hv;have hs4:Hid (Szp l 40000):=hs.out.mono (by decide);have hp6:tz p.2.1 p.2.2 1000000:=hp.mono (by decide);have HOK:Hid (Okp p l):=chE_ok.1 h0;have HC:Hid (chE p l=0):=h0;clear h0;have HV9:Hid (vd false nn dd=true):=hf
 have HE:Hid (caE p l (false,nn,dd)=0):=by
  show _=_
  unfold caE
  rw [HC.out,if_neg (by decide),if_neg (by rw [hf];decide),if_neg (by
   rintro (h9|h9)
   ·cases h9
   ·exact hle h9)]
 obtain ⟨y,y9⟩:∃ z,rq false nn dd=z:=⟨_,rfl⟩;have HY:=Lib.hid y9;clear y9
 have HR:Hid (caR p l (false,nn,dd)=caD p l y):=by
  show _=_
  unfold caR
  rw [if_pos HE.out,show trq (false,nn,dd)=y from HY.out]
 have hyz:szR y 100:=cV HY.out ht (by decide);obtain ⟨e1,e2,e3,_⟩:=mC hf;rw [HY.out] at e1 e2 e3;have hy0:0≤y:=qQu e1;have HY1:=Lib.hid e1;have HY2:=Lib.hid e2;have HY3:=Lib.hid e3;have hc:cA y ((1:Int):Rat)≤0:=cmpR_le.2 (Rat.not_lt.1 (by rw [← HY.out];exact hle));clear hf hle e1 e2 e3;have HOC:Hid (Okp p (caL l y)):=HOK.out.ca hy0;have hsC:Hid (Szp (caL l y) 1000):=ca_sz (p:=p) hs1.out hyz
 have hcz:Hid (∀ k,szR (caF l y k) 301):=fun k=>tI hs1.out (by decide) hyz k
 have hcl:(caL l y).length≤8:=by rw [eR];exact hn8
 obtain ⟨S,S9⟩:∃ S,S=sm l.length (caF l y):=⟨_,rfl⟩;have HS:=Lib.hid S9
 have hS0:0≤S:=by rw [S9];exact kQ HOK.out hy0
 have hSz:szR S 10000:=by
  rw [S9];exact (iJ (B:=301) fun k _=>hcz.out k).mono (show l.length * (301+1)+1≤10000 by omega)
 clear S9;have LB0:szR ((1:Int):Rat) 7:=oL (n:=1) (by decide)
 go_enter Tryz.func17,Tryz.ntmps17
 go_upto_region 1 with fail;obtain ⟨W0,hW0,hB0,hB1,hB2,hb⟩:=bS w 26 23 41 [.bool p.1,vS p.2.1,vS p.2.2,v] [.bool false,vS nn,vS dd] [.bool false,.string ⟨#[]⟩,.string ⟨#[]⟩,.slice none 0 0,.slice none 0 0,.bool false,.string ⟨#[]⟩,.string ⟨#[]⟩];rw [← hW0];clear hW0;refine jp ?_;refine ja hB0 Tryz.underlying26 (by rfl) aL ?_;refine jc (vI 0) (fun X hX hF=>mo (iU p v l X (HV.out X (Since.next hb hX)) hs4 hp6) (by rw [HC.out])) ?_;refine jm (vI 0) ?_;refine bD hb hB0 hB1 hB2 fun X1 hX1 hb hB0 hB1 hB2=>?_;go_upto_region 2 with fail;refine jp ?_;refine jm (vI 0) ?_;refine jv (.bool false) (bE _ _ _ _ (by rfl) .i64 0 0 (by rfl) (by rfl) false (by rw [decide_eq_true (by omega)];rfl)) ?_;refine bD hb hB0 hB1 hB2 fun X2 hX2 hb hB0 hB1 hB2=>?_;go_upto_region 4 with fail;refine jp ?_;refine ja hB1 Tryz.underlying23 (by rfl) aB ?_;refine jc (.bool true) (fun X hX hF=>mo (kT false nn dd X (ht.mono (by decide))) (by rw [HV9.out])) ?_;refine jm (.bool false) ?_;refine bD hb hB0 hB1 hB2 fun X3 hX3 hb hB0 hB1 hB2=>?_;go_upto_region 6 with fail;refine jd ?_;refine jnf hB1 0 aQ ?_;refine jm (.bool false) ?_;refine ja hB1 Tryz.underlying23 (by rfl) aB ?_;refine jc (rt (rN ((1:Int):Rat)) (rP ((1:Int):Rat)) (rD ((1:Int):Rat))) (fun X hX hF=>eH (1) X (by decide)) ?_;refine jc (vI (cA y ((1:Int):Rat))) (fun X hX hF=>iE false nn dd (rN ((1:Int):Rat)) (rP ((1:Int):Rat)) (rD ((1:Int):Rat)) HY.out (bH ((1:Int):Rat)) X (ht.mono (by omega)) (tzR LB0 (by omega))) ?_
 refine iO (cA y ((1:Int):Rat)) 0 (by omega) ?_;refine jm (.bool false) ?_;refine bD hb hB0 hB1 hB2 fun X4 hX4 hb hB0 hB1 hB2=>?_;have hwB:=hB2.lt
 have HBY:Hid (∀ X,Since X4 X→Blk X (w.heap.size+1) 23 [.bool (rN y),vS (rP y),vS (rD y)]):=fun X h=>by have h9:=hB1.bel h;rw [← HY2.out,← HY3.out,← HY1.out] at h9;exact h9
 go_upto_region 8 with fail;refine aV 3 [none,none,some (Pow X4.heap.size (taD p l (caF l y) 0))] (aA (aA (aD (Pow.lasts _ _) (aF)))) ?_;simp only [its,List.take,List.drop,Nat.zero_add,Nat.reduceAdd];refine ja hB0 Tryz.underlying26 (by rfl) aL ?_;refine jv (.func (.func 58) #[] #[vP (w.heap.size+1) 0]) (eY 58 [.tmp 3] [vP (w.heap.size+1) 0] (by rfl) (by rfl)) ?_;refine jk (fun X hX hF=>(zC p v l 58 [vP (w.heap.size+1) 0] (caF l y) X (HV.out X (Since.next hb hX)) hs HOK hn8 (fun k hk=>(hcz.out k).mono (by decide)) (by kernel_rfl) (fun _ _ _=>by go_simp) (fun Y k hY hk=>by rw [HOK.out.ho_tr hk];exact ca1C _ _ _ _ _ _ Y (HBY.out Y (Since.next hX hY)) (hs.out.ct (by decide) k) (hs.out.mx (by decide) k) (hyz.mono (by decide)))).mono fun e X' ⟨u,h1,h2,h3⟩=>⟨u,h1,h2.low hX.size,h3⟩) ?_;intro v32;refine aH ?_;intro X5 hX5 hF;have hv32:=hF _ _ List.mem_cons_self;obtain ⟨hB0,hB1,hB2⟩:=bl3 hX5 hB0 hB1 hB2;have hb:=aG hb hX5;clear hF hX5;obtain ⟨uo32,zo32,rfl,hOu,hOz⟩:=hv32
 replace hOu:X5.ownsRow (w.heap.size+3) 66 9 uo32 l.length (fl hoc (caL l y)):=by
  have h9:=hOu
  unfold Oh at h9
  rw [show (taD p l (caF l y) 0).l.length=l.length from mF _ _ _ _] at h9;exact bI h9 (by omega)
 replace hOz:X5.ownsRow (w.heap.size+3) 23 3 zo32 l.length (fl rc (ptl l.length (caF l y))):=by
  have h9:X5.ownsRow (X4.heap.size) 23 3 zo32 (ptl l.length (caF l y)).length (fl rc (ptl l.length (caF l y))):=hOz;rw [bX] at h9;exact bI h9 (by omega)
 obtain ⟨A5,c5,rfl,_,_⟩:=(Rd.of_own hOu).form;obtain ⟨A6,c6,rfl,_,_⟩:=(Rd.of_own hOz).form;go_upto_region 9 with (refine osn 41 7 32 #[.bool p.1,vS p.2.1,vS p.2.2,.slice A5 l.length c5,.slice A6 l.length c6,.bool false,.string ⟨#[]⟩,.string ⟨#[]⟩] aM ?_);obtain ⟨Y5,hY9,hD7,hS9⟩:=aZ X5 41 [.bool p.1,vS p.2.1,vS p.2.2,.slice A5 l.length c5,.slice A6 l.length c6,.bool false,.string ⟨#[]⟩,.string ⟨#[]⟩];rw [← hY9];clear hY9;have hgs7:=hb.size;have hlt7x0:=hB0.lt;have hlt7x1:=hB1.lt;have hlt7x2:=hB2.lt;replace hOu:=aC hOu hS9;replace hOz:=aC hOz hS9;obtain ⟨hB0,hB1,hB2⟩:=bl3 hS9 hB0 hB1 hB2;have hb:=aG hb hS9;clear hS9;generalize X5.heap.size=g7 at *;have hog:=bL hOz;have hl7:=hD7.lt;have hwW:=hb.size;refine aT [none,none,none,none,none,some (Pow Y5.heap.size (fiD p (caL l y) S)),some (Av 41 [.bool false,.string ⟨#[]⟩,.string ⟨#[]⟩,.slice none 0 0,.slice none 0 0,.bool false,.string ⟨#[]⟩,.string ⟨#[]⟩] Y5.heap.size)] (by kernel_rfl) (by kernel_rfl) (by kernel_rfl) rfl (aA (aA (aA (aA (aA (aD (Pow.lasts _ _) (aD (Av.lasts _ _ _) (aF)))))))) ?_;simp only [its,List.dropLast,Nat.zero_add,Nat.reduceAdd];refine jn (vP g7 0) ?_;refine jg (.agg #[.bool p.1,st p.2.1,st p.2.2,.slice A5 l.length c5]) (fun X hX hF=>aK 26 _ (by rfl) g7 0 [.bool p.1,vS p.2.1,vS p.2.2,.slice A5 l.length c5] (by rfl) Tryz.underlying26 rfl X (hD7.bel hX) (by rfl) aL) ?_
 refine jnf hD7 4 bA ?_;refine jc (rt (rN S) (rP S) (rD S)) (fun X hX hF=>mo (uR (.slice A6 l.length c6) ((ptl l.length (caF l y)).map tr) 301 X (rY (aC hOz hX) (bX _ _)) (by decide) (gY fun k _=>hcz.out k) (by rw [List.length_map,bX];omega) (by decide)) (by rw [iW,HS.out])) ?_;refine jk (fun X hX hF=>(pouC p (.slice A5 l.length c5) (caL l y) S X (by show Rd X 9 _ (caL l y).length _;rw [eR];exact (Rd.of_own (aC hOu hX))) hsC HOC hcl hp hS0 hSz).mono fun e X' ⟨u,h1,h2,h3⟩=>⟨u,h1,h2.low hX.size,h3⟩) ?_;intro v38;refine aW (by rfl) (fun X hX hF=>Av.mk 41 [.bool false,.string ⟨#[]⟩,.string ⟨#[]⟩,.slice none 0 0,.slice none 0 0,.bool false,.string ⟨#[]⟩,.string ⟨#[]⟩] Y5.heap.size hX.size (by unfold execOp;go_simp)) ?_;intro v8;simp only [pX];refine aH ?_;intro X6 hX6 hF;have hv38:=hF _ _ (List.mem_cons_of_mem _ List.mem_cons_self);have hv8:=hF _ _ List.mem_cons_self;replace hOu:=aC hOu hX6;replace hOz:=aC hOz hX6;obtain ⟨hB0,hB1,hB2,hD7⟩:=bl4 hX6 hB0 hB1 hB2 hD7;have hb:=aG hb hX6;clear hF hX6;obtain ⟨g8,rfl,hge8,hD8⟩:=hv8;obtain ⟨uo38,zo38,rfl,hPu,hPz⟩:=hv38
 replace hPu:X6.ownsRow (Y5.heap.size) 66 9 uo38 l.length (fl hoc (fiD p (caL l y) S).l):=by
  have h9:=hPu
  unfold Oh at h9
  rw [show (fiD p (caL l y) S).l.length=l.length from (fU _ _ _).trans (eR _ _)] at h9;exact bI h9 (by omega)
 replace hPz:X6.ownsRow (Y5.heap.size) 23 3 zo38 l.length (fl rc (ptl l.length (pou (caL l y) (gn p (caL l y) S)))):=by
  have h9:X6.ownsRow (Y5.heap.size) 23 3 zo38 (ptl (caL l y).length (pou (caL l y) (gn p (caL l y) S))).length (fl rc (ptl (caL l y).length (pou (caL l y) (gn p (caL l y) S)))):=hPz;rw [bX,eR] at h9;exact bI h9 (by omega)
 obtain ⟨A7,c7,rfl,_,_⟩:=(Rd.of_own hPu).form;obtain ⟨A8,c8,rfl,_,_⟩:=(Rd.of_own hPz).form;refine aS rfl 41 (.tmp 8) (.tmp 38) rfl g8 41 _ hD8 rfl [.bool p.1,vS p.2.1,vS p.2.2,.slice A7 l.length c7,.slice A8 l.length c8,.bool (rN (fiD p (caL l y) S).r),.string ⟨(rP (fiD p (caL l y) S).r).toArray⟩,.string ⟨(rD (fiD p (caL l y) S).r).toArray⟩] rfl (by rfl) (al8 rfl rfl rfl rfl rfl rfl rfl rfl) aM ?_;intro w9s hR9 hG9;have hb:=aN hG9 hb hb.size (by omega);have hB2:=aE hG9 hB2 (by omega);have hD7:=aE hG9 hD7 (by omega);have hOz:=aO hOz hG9 (fun g h h9=>bG hOz hD8 rfl (h9.trans h.symm));have hPu:=aO hPu hG9 (fun g h h9=>bG hPu hD8 rfl (h9.trans h.symm));have hPz:=aO hPz hG9 (fun g h h9=>bG hPz hD8 rfl (h9.trans h.symm));have hD8:=hR9;clear hR9 hG9 hOu hB0 hB1;refine wpList_nil ?_;go_upto_region 10 with fail;refine jp ?_;refine jnf hD7 4 bA ?_;refine jv (vI (l.length:Int)) (aJ Tryz.underlying27 _ (by rfl) A6 l.length c6 (by rfl) _ rfl) ?_;refine jm (vI 0) ?_;refine bD hb hB2 hD7 hD8 fun X7 hX7 hb hB2 hD7 hD8=>?_;replace hOz:=aC hOz hX7;replace hPu:=aC hPu hX7;replace hPz:=aC hPz hX7
 replace hPz:X7.ownsRow Y5.heap.size 23 3 (.slice A8 l.length c8) l.length (fl rc (ptl l.length (fun j=>if j<0 then (pou (caL l y) (gn p (caL l y) S)) j-caF l y j else (pou (caL l y) (gn p (caL l y) S)) j))):=by
  rw [eV (g:=(pou (caL l y) (gn p (caL l y) S))) (fun j _=>if_neg (Nat.not_lt_zero j))];exact hPz
 have hcP:Hid (∀ j,j<l.length→szR ((pou (caL l y) (gn p (caL l y) S)) j) 36030):=fun j hj=>HOC.out.psz hS0 hcl hsC.out hp (by decide) hSz (by decide) (by rw [eR];exact hj)
 go_wp2
 go_loopw [42] (fun kv wr=>∃ k:Nat,k≤l.length∧kv=vI k∧Blk wr (w.heap.size+2) 41 [.bool false,.string ⟨#[]⟩,.string ⟨#[]⟩,.slice none 0 0,.slice none 0 0,.bool false,.string ⟨#[]⟩,.string ⟨#[]⟩]∧Blk wr g7 41 [.bool p.1,vS p.2.1,vS p.2.2,.slice A5 l.length c5,.slice A6 l.length c6,.bool false,.string ⟨#[]⟩,.string ⟨#[]⟩]∧Blk wr g8 41 [.bool p.1,vS p.2.1,vS p.2.2,.slice A7 l.length c7,.slice A8 l.length c8,.bool (rN (fiD p (caL l y) S).r),.string ⟨(rP (fiD p (caL l y) S).r).toArray⟩,.string ⟨(rD (fiD p (caL l y) S).r).toArray⟩]∧wr.ownsRow (w.heap.size+3) 23 3 (.slice A6 l.length c6) l.length (fl rc (ptl l.length (caF l y)))∧wr.ownsRow Y5.heap.size 66 9 (.slice A7 l.length c7) l.length (fl hoc (fiD p (caL l y) S).l)∧wr.ownsRow Y5.heap.size 23 3 (.slice A8 l.length c8) l.length (fl rc (ptl l.length (fun j=>if j<k then (pou (caL l y) (gn p (caL l y) S)) j-caF l y j else (pou (caL l y) (gn p (caL l y) S)) j)))∧Below w.heap.size w wr) (fun kv _=>l.length-(intOf kv).toNat)
 case atStart=>exact ⟨0,by omega,rfl,hB2,hD7,hD8,hOz,hPu,hPz,hb⟩
 case round =>
  clear hB2 hD7 hD8 hOz hPu hPz hb;obtain ⟨k,hk,rfl,hB2,hD7,hD8,hOz,hPu,hPz,hb⟩:=hrel
  rcases Nat.lt_or_ge k l.length with hlt|hlt
  ·obtain ⟨gq,rfl⟩:=jY hOz (show 0<l.length by omega)
   obtain ⟨gp,rfl⟩:=jY hPz (show 0<l.length by omega);obtain ⟨hcq,hbq⟩:=wV hOz hlt;obtain ⟨hcp,hbp⟩:=wV hPz hlt;rw [if_neg (Nat.lt_irrefl k)] at hcp
   change Cl wr gq (0+k * 3) [.bool (rN (caF l y k)),vS (rP (caF l y k)),vS (rD (caF l y k))] at hcq
   change Cl wr gp (0+k * 3) [.bool (rN ((pou (caL l y) (gn p (caL l y) S)) k)),.string ⟨(rP ((pou (caL l y) (gn p (caL l y) S)) k)).toArray⟩,.string ⟨(rD ((pou (caL l y) (gn p (caL l y) S)) k)).toArray⟩] at hcp
   have hpq:gq≠gp:=by
    have h1:=(hog gq rfl).2;have h2:=(bL hPz gp rfl).1
    omega
   have LB0:szR ((pou (caL l y) (gn p (caL l y) S)) k) 36030:=hcP.out k hlt;have LB1:szR (caF l y k) 301:=hcz.out k;go_upto_region 11 with fail;refine jp ?_;refine fC (k:Int) (l.length:Int) (by omega) ?_;refine bD hb hB2 hD7 hD8 fun X1 hX1 hb hB2 hD7 hD8=>?_;replace hOz:=aC hOz hX1;replace hPu:=aC hPu hX1;replace hPz:=aC hPz hX1;have hcq:=hcq.below hX1 hbq;have hcp:=hcp.below hX1 hbp;replace hbq:=Nat.lt_of_lt_of_le hbq (hX1).size;replace hbp:=Nat.lt_of_lt_of_le hbp (hX1).size;go_upto_region 12 with fail;refine jq 3 ?_;refine jm (vI k) ?_;refine jv (vP gq (0+k * 3)) (aY Tryz.underlying27 aB _ _ (by rfl) gq (0) l.length c6 k (by omega) (by rfl) (by rfl) rfl) ?_;refine jg (rt (rN (caF l y k)) (rP (caF l y k)) (rD (caF l y k))) (fun X hX hF=>bM 23 _ (by rfl) gq (0+k * 3) (by rfl) Tryz.underlying23 rfl [.bool (rN (caF l y k)),vS (rP (caF l y k)),vS (rD (caF l y k))] X (Cl.part (hcq.below hX hbq) 0 _ (by rfl)) aB) ?_;refine bD hb hB2 hD7 hD8 fun X2 hX2 hb hB2 hD7 hD8=>?_;replace hOz:=aC hOz hX2;replace hPu:=aC hPu hX2;replace hPz:=aC hPz hX2;have hcq:=hcq.below hX2 hbq;have hcp:=hcp.below hX2 hbp;replace hbq:=Nat.lt_of_lt_of_le hbq (hX2).size;replace hbp:=Nat.lt_of_lt_of_le hbp (hX2).size;go_upto_region 13 with (refine osn 23 10 46 #[.bool (rN (caF l y k)),vS (rP (caF l y k)),vS (rD (caF l y k))] aB ?_)
   obtain ⟨Y2,hY9,hD10,hS9⟩:=aZ X2 23 [.bool (rN (caF l y k)),vS (rP (caF l y k)),vS (rD (caF l y k))];rw [← hY9];clear hY9;have hgs10:=hb.size;have hlt10x0:=hB2.lt;have hlt10x1:=hD7.lt;have hlt10x2:=hD8.lt;replace hOz:=aC hOz hS9;replace hPu:=aC hPu hS9;replace hPz:=aC hPz hS9;have hcq:=hcq.below hS9 hbq;have hcp:=hcp.below hS9 hbp;replace hbq:=Nat.lt_of_lt_of_le hbq (hS9).size;replace hbp:=Nat.lt_of_lt_of_le hbp (hS9).size;obtain ⟨hB2,hD7,hD8⟩:=bl3 hS9 hB2 hD7 hD8;have hb:=aG hb hS9;clear hS9;generalize X2.heap.size=g10 at *;refine aT [] (by kernel_rfl) (by kernel_rfl) (by kernel_rfl) rfl (aF) ?_;simp only [its,List.dropLast,Nat.zero_add,Nat.reduceAdd];refine jnf hD8 4 bA ?_;refine jm (vI k) ?_;refine jnf hD8 4 bA ?_;refine jm (vI k) ?_;refine jv (vP gp (0+k * 3)) (aY Tryz.underlying27 aB _ _ (by rfl) gp (0) l.length c8 k (by omega) (by rfl) (by rfl) rfl) ?_;refine jg (.agg #[.bool (rN ((pou (caL l y) (gn p (caL l y) S)) k)),st (rP ((pou (caL l y) (gn p (caL l y) S)) k)),st (rD ((pou (caL l y) (gn p (caL l y) S)) k))]) (fun X hX hF=>bM 23 _ (by rfl) gp (0+k * 3) (by rfl) Tryz.underlying23 rfl [.bool (rN ((pou (caL l y) (gn p (caL l y) S)) k)),.string ⟨(rP ((pou (caL l y) (gn p (caL l y) S)) k)).toArray⟩,.string ⟨(rD ((pou (caL l y) (gn p (caL l y) S)) k)).toArray⟩] X (Cl.part (hcp.below hX hbp) 0 _ (by rfl)) aB) ?_
   refine ja hD10 Tryz.underlying23 (by rfl) aB ?_;refine jc (.agg #[.bool (rN (((pou (caL l y) (gn p (caL l y) S)) k)-(caF l y k))),st (rP (((pou (caL l y) (gn p (caL l y) S)) k)-(caF l y k))),st (rD (((pou (caL l y) (gn p (caL l y) S)) k)-(caF l y k)))]) (fun X hX hF=>oM (rN ((pou (caL l y) (gn p (caL l y) S)) k)) (rP ((pou (caL l y) (gn p (caL l y) S)) k)) (rD ((pou (caL l y) (gn p (caL l y) S)) k)) (rN (caF l y k)) (rP (caF l y k)) (rD (caF l y k)) (bH ((pou (caL l y) (gn p (caL l y) S)) k)) (bH (caF l y k)) X (tzR LB0 (by omega)) (tzR LB1 (by omega))) ?_;refine jv (vP gp (0+k * 3)) (aY Tryz.underlying27 aB _ _ (by rfl) gp (0) l.length c8 k (by omega) (by rfl) (by rfl) rfl) ?_;refine hH hb hB2 hD7 hD8 hD10 fun X3 hX3 hb hB2 hD7 hD8 hD10=>?_;replace hOz:=aC hOz hX3;replace hPu:=aC hPu hX3;replace hPz:=aC hPz hX3;have hcq:=hcq.below hX3 hbq;have hcp:=hcp.below hX3 hbp;replace hbq:=Nat.lt_of_lt_of_le hbq (hX3).size;replace hbp:=Nat.lt_of_lt_of_le hbp (hX3).size;refine gF rfl 23 (.tmp 57) (.tmp 56) rfl hPz (k * 3) (by show vP gp (0+k * 3)=_;rw [Nat.zero_add]) (rc ((pou (caL l y) (gn p (caL l y) S)) k-caF l y k)) rfl (by rw [iZ,bX,eD];omega) (by intro u hu;simp only [rc,trc,List.mem_cons,List.not_mem_nil,or_false] at hu;rcases hu with rfl|rfl|rfl <;> rfl) aB ?_;intro w13 hR9 hG9
   rw [show k * 3+(rc ((pou (caL l y) (gn p (caL l y) S)) k-caF l y k)).length=k * 3+3 from rfl,pO eD (by rw [bX];exact hlt),oS (fun j=>if j<k then (pou (caL l y) (gn p (caL l y) S)) j-caF l y j else (pou (caL l y) (gn p (caL l y) S)) j) (fun j=>if j<(k+1) then (pou (caL l y) (gn p (caL l y) S)) j-caF l y j else (pou (caL l y) (gn p (caL l y) S)) j) ((pou (caL l y) (gn p (caL l y) S)) k-caF l y k) hlt (fun j _=>by
    by_cases h9:j=k
    ·subst h9
     rw [if_pos (Nat.lt_succ_self j),if_pos rfl]
    ·rw [if_neg h9]
     simp only [eF h9])] at hR9
   have hgb:=bL hPz gp rfl;have hb:=aN hG9 hb hb.size (by omega);have hB2:=aE hG9 hB2 (by omega);have hD7:=aE hG9 hD7 (fun h9=>bG hPz hD7 rfl (by rw [h9];rfl));have hD8:=aE hG9 hD8 (fun h9=>bG hPz hD8 rfl (by rw [h9];rfl))
   have hOz:=aO hOz hG9 (fun g h h9=>hpq (by
    injection h with h
    have h8:(some gq:Option Nat)=some g:=h9
    injection h8 with h8
    omega))
   have hPu:=aO hPu hG9 (fun g h h9=>oW hPz hPu h h9);have hPz:=hR9;clear hR9 hG9 hgb hD10;refine wpList_nil ?_;go_upto_region 14 with fail;refine jp ?_;refine jv (vI ((k+1:Nat):Int)) (bB _ _ _ _ (by rfl) (k:Int) 1 ((k+1:Nat):Int) (by rfl) (by rfl) (by omega) (by omega) (by omega)) ?_;refine jm (vI ((k+1:Nat):Int)) ?_;refine bD hb hB2 hD7 hD8 fun X4 hX4 hb hB2 hD7 hD8=>?_;replace hOz:=aC hOz hX4;replace hPu:=aC hPu hX4;replace hPz:=aC hPz hX4
   go_wp2
   go_roundw
   case rel=>exact ⟨k+1,by omega,rfl,hB2,hD7,hD8,hOz,hPu,hPz,hb⟩
   case measure=>simp [intOf];omega
  ·have hkn:k=l.length:=by omega
   rw [hkn] at hPz;go_upto_region 11 with fail;refine jp ?_;refine fD (k:Int) (l.length:Int) (by omega) ?_;refine bD hb hB2 hD7 hD8 fun X1 hX1 hb hB2 hD7 hD8=>?_;replace hOz:=aC hOz hX1;replace hPu:=aC hPu hX1;replace hPz:=aC hPz hX1;go_upto_region 15 with fail;refine jq 1 ?_;refine ja hD8 Tryz.underlying41 (by rfl) aM ?_;refine bD hb hB2 hD7 hD8 fun X2 hX2 hb hB2 hD7 hD8=>?_;replace hOz:=aC hOz hX2;replace hPu:=aC hPu hX2;replace hPz:=aC hPz hX2;refine aS rfl 41 (.tmp 4) (.tmp 59) rfl (w.heap.size+2) 41 _ hB2 rfl [.bool p.1,vS p.2.1,vS p.2.2,.slice A7 l.length c7,.slice A8 l.length c8,.bool (rN (fiD p (caL l y) S).r),.string ⟨(rP (fiD p (caL l y) S).r).toArray⟩,.string ⟨(rD (fiD p (caL l y) S).r).toArray⟩] rfl (by rfl) (al8 rfl rfl rfl rfl rfl rfl rfl rfl) aM ?_;intro w9 hR9 hG9;have hb:=aN hG9 hb hb.size (by omega);have hPu:=aO hPu hG9 (fun g h h9=>bG hPu hB2 rfl (h9.trans h.symm));have hPz:=aO hPz hG9 (fun g h h9=>bG hPz hB2 rfl (h9.trans h.symm))
   have hPV:Pow w.heap.size (caR p l (false,nn,dd)) (.agg #[.bool p.1,vS p.2.1,vS p.2.2,.slice A7 l.length c7,.slice A8 l.length c8,.bool (rN (fiD p (caL l y) S).r),.string ⟨(rP (fiD p (caL l y) S).r).toArray⟩,.string ⟨(rD (fiD p (caL l y) S).r).toArray⟩]) w9:=by
    rw [HR.out]
    unfold caD
    rw [← HS.out];refine ⟨_,_,rfl,?_,?_⟩
    ·show World.ownsRow _ _ _ _ _ (fiD p (caL l y) S).l.length _
     rw [fU,eR];exact bI hPu hwW
    ·show World.ownsRow _ _ _ _ _ (ptl l.length _).length (fl rc (ptl l.length _))
     rw [eV (g:=fun k=>pou (caL l y) (gn p (caL l y) S) k-caF l y k) (fun j hj=>if_pos hj)] at hPz;rw [bX];exact bI hPz hwW
   go_wp2
   refine bJ (v:=vI 0) rfl rfl (by rfl) (by rfl) Tryz.underlying41 rfl hR9 aM ⟨_,rfl,⟨_,by rw [HE.out],hPV⟩,hb⟩
theorem carC (p:Tr) (v:Value) (l:List Ho) (t:Tr) (w:World) (hv:Hl l v w) (hs1:Hid (Szp l 100)) (hp:tz p.2.1 p.2.2 1000) (hn:l.length≤8∨20<l.length) (ht:tz t.2.1 t.2.2 100):Calls Tryz.prog 17 #[.agg #[.bool p.1,vS p.2.1,vS p.2.2,v],.agg #[.bool t.1,vS t.2.1,vS t.2.2]] w fun e w'=>∃ u,e=.returned u∧Tp (Pow w.heap.size (caR p l t)) (caE p l t) u w'∧Since w w':=by
 obtain ⟨g,nn,dd⟩:=t
 by_cases h0:chE p l=0
 ·cases hf:vd g nn dd with
  | false=>exact car1 p v l g nn dd w hv hs1 hp ht h0 hf
  | true =>
   cases g with
   | true=>exact car2 p v l nn dd w hv hs1 hp ht h0 hf
   | false =>
    by_cases hgt:1<trq (false,nn,dd)
    ·exact car3 p v l nn dd w hv hs1 hp ht h0 hf hgt
    ·exact car4 p v l nn dd w hv hs1 hp ht (qV hn h0) h0 hf hgt
 ·exact car0 p v l g nn dd w hv hs1 hp h0
end Go.Proofs.YtnfpenhldlfafaaGreatDoor

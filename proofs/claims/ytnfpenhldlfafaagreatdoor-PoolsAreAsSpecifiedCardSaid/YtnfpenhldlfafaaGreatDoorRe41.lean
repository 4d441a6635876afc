/- The reference of layer 41: Fill, Lose, Release. -/
import Derived.Test.YtnfpenhldlfafaaGreatDoorRd41
import Derived.Test.YtnfpenhldlfafaaGreatDoorHd41
set_option linter.unusedSimpArgs false
set_option linter.unusedVariables false
set_option maxRecDepth 100000
set_option maxHeartbeats 1600000
namespace Go.Proofs.YtnfpenhldlfafaaGreatDoor
open Go.RowKit
theorem bQ:(Tryz.prog.info? 45).map (·.size)=some 9:=by kernel_rfl
def Sw (B:Nat) (d:Pd) (e:Int) (v:Value) (X:World):Prop:=∃ u z,v=.agg #[.bool d.p.1,vS d.p.2.1,vS d.p.2.2,u,z,.bool (rN d.r),vS (rP d.r),vS (rD d.r),vI e]∧Oh B d.l u X∧X.ownsRow B 23 3 z d.q.length (fl rc d.q)
theorem Sw.lasts (B:Nat) (d:Pd) (e:Int):dW (Sw B d e):=by
 rintro v X Y ⟨u,z,h1,h2,h3⟩ hS
 exact ⟨u,z,h1,Oh.lasts _ _ _ _ _ h2 hS,aB h3 hS⟩
theorem Sw.low {B B':Nat} {d:Pd} {e:Int} {v:Value} {X:World} (h:Sw B d e v X) (hB:B'≤B):Sw B' d e v X:=by
 obtain ⟨u,z,h1,h2,h3⟩:=h;exact ⟨u,z,h1,h2.mono hB,bG h3 hB⟩
theorem Sw.z (B:Nat) (X:World) (e:Int):Sw B pd0 e (.agg #[.bool false,.string ⟨#[]⟩,.string ⟨#[]⟩,.slice none 0 0,.slice none 0 0,.bool false,.string ⟨#[]⟩,.string ⟨#[]⟩,vI e]) X :=
 ⟨_,_,rfl,⟨rfl,.inl ⟨rfl,rfl⟩⟩,⟨rfl,.inl ⟨rfl,rfl⟩⟩⟩
def Tk9 (B:Nat) (p:Tr) (L:List Ho) (z:Value) (r:Rat) (v:Value) (X:World):Prop:=∃ u,v=.agg #[.bool p.1,vS p.2.1,vS p.2.2,u,z,.bool (rN r),vS (rP r),vS (rD r),vI 0]∧Oh B L u X
theorem Tk9.lasts (B:Nat) (p:Tr) (L:List Ho) (z:Value) (r:Rat):dW (Tk9 B p L z r):=by
 rintro v X Y ⟨u,h1,h2⟩ hS
 exact ⟨u,h1,Oh.lasts _ _ _ _ _ h2 hS⟩
theorem uL {l:List Ho} {f:Nat→Rat} {n:Nat} (hn:l.length=n):stc l (fun j=>ct l j-yq (ptl n f) j)=stc l (fun j=>ct l j-f j):=kQ fun k hk=>by
 rw [jH f (by rw [← hn];exact hk)]
theorem rfl0 (p:Tr) (v:Value) (l:List Ho) (t:Tr) (w:World) (hv:Hl l v w) (hs:Hid (Szp l 1000)) (hp:tz p.2.1 p.2.2 1000) (h0:chE p l≠0):Calls Tryz.prog 12 #[.agg #[.bool p.1,vS p.2.1,vS p.2.2,v],.agg #[.bool t.1,vS t.2.1,vS t.2.2]] w fun e w'=>∃ u,e=.returned u∧Sw w.heap.size (fiR p l t) (fiE p l t) u w'∧Since w w':=by
 have HV:Hid (∀ X,Since w X→Hl l v X):=fun X h=>Hl.lasts l _ _ _ hv h
 clear hv;have hs4:Hid (Szp l 40000):=hs.out.mono (by decide);have hp6:tz p.2.1 p.2.2 1000000:=hp.mono (by decide);obtain ⟨z,z9⟩:∃ z,chE p l=z:=⟨_,rfl⟩;have HZ:=Lib.hid z9;clear z9
 have hz0:z≠0:=by rw [← HZ.out];exact h0
 clear h0
 have HE:Hid (fiE p l t=z):=by
  show _=_
  unfold fiE
  rw [HZ.out,if_pos hz0]
 have HR:Hid (fiR p l t=pd0):=if_neg (by rw [HE.out];exact hz0)
 go_enter Tryz.func12,Tryz.ntmps12
 go_upto_region 1 with fail;obtain ⟨W0,hW0,hB0,hB1,hB2,hb⟩:=bN w 26 23 45 [.bool p.1,vS p.2.1,vS p.2.2,v] [.bool t.1,vS t.2.1,vS t.2.2] zC;rw [← hW0];clear hW0;refine jp ?_;refine aJ hB0 ?_;refine jc (vI z) (fun X hX hF=>mo (kY p v l X (HV.out X (Since.next hb hX)) hs4 hp6) (by rw [HZ.out])) ?_;refine jm (vI z) ?_;refine aX hb hB0 hB1 hB2 fun X1 hX1 hb hB0 hB1 hB2=>?_;go_upto_region 2 with fail;refine jp ?_;refine jm (vI z) ?_;refine jv (.bool true) (bB _ _ _ _ (by rfl) .i64 z 0 (by rfl) (by rfl) true (by rw [decide_eq_false (by omega)];rfl)) ?_;refine aX hb hB0 hB1 hB2 fun X2 hX2 hb hB0 hB1 hB2=>?_;go_upto_region 3 with fail;refine jq 2 ?_;refine jmn (vI z) (.agg #[.bool false,.string ⟨#[]⟩,.string ⟨#[]⟩,.slice none 0 0,.slice none 0 0,.bool false,.string ⟨#[]⟩,.string ⟨#[]⟩,vI z]) ?_;refine aX hb hB0 hB1 hB2 fun X3 hX3 hb hB0 hB1 hB2=>?_;refine osb 45 4 12 (w.heap.size+2) 45 hB2 [.bool false,.string ⟨#[]⟩,.string ⟨#[]⟩,.slice none 0 0,.slice none 0 0,.bool false,.string ⟨#[]⟩,.string ⟨#[]⟩,vI z] bQ ?_;intro w9 hR9 hO9 hB9 hs9;have hb9:=hB9 _ _ hb (by omega);clear hO9 hB9
 go_wp2
 refine aK rfl rfl (by rfl) G45 rfl hR9 bQ ⟨_,rfl,by rw [HE.out,HR.out];exact Sw.z _ _ _,hb9⟩
theorem rfl1 (p:Tr) (v:Value) (l:List Ho) (t:Tr) (w:World) (hv:Hl l v w) (hs:Hid (Szp l 1000)) (hp:tz p.2.1 p.2.2 1000) (ht:tz t.2.1 t.2.2 1000) (h0:chE p l=0) (hf:fnT t=false):Calls Tryz.prog 12 #[.agg #[.bool p.1,vS p.2.1,vS p.2.2,v],.agg #[.bool t.1,vS t.2.1,vS t.2.2]] w fun e w'=>∃ u,e=.returned u∧Sw w.heap.size (fiR p l t) (fiE p l t) u w'∧Since w w':=by
 have HV:Hid (∀ X,Since w X→Hl l v X):=fun X h=>Hl.lasts l _ _ _ hv h
 clear hv;have hs4:Hid (Szp l 40000):=hs.out.mono (by decide);have hp6:tz p.2.1 p.2.2 1000000:=hp.mono (by decide);have HC:Hid (chE p l=0):=h0;clear h0;have HF:Hid (fnT t=false):=hf
 have HE:Hid (fiE p l t=1):=by
  show _=_
  unfold fiE
  rw [HC.out,if_neg (by decide),if_pos hf]
 have HR:Hid (fiR p l t=pd0):=if_neg (by rw [HE.out];decide);clear hf
 go_enter Tryz.func12,Tryz.ntmps12
 go_upto_region 1 with fail;obtain ⟨W0,hW0,hB0,hB1,hB2,hb⟩:=bN w 26 23 45 [.bool p.1,vS p.2.1,vS p.2.2,v] [.bool t.1,vS t.2.1,vS t.2.2] zC;rw [← hW0];clear hW0;refine jp ?_;refine aJ hB0 ?_;refine jc (vI 0) (fun X hX hF=>mo (kY p v l X (HV.out X (Since.next hb hX)) hs4 hp6) (by rw [HC.out])) ?_;refine jm (vI 0) ?_;refine aX hb hB0 hB1 hB2 fun X1 hX1 hb hB0 hB1 hB2=>?_;go_upto_region 2 with fail;refine jp ?_;refine jm (vI 0) ?_;refine jv (.bool false) (bB _ _ _ _ (by rfl) .i64 0 0 (by rfl) (by rfl) false (by rw [decide_eq_true (by omega)];rfl)) ?_;refine aX hb hB0 hB1 hB2 fun X2 hX2 hb hB0 hB1 hB2=>?_;go_upto_region 4 with fail;refine jp ?_;refine aC hB1 ?_;refine jc (.bool false) (fun X hX hF=>mo (rR t X (ht.mono (by decide))) (by rw [HF.out])) ?_;refine jm (.bool false) ?_;refine aX hb hB0 hB1 hB2 fun X3 hX3 hb hB0 hB1 hB2=>?_;go_upto_region 5 with fail;refine jp ?_;refine jmm (.bool false) (.bool true) ?_;refine aX hb hB0 hB1 hB2 fun X4 hX4 hb hB0 hB1 hB2=>?_;go_upto_region 6 with fail;refine jq 1 ?_;refine jn (.agg #[.bool false,.string ⟨#[]⟩,.string ⟨#[]⟩,.slice none 0 0,.slice none 0 0,.bool false,.string ⟨#[]⟩,.string ⟨#[]⟩,vI 1]) ?_;refine aX hb hB0 hB1 hB2 fun X5 hX5 hb hB0 hB1 hB2=>?_
 refine osb 45 4 17 (w.heap.size+2) 45 hB2 [.bool false,.string ⟨#[]⟩,.string ⟨#[]⟩,.slice none 0 0,.slice none 0 0,.bool false,.string ⟨#[]⟩,.string ⟨#[]⟩,vI 1] bQ ?_;intro w9 hR9 hO9 hB9 hs9;have hb9:=hB9 _ _ hb (by omega);clear hO9 hB9
 go_wp2
 refine aK rfl rfl (by rfl) G45 rfl hR9 bQ ⟨_,rfl,by rw [HE.out,HR.out];exact Sw.z _ _ _,hb9⟩
theorem rfl2 (p:Tr) (v:Value) (l:List Ho) (a:Rat) (w:World) (hv:Hl l v w) (hs:Hid (Szp l 1000)) (hp:tz p.2.1 p.2.2 1000) (hn8:l.length≤8) (ha:0≤a) (haz:szR a 1000) (h0:chE p l=0):Calls Tryz.prog 12 #[.agg #[.bool p.1,vS p.2.1,vS p.2.2,v],.agg #[.bool (rN a),vS (rP a),vS (rD a)]] w fun e w'=>∃ u,e=.returned u∧Sw w.heap.size (fiR p l (tr a)) (fiE p l (tr a)) u w'∧Since w w':=by
 have HV:Hid (∀ X,Since w X→Hl l v X):=fun X h=>Hl.lasts l _ _ _ hv h
 clear hv;have hs4:Hid (Szp l 40000):=hs.out.mono (by decide);have hp6:tz p.2.1 p.2.2 1000000:=hp.mono (by decide);have HOK:Hid (Okp p l):=chE_ok.1 h0;have HC:Hid (chE p l=0):=h0;clear h0;have ht:tz (tr a).2.1 (tr a).2.2 1000:=tzR haz (Nat.le_refl _);have hf:=pP ha;have HF:Hid (fnT (tr a)=true):=hf
 have HE:Hid (fiE p l (tr a)=0):=by
  show _=_
  unfold fiE
  rw [HC.out,if_neg (by decide),if_neg (by rw [hf];decide)]
 have HR:Hid (fiR p l (tr a)=fiD p l a):=by
  show _=_
  unfold fiR
  rw [if_pos HE.out,eN]
 clear hf
 go_enter Tryz.func12,Tryz.ntmps12
 go_upto_region 1 with fail;obtain ⟨W0,hW0,hB0,hB1,hB2,hb⟩:=bN w 26 23 45 [.bool p.1,vS p.2.1,vS p.2.2,v] (zD a) zC;rw [← hW0];clear hW0;refine jp ?_;refine aJ hB0 ?_;refine jc (vI 0) (fun X hX hF=>mo (kY p v l X (HV.out X (Since.next hb hX)) hs4 hp6) (by rw [HC.out])) ?_;refine jm (vI 0) ?_;refine aX hb hB0 hB1 hB2 fun X1 hX1 hb hB0 hB1 hB2=>?_;go_upto_region 2 with fail;refine jp ?_;refine jm (vI 0) ?_;refine jv (.bool false) (bB _ _ _ _ (by rfl) .i64 0 0 (by rfl) (by rfl) false (by rw [decide_eq_true (by omega)];rfl)) ?_;refine aX hb hB0 hB1 hB2 fun X2 hX2 hb hB0 hB1 hB2=>?_;go_upto_region 4 with fail;refine jp ?_;refine aC hB1 ?_;refine jc (.bool true) (fun X hX hF=>mo (rR (tr a) X (ht.mono (by decide))) (by rw [HF.out])) ?_;refine jm (.bool true) ?_;refine aX hb hB0 hB1 hB2 fun X3 hX3 hb hB0 hB1 hB2=>?_;go_upto_region 5 with fail;refine jp ?_;refine jmm (.bool true) (.bool false) ?_;refine aX hb hB0 hB1 hB2 fun X4 hX4 hb hB0 hB1 hB2=>?_;have hwB:=hB2.lt;go_upto_region 7 with fail;refine bA 3 [none,none,some (Pow X4.heap.size (fiD p l a))] (aA (aA (aE (Pow.lasts _ _) (aG)))) ?_;simp only [its,List.take,List.drop,Nat.zero_add,Nat.reduceAdd]
 refine aJ hB0 ?_;refine aC hB1 ?_;refine jk (fun X hX hF=>(rpoC p v l a X (HV.out X (Since.next hb hX)) hs HOK hn8 hp ha (haz.mono (by decide))).mono fun e X' ⟨u,h1,h2,h3⟩=>⟨u,h1,h2.low hX.size,h3⟩) ?_;intro v20;refine aI ?_;intro X5 hX5 hF;have hv20:=hF _ _ zE;obtain ⟨hB0,hB1,hB2⟩:=bl3 hX5 hB0 hB1 hB2;have hb:=aF hb hX5;clear hF hX5;obtain ⟨uo20,zo20,rfl,hOu,hOz⟩:=hv20
 unfold Oh at hOu
 replace hOu:=bG hOu (show w.heap.size+3≤X4.heap.size by omega);replace hOz:=bG hOz (show w.heap.size+3≤X4.heap.size by omega);obtain ⟨A5,c5,rfl,_,_⟩:=(Rd.of_own hOu).form;obtain ⟨A6,c6,rfl,_,_⟩:=(Rd.of_own hOz).form;refine rW rfl (.agg #[.bool (fiD p l a).p.1,vS (fiD p l a).p.2.1,vS (fiD p l a).p.2.2,.slice A5 (fiD p l a).l.length c5,.slice A6 (fiD p l a).q.length c6,.bool (rN (fiD p l a).r),vS (rP (fiD p l a).r),vS (rD (fiD p l a).r),vI 0]) (by unfold execOp;go_simp) ?_;simp only [pX];refine aU rfl 45 (.tmp 4) (.tmp 21) rfl (w.heap.size+2) 45 _ hB2 rfl [.bool (fiD p l a).p.1,vS (fiD p l a).p.2.1,vS (fiD p l a).p.2.2,.slice A5 (fiD p l a).l.length c5,.slice A6 (fiD p l a).q.length c6,.bool (rN (fiD p l a).r),vS (rP (fiD p l a).r),vS (rD (fiD p l a).r),vI 0] rfl (by rfl) (al9 rfl rfl rfl rfl rfl rfl rfl rfl rfl) bQ ?_;intro w9 hR9 hG9;have hb:=aR hG9 hb hb.size (by omega);have hOu:=aO hOu hG9 (fun g h h9=>by injection h with h;have h8:=(aQ hOu _ h9).1;omega);have hOz:=aO hOz hG9 (fun g h h9=>by injection h with h;have h8:=(aQ hOz _ h9).1;omega)
 go_wp2
 refine aK rfl rfl (by rfl) G45 rfl hR9 bQ ⟨_,rfl,by rw [HE.out,HR.out];exact ⟨_,_,rfl,bG hOu (by omega),bG hOz (by omega)⟩,hb⟩
theorem rflC (p:Tr) (v:Value) (l:List Ho) (t:Tr) (w:World) (hv:Hl l v w) (hs:Hid (Szp l 1000)) (hp:tz p.2.1 p.2.2 1000) (hn:l.length≤8∨20<l.length) (ht:tz t.2.1 t.2.2 1000):Calls Tryz.prog 12 #[.agg #[.bool p.1,vS p.2.1,vS p.2.2,v],.agg #[.bool t.1,vS t.2.1,vS t.2.2]] w fun e w'=>∃ u,e=.returned u∧Sw w.heap.size (fiR p l t) (fiE p l t) u w'∧Since w w':=by
 by_cases h0:chE p l=0
 ·cases hf:fnT t with
  | false=>exact rfl1 p v l t w hv hs hp ht h0 hf
  | true =>
   obtain ⟨a,ha,rfl⟩:∃ a:Rat,0≤a∧t=tr a:=⟨trq t,jP hf,(jF (fnT_t.1 hf).2).symm⟩
   have haz:szR a 1000:=by
    have h9:=dQ (x:=trq (tr a)) rfl ht (by decide)
    rwa [eN] at h9
   exact rfl2 p v l a w hv hs hp (mA hn h0) ha haz h0
 ·exact rfl0 p v l t w hv hs hp h0
theorem rls0 (p:Tr) (v:Value) (l:List Ho) (t:Tr) (w:World) (hv:Hl l v w) (hs:Hid (Szp l 1000)) (hp:tz p.2.1 p.2.2 1000) (h0:chE p l≠0):Calls Tryz.prog 16 #[.agg #[.bool p.1,vS p.2.1,vS p.2.2,v],.agg #[.bool t.1,vS t.2.1,vS t.2.2]] w fun e w'=>∃ u,e=.returned u∧Sw w.heap.size (loR p l t) (fiE p l t) u w'∧Since w w':=by
 have HV:Hid (∀ X,Since w X→Hl l v X):=fun X h=>Hl.lasts l _ _ _ hv h
 clear hv;have hs4:Hid (Szp l 40000):=hs.out.mono (by decide);have hp6:tz p.2.1 p.2.2 1000000:=hp.mono (by decide);obtain ⟨z,z9⟩:∃ z,chE p l=z:=⟨_,rfl⟩;have HZ:=Lib.hid z9;clear z9
 have hz0:z≠0:=by rw [← HZ.out];exact h0
 clear h0
 have HE:Hid (fiE p l t=z):=by
  show _=_
  unfold fiE
  rw [HZ.out,if_pos hz0]
 have HR:Hid (loR p l t=pd0):=if_neg (by rw [HE.out];exact hz0)
 go_enter Tryz.func16,Tryz.ntmps16
 go_upto_region 1 with fail;obtain ⟨W0,hW0,hB0,hB1,hB2,hb⟩:=bN w 26 23 45 [.bool p.1,vS p.2.1,vS p.2.2,v] [.bool t.1,vS t.2.1,vS t.2.2] zC;rw [← hW0];clear hW0;refine jp ?_;refine aJ hB0 ?_;refine jc (vI z) (fun X hX hF=>mo (kY p v l X (HV.out X (Since.next hb hX)) hs4 hp6) (by rw [HZ.out])) ?_;refine jm (vI z) ?_;refine aX hb hB0 hB1 hB2 fun X1 hX1 hb hB0 hB1 hB2=>?_;go_upto_region 2 with fail;refine jp ?_;refine jm (vI z) ?_;refine jv (.bool true) (bB _ _ _ _ (by rfl) .i64 z 0 (by rfl) (by rfl) true (by rw [decide_eq_false (by omega)];rfl)) ?_;refine aX hb hB0 hB1 hB2 fun X2 hX2 hb hB0 hB1 hB2=>?_;go_upto_region 3 with fail;refine jq 2 ?_;refine jmn (vI z) (.agg #[.bool false,.string ⟨#[]⟩,.string ⟨#[]⟩,.slice none 0 0,.slice none 0 0,.bool false,.string ⟨#[]⟩,.string ⟨#[]⟩,vI z]) ?_;refine aX hb hB0 hB1 hB2 fun X3 hX3 hb hB0 hB1 hB2=>?_;refine osb 45 4 17 (w.heap.size+2) 45 hB2 [.bool false,.string ⟨#[]⟩,.string ⟨#[]⟩,.slice none 0 0,.slice none 0 0,.bool false,.string ⟨#[]⟩,.string ⟨#[]⟩,vI z] bQ ?_;intro w9 hR9 hO9 hB9 hs9;have hb9:=hB9 _ _ hb (by omega);clear hO9 hB9
 go_wp2
 refine aK rfl rfl (by rfl) G45 rfl hR9 bQ ⟨_,rfl,by rw [HE.out,HR.out];exact Sw.z _ _ _,hb9⟩
theorem rls1 (p:Tr) (v:Value) (l:List Ho) (t:Tr) (w:World) (hv:Hl l v w) (hs:Hid (Szp l 1000)) (hp:tz p.2.1 p.2.2 1000) (ht:tz t.2.1 t.2.2 1000) (h0:chE p l=0) (hf:fnT t=false):Calls Tryz.prog 16 #[.agg #[.bool p.1,vS p.2.1,vS p.2.2,v],.agg #[.bool t.1,vS t.2.1,vS t.2.2]] w fun e w'=>∃ u,e=.returned u∧Sw w.heap.size (loR p l t) (fiE p l t) u w'∧Since w w':=by
 have HV:Hid (∀ X,Since w X→Hl l v X):=fun X h=>Hl.lasts l _ _ _ hv h
 clear hv;have hs4:Hid (Szp l 40000):=hs.out.mono (by decide);have hp6:tz p.2.1 p.2.2 1000000:=hp.mono (by decide);have HC:Hid (chE p l=0):=h0;clear h0;have HF:Hid (fnT t=false):=hf
 have HE:Hid (fiE p l t=1):=by
  show _=_
  unfold fiE
  rw [HC.out,if_neg (by decide),if_pos hf]
 have HR:Hid (loR p l t=pd0):=if_neg (by rw [HE.out];decide);clear hf
 go_enter Tryz.func16,Tryz.ntmps16
 go_upto_region 1 with fail;obtain ⟨W0,hW0,hB0,hB1,hB2,hb⟩:=bN w 26 23 45 [.bool p.1,vS p.2.1,vS p.2.2,v] [.bool t.1,vS t.2.1,vS t.2.2] zC;rw [← hW0];clear hW0;refine jp ?_;refine aJ hB0 ?_;refine jc (vI 0) (fun X hX hF=>mo (kY p v l X (HV.out X (Since.next hb hX)) hs4 hp6) (by rw [HC.out])) ?_;refine jm (vI 0) ?_;refine aX hb hB0 hB1 hB2 fun X1 hX1 hb hB0 hB1 hB2=>?_;go_upto_region 2 with fail;refine jp ?_;refine jm (vI 0) ?_;refine jv (.bool false) (bB _ _ _ _ (by rfl) .i64 0 0 (by rfl) (by rfl) false (by rw [decide_eq_true (by omega)];rfl)) ?_;refine aX hb hB0 hB1 hB2 fun X2 hX2 hb hB0 hB1 hB2=>?_;go_upto_region 4 with fail;refine jp ?_;refine aC hB1 ?_;refine jc (.bool false) (fun X hX hF=>mo (rR t X (ht.mono (by decide))) (by rw [HF.out])) ?_;refine jm (.bool false) ?_;refine aX hb hB0 hB1 hB2 fun X3 hX3 hb hB0 hB1 hB2=>?_;go_upto_region 5 with fail;refine jp ?_;refine jmm (.bool false) (.bool true) ?_;refine aX hb hB0 hB1 hB2 fun X4 hX4 hb hB0 hB1 hB2=>?_;go_upto_region 6 with fail;refine jq 1 ?_;refine jn (.agg #[.bool false,.string ⟨#[]⟩,.string ⟨#[]⟩,.slice none 0 0,.slice none 0 0,.bool false,.string ⟨#[]⟩,.string ⟨#[]⟩,vI 1]) ?_;refine aX hb hB0 hB1 hB2 fun X5 hX5 hb hB0 hB1 hB2=>?_
 refine osb 45 4 22 (w.heap.size+2) 45 hB2 [.bool false,.string ⟨#[]⟩,.string ⟨#[]⟩,.slice none 0 0,.slice none 0 0,.bool false,.string ⟨#[]⟩,.string ⟨#[]⟩,vI 1] bQ ?_;intro w9 hR9 hO9 hB9 hs9;have hb9:=hB9 _ _ hb (by omega);clear hO9 hB9
 go_wp2
 refine aK rfl rfl (by rfl) G45 rfl hR9 bQ ⟨_,rfl,by rw [HE.out,HR.out];exact Sw.z _ _ _,hb9⟩
theorem rls2 (p:Tr) (v:Value) (l:List Ho) (a:Rat) (w:World) (hv:Hl l v w) (hs:Hid (Szp l 1000)) (hp:tz p.2.1 p.2.2 1000) (hn8:l.length≤8) (ha:0≤a) (haz:szR a 1000) (h0:chE p l=0):Calls Tryz.prog 16 #[.agg #[.bool p.1,vS p.2.1,vS p.2.2,v],.agg #[.bool (rN a),vS (rP a),vS (rD a)]] w fun e w'=>∃ u,e=.returned u∧Sw w.heap.size (loR p l (tr a)) (fiE p l (tr a)) u w'∧Since w w':=by
 obtain ⟨A,n,cp,rfl,hln,hn1,hr⟩:=hv.at
 have HV:Hid (∀ X,Since w X→Hl l (.slice A n cp) X):=fun X h=>Hl.lasts l _ _ _ hv h
 clear hv;have hs4:Hid (Szp l 40000):=hs.out.mono (by decide);have hp6:tz p.2.1 p.2.2 1000000:=hp.mono (by decide)
 have HRX:Hid (∀ X,Since w X→Rd X 9 (.slice A n cp) n (fl hoc l)):=fun X h=>hr.below h
 have HLN:=Lib.hid hln;clear hr;have HOK:Hid (Okp p l):=chE_ok.1 h0;have HC:Hid (chE p l=0):=h0;clear h0
 have hn9:n≤8:=by omega
 have hl20:l.length≤20:=by omega
 have ht:tz (tr a).2.1 (tr a).2.2 1000:=tzR haz (Nat.le_refl _);have hf:=pP ha;have HF:Hid (fnT (tr a)=true):=hf;have hthz:szR (thr l) 8009:=hs.out.thr (by decide) hn8
 have HE:Hid (fiE p l (tr a)=0):=by
  show _=_
  unfold fiE
  rw [HC.out,if_neg (by decide),if_neg (by rw [hf];decide)]
 have HR:Hid (loR p l (tr a)=taD p l (loF l a) (a-(bL a (thr l)))):=by
  show _=_
  unfold loR
  rw [if_pos HE.out,eN]
 clear hf
 have hfz:Hid (∀ k,szR (loF l a k) 17018):=fun k=>vJ hs.out (by decide) hn8 (haz.mono (by decide)) k
 have LB0:szR a 1000:=haz;have LB1:szR (thr l) 8009:=hthz
 go_enter Tryz.func16,Tryz.ntmps16
 go_upto_region 1 with fail;obtain ⟨W0,hW0,hB0,hB1,hB2,hb⟩:=bN w 26 23 45 [.bool p.1,vS p.2.1,vS p.2.2,.slice A n cp] (zD a) zC;rw [← hW0];clear hW0;refine jp ?_;refine aJ hB0 ?_;refine jc (vI 0) (fun X hX hF=>mo (kY p _ l X (HV.out X (Since.next hb hX)) hs4 hp6) (by rw [HC.out])) ?_;refine jm (vI 0) ?_;refine aX hb hB0 hB1 hB2 fun X1 hX1 hb hB0 hB1 hB2=>?_;go_upto_region 2 with fail;refine jp ?_;refine jm (vI 0) ?_;refine jv (.bool false) (bB _ _ _ _ (by rfl) .i64 0 0 (by rfl) (by rfl) false (by rw [decide_eq_true (by omega)];rfl)) ?_;refine aX hb hB0 hB1 hB2 fun X2 hX2 hb hB0 hB1 hB2=>?_;go_upto_region 4 with fail;refine jp ?_;refine aC hB1 ?_;refine jc (.bool true) (fun X hX hF=>mo (rR (tr a) X (ht.mono (by decide))) (by rw [HF.out])) ?_;refine jm (.bool true) ?_;refine aX hb hB0 hB1 hB2 fun X3 hX3 hb hB0 hB1 hB2=>?_;go_upto_region 5 with fail;refine jp ?_;refine jmm (.bool true) (.bool false) ?_;refine aX hb hB0 hB1 hB2 fun X4 hX4 hb hB0 hB1 hB2=>?_;go_upto_region 7 with fail;refine jq 2 ?_;refine aJ hB0 ?_;refine jc (rt (rN (thr l)) (rP (thr l)) (rD (thr l))) (fun X hX hF=>qQd p _ l X (HV.out X (Since.next hb hX)) hs4 hl20) ?_;refine aX hb hB0 hB1 hB2 fun X5 hX5 hb hB0 hB1 hB2=>?_
 go_upto_region 8 with (refine osm 23 7 24 (zD (thr l)) aD fun Y5 hD7 hS9=>?_);have hgs7:=hb.size;have:=lt3 hB0 hB1 hB2;obtain ⟨hB0,hB1,hB2⟩:=bl3 hS9 hB0 hB1 hB2;have hb:=aF hb hS9;clear hS9;generalize X5.heap.size=g7 at *;refine jq 3 ?_;refine aC hB1 ?_;refine aC hD7 ?_;refine jc (rt (rN (bL a (thr l))) (rP (bL a (thr l))) (rD (bL a (thr l)))) (fun X hX hF=>qVe (rN a) (rP a) (rD a) (rN (thr l)) (rP (thr l)) (rD (thr l)) (aZ a) (aZ (thr l)) X (tzR LB0 (by omega)) (tzR LB1 (by omega))) ?_;refine dI hb hB0 hB1 hB2 hD7 fun X6 hX6 hb hB0 hB1 hB2 hD7=>?_;go_upto_region 9 with (refine osm 23 8 27 [.bool (rN (bL a (thr l))),.string ⟨(rP (bL a (thr l))).toArray⟩,.string ⟨(rD (bL a (thr l))).toArray⟩] aD fun Y6 hD8 hS9=>?_);have hgs8:=hb.size;have:=lt4 hB0 hB1 hB2 hD7;obtain ⟨hB0,hB1,hB2,hD7⟩:=bl4 hS9 hB0 hB1 hB2 hD7;have hb:=aF hb hS9;clear hS9;generalize X6.heap.size=g8 at *;refine jp ?_;refine jm (.slice none 0 0) ?_;refine bU hb hB0 hB1 hB2 hD7 hD8 fun X7 hX7 hb hB0 hB1 hB2 hD7 hD8=>?_;go_upto_region 10 with fail;refine jp ?_;refine jm (vI 0) ?_;refine bU hb hB0 hB1 hB2 hD7 hD8 fun X8 hX8 hb hB0 hB1 hB2 hD7 hD8=>?_;have hOZ:X8.ownsRow (g8+1) 23 3 (.slice none 0 0) 0 (fl rc (ptl 0 (loF l a))):=⟨rfl,.inl ⟨rfl,rfl⟩⟩
 go_wp2
 go_loopw [9,10] (fun sv kv wr=>∃ (k c5:Nat) (A5:Option Addr),k≤n∧sv=.slice A5 k c5∧kv=vI k∧Blk wr w.heap.size 26 [.bool p.1,vS p.2.1,vS p.2.2,.slice A n cp]∧Blk wr (w.heap.size+1) 23 (zD a)∧Blk wr (w.heap.size+2) 45 zC∧Blk wr g7 23 (zD (thr l))∧Blk wr g8 23 [.bool (rN (bL a (thr l))),.string ⟨(rP (bL a (thr l))).toArray⟩,.string ⟨(rD (bL a (thr l))).toArray⟩]∧wr.ownsRow (g8+1) 23 3 (.slice A5 k c5) k (fl rc (ptl k (loF l a)))∧Below w.heap.size w wr) (fun _ kv _=>n-(intOf kv).toNat)
 case atStart=>exact ⟨0,0,none,by omega,rfl,rfl,hB0,hB1,hB2,hD7,hD8,hOZ,hb⟩
 case round =>
  clear hB0 hB1 hB2 hD7 hD8 hOZ hb;obtain ⟨k,c5,A5,hk,rfl,rfl,hB0,hB1,hB2,hD7,hD8,hOZ,hb⟩:=hrel
  rcases Nat.lt_or_ge k n with hlt|hlt
  ·obtain ⟨b,off,rfl,hbb,hcx⟩:=gM (HRX.out _ hb) HLN.out hlt
   rw [HOK.out.ho_tr (by rw [HLN.out];exact hlt)] at hcx
   change Cl wr b (off+k * 9) [.bool (rN (ct l k)),vS (rP (ct l k)),vS (rD (ct l k)),.bool (rN (mx l k)),vS (rP (mx l k)),vS (rD (mx l k)),.bool (rN (sr l k)),vS (rP (sr l k)),vS (rD (sr l k))] at hcx
   have hkl:k<l.length:=by rw [HLN.out];exact hlt
   go_upto_region 11 with fail;refine jp ?_;refine jm (vI k) ?_;refine jnf hB0 3 aT ?_;refine jv (vI n) (aM G24 _ (by rfl) (some ⟨b,off,none⟩) n cp (by rfl) _ rfl) ?_;refine dP (k:Int) (n:Int) (by omega) ?_;refine bU hb hB0 hB1 hB2 hD7 hD8 fun X1 hX1 hb hB0 hB1 hB2 hD7 hD8=>?_;replace hOZ:=aB hOZ hX1;have hcx:=hcx.below hX1 hbb;replace hbb:=Nat.lt_of_lt_of_le hbb (hX1).size;go_upto_region 13 with fail;refine jq 1 ?_;refine jc (rz) (fun X hX hF=>yB X) ?_;refine bU hb hB0 hB1 hB2 hD7 hD8 fun X2 hX2 hb hB0 hB1 hB2 hD7 hD8=>?_;replace hOZ:=aB hOZ hX2;have hcx:=hcx.below hX2 hbb;replace hbb:=Nat.lt_of_lt_of_le hbb (hX2).size;have hog:=aQ hOZ;go_upto_region 14 with (refine osm 23 11 35 zA aD fun Y2 hD11 hS9=>?_);have hgs11:=hb.size;have:=lt5 hB0 hB1 hB2 hD7 hD8;replace hOZ:=aB hOZ hS9;have hcx:=hcx.below hS9 hbb;replace hbb:=Nat.lt_of_lt_of_le hbb (hS9).size;obtain ⟨hB0,hB1,hB2,hD7,hD8⟩:=bl5 hS9 hB0 hB1 hB2 hD7 hD8;have hb:=aF hb hS9;clear hS9;generalize X2.heap.size=g11 at *
   by_cases hz:thr l=0
   ·have HL0:Hid (loF l a k=0):=by
     show _=_
     unfold loF
     rw [hz,Rat.div_def,Rat.inv_zero,Rat.mul_zero,Rat.mul_zero]
    refine jd ?_;refine aC hD7 ?_;refine jc (rz) (fun X hX hF=>yB X) ?_;refine jv (.bool false) (gI _ _ (by rfl) (rN (thr l)) (rP (thr l)) (rD (thr l)) false [] [] (by rfl) (by rfl) false (qQn hz)) ?_;refine dO hb hB0 hB1 hB2 hD7 hD8 hD11 fun X3 hX3 hb hB0 hB1 hB2 hD7 hD8 hD11=>?_;replace hOZ:=aB hOZ hX3;have hcx:=hcx.below hX3 hbb;replace hbb:=Nat.lt_of_lt_of_le hbb (hX3).size;have hl8:=hD8.lt;go_upto_region 16 with fail
    have hbA:(g8+1)≤X3.heap.size:=by omega
    have hn_hB0:(Value.ownBlock (.slice A5 k c5))≠some w.heap.size:=fun h9=>by have h8:=aQ hOZ _ h9;omega
    have hn_hB1:(Value.ownBlock (.slice A5 k c5))≠some (w.heap.size+1):=fun h9=>by have h8:=aQ hOZ _ h9;omega
    have hn_hB2:(Value.ownBlock (.slice A5 k c5))≠some (w.heap.size+2):=fun h9=>by have h8:=aQ hOZ _ h9;omega
    have hn_hD7:(Value.ownBlock (.slice A5 k c5))≠some g7:=fun h9=>by have h8:=aQ hOZ _ h9;omega
    have hn_hD8:(Value.ownBlock (.slice A5 k c5))≠some g8:=fun h9=>by have h8:=aQ hOZ _ h9;omega
    have hn_hD11:(Value.ownBlock (.slice A5 k c5))≠some g11:=fun h9=>by have h8:=hog _ h9;omega
    refine mE (⟨(g8+1),23,3,.slice A5 k c5,k,(fl rc (ptl k (loF l a))),zA⟩:Ar) 3 [none,none,some (Anew (⟨(g8+1),23,3,.slice A5 k c5,k,(fl rc (ptl k (loF l a))),zA⟩:Ar) 23),some (Aout (⟨(g8+1),23,3,.slice A5 k c5,k,(fl rc (ptl k (loF l a))),zA⟩:Ar))] (cG (cG (dU (fun v X Y h hR=>Anew.lasts v X Y h hR) (dU (fun v X Y h hR=>Aout.lasts v X Y h hR) (jK))))) ?_;simp only [iB,Nat.reduceAdd];refine am (.slice A5 k c5) ?_;refine ag hOZ hbA (.agg #[.bool false,.string ⟨#[]⟩,.string ⟨#[]⟩]) (fun X σ hX hF=>eG 23 _ (by rfl) g11 (by rfl) G23 rfl X (hX.blk hD11 hn_hD11) aD) ?_;refine ab hOZ 23 (fun X=>by unfold execOp;go_simp) ?_;intro v52;refine aa hOZ hbA 23 2 v52 zE G27 fF rfl (show 0<3 by decide) (by rfl) (al3 rfl rfl rfl) (show k+1≤maxLen by unfold maxLen;omega) (show (k+1) * 40≤140737488355328 by omega) ?_;intro v53;refine am (v53) ?_;refine az hOZ hbA ?_;intro X4 σ hX hF;have hO53:X4.ownsRow (g8+1) 23 3 v53 (k+1) ((fl rc (ptl k (loF l a)))++zA):=(hF _ _ zE).2;have hB0:=hX.blk hB0 hn_hB0;have hB1:=hX.blk hB1 hn_hB1;have hB2:=hX.blk hB2 hn_hB2;have hD7:=hX.blk hD7 hn_hD7;have hD8:=hX.blk hD8 hn_hD8;have hD11:=hX.blk hD11 hn_hD11;have hb:=hb.trans (hX.below.mono (show w.heap.size≤(g8+1) by omega))
    clear hF hn_hB0 hn_hB1 hn_hB2 hn_hD7 hn_hD8 hn_hD11;obtain ⟨A7,c7,rfl,_,_⟩:=(Rd.of_own hO53).form;clear hOZ hog
    have hOZ:X4.ownsRow (g8+1) 23 3 (.slice A7 (k+1) c7) (k+1) (fl rc (ptl (k+1) (loF l a))):=by rw [iU,HL0.out];exact hO53
    clear hO53 hX;go_upto_region 12 with fail;refine jp ?_;refine jm (vI k) ?_;refine jv (vI ((k+1:Nat):Int)) (aV _ _ _ _ (by rfl) (k:Int) 1 ((k+1:Nat):Int) (by rfl) (by rfl) (by omega) (by omega) (by omega)) ?_;refine jm (vI ((k+1:Nat):Int)) ?_;refine bU hb hB0 hB1 hB2 hD7 hD8 fun X5 hX5 hb hB0 hB1 hB2 hD7 hD8=>?_;replace hOZ:=aB hOZ hX5
    go_wp2
    go_roundw
    case rel=>exact ⟨k+1,c7,A7,by omega,rfl,rfl,hB0,hB1,hB2,hD7,hD8,hOZ,hb⟩
    case measure=>simp [intOf];omega
   ·have LB0:szR (bL a (thr l)) 8009:=fJ haz hthz (by decide) (by decide)
    have LB1:szR (thr l) 8009:=hthz;have LB2:szR (ct l k) 1000:=hs.out.ct (by decide) k;have LB3:szR ((bL a (thr l)) / (thr l)) 16018:=iD LB0 LB1;refine jd ?_;refine aC hD7 ?_;refine jc (rz) (fun X hX hF=>yB X) ?_;refine jv (.bool true) (gI _ _ (by rfl) (rN (thr l)) (rP (thr l)) (rD (thr l)) false [] [] (by rfl) (by rfl) true (qQo hz)) ?_;refine dO hb hB0 hB1 hB2 hD7 hD8 hD11 fun X3 hX3 hb hB0 hB1 hB2 hD7 hD8 hD11=>?_;replace hOZ:=aB hOZ hX3;have hcx:=hcx.below hX3 hbb;replace hbb:=Nat.lt_of_lt_of_le hbb (hX3).size;go_upto_region 15 with fail;refine aN [] (by kernel_rfl) (by kernel_rfl) (by kernel_rfl) rfl (aG) ?_;simp only [its,List.dropLast,Nat.zero_add,Nat.reduceAdd];refine jnf hB0 3 aT ?_;refine jm (vI k) ?_;refine jv (vP b (off+k * 9)) (bD G24 bC _ _ (by rfl) b (off) n cp k (by omega) (by rfl) (by rfl) rfl) ?_;refine jn (vP b (off+k * 9)) ?_;refine jg (rt (rN (ct l k)) (rP (ct l k)) (rD (ct l k))) (fun X hX hF=>bP 23 _ (by rfl) b (off+k * 9) (by rfl) G23 rfl (zD (ct l k)) X (Cl.part (hcx.below hX hbb) 0 _ (by rfl)) aD) ?_;refine aC hD8 ?_;refine aC hD7 ?_;refine jc (.agg #[.bool (rN ((bL a (thr l)) / (thr l))),st (rP ((bL a (thr l)) / (thr l))),st (rD ((bL a (thr l)) / (thr l))),vI 0]) (fun X hX hF=>vZj (rN (bL a (thr l))) (rP (bL a (thr l))) (rD (bL a (thr l))) (rN (thr l)) (rP (thr l)) (rD (thr l)) (aZ (bL a (thr l))) (aZ (thr l)) X (tzR LB0 (by omega)) (tzR LB1 (by omega)) hz) ?_
    refine jv (.agg #[.bool (rN ((bL a (thr l)) / (thr l))),st (rP ((bL a (thr l)) / (thr l))),st (rD ((bL a (thr l)) / (thr l)))]) (fun X=>kW _ _ _ (by rfl) (by rfl) X (nB _ _ _ _ X)) ?_;refine jc (rt (rN (loF l a k)) (rP (loF l a k)) (rD (loF l a k))) (fun X hX hF=>(qYz (rN (ct l k)) (rP (ct l k)) (rD (ct l k)) (rN ((bL a (thr l)) / (thr l))) (rP ((bL a (thr l)) / (thr l))) (rD ((bL a (thr l)) / (thr l))) (aZ (ct l k)) (aZ ((bL a (thr l)) / (thr l))) X (tzR LB2 (by omega)) (tzR LB3 (by omega))).mono fun e X' ⟨h1,h2⟩=>⟨h1,h2⟩) ?_;refine dO hb hB0 hB1 hB2 hD7 hD8 hD11 fun X4 hX4 hb hB0 hB1 hB2 hD7 hD8 hD11=>?_;replace hOZ:=aB hOZ hX4;have hcx:=hcx.below hX4 hbb;replace hbb:=Nat.lt_of_lt_of_le hbb (hX4).size;refine aU rfl 23 (.tmp 11) (.tmp 49) rfl g11 23 _ hD11 rfl (zD (loF l a k)) rfl (by rfl) (al3 rfl rfl rfl) aD ?_;intro w15 hR9 hG9;have hb:=aR hG9 hb hb.size (by omega);obtain ⟨hB0,hB1,hB2,hD7,hD8⟩:=bg5 hG9 hB0 hB1 hB2 hD7 hD8;have hOZ:=aO hOZ hG9 (fun g h h9=>by injection h with h;have h8:=hog _ h9;omega);have hD11:=hR9;clear hR9 hG9;refine wpList_nil ?_;have hl8:=hD8.lt;go_upto_region 16 with fail
    have hbA:(g8+1)≤w15.heap.size:=by omega
    have hn_hB0:(Value.ownBlock (.slice A5 k c5))≠some w.heap.size:=fun h9=>by have h8:=aQ hOZ _ h9;omega
    have hn_hB1:(Value.ownBlock (.slice A5 k c5))≠some (w.heap.size+1):=fun h9=>by have h8:=aQ hOZ _ h9;omega
    have hn_hB2:(Value.ownBlock (.slice A5 k c5))≠some (w.heap.size+2):=fun h9=>by have h8:=aQ hOZ _ h9;omega
    have hn_hD7:(Value.ownBlock (.slice A5 k c5))≠some g7:=fun h9=>by have h8:=aQ hOZ _ h9;omega
    have hn_hD8:(Value.ownBlock (.slice A5 k c5))≠some g8:=fun h9=>by have h8:=aQ hOZ _ h9;omega
    have hn_hD11:(Value.ownBlock (.slice A5 k c5))≠some g11:=fun h9=>by have h8:=hog _ h9;omega
    refine mE (⟨(g8+1),23,3,.slice A5 k c5,k,(fl rc (ptl k (loF l a))),(zD (loF l a k))⟩:Ar) 3 [none,none,some (Anew (⟨(g8+1),23,3,.slice A5 k c5,k,(fl rc (ptl k (loF l a))),(zD (loF l a k))⟩:Ar) 23),some (Aout (⟨(g8+1),23,3,.slice A5 k c5,k,(fl rc (ptl k (loF l a))),(zD (loF l a k))⟩:Ar))] (cG (cG (dU (fun v X Y h hR=>Anew.lasts v X Y h hR) (dU (fun v X Y h hR=>Aout.lasts v X Y h hR) (jK))))) ?_;simp only [iB,Nat.reduceAdd];refine am (.slice A5 k c5) ?_;refine ag hOZ hbA (.agg #[.bool (rN (loF l a k)),vS (rP (loF l a k)),vS (rD (loF l a k))]) (fun X σ hX hF=>eG 23 _ (by rfl) g11 (by rfl) G23 rfl X (hX.blk hD11 hn_hD11) aD) ?_;refine ab hOZ 23 (fun X=>by unfold execOp;go_simp) ?_;intro v52;refine aa hOZ hbA 23 2 v52 zE G27 fF rfl (show 0<3 by decide) (by rfl) (al3 rfl rfl rfl) (show k+1≤maxLen by unfold maxLen;omega) (show (k+1) * 40≤140737488355328 by omega) ?_;intro v53;refine am (v53) ?_;refine az hOZ hbA ?_;intro X5 σ hX hF;have hO53:X5.ownsRow (g8+1) 23 3 v53 (k+1) ((fl rc (ptl k (loF l a)))++(zD (loF l a k))):=(hF _ _ zE).2
    have hB0:=hX.blk hB0 hn_hB0;have hB1:=hX.blk hB1 hn_hB1;have hB2:=hX.blk hB2 hn_hB2;have hD7:=hX.blk hD7 hn_hD7;have hD8:=hX.blk hD8 hn_hD8;have hD11:=hX.blk hD11 hn_hD11;have hb:=hb.trans (hX.below.mono (show w.heap.size≤(g8+1) by omega));clear hF hn_hB0 hn_hB1 hn_hB2 hn_hD7 hn_hD8 hn_hD11;obtain ⟨A7,c7,rfl,_,_⟩:=(Rd.of_own hO53).form;clear hOZ hog
    have hOZ:X5.ownsRow (g8+1) 23 3 (.slice A7 (k+1) c7) (k+1) (fl rc (ptl (k+1) (loF l a))):=by rw [iU];exact hO53
    clear hO53 hX;go_upto_region 12 with fail;refine jp ?_;refine jm (vI k) ?_;refine jv (vI ((k+1:Nat):Int)) (aV _ _ _ _ (by rfl) (k:Int) 1 ((k+1:Nat):Int) (by rfl) (by rfl) (by omega) (by omega) (by omega)) ?_;refine jm (vI ((k+1:Nat):Int)) ?_;refine bU hb hB0 hB1 hB2 hD7 hD8 fun X6 hX6 hb hB0 hB1 hB2 hD7 hD8=>?_;replace hOZ:=aB hOZ hX6
    go_wp2
    go_roundw
    case rel=>exact ⟨k+1,c7,A7,by omega,rfl,rfl,hB0,hB1,hB2,hD7,hD8,hOZ,hb⟩
    case measure=>simp [intOf];omega
  ·have hkn:k=n:=by omega
   have hln2:l.length=k:=HLN.out.trans hkn.symm;have HL2:=Lib.hid hln2;clear hln2;go_upto_region 11 with fail;refine jp ?_;refine jm (vI k) ?_;refine jnf hB0 3 aT ?_;refine jv (vI n) (aM G24 _ (by rfl) A n cp (by rfl) _ rfl) ?_;refine dJ (k:Int) (n:Int) (by omega) ?_;refine bU hb hB0 hB1 hB2 hD7 hD8 fun X1 hX1 hb hB0 hB1 hB2 hD7 hD8=>?_;replace hOZ:=aB hOZ hX1;have LB0:szR a 1000:=haz;have LB1:szR (bL a (thr l)) 8009:=fJ haz hthz (by decide) (by decide);have hl8:=hD8.lt;go_upto_region 17 with fail;refine aN [none,none,none,none,none,some (Tk X1.heap.size p (stc l (fun j=>ct l j-(loF l a) j)) (.slice A5 k c5) (a-(bL a (thr l)))),some (Tk9 X1.heap.size p (stc l (fun j=>ct l j-(loF l a) j)) (.slice A5 k c5) (a-(bL a (thr l))))] (by kernel_rfl) (by kernel_rfl) (by kernel_rfl) rfl (aA (aA (aA (aA (aA (aE (Tk.lasts _ _ _ _ _) (aE (Tk9.lasts _ _ _ _ _) (aG)))))))) ?_;simp only [its,List.dropLast,Nat.zero_add,Nat.reduceAdd];refine aJ hB0 ?_;refine jm (.slice A5 k c5) ?_;refine aC hB1 ?_;refine aC hD8 ?_;refine jc (.agg #[.bool (rN (a-(bL a (thr l)))),st (rP (a-(bL a (thr l)))),st (rD (a-(bL a (thr l))))]) (fun X hX hF=>jZ (rN a) (rP a) (rD a) (rN (bL a (thr l))) (rP (bL a (thr l))) (rD (bL a (thr l))) (aZ a) (aZ (bL a (thr l))) X (tzR LB0 (by omega)) (tzR LB1 (by omega))) ?_
   refine jk (fun X hX hF=>(vXo p _ (.slice A5 k c5) l (ptl k (loF l a)) (a-(bL a (thr l))) X (HV.out X (Since.next hb hX)) (mR (aB hOZ hX) (cF _ _)) hs HOK hn8 ((cF _ _).trans HL2.out.symm) (fun j hj=>by rw [jH _ (by rw [← HL2.out];exact hj)];exact (hfz.out j).mono (by decide))).mono fun e X' ⟨u,h1,h2,h3⟩=>⟨u,h1,by rw [uL HL2.out] at h2;exact h2.low hX.size,h3⟩) ?_;intro v59;refine bH (by rfl) (fun X hX hF=>by obtain ⟨u9,e9,h9⟩:=(hF _ _ zE rfl);subst e9;exact ⟨_,X,by unfold execOp;go_simp,⟨u9,rfl,h9⟩,Below.refl _ _⟩) ?_;intro v60;simp only [pX];refine aI ?_;intro X2 hX2 hF;have hv59:=hF _ _ (zF zE);have hv60:=hF _ _ zE;replace hOZ:=aB hOZ hX2;obtain ⟨hB0,hB1,hB2,hD7,hD8⟩:=bl5 hX2 hB0 hB1 hB2 hD7 hD8;have hb:=aF hb hX2;clear hF hX2;obtain ⟨u9,rfl,hOu⟩:=hv60;clear hv59
   unfold Oh at hOu
   rw [cX,HL2.out] at hOu;replace hOu:=bG hOu (show w.heap.size+2≤X1.heap.size by omega);replace hOZ:=bG hOZ (show w.heap.size+2≤(g8+1) by omega);obtain ⟨A6,c6,rfl,_,_⟩:=(Rd.of_own hOu).form;refine aU rfl 45 (.tmp 4) (.tmp 60) rfl (w.heap.size+2) 45 _ hB2 rfl [.bool p.1,vS p.2.1,vS p.2.2,.slice A6 k c6,.slice A5 k c5,.bool (rN (a-(bL a (thr l)))),.string ⟨(rP (a-(bL a (thr l)))).toArray⟩,.string ⟨(rD (a-(bL a (thr l)))).toArray⟩,vI 0] rfl (by rfl) (al9 rfl rfl rfl rfl rfl rfl rfl rfl rfl) bQ ?_;intro w9 hR9 hG9;have hb:=aR hG9 hb hb.size (by omega);have hOu:=aO hOu hG9 (fun g h h9=>bK hOu hB2 rfl (h9.trans h.symm));have hOZ:=aO hOZ hG9 (fun g h h9=>bK hOZ hB2 rfl (h9.trans h.symm))
   go_wp2
   refine aK rfl rfl (by rfl) G45 rfl hR9 bQ ⟨_,rfl,by
    rw [HE.out,HR.out];refine ⟨_,_,rfl,?_,?_⟩
    ·show World.ownsRow _ _ _ _ _ (stc l _).length (fl hoc (stc l _))
     rw [cX,HL2.out];exact bG hOu (by omega)
    ·show World.ownsRow _ _ _ _ _ (ptl l.length _).length (fl rc (ptl l.length _))
     rw [cF,HL2.out]
     exact bG hOZ (by omega),hb⟩
theorem rlsC (p:Tr) (v:Value) (l:List Ho) (t:Tr) (w:World) (hv:Hl l v w) (hs:Hid (Szp l 1000)) (hp:tz p.2.1 p.2.2 1000) (hn:l.length≤8∨20<l.length) (ht:tz t.2.1 t.2.2 1000):Calls Tryz.prog 16 #[.agg #[.bool p.1,vS p.2.1,vS p.2.2,v],.agg #[.bool t.1,vS t.2.1,vS t.2.2]] w fun e w'=>∃ u,e=.returned u∧Sw w.heap.size (loR p l t) (fiE p l t) u w'∧Since w w':=by
 by_cases h0:chE p l=0
 ·cases hf:fnT t with
  | false=>exact rls1 p v l t w hv hs hp ht h0 hf
  | true =>
   obtain ⟨a,ha,rfl⟩:∃ a:Rat,0≤a∧t=tr a:=⟨trq t,jP hf,(jF (fnT_t.1 hf).2).symm⟩
   have haz:szR a 1000:=by
    have h9:=dQ (x:=trq (tr a)) rfl ht (by decide)
    rwa [eN] at h9
   exact rls2 p v l a w hv hs hp (mA hn h0) ha haz h0
 ·exact rls0 p v l t w hv hs hp h0
theorem rrl0 (p:Tr) (v vw:Value) (l:List Ho) (ws:List Tr) (w:World) (hv:Hl l v w) (hs:Hid (Szp l 1000)) (hp:tz p.2.1 p.2.2 1000) (hw:Rl ws vw w) (hws:Hid (∀ k,tz (xt ws k).2.1 (xt ws k).2.2 1000)) (h0:chE p l≠0):Calls Tryz.prog 14 #[.agg #[.bool p.1,vS p.2.1,vS p.2.2,v],vw] w fun e w'=>∃ u,e=.returned u∧Sw w.heap.size (reR p l ws) (reE p l ws) u w'∧Since w w':=by
 obtain ⟨Aw,nw,cw,rfl,hwl,hwn,hwr⟩:=eC hw
 have HWX:Hid (∀ X,Since w X→Rd X 3 (.slice Aw nw cw) nw (fl trc ws)):=fun X h=>hwr.below h
 have HWL:=Lib.hid hwl;clear hw hwr;obtain ⟨A,n,cp,rfl,hln,hn1,hr⟩:=hv.at;have HLN:=Lib.hid hln
 have HRX:Hid (∀ X,Since w X→Rd X 9 (.slice A n cp) n (fl hoc l)):=fun X h=>hr.below h
 clear hr
 have HV:Hid (∀ X,Since w X→Hl l (.slice A n cp) X):=fun X h=>Hl.lasts l _ _ _ hv h
 clear hv;have hs4:Hid (Szp l 40000):=hs.out.mono (by decide);have hp6:tz p.2.1 p.2.2 1000000:=hp.mono (by decide);obtain ⟨z,z9⟩:∃ z,chE p l=z:=⟨_,rfl⟩;have HZ:=Lib.hid z9;clear z9
 have hz0:z≠0:=by rw [← HZ.out];exact h0
 clear h0
 have HE:Hid (reE p l ws=z):=by
  show _=_
  unfold reE
  rw [HZ.out,if_pos hz0]
 have HR:Hid (reR p l ws=pd0):=if_neg (by rw [HE.out];exact hz0)
 go_enter Tryz.func14,Tryz.ntmps14
 go_upto_region 1 with fail;obtain ⟨W0,hW0,hB0,hB1,hb⟩:=cH w 26 45 [.bool p.1,vS p.2.1,vS p.2.2,.slice A n cp] zC;rw [← hW0];clear hW0;refine jp ?_;refine aJ hB0 ?_;refine jc (vI z) (fun X hX hF=>mo (kY p _ l X (HV.out X (Since.next hb hX)) hs4 hp6) (by rw [HZ.out])) ?_;refine jm (vI z) ?_;refine bO hb hB0 hB1 fun X1 hX1 hb hB0 hB1=>?_;go_upto_region 2 with fail;refine jp ?_;refine jm (vI z) ?_;refine jv (.bool true) (bB _ _ _ _ (by rfl) .i64 z 0 (by rfl) (by rfl) true (by rw [decide_eq_false (by omega)];rfl)) ?_;refine bO hb hB0 hB1 fun X2 hX2 hb hB0 hB1=>?_;go_upto_region 3 with fail;refine jq 2 ?_;refine jmn (vI z) (.agg #[.bool false,.string ⟨#[]⟩,.string ⟨#[]⟩,.slice none 0 0,.slice none 0 0,.bool false,.string ⟨#[]⟩,.string ⟨#[]⟩,vI z]) ?_;refine bO hb hB0 hB1 fun X3 hX3 hb hB0 hB1=>?_;refine osb 45 4 16 (w.heap.size+1) 45 hB1 [.bool false,.string ⟨#[]⟩,.string ⟨#[]⟩,.slice none 0 0,.slice none 0 0,.bool false,.string ⟨#[]⟩,.string ⟨#[]⟩,vI z] bQ ?_;intro w9 hR9 hO9 hB9 hs9;have hb9:=hB9 _ _ hb (by omega);clear hO9 hB9
 go_wp2
 refine aK rfl rfl (by rfl) G45 rfl hR9 bQ ⟨_,rfl,by rw [HE.out,HR.out];exact Sw.z _ _ _,hb9⟩
theorem rrl2 (p:Tr) (v vw:Value) (l:List Ho) (ws:List Tr) (w:World) (hv:Hl l v w) (hs:Hid (Szp l 1000)) (hp:tz p.2.1 p.2.2 1000) (hw:Rl ws vw w) (hws:Hid (∀ k,tz (xt ws k).2.1 (xt ws k).2.2 1000)) (hn8:l.length≤8) (h0:chE p l=0):Calls Tryz.prog 14 #[.agg #[.bool p.1,vS p.2.1,vS p.2.2,v],vw] w fun e w'=>∃ u,e=.returned u∧Sw w.heap.size (reR p l ws) (reE p l ws) u w'∧Since w w':=by
 obtain ⟨Aw,nw,cw,rfl,hwl,hwn,hwr⟩:=eC hw
 have HWX:Hid (∀ X,Since w X→Rd X 3 (.slice Aw nw cw) nw (fl trc ws)):=fun X h=>hwr.below h
 have HWL:=Lib.hid hwl;clear hw hwr;obtain ⟨A,n,cp,rfl,hln,hn1,hr⟩:=hv.at;have HLN:=Lib.hid hln
 have HRX:Hid (∀ X,Since w X→Rd X 9 (.slice A n cp) n (fl hoc l)):=fun X h=>hr.below h
 clear hr
 have HV:Hid (∀ X,Since w X→Hl l (.slice A n cp) X):=fun X h=>Hl.lasts l _ _ _ hv h
 clear hv;have hs4:Hid (Szp l 40000):=hs.out.mono (by decide);have hp6:tz p.2.1 p.2.2 1000000:=hp.mono (by decide);have HOK:Hid (Okp p l):=chE_ok.1 h0;have HC:Hid (chE p l=0):=h0;clear h0;obtain ⟨bq,bq9⟩:∃ b,decide (nw=n)=b:=⟨_,rfl⟩;have HBQ:=Lib.hid bq9;clear bq9
 have hn9:n≤8:=by omega
 go_enter Tryz.func14,Tryz.ntmps14
 go_upto_region 1 with fail;obtain ⟨W0,hW0,hB0,hB1,hb⟩:=cH w 26 45 [.bool p.1,vS p.2.1,vS p.2.2,.slice A n cp] zC;rw [← hW0];clear hW0;refine jp ?_;refine aJ hB0 ?_;refine jc (vI 0) (fun X hX hF=>mo (kY p _ l X (HV.out X (Since.next hb hX)) hs4 hp6) (by rw [HC.out])) ?_;refine jm (vI 0) ?_;refine bO hb hB0 hB1 fun X1 hX1 hb hB0 hB1=>?_;go_upto_region 2 with fail;refine jp ?_;refine jm (vI 0) ?_;refine jv (.bool false) (bB _ _ _ _ (by rfl) .i64 0 0 (by rfl) (by rfl) false (by rw [decide_eq_true (by omega)];rfl)) ?_;refine bO hb hB0 hB1 fun X2 hX2 hb hB0 hB1=>?_;go_upto_region 4 with fail;refine jp ?_;refine jm (.slice Aw nw cw) ?_;refine jv (vI nw) (aM G27 _ (by rfl) Aw nw cw (by rfl) _ rfl) ?_;refine jnf hB0 3 aT ?_;refine jv (vI n) (aM G24 _ (by rfl) A n cp (by rfl) _ rfl) ?_;refine jv (.bool bq) (eL _ _ _ _ (by rfl) .i64 (nw:Int) (n:Int) (by rfl) (by rfl) bq (by rw [← HBQ.out];exact decide_eq_decide.2 ⟨fun h9=>by omega,fun h9=>by omega⟩)) ?_;refine jm (.bool bq) ?_;refine bO hb hB0 hB1 fun X3 hX3 hb hB0 hB1=>?_;go_upto_region 5 with fail;refine jp ?_;refine jm (vI 0) ?_;refine bO hb hB0 hB1 fun X4 hX4 hb hB0 hB1=>?_
 go_wp2
 go_loopw [6,7] (fun bv kv wr=>∃ (k:Nat) (b:Bool),k≤nw∧bv=.bool b∧kv=vI k∧Hid (b=true↔nw=n∧∀ j,j<k→fnT (xt ws j)=true)∧Blk wr w.heap.size 26 [.bool p.1,vS p.2.1,vS p.2.2,.slice A n cp]∧Blk wr (w.heap.size+1) 45 zC∧Below w.heap.size w wr) (fun _ kv _=>nw-(intOf kv).toNat)
 case atStart=>exact ⟨0,bq,by omega,rfl,rfl,(by rw [← HBQ.out];exact ⟨fun h9=>⟨of_decide_eq_true h9,fun j hj=>by omega⟩,fun h9=>decide_eq_true h9.1⟩),hB0,hB1,hb⟩
 case round =>
  clear hB0 hB1 hb;obtain ⟨k,b,hk,rfl,rfl,HA,hB0,hB1,hb⟩:=hrel
  rcases Nat.lt_or_ge k nw with hlt|hlt
  ·obtain ⟨bw,ow,rfl,hbw,hcw⟩:=tE (HWX.out _ hb) HWL.out hlt
   obtain ⟨t,t9⟩:∃ t,t=xt ws k:=⟨_,rfl⟩;have HT:=Lib.hid t9;clear t9;rw [← HT.out] at hcw
   change Cl wr bw (ow+k * 3) [.bool t.1,vS t.2.1,vS t.2.2] at hcw
   have ht:tz t.2.1 t.2.2 1000:=by rw [HT.out];exact hws.out k
   obtain ⟨ub,ub9⟩:∃ z,fnT t=z:=⟨_,rfl⟩;have HU:=Lib.hid ub9;clear ub9;go_upto_region 6 with fail;refine jp ?_;refine jmm (vI k) (.slice (some ⟨bw,ow,none⟩) nw cw) ?_;refine jv (vI nw) (aM G27 _ (by rfl) (some ⟨bw,ow,none⟩) nw cw (by rfl) _ rfl) ?_;refine dP (k:Int) (nw:Int) (by omega) ?_;refine bO hb hB0 hB1 fun X1 hX1 hb hB0 hB1=>?_;have hcw:=hcw.below hX1 hbw;replace hbw:=Nat.lt_of_lt_of_le hbw (hX1).size;go_upto_region 8 with fail;refine jp ?_;refine jmm (.slice (some ⟨bw,ow,none⟩) nw cw) (vI k) ?_;refine jv (vP bw (ow+k * 3)) (bD G27 aD _ _ (by rfl) bw (ow) nw cw k (by omega) (by rfl) (by rfl) rfl) ?_;refine jg (.agg #[.bool t.1,st t.2.1,st t.2.2]) (fun X hX hF=>bP 23 _ (by rfl) bw (ow+k * 3) (by rfl) G23 rfl [.bool t.1,vS t.2.1,vS t.2.2] X (Cl.part (hcw.below hX hbw) 0 _ (by rfl)) aD) ?_;refine jc (.bool ub) (fun X hX hF=>mo (rR t X (ht.mono (by decide))) (by rw [HU.out])) ?_;refine jm (.bool ub) ?_;refine bO hb hB0 hB1 fun X2 hX2 hb hB0 hB1=>?_;have hcw:=hcw.below hX2 hbw;replace hbw:=Nat.lt_of_lt_of_le hbw (hX2).size
   by_cases hg:b=true∧ub=true
   ·obtain ⟨rfl,rfl⟩:=hg
    have HA2:Hid (true=true↔nw=n∧∀ j,j<k+1→fnT (xt ws j)=true):=⟨fun _=>⟨(HA.out.1 rfl).1,fun j hj=>by
     rcases Nat.lt_or_ge j k with h7|h7
     ·exact (HA.out.1 rfl).2 j h7
     ·rw [show j=k by omega,← HT.out]
      exact HU.out⟩,fun _=>rfl⟩
    go_upto_region 9 with fail;refine jp ?_;refine bZ (.bool true) (.bool true) (.bool true) ?_;refine jmm (.bool true) (.bool true) ?_;refine bO hb hB0 hB1 fun X3 hX3 hb hB0 hB1=>?_;go_upto_region 7 with fail;refine jp ?_;refine jm (vI k) ?_;refine jv (vI ((k+1:Nat):Int)) (aV _ _ _ _ (by rfl) (k:Int) 1 ((k+1:Nat):Int) (by rfl) (by rfl) (by omega) (by omega) (by omega)) ?_;refine jm (vI ((k+1:Nat):Int)) ?_;refine bO hb hB0 hB1 fun X4 hX4 hb hB0 hB1=>?_
    go_wp2
    go_roundw
    case rel=>exact ⟨k+1,true,by omega,rfl,rfl,HA2,hB0,hB1,hb⟩
    case measure=>simp [intOf];omega
   ·have HA2:Hid (false=true↔nw=n∧∀ j,j<k+1→fnT (xt ws j)=true):=⟨fun h8=>(by cases h8),fun h8=>by
     exfalso
     have h6:=h8.2 k (by omega);rw [← HT.out,HU.out] at h6
     exact hg ⟨HA.out.2 ⟨h8.1,fun j hj=>h8.2 j (by omega)⟩,h6⟩⟩
    go_upto_region 9 with fail;refine zY [34,35,36,37,6] (fun f9 X=>(f9 6=.bool false∧True)∧Since X2 X) ?_ ?_
    ·rcases b with _|_
     rotate_left
     rcases ub with _|_
     rotate_left
     exact absurd ⟨rfl,rfl⟩ hg
     ·refine jp ?_
      refine jmm (.bool false) (.bool false) ?_;refine js ?_;refine jmm (.bool false) (.bool false) ?_
      exact aI fun X hX _=>fH ⟨⟨rfl,trivial⟩,hX⟩
     ·refine jp ?_
      refine bZ (.bool true) (.bool true) (.bool false) ?_;refine jmm (.bool false) (.bool false) ?_
      exact aI fun X hX _=>fH ⟨⟨rfl,trivial⟩,hX⟩
    ·intro f3 X3 hk9
     obtain ⟨⟨hk3_0,_⟩,hX3⟩:=hk9;simp only [lK,mT,pX,hk3_0];clear hk3_0;obtain ⟨hB0,hB1⟩:=bl2 hX3 hB0 hB1;have hb:=aF hb hX3;go_upto_region 7 with fail;refine jp ?_;refine jm (vI k) ?_;refine jv (vI ((k+1:Nat):Int)) (aV _ _ _ _ (by rfl) (k:Int) 1 ((k+1:Nat):Int) (by rfl) (by rfl) (by omega) (by omega) (by omega)) ?_;refine jm (vI ((k+1:Nat):Int)) ?_;refine bO hb hB0 hB1 fun X4 hX4 hb hB0 hB1=>?_
     go_wp2
     go_roundw
     case rel=>exact ⟨k+1,false,by omega,rfl,rfl,HA2,hB0,hB1,hb⟩
     case measure=>simp [intOf];omega
  ·have hkn:k=nw:=by omega
   go_upto_region 6 with fail;refine jp ?_;refine jmm (vI k) (.slice Aw nw cw) ?_;refine jv (vI nw) (aM G27 _ (by rfl) Aw nw cw (by rfl) _ rfl) ?_;refine dJ (k:Int) (nw:Int) (by omega) ?_;refine bO hb hB0 hB1 fun X1 hX1 hb hB0 hB1=>?_
   rcases b with _|_
   ·have HE:Hid (reE p l ws=1):=by
     show _=_
     unfold reE
     rw [HC.out,if_neg (by decide),if_pos];rw [HWL.out,HLN.out]
     by_cases h9:nw=n
     ·refine .inr fun h8=>?_
      have h7:=HA.out.2 ⟨h9,fun j hj=>h8 j (by omega)⟩
      cases h7
     ·exact .inl h9
    have HR:Hid (reR p l ws=pd0):=if_neg (by rw [HE.out];decide);go_upto_region 10 with fail;refine jp ?_;refine jmm (.bool false) (.bool true) ?_;refine bO hb hB0 hB1 fun X2 hX2 hb hB0 hB1=>?_;go_upto_region 11 with fail;refine jq 1 ?_;refine jn (.agg #[.bool false,.string ⟨#[]⟩,.string ⟨#[]⟩,.slice none 0 0,.slice none 0 0,.bool false,.string ⟨#[]⟩,.string ⟨#[]⟩,vI 1]) ?_;refine bO hb hB0 hB1 fun X3 hX3 hb hB0 hB1=>?_;refine osb 45 4 40 (w.heap.size+1) 45 hB1 [.bool false,.string ⟨#[]⟩,.string ⟨#[]⟩,.slice none 0 0,.slice none 0 0,.bool false,.string ⟨#[]⟩,.string ⟨#[]⟩,vI 1] bQ ?_;intro w9 hR9 hO9 hB9 hs9;have hb9:=hB9 _ _ hb (by omega);clear hO9 hB9
    go_wp2
    refine aK rfl rfl (by rfl) G45 rfl hR9 bQ ⟨_,rfl,by rw [HE.out,HR.out];exact Sw.z _ _ _,hb9⟩
   ·have hnn:nw=n:=(HA.out.1 rfl).1
    have HFW:Hid (∀ j,j<ws.length→fnT (xt ws j)=true):=fun j hj=>(HA.out.1 rfl).2 j (by rw [HWL.out] at hj;omega)
    clear HA
    have HE:Hid (reE p l ws=0):=by
     show _=_
     unfold reE
     rw [HC.out,if_neg (by decide),if_neg]
     rintro (h9|h9)
     ·rw [HWL.out,HLN.out] at h9
      exact h9 hnn
     ·exact h9 HFW.out
    have HR:Hid (reR p l ws=taD p l (reF l ws) 0):=if_pos HE.out
    have hfz:Hid (∀ k,szR (reF l ws k) 1000):=fun k=>uU hs.out (by decide) hws.out k
    go_upto_region 10 with fail;refine jp ?_;refine jmm (.bool true) (.bool false) ?_;refine bO hb hB0 hB1 fun X2 hX2 hb hB0 hB1=>?_;go_upto_region 12 with fail;refine jp ?_;refine jm (.slice none 0 0) ?_;refine bO hb hB0 hB1 fun X3 hX3 hb hB0 hB1=>?_;go_upto_region 13 with fail;refine jp ?_;refine jm (vI 0) ?_;refine bO hb hB0 hB1 fun X4 hX4 hb hB0 hB1=>?_;have hOZ:X4.ownsRow (w.heap.size+2) 23 3 (.slice none 0 0) 0 (fl rc (ptl 0 (reF l ws))):=⟨rfl,.inl ⟨rfl,rfl⟩⟩;clear hk hlt hkn
    go_wp2
    go_loopw [9,10] (fun sv kv wr=>∃ (k c5:Nat) (A5:Option Addr),k≤n∧sv=.slice A5 k c5∧kv=vI k∧Blk wr w.heap.size 26 [.bool p.1,vS p.2.1,vS p.2.2,.slice A n cp]∧Blk wr (w.heap.size+1) 45 zC∧wr.ownsRow (w.heap.size+2) 23 3 (.slice A5 k c5) k (fl rc (ptl k (reF l ws)))∧Below w.heap.size w wr) (fun _ kv _=>n-(intOf kv).toNat)
    case atStart=>exact ⟨0,0,none,by omega,rfl,rfl,hB0,hB1,hOZ,hb⟩
    case round =>
     clear hB0 hB1 hOZ hb;obtain ⟨k,c5,A5,hk,rfl,rfl,hB0,hB1,hOZ,hb⟩:=hrel
     rcases Nat.lt_or_ge k n with hlt|hlt
     ·obtain ⟨b,off,rfl,hbx0,hcx⟩:=gM (HRX.out w (Below.refl _ _)) HLN.out hlt
      rw [HOK.out.ho_tr (by rw [HLN.out];exact hlt)] at hcx;replace hcx:=hcx.below hb hbx0;have hbb:=Nat.lt_of_lt_of_le hbx0 hb.size
      change Cl wr b (off+k * 9) [.bool (rN (ct l k)),vS (rP (ct l k)),vS (rD (ct l k)),.bool (rN (mx l k)),vS (rP (mx l k)),vS (rD (mx l k)),.bool (rN (sr l k)),vS (rP (sr l k)),vS (rD (sr l k))] at hcx
      obtain ⟨bw,ow,rfl,hbw0,hcw⟩:=tE (HWX.out w (Below.refl _ _)) HWL.out (show k<nw by omega);replace hcw:=hcw.below hb hbw0;have hbw:=Nat.lt_of_lt_of_le hbw0 hb.size;have HWT:Hid (xt ws k=tr (trq (xt ws k))):=(jF (fnT_t.1 (HFW.out k (by rw [HWL.out];omega))).2).symm;rw [HWT.out] at hcw;obtain ⟨y,y9⟩:∃ y,trq (xt ws k)=y:=⟨_,rfl⟩;rw [y9] at hcw;have HY:=Lib.hid y9;have hyz:szR y 1000:=dQ y9 (hws.out k) (by decide);clear y9
      change Cl wr bw (ow+k * 3) (zD y) at hcw
      have hkl:k<l.length:=by rw [HLN.out];exact hlt
      have hl1:=hB1.lt;have LB0:szR y 1000:=hyz;have LB1:szR (ct l k) 1000:=hs.out.ct (by decide) k;go_upto_region 14 with fail;refine jp ?_;refine jmm (vI k) (.slice (some ⟨bw,ow,none⟩) nw cw) ?_;refine jv (vI nw) (aM G27 _ (by rfl) (some ⟨bw,ow,none⟩) nw cw (by rfl) _ rfl) ?_;refine dP (k:Int) (nw:Int) (by omega) ?_;refine bO hb hB0 hB1 fun X1 hX1 hb hB0 hB1=>?_;replace hOZ:=aB hOZ hX1;have hcx:=hcx.below hX1 hbb;have hcw:=hcw.below hX1 hbw;replace hbb:=Nat.lt_of_lt_of_le hbb (hX1).size;replace hbw:=Nat.lt_of_lt_of_le hbw (hX1).size;have hl1:=hB1.lt;go_upto_region 16 with fail
      have hbA:(w.heap.size+2)≤X1.heap.size:=by omega
      have hn_hB0:(Value.ownBlock (.slice A5 k c5))≠some w.heap.size:=fun h9=>by have h8:=aQ hOZ _ h9;omega
      have hn_hB1:(Value.ownBlock (.slice A5 k c5))≠some (w.heap.size+1):=fun h9=>by have h8:=aQ hOZ _ h9;omega
      refine yP (⟨(w.heap.size+2),23,3,.slice A5 k c5,k,(fl rc (ptl k (reF l ws))),(zD (reF l ws k))⟩:Ar) 13 [none,none,none,none,none,none,none,none,none,none,none,none,some (Anew (⟨(w.heap.size+2),23,3,.slice A5 k c5,k,(fl rc (ptl k (reF l ws))),(zD (reF l ws k))⟩:Ar) 23),some (Aout (⟨(w.heap.size+2),23,3,.slice A5 k c5,k,(fl rc (ptl k (reF l ws))),(zD (reF l ws k))⟩:Ar))] (by kernel_rfl) (by kernel_rfl) (cG (cG (cG (cG (cG (cG (cG (cG (cG (cG (cG (cG (dU (fun v X Y h hR=>Anew.lasts v X Y h hR) (dU (fun v X Y h hR=>Aout.lasts v X Y h hR) (jK))))))))))))))) ?_;simp only [iB,Nat.reduceAdd];refine am (.slice A5 k c5) ?_;refine am (.slice (some ⟨bw,ow,none⟩) nw cw) ?_;refine am (vI k) ?_;refine ag hOZ hbA (vP bw (ow+k * 3)) (fun X σ hX hF=>bD G27 aD _ _ (by rfl) bw (ow) nw cw k (by omega) (by rfl) (by rfl) rfl X) ?_;refine ag hOZ hbA (.agg #[.bool (rN y),vS (rP y),vS (rD y)]) (fun X σ hX hF=>bP 23 _ (by rfl) bw (ow+k * 3) (by rfl) G23 rfl (zD y) X (Cl.part (hcw.below hX.below (show bw<w.heap.size+2 by omega)) 0 _ (by rfl)) aD) ?_
      refine an (vP w.heap.size 3) ?_;refine ag hOZ hbA (.slice (some ⟨b,off,none⟩) n cp) (fun X σ hX hF=>cA 24 _ (by rfl) w.heap.size 3 (by rfl) _ X ((hX.blk hB0 hn_hB0).cell (j:=3) rfl) (fun X u h=>aT w.heap.size 3 X u h)) ?_;refine am (vI k) ?_;refine ag hOZ hbA (vP b (off+k * 9)) (fun X σ hX hF=>bD G24 bC _ _ (by rfl) b (off) n cp k (by omega) (by rfl) (by rfl) rfl X) ?_;refine an (vP b (off+k * 9)) ?_;refine ag hOZ hbA (.agg #[.bool (rN (ct l k)),vS (rP (ct l k)),vS (rD (ct l k))]) (fun X σ hX hF=>bP 23 _ (by rfl) b (off+k * 9) (by rfl) G23 rfl (zD (ct l k)) X (Cl.part (hcx.below hX.below (show b<w.heap.size+2 by omega)) 0 _ (by rfl)) aD) ?_;refine ac hOZ hbA (f:=47) (args:=[.agg #[.bool (rN y),vS (rP y),vS (rD y)],.agg #[.bool (rN (ct l k)),vS (rP (ct l k)),vS (rD (ct l k))]]) (.agg #[.bool (rN (reF l ws k)),vS (rP (reF l ws k)),vS (rD (reF l ws k))]) (fun X σ hX hF=>(qVe (rN y) (rP y) (rD y) (rN (ct l k)) (rP (ct l k)) (rD (ct l k)) (aZ y) (aZ (ct l k)) X (tzR LB0 (by omega)) (tzR LB1 (by omega))).mono fun e X' ⟨h1,h2⟩=>⟨by rw [h1,← HY.out] <;> rfl,h2⟩) ?_;refine ab hOZ 23 (fun X=>by unfold execOp;go_simp) ?_
      intro v59;refine aa hOZ hbA 23 12 v59 zE G27 fF rfl (show 0<3 by decide) (by rfl) (al3 rfl rfl rfl) (show k+1≤maxLen by unfold maxLen;omega) (show (k+1) * 40≤140737488355328 by omega) ?_;intro v60;refine am (v60) ?_;refine az hOZ hbA ?_;intro X2 σ hX hF;have hO60:X2.ownsRow (w.heap.size+2) 23 3 v60 (k+1) ((fl rc (ptl k (reF l ws)))++(zD (reF l ws k))):=(hF _ _ zE).2;have hB0:=hX.blk hB0 hn_hB0;have hB1:=hX.blk hB1 hn_hB1;have hb:=hb.trans (hX.below.mono (show w.heap.size≤(w.heap.size+2) by omega));clear hF hn_hB0 hn_hB1;obtain ⟨A7,c7,rfl,_,_⟩:=(Rd.of_own hO60).form;clear hOZ
      have hOZ:X2.ownsRow (w.heap.size+2) 23 3 (.slice A7 (k+1) c7) (k+1) (fl rc (ptl (k+1) (reF l ws))):=by rw [iU];exact hO60
      clear hO60 hX;go_upto_region 15 with fail;refine jp ?_;refine jm (vI k) ?_;refine jv (vI ((k+1:Nat):Int)) (aV _ _ _ _ (by rfl) (k:Int) 1 ((k+1:Nat):Int) (by rfl) (by rfl) (by omega) (by omega) (by omega)) ?_;refine jm (vI ((k+1:Nat):Int)) ?_;refine bO hb hB0 hB1 fun X3 hX3 hb hB0 hB1=>?_;replace hOZ:=aB hOZ hX3
      go_wp2
      go_roundw
      case rel=>exact ⟨k+1,c7,A7,by omega,rfl,rfl,hB0,hB1,hOZ,hb⟩
      case measure=>simp [intOf];omega
     ·have hkn:k=n:=by omega
      have hln2:l.length=k:=HLN.out.trans hkn.symm;have HL2:=Lib.hid hln2;clear hln2;have hl1:=hB1.lt;go_upto_region 14 with fail;refine jp ?_;refine jmm (vI k) (.slice Aw nw cw) ?_;refine jv (vI nw) (aM G27 _ (by rfl) Aw nw cw (by rfl) _ rfl) ?_;refine dJ (k:Int) (nw:Int) (by omega) ?_;refine bO hb hB0 hB1 fun X1 hX1 hb hB0 hB1=>?_;replace hOZ:=aB hOZ hX1;have hl1:=hB1.lt;go_upto_region 17 with fail;refine aN [none,none,none,some (Tk X1.heap.size p (stc l (fun j=>ct l j-(reF l ws) j)) (.slice A5 k c5) (0:Rat)),some (Tk9 X1.heap.size p (stc l (fun j=>ct l j-(reF l ws) j)) (.slice A5 k c5) (0:Rat))] (by kernel_rfl) (by kernel_rfl) (by kernel_rfl) rfl (aA (aA (aA (aE (Tk.lasts _ _ _ _ _) (aE (Tk9.lasts _ _ _ _ _) (aG)))))) ?_;simp only [its,List.dropLast,Nat.zero_add,Nat.reduceAdd];refine aJ hB0 ?_;refine jm (.slice A5 k c5) ?_;refine jc (rt (rN (0:Rat)) (rP (0:Rat)) (rD (0:Rat))) (fun X hX hF=>uS X) ?_;refine jk (fun X hX hF=>(vXo p _ (.slice A5 k c5) l (ptl k (reF l ws)) (0:Rat) X (HV.out X (Since.next hb hX)) (mR (aB hOZ hX) (cF _ _)) hs HOK hn8 ((cF _ _).trans HL2.out.symm) (fun j hj=>by rw [jH _ (by rw [← HL2.out];exact hj)];exact (hfz.out j).mono (by decide))).mono fun e X' ⟨u,h1,h2,h3⟩=>⟨u,h1,by rw [uL HL2.out] at h2;exact h2.low hX.size,h3⟩) ?_;intro v64
      refine bH (by rfl) (fun X hX hF=>by obtain ⟨u9,e9,h9⟩:=(hF _ _ zE rfl);subst e9;exact ⟨_,X,by unfold execOp;go_simp,⟨u9,rfl,h9⟩,Below.refl _ _⟩) ?_;intro v65;simp only [pX];refine aI ?_;intro X2 hX2 hF;have hv64:=hF _ _ (zF zE);have hv65:=hF _ _ zE;replace hOZ:=aB hOZ hX2;obtain ⟨hB0,hB1⟩:=bl2 hX2 hB0 hB1;have hb:=aF hb hX2;clear hF hX2;obtain ⟨u9,rfl,hOu⟩:=hv65;clear hv64
      unfold Oh at hOu
      rw [cX,HL2.out] at hOu;replace hOu:=bG hOu (show w.heap.size+2≤X1.heap.size by omega);replace hOZ:=bG hOZ (show w.heap.size+2≤(w.heap.size+2) by omega);obtain ⟨A6,c6,rfl,_,_⟩:=(Rd.of_own hOu).form;refine aU rfl 45 (.tmp 4) (.tmp 65) rfl (w.heap.size+1) 45 _ hB1 rfl [.bool p.1,vS p.2.1,vS p.2.2,.slice A6 k c6,.slice A5 k c5,.bool (rN (0:Rat)),vS (rP (0:Rat)),vS (rD (0:Rat)),vI 0] rfl (by rfl) (al9 rfl rfl rfl rfl rfl rfl rfl rfl rfl) bQ ?_;intro w9 hR9 hG9;have hb:=aR hG9 hb hb.size (by omega);have hOu:=aO hOu hG9 (fun g h h9=>bK hOu hB1 rfl (h9.trans h.symm));have hOZ:=aO hOZ hG9 (fun g h h9=>bK hOZ hB1 rfl (h9.trans h.symm))
      go_wp2
      refine aK rfl rfl (by rfl) G45 rfl hR9 bQ ⟨_,rfl,by
       rw [HE.out,HR.out];refine ⟨_,_,rfl,?_,?_⟩
       ·show World.ownsRow _ _ _ _ _ (stc l _).length (fl hoc (stc l _))
        rw [cX,HL2.out];exact bG hOu (by omega)
       ·show World.ownsRow _ _ _ _ _ (ptl l.length _).length (fl rc (ptl l.length _))
        rw [cF,HL2.out]
        exact bG hOZ (by omega),hb⟩
theorem rrlC (p:Tr) (v vw:Value) (l:List Ho) (ws:List Tr) (w:World) (hv:Hl l v w) (hs:Hid (Szp l 1000)) (hp:tz p.2.1 p.2.2 1000) (hw:Rl ws vw w) (hws:Hid (∀ k,tz (xt ws k).2.1 (xt ws k).2.2 1000)) (hn:l.length≤8∨20<l.length):Calls Tryz.prog 14 #[.agg #[.bool p.1,vS p.2.1,vS p.2.2,v],vw] w fun e w'=>∃ u,e=.returned u∧Sw w.heap.size (reR p l ws) (reE p l ws) u w'∧Since w w':=by
 by_cases h0:chE p l=0
 ·exact rrl2 p v vw l ws w hv hs hp hw hws (mA hn h0) h0
 ·exact rrl0 p v vw l ws w hv hs hp hw hws h0
end Go.Proofs.YtnfpenhldlfafaaGreatDoor

/- The reference of layer 41: none, fine, less, total. -/
import Derived.Test.YtnfpenhldlfafaaGreatDoorHa41
import Derived.Test.YtnfpenhldlfafaaGreatDoorR5b
import Derived.Test.YtnfpenhldlfafaaGreatDoorL5a
set_option linter.unusedSimpArgs false
set_option linter.unusedVariables false
set_option maxRecDepth 100000
set_option maxHeartbeats 1600000
namespace Go.Proofs.YtnfpenhldlfafaaGreatDoor
open Go.RowKit
theorem yB (w:World):Calls Tryz.prog 49 #[] w fun e w'=>e=.returned (.agg #[.bool false,.string ⟨#[]⟩,.string ⟨#[]⟩])∧Since w w':=by
 go_enter Tryz.func49,Tryz.ntmps49
 go_upto_region 1 with fail;obtain ⟨W0,hW0,hB0,hb⟩:=bW w 23 zA;rw [← hW0];clear hW0;refine jq 1 ?_;refine jn (rz) ?_;refine bJ hb hB0 fun X1 hX1 hb hB0=>?_;refine osb 23 0 1 w.heap.size 23 hB0 zA aD ?_;intro w9 hR9 hO9 hB9 hs9;have hb9:=hB9 _ _ hb (by omega);clear hO9 hB9
 go_wp2
 refine aK rfl rfl (by rfl) G23 rfl hR9 aD ⟨rfl,hb9⟩
theorem uS (w:World):Calls Tryz.prog 49 #[] w fun e w'=>e=.returned (rbv (0:Rat))∧Since w w':=(yB w).mono fun e X' ⟨h1,h2⟩=>⟨h1.trans rfl,h2⟩
theorem yC (p q:List UInt8) (w:World) (h:tz p q 1000000):Calls Tryz.prog 42 #[.agg #[.bool false,vS p,vS q]] w fun e w'=>e=.returned (.bool (fnT (false,p,q)))∧Since w w':=by
 obtain ⟨vb,vb9⟩:∃ z,vd false p q=z:=⟨_,rfl⟩;have HV:=Lib.hid vb9;clear vb9
 have HF:Hid (fnT (false,p,q)=vb):=by
  show _=_
  unfold fnT
  show (true && vd false p q)=_
  rw [HV.out,Bool.true_and]
 go_enter Tryz.func42,Tryz.ntmps42
 go_upto_region 1 with fail;obtain ⟨W0,hW0,hB0,hb⟩:=bW w 23 [.bool false,vS p,vS q];rw [← hW0];clear hW0;refine jp ?_;refine jnf hB0 0 aS ?_;refine jmm (.bool true) (.bool true) ?_;refine aC hB0 ?_;refine jc (.bool vb) (fun X hX hF=>mo (uQ false p q X (Nat.le_trans h.1 (by decide)) (Nat.le_trans h.2 (by decide))) (by rw [HV.out])) ?_;refine jmm (.bool vb) (.bool vb) ?_;refine bJ hb hB0 fun X1 hX1 hb hB0=>?_
 go_wp2
 go_ret
 exact ⟨by rw [HF.out];rfl,hb⟩
theorem qQj (p q:List UInt8) (w:World) (h:tz p q 1000000):Calls Tryz.prog 42 #[.agg #[.bool true,vS p,vS q]] w fun e w'=>e=.returned (.bool (fnT (true,p,q)))∧Since w w':=by
 obtain ⟨vb,vb9⟩:∃ z,vd true p q=z:=⟨_,rfl⟩;have HV:=Lib.hid vb9;clear vb9
 have HF:Hid (fnT (true,p,q)=false):=by
  show _=_
  unfold fnT
  rfl
 go_enter Tryz.func42,Tryz.ntmps42
 go_upto_region 1 with fail;obtain ⟨W0,hW0,hB0,hb⟩:=bW w 23 [.bool true,vS p,vS q];rw [← hW0];clear hW0;refine jp ?_;refine jnf hB0 0 aS ?_;refine jmm (.bool false) (.bool false) ?_;refine jss ?_;refine jmm (.bool false) (.bool false) ?_;refine bJ hb hB0 fun X1 hX1 hb hB0=>?_
 go_wp2
 go_ret
 exact ⟨by rw [HF.out];rfl,hb⟩
theorem rR (t:Tr) (w:World) (h:tz t.2.1 t.2.2 1000000):Calls Tryz.prog 42 #[.agg #[.bool t.1,vS t.2.1,vS t.2.2]] w fun e w'=>e=.returned (.bool (fnT t))∧Since w w':=by
 obtain ⟨n,p,q⟩:=t
 cases n with
 | false=>exact yC p q w h
 | true=>exact qQj p q w h
theorem qQf (n:Bool) (p q:List UInt8) (n':Bool) (p' q':List UInt8) {x:Rat} (hx:rq n p q=x) {y:Rat} (hy:rq n' p' q'=y) (w:World) (h:tz p q 1000000) (h':tz p' q' 1000000) (hc:cC x y<0):Calls Tryz.prog 61 #[.agg #[.bool n,vS p,vS q],.agg #[.bool n',vS p',vS q']] w fun e w'=>e=.returned (.bool true)∧Since w w':=by
 go_enter Tryz.func61,Tryz.ntmps61
 go_upto_region 1 with fail;obtain ⟨W0,hW0,hB0,hB1,hb⟩:=cH w 23 23 [.bool n,vS p,vS q] [.bool n',vS p',vS q'];rw [← hW0];clear hW0;refine jp ?_;refine aC hB0 ?_;refine aC hB1 ?_;refine jc (vI (cC x y)) (fun X hX hF=>uD n p q n' p' q' hx hy X h h') ?_;refine dP (cC x y) 0 (by omega) ?_;refine jm (.bool true) ?_;refine bO hb hB0 hB1 fun X1 hX1 hb hB0 hB1=>?_
 go_wp2
 go_ret
 exact ⟨rfl,hb⟩
theorem qQg (n:Bool) (p q:List UInt8) (n':Bool) (p' q':List UInt8) {x:Rat} (hx:rq n p q=x) {y:Rat} (hy:rq n' p' q'=y) (w:World) (h:tz p q 1000000) (h':tz p' q' 1000000) (hc:0≤cC x y):Calls Tryz.prog 61 #[.agg #[.bool n,vS p,vS q],.agg #[.bool n',vS p',vS q']] w fun e w'=>e=.returned (.bool false)∧Since w w':=by
 go_enter Tryz.func61,Tryz.ntmps61
 go_upto_region 1 with fail;obtain ⟨W0,hW0,hB0,hB1,hb⟩:=cH w 23 23 [.bool n,vS p,vS q] [.bool n',vS p',vS q'];rw [← hW0];clear hW0;refine jp ?_;refine aC hB0 ?_;refine aC hB1 ?_;refine jc (vI (cC x y)) (fun X hX hF=>uD n p q n' p' q' hx hy X h h') ?_;refine dJ (cC x y) 0 (by omega) ?_;refine jm (.bool false) ?_;refine bO hb hB0 hB1 fun X1 hX1 hb hB0 hB1=>?_
 go_wp2
 go_ret
 exact ⟨rfl,hb⟩
theorem qQd (p:Tr) (v:Value) (l:List Ho) (w:World) (hv:Hl l v w) (hs:Hid (Szp l 40000)) (hn:l.length≤20):Calls Tryz.prog 39 #[.agg #[.bool p.1,vS p.2.1,vS p.2.2,v]] w fun e w'=>e=.returned (rbv (thr l))∧Since w w':=by
 obtain ⟨A,n,cp,rfl,hln,hn1,hr⟩:=hv.at;clear hv
 have HRX:Hid (∀ X,Since w X→Rd X 9 (.slice A n cp) n (fl hoc l)):=fun X h=>hr.below h
 have HLN:=Lib.hid hln
 have hn9:n≤20:=by omega
 clear hr
 go_enter Tryz.func39,Tryz.ntmps39
 go_upto_region 1 with fail;obtain ⟨W0,hW0,hB0,hB1,hb⟩:=cH w 26 23 [.bool p.1,vS p.2.1,vS p.2.2,.slice A n cp] zA;rw [← hW0];clear hW0;refine jq 1 ?_;refine jc (rt (rN (0:Rat)) (rP (0:Rat)) (rD (0:Rat))) (fun X hX hF=>uS X) ?_;refine bO hb hB0 hB1 fun X1 hX1 hb hB0 hB1=>?_;go_upto_region 2 with (refine osm 23 3 5 (zD (0:Rat)) aD fun Y1 hD3 hS9=>?_);have hgs3:=hb.size;have:=lt2 hB0 hB1;obtain ⟨hB0,hB1⟩:=bl2 hS9 hB0 hB1;have hb:=aF hb hS9;clear hS9;generalize X1.heap.size=g3 at *;refine jp ?_;refine jm (vI 0) ?_;refine aX hb hB0 hB1 hD3 fun X2 hX2 hb hB0 hB1 hD3=>?_
 go_wp2
 go_loopw [4] (fun kv wr=>∃ (k:Nat) (s:Rat),k≤n∧kv=vI k∧Hid (s=sm k (ct l))∧Blk wr g3 23 (zD s)∧Blk wr w.heap.size 26 [.bool p.1,vS p.2.1,vS p.2.2,.slice A n cp]∧Blk wr (w.heap.size+1) 23 zA∧Below w.heap.size w wr) (fun kv _=>n-(intOf kv).toNat)
 case atStart=>exact ⟨0,0,by omega,rfl,rfl,hD3,hB0,hB1,hb⟩
 case round =>
  clear hB0 hB1 hD3 hb;obtain ⟨k,s,hk,rfl,HS,hD3,hB0,hB1,hb⟩:=hrel
  rcases Nat.lt_or_ge k n with hlt|hlt
  ·obtain ⟨b,off,rfl,hbb,hcx⟩:=gM (HRX.out _ hb) HLN.out hlt
   obtain ⟨x,x9⟩:∃ x,x=ho l k:=⟨_,rfl⟩;have HX:=Lib.hid x9;clear x9;rw [← HX.out] at hcx
   change Cl wr b (off+k * 9) [.bool x.c.1,vS x.c.2.1,vS x.c.2.2,.bool x.m.1,vS x.m.2.1,vS x.m.2.2,.bool x.s.1,vS x.s.2.1,vS x.s.2.2] at hcx
   have hxz:tz x.c.2.1 x.c.2.2 40000:=by rw [HX.out];exact hs.out.c k
   have LB0:szR s 800021:=by rw [HS.out];exact (fU (B:=40000) fun j _=>hs.out.ct (by decide) j).mono (by have:=Nat.mul_le_mul_right 40001 hk;omega)
   go_upto_region 3 with fail;refine jp ?_;refine jm (vI k) ?_;refine jnf hB0 3 aT ?_;refine jv (vI n) (aM G24 _ (by rfl) (some ⟨b,off,none⟩) n cp (by rfl) _ rfl) ?_;refine dP (k:Int) (n:Int) (by omega) ?_;refine aX hb hB0 hB1 hD3 fun X1 hX1 hb hB0 hB1 hD3=>?_;have hcx:=hcx.below hX1 hbb;replace hbb:=Nat.lt_of_lt_of_le hbb (hX1).size;go_upto_region 5 with fail;refine aN [] (by kernel_rfl) (by kernel_rfl) (by kernel_rfl) rfl (aG) ?_;simp only [its,List.dropLast,Nat.zero_add,Nat.reduceAdd];refine aC hD3 ?_;refine jnf hB0 3 aT ?_;refine jm (vI k) ?_;refine jv (vP b (off+k * 9)) (bD G24 bC _ _ (by rfl) b (off) n cp k (by omega) (by rfl) (by rfl) rfl) ?_;refine jn (vP b (off+k * 9)) ?_;refine jg (.agg #[.bool x.c.1,st x.c.2.1,st x.c.2.2]) (fun X hX hF=>bP 23 _ (by rfl) b (off+k * 9) (by rfl) G23 rfl [.bool x.c.1,vS x.c.2.1,vS x.c.2.2] X (Cl.part (hcx.below hX hbb) 0 _ (by rfl)) aD) ?_;refine jc (rt (rN (s+(trq x.c))) (rP (s+(trq x.c))) (rD (s+(trq x.c)))) (fun X hX hF=>uJ (rN s) (rP s) (rD s) x.c.1 x.c.2.1 x.c.2.2 (aZ s) rfl X (tzR LB0 (by omega)) (hxz.mono (by omega))) ?_;refine aX hb hB0 hB1 hD3 fun X2 hX2 hb hB0 hB1 hD3=>?_;have hcx:=hcx.below hX2 hbb;replace hbb:=Nat.lt_of_lt_of_le hbb (hX2).size;obtain ⟨s',hs'⟩:∃ s',s'=s+trq x.c:=⟨_,rfl⟩
   have HS2:Hid (s'=sm (k+1) (ct l)):=by
    show _=_
    rw [cK,← HS.out,hs',HX.out]
    rfl
   rw [← hs'];clear hs';refine osb 23 3 20 g3 23 hD3 (zD s') aD ?_;intro w5s hR9 hO9 hB9 hs9;have hb:=hB9 _ _ hb (by omega);obtain ⟨hB0,hB1⟩:=og2 hO9 hB0 hB1;have hD3:=hR9;clear hO9 hB9 hR9 hs9;refine wpList_nil ?_;go_upto_region 4 with fail;refine jp ?_;refine jm (vI k) ?_;refine jv (vI ((k+1:Nat):Int)) (aV _ _ _ _ (by rfl) (k:Int) 1 ((k+1:Nat):Int) (by rfl) (by rfl) (by omega) (by omega) (by omega)) ?_;refine jm (vI ((k+1:Nat):Int)) ?_;refine aX hb hB0 hB1 hD3 fun X3 hX3 hb hB0 hB1 hD3=>?_
   go_wp2
   go_roundw
   case rel=>exact ⟨k+1,s',by omega,rfl,HS2,hD3,hB0,hB1,hb⟩
   case measure=>simp [intOf];omega
  ·have HT:Hid (s=thr l):=by
    show _=_
    unfold thr
    rw [HLN.out,show n=k by omega];exact HS.out
   go_upto_region 3 with fail;refine jp ?_;refine jm (vI k) ?_;refine jnf hB0 3 aT ?_;refine jv (vI n) (aM G24 _ (by rfl) A n cp (by rfl) _ rfl) ?_;refine dJ (k:Int) (n:Int) (by omega) ?_;refine aX hb hB0 hB1 hD3 fun X1 hX1 hb hB0 hB1 hD3=>?_;go_upto_region 6 with fail;refine jq 1 ?_;refine aC hD3 ?_;refine aX hb hB0 hB1 hD3 fun X2 hX2 hb hB0 hB1 hD3=>?_;refine osb 23 2 21 (w.heap.size+1) 23 hB1 (zD s) aD ?_;intro w9 hR9 hO9 hB9 hs9;have hb9:=hB9 _ _ hb (by omega);clear hO9 hB9
   go_wp2
   refine aK rfl rfl (by rfl) G23 rfl hR9 aD ⟨by rw [← HT.out],hb9⟩
theorem rch0 (p:Tr) (v:Value) (l:List Ho) (w:World) (hv:Hl l v w) (hs:Hid (Szp l 40000)) (hp:tz p.2.1 p.2.2 1000000) (h:20<l.length):Calls Tryz.prog 22 #[.agg #[.bool p.1,vS p.2.1,vS p.2.2,v]] w fun e w'=>e=.returned (vI (chE p l))∧Since w w':=by
 obtain ⟨A,n,cp,rfl,hln,hn1,hr⟩:=hv.at;clear hv
 have HRX:Hid (∀ X,Since w X→Rd X 9 (.slice A n cp) n (fl hoc l)):=fun X h=>hr.below h
 have HLN:=Lib.hid hln;rw [hln] at h;clear hr
 go_enter Tryz.func22,Tryz.ntmps22
 go_upto_region 1 with fail;obtain ⟨W0,hW0,hB0,hb⟩:=bW w 26 [.bool p.1,vS p.2.1,vS p.2.2,.slice A n cp];rw [← hW0];clear hW0;refine jp ?_;refine jnf hB0 3 aT ?_;refine jv (vI n) (aM G24 _ (by rfl) A n cp (by rfl) _ rfl) ?_;refine nV (n:Int) 20 (by omega) ?_;refine bJ hb hB0 fun X1 hX1 hb hB0=>?_;go_upto_region 2 with fail;refine jp ?_;refine jm (vI 2) ?_;refine bJ hb hB0 fun X2 hX2 hb hB0=>?_;have HC:Hid (chE p l=2):=xL (by rw [HLN.out];exact h)
 go_wp2
 go_ret
 exact ⟨by rw [HC.out];rfl,hb⟩
theorem rchM (p:Tr) (v:Value) (l:List Ho) (w:World) (hv:Hl l v w) (hs:Hid (Szp l 40000)) (hp:tz p.2.1 p.2.2 1000000) (h:l.length≤20):Calls Tryz.prog 22 #[.agg #[.bool p.1,vS p.2.1,vS p.2.2,v]] w fun e w'=>e=.returned (vI (chE p l))∧Since w w':=by
 obtain ⟨A,n,cp,rfl,hln,hn1,hr⟩:=hv.at;clear hv
 have HRX:Hid (∀ X,Since w X→Rd X 9 (.slice A n cp) n (fl hoc l)):=fun X h=>hr.below h
 have HLN:=Lib.hid hln
 have h20:n≤20:=by omega
 clear hr
 go_enter Tryz.func22,Tryz.ntmps22
 go_upto_region 1 with fail;obtain ⟨W0,hW0,hB0,hb⟩:=bW w 26 [.bool p.1,vS p.2.1,vS p.2.2,.slice A n cp];rw [← hW0];clear hW0;refine jp ?_;refine jnf hB0 3 aT ?_;refine jv (vI n) (aM G24 _ (by rfl) A n cp (by rfl) _ rfl) ?_;refine nX (n:Int) 20 (by omega) ?_;refine bJ hb hB0 fun X1 hX1 hb hB0=>?_;obtain ⟨pb,pb9⟩:∃ z,fnT p=z:=⟨_,rfl⟩;have HP:=Lib.hid pb9;clear pb9;go_upto_region 3 with fail;refine jp ?_;refine jn (vP w.heap.size 0) ?_;refine jg (.agg #[.bool p.1,st p.2.1,st p.2.2]) (fun X hX hF=>aP 23 _ (by rfl) w.heap.size 0 [.bool p.1,vS p.2.1,vS p.2.2] (by rfl) G23 rfl X (hB0.bel hX) (by rfl) aD) ?_;refine jc (.bool pb) (fun X hX hF=>mo (rR p X hp) (by rw [HP.out])) ?_;refine jm (.bool pb) ?_;refine bJ hb hB0 fun X2 hX2 hb hB0=>?_;go_upto_region 4 with fail;refine jp ?_;refine jm (vI 0) ?_;refine bJ hb hB0 fun X3 hX3 hb hB0=>?_
 go_wp2
 go_loopw [3,4] (fun av kv wr=>∃ (k:Nat) (a:Bool),k≤n∧av=.bool a∧kv=vI k∧Hid (a=true↔fnT p=true∧∀ j,j<k→fnH (ho l j)=true)∧Blk wr w.heap.size 26 [.bool p.1,vS p.2.1,vS p.2.2,.slice A n cp]∧Below w.heap.size w wr) (fun _ kv _=>n-(intOf kv).toNat)
 case atStart=>exact ⟨0,pb,by omega,rfl,rfl,⟨fun h9=>⟨by rw [HP.out,h9],fun j hj=>by omega⟩,fun h9=>by rw [← HP.out,h9.1]⟩,hB0,hb⟩
 case round =>
  clear hB0 hb;obtain ⟨k,a,hk,rfl,rfl,HA,hB0,hb⟩:=hrel
  rcases Nat.lt_or_ge k n with hlt|hlt
  ·obtain ⟨b,off,rfl,hbb,hcx⟩:=gM (HRX.out _ hb) HLN.out hlt
   obtain ⟨x,x9⟩:∃ x,x=ho l k:=⟨_,rfl⟩;have HX:=Lib.hid x9;clear x9;rw [← HX.out] at hcx
   change Cl wr b (off+k * 9) [.bool x.c.1,vS x.c.2.1,vS x.c.2.2,.bool x.m.1,vS x.m.2.1,vS x.m.2.2,.bool x.s.1,vS x.s.2.1,vS x.s.2.2] at hcx
   have hxc:tz x.c.2.1 x.c.2.2 40000:=by rw [HX.out];exact hs.out.c k
   have hxm:tz x.m.2.1 x.m.2.2 40000:=by rw [HX.out];exact hs.out.m k
   have hxs:tz x.s.2.1 x.s.2.2 40000:=by rw [HX.out];exact hs.out.s k
   obtain ⟨u1,u19⟩:∃ z,fnT x.c=z:=⟨_,rfl⟩;have HU1:=Lib.hid u19;clear u19;obtain ⟨u2,u29⟩:∃ z,fnT x.m=z:=⟨_,rfl⟩;have HU2:=Lib.hid u29;clear u29;obtain ⟨u3,u39⟩:∃ z,fnT x.s=z:=⟨_,rfl⟩;have HU3:=Lib.hid u39;clear u39
   have HQ:Hid (fnH (ho l k)=(u1 && u2 && u3)):=by
    show _=_
    rw [← HX.out,← HU1.out,← HU2.out,← HU3.out]
    rfl
   go_upto_region 5 with fail;refine jp ?_;refine jm (vI k) ?_;refine jnf hB0 3 aT ?_;refine jv (vI n) (aM G24 _ (by rfl) (some ⟨b,off,none⟩) n cp (by rfl) _ rfl) ?_;refine dP (k:Int) (n:Int) (by omega) ?_;refine bJ hb hB0 fun X1 hX1 hb hB0=>?_;have hcx:=hcx.below hX1 hbb;replace hbb:=Nat.lt_of_lt_of_le hbb (hX1).size;go_upto_region 7 with fail;refine jq 5 ?_;refine jnf hB0 3 aT ?_;refine jm (vI k) ?_;refine jv (vP b (off+k * 9)) (bD G24 bC _ _ (by rfl) b (off) n cp k (by omega) (by rfl) (by rfl) rfl) ?_;refine jg (.agg #[.bool x.c.1,st x.c.2.1,st x.c.2.2,.bool x.m.1,st x.m.2.1,st x.m.2.2,.bool x.s.1,st x.s.2.1,st x.s.2.2]) (fun X hX hF=>bP 66 _ (by rfl) b (off+k * 9) (by rfl) G66 rfl [.bool x.c.1,vS x.c.2.1,vS x.c.2.2,.bool x.m.1,vS x.m.2.1,vS x.m.2.2,.bool x.s.1,vS x.s.2.1,vS x.s.2.2] X (Cl.part (hcx.below hX hbb) 0 _ (by rfl)) bC) ?_;refine bJ hb hB0 fun X2 hX2 hb hB0=>?_;have hcx:=hcx.below hX2 hbb;replace hbb:=Nat.lt_of_lt_of_le hbb (hX2).size;go_upto_region 8 with (refine osm 66 5 30 [.bool x.c.1,vS x.c.2.1,vS x.c.2.2,.bool x.m.1,vS x.m.2.1,vS x.m.2.2,.bool x.s.1,vS x.s.2.1,vS x.s.2.2] bC fun Y2 hD5 hS9=>?_)
   have hgs5:=hb.size;have hlt5x0:=hB0.lt;have hcx:=hcx.below hS9 hbb;replace hbb:=Nat.lt_of_lt_of_le hbb (hS9).size;have hB0:=hB0.bel hS9;have hb:=aF hb hS9;clear hS9;generalize X2.heap.size=g5 at *;refine jp ?_;refine jn (vP g5 0) ?_;refine jg (.agg #[.bool x.c.1,st x.c.2.1,st x.c.2.2]) (fun X hX hF=>aP 23 _ (by rfl) g5 0 [.bool x.c.1,vS x.c.2.1,vS x.c.2.2] (by rfl) G23 rfl X (hD5.bel hX) (by rfl) aD) ?_;refine jc (.bool u1) (fun X hX hF=>mo (rR x.c X (hxc.mono (by decide))) (by rw [HU1.out])) ?_;refine jm (.bool u1) ?_;refine bO hb hB0 hD5 fun X3 hX3 hb hB0 hD5=>?_;go_upto_region 9 with fail;refine jp ?_;refine jn (vP g5 3) ?_;refine jg (.agg #[.bool x.m.1,st x.m.2.1,st x.m.2.2]) (fun X hX hF=>aP 23 _ (by rfl) g5 3 [.bool x.m.1,vS x.m.2.1,vS x.m.2.2] (by rfl) G23 rfl X (hD5.bel hX) (by rfl) aD) ?_;refine jc (.bool u2) (fun X hX hF=>mo (rR x.m X (hxm.mono (by decide))) (by rw [HU2.out])) ?_;refine jm (.bool u2) ?_;refine bO hb hB0 hD5 fun X4 hX4 hb hB0 hD5=>?_;go_upto_region 10 with fail;refine jp ?_;refine jn (vP g5 6) ?_;refine jg (.agg #[.bool x.s.1,st x.s.2.1,st x.s.2.2]) (fun X hX hF=>aP 23 _ (by rfl) g5 6 [.bool x.s.1,vS x.s.2.1,vS x.s.2.2] (by rfl) G23 rfl X (hD5.bel hX) (by rfl) aD) ?_
   refine jc (.bool u3) (fun X hX hF=>mo (rR x.s X (hxs.mono (by decide))) (by rw [HU3.out])) ?_;refine jm (.bool u3) ?_;refine bO hb hB0 hD5 fun X5 hX5 hb hB0 hD5=>?_
   by_cases hg:a=true∧u1=true∧u2=true∧u3=true
   ·obtain ⟨rfl,rfl,rfl,rfl⟩:=hg
    have HA2:Hid (true=true↔fnT p=true∧∀ j,j<k+1→fnH (ho l j)=true):=⟨fun _=>⟨(HA.out.1 rfl).1,fun j hj=>by
     rcases Nat.lt_or_ge j k with h7|h7
     ·exact (HA.out.1 rfl).2 j h7
     ·rw [show j=k by omega]
      exact HQ.out⟩,fun _=>rfl⟩
    go_upto_region 11 with fail;refine jp ?_;refine bZ (.bool true) (.bool true) (.bool true) ?_;refine bZ (.bool true) (.bool true) (.bool true) ?_;refine bZ (.bool true) (.bool true) (.bool true) ?_;refine jmm (.bool true) (.bool true) ?_;refine bO hb hB0 hD5 fun X6 hX6 hb hB0 hD5=>?_;go_upto_region 6 with fail;refine jp ?_;refine jm (vI k) ?_;refine jv (vI ((k+1:Nat):Int)) (aV _ _ _ _ (by rfl) (k:Int) 1 ((k+1:Nat):Int) (by rfl) (by rfl) (by omega) (by omega) (by omega)) ?_;refine jm (vI ((k+1:Nat):Int)) ?_;refine bO hb hB0 hD5 fun X7 hX7 hb hB0 hD5=>?_
    go_wp2
    go_roundw
    case rel=>exact ⟨k+1,true,by omega,rfl,rfl,HA2,hB0,hb⟩
    case measure=>simp [intOf];omega
   ·have HA2:Hid (false=true↔fnT p=true∧∀ j,j<k+1→fnH (ho l j)=true):=⟨fun h8=>(by cases h8),fun h8=>by
     exfalso
     have h7:=HA.out.2 ⟨h8.1,fun j hj=>h8.2 j (by omega)⟩;have h6:=h8.2 k (by omega);rw [HQ.out,Bool.and_eq_true,Bool.and_eq_true] at h6
     exact hg ⟨h7,h6.1.1,h6.1.2,h6.2⟩⟩
    go_upto_region 11 with fail;refine zY [40,41,42,43,44,45,46,47,48,49,3] (fun f9 X=>(f9 3=.bool false∧True)∧Since X5 X) ?_ ?_
    ·rcases a with _|_
     rotate_left
     rcases u1 with _|_
     rotate_left
     rcases u2 with _|_
     rotate_left
     rcases u3 with _|_
     rotate_left
     exact absurd ⟨rfl,rfl,rfl,rfl⟩ hg
     ·refine jp ?_
      refine jmm (.bool false) (.bool false) ?_;refine js ?_;refine jmm (.bool false) (.bool false) ?_;refine js ?_;refine jmm (.bool false) (.bool false) ?_;refine js ?_;refine jmm (.bool false) (.bool false) ?_
      exact aI fun X hX _=>fH ⟨⟨rfl,trivial⟩,hX⟩
     ·refine jp ?_
      refine bZ (.bool true) (.bool true) (.bool false) ?_;refine jmm (.bool false) (.bool false) ?_;refine js ?_;refine jmm (.bool false) (.bool false) ?_;refine js ?_;refine jmm (.bool false) (.bool false) ?_
      exact aI fun X hX _=>fH ⟨⟨rfl,trivial⟩,hX⟩
     ·refine jp ?_
      refine bZ (.bool true) (.bool true) (.bool true) ?_;refine bZ (.bool true) (.bool true) (.bool false) ?_;refine jmm (.bool false) (.bool false) ?_;refine js ?_;refine jmm (.bool false) (.bool false) ?_
      exact aI fun X hX _=>fH ⟨⟨rfl,trivial⟩,hX⟩
     ·refine jp ?_
      refine bZ (.bool true) (.bool true) (.bool true) ?_;refine bZ (.bool true) (.bool true) (.bool true) ?_;refine bZ (.bool true) (.bool true) (.bool false) ?_;refine jmm (.bool false) (.bool false) ?_
      exact aI fun X hX _=>fH ⟨⟨rfl,trivial⟩,hX⟩
    ·intro f6 X6 hk9
     obtain ⟨⟨hk6_0,_⟩,hX6⟩:=hk9;simp only [lK,mT,pX,hk6_0];clear hk6_0;obtain ⟨hB0,hD5⟩:=bl2 hX6 hB0 hD5;have hb:=aF hb hX6;go_upto_region 6 with fail;refine jp ?_;refine jm (vI k) ?_;refine jv (vI ((k+1:Nat):Int)) (aV _ _ _ _ (by rfl) (k:Int) 1 ((k+1:Nat):Int) (by rfl) (by rfl) (by omega) (by omega) (by omega)) ?_;refine jm (vI ((k+1:Nat):Int)) ?_;refine bO hb hB0 hD5 fun X7 hX7 hb hB0 hD5=>?_
     go_wp2
     go_roundw
     case rel=>exact ⟨k+1,false,by omega,rfl,rfl,HA2,hB0,hb⟩
     case measure=>simp [intOf];omega
  ·obtain rfl:k=n:=by omega
   go_upto_region 5 with fail;refine jp ?_;refine jm (vI k) ?_;refine jnf hB0 3 aT ?_;refine jv (vI k) (aM G24 _ (by rfl) A k cp (by rfl) _ rfl) ?_;refine dJ (k:Int) (k:Int) (by omega) ?_;refine bJ hb hB0 fun X1 hX1 hb hB0=>?_
   rcases a with _|_
   ·go_upto_region 12 with fail
    refine jp ?_;refine jmm (.bool false) (.bool true) ?_;refine bJ hb hB0 fun X2 hX2 hb hB0=>?_;go_upto_region 13 with fail;refine jp ?_;refine jm (vI 1) ?_;refine bJ hb hB0 fun X3 hX3 hb hB0=>?_
    have HC:Hid (chE p l=1):=xM (by rw [HLN.out];exact h20) (by
     by_cases h9:fnT p=true
     ·refine .inr fun h8=>?_
      have:=HA.out.2 ⟨h9,fun j hj=>h8 j (by rw [HLN.out];exact hj)⟩
      cases this
     ·exact .inl (by simpa using h9))
    go_wp2
    go_ret
    exact ⟨by rw [HC.out];rfl,hb⟩
   ·have HA1:Hid (fnT p=true∧∀ j,j<l.length→fnH (ho l j)=true):=⟨(HA.out.1 rfl).1,fun j hj=>(HA.out.1 rfl).2 j (by rw [← HLN.out];exact hj)⟩
    clear HA;go_upto_region 12 with fail;refine jp ?_;refine jmm (.bool true) (.bool false) ?_;refine bJ hb hB0 fun X2 hX2 hb hB0=>?_;go_upto_region 14 with fail;refine jp ?_;refine jm (vI 0) ?_;refine bJ hb hB0 fun X3 hX3 hb hB0=>?_
    go_wp2
    go_loopw [9] (fun kv wr=>∃ i:Nat,i≤k∧kv=vI i∧Hid (∀ j,j<i→ct l j≤mx l j)∧Blk wr w.heap.size 26 [.bool p.1,vS p.2.1,vS p.2.2,.slice A k cp]∧Below w.heap.size w wr) (fun kv _=>k-(intOf kv).toNat)
    case atStart=>exact ⟨0,by omega,rfl,(fun j hj=>by omega),hB0,hb⟩
    case round =>
     clear hB0 hb;obtain ⟨i,hi,rfl,HZ,hB0,hb⟩:=hrel
     rcases Nat.lt_or_ge i k with hlt2|hlt2
     ·obtain ⟨b,off,rfl,hbb,hcx⟩:=gM (HRX.out _ hb) HLN.out hlt2
      obtain ⟨x,x9⟩:∃ x,x=ho l i:=⟨_,rfl⟩;have HX:=Lib.hid x9;clear x9;rw [← HX.out] at hcx
      change Cl wr b (off+i * 9) [.bool x.c.1,vS x.c.2.1,vS x.c.2.2,.bool x.m.1,vS x.m.2.1,vS x.m.2.2,.bool x.s.1,vS x.s.2.1,vS x.s.2.2] at hcx
      have hxc:tz x.c.2.1 x.c.2.2 1000000:=(by rw [HX.out];exact hs.out.c i:tz x.c.2.1 x.c.2.2 40000).mono (by decide);have hxm:tz x.m.2.1 x.m.2.2 1000000:=(by rw [HX.out];exact hs.out.m i:tz x.m.2.1 x.m.2.2 40000).mono (by decide);go_upto_region 15 with fail;refine jp ?_;refine jm (vI i) ?_;refine jnf hB0 3 aT ?_;refine jv (vI k) (aM G24 _ (by rfl) (some ⟨b,off,none⟩) k cp (by rfl) _ rfl) ?_;refine dP (i:Int) (k:Int) (by omega) ?_;refine bJ hb hB0 fun X1 hX1 hb hB0=>?_;have hcx:=hcx.below hX1 hbb;replace hbb:=Nat.lt_of_lt_of_le hbb (hX1).size
      by_cases h9:trq x.c≤trq x.m
      ·have hc:=cmpR_ge.2 h9
       go_upto_region 17 with fail;refine jd ?_;refine jnf hB0 3 aT ?_;refine jm (vI i) ?_;refine jv (vP b (off+i * 9)) (bD G24 bC _ _ (by rfl) b (off) k cp i (by omega) (by rfl) (by rfl) rfl) ?_;refine jn (vP b (off+i * 9+3)) ?_;refine jg (.agg #[.bool x.m.1,st x.m.2.1,st x.m.2.2]) (fun X hX hF=>bP 23 _ (by rfl) b (off+i * 9+3) (by rfl) G23 rfl [.bool x.m.1,vS x.m.2.1,vS x.m.2.2] X (Cl.part (hcx.below hX hbb) 3 _ (by rfl)) aD) ?_;refine jnf hB0 3 aT ?_;refine jm (vI i) ?_;refine jv (vP b (off+i * 9)) (bD G24 bC _ _ (by rfl) b (off) k cp i (by omega) (by rfl) (by rfl) rfl) ?_;refine jn (vP b (off+i * 9)) ?_;refine jg (.agg #[.bool x.c.1,st x.c.2.1,st x.c.2.2]) (fun X hX hF=>bP 23 _ (by rfl) b (off+i * 9) (by rfl) G23 rfl [.bool x.c.1,vS x.c.2.1,vS x.c.2.2] X (Cl.part (hcx.below hX hbb) 0 _ (by rfl)) aD) ?_;refine jc (.bool false) (fun X hX hF=>qQg x.m.1 x.m.2.1 x.m.2.2 x.c.1 x.c.2.1 x.c.2.2 (x:=trq x.m) rfl (y:=trq x.c) rfl X hxm hxc hc) ?_;refine jm (.bool false) ?_;refine bJ hb hB0 fun X2 hX2 hb hB0=>?_;have hcx:=hcx.below hX2 hbb;replace hbb:=Nat.lt_of_lt_of_le hbb (hX2).size
       have HZ2:Hid (∀ j,j<i+1→ct l j≤mx l j):=fun j hj=>by
        rcases Nat.lt_or_ge j i with h8|h8
        ·exact HZ.out j h8
        ·rw [show j=i by omega]
         unfold ct mx
         rw [← HX.out];exact h9
       go_upto_region 18 with fail;refine jp ?_;refine jm (.bool false) ?_;refine bJ hb hB0 fun X3 hX3 hb hB0=>?_;go_upto_region 16 with fail;refine jp ?_;refine jm (vI i) ?_;refine jv (vI ((i+1:Nat):Int)) (aV _ _ _ _ (by rfl) (i:Int) 1 ((i+1:Nat):Int) (by rfl) (by rfl) (by omega) (by omega) (by omega)) ?_;refine jm (vI ((i+1:Nat):Int)) ?_;refine bJ hb hB0 fun X4 hX4 hb hB0=>?_
       go_wp2
       go_roundw
       case rel=>exact ⟨i+1,by omega,rfl,HZ2,hB0,hb⟩
       case measure=>simp [intOf];omega
      ·have hc:cC (trq x.m) (trq x.c)<0:=Int.not_le.1 fun h8=>h9 (cmpR_ge.1 h8)
       go_upto_region 17 with fail;refine jd ?_;refine jnf hB0 3 aT ?_;refine jm (vI i) ?_;refine jv (vP b (off+i * 9)) (bD G24 bC _ _ (by rfl) b (off) k cp i (by omega) (by rfl) (by rfl) rfl) ?_;refine jn (vP b (off+i * 9+3)) ?_;refine jg (.agg #[.bool x.m.1,st x.m.2.1,st x.m.2.2]) (fun X hX hF=>bP 23 _ (by rfl) b (off+i * 9+3) (by rfl) G23 rfl [.bool x.m.1,vS x.m.2.1,vS x.m.2.2] X (Cl.part (hcx.below hX hbb) 3 _ (by rfl)) aD) ?_;refine jnf hB0 3 aT ?_;refine jm (vI i) ?_;refine jv (vP b (off+i * 9)) (bD G24 bC _ _ (by rfl) b (off) k cp i (by omega) (by rfl) (by rfl) rfl) ?_;refine jn (vP b (off+i * 9)) ?_;refine jg (.agg #[.bool x.c.1,st x.c.2.1,st x.c.2.2]) (fun X hX hF=>bP 23 _ (by rfl) b (off+i * 9) (by rfl) G23 rfl [.bool x.c.1,vS x.c.2.1,vS x.c.2.2] X (Cl.part (hcx.below hX hbb) 0 _ (by rfl)) aD) ?_;refine jc (.bool true) (fun X hX hF=>qQf x.m.1 x.m.2.1 x.m.2.2 x.c.1 x.c.2.1 x.c.2.2 (x:=trq x.m) rfl (y:=trq x.c) rfl X hxm hxc hc) ?_;refine jm (.bool true) ?_;refine bJ hb hB0 fun X2 hX2 hb hB0=>?_;have hcx:=hcx.below hX2 hbb;replace hbb:=Nat.lt_of_lt_of_le hbb (hX2).size;go_upto_region 18 with fail;refine jp ?_;refine jm (.bool true) ?_;refine bJ hb hB0 fun X3 hX3 hb hB0=>?_
       go_upto_region 19 with fail;refine jp ?_;refine jm (vI 30) ?_;refine bJ hb hB0 fun X4 hX4 hb hB0=>?_;have HC:Hid (chE p l=30):=oI (by rw [HLN.out];exact h20) HA1.out.1 HA1.out.2 (.inl fun h8=>h9 (by have:=h8 i (by rw [HLN.out];exact hlt2);unfold ct mx at this;rw [← HX.out] at this;exact this))
       go_wp2
       go_ret
       exact ⟨by rw [HC.out];rfl,hb⟩
     ·obtain rfl:i=k:=by omega
      have HES:Hid (∀ X,Since w X→Hl l (.slice A i cp) X):=fun X h=>by show Rd X 9 _ l.length _;rw [HLN.out];exact HRX.out X h
      have hq20:l.length≤20:=by rw [HLN.out];exact h20
      have hts:szR (thr l) 800021:=szR.mono (fU fun j _=>hs.out.ct (by decide) j) (by have:=Nat.mul_le_mul_right 40001 hq20;omega);have htt:tz (rP (thr l)) (rD (thr l)) 1000000:=tzR hts (by decide);go_upto_region 15 with fail;refine jp ?_;refine jm (vI i) ?_;refine jnf hB0 3 aT ?_;refine jv (vI i) (aM G24 _ (by rfl) A i cp (by rfl) _ rfl) ?_;refine dJ (i:Int) (i:Int) (by omega) ?_;refine bJ hb hB0 fun X1 hX1 hb hB0=>?_
      by_cases h9:thr l≤trq p
      ·have hc:=cmpR_ge.2 h9
       go_upto_region 20 with fail;refine jd ?_;refine jn (vP w.heap.size 0) ?_;refine jg (.agg #[.bool p.1,st p.2.1,st p.2.2]) (fun X hX hF=>aP 23 _ (by rfl) w.heap.size 0 [.bool p.1,vS p.2.1,vS p.2.2] (by rfl) G23 rfl X (hB0.bel hX) (by rfl) aD) ?_;refine aJ hB0 ?_;refine jc (rt (rN (thr l)) (rP (thr l)) (rD (thr l))) (fun X hX hF=>qQd p _ l X (HES.out X (Since.next hb hX)) hs (by rw [HLN.out];exact h20)) ?_;refine jc (.bool false) (fun X hX hF=>qQg p.1 p.2.1 p.2.2 (rN (thr l)) (rP (thr l)) (rD (thr l)) (x:=trq p) rfl (y:=thr l) (aZ _) X hp htt hc) ?_;refine jm (.bool false) ?_;refine bJ hb hB0 fun X2 hX2 hb hB0=>?_;go_upto_region 21 with fail;refine jp ?_;refine jm (.bool false) ?_;refine bJ hb hB0 fun X3 hX3 hb hB0=>?_;go_upto_region 23 with fail;refine jp ?_;refine jm (vI 0) ?_;refine bJ hb hB0 fun X4 hX4 hb hB0=>?_;have HC:Hid (chE p l=0):=chE_ok.2 ⟨by rw [HLN.out];exact h20,HA1.out.1,HA1.out.2,fun j hj=>HZ.out j (by rw [← HLN.out];exact hj),h9⟩
       go_wp2
       go_ret
       exact ⟨by rw [HC.out];rfl,hb⟩
      ·have hc:cC (trq p) (thr l)<0:=Int.not_le.1 fun h8=>h9 (cmpR_ge.1 h8)
       go_upto_region 20 with fail;refine jd ?_;refine jn (vP w.heap.size 0) ?_;refine jg (.agg #[.bool p.1,st p.2.1,st p.2.2]) (fun X hX hF=>aP 23 _ (by rfl) w.heap.size 0 [.bool p.1,vS p.2.1,vS p.2.2] (by rfl) G23 rfl X (hB0.bel hX) (by rfl) aD) ?_;refine aJ hB0 ?_;refine jc (rt (rN (thr l)) (rP (thr l)) (rD (thr l))) (fun X hX hF=>qQd p _ l X (HES.out X (Since.next hb hX)) hs (by rw [HLN.out];exact h20)) ?_;refine jc (.bool true) (fun X hX hF=>qQf p.1 p.2.1 p.2.2 (rN (thr l)) (rP (thr l)) (rD (thr l)) (x:=trq p) rfl (y:=thr l) (aZ _) X hp htt hc) ?_;refine jm (.bool true) ?_;refine bJ hb hB0 fun X2 hX2 hb hB0=>?_;go_upto_region 21 with fail;refine jp ?_;refine jm (.bool true) ?_;refine bJ hb hB0 fun X3 hX3 hb hB0=>?_;go_upto_region 22 with fail;refine jp ?_;refine jm (vI 30) ?_;refine bJ hb hB0 fun X4 hX4 hb hB0=>?_;have HC:Hid (chE p l=30):=oI (by rw [HLN.out];exact h20) HA1.out.1 HA1.out.2 (.inr (Rat.not_le.1 h9))
       go_wp2
       go_ret
       exact ⟨by rw [HC.out];rfl,hb⟩
theorem kY (p:Tr) (v:Value) (l:List Ho) (w:World) (hv:Hl l v w) (hs:Hid (Szp l 40000)) (hp:tz p.2.1 p.2.2 1000000):Calls Tryz.prog 22 #[.agg #[.bool p.1,vS p.2.1,vS p.2.2,v]] w fun e w'=>e=.returned (vI (chE p l))∧Since w w':=by
 rcases Nat.lt_or_ge 20 l.length with h|h
 ·exact rch0 p v l w hv hs hp h
 ·exact rchM p v l w hv hs hp h
theorem jA:(Tryz.prog.info? 38).map (·.size)=some 4:=by kernel_rfl
theorem rtt0 (p:Tr) (v:Value) (l:List Ho) (w:World) (hv:Hl l v w) (hs:Hid (Szp l 40000)) (hp:tz p.2.1 p.2.2 1000000) (h0:chE p l≠0):Calls Tryz.prog 10 #[.agg #[.bool p.1,vS p.2.1,vS p.2.2,v]] w fun e w'=>e=.returned (.agg #[.bool (rN (toV p l)),vS (rP (toV p l)),vS (rD (toV p l)),vI (chE p l)])∧Since w w':=by
 obtain ⟨A,n,cp,rfl,hln,hn1,hr⟩:=hv.at;clear hv
 have HRX:Hid (∀ X,Since w X→Rd X 9 (.slice A n cp) n (fl hoc l)):=fun X h=>hr.below h
 have HLN:=Lib.hid hln
 have HES:Hid (∀ X,Since w X→Hl l (.slice A n cp) X):=fun X h=>by show Rd X 9 _ l.length _;rw [hln];exact hr.below h
 obtain ⟨z,z9⟩:∃ z,chE p l=z:=⟨_,rfl⟩;have HZ:=Lib.hid z9;clear z9
 have hz0:z≠0:=by rw [← HZ.out];exact h0
 have HV0:Hid (toV p l=0):=if_neg h0;clear h0;clear hr
 go_enter Tryz.func10,Tryz.ntmps10
 go_upto_region 1 with fail;obtain ⟨W0,hW0,hB0,hB1,hb⟩:=cH w 26 38 [.bool p.1,vS p.2.1,vS p.2.2,.slice A n cp] [.bool false,.string ⟨#[]⟩,.string ⟨#[]⟩,vI 0];rw [← hW0];clear hW0;refine jp ?_;refine aJ hB0 ?_;refine jc (vI z) (fun X hX hF=>mo (kY p _ l X (HES.out X (Since.next hb hX)) hs hp) (by rw [HZ.out])) ?_;refine jm (vI z) ?_;refine bO hb hB0 hB1 fun X1 hX1 hb hB0 hB1=>?_;go_upto_region 2 with fail;refine jp ?_;refine jm (vI z) ?_;refine jv (.bool true) (bB _ _ _ _ (by rfl) .i64 z 0 (by rfl) (by rfl) true (by rw [decide_eq_false (by omega)];rfl)) ?_;refine bO hb hB0 hB1 fun X2 hX2 hb hB0 hB1=>?_;go_upto_region 3 with fail;refine jq 2 ?_;refine jmn (vI z) (.agg #[.bool false,.string ⟨#[]⟩,.string ⟨#[]⟩,vI z]) ?_;refine bO hb hB0 hB1 fun X3 hX3 hb hB0 hB1=>?_;refine osb 38 2 9 (w.heap.size+1) 38 hB1 [.bool false,.string ⟨#[]⟩,.string ⟨#[]⟩,vI z] jA ?_;intro w9 hR9 hO9 hB9 hs9;have hb9:=hB9 _ _ hb (by omega);clear hO9 hB9
 go_wp2
 refine aK rfl rfl (by rfl) G38 rfl hR9 jA ⟨by rw [HV0.out,HZ.out] <;> rfl,hb9⟩
theorem rtt1 (p:Tr) (v:Value) (l:List Ho) (w:World) (hv:Hl l v w) (hs:Hid (Szp l 40000)) (hp:tz p.2.1 p.2.2 1000000) (h0:chE p l=0):Calls Tryz.prog 10 #[.agg #[.bool p.1,vS p.2.1,vS p.2.2,v]] w fun e w'=>e=.returned (.agg #[.bool (rN (toV p l)),vS (rP (toV p l)),vS (rD (toV p l)),vI (chE p l)])∧Since w w':=by
 obtain ⟨A,n,cp,rfl,hln,hn1,hr⟩:=hv.at;clear hv
 have HRX:Hid (∀ X,Since w X→Rd X 9 (.slice A n cp) n (fl hoc l)):=fun X h=>hr.below h
 have HLN:=Lib.hid hln
 have HES:Hid (∀ X,Since w X→Hl l (.slice A n cp) X):=fun X h=>by show Rd X 9 _ l.length _;rw [hln];exact hr.below h
 have HZ:Hid (chE p l=0):=h0;have HV0:Hid (toV p l=thr l):=if_pos h0;have HQ20:l.length≤20:=(chE_ok.1 h0).few;clear h0;clear hr
 go_enter Tryz.func10,Tryz.ntmps10
 go_upto_region 1 with fail;obtain ⟨W0,hW0,hB0,hB1,hb⟩:=cH w 26 38 [.bool p.1,vS p.2.1,vS p.2.2,.slice A n cp] [.bool false,.string ⟨#[]⟩,.string ⟨#[]⟩,vI 0];rw [← hW0];clear hW0;refine jp ?_;refine aJ hB0 ?_;refine jc (vI 0) (fun X hX hF=>mo (kY p _ l X (HES.out X (Since.next hb hX)) hs hp) (by rw [HZ.out])) ?_;refine jm (vI 0) ?_;refine bO hb hB0 hB1 fun X1 hX1 hb hB0 hB1=>?_;go_upto_region 2 with fail;refine jp ?_;refine jm (vI 0) ?_;refine jv (.bool false) (bB _ _ _ _ (by rfl) .i64 0 0 (by rfl) (by rfl) false (by rw [decide_eq_true (by omega)];rfl)) ?_;refine bO hb hB0 hB1 fun X2 hX2 hb hB0 hB1=>?_;go_upto_region 4 with fail;refine jq 3 ?_;refine aJ hB0 ?_;refine jc (rt (rN (thr l)) (rP (thr l)) (rD (thr l))) (fun X hX hF=>qQd p _ l X (HES.out X (Since.next hb hX)) hs HQ20) ?_;refine jn (.agg #[.bool (rN (thr l)),st (rP (thr l)),st (rD (thr l)),vI 0]) ?_;refine bO hb hB0 hB1 fun X3 hX3 hb hB0 hB1=>?_;refine osb 38 2 12 (w.heap.size+1) 38 hB1 [.bool (rN (thr l)),vS (rP (thr l)),vS (rD (thr l)),vI 0] jA ?_;intro w9 hR9 hO9 hB9 hs9;have hb9:=hB9 _ _ hb (by omega);clear hO9 hB9
 go_wp2
 refine aK rfl rfl (by rfl) G38 rfl hR9 jA ⟨by rw [HV0.out,HZ.out] <;> rfl,hb9⟩
theorem rttC (p:Tr) (v:Value) (l:List Ho) (w:World) (hv:Hl l v w) (hs:Hid (Szp l 40000)) (hp:tz p.2.1 p.2.2 1000000):Calls Tryz.prog 10 #[.agg #[.bool p.1,vS p.2.1,vS p.2.2,v]] w fun e w'=>e=.returned (.agg #[.bool (rN (toV p l)),vS (rP (toV p l)),vS (rD (toV p l)),vI (chE p l)])∧Since w w':=by
 by_cases h0:chE p l=0
 ·exact rtt1 p v l w hv hs hp h0
 ·exact rtt0 p v l w hv hs hp h0
end Go.Proofs.YtnfpenhldlfafaaGreatDoor

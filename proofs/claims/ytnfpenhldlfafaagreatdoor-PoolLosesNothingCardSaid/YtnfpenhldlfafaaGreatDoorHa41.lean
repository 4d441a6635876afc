/- reservoir: fine, sum, Check, Total. -/
import Derived.Test.YtnfpenhldlfafaaGreatDoorHo41
import Derived.Test.YtnfpenhldlfafaaGreatDoorLcv
set_option linter.unusedSimpArgs false
set_option linter.unusedVariables false
set_option maxRecDepth 100000
set_option maxHeartbeats 1600000
namespace Go.Proofs.YtnfpenhldlfafaaGreatDoor
open Go.RowKit
theorem eB {xs:List Tr} {v:Value} {w:World} (h:Rl xs v w):∃ A n c,v=.slice A n c∧xs.length=n∧n≤9223372036854775807∧Rd w 3 (.slice A n c) n (fl trc xs):=by
 have h9:Rd w 3 v xs.length (fl trc xs):=h;have h8:=h9;obtain ⟨hl,A,c,h2,hc,hm,hx⟩:=h9;subst h2;refine ⟨A,xs.length,c,rfl,rfl,?_,h8⟩
 unfold maxLen at hm
 omega
theorem qO {w:World} {A:Option Addr} {n c:Nat} {l:List Tr} (h:Rd w 3 (.slice A n c) n (fl trc l)) (hl:l.length=n) {k:Nat} (hk:k<n):∃ b off,A=some ⟨b,off,none⟩∧b<w.heap.size∧Cl w b (off+k * 3) (trc (xt l k)):=by
 obtain ⟨b,off,x,hA,hb,hc,_,hd⟩:=h.atF (m:=3) (fun x _=>lQ x) (by omega) (k:=k) (by omega);have h1:=congrArg (·[0]?) hd.out;rw [mB (by omega)]
 have h2:l[k]=x:=by
  have h3:l[k]?=some x:=by simpa [List.getElem?_drop] using h1
  rw [List.getElem?_eq_getElem (by omega)] at h3
  injection h3
 rw [h2];exact ⟨b,off,hA,hb,hc⟩
theorem fn1C (g:Bool) (nn dd:List UInt8) (w:World) (hx:tz nn dd 1000000):Calls Tryz.prog 78 #[.agg #[.bool g,vS nn,vS dd]] w fun e w'=>e=.returned (.bool (!fnT (g,nn,dd)))∧Since w w':=by
 obtain ⟨vv,vv9⟩:∃ z,vd g nn dd=z:=⟨_,rfl⟩;have HV:=Lib.hid vv9;clear vv9
 cases g <;> cases vv
 ·have HB:Hid ((!fnT (false,nn,dd))=true):=by
   show (!(!false && vd false nn dd))=true
   rw [HV.out]
   rfl
  go_enter Tryz.func78,Tryz.ntmps78
  go_upto_region 1 with fail;obtain ⟨W0,hW0,hB0,hb⟩:=aZ w 23 [.bool false,vS nn,vS dd];rw [← hW0];clear hW0;refine jp ?_;refine jnf hB0 0 aQ ?_;refine jm (.bool false) ?_;refine ja hB0 Tryz.underlying23 (by rfl) aB ?_;refine jc (.bool false) (fun X hX hF=>mo (kT false nn dd X hx) (by rw [HV.out])) ?_;refine bY (.bool true) (.bool true) (.bool true) ?_;refine bZ hb hB0 fun X1 hX1 hb hB0=>?_
  go_wp2
  go_ret
  exact ⟨by rw [HB.out];rfl,hb⟩
 ·have HB:Hid ((!fnT (false,nn,dd))=false):=by
   show (!(!false && vd false nn dd))=false
   rw [HV.out]
   rfl
  go_enter Tryz.func78,Tryz.ntmps78
  go_upto_region 1 with fail;obtain ⟨W0,hW0,hB0,hb⟩:=aZ w 23 [.bool false,vS nn,vS dd];rw [← hW0];clear hW0;refine jp ?_;refine jnf hB0 0 aQ ?_;refine jm (.bool false) ?_;refine ja hB0 Tryz.underlying23 (by rfl) aB ?_;refine jc (.bool true) (fun X hX hF=>mo (kT false nn dd X hx) (by rw [HV.out])) ?_;refine bY (.bool false) (.bool false) (.bool false) ?_;refine bZ hb hB0 fun X1 hX1 hb hB0=>?_
  go_wp2
  go_ret
  exact ⟨by rw [HB.out];rfl,hb⟩
 ·have HB:Hid ((!fnT (true,nn,dd))=true):=by
   show (!(!true && vd true nn dd))=true
   rw [HV.out]
   rfl
  go_enter Tryz.func78,Tryz.ntmps78
  go_upto_region 1 with fail;obtain ⟨W0,hW0,hB0,hb⟩:=aZ w 23 [.bool true,vS nn,vS dd];rw [← hW0];clear hW0;refine jp ?_;refine jnf hB0 0 aQ ?_;refine jm (.bool true) ?_;refine jss ?_;refine js ?_;refine jmm (.bool true) (.bool true) ?_;refine bZ hb hB0 fun X1 hX1 hb hB0=>?_
  go_wp2
  go_ret
  exact ⟨by rw [HB.out];rfl,hb⟩
 ·have HB:Hid ((!fnT (true,nn,dd))=true):=by
   show (!(!true && vd true nn dd))=true
   rw [HV.out]
   rfl
  go_enter Tryz.func78,Tryz.ntmps78
  go_upto_region 1 with fail;obtain ⟨W0,hW0,hB0,hb⟩:=aZ w 23 [.bool true,vS nn,vS dd];rw [← hW0];clear hW0;refine jp ?_;refine jnf hB0 0 aQ ?_;refine jm (.bool true) ?_;refine jss ?_;refine js ?_;refine jmm (.bool true) (.bool true) ?_;refine bZ hb hB0 fun X1 hX1 hb hB0=>?_
  go_wp2
  go_ret
  exact ⟨by rw [HB.out];rfl,hb⟩
theorem ixrC (v:Value) (xs:List Tr) (w:World) (hv:Rl xs v w) (hs:Hid (∀ k,tz (xt xs k).2.1 (xt xs k).2.2 1000000)):Calls Tryz.prog 104 #[v,.func (.func 78) #[] #[]] w fun e w'=>e=.returned (vI (ixN xs))∧Since w w':=by
 obtain ⟨A,n,cp,rfl,hln,hn1,hr⟩:=eB hv;clear hv
 have HRX:Hid (∀ X,Since w X→Rd X 3 (.slice A n cp) n (fl trc xs)):=fun X h=>hr.below h
 have HLN:=Lib.hid hln;clear hr
 go_enter Tryz.func104,Tryz.ntmps104
 go_upto_region 1 with fail;refine jp ?_;refine jm (.slice A n cp) ?_;refine jv (vI n) (aJ Tryz.underlying27 _ (by rfl) A n cp (by rfl) _ rfl) ?_;refine jm (vI 0) ?_;refine jz fun X1 hX1=>?_;have hb:Below w.heap.size w X1:=hX1
 go_wp2
 go_loopw [8] (fun kv wr=>∃ k:Nat,k≤n∧kv=vI k∧Hid (∀ j,j<k→fnT (xt xs j)=true)∧Below w.heap.size w wr) (fun kv _=>n-(intOf kv).toNat)
 case atStart=>exact ⟨0,by omega,rfl,(fun j hj=>by omega),hb⟩
 case round =>
  clear hb;obtain ⟨k,hk,rfl,HZ,hb⟩:=hrel
  rcases Nat.lt_or_ge k n with hlt|hlt
  ·obtain ⟨b,off,rfl,hbb,hcx⟩:=qO (HRX.out _ hb) HLN.out hlt
   obtain ⟨x,x9⟩:∃ x,x=xt xs k:=⟨_,rfl⟩;have HX:=Lib.hid x9;clear x9;rw [← HX.out] at hcx
   change Cl wr b (off+k * 3) [.bool x.1,vS x.2.1,vS x.2.2] at hcx
   have hxz:tz x.2.1 x.2.2 1000000:=by rw [HX.out];exact hs.out k
   go_upto_region 2 with fail;refine jp ?_;refine fC (k:Int) (n:Int) (by omega) ?_;refine jzb hb fun X1 hX1 hb=>?_;have hcx:=hcx.below hX1 hbb;replace hbb:=Nat.lt_of_lt_of_le hbb (hX1).size;go_upto_region 3 with fail;refine jp ?_;refine jmm (vI k) (vI k) ?_;refine jzb hb fun X2 hX2 hb=>?_;have hcx:=hcx.below hX2 hbb;replace hbb:=Nat.lt_of_lt_of_le hbb (hX2).size;obtain ⟨pb,hpb⟩:∃ pb,fnT (x.1,x.2.1,x.2.2)=pb:=⟨_,rfl⟩;have HP:=Lib.hid hpb;clear hpb
   rcases pb with _|_
   ·go_upto_region 4 with fail
    refine jp ?_;refine bY (.func (.func 78) #[] #[]) (.slice (some ⟨b,off,none⟩) n cp) (vI k) ?_;refine jv (vP b (off+k * 3)) (aY Tryz.underlying27 aB _ _ (by rfl) b (off) n cp k (by omega) (by rfl) (by rfl) rfl) ?_;refine jg (.agg #[.bool x.1,st x.2.1,st x.2.2]) (fun X hX hF=>bM 23 _ (by rfl) b (off+k * 3) (by rfl) Tryz.underlying23 rfl [.bool x.1,vS x.2.1,vS x.2.2] X (Cl.part (hcx.below hX hbb) 0 _ (by rfl)) aB) ?_;refine gP (by rfl) 78 _ _ _ (by rfl) (by rfl) (.bool true) [.agg #[.bool x.1,vS x.2.1,vS x.2.2]] (by rfl) (by kernel_rfl) (fun _=>by go_simp) (fun X hX hF=>(fn1C x.1 x.2.1 x.2.2 X hxz).mono fun e X' ⟨h1,h2⟩=>⟨by rw [h1,HP.out];rfl,h2⟩) ?_;simp only [pX];refine jzb hb fun X3 hX3 hb=>?_;have hcx:=hcx.below hX3 hbb;replace hbb:=Nat.lt_of_lt_of_le hbb (hX3).size;go_upto_region 5 with fail;refine jp ?_;refine jmm (vI k) (vI k) ?_;refine jzb hb fun X4 hX4 hb=>?_;have HE:Hid (ixN xs=(k:Int)):=qYr (by rw [HLN.out];exact hlt) (by rw [← HX.out];exact HP.out) HZ.out
    go_wp2
    go_ret
    exact ⟨by rw [HE.out];rfl,hb⟩
   ·go_upto_region 4 with fail
    refine jp ?_;refine bY (.func (.func 78) #[] #[]) (.slice (some ⟨b,off,none⟩) n cp) (vI k) ?_;refine jv (vP b (off+k * 3)) (aY Tryz.underlying27 aB _ _ (by rfl) b (off) n cp k (by omega) (by rfl) (by rfl) rfl) ?_;refine jg (.agg #[.bool x.1,st x.2.1,st x.2.2]) (fun X hX hF=>bM 23 _ (by rfl) b (off+k * 3) (by rfl) Tryz.underlying23 rfl [.bool x.1,vS x.2.1,vS x.2.2] X (Cl.part (hcx.below hX hbb) 0 _ (by rfl)) aB) ?_;refine gP (by rfl) 78 _ _ _ (by rfl) (by rfl) (.bool false) [.agg #[.bool x.1,vS x.2.1,vS x.2.2]] (by rfl) (by kernel_rfl) (fun _=>by go_simp) (fun X hX hF=>(fn1C x.1 x.2.1 x.2.2 X hxz).mono fun e X' ⟨h1,h2⟩=>⟨by rw [h1,HP.out];rfl,h2⟩) ?_;simp only [pX];refine jzb hb fun X3 hX3 hb=>?_;have hcx:=hcx.below hX3 hbb;replace hbb:=Nat.lt_of_lt_of_le hbb (hX3).size
    have HZ2:Hid (∀ j,j<k+1→fnT (xt xs j)=true):=fun j hj=>by
     rcases Nat.lt_or_ge j k with h9|h9
     ·exact HZ.out j h9
     ·rw [show j=k by omega,← HX.out];exact HP.out
    go_upto_region 6 with fail;refine jp ?_;refine jv (vI ((k+1:Nat):Int)) (bB _ _ _ _ (by rfl) (k:Int) 1 ((k+1:Nat):Int) (by rfl) (by rfl) (by omega) (by omega) (by omega)) ?_;refine jm (vI ((k+1:Nat):Int)) ?_;refine jzb hb fun X4 hX4 hb=>?_
    go_wp2
    go_roundw
    case rel=>exact ⟨k+1,by omega,rfl,HZ2,hb⟩
    case measure=>simp [intOf];omega
  ·have HE:Hid (ixN xs=-1):=qVg (fnL_t.2 fun j hj=>HZ.out j (by rw [HLN.out] at hj;omega))
   go_upto_region 2 with fail;refine jp ?_;refine fD (k:Int) (n:Int) (by omega) ?_;refine jzb hb fun X1 hX1 hb=>?_;go_upto_region 7 with fail;refine jp ?_;refine jm (vI (-1)) ?_;refine jzb hb fun X2 hX2 hb=>?_
   go_wp2
   go_ret
   exact ⟨by rw [HE.out];rfl,hb⟩
theorem ctrC (v:Value) (xs:List Tr) (w:World) (hv:Rl xs v w) (hs:Hid (∀ k,tz (xt xs k).2.1 (xt xs k).2.2 1000000)):Calls Tryz.prog 77 #[v,.func (.func 78) #[] #[]] w fun e w'=>e=.returned (.bool (!fnL xs))∧Since w w':=by
 obtain ⟨z,z9⟩:∃ z,ixN xs=z:=⟨_,rfl⟩;have HZ:=Lib.hid z9;clear z9;obtain ⟨u,u9⟩:∃ z,fnL xs=z:=⟨_,rfl⟩;have HU:=Lib.hid u9;clear u9;rw [HU.out]
 rcases u with _|_
 ·have hz:0≤z:=by rw [← HZ.out];exact (ixN_f HU.out).1
  go_enter Tryz.func77,Tryz.ntmps77
  have HQ:Hid (∀ X,Since w X→Rl xs v X):=fun X h=>Rl.lasts xs _ _ _ hv h
  clear hv;go_upto_region 1 with fail;refine jp ?_;refine jmm (v) (.func (.func 78) #[] #[]) ?_;refine jc (vI z) (fun X hX hF=>mo (ixrC v xs X (HQ.out X hX) hs) (by rw [HZ.out])) ?_;refine zX z 0 (by omega) ?_;refine jm (.bool true) ?_;refine jz fun X1 hX1=>?_;have hb:Below w.heap.size w X1:=hX1
  go_wp2
  go_ret
  exact ⟨rfl,hb⟩
 ·have hz:z<0:=by rw [← HZ.out,qVg HU.out];omega
  go_enter Tryz.func77,Tryz.ntmps77
  have HQ:Hid (∀ X,Since w X→Rl xs v X):=fun X h=>Rl.lasts xs _ _ _ hv h
  clear hv;go_upto_region 1 with fail;refine jp ?_;refine jmm (v) (.func (.func 78) #[] #[]) ?_;refine jc (vI z) (fun X hX hF=>mo (ixrC v xs X (HQ.out X hX) hs) (by rw [HZ.out])) ?_;refine qYq z 0 (by omega) ?_;refine jm (.bool false) ?_;refine jz fun X1 hX1=>?_;have hb:Below w.heap.size w X1:=hX1
  go_wp2
  go_ret
  exact ⟨rfl,hb⟩
theorem rF (v:Value) (xs:List Tr) (w:World) (hv:Rl xs v w) (hs:Hid (∀ k,tz (xt xs k).2.1 (xt xs k).2.2 1000000)):Calls Tryz.prog 40 #[v] w fun e w'=>e=.returned (.bool (fnL xs))∧Since w w':=by
 have HV:Hid (∀ X,Since w X→Rl xs v X):=fun X h=>Rl.lasts xs _ _ _ hv h
 clear hv;obtain ⟨u,u9⟩:∃ z,fnL xs=z:=⟨_,rfl⟩;have HU:=Lib.hid u9;clear u9;rw [HU.out]
 cases u
 ·go_enter Tryz.func40,Tryz.ntmps40
  go_upto_region 1 with fail;refine jp ?_;refine jm (v) ?_;refine jc (.bool true) (fun X hX hF=>mo (ctrC v xs X (HV.out X hX) hs) (by rw [HU.out];rfl)) ?_;refine jmm (.bool false) (.bool false) ?_;refine jz fun X1 hX1=>?_;have hb:Below w.heap.size w X1:=hX1
  go_wp2
  go_ret
  exact ⟨rfl,hb⟩
 ·go_enter Tryz.func40,Tryz.ntmps40
  go_upto_region 1 with fail;refine jp ?_;refine jm (v) ?_;refine jc (.bool false) (fun X hX hF=>mo (ctrC v xs X (HV.out X hX) hs) (by rw [HU.out];rfl)) ?_;refine jmm (.bool true) (.bool true) ?_;refine jz fun X1 hX1=>?_;have hb:Below w.heap.size w X1:=hX1
  go_wp2
  go_ret
  exact ⟨rfl,hb⟩
theorem conC (x:Ho) (w:World):Calls Tryz.prog 38 #[.agg #[.bool x.c.1,vS x.c.2.1,vS x.c.2.2,.bool x.m.1,vS x.m.2.1,vS x.m.2.2,.bool x.s.1,vS x.s.2.1,vS x.s.2.2]] w fun e w'=>e=.returned (.agg #[.bool x.c.1,vS x.c.2.1,vS x.c.2.2])∧Since w w':=by
 go_enter Tryz.func38,Tryz.ntmps38
 go_upto_region 1 with fail;obtain ⟨W0,hW0,hB0,hB1,hb⟩:=cI w 66 23 [.bool x.c.1,vS x.c.2.1,vS x.c.2.2,.bool x.m.1,vS x.m.2.1,vS x.m.2.2,.bool x.s.1,vS x.s.2.1,vS x.s.2.2] [.bool false,.string ⟨#[]⟩,.string ⟨#[]⟩];rw [← hW0];clear hW0;refine jq 2 ?_;refine jn (vP w.heap.size 0) ?_;refine jg (.agg #[.bool x.c.1,st x.c.2.1,st x.c.2.2]) (fun X hX hF=>aK 23 _ (by rfl) w.heap.size 0 [.bool x.c.1,vS x.c.2.1,vS x.c.2.2] (by rfl) Tryz.underlying23 rfl X (hB0.bel hX) (by rfl) aB) ?_;refine bV hb hB0 hB1 fun X1 hX1 hb hB0 hB1=>?_;refine osb 23 2 4 (w.heap.size+1) 23 hB1 [.bool x.c.1,vS x.c.2.1,vS x.c.2.2] aB ?_;intro w9 hR9 hO9 hB9 hs9;have hb9:=hB9 _ _ hb (by omega);clear hO9 hB9
 go_wp2
 refine aX rfl rfl (by rfl) Tryz.underlying23 rfl hR9 aB ⟨rfl,hb9⟩
theorem wJ (v:Value) (l:List Ho) (w:World) (hv:Hl l v w) (hs:Hid (Szp l 40000)) (hn:l.length≤20):Calls Tryz.prog 37 #[v,.func (.func 38) #[] #[]] w fun e w'=>e=.returned (rbv (thr l))∧Since w w':=by
 obtain ⟨A,n,cp,rfl,hln,hn1,hr⟩:=hv.at;clear hv
 have HRX:Hid (∀ X,Since w X→Rd X 9 (.slice A n cp) n (fl hoc l)):=fun X h=>hr.below h
 have HLN:=Lib.hid hln
 have hn9:n≤20:=by omega
 clear hr
 go_enter Tryz.func37,Tryz.ntmps37
 go_upto_region 2 with fail;obtain ⟨W0,hW0,hB0,hB1,hb⟩:=cI w 23 23 [.bool false,.string ⟨#[]⟩,.string ⟨#[]⟩] [.bool false,.string ⟨#[]⟩,.string ⟨#[]⟩];rw [← hW0];clear hW0;refine jp ?_;refine jm (.slice A n cp) ?_;refine jv (vI n) (aJ Tryz.underlying24 _ (by rfl) A n cp (by rfl) _ rfl) ?_;refine jm (vI 0) ?_;refine bV hb hB0 hB1 fun X1 hX1 hb hB0 hB1=>?_
 go_wp2
 go_loopw [10] (fun kv wr=>∃ (k:Nat) (s:Rat),k≤n∧kv=vI k∧Hid (s=sm k (ct l))∧Blk wr (w.heap.size+1) 23 [.bool (rN s),vS (rP s),vS (rD s)]∧Blk wr w.heap.size 23 [.bool false,.string ⟨#[]⟩,.string ⟨#[]⟩]∧Below w.heap.size w wr) (fun kv _=>n-(intOf kv).toNat)
 case atStart=>exact ⟨0,0,by omega,rfl,rfl,hB1,hB0,hb⟩
 case round =>
  clear hB0 hB1 hb;obtain ⟨k,s,hk,rfl,HS,hB1,hB0,hb⟩:=hrel
  rcases Nat.lt_or_ge k n with hlt|hlt
  ·obtain ⟨b,off,rfl,hbb,hcx⟩:=iR (HRX.out _ hb) HLN.out hlt
   obtain ⟨x,x9⟩:∃ x,x=ho l k:=⟨_,rfl⟩;have HX:=Lib.hid x9;clear x9;rw [← HX.out] at hcx
   change Cl wr b (off+k * 9) [.bool x.c.1,vS x.c.2.1,vS x.c.2.2,.bool x.m.1,vS x.m.2.1,vS x.m.2.2,.bool x.s.1,vS x.s.2.1,vS x.s.2.2] at hcx
   have hxz:tz x.c.2.1 x.c.2.2 40000:=by rw [HX.out];exact hs.out.c k
   have LB0:szR s 800021:=by rw [HS.out];exact (iJ (B:=40000) fun j _=>hs.out.ct (by decide) j).mono (by have:=Nat.mul_le_mul_right 40001 hk;omega)
   go_upto_region 3 with fail;refine jp ?_;refine fC (k:Int) (n:Int) (by omega) ?_;refine bV hb hB0 hB1 fun X1 hX1 hb hB0 hB1=>?_;have hcx:=hcx.below hX1 hbb;replace hbb:=Nat.lt_of_lt_of_le hbb (hX1).size;go_upto_region 4 with fail;refine jq 2 ?_;refine jv (vP b (off+k * 9)) (aY Tryz.underlying24 bF _ _ (by rfl) b (off) n cp k (by omega) (by rfl) (by rfl) rfl) ?_;refine jg (.agg #[.bool x.c.1,st x.c.2.1,st x.c.2.2,.bool x.m.1,st x.m.2.1,st x.m.2.2,.bool x.s.1,st x.s.2.1,st x.s.2.2]) (fun X hX hF=>bM 66 _ (by rfl) b (off+k * 9) (by rfl) Tryz.underlying66 rfl [.bool x.c.1,vS x.c.2.1,vS x.c.2.2,.bool x.m.1,vS x.m.2.1,vS x.m.2.2,.bool x.s.1,vS x.s.2.1,vS x.s.2.2] X (Cl.part (hcx.below hX hbb) 0 _ (by rfl)) bF) ?_;refine bV hb hB0 hB1 fun X2 hX2 hb hB0 hB1=>?_;have hcx:=hcx.below hX2 hbb;replace hbb:=Nat.lt_of_lt_of_le hbb (hX2).size;go_upto_region 5 with (refine osn 66 7 13 #[.bool x.c.1,vS x.c.2.1,vS x.c.2.2,.bool x.m.1,vS x.m.2.1,vS x.m.2.2,.bool x.s.1,vS x.s.2.1,vS x.s.2.2] bF ?_);obtain ⟨Y2,hY9,hD7,hS9⟩:=aZ X2 66 [.bool x.c.1,vS x.c.2.1,vS x.c.2.2,.bool x.m.1,vS x.m.2.1,vS x.m.2.2,.bool x.s.1,vS x.s.2.1,vS x.s.2.2]
   rw [← hY9];clear hY9;have hgs7:=hb.size;have hlt7x0:=hB0.lt;have hlt7x1:=hB1.lt;have hcx:=hcx.below hS9 hbb;replace hbb:=Nat.lt_of_lt_of_le hbb (hS9).size;obtain ⟨hB0,hB1⟩:=bl2 hS9 hB0 hB1;have hb:=aG hb hS9;clear hS9;generalize X2.heap.size=g7 at *;refine aT [] (by kernel_rfl) (by kernel_rfl) (by kernel_rfl) rfl (aF) ?_;simp only [its,List.dropLast,Nat.zero_add,Nat.reduceAdd];refine ja hB1 Tryz.underlying23 (by rfl) aB ?_;refine jm (.func (.func 38) #[] #[]) ?_;refine ja hD7 Tryz.underlying66 (by rfl) bF ?_;refine gP (by rfl) 38 _ _ _ (by rfl) (by rfl) (.agg #[.bool x.c.1,vS x.c.2.1,vS x.c.2.2]) [.agg #[.bool x.c.1,vS x.c.2.1,vS x.c.2.2,.bool x.m.1,vS x.m.2.1,vS x.m.2.2,.bool x.s.1,vS x.s.2.1,vS x.s.2.2]] (by rfl) (by kernel_rfl) (fun _=>by go_simp) (fun X hX hF=>conC x X) ?_;simp only [pX];refine jc (rt (rN (s+(trq x.c))) (rP (s+(trq x.c))) (rD (s+(trq x.c)))) (fun X hX hF=>pY (rN s) (rP s) (rD s) x.c.1 x.c.2.1 x.c.2.2 (bH s) rfl X (tzR LB0 (by omega)) (hxz.mono (by omega))) ?_;refine bD hb hB0 hB1 hD7 fun X3 hX3 hb hB0 hB1 hD7=>?_;obtain ⟨s',hs'⟩:∃ s',s'=s+trq x.c:=⟨_,rfl⟩
   have HS2:Hid (s'=sm (k+1) (ct l)):=by
    show _=_
    rw [cB,← HS.out,hs',HX.out]
    rfl
   rw [← hs'];clear hs';refine osb 23 5 18 (w.heap.size+1) 23 hB1 [.bool (rN s'),vS (rP s'),vS (rD s')] aB ?_;intro w5s hR9 hO9 hB9 hs9;have hb:=hB9 _ _ hb (by omega);have hB0:=hO9 _ _ _ (by omega) hB0;have hD7:=hO9 _ _ _ (by omega) hD7;have hB1:=hR9;clear hO9 hB9 hR9 hs9;refine wpList_nil ?_;go_upto_region 6 with fail;refine jp ?_;refine jv (vI ((k+1:Nat):Int)) (bB _ _ _ _ (by rfl) (k:Int) 1 ((k+1:Nat):Int) (by rfl) (by rfl) (by omega) (by omega) (by omega)) ?_;refine jm (vI ((k+1:Nat):Int)) ?_;refine bD hb hB0 hB1 hD7 fun X4 hX4 hb hB0 hB1 hD7=>?_
   go_wp2
   go_roundw
   case rel=>exact ⟨k+1,s',by omega,rfl,HS2,hB1,hB0,hb⟩
   case measure=>simp [intOf];omega
  ·obtain rfl:k=n:=by omega
   have HT:Hid (s=thr l):=by
    show _=_
    unfold thr
    rw [HLN.out];exact HS.out
   go_upto_region 3 with fail;refine jp ?_;refine fD (k:Int) (k:Int) (by omega) ?_;refine bV hb hB0 hB1 fun X1 hX1 hb hB0 hB1=>?_;go_upto_region 7 with fail;refine jq 1 ?_;refine ja hB1 Tryz.underlying23 (by rfl) aB ?_;refine bV hb hB0 hB1 fun X2 hX2 hb hB0 hB1=>?_;refine osb 23 4 20 w.heap.size 23 hB0 [.bool (rN s),vS (rP s),vS (rD s)] aB ?_;intro w9 hR9 hO9 hB9 hs9;have hb9:=hB9 _ _ hb (by omega);clear hO9 hB9
   go_wp2
   refine aX rfl rfl (by rfl) Tryz.underlying23 rfl hR9 aB ⟨by rw [← HT.out],hb9⟩
theorem chk0 (p:Tr) (v:Value) (l:List Ho) (w:World) (hv:Hl l v w) (hs:Hid (Szp l 40000)) (hp:tz p.2.1 p.2.2 1000000) (h:20<l.length):Calls Tryz.prog 21 #[.agg #[.bool p.1,vS p.2.1,vS p.2.2,v]] w fun e w'=>e=.returned (vI (chE p l))∧Since w w':=by
 obtain ⟨A,n,cp,rfl,hln,hn1,hr⟩:=hv.at;clear hv
 have HRX:Hid (∀ X,Since w X→Rd X 9 (.slice A n cp) n (fl hoc l)):=fun X h=>hr.below h
 have HLN:=Lib.hid hln;rw [hln] at h;clear hr
 go_enter Tryz.func21,Tryz.ntmps21
 go_upto_region 1 with fail;obtain ⟨W0,hW0,hB0,hb⟩:=aZ w 26 [.bool p.1,vS p.2.1,vS p.2.2,.slice A n cp];rw [← hW0];clear hW0;refine jp ?_;refine jnf hB0 3 aR ?_;refine jv (vI n) (aJ Tryz.underlying24 _ (by rfl) A n cp (by rfl) _ rfl) ?_;refine mV (n:Int) 20 (by omega) ?_;refine bZ hb hB0 fun X1 hX1 hb hB0=>?_;go_upto_region 2 with fail;refine jp ?_;refine jm (vI 2) ?_;refine bZ hb hB0 fun X2 hX2 hb hB0=>?_;have HC:Hid (chE p l=2):=qQj (by rw [HLN.out];exact h)
 go_wp2
 go_ret
 exact ⟨by rw [HC.out];rfl,hb⟩
theorem chkM (p:Tr) (v:Value) (l:List Ho) (w:World) (hv:Hl l v w) (hs:Hid (Szp l 40000)) (hp:tz p.2.1 p.2.2 1000000) (h:l.length≤20):Calls Tryz.prog 21 #[.agg #[.bool p.1,vS p.2.1,vS p.2.2,v]] w fun e w'=>e=.returned (vI (chE p l))∧Since w w':=by
 obtain ⟨A,n,cp,rfl,hln,hn1,hr⟩:=hv.at;clear hv
 have HRX:Hid (∀ X,Since w X→Rd X 9 (.slice A n cp) n (fl hoc l)):=fun X h=>hr.below h
 have HLN:=Lib.hid hln
 have h20:n≤20:=by omega
 clear hr
 go_enter Tryz.func21,Tryz.ntmps21
 go_upto_region 1 with fail;obtain ⟨W0,hW0,hB0,hb⟩:=aZ w 26 [.bool p.1,vS p.2.1,vS p.2.2,.slice A n cp];rw [← hW0];clear hW0;refine jp ?_;refine jnf hB0 3 aR ?_;refine jv (vI n) (aJ Tryz.underlying24 _ (by rfl) A n cp (by rfl) _ rfl) ?_;refine iO (n:Int) 20 (by omega) ?_;refine bZ hb hB0 fun X1 hX1 hb hB0=>?_;obtain ⟨pb,pb9⟩:∃ z,fnT p=z:=⟨_,rfl⟩;have HP:=Lib.hid pb9;clear pb9
 have HPL:Hid (fnL [p]=pb):=by
  show _=_
  rw [← HP.out]
  unfold fnL
  simp
 have HPS:Hid (∀ k,tz (xt [p] k).2.1 (xt [p] k).2.2 1000000):=fun k=>by
  rcases k with _|k
  ·exact hp
  ·exact dK
 go_upto_region 3 with fail;refine bC [none,none,some (Rl [p])] (aA (aA (aD (Rl.lasts [p]) (aF)))) ?_;simp only [iX,Nat.reduceAdd];refine jn (vP w.heap.size 0) ?_;refine jg (.agg #[.bool p.1,st p.2.1,st p.2.2]) (fun X hX hF=>aK 23 _ (by rfl) w.heap.size 0 [.bool p.1,vS p.2.1,vS p.2.2] (by rfl) Tryz.underlying23 rfl X (hB0.bel hX) (by rfl) aB) ?_;refine aW (by rfl) (fun X hX hF=>Rl.mk [p] 1 rfl (by decide) (by unfold execOp;go_simp;rfl)) ?_;intro v14;simp only [pX];refine jc (.bool pb) (fun X hX hF=>mo (rF _ [p] X (hF _ _ List.mem_cons_self rfl) HPS) (by rw [HPL.out])) ?_;refine jm (.bool pb) ?_;refine aH ?_;intro X2 hX2 hF;have hv14:=hF _ _ List.mem_cons_self;replace hB0:=hB0.bel hX2;have hb:=aG hb hX2;clear hF hX2;clear hv14;go_upto_region 4 with fail;refine jp ?_;refine jnf hB0 3 aR ?_;refine jv (vI n) (aJ Tryz.underlying24 _ (by rfl) A n cp (by rfl) _ rfl) ?_;refine jm (vI 0) ?_;refine bZ hb hB0 fun X3 hX3 hb hB0=>?_
 go_wp2
 go_loopw [3,19] (fun av kv wr=>∃ (k:Nat) (a:Bool),k≤n∧av=.bool a∧kv=vI k∧Hid (a=true↔fnT p=true∧∀ j,j<k→fnH (ho l j)=true)∧Blk wr w.heap.size 26 [.bool p.1,vS p.2.1,vS p.2.2,.slice A n cp]∧Below w.heap.size w wr) (fun _ kv _=>n-(intOf kv).toNat)
 case atStart=>exact ⟨0,pb,by omega,rfl,rfl,⟨fun h9=>⟨by rw [HP.out,h9],fun j hj=>by omega⟩,fun h9=>by rw [← HP.out,h9.1]⟩,hB0,hb⟩
 case round =>
  clear hB0 hb;obtain ⟨k,a,hk,rfl,rfl,HA,hB0,hb⟩:=hrel
  rcases Nat.lt_or_ge k n with hlt|hlt
  ·obtain ⟨b,off,rfl,hbb,hcx⟩:=iR (HRX.out _ hb) HLN.out hlt
   obtain ⟨x,x9⟩:∃ x,x=ho l k:=⟨_,rfl⟩;have HX:=Lib.hid x9;clear x9;rw [← HX.out] at hcx
   change Cl wr b (off+k * 9) [.bool x.c.1,vS x.c.2.1,vS x.c.2.2,.bool x.m.1,vS x.m.2.1,vS x.m.2.2,.bool x.s.1,vS x.s.2.1,vS x.s.2.2] at hcx
   go_upto_region 5 with fail;refine jp ?_;refine fC (k:Int) (n:Int) (by omega) ?_;refine bZ hb hB0 fun X1 hX1 hb hB0=>?_;have hcx:=hcx.below hX1 hbb;replace hbb:=Nat.lt_of_lt_of_le hbb (hX1).size;go_upto_region 6 with fail;refine jq 2 ?_;refine jv (vP b (off+k * 9)) (aY Tryz.underlying24 bF _ _ (by rfl) b (off) n cp k (by omega) (by rfl) (by rfl) rfl) ?_;refine jg (.agg #[.bool x.c.1,st x.c.2.1,st x.c.2.2,.bool x.m.1,st x.m.2.1,st x.m.2.2,.bool x.s.1,st x.s.2.1,st x.s.2.2]) (fun X hX hF=>bM 66 _ (by rfl) b (off+k * 9) (by rfl) Tryz.underlying66 rfl [.bool x.c.1,vS x.c.2.1,vS x.c.2.2,.bool x.m.1,vS x.m.2.1,vS x.m.2.2,.bool x.s.1,vS x.s.2.1,vS x.s.2.2] X (Cl.part (hcx.below hX hbb) 0 _ (by rfl)) bF) ?_;refine bZ hb hB0 fun X2 hX2 hb hB0=>?_;have hcx:=hcx.below hX2 hbb;replace hbb:=Nat.lt_of_lt_of_le hbb (hX2).size;go_upto_region 7 with (refine osn 66 5 22 #[.bool x.c.1,vS x.c.2.1,vS x.c.2.2,.bool x.m.1,vS x.m.2.1,vS x.m.2.2,.bool x.s.1,vS x.s.2.1,vS x.s.2.2] bF ?_);obtain ⟨Y2,hY9,hD5,hS9⟩:=aZ X2 66 [.bool x.c.1,vS x.c.2.1,vS x.c.2.2,.bool x.m.1,vS x.m.2.1,vS x.m.2.2,.bool x.s.1,vS x.s.2.1,vS x.s.2.2]
   rw [← hY9];clear hY9;have hgs5:=hb.size;have hlt5x0:=hB0.lt;have hcx:=hcx.below hS9 hbb;replace hbb:=Nat.lt_of_lt_of_le hbb (hS9).size;have hB0:=hB0.bel hS9;have hb:=aG hb hS9;clear hS9;generalize X2.heap.size=g5 at *
   rcases a with _|_
   ·have HA2:Hid (false=true↔fnT p=true∧∀ j,j<k+1→fnH (ho l j)=true):=⟨fun h9=>(by cases h9),fun h9=>HA.out.2 ⟨h9.1,fun j hj=>h9.2 j (by omega)⟩⟩
    refine jp ?_;refine jmm (.bool false) (.bool false) ?_;refine vE ?_;refine jmm (.bool false) (.bool false) ?_;refine bV hb hB0 hD5 fun X3 hX3 hb hB0 hD5=>?_;go_upto_region 8 with fail;refine jp ?_;refine jv (vI ((k+1:Nat):Int)) (bB _ _ _ _ (by rfl) (k:Int) 1 ((k+1:Nat):Int) (by rfl) (by rfl) (by omega) (by omega) (by omega)) ?_;refine jm (vI ((k+1:Nat):Int)) ?_;refine bV hb hB0 hD5 fun X4 hX4 hb hB0 hD5=>?_
    go_wp2
    go_roundw
    case rel=>exact ⟨k+1,false,by omega,rfl,rfl,HA2,hB0,hb⟩
    case measure=>simp [intOf];omega
   ·have HFS:Hid (∀ k,tz (xt [x.c,x.m,x.s] k).2.1 (xt [x.c,x.m,x.s] k).2.2 1000000):=fun j=>by
     rcases j with _|_|_|j
     ·exact (by rw [HX.out];exact hs.out.c k:tz x.c.2.1 x.c.2.2 40000).mono (by decide)
     ·exact (by rw [HX.out];exact hs.out.m k:tz x.m.2.1 x.m.2.2 40000).mono (by decide)
     ·exact (by rw [HX.out];exact hs.out.s k:tz x.s.2.1 x.s.2.2 40000).mono (by decide)
     ·exact dK
    obtain ⟨q,q9⟩:∃ z,fnH x=z:=⟨_,rfl⟩;have HQ:=Lib.hid q9;clear q9
    have HQL:Hid (fnL [x.c,x.m,x.s]=q):=by
     show _=_
     rw [← HQ.out]
     unfold fnL fnH
     simp [Bool.and_assoc]
    have HA2:Hid (q=true↔fnT p=true∧∀ j,j<k+1→fnH (ho l j)=true):=⟨fun h9=>⟨(HA.out.1 rfl).1,fun j hj=>by
     rcases Nat.lt_or_ge j k with h8|h8
     ·exact (HA.out.1 rfl).2 j h8
     ·rw [show j=k by omega,← HX.out,HQ.out]
      exact h9⟩,fun h9=>by
     rw [← HQ.out,HX.out]
     exact h9.2 k (by omega)⟩
    refine bC [none,none,none,none,none,none,none,none,some (Rl [x.c,x.m,x.s])] (aA (aA (aA (aA (aA (aA (aA (aA (aD (Rl.lasts [x.c,x.m,x.s]) (aF)))))))))) ?_;simp only [iX,Nat.reduceAdd];refine eK (.bool true) (.bool true) (vP g5 0) ?_;refine jg (.agg #[.bool x.c.1,st x.c.2.1,st x.c.2.2]) (fun X hX hF=>aK 23 _ (by rfl) g5 0 [.bool x.c.1,vS x.c.2.1,vS x.c.2.2] (by rfl) Tryz.underlying23 rfl X (hD5.bel hX) (by rfl) aB) ?_;refine jn (vP g5 3) ?_;refine jg (.agg #[.bool x.m.1,st x.m.2.1,st x.m.2.2]) (fun X hX hF=>aK 23 _ (by rfl) g5 3 [.bool x.m.1,vS x.m.2.1,vS x.m.2.2] (by rfl) Tryz.underlying23 rfl X (hD5.bel hX) (by rfl) aB) ?_;refine jn (vP g5 6) ?_;refine jg (.agg #[.bool x.s.1,st x.s.2.1,st x.s.2.2]) (fun X hX hF=>aK 23 _ (by rfl) g5 6 [.bool x.s.1,vS x.s.2.1,vS x.s.2.2] (by rfl) Tryz.underlying23 rfl X (hD5.bel hX) (by rfl) aB) ?_;refine aW (by rfl) (fun X hX hF=>Rl.mk [x.c,x.m,x.s] 3 rfl (by decide) (by unfold execOp;go_simp;rfl)) ?_;intro v31;simp only [pX];refine jc (.bool q) (fun X hX hF=>mo (rF _ [x.c,x.m,x.s] X (hF _ _ List.mem_cons_self rfl) HFS) (by rw [HQL.out])) ?_;refine jmm (.bool q) (.bool q) ?_;refine aH ?_;intro X3 hX3 hF;have hv31:=hF _ _ List.mem_cons_self
    obtain ⟨hB0,hD5⟩:=bl2 hX3 hB0 hD5;have hb:=aG hb hX3;clear hF hX3;go_upto_region 8 with fail;refine jp ?_;refine jv (vI ((k+1:Nat):Int)) (bB _ _ _ _ (by rfl) (k:Int) 1 ((k+1:Nat):Int) (by rfl) (by rfl) (by omega) (by omega) (by omega)) ?_;refine jm (vI ((k+1:Nat):Int)) ?_;refine bV hb hB0 hD5 fun X4 hX4 hb hB0 hD5=>?_;replace hv31:=(Rl.lasts [x.c,x.m,x.s]) _ _ _ hv31 hX4
    go_wp2
    go_roundw
    case rel=>exact ⟨k+1,q,by omega,rfl,rfl,HA2,hB0,hb⟩
    case measure=>simp [intOf];omega
  ·obtain rfl:k=n:=by omega
   go_upto_region 5 with fail;refine jp ?_;refine fD (k:Int) (k:Int) (by omega) ?_;refine bZ hb hB0 fun X1 hX1 hb hB0=>?_
   rcases a with _|_
   ·go_upto_region 9 with fail
    refine jp ?_;refine jmm (.bool false) (.bool true) ?_;refine bZ hb hB0 fun X2 hX2 hb hB0=>?_;go_upto_region 10 with fail;refine jp ?_;refine jm (vI 1) ?_;refine bZ hb hB0 fun X3 hX3 hb hB0=>?_
    have HC:Hid (chE p l=1):=qQk (by rw [HLN.out];exact h20) (by
     by_cases h9:fnT p=true
     ·refine .inr fun h8=>?_
      have:=HA.out.2 ⟨h9,fun j hj=>h8 j (by rw [HLN.out];exact hj)⟩
      cases this
     ·exact .inl (by simpa using h9))
    go_wp2
    go_ret
    exact ⟨by rw [HC.out];rfl,hb⟩
   ·have HA1:Hid (fnT p=true∧∀ j,j<l.length→fnH (ho l j)=true):=⟨(HA.out.1 rfl).1,fun j hj=>(HA.out.1 rfl).2 j (by rw [← HLN.out];exact hj)⟩
    clear HA;go_upto_region 9 with fail;refine jp ?_;refine jmm (.bool true) (.bool false) ?_;refine bZ hb hB0 fun X2 hX2 hb hB0=>?_;go_upto_region 11 with fail;refine jp ?_;refine jnf hB0 3 aR ?_;refine jv (vI k) (aJ Tryz.underlying24 _ (by rfl) A k cp (by rfl) _ rfl) ?_;refine jm (vI 0) ?_;refine bZ hb hB0 fun X3 hX3 hb hB0=>?_
    go_wp2
    go_loopw [40] (fun kv wr=>∃ i:Nat,i≤k∧kv=vI i∧Hid (∀ j,j<i→ct l j≤mx l j)∧Blk wr w.heap.size 26 [.bool p.1,vS p.2.1,vS p.2.2,.slice A k cp]∧Below w.heap.size w wr) (fun kv _=>k-(intOf kv).toNat)
    case atStart=>exact ⟨0,by omega,rfl,(fun j hj=>by omega),hB0,hb⟩
    case round =>
     clear hB0 hb;obtain ⟨i,hi,rfl,HZ,hB0,hb⟩:=hrel
     rcases Nat.lt_or_ge i k with hlt2|hlt2
     ·obtain ⟨b,off,rfl,hbb,hcx⟩:=iR (HRX.out _ hb) HLN.out hlt2
      obtain ⟨x,x9⟩:∃ x,x=ho l i:=⟨_,rfl⟩;have HX:=Lib.hid x9;clear x9;rw [← HX.out] at hcx
      change Cl wr b (off+i * 9) [.bool x.c.1,vS x.c.2.1,vS x.c.2.2,.bool x.m.1,vS x.m.2.1,vS x.m.2.2,.bool x.s.1,vS x.s.2.1,vS x.s.2.2] at hcx
      have hxc:tz x.c.2.1 x.c.2.2 40000:=by rw [HX.out];exact hs.out.c i
      have hxm:tz x.m.2.1 x.m.2.2 40000:=by rw [HX.out];exact hs.out.m i
      skip
      go_upto_region 12 with fail;refine jp ?_;refine fC (i:Int) (k:Int) (by omega) ?_;refine bZ hb hB0 fun X1 hX1 hb hB0=>?_;have hcx:=hcx.below hX1 hbb;replace hbb:=Nat.lt_of_lt_of_le hbb (hX1).size;go_upto_region 13 with fail;refine jq 2 ?_;refine jv (vP b (off+i * 9)) (aY Tryz.underlying24 bF _ _ (by rfl) b (off) k cp i (by omega) (by rfl) (by rfl) rfl) ?_;refine jg (.agg #[.bool x.c.1,st x.c.2.1,st x.c.2.2,.bool x.m.1,st x.m.2.1,st x.m.2.2,.bool x.s.1,st x.s.2.1,st x.s.2.2]) (fun X hX hF=>bM 66 _ (by rfl) b (off+i * 9) (by rfl) Tryz.underlying66 rfl [.bool x.c.1,vS x.c.2.1,vS x.c.2.2,.bool x.m.1,vS x.m.2.1,vS x.m.2.2,.bool x.s.1,vS x.s.2.1,vS x.s.2.2] X (Cl.part (hcx.below hX hbb) 0 _ (by rfl)) bF) ?_;refine bZ hb hB0 fun X2 hX2 hb hB0=>?_;have hcx:=hcx.below hX2 hbb;replace hbb:=Nat.lt_of_lt_of_le hbb (hX2).size;go_upto_region 14 with (refine osn 66 7 43 #[.bool x.c.1,vS x.c.2.1,vS x.c.2.2,.bool x.m.1,vS x.m.2.1,vS x.m.2.2,.bool x.s.1,vS x.s.2.1,vS x.s.2.2] bF ?_);obtain ⟨Y2,hY9,hD7,hS9⟩:=aZ X2 66 [.bool x.c.1,vS x.c.2.1,vS x.c.2.2,.bool x.m.1,vS x.m.2.1,vS x.m.2.2,.bool x.s.1,vS x.s.2.1,vS x.s.2.2]
      rw [← hY9];clear hY9;have hgs7:=hb.size;have hlt7x0:=hB0.lt;have hcx:=hcx.below hS9 hbb;replace hbb:=Nat.lt_of_lt_of_le hbb (hS9).size;have hB0:=hB0.bel hS9;have hb:=aG hb hS9;clear hS9;generalize X2.heap.size=g7 at *
      by_cases h9:trq x.c≤trq x.m
      ·have hc:=cmpR_le.2 h9
       refine jp ?_;refine jn (vP g7 0) ?_;refine jg (.agg #[.bool x.c.1,st x.c.2.1,st x.c.2.2]) (fun X hX hF=>aK 23 _ (by rfl) g7 0 [.bool x.c.1,vS x.c.2.1,vS x.c.2.2] (by rfl) Tryz.underlying23 rfl X (hD7.bel hX) (by rfl) aB) ?_;refine jn (vP g7 3) ?_;refine jg (.agg #[.bool x.m.1,st x.m.2.1,st x.m.2.2]) (fun X hX hF=>aK 23 _ (by rfl) g7 3 [.bool x.m.1,vS x.m.2.1,vS x.m.2.2] (by rfl) Tryz.underlying23 rfl X (hD7.bel hX) (by rfl) aB) ?_;refine jc (vI (cA (trq x.c) (trq x.m))) (fun X hX hF=>iE x.c.1 x.c.2.1 x.c.2.2 x.m.1 x.m.2.1 x.m.2.2 rfl rfl X (hxc.mono (by omega)) (hxm.mono (by omega))) ?_;refine iO (cA (trq x.c) (trq x.m)) 0 (by omega) ?_;refine bV hb hB0 hD7 fun X3 hX3 hb hB0 hD7=>?_
       have HZ2:Hid (∀ j,j<i+1→ct l j≤mx l j):=fun j hj=>by
        rcases Nat.lt_or_ge j i with h8|h8
        ·exact HZ.out j h8
        ·rw [show j=i by omega]
         unfold ct mx
         rw [← HX.out];exact h9
       go_upto_region 16 with fail;refine jp ?_;refine jv (vI ((i+1:Nat):Int)) (bB _ _ _ _ (by rfl) (i:Int) 1 ((i+1:Nat):Int) (by rfl) (by rfl) (by omega) (by omega) (by omega)) ?_;refine jm (vI ((i+1:Nat):Int)) ?_;refine bV hb hB0 hD7 fun X4 hX4 hb hB0 hD7=>?_
       go_wp2
       go_roundw
       case rel=>exact ⟨i+1,by omega,rfl,HZ2,hB0,hb⟩
       case measure=>simp [intOf];omega
      ·have hc:0<cA (trq x.c) (trq x.m):=Int.not_le.1 fun h8=>h9 (cmpR_le.1 h8)
       refine jp ?_;refine jn (vP g7 0) ?_;refine jg (.agg #[.bool x.c.1,st x.c.2.1,st x.c.2.2]) (fun X hX hF=>aK 23 _ (by rfl) g7 0 [.bool x.c.1,vS x.c.2.1,vS x.c.2.2] (by rfl) Tryz.underlying23 rfl X (hD7.bel hX) (by rfl) aB) ?_;refine jn (vP g7 3) ?_;refine jg (.agg #[.bool x.m.1,st x.m.2.1,st x.m.2.2]) (fun X hX hF=>aK 23 _ (by rfl) g7 3 [.bool x.m.1,vS x.m.2.1,vS x.m.2.2] (by rfl) Tryz.underlying23 rfl X (hD7.bel hX) (by rfl) aB) ?_;refine jc (vI (cA (trq x.c) (trq x.m))) (fun X hX hF=>iE x.c.1 x.c.2.1 x.c.2.2 x.m.1 x.m.2.1 x.m.2.2 rfl rfl X (hxc.mono (by omega)) (hxm.mono (by omega))) ?_;refine mV (cA (trq x.c) (trq x.m)) 0 (by omega) ?_;refine bV hb hB0 hD7 fun X3 hX3 hb hB0 hD7=>?_;go_upto_region 15 with fail;refine jp ?_;refine jm (vI 30) ?_;refine bV hb hB0 hD7 fun X4 hX4 hb hB0 hD7=>?_;have HC:Hid (chE p l=30):=uL (by rw [HLN.out];exact h20) HA1.out.1 HA1.out.2 (.inl fun h8=>h9 (by have:=h8 i (by rw [HLN.out];exact hlt2);unfold ct mx at this;rw [← HX.out] at this;exact this))
       go_wp2
       go_ret
       exact ⟨by rw [HC.out];rfl,hb⟩
     ·obtain rfl:i=k:=by omega
      have HES:Hid (∀ X,Since w X→Hl l (.slice A i cp) X):=fun X h=>by show Rd X 9 _ l.length _;rw [HLN.out];exact HRX.out X h
      have hq20:l.length≤20:=by rw [HLN.out];exact h20
      have hts:szR (thr l) 800021:=szR.mono (iJ fun j _=>hs.out.ct (by decide) j) (show l.length * (40000+1)+1≤800021 by omega);have LB0:szR (thr l) 800021:=hts;go_upto_region 12 with fail;refine jp ?_;refine fD (i:Int) (i:Int) (by omega) ?_;refine bZ hb hB0 fun X1 hX1 hb hB0=>?_
      by_cases h9:thr l≤trq p
      ·have hc:=cmpR_le.2 h9
       go_upto_region 17 with fail;refine jd ?_;refine jnf hB0 3 aR ?_;refine jc (rt (rN (thr l)) (rP (thr l)) (rD (thr l))) (fun X hX hF=>wJ _ l X (HES.out X (Since.next hb hX)) hs (by rw [HLN.out];exact h20)) ?_;refine jn (vP w.heap.size 0) ?_;refine jg (.agg #[.bool p.1,st p.2.1,st p.2.2]) (fun X hX hF=>aK 23 _ (by rfl) w.heap.size 0 [.bool p.1,vS p.2.1,vS p.2.2] (by rfl) Tryz.underlying23 rfl X (hB0.bel hX) (by rfl) aB) ?_;refine jc (vI (cA (thr l) (trq p))) (fun X hX hF=>iE (rN (thr l)) (rP (thr l)) (rD (thr l)) p.1 p.2.1 p.2.2 (bH (thr l)) rfl X (tzR LB0 (by omega)) (hp.mono (by omega))) ?_;refine iO (cA (thr l) (trq p)) 0 (by omega) ?_;refine bZ hb hB0 fun X2 hX2 hb hB0=>?_;go_upto_region 19 with fail;refine jp ?_;refine jm (vI 0) ?_;refine bZ hb hB0 fun X3 hX3 hb hB0=>?_;have HC:Hid (chE p l=0):=chE_ok.2 ⟨by rw [HLN.out];exact h20,HA1.out.1,HA1.out.2,fun j hj=>HZ.out j (by rw [← HLN.out];exact hj),h9⟩
       go_wp2
       go_ret
       exact ⟨by rw [HC.out];rfl,hb⟩
      ·have hc:0<cA (thr l) (trq p):=Int.not_le.1 fun h8=>h9 (cmpR_le.1 h8)
       go_upto_region 17 with fail;refine jd ?_;refine jnf hB0 3 aR ?_;refine jc (rt (rN (thr l)) (rP (thr l)) (rD (thr l))) (fun X hX hF=>wJ _ l X (HES.out X (Since.next hb hX)) hs (by rw [HLN.out];exact h20)) ?_;refine jn (vP w.heap.size 0) ?_;refine jg (.agg #[.bool p.1,st p.2.1,st p.2.2]) (fun X hX hF=>aK 23 _ (by rfl) w.heap.size 0 [.bool p.1,vS p.2.1,vS p.2.2] (by rfl) Tryz.underlying23 rfl X (hB0.bel hX) (by rfl) aB) ?_;refine jc (vI (cA (thr l) (trq p))) (fun X hX hF=>iE (rN (thr l)) (rP (thr l)) (rD (thr l)) p.1 p.2.1 p.2.2 (bH (thr l)) rfl X (tzR LB0 (by omega)) (hp.mono (by omega))) ?_;refine mV (cA (thr l) (trq p)) 0 (by omega) ?_;refine bZ hb hB0 fun X2 hX2 hb hB0=>?_;go_upto_region 18 with fail;refine jp ?_;refine jm (vI 30) ?_;refine bZ hb hB0 fun X3 hX3 hb hB0=>?_;have HC:Hid (chE p l=30):=uL (by rw [HLN.out];exact h20) HA1.out.1 HA1.out.2 (.inr (Rat.not_le.1 h9))
       go_wp2
       go_ret
       exact ⟨by rw [HC.out];rfl,hb⟩
theorem iU (p:Tr) (v:Value) (l:List Ho) (w:World) (hv:Hl l v w) (hs:Hid (Szp l 40000)) (hp:tz p.2.1 p.2.2 1000000):Calls Tryz.prog 21 #[.agg #[.bool p.1,vS p.2.1,vS p.2.2,v]] w fun e w'=>e=.returned (vI (chE p l))∧Since w w':=by
 rcases Nat.lt_or_ge 20 l.length with h|h
 ·exact chk0 p v l w hv hs hp h
 ·exact chkM p v l w hv hs hp h
def toV (p:Tr) (l:List Ho):Rat:=if chE p l=0 then thr l else 0
theorem tot0 (p:Tr) (v:Value) (l:List Ho) (w:World) (hv:Hl l v w) (hs:Hid (Szp l 40000)) (hp:tz p.2.1 p.2.2 1000000) (h:chE p l≠0):Calls Tryz.prog 9 #[.agg #[.bool p.1,vS p.2.1,vS p.2.2,v]] w fun e w'=>e=.returned (.tuple #[.agg #[.bool (rN (toV p l)),vS (rP (toV p l)),vS (rD (toV p l))],vI (chE p l)])∧Since w w':=by
 have HV:Hid (∀ X,Since w X→Hl l v X):=fun X h=>Hl.lasts l _ _ _ hv h
 clear hv;obtain ⟨z,z9⟩:∃ z,chE p l=z:=⟨_,rfl⟩;have HZ:=Lib.hid z9;clear z9
 have hz0:z≠0:=by rw [← HZ.out];exact h
 have HT:Hid (toV p l=0):=if_neg (by rw [HZ.out];exact hz0);clear h
 go_enter Tryz.func9,Tryz.ntmps9
 go_upto_region 1 with fail;obtain ⟨W0,hW0,hB0,hB1,hb⟩:=cI w 26 23 [.bool p.1,vS p.2.1,vS p.2.2,v] [.bool false,.string ⟨#[]⟩,.string ⟨#[]⟩];rw [← hW0];clear hW0;refine jp ?_;refine ja hB0 Tryz.underlying26 (by rfl) aL ?_;refine jc (vI z) (fun X hX hF=>mo (iU p v l X (HV.out X (Since.next hb hX)) hs hp) (by rw [HZ.out])) ?_;refine jm (vI z) ?_;refine bV hb hB0 hB1 fun X1 hX1 hb hB0 hB1=>?_;go_upto_region 2 with fail;refine jp ?_;refine jm (vI z) ?_;refine jv (.bool true) (bE _ _ _ _ (by rfl) .i64 z 0 (by rfl) (by rfl) true (by rw [decide_eq_false (by omega)];rfl)) ?_;refine bV hb hB0 hB1 fun X2 hX2 hb hB0 hB1=>?_;go_upto_region 3 with fail;refine jq 2 ?_;refine jn (rz) ?_;refine jm (vI z) ?_;refine bV hb hB0 hB1 fun X3 hX3 hb hB0 hB1=>?_;refine osb 23 2 9 (w.heap.size+1) 23 hB1 [.bool false,.string ⟨#[]⟩,.string ⟨#[]⟩] aB ?_;intro w9 hR9 hO9 hB9 hs9;have hb9:=hB9 _ _ hb (by omega);have hB0:=hO9 _ _ _ (by omega) hB0;clear hO9 hB9
 go_wp2
 refine bJ (v:=vI z) rfl rfl (by rfl) (by rfl) Tryz.underlying23 rfl hR9 aB ⟨by rw [HT.out,HZ.out];rfl,hb9⟩
theorem tot1 (p:Tr) (v:Value) (l:List Ho) (w:World) (hv:Hl l v w) (hs:Hid (Szp l 40000)) (hp:tz p.2.1 p.2.2 1000000) (h:chE p l=0):Calls Tryz.prog 9 #[.agg #[.bool p.1,vS p.2.1,vS p.2.2,v]] w fun e w'=>e=.returned (.tuple #[.agg #[.bool (rN (toV p l)),vS (rP (toV p l)),vS (rD (toV p l))],vI (chE p l)])∧Since w w':=by
 have HV:Hid (∀ X,Since w X→Hl l v X):=fun X h=>Hl.lasts l _ _ _ hv h
 clear hv;have HZ:Hid (chE p l=0):=h;have h20:=(chE_ok.1 h).few;have HT:Hid (toV p l=thr l):=if_pos h;clear h
 go_enter Tryz.func9,Tryz.ntmps9
 go_upto_region 1 with fail;obtain ⟨W0,hW0,hB0,hB1,hb⟩:=cI w 26 23 [.bool p.1,vS p.2.1,vS p.2.2,v] [.bool false,.string ⟨#[]⟩,.string ⟨#[]⟩];rw [← hW0];clear hW0;refine jp ?_;refine ja hB0 Tryz.underlying26 (by rfl) aL ?_;refine jc (vI 0) (fun X hX hF=>mo (iU p v l X (HV.out X (Since.next hb hX)) hs hp) (by rw [HZ.out])) ?_;refine jm (vI 0) ?_;refine bV hb hB0 hB1 fun X1 hX1 hb hB0 hB1=>?_;go_upto_region 2 with fail;refine jp ?_;refine jm (vI 0) ?_;refine jv (.bool false) (bE _ _ _ _ (by rfl) .i64 0 0 (by rfl) (by rfl) false (by rw [decide_eq_true (by omega)];rfl)) ?_;refine bV hb hB0 hB1 fun X2 hX2 hb hB0 hB1=>?_;go_upto_region 4 with fail;refine jq 3 ?_;refine jnf hB0 3 aR ?_;refine jc (rt (rN (thr l)) (rP (thr l)) (rD (thr l))) (fun X hX hF=>wJ v l X (HV.out X (Since.next hb hX)) hs h20) ?_;refine bV hb hB0 hB1 fun X3 hX3 hb hB0 hB1=>?_;refine osb 23 2 13 (w.heap.size+1) 23 hB1 [.bool (rN (thr l)),vS (rP (thr l)),vS (rD (thr l))] aB ?_;intro w9 hR9 hO9 hB9 hs9;have hb9:=hB9 _ _ hb (by omega);have hB0:=hO9 _ _ _ (by omega) hB0;clear hO9 hB9
 go_wp2
 refine bJ (v:=vI 0) rfl rfl (by rfl) (by rfl) Tryz.underlying23 rfl hR9 aB ⟨by rw [HT.out,HZ.out],hb9⟩
theorem wB (p:Tr) (v:Value) (l:List Ho) (w:World) (hv:Hl l v w) (hs:Hid (Szp l 40000)) (hp:tz p.2.1 p.2.2 1000000):Calls Tryz.prog 9 #[.agg #[.bool p.1,vS p.2.1,vS p.2.2,v]] w fun e w'=>e=.returned (.tuple #[.agg #[.bool (rN (toV p l)),vS (rP (toV p l)),vS (rD (toV p l))],vI (chE p l)])∧Since w w':=by
 by_cases h:chE p l=0
 ·exact tot1 p v l w hv hs hp h
 ·exact tot0 p v l w hv hs hp h
end Go.Proofs.YtnfpenhldlfafaaGreatDoor

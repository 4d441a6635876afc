/- The reference of layer 44: sum, Balance, Sums, Trace. -/
import Derived.Test.YtffgfkcljcollaaGreatDoorRb44
set_option linter.unusedSimpArgs false
set_option linter.unusedVariables false
set_option maxRecDepth 100000
set_option maxHeartbeats 1600000
namespace Go.Proofs.YtffgfkcljcollaaGreatDoor
open Go.RowKit
theorem vJ {l:List En} {B:Nat} (h1:1≤B) (hx:∀ k,tz (en l k).am.2.1 (en l k).am.2.2 B) (a f t k:Int):∀ n,szR (bN l a f t k n) (n * (2 * B+2)+1)
 | 0=>szR_zero.mono (by omega)
 | n+1=>by
  rw [pI]
  have e:szR (itm (en l n) a f t k) (2 * B+1):=by
   unfold itm
   split
   ·exact qQe h1 (hx _) a
   ·exact szR_zero.mono (by omega)
  refine (mM (vJ h1 hx a f t k n) e).mono ?_;rw [Nat.succ_mul n (2 * B+2)]
  omega
theorem tO {x:En} {a f t k:Int} (h:x.day<f∨t<x.day∨(0<k∧x.kd≠k)):itm x a f t k=0:=by
 unfold itm
 rw [if_neg]
 unfold sel
 simp only [Bool.and_eq_true,Bool.or_eq_true,decide_eq_true_eq]
 rintro ⟨⟨h1,h2⟩,h3⟩
 omega
theorem gE {x:En} {a f t k:Int} (h1:f≤x.day) (h2:x.day≤t) (h3:k=0∨x.kd=k):itm x a f t k=ent x a:=by
 unfold itm
 rw [if_pos]
 unfold sel
 simp only [Bool.and_eq_true,Bool.or_eq_true,decide_eq_true_eq];exact ⟨⟨h1,h2⟩,h3⟩
theorem qQg {x:En} {a:Int} (h1:x.deb=a) (h2:x.cre≠a):ent x a=trq x.am:=by
 unfold ent
 rw [if_pos h1,if_neg h2]
 grind
theorem qQh {x:En} {a:Int} (h1:x.deb≠a) (h2:x.cre=a):ent x a=0-trq x.am:=by
 unfold ent
 rw [if_neg h1,if_pos h2]
theorem qQi {x:En} {a:Int} (h1:x.deb=a) (h2:x.cre=a) (s:Rat):s+ent x a=s+trq x.am-trq x.am:=by
 unfold ent
 rw [if_pos h1,if_pos h2]
 grind
theorem qQf {x:En} {a:Int} (h1:x.deb≠a) (h2:x.cre≠a):ent x a=0:=by
 unfold ent
 rw [if_neg h1,if_neg h2]
 grind
theorem rsuC (c:Int) (v:Value) (l:List En) (a f t kd:Int) (w:World) (hv:Es l v w) (hs1:Hid (∀ k,tz (en l k).am.2.1 (en l k).am.2.2 100)) (hl4:l.length≤4000) (hk0:0≤kd):Calls Tryz.prog 34 #[.agg #[vI c,v],vI a,vI f,vI t,vI kd] w fun e w'=>e=.returned (rbv (bal l a f t kd))∧Since w w':=by
 obtain ⟨A,n,cp,rfl,hln,hn1,hr⟩:=hv.at;clear hv;have HRX:=bV hr;have HLN:=Lib.hid hln;clear hr;have HES:=cA HLN HRX;rw [hln] at hl4
 go_enter Tryz.func34,Tryz.ntmps34
 go_upto_region 1 with fail;obtain ⟨W0,hW0,hB0,hB1,hb⟩:=bL w 24 26 [vI c,.slice A n cp] [.bool false,.string ⟨#[]⟩,.string ⟨#[]⟩];rw [← hW0];clear hW0;refine jq 1 ?_;refine jn (rz) ?_;refine jzb hb fun X1 hX1 hb=>?_;obtain ⟨hB0,hB1⟩:=bl2 hX1 hB0 hB1;go_upto_region 2 with (refine osn 26 11 14 #[.bool false,.string ⟨#[]⟩,.string ⟨#[]⟩] aC ?_);obtain ⟨Y1,hY9,hD11,hS9⟩:=aQ X1 26 [.bool false,.string ⟨#[]⟩,.string ⟨#[]⟩];rw [← hY9];clear hY9;have hgs11:=hb.size;have hlt11x0:=hB0.lt;have hlt11x1:=hB1.lt;obtain ⟨hB0,hB1⟩:=bl2 hS9 hB0 hB1;have hb:=aF hb hS9;clear hS9;generalize X1.heap.size=g11 at *;refine jp ?_;refine jm (vI 0) ?_;refine jzb hb fun X2 hX2 hb=>?_;obtain ⟨hB0,hB1,hD11⟩:=bl3 hX2 hB0 hB1 hD11
 go_wp2
 go_loopw [12] (fun kv wr=>∃ k:Nat,k≤n∧kv=vI k∧Blk wr g11 26 [.bool (rN (bN l a f t kd k)),vS (rP (bN l a f t kd k)),vS (rD (bN l a f t kd k))]∧Blk wr w.heap.size 24 [vI c,.slice A n cp]∧Blk wr (w.heap.size+1) 26 [.bool false,.string ⟨#[]⟩,.string ⟨#[]⟩]∧Below w.heap.size w wr) (fun kv _=>n-(intOf kv).toNat)
 case atStart=>exact ⟨0,by omega,rfl,hD11,hB0,hB1,hb⟩
 case round =>
  clear hD11 hB0 hB1 hb;obtain ⟨k,hk,rfl,hD11,hB0,hB1,hb⟩:=hrel
  rcases Nat.lt_or_ge k n with hlt|hlt
  ·obtain ⟨b,off,rfl,hbb,hcx⟩:=fI (HRX.out _ hb) HLN.out hlt
   obtain ⟨x,x9⟩:∃ x,x=en l k:=⟨_,rfl⟩;have HX:=Lib.hid x9;clear x9;rw [← HX.out] at hcx
   change Cl wr b (off+k * 13) (eL x) at hcx
   have hxs:tz x.am.2.1 x.am.2.2 100:=by rw [HX.out];exact hs1.out k
   have HSB:szR (bN l a f t kd k) 900000:=(vJ (by decide) hs1.out a f t kd k).mono (by omega)
   have HNX:Hid (bN l a f t kd (k+1)=(bN l a f t kd k)+itm x a f t kd):=by
    show _=_
    rw [pI,← HX.out]
   have LB0:szR (bN l a f t kd k) 900000:=HSB;have LB2:szR (trq x.am) 100:=lM rfl hxs;have LB1:szR ((bN l a f t kd k)+(trq x.am)) 900101:=mM LB0 LB2;go_upto_region 3 with fail;refine jp ?_;refine jm (vI k) ?_;refine jn (vP w.heap.size 1) ?_;refine jf _ hB0 1 aK ?_;refine jv (vI n) (aN Tryz.underlying22 _ (by rfl) (some ⟨b,off,none⟩) n cp (by rfl) _ rfl) ?_;refine cP (k:Int) (n:Int) (by omega) ?_;refine jzb hb fun X1 hX1 hb=>?_;obtain ⟨hB0,hB1,hD11⟩:=bl3 hX1 hB0 hB1 hD11;have hcx:=hcx.below hX1 hbb;replace hbb:=Nat.lt_of_lt_of_le hbb (hX1).size;go_upto_region 5 with fail;refine jq 5 ?_;refine jn (vP w.heap.size 1) ?_;refine jf _ hB0 1 aK ?_;refine jm (vI k) ?_;refine jv (vP b (off+k * 13)) (aW Tryz.underlying22 aI _ _ (by rfl) b (off) n cp k (by omega) (by rfl) (by rfl) rfl) ?_;refine jg (.agg #[vI x.day,vI x.deb,vI x.cre,.bool x.am.1,st x.am.2.1,st x.am.2.2,vI x.kd,vI x.pd,vI x.rf,vI x.w1,vI x.w2,vI x.w3,vI x.w4]) (fun X hX hF=>cH 32 _ (by rfl) b (off+k * 13) (by rfl) Tryz.underlying32 rfl (eL x) X (Cl.part (hcx.below hX hbb) 0 _ (by rfl)) aI) ?_
   refine jzb hb fun X2 hX2 hb=>?_;obtain ⟨hB0,hB1,hD11⟩:=bl3 hX2 hB0 hB1 hD11;have hcx:=hcx.below hX2 hbb;replace hbb:=Nat.lt_of_lt_of_le hbb (hX2).size;go_upto_region 6 with (refine osn 32 13 26 #[vI x.day,vI x.deb,vI x.cre,.bool x.am.1,vS x.am.2.1,vS x.am.2.2,vI x.kd,vI x.pd,vI x.rf,vI x.w1,vI x.w2,vI x.w3,vI x.w4] aI ?_);obtain ⟨Y2,hY9,hD13,hS9⟩:=aQ X2 32 (eL x);rw [← hY9];clear hY9;have hgs13:=hb.size;have hlt13x0:=hB0.lt;have hlt13x1:=hB1.lt;have hlt13x2:=hD11.lt;have hcx:=hcx.below hS9 hbb;replace hbb:=Nat.lt_of_lt_of_le hbb (hS9).size;obtain ⟨hB0,hB1,hD11⟩:=bl3 hS9 hB0 hB1 hD11;have hb:=aF hb hS9;clear hS9;generalize X2.heap.size=g13 at *
   rcases (show x.day<f∨(f≤x.day∧t<x.day)∨(f≤x.day∧x.day≤t∧0<kd∧x.kd≠kd)∨(f≤x.day∧x.day≤t∧kd=0)∨(f≤x.day∧x.day≤t∧0<kd∧x.kd=kd) by omega) with hd|hd|hd|hd|hd
   ·refine jp ?_
    refine jn (vP g13 0) ?_;refine jf _ hD13 0 aB ?_;refine jm (vI f) ?_;refine cP x.day f (by omega) ?_;refine jm (.bool true) ?_;refine js ?_;refine js ?_;refine js ?_;refine js ?_;refine jm (.bool true) ?_;refine jm (.bool true) ?_;refine js ?_;refine js ?_;refine js ?_;refine js ?_;refine js ?_;refine js ?_;refine js ?_;refine js ?_;refine js ?_;refine jm (.bool true) ?_;refine jzb hb fun X3 hX3 hb=>?_;obtain ⟨hB0,hB1,hD11,hD13⟩:=bl4 hX3 hB0 hB1 hD11 hD13
    have HN2:Hid ((bN l a f t kd k)=bN l a f t kd (k+1)):=by
     show _=_
     rw [HNX.out];rw [tO (by omega),Rat.add_zero]
    rw [HN2.out] at hD11;go_upto_region 4 with fail;refine jp ?_;refine jm (vI k) ?_;refine jv (vI ((k+1:Nat):Int)) (aU _ _ _ _ (by rfl) (k:Int) 1 ((k+1:Nat):Int) (by rfl) (by rfl) (by omega) (by omega) (by omega)) ?_;refine jm (vI ((k+1:Nat):Int)) ?_;refine jzb hb fun X4 hX4 hb=>?_;obtain ⟨hB0,hB1,hD11⟩:=bl3 hX4 hB0 hB1 hD11
    go_wp2
    go_roundw
    case rel=>exact ⟨k+1,by omega,rfl,hD11,hB0,hB1,hb⟩
    case measure=>simp [intOf];omega
   ·refine jp ?_
    refine jn (vP g13 0) ?_;refine jf _ hD13 0 aB ?_;refine jm (vI f) ?_;refine bS x.day f (by omega) ?_;refine jm (.bool false) ?_;refine jn (vP g13 0) ?_;refine jf _ hD13 0 aB ?_;refine jm (vI t) ?_;refine dV x.day t (by omega) ?_;refine jm (.bool true) ?_;refine jm (.bool true) ?_;refine js ?_;refine js ?_;refine js ?_;refine js ?_;refine js ?_;refine js ?_;refine js ?_;refine js ?_;refine js ?_;refine jm (.bool true) ?_;refine jzb hb fun X3 hX3 hb=>?_;obtain ⟨hB0,hB1,hD11,hD13⟩:=bl4 hX3 hB0 hB1 hD11 hD13
    have HN2:Hid ((bN l a f t kd k)=bN l a f t kd (k+1)):=by
     show _=_
     rw [HNX.out];rw [tO (by omega),Rat.add_zero]
    rw [HN2.out] at hD11;go_upto_region 4 with fail;refine jp ?_;refine jm (vI k) ?_;refine jv (vI ((k+1:Nat):Int)) (aU _ _ _ _ (by rfl) (k:Int) 1 ((k+1:Nat):Int) (by rfl) (by rfl) (by omega) (by omega) (by omega)) ?_;refine jm (vI ((k+1:Nat):Int)) ?_;refine jzb hb fun X4 hX4 hb=>?_;obtain ⟨hB0,hB1,hD11⟩:=bl3 hX4 hB0 hB1 hD11
    go_wp2
    go_roundw
    case rel=>exact ⟨k+1,by omega,rfl,hD11,hB0,hB1,hb⟩
    case measure=>simp [intOf];omega
   ·refine jp ?_
    refine jn (vP g13 0) ?_;refine jf _ hD13 0 aB ?_;refine jm (vI f) ?_;refine bS x.day f (by omega) ?_;refine jm (.bool false) ?_;refine jn (vP g13 0) ?_;refine jf _ hD13 0 aB ?_;refine jm (vI t) ?_;refine dM x.day t (by omega) ?_;refine jm (.bool false) ?_;refine jm (.bool false) ?_;refine jm (vI kd) ?_;refine dV kd 0 (by omega) ?_;refine jm (.bool true) ?_;refine jn (vP g13 6) ?_;refine jn (vP g13 6) ?_;refine jf _ hD13 6 aB ?_;refine jm (vI kd) ?_;refine jv (.bool true) (aS _ _ _ _ (by rfl) .i64 x.kd kd (by rfl) (by rfl) true (by rw [decide_eq_false (by omega)];rfl)) ?_;refine jm (.bool true) ?_;refine jm (.bool true) ?_;refine jzb hb fun X3 hX3 hb=>?_;obtain ⟨hB0,hB1,hD11,hD13⟩:=bl4 hX3 hB0 hB1 hD11 hD13
    have HN2:Hid ((bN l a f t kd k)=bN l a f t kd (k+1)):=by
     show _=_
     rw [HNX.out];rw [tO (by omega),Rat.add_zero]
    rw [HN2.out] at hD11;go_upto_region 4 with fail;refine jp ?_;refine jm (vI k) ?_;refine jv (vI ((k+1:Nat):Int)) (aU _ _ _ _ (by rfl) (k:Int) 1 ((k+1:Nat):Int) (by rfl) (by rfl) (by omega) (by omega) (by omega)) ?_;refine jm (vI ((k+1:Nat):Int)) ?_;refine jzb hb fun X4 hX4 hb=>?_;obtain ⟨hB0,hB1,hD11⟩:=bl3 hX4 hB0 hB1 hD11
    go_wp2
    go_roundw
    case rel=>exact ⟨k+1,by omega,rfl,hD11,hB0,hB1,hb⟩
    case measure=>simp [intOf];omega
   ·have HK0:=Lib.hid hd.2.2
    replace hd:f≤x.day∧x.day≤t∧kd≤0:=⟨hd.1,hd.2.1,by omega⟩;refine jp ?_;refine jn (vP g13 0) ?_;refine jf _ hD13 0 aB ?_;refine jm (vI f) ?_;refine bS x.day f (by omega) ?_;refine jm (.bool false) ?_;refine jn (vP g13 0) ?_;refine jf _ hD13 0 aB ?_;refine jm (vI t) ?_;refine dM x.day t (by omega) ?_;refine jm (.bool false) ?_;refine jm (.bool false) ?_;refine jm (vI kd) ?_;refine dM kd 0 (by omega) ?_;refine jm (.bool false) ?_;refine js ?_;refine js ?_;refine js ?_;refine js ?_;refine js ?_;refine jm (.bool false) ?_;refine jm (.bool false) ?_;refine jzb hb fun X3 hX3 hb=>?_;obtain ⟨hB0,hB1,hD11,hD13⟩:=bl4 hX3 hB0 hB1 hD11 hD13
    rcases (show x.deb=a∨x.deb≠a by omega) with hdb|hdb
    ·have HDB:=Lib.hid hdb
     clear hdb;go_upto_region 7 with fail;refine jp ?_;refine jn (vP g13 1) ?_;refine jf _ hD13 1 aB ?_;refine jm (vI a) ?_;refine bZ x.deb a HDB.out ?_;refine jzb hb fun X4 hX4 hb=>?_;obtain ⟨hB0,hB1,hD11,hD13⟩:=bl4 hX4 hB0 hB1 hD11 hD13;go_upto_region 8 with fail;refine jq 4 ?_;refine ja hD11 Tryz.underlying26 (by rfl) aC ?_;refine jn (vP g13 3) ?_;refine jg (.agg #[.bool x.am.1,st x.am.2.1,st x.am.2.2]) (fun X hX hF=>aP 26 _ (by rfl) g13 3 [.bool x.am.1,vS x.am.2.1,vS x.am.2.2] (by rfl) Tryz.underlying26 rfl X (hD13.bel hX) (by rfl) aC) ?_;refine jc (rt (rN ((bN l a f t kd k)+(trq x.am))) (rP ((bN l a f t kd k)+(trq x.am))) (rD ((bN l a f t kd k)+(trq x.am)))) (fun X hX hF=>vVf (rN (bN l a f t kd k)) (rP (bN l a f t kd k)) (rD (bN l a f t kd k)) x.am.1 x.am.2.1 x.am.2.2 (gT (bN l a f t kd k)) rfl X (tzR LB0 (by omega)) (hxs.mono (by omega))) ?_;refine jzb hb fun X5 hX5 hb=>?_;obtain ⟨hB0,hB1,hD11,hD13⟩:=bl4 hX5 hB0 hB1 hD11 hD13;refine osb 26 11 55 g11 26 hD11 [.bool (rN ((bN l a f t kd k)+(trq x.am))),.string ⟨(rP ((bN l a f t kd k)+(trq x.am))).toArray⟩,.string ⟨(rD ((bN l a f t kd k)+(trq x.am))).toArray⟩] aC ?_;intro w8s hR9 hO9 hB9 hs9;have hb:=hB9 _ _ hb (by omega);have hB0:=hO9 _ _ _ (by omega) hB0;have hB1:=hO9 _ _ _ (by omega) hB1;have hD13:=hO9 _ _ _ (by omega) hD13;have hD11:=hR9;clear hO9 hB9 hR9 hs9
     rcases (show x.cre=a∨x.cre≠a by omega) with hcb|hcb
     ·have HCB:=Lib.hid hcb
      clear hcb;go_upto_region 9 with fail;refine jp ?_;refine jn (vP g13 2) ?_;refine jf _ hD13 2 aB ?_;refine jm (vI a) ?_;refine bZ x.cre a HCB.out ?_;refine jzb hb fun X6 hX6 hb=>?_;obtain ⟨hB0,hB1,hD11,hD13⟩:=bl4 hX6 hB0 hB1 hD11 hD13;go_upto_region 10 with fail;refine jq 4 ?_;refine ja hD11 Tryz.underlying26 (by rfl) aC ?_;refine jn (vP g13 3) ?_;refine jg (.agg #[.bool x.am.1,st x.am.2.1,st x.am.2.2]) (fun X hX hF=>aP 26 _ (by rfl) g13 3 [.bool x.am.1,vS x.am.2.1,vS x.am.2.2] (by rfl) Tryz.underlying26 rfl X (hD13.bel hX) (by rfl) aC) ?_;refine jc (.agg #[.bool (rN (((bN l a f t kd k)+(trq x.am))-(trq x.am))),st (rP (((bN l a f t kd k)+(trq x.am))-(trq x.am))),st (rD (((bN l a f t kd k)+(trq x.am))-(trq x.am)))]) (fun X hX hF=>uK (rN ((bN l a f t kd k)+(trq x.am))) (rP ((bN l a f t kd k)+(trq x.am))) (rD ((bN l a f t kd k)+(trq x.am))) x.am.1 x.am.2.1 x.am.2.2 (gT ((bN l a f t kd k)+(trq x.am))) rfl X (tzR LB1 (by omega)) (hxs.mono (by omega))) ?_;refine jzb hb fun X7 hX7 hb=>?_;obtain ⟨hB0,hB1,hD11,hD13⟩:=bl4 hX7 hB0 hB1 hD11 hD13;refine osb 26 11 63 g11 26 hD11 [.bool (rN (((bN l a f t kd k)+(trq x.am))-(trq x.am))),.string ⟨(rP (((bN l a f t kd k)+(trq x.am))-(trq x.am))).toArray⟩,.string ⟨(rD (((bN l a f t kd k)+(trq x.am))-(trq x.am))).toArray⟩] aC ?_;intro w10s hR9 hO9 hB9 hs9
      have hb:=hB9 _ _ hb (by omega);have hB0:=hO9 _ _ _ (by omega) hB0;have hB1:=hO9 _ _ _ (by omega) hB1;have hD13:=hO9 _ _ _ (by omega) hD13;have hD11:=hR9;clear hO9 hB9 hR9 hs9
      have HN2:Hid ((((bN l a f t kd k)+(trq x.am))-(trq x.am))=bN l a f t kd (k+1)):=by
       show _=_
       rw [HNX.out];rw [gE hd.1 hd.2.1 (.inl HK0.out),qQi HDB.out HCB.out]
      rw [HN2.out] at hD11;go_upto_region 4 with fail;refine jp ?_;refine jm (vI k) ?_;refine jv (vI ((k+1:Nat):Int)) (aU _ _ _ _ (by rfl) (k:Int) 1 ((k+1:Nat):Int) (by rfl) (by rfl) (by omega) (by omega) (by omega)) ?_;refine jm (vI ((k+1:Nat):Int)) ?_;refine jzb hb fun X8 hX8 hb=>?_;obtain ⟨hB0,hB1,hD11⟩:=bl3 hX8 hB0 hB1 hD11
      go_wp2
      go_roundw
      case rel=>exact ⟨k+1,by omega,rfl,hD11,hB0,hB1,hb⟩
      case measure=>simp [intOf];omega
     ·go_upto_region 9 with fail
      refine jp ?_;refine jn (vP g13 2) ?_;refine jf _ hD13 2 aB ?_;refine jm (vI a) ?_;refine cC x.cre a hcb ?_;refine jzb hb fun X6 hX6 hb=>?_;obtain ⟨hB0,hB1,hD11,hD13⟩:=bl4 hX6 hB0 hB1 hD11 hD13
      have HN2:Hid (((bN l a f t kd k)+(trq x.am))=bN l a f t kd (k+1)):=by
       show _=_
       rw [HNX.out];rw [gE hd.1 hd.2.1 (.inl HK0.out),qQg HDB.out hcb]
      rw [HN2.out] at hD11;go_upto_region 4 with fail;refine jp ?_;refine jm (vI k) ?_;refine jv (vI ((k+1:Nat):Int)) (aU _ _ _ _ (by rfl) (k:Int) 1 ((k+1:Nat):Int) (by rfl) (by rfl) (by omega) (by omega) (by omega)) ?_;refine jm (vI ((k+1:Nat):Int)) ?_;refine jzb hb fun X7 hX7 hb=>?_;obtain ⟨hB0,hB1,hD11⟩:=bl3 hX7 hB0 hB1 hD11
      go_wp2
      go_roundw
      case rel=>exact ⟨k+1,by omega,rfl,hD11,hB0,hB1,hb⟩
      case measure=>simp [intOf];omega
    ·go_upto_region 7 with fail
     refine jp ?_;refine jn (vP g13 1) ?_;refine jf _ hD13 1 aB ?_;refine jm (vI a) ?_;refine cC x.deb a hdb ?_;refine jzb hb fun X4 hX4 hb=>?_;obtain ⟨hB0,hB1,hD11,hD13⟩:=bl4 hX4 hB0 hB1 hD11 hD13
     rcases (show x.cre=a∨x.cre≠a by omega) with hcb|hcb
     ·have HCB:=Lib.hid hcb
      clear hcb;go_upto_region 9 with fail;refine jp ?_;refine jn (vP g13 2) ?_;refine jf _ hD13 2 aB ?_;refine jm (vI a) ?_;refine bZ x.cre a HCB.out ?_;refine jzb hb fun X5 hX5 hb=>?_;obtain ⟨hB0,hB1,hD11,hD13⟩:=bl4 hX5 hB0 hB1 hD11 hD13;go_upto_region 10 with fail;refine jq 4 ?_;refine ja hD11 Tryz.underlying26 (by rfl) aC ?_;refine jn (vP g13 3) ?_;refine jg (.agg #[.bool x.am.1,st x.am.2.1,st x.am.2.2]) (fun X hX hF=>aP 26 _ (by rfl) g13 3 [.bool x.am.1,vS x.am.2.1,vS x.am.2.2] (by rfl) Tryz.underlying26 rfl X (hD13.bel hX) (by rfl) aC) ?_;refine jc (rt (rN ((bN l a f t kd k)-(trq x.am))) (rP ((bN l a f t kd k)-(trq x.am))) (rD ((bN l a f t kd k)-(trq x.am)))) (fun X hX hF=>uK (rN (bN l a f t kd k)) (rP (bN l a f t kd k)) (rD (bN l a f t kd k)) x.am.1 x.am.2.1 x.am.2.2 (gT (bN l a f t kd k)) rfl X (tzR LB0 (by omega)) (hxs.mono (by omega))) ?_;refine jzb hb fun X6 hX6 hb=>?_;obtain ⟨hB0,hB1,hD11,hD13⟩:=bl4 hX6 hB0 hB1 hD11 hD13;refine osb 26 11 63 g11 26 hD11 [.bool (rN ((bN l a f t kd k)-(trq x.am))),.string ⟨(rP ((bN l a f t kd k)-(trq x.am))).toArray⟩,.string ⟨(rD ((bN l a f t kd k)-(trq x.am))).toArray⟩] aC ?_;intro w10s hR9 hO9 hB9 hs9;have hb:=hB9 _ _ hb (by omega);have hB0:=hO9 _ _ _ (by omega) hB0;have hB1:=hO9 _ _ _ (by omega) hB1;have hD13:=hO9 _ _ _ (by omega) hD13;have hD11:=hR9;clear hO9 hB9 hR9 hs9
      have HN2:Hid (((bN l a f t kd k)-(trq x.am))=bN l a f t kd (k+1)):=by
       show _=_
       rw [HNX.out];rw [gE hd.1 hd.2.1 (.inl HK0.out),qQh hdb HCB.out];grind
      rw [HN2.out] at hD11;go_upto_region 4 with fail;refine jp ?_;refine jm (vI k) ?_;refine jv (vI ((k+1:Nat):Int)) (aU _ _ _ _ (by rfl) (k:Int) 1 ((k+1:Nat):Int) (by rfl) (by rfl) (by omega) (by omega) (by omega)) ?_;refine jm (vI ((k+1:Nat):Int)) ?_;refine jzb hb fun X7 hX7 hb=>?_;obtain ⟨hB0,hB1,hD11⟩:=bl3 hX7 hB0 hB1 hD11
      go_wp2
      go_roundw
      case rel=>exact ⟨k+1,by omega,rfl,hD11,hB0,hB1,hb⟩
      case measure=>simp [intOf];omega
     ·go_upto_region 9 with fail
      refine jp ?_;refine jn (vP g13 2) ?_;refine jf _ hD13 2 aB ?_;refine jm (vI a) ?_;refine cC x.cre a hcb ?_;refine jzb hb fun X5 hX5 hb=>?_;obtain ⟨hB0,hB1,hD11,hD13⟩:=bl4 hX5 hB0 hB1 hD11 hD13
      have HN2:Hid ((bN l a f t kd k)=bN l a f t kd (k+1)):=by
       show _=_
       rw [HNX.out];rw [gE hd.1 hd.2.1 (.inl HK0.out),qQf hdb hcb,Rat.add_zero]
      rw [HN2.out] at hD11;go_upto_region 4 with fail;refine jp ?_;refine jm (vI k) ?_;refine jv (vI ((k+1:Nat):Int)) (aU _ _ _ _ (by rfl) (k:Int) 1 ((k+1:Nat):Int) (by rfl) (by rfl) (by omega) (by omega) (by omega)) ?_;refine jm (vI ((k+1:Nat):Int)) ?_;refine jzb hb fun X6 hX6 hb=>?_;obtain ⟨hB0,hB1,hD11⟩:=bl3 hX6 hB0 hB1 hD11
      go_wp2
      go_roundw
      case rel=>exact ⟨k+1,by omega,rfl,hD11,hB0,hB1,hb⟩
      case measure=>simp [intOf];omega
   ·have HK0:=Lib.hid hd.2.2.2
    replace hd:f≤x.day∧x.day≤t∧0<kd:=⟨hd.1,hd.2.1,hd.2.2.1⟩;refine jp ?_;refine jn (vP g13 0) ?_;refine jf _ hD13 0 aB ?_;refine jm (vI f) ?_;refine bS x.day f (by omega) ?_;refine jm (.bool false) ?_;refine jn (vP g13 0) ?_;refine jf _ hD13 0 aB ?_;refine jm (vI t) ?_;refine dM x.day t (by omega) ?_;refine jm (.bool false) ?_;refine jm (.bool false) ?_;refine jm (vI kd) ?_;refine dV kd 0 (by omega) ?_;refine jm (.bool true) ?_;refine jn (vP g13 6) ?_;refine jn (vP g13 6) ?_;refine jf _ hD13 6 aB ?_;refine jm (vI kd) ?_;refine jv (.bool false) (aS _ _ _ _ (by rfl) .i64 x.kd kd (by rfl) (by rfl) false (by rw [decide_eq_true HK0.out];rfl)) ?_;refine jm (.bool false) ?_;refine jm (.bool false) ?_;refine jzb hb fun X3 hX3 hb=>?_;obtain ⟨hB0,hB1,hD11,hD13⟩:=bl4 hX3 hB0 hB1 hD11 hD13
    rcases (show x.deb=a∨x.deb≠a by omega) with hdb|hdb
    ·have HDB:=Lib.hid hdb
     clear hdb;go_upto_region 7 with fail;refine jp ?_;refine jn (vP g13 1) ?_;refine jf _ hD13 1 aB ?_;refine jm (vI a) ?_;refine bZ x.deb a HDB.out ?_;refine jzb hb fun X4 hX4 hb=>?_;obtain ⟨hB0,hB1,hD11,hD13⟩:=bl4 hX4 hB0 hB1 hD11 hD13;go_upto_region 8 with fail;refine jq 4 ?_;refine ja hD11 Tryz.underlying26 (by rfl) aC ?_;refine jn (vP g13 3) ?_;refine jg (.agg #[.bool x.am.1,st x.am.2.1,st x.am.2.2]) (fun X hX hF=>aP 26 _ (by rfl) g13 3 [.bool x.am.1,vS x.am.2.1,vS x.am.2.2] (by rfl) Tryz.underlying26 rfl X (hD13.bel hX) (by rfl) aC) ?_;refine jc (rt (rN ((bN l a f t kd k)+(trq x.am))) (rP ((bN l a f t kd k)+(trq x.am))) (rD ((bN l a f t kd k)+(trq x.am)))) (fun X hX hF=>vVf (rN (bN l a f t kd k)) (rP (bN l a f t kd k)) (rD (bN l a f t kd k)) x.am.1 x.am.2.1 x.am.2.2 (gT (bN l a f t kd k)) rfl X (tzR LB0 (by omega)) (hxs.mono (by omega))) ?_;refine jzb hb fun X5 hX5 hb=>?_;obtain ⟨hB0,hB1,hD11,hD13⟩:=bl4 hX5 hB0 hB1 hD11 hD13;refine osb 26 11 55 g11 26 hD11 [.bool (rN ((bN l a f t kd k)+(trq x.am))),.string ⟨(rP ((bN l a f t kd k)+(trq x.am))).toArray⟩,.string ⟨(rD ((bN l a f t kd k)+(trq x.am))).toArray⟩] aC ?_;intro w8s hR9 hO9 hB9 hs9;have hb:=hB9 _ _ hb (by omega);have hB0:=hO9 _ _ _ (by omega) hB0;have hB1:=hO9 _ _ _ (by omega) hB1;have hD13:=hO9 _ _ _ (by omega) hD13;have hD11:=hR9;clear hO9 hB9 hR9 hs9
     rcases (show x.cre=a∨x.cre≠a by omega) with hcb|hcb
     ·have HCB:=Lib.hid hcb
      clear hcb;go_upto_region 9 with fail;refine jp ?_;refine jn (vP g13 2) ?_;refine jf _ hD13 2 aB ?_;refine jm (vI a) ?_;refine bZ x.cre a HCB.out ?_;refine jzb hb fun X6 hX6 hb=>?_;obtain ⟨hB0,hB1,hD11,hD13⟩:=bl4 hX6 hB0 hB1 hD11 hD13;go_upto_region 10 with fail;refine jq 4 ?_;refine ja hD11 Tryz.underlying26 (by rfl) aC ?_;refine jn (vP g13 3) ?_;refine jg (.agg #[.bool x.am.1,st x.am.2.1,st x.am.2.2]) (fun X hX hF=>aP 26 _ (by rfl) g13 3 [.bool x.am.1,vS x.am.2.1,vS x.am.2.2] (by rfl) Tryz.underlying26 rfl X (hD13.bel hX) (by rfl) aC) ?_;refine jc (.agg #[.bool (rN (((bN l a f t kd k)+(trq x.am))-(trq x.am))),st (rP (((bN l a f t kd k)+(trq x.am))-(trq x.am))),st (rD (((bN l a f t kd k)+(trq x.am))-(trq x.am)))]) (fun X hX hF=>uK (rN ((bN l a f t kd k)+(trq x.am))) (rP ((bN l a f t kd k)+(trq x.am))) (rD ((bN l a f t kd k)+(trq x.am))) x.am.1 x.am.2.1 x.am.2.2 (gT ((bN l a f t kd k)+(trq x.am))) rfl X (tzR LB1 (by omega)) (hxs.mono (by omega))) ?_;refine jzb hb fun X7 hX7 hb=>?_;obtain ⟨hB0,hB1,hD11,hD13⟩:=bl4 hX7 hB0 hB1 hD11 hD13;refine osb 26 11 63 g11 26 hD11 [.bool (rN (((bN l a f t kd k)+(trq x.am))-(trq x.am))),.string ⟨(rP (((bN l a f t kd k)+(trq x.am))-(trq x.am))).toArray⟩,.string ⟨(rD (((bN l a f t kd k)+(trq x.am))-(trq x.am))).toArray⟩] aC ?_;intro w10s hR9 hO9 hB9 hs9
      have hb:=hB9 _ _ hb (by omega);have hB0:=hO9 _ _ _ (by omega) hB0;have hB1:=hO9 _ _ _ (by omega) hB1;have hD13:=hO9 _ _ _ (by omega) hD13;have hD11:=hR9;clear hO9 hB9 hR9 hs9
      have HN2:Hid ((((bN l a f t kd k)+(trq x.am))-(trq x.am))=bN l a f t kd (k+1)):=by
       show _=_
       rw [HNX.out];rw [gE hd.1 hd.2.1 (.inr HK0.out),qQi HDB.out HCB.out]
      rw [HN2.out] at hD11;go_upto_region 4 with fail;refine jp ?_;refine jm (vI k) ?_;refine jv (vI ((k+1:Nat):Int)) (aU _ _ _ _ (by rfl) (k:Int) 1 ((k+1:Nat):Int) (by rfl) (by rfl) (by omega) (by omega) (by omega)) ?_;refine jm (vI ((k+1:Nat):Int)) ?_;refine jzb hb fun X8 hX8 hb=>?_;obtain ⟨hB0,hB1,hD11⟩:=bl3 hX8 hB0 hB1 hD11
      go_wp2
      go_roundw
      case rel=>exact ⟨k+1,by omega,rfl,hD11,hB0,hB1,hb⟩
      case measure=>simp [intOf];omega
     ·go_upto_region 9 with fail
      refine jp ?_;refine jn (vP g13 2) ?_;refine jf _ hD13 2 aB ?_;refine jm (vI a) ?_;refine cC x.cre a hcb ?_;refine jzb hb fun X6 hX6 hb=>?_;obtain ⟨hB0,hB1,hD11,hD13⟩:=bl4 hX6 hB0 hB1 hD11 hD13
      have HN2:Hid (((bN l a f t kd k)+(trq x.am))=bN l a f t kd (k+1)):=by
       show _=_
       rw [HNX.out];rw [gE hd.1 hd.2.1 (.inr HK0.out),qQg HDB.out hcb]
      rw [HN2.out] at hD11;go_upto_region 4 with fail;refine jp ?_;refine jm (vI k) ?_;refine jv (vI ((k+1:Nat):Int)) (aU _ _ _ _ (by rfl) (k:Int) 1 ((k+1:Nat):Int) (by rfl) (by rfl) (by omega) (by omega) (by omega)) ?_;refine jm (vI ((k+1:Nat):Int)) ?_;refine jzb hb fun X7 hX7 hb=>?_;obtain ⟨hB0,hB1,hD11⟩:=bl3 hX7 hB0 hB1 hD11
      go_wp2
      go_roundw
      case rel=>exact ⟨k+1,by omega,rfl,hD11,hB0,hB1,hb⟩
      case measure=>simp [intOf];omega
    ·go_upto_region 7 with fail
     refine jp ?_;refine jn (vP g13 1) ?_;refine jf _ hD13 1 aB ?_;refine jm (vI a) ?_;refine cC x.deb a hdb ?_;refine jzb hb fun X4 hX4 hb=>?_;obtain ⟨hB0,hB1,hD11,hD13⟩:=bl4 hX4 hB0 hB1 hD11 hD13
     rcases (show x.cre=a∨x.cre≠a by omega) with hcb|hcb
     ·have HCB:=Lib.hid hcb
      clear hcb;go_upto_region 9 with fail;refine jp ?_;refine jn (vP g13 2) ?_;refine jf _ hD13 2 aB ?_;refine jm (vI a) ?_;refine bZ x.cre a HCB.out ?_;refine jzb hb fun X5 hX5 hb=>?_;obtain ⟨hB0,hB1,hD11,hD13⟩:=bl4 hX5 hB0 hB1 hD11 hD13;go_upto_region 10 with fail;refine jq 4 ?_;refine ja hD11 Tryz.underlying26 (by rfl) aC ?_;refine jn (vP g13 3) ?_;refine jg (.agg #[.bool x.am.1,st x.am.2.1,st x.am.2.2]) (fun X hX hF=>aP 26 _ (by rfl) g13 3 [.bool x.am.1,vS x.am.2.1,vS x.am.2.2] (by rfl) Tryz.underlying26 rfl X (hD13.bel hX) (by rfl) aC) ?_;refine jc (rt (rN ((bN l a f t kd k)-(trq x.am))) (rP ((bN l a f t kd k)-(trq x.am))) (rD ((bN l a f t kd k)-(trq x.am)))) (fun X hX hF=>uK (rN (bN l a f t kd k)) (rP (bN l a f t kd k)) (rD (bN l a f t kd k)) x.am.1 x.am.2.1 x.am.2.2 (gT (bN l a f t kd k)) rfl X (tzR LB0 (by omega)) (hxs.mono (by omega))) ?_;refine jzb hb fun X6 hX6 hb=>?_;obtain ⟨hB0,hB1,hD11,hD13⟩:=bl4 hX6 hB0 hB1 hD11 hD13;refine osb 26 11 63 g11 26 hD11 [.bool (rN ((bN l a f t kd k)-(trq x.am))),.string ⟨(rP ((bN l a f t kd k)-(trq x.am))).toArray⟩,.string ⟨(rD ((bN l a f t kd k)-(trq x.am))).toArray⟩] aC ?_;intro w10s hR9 hO9 hB9 hs9;have hb:=hB9 _ _ hb (by omega);have hB0:=hO9 _ _ _ (by omega) hB0;have hB1:=hO9 _ _ _ (by omega) hB1;have hD13:=hO9 _ _ _ (by omega) hD13;have hD11:=hR9;clear hO9 hB9 hR9 hs9
      have HN2:Hid (((bN l a f t kd k)-(trq x.am))=bN l a f t kd (k+1)):=by
       show _=_
       rw [HNX.out];rw [gE hd.1 hd.2.1 (.inr HK0.out),qQh hdb HCB.out];grind
      rw [HN2.out] at hD11;go_upto_region 4 with fail;refine jp ?_;refine jm (vI k) ?_;refine jv (vI ((k+1:Nat):Int)) (aU _ _ _ _ (by rfl) (k:Int) 1 ((k+1:Nat):Int) (by rfl) (by rfl) (by omega) (by omega) (by omega)) ?_;refine jm (vI ((k+1:Nat):Int)) ?_;refine jzb hb fun X7 hX7 hb=>?_;obtain ⟨hB0,hB1,hD11⟩:=bl3 hX7 hB0 hB1 hD11
      go_wp2
      go_roundw
      case rel=>exact ⟨k+1,by omega,rfl,hD11,hB0,hB1,hb⟩
      case measure=>simp [intOf];omega
     ·go_upto_region 9 with fail
      refine jp ?_;refine jn (vP g13 2) ?_;refine jf _ hD13 2 aB ?_;refine jm (vI a) ?_;refine cC x.cre a hcb ?_;refine jzb hb fun X5 hX5 hb=>?_;obtain ⟨hB0,hB1,hD11,hD13⟩:=bl4 hX5 hB0 hB1 hD11 hD13
      have HN2:Hid ((bN l a f t kd k)=bN l a f t kd (k+1)):=by
       show _=_
       rw [HNX.out];rw [gE hd.1 hd.2.1 (.inr HK0.out),qQf hdb hcb,Rat.add_zero]
      rw [HN2.out] at hD11;go_upto_region 4 with fail;refine jp ?_;refine jm (vI k) ?_;refine jv (vI ((k+1:Nat):Int)) (aU _ _ _ _ (by rfl) (k:Int) 1 ((k+1:Nat):Int) (by rfl) (by rfl) (by omega) (by omega) (by omega)) ?_;refine jm (vI ((k+1:Nat):Int)) ?_;refine jzb hb fun X6 hX6 hb=>?_;obtain ⟨hB0,hB1,hD11⟩:=bl3 hX6 hB0 hB1 hD11
      go_wp2
      go_roundw
      case rel=>exact ⟨k+1,by omega,rfl,hD11,hB0,hB1,hb⟩
      case measure=>simp [intOf];omega
  ·have HKN:Hid (k=l.length):=by show _=_;rw [HLN.out];omega
   have HM:Hid ((bN l a f t kd k)=bal l a f t kd):=by
    show _=_
    unfold bal
    rw [← HKN.out]
   go_upto_region 3 with fail;refine jp ?_;refine jm (vI k) ?_;refine jn (vP w.heap.size 1) ?_;refine jf _ hB0 1 aK ?_;refine jv (vI n) (aN Tryz.underlying22 _ (by rfl) A n cp (by rfl) _ rfl) ?_;refine bS (k:Int) (n:Int) (by omega) ?_;refine jzb hb fun X1 hX1 hb=>?_;obtain ⟨hB0,hB1,hD11⟩:=bl3 hX1 hB0 hB1 hD11;go_upto_region 11 with fail;refine jq 1 ?_;refine ja hD11 Tryz.underlying26 (by rfl) aC ?_;refine jzb hb fun X2 hX2 hb=>?_;obtain ⟨hB0,hB1,hD11⟩:=bl3 hX2 hB0 hB1 hD11;refine osb 26 10 64 (w.heap.size+1) 26 hB1 [.bool (rN (bN l a f t kd k)),vS (rP (bN l a f t kd k)),vS (rD (bN l a f t kd k))] aC ?_;intro w9 hR9 hO9 hB9 hs9;have hb9:=hB9 _ _ hb (by omega);have hB0:=hO9 _ _ _ (by omega) hB0;have hD11:=hO9 _ _ _ (by omega) hD11;clear hO9 hB9
   go_wp2
   refine aL rfl rfl (by rfl) Tryz.underlying26 rfl hR9 aC ⟨by rw [HM.out],hb9⟩
theorem rbl0 (c:Int) (v:Value) (l:List En) (a day:Int) (w:World) (hv:Es l v w) (hs1:Hid (∀ k,tz (en l k).am.2.1 (en l k).am.2.2 100)) (h0:acE c l≠0):Calls Tryz.prog 9 #[.agg #[vI c,v],vI a,vI day] w fun e w'=>e=.returned (.agg #[.bool (rN (blV c l a day)),vS (rP (blV c l a day)),vS (rD (blV c l a day)),vI (blE c l a day)])∧Since w w':=by
 have hs:Hid (∀ k,tz (en l k).am.2.1 (en l k).am.2.2 1000000):=fun k=>(hs1.out k).mono (by decide)
 obtain ⟨z,z9⟩:∃ z,acE c l=z:=⟨_,rfl⟩;have HZ:=Lib.hid z9
 have hz0:z≠0:=by rw [← z9];exact h0
 clear z9 h0
 have HE:Hid (blE c l a day=z):=by
  show _=_
  unfold blE
  rw [HZ.out,if_pos hz0]
 obtain ⟨A,n,cp,rfl,hln,hn1,hr⟩:=hv.at;clear hv;have HRX:=bV hr;have HLN:=Lib.hid hln;clear hr;have HES:=cA HLN HRX
 go_enter Tryz.func9,Tryz.ntmps9
 go_upto_region 1 with fail;obtain ⟨W0,hW0,hB0,hB1,hb⟩:=bL w 24 50 [vI c,.slice A n cp] [.bool false,.string ⟨#[]⟩,.string ⟨#[]⟩,vI 0];rw [← hW0];clear hW0;refine jp ?_;refine ja hB0 Tryz.underlying24 (by rfl) aE ?_;refine jc (vI z) (fun X hX hF=>mo (fK c _ l X (HES.out X (Since.next hb hX)) hs) (by rw [HZ.out])) ?_;refine jm (vI z) ?_;refine jzb hb fun X1 hX1 hb=>?_;obtain ⟨hB0,hB1⟩:=bl2 hX1 hB0 hB1;go_upto_region 2 with fail;refine jp ?_;refine jm (vI z) ?_;refine jv (.bool true) (aS _ _ _ _ (by rfl) .i64 z 0 (by rfl) (by rfl) true (by rw [decide_eq_false (by omega)];rfl)) ?_;refine jzb hb fun X2 hX2 hb=>?_;obtain ⟨hB0,hB1⟩:=bl2 hX2 hB0 hB1
 have HL:Hid (blV c l a day=0):=by
  show _=_
  unfold blV
  rw [HE.out,if_neg hz0]
 go_upto_region 3 with fail;refine jq 2 ?_;refine jm (vI z) ?_;refine jn (.agg #[.bool false,.string ⟨#[]⟩,.string ⟨#[]⟩,vI z]) ?_;refine jzb hb fun X3 hX3 hb=>?_;obtain ⟨hB0,hB1⟩:=bl2 hX3 hB0 hB1;refine osb 50 6 14 (w.heap.size+1) 50 hB1 [.bool false,.string ⟨#[]⟩,.string ⟨#[]⟩,vI z] cV ?_;intro w9 hR9 hO9 hB9 hs9;have hb9:=hB9 _ _ hb (by omega);have hB0:=hO9 _ _ _ (by omega) hB0;clear hO9 hB9
 go_wp2
 refine aL rfl rfl (by rfl) Tryz.underlying50 rfl hR9 cV ⟨by rw [HE.out,HL.out,show rN 0=false by decide +kernel,show rP 0=[] by decide +kernel,show rD 0=[] by decide +kernel],hb9⟩
theorem rbl1 (c:Int) (v:Value) (l:List En) (a day:Int) (w:World) (hv:Es l v w) (hs1:Hid (∀ k,tz (en l k).am.2.1 (en l k).am.2.2 100)) (HC:Hid (acE c l=0)) (h:day<0∨14609<day):Calls Tryz.prog 9 #[.agg #[vI c,v],vI a,vI day] w fun e w'=>e=.returned (.agg #[.bool (rN (blV c l a day)),vS (rP (blV c l a day)),vS (rD (blV c l a day)),vI (blE c l a day)])∧Since w w':=by
 have hs:Hid (∀ k,tz (en l k).am.2.1 (en l k).am.2.2 1000000):=fun k=>(hs1.out k).mono (by decide)
 have HE:Hid (blE c l a day=3):=by
  show _=_
  unfold blE
  rw [HC.out,if_neg (by decide),if_pos (by omega)]
 have HD:Hid ((decide (0≤day) && decide (day≤14609))=false):=by
  show _=_
  rcases h with h9|h9
  ·rw [decide_eq_false (show ¬ 0≤day by omega)];rfl
  ·rw [decide_eq_false (show ¬ day≤14609 by omega),Bool.and_false]
 obtain ⟨A,n,cp,rfl,hln,hn1,hr⟩:=hv.at;clear hv;have HRX:=bV hr;have HLN:=Lib.hid hln;clear hr;have HES:=cA HLN HRX
 go_enter Tryz.func9,Tryz.ntmps9
 go_upto_region 1 with fail;obtain ⟨W0,hW0,hB0,hB1,hb⟩:=bL w 24 50 [vI c,.slice A n cp] [.bool false,.string ⟨#[]⟩,.string ⟨#[]⟩,vI 0];rw [← hW0];clear hW0;refine jp ?_;refine ja hB0 Tryz.underlying24 (by rfl) aE ?_;refine jc (vI 0) (fun X hX hF=>mo (fK c _ l X (HES.out X (Since.next hb hX)) hs) (by rw [HC.out])) ?_;refine jm (vI 0) ?_;refine jzb hb fun X1 hX1 hb=>?_;obtain ⟨hB0,hB1⟩:=bl2 hX1 hB0 hB1;go_upto_region 2 with fail;refine jp ?_;refine jm (vI 0) ?_;refine jv (.bool false) (aS _ _ _ _ (by rfl) .i64 0 0 (by rfl) (by rfl) false (by rw [decide_eq_true (by omega)];rfl)) ?_;refine jzb hb fun X2 hX2 hb=>?_;obtain ⟨hB0,hB1⟩:=bl2 hX2 hB0 hB1;go_upto_region 4 with fail;refine jp ?_;refine jm (vI day) ?_;refine jc (.bool false) (fun X hX hF=>mo (iV day X) (by rw [HD.out])) ?_;refine jm (.bool false) ?_;refine jzb hb fun X3 hX3 hb=>?_;obtain ⟨hB0,hB1⟩:=bl2 hX3 hB0 hB1;go_upto_region 5 with fail;refine jp ?_;refine jm (.bool false) ?_;refine jm (.bool true) ?_;refine jm (.bool true) ?_;refine js ?_;refine js ?_;refine jm (.bool true) ?_;refine jm (.bool true) ?_;refine js ?_;refine js ?_;refine js ?_;refine js ?_;refine jm (.bool true) ?_;refine jzb hb fun X4 hX4 hb=>?_;obtain ⟨hB0,hB1⟩:=bl2 hX4 hB0 hB1
 have HL:Hid (blV c l a day=0):=by
  show _=_
  unfold blV
  rw [HE.out,if_neg (by decide)]
 go_upto_region 6 with fail;refine jq 1 ?_;refine jn (.agg #[.bool false,.string ⟨#[]⟩,.string ⟨#[]⟩,vI 3]) ?_;refine jzb hb fun X5 hX5 hb=>?_;obtain ⟨hB0,hB1⟩:=bl2 hX5 hB0 hB1;refine osb 50 6 29 (w.heap.size+1) 50 hB1 [.bool false,.string ⟨#[]⟩,.string ⟨#[]⟩,vI 3] cV ?_;intro w9 hR9 hO9 hB9 hs9;have hb9:=hB9 _ _ hb (by omega);have hB0:=hO9 _ _ _ (by omega) hB0;clear hO9 hB9
 go_wp2
 refine aL rfl rfl (by rfl) Tryz.underlying50 rfl hR9 cV ⟨by rw [HE.out,HL.out,show rN 0=false by decide +kernel,show rP 0=[] by decide +kernel,show rD 0=[] by decide +kernel],hb9⟩
theorem rbl2 (c:Int) (v:Value) (l:List En) (a day:Int) (w:World) (hv:Es l v w) (hs1:Hid (∀ k,tz (en l k).am.2.1 (en l k).am.2.2 100)) (HC:Hid (acE c l=0)) (hd:0≤day∧day≤14609) (h:a<0):Calls Tryz.prog 9 #[.agg #[vI c,v],vI a,vI day] w fun e w'=>e=.returned (.agg #[.bool (rN (blV c l a day)),vS (rP (blV c l a day)),vS (rD (blV c l a day)),vI (blE c l a day)])∧Since w w':=by
 have hs:Hid (∀ k,tz (en l k).am.2.1 (en l k).am.2.2 1000000):=fun k=>(hs1.out k).mono (by decide)
 have HE:Hid (blE c l a day=3):=by
  show _=_
  unfold blE
  rw [HC.out,if_neg (by decide),if_pos (by omega)]
 have HD:Hid ((decide (0≤day) && decide (day≤14609))=true):=by
  show _=_
  rw [decide_eq_true hd.1,decide_eq_true hd.2];rfl
 obtain ⟨A,n,cp,rfl,hln,hn1,hr⟩:=hv.at;clear hv;have HRX:=bV hr;have HLN:=Lib.hid hln;clear hr;have HES:=cA HLN HRX
 go_enter Tryz.func9,Tryz.ntmps9
 go_upto_region 1 with fail;obtain ⟨W0,hW0,hB0,hB1,hb⟩:=bL w 24 50 [vI c,.slice A n cp] [.bool false,.string ⟨#[]⟩,.string ⟨#[]⟩,vI 0];rw [← hW0];clear hW0;refine jp ?_;refine ja hB0 Tryz.underlying24 (by rfl) aE ?_;refine jc (vI 0) (fun X hX hF=>mo (fK c _ l X (HES.out X (Since.next hb hX)) hs) (by rw [HC.out])) ?_;refine jm (vI 0) ?_;refine jzb hb fun X1 hX1 hb=>?_;obtain ⟨hB0,hB1⟩:=bl2 hX1 hB0 hB1;go_upto_region 2 with fail;refine jp ?_;refine jm (vI 0) ?_;refine jv (.bool false) (aS _ _ _ _ (by rfl) .i64 0 0 (by rfl) (by rfl) false (by rw [decide_eq_true (by omega)];rfl)) ?_;refine jzb hb fun X2 hX2 hb=>?_;obtain ⟨hB0,hB1⟩:=bl2 hX2 hB0 hB1;go_upto_region 4 with fail;refine jp ?_;refine jm (vI day) ?_;refine jc (.bool true) (fun X hX hF=>mo (iV day X) (by rw [HD.out])) ?_;refine jm (.bool true) ?_;refine jzb hb fun X3 hX3 hb=>?_;obtain ⟨hB0,hB1⟩:=bl2 hX3 hB0 hB1;go_upto_region 5 with fail;refine jp ?_;refine jm (.bool true) ?_;refine jm (.bool false) ?_;refine jm (.bool false) ?_;refine jm (vI a) ?_;refine cP a 0 (by omega) ?_;refine jm (.bool true) ?_;refine jm (.bool true) ?_;refine js ?_;refine js ?_;refine js ?_;refine js ?_;refine jm (.bool true) ?_;refine jzb hb fun X4 hX4 hb=>?_;obtain ⟨hB0,hB1⟩:=bl2 hX4 hB0 hB1
 have HL:Hid (blV c l a day=0):=by
  show _=_
  unfold blV
  rw [HE.out,if_neg (by decide)]
 go_upto_region 6 with fail;refine jq 1 ?_;refine jn (.agg #[.bool false,.string ⟨#[]⟩,.string ⟨#[]⟩,vI 3]) ?_;refine jzb hb fun X5 hX5 hb=>?_;obtain ⟨hB0,hB1⟩:=bl2 hX5 hB0 hB1;refine osb 50 6 29 (w.heap.size+1) 50 hB1 [.bool false,.string ⟨#[]⟩,.string ⟨#[]⟩,vI 3] cV ?_;intro w9 hR9 hO9 hB9 hs9;have hb9:=hB9 _ _ hb (by omega);have hB0:=hO9 _ _ _ (by omega) hB0;clear hO9 hB9
 go_wp2
 refine aL rfl rfl (by rfl) Tryz.underlying50 rfl hR9 cV ⟨by rw [HE.out,HL.out,show rN 0=false by decide +kernel,show rP 0=[] by decide +kernel,show rD 0=[] by decide +kernel],hb9⟩
theorem rbl3 (c:Int) (v:Value) (l:List En) (a day:Int) (w:World) (hv:Es l v w) (hs1:Hid (∀ k,tz (en l k).am.2.1 (en l k).am.2.2 100)) (HC:Hid (acE c l=0)) (hd:0≤day∧day≤14609) (h0:0≤a) (h:c≤a):Calls Tryz.prog 9 #[.agg #[vI c,v],vI a,vI day] w fun e w'=>e=.returned (.agg #[.bool (rN (blV c l a day)),vS (rP (blV c l a day)),vS (rD (blV c l a day)),vI (blE c l a day)])∧Since w w':=by
 have hs:Hid (∀ k,tz (en l k).am.2.1 (en l k).am.2.2 1000000):=fun k=>(hs1.out k).mono (by decide)
 have HE:Hid (blE c l a day=3):=by
  show _=_
  unfold blE
  rw [HC.out,if_neg (by decide),if_pos (by omega)]
 have HD:Hid ((decide (0≤day) && decide (day≤14609))=true):=by
  show _=_
  rw [decide_eq_true hd.1,decide_eq_true hd.2];rfl
 obtain ⟨A,n,cp,rfl,hln,hn1,hr⟩:=hv.at;clear hv;have HRX:=bV hr;have HLN:=Lib.hid hln;clear hr;have HES:=cA HLN HRX
 go_enter Tryz.func9,Tryz.ntmps9
 go_upto_region 1 with fail;obtain ⟨W0,hW0,hB0,hB1,hb⟩:=bL w 24 50 [vI c,.slice A n cp] [.bool false,.string ⟨#[]⟩,.string ⟨#[]⟩,vI 0];rw [← hW0];clear hW0;refine jp ?_;refine ja hB0 Tryz.underlying24 (by rfl) aE ?_;refine jc (vI 0) (fun X hX hF=>mo (fK c _ l X (HES.out X (Since.next hb hX)) hs) (by rw [HC.out])) ?_;refine jm (vI 0) ?_;refine jzb hb fun X1 hX1 hb=>?_;obtain ⟨hB0,hB1⟩:=bl2 hX1 hB0 hB1;go_upto_region 2 with fail;refine jp ?_;refine jm (vI 0) ?_;refine jv (.bool false) (aS _ _ _ _ (by rfl) .i64 0 0 (by rfl) (by rfl) false (by rw [decide_eq_true (by omega)];rfl)) ?_;refine jzb hb fun X2 hX2 hb=>?_;obtain ⟨hB0,hB1⟩:=bl2 hX2 hB0 hB1;go_upto_region 4 with fail;refine jp ?_;refine jm (vI day) ?_;refine jc (.bool true) (fun X hX hF=>mo (iV day X) (by rw [HD.out])) ?_;refine jm (.bool true) ?_;refine jzb hb fun X3 hX3 hb=>?_;obtain ⟨hB0,hB1⟩:=bl2 hX3 hB0 hB1;go_upto_region 5 with fail;refine jp ?_;refine jm (.bool true) ?_;refine jm (.bool false) ?_;refine jm (.bool false) ?_;refine jm (vI a) ?_;refine bS a 0 (by omega) ?_;refine jm (.bool false) ?_;refine jm (.bool false) ?_;refine jm (vI a) ?_;refine jn (vP w.heap.size 0) ?_;refine jf _ hB0 0 aB ?_;refine fD a c (by omega) ?_;refine jm (.bool true) ?_;refine jzb hb fun X4 hX4 hb=>?_;obtain ⟨hB0,hB1⟩:=bl2 hX4 hB0 hB1
 have HL:Hid (blV c l a day=0):=by
  show _=_
  unfold blV
  rw [HE.out,if_neg (by decide)]
 go_upto_region 6 with fail;refine jq 1 ?_;refine jn (.agg #[.bool false,.string ⟨#[]⟩,.string ⟨#[]⟩,vI 3]) ?_;refine jzb hb fun X5 hX5 hb=>?_;obtain ⟨hB0,hB1⟩:=bl2 hX5 hB0 hB1;refine osb 50 6 29 (w.heap.size+1) 50 hB1 [.bool false,.string ⟨#[]⟩,.string ⟨#[]⟩,vI 3] cV ?_;intro w9 hR9 hO9 hB9 hs9;have hb9:=hB9 _ _ hb (by omega);have hB0:=hO9 _ _ _ (by omega) hB0;clear hO9 hB9
 go_wp2
 refine aL rfl rfl (by rfl) Tryz.underlying50 rfl hR9 cV ⟨by rw [HE.out,HL.out,show rN 0=false by decide +kernel,show rP 0=[] by decide +kernel,show rD 0=[] by decide +kernel],hb9⟩
theorem rbl4 (c:Int) (v:Value) (l:List En) (a day:Int) (w:World) (hv:Es l v w) (hs1:Hid (∀ k,tz (en l k).am.2.1 (en l k).am.2.2 100)) (HC:Hid (acE c l=0)) (hd:0≤day∧day≤14609) (h0:0≤a) (h:a<c):Calls Tryz.prog 9 #[.agg #[vI c,v],vI a,vI day] w fun e w'=>e=.returned (.agg #[.bool (rN (blV c l a day)),vS (rP (blV c l a day)),vS (rD (blV c l a day)),vI (blE c l a day)])∧Since w w':=by
 have hs:Hid (∀ k,tz (en l k).am.2.1 (en l k).am.2.2 1000000):=fun k=>(hs1.out k).mono (by decide)
 have HD:Hid ((decide (0≤day) && decide (day≤14609))=true):=by
  show _=_
  rw [decide_eq_true hd.1,decide_eq_true hd.2];rfl
 have HK:Hid (Ok44 c l):=acE_ok.1 HC.out;have hl4:=HK.out.len
 have HE:Hid (blE c l a day=0):=by
  show _=_
  unfold blE
  rw [HC.out,if_neg (by decide),if_neg (by omega)]
 have HL:Hid (blV c l a day=bal l a 0 day 0):=by
  show _=_
  unfold blV
  rw [HE.out,if_pos rfl]
 obtain ⟨A,n,cp,rfl,hln,hn1,hr⟩:=hv.at;clear hv;have HRX:=bV hr;have HLN:=Lib.hid hln;clear hr;have HES:=cA HLN HRX
 go_enter Tryz.func9,Tryz.ntmps9
 go_upto_region 1 with fail;obtain ⟨W0,hW0,hB0,hB1,hb⟩:=bL w 24 50 [vI c,.slice A n cp] [.bool false,.string ⟨#[]⟩,.string ⟨#[]⟩,vI 0];rw [← hW0];clear hW0;refine jp ?_;refine ja hB0 Tryz.underlying24 (by rfl) aE ?_;refine jc (vI 0) (fun X hX hF=>mo (fK c _ l X (HES.out X (Since.next hb hX)) hs) (by rw [HC.out])) ?_;refine jm (vI 0) ?_;refine jzb hb fun X1 hX1 hb=>?_;obtain ⟨hB0,hB1⟩:=bl2 hX1 hB0 hB1;go_upto_region 2 with fail;refine jp ?_;refine jm (vI 0) ?_;refine jv (.bool false) (aS _ _ _ _ (by rfl) .i64 0 0 (by rfl) (by rfl) false (by rw [decide_eq_true (by omega)];rfl)) ?_;refine jzb hb fun X2 hX2 hb=>?_;obtain ⟨hB0,hB1⟩:=bl2 hX2 hB0 hB1;go_upto_region 4 with fail;refine jp ?_;refine jm (vI day) ?_;refine jc (.bool true) (fun X hX hF=>mo (iV day X) (by rw [HD.out])) ?_;refine jm (.bool true) ?_;refine jzb hb fun X3 hX3 hb=>?_;obtain ⟨hB0,hB1⟩:=bl2 hX3 hB0 hB1;go_upto_region 5 with fail;refine jp ?_;refine jm (.bool true) ?_;refine jm (.bool false) ?_;refine jm (.bool false) ?_;refine jm (vI a) ?_;refine bS a 0 (by omega) ?_;refine jm (.bool false) ?_;refine jm (.bool false) ?_;refine jm (vI a) ?_;refine jn (vP w.heap.size 0) ?_;refine jf _ hB0 0 aB ?_;refine eD a c (by omega) ?_;refine jm (.bool false) ?_;refine jzb hb fun X4 hX4 hb=>?_;obtain ⟨hB0,hB1⟩:=bl2 hX4 hB0 hB1;go_upto_region 7 with fail;refine jq 5 ?_;refine ja hB0 Tryz.underlying24 (by rfl) aE ?_
 refine jm (vI a) ?_;refine jm (vI day) ?_;refine jc (rt (rN (bal l a 0 day 0)) (rP (bal l a 0 day 0)) (rD (bal l a 0 day 0))) (fun X hX hF=>rsuC c _ l a 0 day 0 X (HES.out X (Since.next hb hX)) hs1 hl4 (by decide)) ?_;refine jn (.agg #[.bool (rN (bal l a 0 day 0)),st (rP (bal l a 0 day 0)),st (rD (bal l a 0 day 0)),vI 0]) ?_;refine jzb hb fun X5 hX5 hb=>?_;obtain ⟨hB0,hB1⟩:=bl2 hX5 hB0 hB1;refine osb 50 6 34 (w.heap.size+1) 50 hB1 [.bool (rN (bal l a 0 day 0)),vS (rP (bal l a 0 day 0)),vS (rD (bal l a 0 day 0)),vI 0] cV ?_;intro w9 hR9 hO9 hB9 hs9;have hb9:=hB9 _ _ hb (by omega);have hB0:=hO9 _ _ _ (by omega) hB0;clear hO9 hB9
 go_wp2
 refine aL rfl rfl (by rfl) Tryz.underlying50 rfl hR9 cV ⟨by rw [HE.out,HL.out],hb9⟩
theorem qZw (c:Int) (v:Value) (l:List En) (a day:Int) (w:World) (hv:Es l v w) (hs1:Hid (∀ k,tz (en l k).am.2.1 (en l k).am.2.2 100)):Calls Tryz.prog 9 #[.agg #[vI c,v],vI a,vI day] w fun e w'=>e=.returned (.agg #[.bool (rN (blV c l a day)),vS (rP (blV c l a day)),vS (rD (blV c l a day)),vI (blE c l a day)])∧Since w w':=by
 by_cases hc:acE c l=0
 ·rcases (show (day<0∨14609<day)∨(0≤day∧day≤14609) by omega) with hd|hd
  ·exact rbl1 c v l a day w hv hs1 hc hd
  ·rcases (show a<0∨(0≤a∧c≤a)∨(0≤a∧a<c) by omega) with h|h|h
   ·exact rbl2 c v l a day w hv hs1 hc hd h
   ·exact rbl3 c v l a day w hv hs1 hc hd h.1 h.2
   ·exact rbl4 c v l a day w hv hs1 hc hd h.1 h.2
 ·exact rbl0 c v l a day w hv hs1 hc
theorem qXu {c:Int} {l:List En} {a day:Int} (h:blE c l a day=0):Ok44 c l∧0≤a∧a<c∧0≤day∧day≤14609:=by
 unfold blE at h
 split at h
 ·rename_i h1
  exact absurd h h1
 ·rename_i h1
  split at h
  ·cases h
  ·exact ⟨acE_ok.1 (Decidable.of_not_not h1),by omega,by omega,by omega,by omega⟩
def Su44 (L:List Rat) (e:Int) (v:Value) (X:World):Prop:=∃ u,v=.agg #[u,vI e]∧Rq L u X
def Pl44v (L:List Int) (e:Int) (v:Value) (X:World):Prop:=∃ u,v=.agg #[u,vI e]∧Ks L u X
theorem tQ:(Tryz.prog.info? 26).map (fun i=>(i.zero,i.size,i.bytes))=some (some (.agg #[.bool false,.string ⟨#[]⟩,.string ⟨#[]⟩]),3,40):=by kernel_rfl
theorem sC:(Tryz.prog.info? 3).map (fun i=>(i.zero,i.size,i.bytes))=some (some (vI 0),1,8):=by kernel_rfl
theorem qZo {X:World} {B n:Nat} {v:Value} {S:List Rat} (h:X.ownsRow B 26 3 v n (fl rc S)) (hn:S.length=n):Rq S v X:=by
 have h1:fl trc (S.map tr)=fl rc S:=by
  unfold fl
  rw [List.map_map]
  rfl
 have h9:=Rd.of_own h
 show Rd X 3 v (S.map tr).length (fl trc (S.map tr))
 rw [h1,List.length_map,hn];exact h9
theorem vQn {X:World} {B n:Nat} {v:Value} {S:List Int} (h:X.ownsRow B 3 1 v n (S.map I64)) (hn:S.length=n):Ks S v X:=by
 subst hn;have h9:=Rd.of_own h;obtain ⟨A,c,rfl,_,_⟩:=h9.form;exact ⟨A,c,rfl,h9⟩
theorem zP (l:List Rat) (x:Rat):fl rc (l++[x])=fl rc l++rc x:=by simp [fl]
theorem rss0 (c:Int) (v:Value) (l:List En) (f t k:Int) (w:World) (hv:Es l v w) (hs1:Hid (∀ k,tz (en l k).am.2.1 (en l k).am.2.2 100)) (h0:acE c l≠0):Calls Tryz.prog 11 #[.agg #[vI c,v],vI f,vI t,vI k] w fun e w'=>∃ u,e=.returned u∧Su44 (suL c l f t k) (suE c l f t k) u w'∧Since w w':=by
 have hs:Hid (∀ k,tz (en l k).am.2.1 (en l k).am.2.2 1000000):=fun k=>(hs1.out k).mono (by decide)
 obtain ⟨z,z9⟩:∃ z,acE c l=z:=⟨_,rfl⟩;have HZ:=Lib.hid z9
 have hz0:z≠0:=by rw [← z9];exact h0
 clear z9 h0
 have HE:Hid (suE c l f t k=z):=by
  show _=_
  unfold suE
  rw [HZ.out,if_pos hz0]
 obtain ⟨A,n,cp,rfl,hln,hn1,hr⟩:=hv.at;clear hv;have HRX:=bV hr;have HLN:=Lib.hid hln;clear hr;have HES:=cA HLN HRX
 go_enter Tryz.func11,Tryz.ntmps11
 go_upto_region 1 with fail;obtain ⟨W0,hW0,hB0,hB1,hb⟩:=bL w 24 56 [vI c,.slice A n cp] [.slice none 0 0,vI 0];rw [← hW0];clear hW0;refine jp ?_;refine ja hB0 Tryz.underlying24 (by rfl) aE ?_;refine jc (vI z) (fun X hX hF=>mo (fK c _ l X (HES.out X (Since.next hb hX)) hs) (by rw [HZ.out])) ?_;refine jm (vI z) ?_;refine jzb hb fun X1 hX1 hb=>?_;obtain ⟨hB0,hB1⟩:=bl2 hX1 hB0 hB1;go_upto_region 2 with fail;refine jp ?_;refine jm (vI z) ?_;refine jv (.bool true) (aS _ _ _ _ (by rfl) .i64 z 0 (by rfl) (by rfl) true (by rw [decide_eq_false (by omega)];rfl)) ?_;refine jzb hb fun X2 hX2 hb=>?_;obtain ⟨hB0,hB1⟩:=bl2 hX2 hB0 hB1
 have HL:Hid (suL c l f t k=[]):=by
  show _=_
  unfold suL
  rw [HE.out,if_neg hz0]
 go_upto_region 3 with fail;refine jq 2 ?_;refine jm (vI z) ?_;refine jn (.agg #[.slice none 0 0,vI z]) ?_;refine jzb hb fun X3 hX3 hb=>?_;obtain ⟨hB0,hB1⟩:=bl2 hX3 hB0 hB1;refine osb 56 8 19 (w.heap.size+1) 56 hB1 [.slice none 0 0,vI z] cJ ?_;intro w9 hR9 hO9 hB9 hs9;have hb9:=hB9 _ _ hb (by omega);have hB0:=hO9 _ _ _ (by omega) hB0;clear hO9 hB9
 go_wp2
 refine aL rfl rfl (by rfl) Tryz.underlying56 rfl hR9 cJ ⟨_,rfl,⟨.slice none 0 0,by rw [HE.out],by rw [HL.out];exact lN _⟩,hb9⟩
theorem rss1 (c:Int) (v:Value) (l:List En) (f t k:Int) (w:World) (hv:Es l v w) (hs1:Hid (∀ k,tz (en l k).am.2.1 (en l k).am.2.2 100)) (HC:Hid (acE c l=0)) (h:f<0∨14609<f):Calls Tryz.prog 11 #[.agg #[vI c,v],vI f,vI t,vI k] w fun e w'=>∃ u,e=.returned u∧Su44 (suL c l f t k) (suE c l f t k) u w'∧Since w w':=by
 have hs:Hid (∀ k,tz (en l k).am.2.1 (en l k).am.2.2 1000000):=fun k=>(hs1.out k).mono (by decide)
 have HE:Hid (suE c l f t k=3):=by
  show _=_
  unfold suE
  rw [HC.out,if_neg (by decide),if_pos (by omega)]
 have HF:Hid ((decide (0≤f) && decide (f≤14609))=false):=by
  show _=_
  rcases h with h9|h9
  ·rw [decide_eq_false (show ¬ 0≤f by omega)];rfl
  ·rw [decide_eq_false (show ¬ f≤14609 by omega),Bool.and_false]
 obtain ⟨tb,tb9⟩:∃ tb,(decide (0≤t) && decide (t≤14609))=tb:=⟨_,rfl⟩;have HT:=Lib.hid tb9;clear tb9;obtain ⟨A,n,cp,rfl,hln,hn1,hr⟩:=hv.at;clear hv;have HRX:=bV hr;have HLN:=Lib.hid hln;clear hr;have HES:=cA HLN HRX
 go_enter Tryz.func11,Tryz.ntmps11
 go_upto_region 1 with fail;obtain ⟨W0,hW0,hB0,hB1,hb⟩:=bL w 24 56 [vI c,.slice A n cp] [.slice none 0 0,vI 0];rw [← hW0];clear hW0;refine jp ?_;refine ja hB0 Tryz.underlying24 (by rfl) aE ?_;refine jc (vI 0) (fun X hX hF=>mo (fK c _ l X (HES.out X (Since.next hb hX)) hs) (by rw [HC.out])) ?_;refine jm (vI 0) ?_;refine jzb hb fun X1 hX1 hb=>?_;obtain ⟨hB0,hB1⟩:=bl2 hX1 hB0 hB1;go_upto_region 2 with fail;refine jp ?_;refine jm (vI 0) ?_;refine jv (.bool false) (aS _ _ _ _ (by rfl) .i64 0 0 (by rfl) (by rfl) false (by rw [decide_eq_true (by omega)];rfl)) ?_;refine jzb hb fun X2 hX2 hb=>?_;obtain ⟨hB0,hB1⟩:=bl2 hX2 hB0 hB1;go_upto_region 4 with fail;refine jp ?_;refine jm (vI f) ?_;refine jc (.bool false) (fun X hX hF=>mo (iV f X) (by rw [HF.out])) ?_;refine jm (.bool false) ?_;refine jzb hb fun X3 hX3 hb=>?_;obtain ⟨hB0,hB1⟩:=bl2 hX3 hB0 hB1
 rcases tb with _|_
 ·go_upto_region 5 with fail
  refine jp ?_;refine jm (vI t) ?_;refine jc (.bool false) (fun X hX hF=>mo (iV t X) (by rw [HT.out])) ?_;refine jm (.bool false) ?_;refine jzb hb fun X4 hX4 hb=>?_;obtain ⟨hB0,hB1⟩:=bl2 hX4 hB0 hB1;go_upto_region 6 with fail;refine jp ?_;refine jm (.bool false) ?_;refine jm (.bool true) ?_;refine jm (.bool true) ?_;refine js ?_;refine js ?_;refine jm (.bool true) ?_;refine jm (.bool true) ?_;refine js ?_;refine js ?_;refine jm (.bool true) ?_;refine jm (.bool true) ?_;refine js ?_;refine js ?_;refine jm (.bool true) ?_;refine jzb hb fun X5 hX5 hb=>?_;obtain ⟨hB0,hB1⟩:=bl2 hX5 hB0 hB1
  have HL:Hid (suL c l f t k=[]):=by
   show _=_
   unfold suL
   rw [HE.out,if_neg (by decide)]
  go_upto_region 7 with fail;refine jq 1 ?_;refine jn (.agg #[.slice none 0 0,vI 3]) ?_;refine jzb hb fun X6 hX6 hb=>?_;obtain ⟨hB0,hB1⟩:=bl2 hX6 hB0 hB1;refine osb 56 8 38 (w.heap.size+1) 56 hB1 [.slice none 0 0,vI 3] cJ ?_;intro w9 hR9 hO9 hB9 hs9;have hb9:=hB9 _ _ hb (by omega);have hB0:=hO9 _ _ _ (by omega) hB0;clear hO9 hB9
  go_wp2
  refine aL rfl rfl (by rfl) Tryz.underlying56 rfl hR9 cJ ⟨_,rfl,⟨.slice none 0 0,by rw [HE.out],by rw [HL.out];exact lN _⟩,hb9⟩
 ·go_upto_region 5 with fail
  refine jp ?_;refine jm (vI t) ?_;refine jc (.bool true) (fun X hX hF=>mo (iV t X) (by rw [HT.out])) ?_;refine jm (.bool true) ?_;refine jzb hb fun X4 hX4 hb=>?_;obtain ⟨hB0,hB1⟩:=bl2 hX4 hB0 hB1;go_upto_region 6 with fail;refine jp ?_;refine jm (.bool false) ?_;refine jm (.bool true) ?_;refine jm (.bool true) ?_;refine js ?_;refine js ?_;refine jm (.bool true) ?_;refine jm (.bool true) ?_;refine js ?_;refine js ?_;refine jm (.bool true) ?_;refine jm (.bool true) ?_;refine js ?_;refine js ?_;refine jm (.bool true) ?_;refine jzb hb fun X5 hX5 hb=>?_;obtain ⟨hB0,hB1⟩:=bl2 hX5 hB0 hB1
  have HL:Hid (suL c l f t k=[]):=by
   show _=_
   unfold suL
   rw [HE.out,if_neg (by decide)]
  go_upto_region 7 with fail;refine jq 1 ?_;refine jn (.agg #[.slice none 0 0,vI 3]) ?_;refine jzb hb fun X6 hX6 hb=>?_;obtain ⟨hB0,hB1⟩:=bl2 hX6 hB0 hB1;refine osb 56 8 38 (w.heap.size+1) 56 hB1 [.slice none 0 0,vI 3] cJ ?_;intro w9 hR9 hO9 hB9 hs9;have hb9:=hB9 _ _ hb (by omega);have hB0:=hO9 _ _ _ (by omega) hB0;clear hO9 hB9
  go_wp2
  refine aL rfl rfl (by rfl) Tryz.underlying56 rfl hR9 cJ ⟨_,rfl,⟨.slice none 0 0,by rw [HE.out],by rw [HL.out];exact lN _⟩,hb9⟩
theorem rss2 (c:Int) (v:Value) (l:List En) (f t k:Int) (w:World) (hv:Es l v w) (hs1:Hid (∀ k,tz (en l k).am.2.1 (en l k).am.2.2 100)) (HC:Hid (acE c l=0)) (hf:0≤f∧f≤14609) (h:t<0∨14609<t):Calls Tryz.prog 11 #[.agg #[vI c,v],vI f,vI t,vI k] w fun e w'=>∃ u,e=.returned u∧Su44 (suL c l f t k) (suE c l f t k) u w'∧Since w w':=by
 have hs:Hid (∀ k,tz (en l k).am.2.1 (en l k).am.2.2 1000000):=fun k=>(hs1.out k).mono (by decide)
 have HE:Hid (suE c l f t k=3):=by
  show _=_
  unfold suE
  rw [HC.out,if_neg (by decide),if_pos (by omega)]
 have HF:Hid ((decide (0≤f) && decide (f≤14609))=true):=by
  show _=_
  rw [decide_eq_true hf.1,decide_eq_true hf.2];rfl
 have HT:Hid ((decide (0≤t) && decide (t≤14609))=false):=by
  show _=_
  rcases h with h9|h9
  ·rw [decide_eq_false (show ¬ 0≤t by omega)];rfl
  ·rw [decide_eq_false (show ¬ t≤14609 by omega),Bool.and_false]
 obtain ⟨A,n,cp,rfl,hln,hn1,hr⟩:=hv.at;clear hv;have HRX:=bV hr;have HLN:=Lib.hid hln;clear hr;have HES:=cA HLN HRX
 go_enter Tryz.func11,Tryz.ntmps11
 go_upto_region 1 with fail;obtain ⟨W0,hW0,hB0,hB1,hb⟩:=bL w 24 56 [vI c,.slice A n cp] [.slice none 0 0,vI 0];rw [← hW0];clear hW0;refine jp ?_;refine ja hB0 Tryz.underlying24 (by rfl) aE ?_;refine jc (vI 0) (fun X hX hF=>mo (fK c _ l X (HES.out X (Since.next hb hX)) hs) (by rw [HC.out])) ?_;refine jm (vI 0) ?_;refine jzb hb fun X1 hX1 hb=>?_;obtain ⟨hB0,hB1⟩:=bl2 hX1 hB0 hB1;go_upto_region 2 with fail;refine jp ?_;refine jm (vI 0) ?_;refine jv (.bool false) (aS _ _ _ _ (by rfl) .i64 0 0 (by rfl) (by rfl) false (by rw [decide_eq_true (by omega)];rfl)) ?_;refine jzb hb fun X2 hX2 hb=>?_;obtain ⟨hB0,hB1⟩:=bl2 hX2 hB0 hB1;go_upto_region 4 with fail;refine jp ?_;refine jm (vI f) ?_;refine jc (.bool true) (fun X hX hF=>mo (iV f X) (by rw [HF.out])) ?_;refine jm (.bool true) ?_;refine jzb hb fun X3 hX3 hb=>?_;obtain ⟨hB0,hB1⟩:=bl2 hX3 hB0 hB1;go_upto_region 5 with fail;refine jp ?_;refine jm (vI t) ?_;refine jc (.bool false) (fun X hX hF=>mo (iV t X) (by rw [HT.out])) ?_;refine jm (.bool false) ?_;refine jzb hb fun X4 hX4 hb=>?_;obtain ⟨hB0,hB1⟩:=bl2 hX4 hB0 hB1;go_upto_region 6 with fail;refine jp ?_;refine jm (.bool true) ?_;refine jm (.bool false) ?_;refine jm (.bool false) ?_;refine jm (.bool false) ?_;refine jm (.bool true) ?_;refine jm (.bool true) ?_;refine jm (.bool true) ?_;refine js ?_;refine js ?_;refine jm (.bool true) ?_;refine jm (.bool true) ?_;refine js ?_;refine js ?_
 refine jm (.bool true) ?_;refine jzb hb fun X5 hX5 hb=>?_;obtain ⟨hB0,hB1⟩:=bl2 hX5 hB0 hB1
 have HL:Hid (suL c l f t k=[]):=by
  show _=_
  unfold suL
  rw [HE.out,if_neg (by decide)]
 go_upto_region 7 with fail;refine jq 1 ?_;refine jn (.agg #[.slice none 0 0,vI 3]) ?_;refine jzb hb fun X6 hX6 hb=>?_;obtain ⟨hB0,hB1⟩:=bl2 hX6 hB0 hB1;refine osb 56 8 38 (w.heap.size+1) 56 hB1 [.slice none 0 0,vI 3] cJ ?_;intro w9 hR9 hO9 hB9 hs9;have hb9:=hB9 _ _ hb (by omega);have hB0:=hO9 _ _ _ (by omega) hB0;clear hO9 hB9
 go_wp2
 refine aL rfl rfl (by rfl) Tryz.underlying56 rfl hR9 cJ ⟨_,rfl,⟨.slice none 0 0,by rw [HE.out],by rw [HL.out];exact lN _⟩,hb9⟩
theorem rss3 (c:Int) (v:Value) (l:List En) (f t k:Int) (w:World) (hv:Es l v w) (hs1:Hid (∀ k,tz (en l k).am.2.1 (en l k).am.2.2 100)) (HC:Hid (acE c l=0)) (hf:0≤f∧f≤14609) (ht:0≤t∧t≤14609) (h:k<0):Calls Tryz.prog 11 #[.agg #[vI c,v],vI f,vI t,vI k] w fun e w'=>∃ u,e=.returned u∧Su44 (suL c l f t k) (suE c l f t k) u w'∧Since w w':=by
 have hs:Hid (∀ k,tz (en l k).am.2.1 (en l k).am.2.2 1000000):=fun k=>(hs1.out k).mono (by decide)
 have HE:Hid (suE c l f t k=3):=by
  show _=_
  unfold suE
  rw [HC.out,if_neg (by decide),if_pos (by omega)]
 have HF:Hid ((decide (0≤f) && decide (f≤14609))=true):=by
  show _=_
  rw [decide_eq_true hf.1,decide_eq_true hf.2];rfl
 have HT:Hid ((decide (0≤t) && decide (t≤14609))=true):=by
  show _=_
  rw [decide_eq_true ht.1,decide_eq_true ht.2];rfl
 obtain ⟨A,n,cp,rfl,hln,hn1,hr⟩:=hv.at;clear hv;have HRX:=bV hr;have HLN:=Lib.hid hln;clear hr;have HES:=cA HLN HRX
 go_enter Tryz.func11,Tryz.ntmps11
 go_upto_region 1 with fail;obtain ⟨W0,hW0,hB0,hB1,hb⟩:=bL w 24 56 [vI c,.slice A n cp] [.slice none 0 0,vI 0];rw [← hW0];clear hW0;refine jp ?_;refine ja hB0 Tryz.underlying24 (by rfl) aE ?_;refine jc (vI 0) (fun X hX hF=>mo (fK c _ l X (HES.out X (Since.next hb hX)) hs) (by rw [HC.out])) ?_;refine jm (vI 0) ?_;refine jzb hb fun X1 hX1 hb=>?_;obtain ⟨hB0,hB1⟩:=bl2 hX1 hB0 hB1;go_upto_region 2 with fail;refine jp ?_;refine jm (vI 0) ?_;refine jv (.bool false) (aS _ _ _ _ (by rfl) .i64 0 0 (by rfl) (by rfl) false (by rw [decide_eq_true (by omega)];rfl)) ?_;refine jzb hb fun X2 hX2 hb=>?_;obtain ⟨hB0,hB1⟩:=bl2 hX2 hB0 hB1;go_upto_region 4 with fail;refine jp ?_;refine jm (vI f) ?_;refine jc (.bool true) (fun X hX hF=>mo (iV f X) (by rw [HF.out])) ?_;refine jm (.bool true) ?_;refine jzb hb fun X3 hX3 hb=>?_;obtain ⟨hB0,hB1⟩:=bl2 hX3 hB0 hB1;go_upto_region 5 with fail;refine jp ?_;refine jm (vI t) ?_;refine jc (.bool true) (fun X hX hF=>mo (iV t X) (by rw [HT.out])) ?_;refine jm (.bool true) ?_;refine jzb hb fun X4 hX4 hb=>?_;obtain ⟨hB0,hB1⟩:=bl2 hX4 hB0 hB1;go_upto_region 6 with fail;refine jp ?_;refine jm (.bool true) ?_;refine jm (.bool false) ?_;refine jm (.bool false) ?_;refine jm (.bool true) ?_;refine jm (.bool false) ?_;refine jm (.bool false) ?_;refine jm (.bool false) ?_;refine jm (vI k) ?_;refine cP k 0 (by omega) ?_;refine jm (.bool true) ?_;refine jm (.bool true) ?_
 refine js ?_;refine js ?_;refine jm (.bool true) ?_;refine jzb hb fun X5 hX5 hb=>?_;obtain ⟨hB0,hB1⟩:=bl2 hX5 hB0 hB1
 have HL:Hid (suL c l f t k=[]):=by
  show _=_
  unfold suL
  rw [HE.out,if_neg (by decide)]
 go_upto_region 7 with fail;refine jq 1 ?_;refine jn (.agg #[.slice none 0 0,vI 3]) ?_;refine jzb hb fun X6 hX6 hb=>?_;obtain ⟨hB0,hB1⟩:=bl2 hX6 hB0 hB1;refine osb 56 8 38 (w.heap.size+1) 56 hB1 [.slice none 0 0,vI 3] cJ ?_;intro w9 hR9 hO9 hB9 hs9;have hb9:=hB9 _ _ hb (by omega);have hB0:=hO9 _ _ _ (by omega) hB0;clear hO9 hB9
 go_wp2
 refine aL rfl rfl (by rfl) Tryz.underlying56 rfl hR9 cJ ⟨_,rfl,⟨.slice none 0 0,by rw [HE.out],by rw [HL.out];exact lN _⟩,hb9⟩
theorem rss4 (c:Int) (v:Value) (l:List En) (f t k:Int) (w:World) (hv:Es l v w) (hs1:Hid (∀ k,tz (en l k).am.2.1 (en l k).am.2.2 100)) (HC:Hid (acE c l=0)) (hf:0≤f∧f≤14609) (ht:0≤t∧t≤14609) (h0:0≤k) (h:5<k):Calls Tryz.prog 11 #[.agg #[vI c,v],vI f,vI t,vI k] w fun e w'=>∃ u,e=.returned u∧Su44 (suL c l f t k) (suE c l f t k) u w'∧Since w w':=by
 have hs:Hid (∀ k,tz (en l k).am.2.1 (en l k).am.2.2 1000000):=fun k=>(hs1.out k).mono (by decide)
 have HE:Hid (suE c l f t k=3):=by
  show _=_
  unfold suE
  rw [HC.out,if_neg (by decide),if_pos (by omega)]
 have HF:Hid ((decide (0≤f) && decide (f≤14609))=true):=by
  show _=_
  rw [decide_eq_true hf.1,decide_eq_true hf.2];rfl
 have HT:Hid ((decide (0≤t) && decide (t≤14609))=true):=by
  show _=_
  rw [decide_eq_true ht.1,decide_eq_true ht.2];rfl
 obtain ⟨A,n,cp,rfl,hln,hn1,hr⟩:=hv.at;clear hv;have HRX:=bV hr;have HLN:=Lib.hid hln;clear hr;have HES:=cA HLN HRX
 go_enter Tryz.func11,Tryz.ntmps11
 go_upto_region 1 with fail;obtain ⟨W0,hW0,hB0,hB1,hb⟩:=bL w 24 56 [vI c,.slice A n cp] [.slice none 0 0,vI 0];rw [← hW0];clear hW0;refine jp ?_;refine ja hB0 Tryz.underlying24 (by rfl) aE ?_;refine jc (vI 0) (fun X hX hF=>mo (fK c _ l X (HES.out X (Since.next hb hX)) hs) (by rw [HC.out])) ?_;refine jm (vI 0) ?_;refine jzb hb fun X1 hX1 hb=>?_;obtain ⟨hB0,hB1⟩:=bl2 hX1 hB0 hB1;go_upto_region 2 with fail;refine jp ?_;refine jm (vI 0) ?_;refine jv (.bool false) (aS _ _ _ _ (by rfl) .i64 0 0 (by rfl) (by rfl) false (by rw [decide_eq_true (by omega)];rfl)) ?_;refine jzb hb fun X2 hX2 hb=>?_;obtain ⟨hB0,hB1⟩:=bl2 hX2 hB0 hB1;go_upto_region 4 with fail;refine jp ?_;refine jm (vI f) ?_;refine jc (.bool true) (fun X hX hF=>mo (iV f X) (by rw [HF.out])) ?_;refine jm (.bool true) ?_;refine jzb hb fun X3 hX3 hb=>?_;obtain ⟨hB0,hB1⟩:=bl2 hX3 hB0 hB1;go_upto_region 5 with fail;refine jp ?_;refine jm (vI t) ?_;refine jc (.bool true) (fun X hX hF=>mo (iV t X) (by rw [HT.out])) ?_;refine jm (.bool true) ?_;refine jzb hb fun X4 hX4 hb=>?_;obtain ⟨hB0,hB1⟩:=bl2 hX4 hB0 hB1;go_upto_region 6 with fail;refine jp ?_;refine jm (.bool true) ?_;refine jm (.bool false) ?_;refine jm (.bool false) ?_;refine jm (.bool true) ?_;refine jm (.bool false) ?_;refine jm (.bool false) ?_;refine jm (.bool false) ?_;refine jm (vI k) ?_;refine bS k 0 (by omega) ?_;refine jm (.bool false) ?_;refine jm (.bool false) ?_
 refine jm (vI k) ?_;refine dV k 5 (by omega) ?_;refine jm (.bool true) ?_;refine jzb hb fun X5 hX5 hb=>?_;obtain ⟨hB0,hB1⟩:=bl2 hX5 hB0 hB1
 have HL:Hid (suL c l f t k=[]):=by
  show _=_
  unfold suL
  rw [HE.out,if_neg (by decide)]
 go_upto_region 7 with fail;refine jq 1 ?_;refine jn (.agg #[.slice none 0 0,vI 3]) ?_;refine jzb hb fun X6 hX6 hb=>?_;obtain ⟨hB0,hB1⟩:=bl2 hX6 hB0 hB1;refine osb 56 8 38 (w.heap.size+1) 56 hB1 [.slice none 0 0,vI 3] cJ ?_;intro w9 hR9 hO9 hB9 hs9;have hb9:=hB9 _ _ hb (by omega);have hB0:=hO9 _ _ _ (by omega) hB0;clear hO9 hB9
 go_wp2
 refine aL rfl rfl (by rfl) Tryz.underlying56 rfl hR9 cJ ⟨_,rfl,⟨.slice none 0 0,by rw [HE.out],by rw [HL.out];exact lN _⟩,hb9⟩
theorem rss5 (c:Int) (v:Value) (l:List En) (f t k:Int) (w:World) (hv:Es l v w) (hs1:Hid (∀ k,tz (en l k).am.2.1 (en l k).am.2.2 100)) (HC:Hid (acE c l=0)) (hf:0≤f∧f≤14609) (ht:0≤t∧t≤14609) (hk:0≤k∧k≤5):Calls Tryz.prog 11 #[.agg #[vI c,v],vI f,vI t,vI k] w fun e w'=>∃ u,e=.returned u∧Su44 (suL c l f t k) (suE c l f t k) u w'∧Since w w':=by
 have hs:Hid (∀ k,tz (en l k).am.2.1 (en l k).am.2.2 1000000):=fun k=>(hs1.out k).mono (by decide)
 have HF:Hid ((decide (0≤f) && decide (f≤14609))=true):=by
  show _=_
  rw [decide_eq_true hf.1,decide_eq_true hf.2];rfl
 have HT:Hid ((decide (0≤t) && decide (t≤14609))=true):=by
  show _=_
  rw [decide_eq_true ht.1,decide_eq_true ht.2];rfl
 have HK:Hid (Ok44 c l):=acE_ok.1 HC.out;have hl4:=HK.out.len;have hc100:=HK.out.c100;have hc1:=HK.out.c1;obtain ⟨N,hN⟩:∃ N:Nat,c=(N:Int):=⟨c.toNat,by omega⟩;have HN:=Lib.hid hN
 have hNc:(N:Int)≤c:=by omega
 have hcN:c≤(N:Int):=by omega
 clear hN
 have HE:Hid (suE c l f t k=0):=by
  show _=_
  unfold suE
  rw [HC.out,if_neg (by decide),if_neg (by omega)]
 have HL:Hid (suL c l f t k=(List.range N).map fun i:Nat=>bal l (i:Int) f t k):=by
  show _=_
  unfold suL smA
  rw [HE.out,if_pos rfl,HN.out,Int.toNat_natCast]
 obtain ⟨A,n,cp,rfl,hln,hn1,hr⟩:=hv.at;clear hv;have HRX:=bV hr;have HLN:=Lib.hid hln;clear hr;have HES:=cA HLN HRX
 go_enter Tryz.func11,Tryz.ntmps11
 go_upto_region 1 with fail;obtain ⟨W0,hW0,hB0,hB1,hb⟩:=bL w 24 56 [vI c,.slice A n cp] [.slice none 0 0,vI 0];rw [← hW0];clear hW0;refine jp ?_;refine ja hB0 Tryz.underlying24 (by rfl) aE ?_;refine jc (vI 0) (fun X hX hF=>mo (fK c _ l X (HES.out X (Since.next hb hX)) hs) (by rw [HC.out])) ?_;refine jm (vI 0) ?_;refine jzb hb fun X1 hX1 hb=>?_;obtain ⟨hB0,hB1⟩:=bl2 hX1 hB0 hB1;go_upto_region 2 with fail;refine jp ?_;refine jm (vI 0) ?_;refine jv (.bool false) (aS _ _ _ _ (by rfl) .i64 0 0 (by rfl) (by rfl) false (by rw [decide_eq_true (by omega)];rfl)) ?_;refine jzb hb fun X2 hX2 hb=>?_;obtain ⟨hB0,hB1⟩:=bl2 hX2 hB0 hB1;go_upto_region 4 with fail;refine jp ?_;refine jm (vI f) ?_;refine jc (.bool true) (fun X hX hF=>mo (iV f X) (by rw [HF.out])) ?_;refine jm (.bool true) ?_;refine jzb hb fun X3 hX3 hb=>?_;obtain ⟨hB0,hB1⟩:=bl2 hX3 hB0 hB1;go_upto_region 5 with fail;refine jp ?_;refine jm (vI t) ?_;refine jc (.bool true) (fun X hX hF=>mo (iV t X) (by rw [HT.out])) ?_;refine jm (.bool true) ?_;refine jzb hb fun X4 hX4 hb=>?_;obtain ⟨hB0,hB1⟩:=bl2 hX4 hB0 hB1;go_upto_region 6 with fail;refine jp ?_;refine jm (.bool true) ?_;refine jm (.bool false) ?_;refine jm (.bool false) ?_;refine jm (.bool true) ?_;refine jm (.bool false) ?_;refine jm (.bool false) ?_;refine jm (.bool false) ?_;refine jm (vI k) ?_;refine bS k 0 (by omega) ?_;refine jm (.bool false) ?_;refine jm (.bool false) ?_
 refine jm (vI k) ?_;refine dM k 5 (by omega) ?_;refine jm (.bool false) ?_;refine jzb hb fun X5 hX5 hb=>?_;obtain ⟨hB0,hB1⟩:=bl2 hX5 hB0 hB1;go_upto_region 8 with fail;refine jp ?_;refine jm (.slice none 0 0) ?_;refine jzb hb fun X6 hX6 hb=>?_;obtain ⟨hB0,hB1⟩:=bl2 hX6 hB0 hB1;go_upto_region 9 with fail;refine jp ?_;refine jm (vI 0) ?_;refine jzb hb fun X7 hX7 hb=>?_;obtain ⟨hB0,hB1⟩:=bl2 hX7 hB0 hB1;obtain ⟨WB,rfl⟩:∃ W,W=X7:=⟨_,rfl⟩;have hbwWB:=hb
 have KB0:Hid (∀ X,Since WB X→Blk X w.heap.size 24 [vI c,.slice A n cp]):=fun X h=>hB0.bel h
 have KB1:Hid (∀ X,Since WB X→Blk X (w.heap.size+1) 56 [.slice none 0 0,vI 0]):=fun X h=>hB1.bel h
 have hl1:=hB1.lt;clear hB0 hB1 hb
 go_wp2
 go_loopw [12,13] (fun sv kv wr=>∃ (i c5:Nat) (A5:Option Addr),i≤N∧sv=.slice A5 i c5∧kv=vI i∧wr.ownsRow WB.heap.size 26 3 (.slice A5 i c5) i (fl rc ((List.range i).map fun i:Nat=>bal l (i:Int) f t k))∧Below WB.heap.size WB wr) (fun _ kv _=>N-(intOf kv).toNat)
 case atStart=>exact ⟨0,0,none,by omega,rfl,rfl,⟨rfl,.inl ⟨rfl,rfl⟩⟩,Below.refl _ _⟩
 case round =>
  obtain ⟨i,c5,A5,hi,rfl,rfl,hOW,hb⟩:=hrel;have hB0:=KB0.out _ hb
  rcases Nat.lt_or_ge i N with hlt|hlt
  ·skip
   go_upto_region 10 with fail;refine jp ?_;refine jm (vI i) ?_;refine jn (vP w.heap.size 0) ?_;refine jf _ hB0 0 aB ?_;refine cP (i:Int) c (by omega) ?_;refine jzb hb fun X1 hX1 hb=>?_;have hOW:=bG hOW hX1;replace hB0:=hB0.bel hX1;have hbZ:=hb.size;go_upto_region 12 with fail
   have hbA:WB.heap.size≤X1.heap.size:=by omega
   have hn_hB0:(Value.ownBlock (.slice A5 i c5))≠some w.heap.size:=fun h9=>by have h8:=bY hOW _ h9;omega
   refine nP (⟨WB.heap.size,26,3,.slice A5 i c5,i,(fl rc ((List.range i).map fun i:Nat=>bal l (i:Int) f t k)),[.bool (rN (bal l (i:Int) f t k)),.string ⟨(rP (bal l (i:Int) f t k)).toArray⟩,.string ⟨(rD (bal l (i:Int) f t k)).toArray⟩]⟩:Ar) 8 [none,none,none,none,none,none,none,some (Anew (⟨WB.heap.size,26,3,.slice A5 i c5,i,(fl rc ((List.range i).map fun i:Nat=>bal l (i:Int) f t k)),[.bool (rN (bal l (i:Int) f t k)),.string ⟨(rP (bal l (i:Int) f t k)).toArray⟩,.string ⟨(rD (bal l (i:Int) f t k)).toArray⟩]⟩:Ar) 26),some (Aout (⟨WB.heap.size,26,3,.slice A5 i c5,i,(fl rc ((List.range i).map fun i:Nat=>bal l (i:Int) f t k)),[.bool (rN (bal l (i:Int) f t k)),.string ⟨(rP (bal l (i:Int) f t k)).toArray⟩,.string ⟨(rD (bal l (i:Int) f t k)).toArray⟩]⟩:Ar))] (dI (dI (dI (dI (dI (dI (dI (eW (fun v X Y h hR=>Anew.lasts v X Y h hR) (eW (fun v X Y h hR=>Aout.lasts v X Y h hR) (nQ)))))))))) ?_;simp only [iB,Nat.reduceAdd];refine am (.slice A5 i c5) ?_;refine ag hOW hbA (.agg #[vI c,.slice A n cp]) (fun X σ hX hF=>lG 24 _ (by rfl) w.heap.size (by rfl) Tryz.underlying24 rfl X (hX.blk hB0 hn_hB0) aE) ?_;refine am (vI i) ?_;refine am (vI f) ?_;refine am (vI t) ?_;refine am (vI k) ?_;refine ac hOW hbA (f:=34) (args:=[.agg #[vI c,.slice A n cp],vI i,vI f,vI t,vI k]) (.agg #[.bool (rN (bal l (i:Int) f t k)),.string ⟨(rP (bal l (i:Int) f t k)).toArray⟩,.string ⟨(rD (bal l (i:Int) f t k)).toArray⟩]) (fun X σ hX hF=>rsuC c _ l (i:Int) f t k X (HES.out X (hbwWB.trans ((hb.trans hX.below).mono hbwWB.size))) hs1 hl4 hk.1) ?_
   refine ab hOW 26 (fun X=>by unfold execOp;go_simp) ?_;intro v52;refine aa hOW hbA 26 7 v52 List.mem_cons_self Tryz.underlying52 tQ rfl (show 0<3 by decide) (by rfl) (by intro u hu;simp only [List.mem_cons,List.not_mem_nil,or_false] at hu;rcases hu with rfl|rfl|rfl <;> rfl) (show i+1≤maxLen by unfold maxLen;omega) (show (i+1) * 40≤140737488355328 by omega) ?_;intro v53;refine am (v53) ?_;refine az hOW hbA ?_;intro X2 σ hX hF;have hO53:X2.ownsRow WB.heap.size 26 3 v53 (i+1) ((fl rc ((List.range i).map fun i:Nat=>bal l (i:Int) f t k))++[.bool (rN (bal l (i:Int) f t k)),.string ⟨(rP (bal l (i:Int) f t k)).toArray⟩,.string ⟨(rD (bal l (i:Int) f t k)).toArray⟩]):=(hF _ _ List.mem_cons_self).2;have hB0:=hX.blk hB0 hn_hB0;have hb:=hb.trans (hX.below.mono (show WB.heap.size≤WB.heap.size by omega));clear hF hn_hB0;obtain ⟨A7,c7,rfl,_,_⟩:=(Rd.of_own hO53).form
   have HSR:Hid (fl rc ((List.range (i+1)).map fun i:Nat=>bal l (i:Int) f t k)=fl rc ((List.range i).map fun i:Nat=>bal l (i:Int) f t k)++[.bool (rN (bal l (i:Int) f t k)),.string ⟨(rP (bal l (i:Int) f t k)).toArray⟩,.string ⟨(rD (bal l (i:Int) f t k)).toArray⟩]):=by
    show _=_
    rw [List.range_succ,List.map_append,List.map_cons,List.map_nil,zP]
    rfl
   have hOW:=hO53;rw [← HSR.out] at hOW;go_upto_region 11 with fail;refine jp ?_;refine jm (vI i) ?_;refine jv (vI ((i+1:Nat):Int)) (aU _ _ _ _ (by rfl) (i:Int) 1 ((i+1:Nat):Int) (by rfl) (by rfl) (by omega) (by omega) (by omega)) ?_;refine jm (vI ((i+1:Nat):Int)) ?_;refine jzb hb fun X3 hX3 hb=>?_;have hOW:=bG hOW hX3;replace hB0:=hB0.bel hX3
   go_wp2
   go_roundw
   case rel=>exact ⟨i+1,c7,A7,by omega,rfl,rfl,hOW,hb⟩
   case measure=>simp [intOf];omega
  ·have hiN:N≤i:=hlt
   have HIN:Hid (i=N):=by show _=_;omega
   have hB1:=KB1.out _ hb;go_upto_region 10 with fail;refine jp ?_;refine jm (vI i) ?_;refine jn (vP w.heap.size 0) ?_;refine jf _ hB0 0 aB ?_;refine bS (i:Int) c (by omega) ?_;refine jzb hb fun X1 hX1 hb=>?_;have hOW:=bG hOW hX1;obtain ⟨hB0,hB1⟩:=bl2 hX1 hB0 hB1;go_upto_region 13 with fail;refine jq 2 ?_;refine jm (.slice A5 i c5) ?_;refine jn (.agg #[.slice A5 i c5,vI 0]) ?_;refine jzb hb fun X2 hX2 hb=>?_;have hOW:=bG hOW hX2;obtain ⟨hB0,hB1⟩:=bl2 hX2 hB0 hB1;refine bB rfl 56 (.tmp 8) (.tmp 55) rfl (w.heap.size+1) 56 _ hB1 rfl [.slice A5 i c5,vI 0] rfl (by rfl) (by intro u hu;simp only [List.mem_cons,List.not_mem_nil,or_false] at hu;rcases hu with rfl|rfl <;> rfl) cJ ?_;intro w9 hR9 hG9;have hb0:=hbwWB.trans (hb.mono hbwWB.size);have hb1:=aY hG9 hb0 hb0.size (by omega);have hOW:=eA hOW hG9 (fun g h h9=>by injection h with h;have h8:=(bY hOW _ h9).1;omega)
   go_wp2
   refine aL rfl rfl (by rfl) Tryz.underlying56 rfl hR9 cJ ⟨_,rfl,⟨_,by rw [HE.out],by rw [HL.out,← HIN.out];exact qZo hOW (by rw [List.length_map,List.length_range])⟩,hb1⟩
theorem rssC (c:Int) (v:Value) (l:List En) (f t k:Int) (w:World) (hv:Es l v w) (hs1:Hid (∀ k,tz (en l k).am.2.1 (en l k).am.2.2 100)):Calls Tryz.prog 11 #[.agg #[vI c,v],vI f,vI t,vI k] w fun e w'=>∃ u,e=.returned u∧Su44 (suL c l f t k) (suE c l f t k) u w'∧Since w w':=by
 by_cases hc:acE c l=0
 ·rcases (show (f<0∨14609<f)∨(0≤f∧f≤14609) by omega) with hf|hf
  ·exact rss1 c v l f t k w hv hs1 hc hf
  ·rcases (show (t<0∨14609<t)∨(0≤t∧t≤14609) by omega) with ht|ht
   ·exact rss2 c v l f t k w hv hs1 hc hf ht
   ·rcases (show k<0∨(0≤k∧5<k)∨(0≤k∧k≤5) by omega) with hk|hk|hk
    ·exact rss3 c v l f t k w hv hs1 hc hf ht hk
    ·exact rss4 c v l f t k w hv hs1 hc hf ht hk.1 hk.2
    ·exact rss5 c v l f t k w hv hs1 hc hf ht hk
 ·exact rss0 c v l f t k w hv hs1 hc
theorem rtr0 (c:Int) (v:Value) (l:List En) (a day:Int) (w:World) (hv:Es l v w) (hs1:Hid (∀ k,tz (en l k).am.2.1 (en l k).am.2.2 100)) (h0:blE c l a day≠0):Calls Tryz.prog 13 #[.agg #[vI c,v],vI a,vI day] w fun e w'=>∃ u,e=.returned u∧Pl44v (trL c l a day) (blE c l a day) u w'∧Since w w':=by
 obtain ⟨z,z9⟩:∃ z,blE c l a day=z:=⟨_,rfl⟩;have HZ:=Lib.hid z9
 have hz0:z≠0:=by rw [← z9];exact h0
 clear z9 h0
 have HL:Hid (trL c l a day=[]):=by
  show _=_
  unfold trL
  rw [HZ.out,if_neg hz0]
 obtain ⟨A,n,cp,rfl,hln,hn1,hr⟩:=hv.at;clear hv;have HRX:=bV hr;have HLN:=Lib.hid hln;clear hr;have HES:=cA HLN HRX
 go_enter Tryz.func13,Tryz.ntmps13
 go_upto_region 1 with fail;obtain ⟨W0,hW0,hB0,hB1,hb⟩:=bL w 24 62 [vI c,.slice A n cp] [.slice none 0 0,vI 0];rw [← hW0];clear hW0;refine jq 4 ?_;refine ja hB0 Tryz.underlying24 (by rfl) aE ?_;refine jm (vI a) ?_;refine jm (vI day) ?_;refine jc (.agg #[.bool (rN (blV c l a day)),st (rP (blV c l a day)),st (rD (blV c l a day)),vI z]) (fun X hX hF=>mo (qZw c _ l a day X (HES.out X (Since.next hb hX)) hs1) (by rw [HZ.out])) ?_;refine jzb hb fun X1 hX1 hb=>?_;obtain ⟨hB0,hB1⟩:=bl2 hX1 hB0 hB1;go_upto_region 2 with (refine osn 50 7 14 #[.bool (rN (blV c l a day)),vS (rP (blV c l a day)),vS (rD (blV c l a day)),vI z] cV ?_);obtain ⟨Y1,hY9,hD7,hS9⟩:=aQ X1 50 [.bool (rN (blV c l a day)),vS (rP (blV c l a day)),vS (rD (blV c l a day)),vI z];rw [← hY9];clear hY9;have hgs7:=hb.size;have hlt7x0:=hB0.lt;have hlt7x1:=hB1.lt;obtain ⟨hB0,hB1⟩:=bl2 hS9 hB0 hB1;have hb:=aF hb hS9;clear hS9;generalize X1.heap.size=g7 at *;refine jp ?_;refine jn (vP g7 3) ?_;refine jf _ hD7 3 cY ?_;refine jv (.bool true) (aS _ _ _ _ (by rfl) .i64 z 0 (by rfl) (by rfl) true (by rw [decide_eq_false (by omega)];rfl)) ?_;refine jzb hb fun X2 hX2 hb=>?_;obtain ⟨hB0,hB1,hD7⟩:=bl3 hX2 hB0 hB1 hD7;go_upto_region 3 with fail;refine jq 3 ?_;refine jn (vP g7 3) ?_;refine jf _ hD7 3 cY ?_
 refine jn (.agg #[.slice none 0 0,vI z]) ?_;refine jzb hb fun X3 hX3 hb=>?_;obtain ⟨hB0,hB1,hD7⟩:=bl3 hX3 hB0 hB1 hD7;refine osb 62 6 20 (w.heap.size+1) 62 hB1 [.slice none 0 0,vI z] gY ?_;intro w9 hR9 hO9 hB9 hs9;have hb9:=hB9 _ _ hb (by omega);have hB0:=hO9 _ _ _ (by omega) hB0;have hD7:=hO9 _ _ _ (by omega) hD7;clear hO9 hB9
 go_wp2
 refine aL rfl rfl (by rfl) Tryz.underlying62 rfl hR9 gY ⟨_,rfl,⟨.slice none 0 0,by rw [HZ.out],by rw [HL.out];exact zI _⟩,hb9⟩
theorem rtr1 (c:Int) (v:Value) (l:List En) (a day:Int) (w:World) (hv:Es l v w) (hs1:Hid (∀ k,tz (en l k).am.2.1 (en l k).am.2.2 100)) (HC:Hid (blE c l a day=0)):Calls Tryz.prog 13 #[.agg #[vI c,v],vI a,vI day] w fun e w'=>∃ u,e=.returned u∧Pl44v (trL c l a day) (blE c l a day) u w'∧Since w w':=by
 have HK:Hid (Ok44 c l):=(qXu HC.out).1;have hl4:=HK.out.len
 have HL:Hid (trL c l a day=plA l a day):=by
  show _=_
  unfold trL
  rw [HC.out,if_pos rfl]
 obtain ⟨A,n,cp,rfl,hln,hn1,hr⟩:=hv.at;clear hv;have HRX:=bV hr;have HLN:=Lib.hid hln;clear hr;have HES:=cA HLN HRX
 go_enter Tryz.func13,Tryz.ntmps13
 go_upto_region 1 with fail;obtain ⟨W0,hW0,hB0,hB1,hb⟩:=bL w 24 62 [vI c,.slice A n cp] [.slice none 0 0,vI 0];rw [← hW0];clear hW0;refine jq 4 ?_;refine ja hB0 Tryz.underlying24 (by rfl) aE ?_;refine jm (vI a) ?_;refine jm (vI day) ?_;refine jc (.agg #[.bool (rN (blV c l a day)),st (rP (blV c l a day)),st (rD (blV c l a day)),vI 0]) (fun X hX hF=>mo (qZw c _ l a day X (HES.out X (Since.next hb hX)) hs1) (by rw [HC.out])) ?_;refine jzb hb fun X1 hX1 hb=>?_;obtain ⟨hB0,hB1⟩:=bl2 hX1 hB0 hB1;go_upto_region 2 with (refine osn 50 7 14 #[.bool (rN (blV c l a day)),vS (rP (blV c l a day)),vS (rD (blV c l a day)),vI 0] cV ?_);obtain ⟨Y1,hY9,hD7,hS9⟩:=aQ X1 50 [.bool (rN (blV c l a day)),vS (rP (blV c l a day)),vS (rD (blV c l a day)),vI 0];rw [← hY9];clear hY9;have hgs7:=hb.size;have hlt7x0:=hB0.lt;have hlt7x1:=hB1.lt;obtain ⟨hB0,hB1⟩:=bl2 hS9 hB0 hB1;have hb:=aF hb hS9;clear hS9;generalize X1.heap.size=g7 at *;refine jp ?_;refine jn (vP g7 3) ?_;refine jf _ hD7 3 cY ?_;refine jv (.bool false) (aS _ _ _ _ (by rfl) .i64 0 0 (by rfl) (by rfl) false (by rw [decide_eq_true (by omega)];rfl)) ?_;refine jzb hb fun X2 hX2 hb=>?_;obtain ⟨hB0,hB1,hD7⟩:=bl3 hX2 hB0 hB1 hD7;rw [hln] at hl4;go_upto_region 4 with fail;refine jp ?_;refine jm (.slice none 0 0) ?_;refine jzb hb fun X3 hX3 hb=>?_
 obtain ⟨hB0,hB1,hD7⟩:=bl3 hX3 hB0 hB1 hD7;go_upto_region 5 with fail;refine jp ?_;refine jm (vI 0) ?_;refine jzb hb fun X4 hX4 hb=>?_;obtain ⟨hB0,hB1,hD7⟩:=bl3 hX4 hB0 hB1 hD7;obtain ⟨WB,rfl⟩:∃ W,W=X4:=⟨_,rfl⟩;have hbwWB:=hb
 have KB0:Hid (∀ X,Since WB X→Blk X w.heap.size 24 [vI c,.slice A n cp]):=fun X h=>hB0.bel h
 have KB1:Hid (∀ X,Since WB X→Blk X (w.heap.size+1) 62 [.slice none 0 0,vI 0]):=fun X h=>hB1.bel h
 have hl1:=hB1.lt;clear hB0 hB1 hb hD7
 go_wp2
 go_loopw [8,9] (fun sv kv wr=>∃ (k n5 c5:Nat) (A5:Option Addr),k≤n∧n5≤k∧sv=.slice A5 n5 c5∧kv=vI k∧Hid ((plN l a day k).length=n5)∧wr.ownsRow WB.heap.size 3 1 (.slice A5 n5 c5) n5 ((plN l a day k).map I64)∧Below WB.heap.size WB wr) (fun _ kv _=>n-(intOf kv).toNat)
 case atStart=>exact ⟨0,0,0,none,by omega,by omega,rfl,rfl,rfl,⟨rfl,.inl ⟨rfl,rfl⟩⟩,Below.refl _ _⟩
 case round =>
  obtain ⟨k,n5,c5,A5,hk,hn5,rfl,rfl,HPL,hOW,hb⟩:=hrel;have hB0:=KB0.out _ hb
  rcases Nat.lt_or_ge k n with hlt|hlt
  ·obtain ⟨b,off,rfl,hbb,hcx⟩:=fI (HRX.out _ (hbwWB.trans (hb.mono hbwWB.size))) HLN.out hlt
   obtain ⟨x,x9⟩:∃ x,x=en l k:=⟨_,rfl⟩;have HX:=Lib.hid x9;clear x9;rw [← HX.out] at hcx
   change Cl wr b (off+k * 13) (eL x) at hcx
   go_upto_region 6 with fail;refine jp ?_;refine jm (vI k) ?_;refine jn (vP w.heap.size 1) ?_;refine jf _ hB0 1 aK ?_;refine jv (vI n) (aN Tryz.underlying22 _ (by rfl) (some ⟨b,off,none⟩) n cp (by rfl) _ rfl) ?_;refine cP (k:Int) (n:Int) (by omega) ?_;refine jzb hb fun X1 hX1 hb=>?_;have hOW:=bG hOW hX1;replace hB0:=hB0.bel hX1;have hcx:=hcx.below hX1 hbb;replace hbb:=Nat.lt_of_lt_of_le hbb (hX1).size
   rcases (show (x.deb≠a∧x.cre≠a)∨(x.deb=a∧day<x.day)∨(x.deb≠a∧x.cre=a∧day<x.day)∨(x.deb=a∧x.day≤day)∨(x.deb≠a∧x.cre=a∧x.day≤day) by omega) with hq|hq|hq|hq|hq
   ·have HPS:Hid (plN l a day (k+1)=plN l a day k):=by
     show _=_
     rw [dU,← HX.out,if_neg (by omega)]
    go_upto_region 8 with fail;refine jp ?_;refine jn (vP w.heap.size 1) ?_;refine jf _ hB0 1 aK ?_;refine jm (vI k) ?_;refine jv (vP b (off+k * 13)) (aW Tryz.underlying22 aI _ _ (by rfl) b (off) n cp k (by omega) (by rfl) (by rfl) rfl) ?_;refine jn (vP b (off+k * 13+1)) ?_;refine jg (vI x.deb) (fun X hX hF=>aV 3 _ (by rfl) b (off+k * 13+1) (by rfl) _ X ((hcx.below hX hbb) 1 _ rfl) (fun X u h=>aB b (off+k * 13+1) X u h)) ?_;refine jm (vI a) ?_;refine cC x.deb a (by omega) ?_;refine jm (.bool false) ?_;refine jn (vP w.heap.size 1) ?_;refine jf _ hB0 1 aK ?_;refine jm (vI k) ?_;refine jv (vP b (off+k * 13)) (aW Tryz.underlying22 aI _ _ (by rfl) b (off) n cp k (by omega) (by rfl) (by rfl) rfl) ?_;refine jn (vP b (off+k * 13+2)) ?_;refine jg (vI x.cre) (fun X hX hF=>aV 3 _ (by rfl) b (off+k * 13+2) (by rfl) _ X ((hcx.below hX hbb) 2 _ rfl) (fun X u h=>aB b (off+k * 13+2) X u h)) ?_;refine jm (vI a) ?_;refine cC x.cre a (by omega) ?_;refine jm (.bool false) ?_;refine jm (.bool false) ?_;refine jzb hb fun X2 hX2 hb=>?_;have hOW:=bG hOW hX2;replace hB0:=hB0.bel hX2;have hcx:=hcx.below hX2 hbb;replace hbb:=Nat.lt_of_lt_of_le hbb (hX2).size;go_upto_region 9 with fail;refine jp ?_;refine jm (.bool false) ?_
    refine jm (.bool false) ?_;refine js ?_;refine js ?_;refine js ?_;refine js ?_;refine js ?_;refine js ?_;refine js ?_;refine js ?_;refine jm (.bool false) ?_;refine jzb hb fun X3 hX3 hb=>?_;have hOW:=bG hOW hX3;replace hB0:=hB0.bel hX3;have hcx:=hcx.below hX3 hbb;replace hbb:=Nat.lt_of_lt_of_le hbb (hX3).size;go_upto_region 7 with fail;refine jp ?_;refine jm (vI k) ?_;refine jv (vI ((k+1:Nat):Int)) (aU _ _ _ _ (by rfl) (k:Int) 1 ((k+1:Nat):Int) (by rfl) (by rfl) (by omega) (by omega) (by omega)) ?_;refine jm (vI ((k+1:Nat):Int)) ?_;refine jzb hb fun X4 hX4 hb=>?_;have hOW:=bG hOW hX4;replace hB0:=hB0.bel hX4;rw [← HPS.out] at hOW HPL
    go_wp2
    go_roundw
    case rel=>exact ⟨k+1,n5,c5,A5,by omega,by omega,rfl,rfl,HPL,hOW,hb⟩
    case measure=>simp [intOf];omega
   ·have HPS:Hid (plN l a day (k+1)=plN l a day k):=by
     show _=_
     rw [dU,← HX.out,if_neg (by omega)]
    go_upto_region 8 with fail;refine jp ?_;refine jn (vP w.heap.size 1) ?_;refine jf _ hB0 1 aK ?_;refine jm (vI k) ?_;refine jv (vP b (off+k * 13)) (aW Tryz.underlying22 aI _ _ (by rfl) b (off) n cp k (by omega) (by rfl) (by rfl) rfl) ?_;refine jn (vP b (off+k * 13+1)) ?_;refine jg (vI x.deb) (fun X hX hF=>aV 3 _ (by rfl) b (off+k * 13+1) (by rfl) _ X ((hcx.below hX hbb) 1 _ rfl) (fun X u h=>aB b (off+k * 13+1) X u h)) ?_;refine jm (vI a) ?_;refine bZ x.deb a (by omega) ?_;refine jm (.bool true) ?_;refine js ?_;refine js ?_;refine js ?_;refine js ?_;refine js ?_;refine js ?_;refine js ?_;refine js ?_;refine jm (.bool true) ?_;refine jm (.bool true) ?_;refine jzb hb fun X2 hX2 hb=>?_;have hOW:=bG hOW hX2;replace hB0:=hB0.bel hX2;have hcx:=hcx.below hX2 hbb;replace hbb:=Nat.lt_of_lt_of_le hbb (hX2).size;go_upto_region 9 with fail;refine jp ?_;refine jm (.bool true) ?_;refine jm (.bool true) ?_;refine jn (vP w.heap.size 1) ?_;refine jf _ hB0 1 aK ?_;refine jm (vI k) ?_;refine jv (vP b (off+k * 13)) (aW Tryz.underlying22 aI _ _ (by rfl) b (off) n cp k (by omega) (by rfl) (by rfl) rfl) ?_;refine jn (vP b (off+k * 13)) ?_;refine jg (vI x.day) (fun X hX hF=>aV 3 _ (by rfl) b (off+k * 13) (by rfl) _ X ((hcx.below hX hbb) 0 _ rfl) (fun X u h=>aB b (off+k * 13) X u h)) ?_
    refine jm (vI day) ?_;refine oP x.day day (by omega) ?_;refine jm (.bool false) ?_;refine jzb hb fun X3 hX3 hb=>?_;have hOW:=bG hOW hX3;replace hB0:=hB0.bel hX3;have hcx:=hcx.below hX3 hbb;replace hbb:=Nat.lt_of_lt_of_le hbb (hX3).size;go_upto_region 7 with fail;refine jp ?_;refine jm (vI k) ?_;refine jv (vI ((k+1:Nat):Int)) (aU _ _ _ _ (by rfl) (k:Int) 1 ((k+1:Nat):Int) (by rfl) (by rfl) (by omega) (by omega) (by omega)) ?_;refine jm (vI ((k+1:Nat):Int)) ?_;refine jzb hb fun X4 hX4 hb=>?_;have hOW:=bG hOW hX4;replace hB0:=hB0.bel hX4;rw [← HPS.out] at hOW HPL
    go_wp2
    go_roundw
    case rel=>exact ⟨k+1,n5,c5,A5,by omega,by omega,rfl,rfl,HPL,hOW,hb⟩
    case measure=>simp [intOf];omega
   ·have HPS:Hid (plN l a day (k+1)=plN l a day k):=by
     show _=_
     rw [dU,← HX.out,if_neg (by omega)]
    go_upto_region 8 with fail;refine jp ?_;refine jn (vP w.heap.size 1) ?_;refine jf _ hB0 1 aK ?_;refine jm (vI k) ?_;refine jv (vP b (off+k * 13)) (aW Tryz.underlying22 aI _ _ (by rfl) b (off) n cp k (by omega) (by rfl) (by rfl) rfl) ?_;refine jn (vP b (off+k * 13+1)) ?_;refine jg (vI x.deb) (fun X hX hF=>aV 3 _ (by rfl) b (off+k * 13+1) (by rfl) _ X ((hcx.below hX hbb) 1 _ rfl) (fun X u h=>aB b (off+k * 13+1) X u h)) ?_;refine jm (vI a) ?_;refine cC x.deb a (by omega) ?_;refine jm (.bool false) ?_;refine jn (vP w.heap.size 1) ?_;refine jf _ hB0 1 aK ?_;refine jm (vI k) ?_;refine jv (vP b (off+k * 13)) (aW Tryz.underlying22 aI _ _ (by rfl) b (off) n cp k (by omega) (by rfl) (by rfl) rfl) ?_;refine jn (vP b (off+k * 13+2)) ?_;refine jg (vI x.cre) (fun X hX hF=>aV 3 _ (by rfl) b (off+k * 13+2) (by rfl) _ X ((hcx.below hX hbb) 2 _ rfl) (fun X u h=>aB b (off+k * 13+2) X u h)) ?_;refine jm (vI a) ?_;refine bZ x.cre a (by omega) ?_;refine jm (.bool true) ?_;refine jm (.bool true) ?_;refine jzb hb fun X2 hX2 hb=>?_;have hOW:=bG hOW hX2;replace hB0:=hB0.bel hX2;have hcx:=hcx.below hX2 hbb;replace hbb:=Nat.lt_of_lt_of_le hbb (hX2).size;go_upto_region 9 with fail;refine jp ?_;refine jm (.bool true) ?_
    refine jm (.bool true) ?_;refine jn (vP w.heap.size 1) ?_;refine jf _ hB0 1 aK ?_;refine jm (vI k) ?_;refine jv (vP b (off+k * 13)) (aW Tryz.underlying22 aI _ _ (by rfl) b (off) n cp k (by omega) (by rfl) (by rfl) rfl) ?_;refine jn (vP b (off+k * 13)) ?_;refine jg (vI x.day) (fun X hX hF=>aV 3 _ (by rfl) b (off+k * 13) (by rfl) _ X ((hcx.below hX hbb) 0 _ rfl) (fun X u h=>aB b (off+k * 13) X u h)) ?_;refine jm (vI day) ?_;refine oP x.day day (by omega) ?_;refine jm (.bool false) ?_;refine jzb hb fun X3 hX3 hb=>?_;have hOW:=bG hOW hX3;replace hB0:=hB0.bel hX3;have hcx:=hcx.below hX3 hbb;replace hbb:=Nat.lt_of_lt_of_le hbb (hX3).size;go_upto_region 7 with fail;refine jp ?_;refine jm (vI k) ?_;refine jv (vI ((k+1:Nat):Int)) (aU _ _ _ _ (by rfl) (k:Int) 1 ((k+1:Nat):Int) (by rfl) (by rfl) (by omega) (by omega) (by omega)) ?_;refine jm (vI ((k+1:Nat):Int)) ?_;refine jzb hb fun X4 hX4 hb=>?_;have hOW:=bG hOW hX4;replace hB0:=hB0.bel hX4;rw [← HPS.out] at hOW HPL
    go_wp2
    go_roundw
    case rel=>exact ⟨k+1,n5,c5,A5,by omega,by omega,rfl,rfl,HPL,hOW,hb⟩
    case measure=>simp [intOf];omega
   ·have HPS:Hid (plN l a day (k+1)=plN l a day k++[(k:Int)]):=by
     show _=_
     rw [dU,← HX.out,if_pos ⟨by omega,by omega⟩]
    go_upto_region 8 with fail;refine jp ?_;refine jn (vP w.heap.size 1) ?_;refine jf _ hB0 1 aK ?_;refine jm (vI k) ?_;refine jv (vP b (off+k * 13)) (aW Tryz.underlying22 aI _ _ (by rfl) b (off) n cp k (by omega) (by rfl) (by rfl) rfl) ?_;refine jn (vP b (off+k * 13+1)) ?_;refine jg (vI x.deb) (fun X hX hF=>aV 3 _ (by rfl) b (off+k * 13+1) (by rfl) _ X ((hcx.below hX hbb) 1 _ rfl) (fun X u h=>aB b (off+k * 13+1) X u h)) ?_;refine jm (vI a) ?_;refine bZ x.deb a (by omega) ?_;refine jm (.bool true) ?_;refine js ?_;refine js ?_;refine js ?_;refine js ?_;refine js ?_;refine js ?_;refine js ?_;refine js ?_;refine jm (.bool true) ?_;refine jm (.bool true) ?_;refine jzb hb fun X2 hX2 hb=>?_;have hOW:=bG hOW hX2;replace hB0:=hB0.bel hX2;have hcx:=hcx.below hX2 hbb;replace hbb:=Nat.lt_of_lt_of_le hbb (hX2).size;go_upto_region 9 with fail;refine jp ?_;refine jm (.bool true) ?_;refine jm (.bool true) ?_;refine jn (vP w.heap.size 1) ?_;refine jf _ hB0 1 aK ?_;refine jm (vI k) ?_;refine jv (vP b (off+k * 13)) (aW Tryz.underlying22 aI _ _ (by rfl) b (off) n cp k (by omega) (by rfl) (by rfl) rfl) ?_;refine jn (vP b (off+k * 13)) ?_;refine jg (vI x.day) (fun X hX hF=>aV 3 _ (by rfl) b (off+k * 13) (by rfl) _ X ((hcx.below hX hbb) 0 _ rfl) (fun X u h=>aB b (off+k * 13) X u h)) ?_
    refine jm (vI day) ?_;refine qI x.day day (by omega) ?_;refine jm (.bool true) ?_;refine jzb hb fun X3 hX3 hb=>?_;have hOW:=bG hOW hX3;replace hB0:=hB0.bel hX3;have hcx:=hcx.below hX3 hbb;replace hbb:=Nat.lt_of_lt_of_le hbb (hX3).size;have hbZ:=hb.size;go_upto_region 10 with fail
    have hbA:WB.heap.size≤X3.heap.size:=by omega
    have hn_hB0:(Value.ownBlock (.slice A5 n5 c5))≠some w.heap.size:=fun h9=>by have h8:=bY hOW _ h9;omega
    refine nP (⟨WB.heap.size,3,1,.slice A5 n5 c5,n5,((plN l a day k).map I64),[vI k]⟩:Ar) 3 [none,none,some (Anew (⟨WB.heap.size,3,1,.slice A5 n5 c5,n5,((plN l a day k).map I64),[vI k]⟩:Ar) 3),some (Aout (⟨WB.heap.size,3,1,.slice A5 n5 c5,n5,((plN l a day k).map I64),[vI k]⟩:Ar))] (dI (dI (eW (fun v X Y h hR=>Anew.lasts v X Y h hR) (eW (fun v X Y h hR=>Aout.lasts v X Y h hR) (nQ))))) ?_;simp only [iB,Nat.reduceAdd];refine am (.slice A5 n5 c5) ?_;refine am (vI k) ?_;refine ab hOW 3 (fun X=>by unfold execOp;go_simp) ?_;intro v59;refine aa hOW hbA 3 2 v59 List.mem_cons_self Tryz.underlying58 sC rfl (show 0<1 by decide) (by rfl) (by intro u hu;simp only [List.mem_cons,List.not_mem_nil,or_false] at hu;rcases hu with rfl <;> rfl) (show n5+1≤maxLen by unfold maxLen;omega) (show (n5+1) * 8≤140737488355328 by omega) ?_;intro v60;refine am (v60) ?_;refine az hOW hbA ?_;intro X4 σ hX hF;have hO60:X4.ownsRow WB.heap.size 3 1 v60 (n5+1) (((plN l a day k).map I64)++[vI k]):=(hF _ _ List.mem_cons_self).2;have hB0:=hX.blk hB0 hn_hB0;have hb:=hb.trans (hX.below.mono (show WB.heap.size≤WB.heap.size by omega));clear hF hn_hB0;obtain ⟨A7,c7,rfl,_,_⟩:=(Rd.of_own hO60).form;have hOW:_:=hO60;rw [show (plN l a day k).map I64++[vI k]=(plN l a day k++[(k:Int)]).map I64 by rw [List.map_append];rfl] at hOW
    replace HPL:Hid ((plN l a day k++[(k:Int)]).length=n5+1):=by
     show _=_
     rw [List.length_append,HPL.out]
     rfl
    go_upto_region 7 with fail;refine jp ?_;refine jm (vI k) ?_;refine jv (vI ((k+1:Nat):Int)) (aU _ _ _ _ (by rfl) (k:Int) 1 ((k+1:Nat):Int) (by rfl) (by rfl) (by omega) (by omega) (by omega)) ?_;refine jm (vI ((k+1:Nat):Int)) ?_;refine jzb hb fun X5 hX5 hb=>?_;have hOW:=bG hOW hX5;replace hB0:=hB0.bel hX5;rw [← HPS.out] at hOW HPL
    go_wp2
    go_roundw
    case rel=>exact ⟨k+1,n5+1,c7,A7,by omega,by omega,rfl,rfl,HPL,hOW,hb⟩
    case measure=>simp [intOf];omega
   ·have HPS:Hid (plN l a day (k+1)=plN l a day k++[(k:Int)]):=by
     show _=_
     rw [dU,← HX.out,if_pos ⟨by omega,by omega⟩]
    go_upto_region 8 with fail;refine jp ?_;refine jn (vP w.heap.size 1) ?_;refine jf _ hB0 1 aK ?_;refine jm (vI k) ?_;refine jv (vP b (off+k * 13)) (aW Tryz.underlying22 aI _ _ (by rfl) b (off) n cp k (by omega) (by rfl) (by rfl) rfl) ?_;refine jn (vP b (off+k * 13+1)) ?_;refine jg (vI x.deb) (fun X hX hF=>aV 3 _ (by rfl) b (off+k * 13+1) (by rfl) _ X ((hcx.below hX hbb) 1 _ rfl) (fun X u h=>aB b (off+k * 13+1) X u h)) ?_;refine jm (vI a) ?_;refine cC x.deb a (by omega) ?_;refine jm (.bool false) ?_;refine jn (vP w.heap.size 1) ?_;refine jf _ hB0 1 aK ?_;refine jm (vI k) ?_;refine jv (vP b (off+k * 13)) (aW Tryz.underlying22 aI _ _ (by rfl) b (off) n cp k (by omega) (by rfl) (by rfl) rfl) ?_;refine jn (vP b (off+k * 13+2)) ?_;refine jg (vI x.cre) (fun X hX hF=>aV 3 _ (by rfl) b (off+k * 13+2) (by rfl) _ X ((hcx.below hX hbb) 2 _ rfl) (fun X u h=>aB b (off+k * 13+2) X u h)) ?_;refine jm (vI a) ?_;refine bZ x.cre a (by omega) ?_;refine jm (.bool true) ?_;refine jm (.bool true) ?_;refine jzb hb fun X2 hX2 hb=>?_;have hOW:=bG hOW hX2;replace hB0:=hB0.bel hX2;have hcx:=hcx.below hX2 hbb;replace hbb:=Nat.lt_of_lt_of_le hbb (hX2).size;go_upto_region 9 with fail;refine jp ?_;refine jm (.bool true) ?_
    refine jm (.bool true) ?_;refine jn (vP w.heap.size 1) ?_;refine jf _ hB0 1 aK ?_;refine jm (vI k) ?_;refine jv (vP b (off+k * 13)) (aW Tryz.underlying22 aI _ _ (by rfl) b (off) n cp k (by omega) (by rfl) (by rfl) rfl) ?_;refine jn (vP b (off+k * 13)) ?_;refine jg (vI x.day) (fun X hX hF=>aV 3 _ (by rfl) b (off+k * 13) (by rfl) _ X ((hcx.below hX hbb) 0 _ rfl) (fun X u h=>aB b (off+k * 13) X u h)) ?_;refine jm (vI day) ?_;refine qI x.day day (by omega) ?_;refine jm (.bool true) ?_;refine jzb hb fun X3 hX3 hb=>?_;have hOW:=bG hOW hX3;replace hB0:=hB0.bel hX3;have hcx:=hcx.below hX3 hbb;replace hbb:=Nat.lt_of_lt_of_le hbb (hX3).size;have hbZ:=hb.size;go_upto_region 10 with fail
    have hbA:WB.heap.size≤X3.heap.size:=by omega
    have hn_hB0:(Value.ownBlock (.slice A5 n5 c5))≠some w.heap.size:=fun h9=>by have h8:=bY hOW _ h9;omega
    refine nP (⟨WB.heap.size,3,1,.slice A5 n5 c5,n5,((plN l a day k).map I64),[vI k]⟩:Ar) 3 [none,none,some (Anew (⟨WB.heap.size,3,1,.slice A5 n5 c5,n5,((plN l a day k).map I64),[vI k]⟩:Ar) 3),some (Aout (⟨WB.heap.size,3,1,.slice A5 n5 c5,n5,((plN l a day k).map I64),[vI k]⟩:Ar))] (dI (dI (eW (fun v X Y h hR=>Anew.lasts v X Y h hR) (eW (fun v X Y h hR=>Aout.lasts v X Y h hR) (nQ))))) ?_;simp only [iB,Nat.reduceAdd];refine am (.slice A5 n5 c5) ?_;refine am (vI k) ?_;refine ab hOW 3 (fun X=>by unfold execOp;go_simp) ?_;intro v59;refine aa hOW hbA 3 2 v59 List.mem_cons_self Tryz.underlying58 sC rfl (show 0<1 by decide) (by rfl) (by intro u hu;simp only [List.mem_cons,List.not_mem_nil,or_false] at hu;rcases hu with rfl <;> rfl) (show n5+1≤maxLen by unfold maxLen;omega) (show (n5+1) * 8≤140737488355328 by omega) ?_;intro v60;refine am (v60) ?_;refine az hOW hbA ?_;intro X4 σ hX hF;have hO60:X4.ownsRow WB.heap.size 3 1 v60 (n5+1) (((plN l a day k).map I64)++[vI k]):=(hF _ _ List.mem_cons_self).2;have hB0:=hX.blk hB0 hn_hB0;have hb:=hb.trans (hX.below.mono (show WB.heap.size≤WB.heap.size by omega));clear hF hn_hB0;obtain ⟨A7,c7,rfl,_,_⟩:=(Rd.of_own hO60).form;have hOW:_:=hO60;rw [show (plN l a day k).map I64++[vI k]=(plN l a day k++[(k:Int)]).map I64 by rw [List.map_append];rfl] at hOW
    replace HPL:Hid ((plN l a day k++[(k:Int)]).length=n5+1):=by
     show _=_
     rw [List.length_append,HPL.out]
     rfl
    go_upto_region 7 with fail;refine jp ?_;refine jm (vI k) ?_;refine jv (vI ((k+1:Nat):Int)) (aU _ _ _ _ (by rfl) (k:Int) 1 ((k+1:Nat):Int) (by rfl) (by rfl) (by omega) (by omega) (by omega)) ?_;refine jm (vI ((k+1:Nat):Int)) ?_;refine jzb hb fun X5 hX5 hb=>?_;have hOW:=bG hOW hX5;replace hB0:=hB0.bel hX5;rw [← HPS.out] at hOW HPL
    go_wp2
    go_roundw
    case rel=>exact ⟨k+1,n5+1,c7,A7,by omega,by omega,rfl,rfl,HPL,hOW,hb⟩
    case measure=>simp [intOf];omega
  ·have HKN:Hid (k=l.length):=by show _=_;rw [HLN.out];omega
   have hB1:=KB1.out _ hb;go_upto_region 6 with fail;refine jp ?_;refine jm (vI k) ?_;refine jn (vP w.heap.size 1) ?_;refine jf _ hB0 1 aK ?_;refine jv (vI n) (aN Tryz.underlying22 _ (by rfl) A n cp (by rfl) _ rfl) ?_;refine bS (k:Int) (n:Int) (by omega) ?_;refine jzb hb fun X1 hX1 hb=>?_;have hOW:=bG hOW hX1;obtain ⟨hB0,hB1⟩:=bl2 hX1 hB0 hB1;go_upto_region 11 with fail;refine jq 2 ?_;refine jm (.slice A5 n5 c5) ?_;refine jn (.agg #[.slice A5 n5 c5,vI 0]) ?_;refine jzb hb fun X2 hX2 hb=>?_;have hOW:=bG hOW hX2;obtain ⟨hB0,hB1⟩:=bl2 hX2 hB0 hB1;refine bB rfl 62 (.tmp 6) (.tmp 62) rfl (w.heap.size+1) 62 _ hB1 rfl [.slice A5 n5 c5,vI 0] rfl (by rfl) (by intro u hu;simp only [List.mem_cons,List.not_mem_nil,or_false] at hu;rcases hu with rfl|rfl <;> rfl) gY ?_;intro w9 hR9 hG9;have hb0:=hbwWB.trans (hb.mono hbwWB.size);have hb1:=aY hG9 hb0 hb0.size (by omega);have hOW:=eA hOW hG9 (fun g h h9=>by injection h with h;have h8:=(bY hOW _ h9).1;omega)
   go_wp2
   refine aL rfl rfl (by rfl) Tryz.underlying62 rfl hR9 gY ⟨_,rfl,⟨_,by rw [HC.out],by rw [HL.out];unfold plA;rw [← HKN.out];exact vQn hOW HPL.out⟩,hb1⟩
theorem rtrC (c:Int) (v:Value) (l:List En) (a day:Int) (w:World) (hv:Es l v w) (hs1:Hid (∀ k,tz (en l k).am.2.1 (en l k).am.2.2 100)):Calls Tryz.prog 13 #[.agg #[vI c,v],vI a,vI day] w fun e w'=>∃ u,e=.returned u∧Pl44v (trL c l a day) (blE c l a day) u w'∧Since w w':=by
 by_cases h0:blE c l a day=0
 ·exact rtr1 c v l a day w hv hs1 h0
 ·exact rtr0 c v l a day w hv hs1 h0
end Go.Proofs.YtffgfkcljcollaaGreatDoor

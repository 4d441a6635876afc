/- The reference of layer 41: rate. -/
import Derived.Test.YtnfpenhldlfafaaGreatDoorRb41
import Derived.Test.YtnfpenhldlfafaaGreatDoorHb41
set_option linter.unusedSimpArgs false
set_option linter.unusedVariables false
set_option maxRecDepth 100000
set_option maxHeartbeats 1600000
namespace Go.Proofs.YtnfpenhldlfafaaGreatDoor
open Go.RowKit
def Rtl (l:List Ho) (M:Rat) (v:Value) (_:World):Prop:=∃ u:Rat,v=rbv u∧szR u 100000∧∀ k,k<l.length→lv (rmh l) (sr l) u k=pou l M k
theorem Rtl.lasts (l:List Ho) (M:Rat):dW (Rtl l M):=fun _ _ _ h _=>h
theorem qXb {l:List Ho} (hs:Szp l 1000) (hn:l.length≤8) {u:Rat} (hu:szR u 3001):szR (gnd l.length (rmh l) (sr l) u) 32017:=by
 unfold gnd
 refine (fU (B:=4001) fun k _=>?_).mono ?_
 ·unfold lv
  split
  ·exact (hs.rm (by decide) k).mono (by decide)
  ·exact (gB hu (hs.sr (by decide) k)).mono (by decide)
 ·have:=Nat.mul_le_mul_right 4002 hn
  omega
set_option maxHeartbeats 16000000 in
theorem rraC (p:Tr) (v:Value) (l:List Ho) (M:Rat) (w:World) (hv:Hl l v w) (hs:Hid (Szp l 1000)) (HOK:Hid (Okp p l)) (hn:l.length≤8) (hM0:0≤M) (hMz:szR M 10000):Calls Tryz.prog 80 #[.agg #[.bool p.1,vS p.2.1,vS p.2.2,v],.agg #[.bool (rN M),vS (rP M),vS (rD M)]] w fun e w'=>∃ u,e=.returned u∧Rtl l M u w'∧Since w w':=by
 obtain ⟨A,n,cp,rfl,hln,hn1,hr⟩:=hv.at;clear hv
 have HRX:Hid (∀ X,Since w X→Rd X 9 (.slice A n cp) n (fl hoc l)):=fun X h=>hr.below h
 have HLN:=Lib.hid hln
 have hn9:n≤8:=by omega
 have HES:Hid (∀ X,Since w X→Hl l (.slice A n cp) X):=fun X h=>by show Rd X 9 _ l.length _;rw [hln];exact hr.below h
 have HHS:Hid (Hs l.length (rmh l) (sr l)):=HOK.out.holds
 have HT:Hid (∀ k,k<l.length→ho l k=⟨tr (ct l k),tr (mx l k),tr (sr l k)⟩):=fun k hk=>HOK.out.ho_tr hk
 clear hr
 go_enter Tryz.func80,Tryz.ntmps80
 go_upto_region 1 with fail;obtain ⟨W0,hW0,hB0,hB1,hB2,hb⟩:=bN w 26 23 23 [.bool p.1,vS p.2.1,vS p.2.2,.slice A n cp] (zD M) zA;rw [← hW0];clear hW0;refine jq 1 ?_;refine jc (rt (rN (0:Rat)) (rP (0:Rat)) (rD (0:Rat))) (fun X hX hF=>uS X) ?_;refine aX hb hB0 hB1 hB2 fun X1 hX1 hb hB0 hB1 hB2=>?_;go_upto_region 2 with (refine osm 23 5 14 (zD (0:Rat)) aD fun Y1 hD5 hS9=>?_);have hgs5:=hb.size;have:=lt3 hB0 hB1 hB2;obtain ⟨hB0,hB1,hB2⟩:=bl3 hS9 hB0 hB1 hB2;have hb:=aF hb hS9;clear hS9;generalize X1.heap.size=g5 at *;refine jp ?_;refine jm (vI 0) ?_;refine dI hb hB0 hB1 hB2 hD5 fun X2 hX2 hb hB0 hB1 hB2 hD5=>?_
 go_wp2
 go_loopw [6] (fun rv wr=>∃ (r:Nat) (low:Rat),rv=vI r∧Hid (Rte l.length (rmh l) (sr l) M r low)∧szR low 3001∧Blk wr g5 23 (zD low)∧Blk wr w.heap.size 26 [.bool p.1,vS p.2.1,vS p.2.2,.slice A n cp]∧Blk wr (w.heap.size+1) 23 (zD M)∧Blk wr (w.heap.size+2) 23 zA∧Below w.heap.size w wr) (fun rv _=>n+1-(intOf rv).toNat)
 case atStart=>exact ⟨0,0,rfl,Rte.start HHS.out hM0,szR_zero.mono (by decide),hD5,hB0,hB1,hB2,hb⟩
 case round =>
  clear hD5 hB0 hB1 hB2 hb;obtain ⟨r,low,rfl,HQ,hlz,hD5,hB0,hB1,hB2,hb⟩:=hrel
  have hrn:r≤n:=by
   have h9:=HQ.out.more;rw [HLN.out] at h9;exact h9
  obtain ⟨gl,gl9⟩:∃ z,gnd l.length (rmh l) (sr l) low=z:=⟨_,rfl⟩;have HGL:=Lib.hid gl9
  have hglz:szR gl 32017:=by
   rw [← gl9];exact qXb hs.out hn hlz
  clear gl9;go_upto_region 3 with fail;refine jp ?_;refine jm (vI r) ?_;refine jnf hB0 3 aT ?_;refine jv (vI n) (aM G24 _ (by rfl) A n cp (by rfl) _ rfl) ?_;refine pJ (r:Int) (n:Int) (by omega) ?_;refine dI hb hB0 hB1 hB2 hD5 fun X1 hX1 hb hB0 hB1 hB2 hD5=>?_
  by_cases h9:M≤gl
  ·have LB0:szR gl 32017:=hglz
   have LB1:szR M 10000:=hMz;have hc:=cmpR_ge.2 h9
   have HPU:Hid (∀ k,k<l.length→lv (rmh l) (sr l) low k=pou l M k):=fun k hk=>lI HHS.out (HQ.out.done1 (by rw [HGL.out];exact h9)) k hk
   go_upto_region 5 with fail;refine jd ?_;refine aJ hB0 ?_;refine aC hD5 ?_;refine jc (rt (rN gl) (rP gl) (rD gl)) (fun X hX hF=>mo (qQh p _ l low X (HES.out X (Since.next hb hX)) hs hn (hlz.mono (by decide)) HT) (by rw [HGL.out])) ?_;refine aC hB1 ?_;refine jc (vI (cC gl M)) (fun X hX hF=>uD (rN gl) (rP gl) (rD gl) (rN M) (rP M) (rD M) (aZ gl) (aZ M) X (tzR LB0 (by omega)) (tzR LB1 (by omega))) ?_;refine pI (cC gl M) 0 (by omega) ?_;refine dI hb hB0 hB1 hB2 hD5 fun X2 hX2 hb hB0 hB1 hB2 hD5=>?_;go_upto_region 6 with fail;refine jq 1 ?_;refine aC hD5 ?_;refine dI hb hB0 hB1 hB2 hD5 fun X3 hX3 hb hB0 hB1 hB2 hD5=>?_;refine osb 23 4 28 (w.heap.size+2) 23 hB2 (zD low) aD ?_;intro w9 hR9 hO9 hB9 hs9;have hb9:=hB9 _ _ hb (by omega);clear hO9 hB9
   go_wp2
   refine aK rfl rfl (by rfl) G23 rfl hR9 aD ⟨_,rfl,⟨low,rfl,hlz.mono (by decide),HPU.out⟩,hb9⟩
  ·have LB0:szR gl 32017:=hglz
   have LB1:szR M 10000:=hMz
   have hc:cC gl M<0:=Int.not_le.1 fun h8=>h9 (cmpR_ge.1 h8)
   go_upto_region 5 with fail;refine jd ?_;refine aJ hB0 ?_;refine aC hD5 ?_;refine jc (rt (rN gl) (rP gl) (rD gl)) (fun X hX hF=>mo (qQh p _ l low X (HES.out X (Since.next hb hX)) hs hn (hlz.mono (by decide)) HT) (by rw [HGL.out])) ?_;refine aC hB1 ?_;refine jc (vI (cC gl M)) (fun X hX hF=>uD (rN gl) (rP gl) (rD gl) (rN M) (rP M) (rD M) (aZ gl) (aZ M) X (tzR LB0 (by omega)) (tzR LB1 (by omega))) ?_;refine tP (cC gl M) 0 (by omega) ?_;refine dI hb hB0 hB1 hB2 hD5 fun X2 hX2 hb hB0 hB1 hB2 hD5=>?_;go_upto_region 7 with fail;refine jq 1 ?_;refine aC hD5 ?_;refine dI hb hB0 hB1 hB2 hD5 fun X3 hX3 hb hB0 hB1 hB2 hD5=>?_;go_upto_region 8 with (refine osm 23 7 29 (zD low) aD fun Y3 hD7 hS9=>?_);have hgs7:=hb.size;have:=lt4 hB0 hB1 hB2 hD5;obtain ⟨hB0,hB1,hB2,hD5⟩:=bl4 hS9 hB0 hB1 hB2 hD5;have hb:=aF hb hS9;clear hS9;generalize X3.heap.size=g7 at *;refine jq 1 ?_;refine jc (rt (rN (0:Rat)) (rP (0:Rat)) (rD (0:Rat))) (fun X hX hF=>uS X) ?_;refine bU hb hB0 hB1 hB2 hD5 hD7 fun X4 hX4 hb hB0 hB1 hB2 hD5 hD7=>?_;go_upto_region 9 with (refine osm 23 8 30 (zD (0:Rat)) aD fun Y4 hD8 hS9=>?_);have hgs8:=hb.size;have:=lt5 hB0 hB1 hB2 hD5 hD7;obtain ⟨hB0,hB1,hB2,hD5,hD7⟩:=bl5 hS9 hB0 hB1 hB2 hD5 hD7;have hb:=aF hb hS9;clear hS9
   generalize X4.heap.size=g8 at *;refine jp ?_;refine jm (vI 0) ?_;refine dO hb hB0 hB1 hB2 hD5 hD7 hD8 fun X5 hX5 hb hB0 hB1 hB2 hD5 hD7 hD8=>?_
   go_wp2
   go_loopw [9] (fun kv w3=>∃ (k:Nat) (high s:Rat),k≤n∧kv=vI k∧Hid (Rhi (rmh l) (sr l) low k high s)∧szR high 3001∧Blk w3 g7 23 (zD high)∧Blk w3 g8 23 (zD s)∧Blk w3 g5 23 (zD low)∧Blk w3 w.heap.size 26 [.bool p.1,vS p.2.1,vS p.2.2,.slice A n cp]∧Blk w3 (w.heap.size+1) 23 (zD M)∧Blk w3 (w.heap.size+2) 23 zA∧Below w.heap.size w w3) (fun kv _=>n-(intOf kv).toNat)
   case atStart=>exact ⟨0,low,0,by omega,rfl,Rhi.start,hlz,hD7,hD8,hD5,hB0,hB1,hB2,hb⟩
   case round =>
    clear hD7 hD8 hD5 hB0 hB1 hB2 hb;obtain ⟨k,high,s,hk,rfl,HH,hhz,hD7,hD8,hD5,hB0,hB1,hB2,hb⟩:=hrel
    have hsz:szR s 8009:=by
     rw [HH.out.s];refine (fU (B:=1000) fun j _=>?_).mono (show k * (1000+1)+1≤8009 by omega)
     split
     ·exact hs.out.sr (by decide) j
     ·exact szR_zero.mono (by decide)
    rcases Nat.lt_or_ge k n with hlt|hlt
    ·obtain ⟨b,off,rfl,hbb,hcx⟩:=gM (HRX.out _ hb) HLN.out hlt
     rw [HOK.out.ho_tr (by rw [HLN.out];exact hlt)] at hcx
     change Cl wr b (off+k * 9) [.bool (rN (ct l k)),vS (rP (ct l k)),vS (rD (ct l k)),.bool (rN (mx l k)),vS (rP (mx l k)),vS (rD (mx l k)),.bool (rN (sr l k)),vS (rP (sr l k)),vS (rD (sr l k))] at hcx
     go_upto_region 10 with fail;refine jp ?_;refine jm (vI k) ?_;refine jnf hB0 3 aT ?_;refine jv (vI n) (aM G24 _ (by rfl) (some ⟨b,off,none⟩) n cp (by rfl) _ rfl) ?_;refine dP (k:Int) (n:Int) (by omega) ?_;refine dO hb hB0 hB1 hB2 hD5 hD7 hD8 fun X1 hX1 hb hB0 hB1 hB2 hD5 hD7 hD8=>?_;have hcx:=hcx.below hX1 hbb;replace hbb:=Nat.lt_of_lt_of_le hbb (hX1).size;go_upto_region 12 with fail;refine jq 5 ?_;refine jnf hB0 3 aT ?_;refine jm (vI k) ?_;refine jv (vP b (off+k * 9)) (bD G24 bC _ _ (by rfl) b (off) n cp k (by omega) (by rfl) (by rfl) rfl) ?_;refine jg (.agg #[.bool (rN (ct l k)),st (rP (ct l k)),st (rD (ct l k)),.bool (rN (mx l k)),st (rP (mx l k)),st (rD (mx l k)),.bool (rN (sr l k)),st (rP (sr l k)),st (rD (sr l k))]) (fun X hX hF=>bP 66 _ (by rfl) b (off+k * 9) (by rfl) G66 rfl [.bool (rN (ct l k)),vS (rP (ct l k)),vS (rD (ct l k)),.bool (rN (mx l k)),vS (rP (mx l k)),vS (rD (mx l k)),.bool (rN (sr l k)),vS (rP (sr l k)),vS (rD (sr l k))] X (Cl.part (hcx.below hX hbb) 0 _ (by rfl)) bC) ?_;refine dO hb hB0 hB1 hB2 hD5 hD7 hD8 fun X2 hX2 hb hB0 hB1 hB2 hD5 hD7 hD8=>?_;have hcx:=hcx.below hX2 hbb;replace hbb:=Nat.lt_of_lt_of_le hbb (hX2).size;go_upto_region 13 with (refine osm 66 10 42 [.bool (rN (ct l k)),vS (rP (ct l k)),vS (rD (ct l k)),.bool (rN (mx l k)),vS (rP (mx l k)),vS (rD (mx l k)),.bool (rN (sr l k)),vS (rP (sr l k)),vS (rD (sr l k))] bC fun Y2 hD10 hS9=>?_)
     have hgs10:=hb.size;have:=lt6 hB0 hB1 hB2 hD5 hD7 hD8;have hcx:=hcx.below hS9 hbb;replace hbb:=Nat.lt_of_lt_of_le hbb (hS9).size;obtain ⟨hB0,hB1,hB2,hD5,hD7,hD8⟩:=bl6 hS9 hB0 hB1 hB2 hD5 hD7 hD8;have hb:=aF hb hS9;clear hS9;generalize X2.heap.size=g10 at *
     by_cases hz:sr l k=0
     ·refine jd ?_
      refine jn (vP g10 6) ?_;refine jg (rt (rN (sr l k)) (rP (sr l k)) (rD (sr l k))) (fun X hX hF=>aP 23 _ (by rfl) g10 6 (zD (sr l k)) (by rfl) G23 rfl X (hD10.bel hX) (by rfl) aD) ?_;refine jc (rz) (fun X hX hF=>yB X) ?_;refine jv (.bool true) (cT _ _ (by rfl) (rN (sr l k)) (rP (sr l k)) (rD (sr l k)) false [] [] (by rfl) (by rfl) true (qQn hz)) ?_;refine dO hb hB0 hB1 hB2 hD5 hD7 hD8 fun X3 hX3 hb hB0 hB1 hB2 hD5 hD7 hD8=>?_;replace hD10:=hD10.bel hX3;have HH2:Hid (Rhi (rmh l) (sr l) low (k+1) high s):=HH.out.skip (Bool.eq_false_iff.2 fun h8=>(lat_t.1 h8).1 hz);go_upto_region 11 with fail;refine jp ?_;refine jm (vI k) ?_;refine jv (vI ((k+1:Nat):Int)) (aV _ _ _ _ (by rfl) (k:Int) 1 ((k+1:Nat):Int) (by rfl) (by rfl) (by omega) (by omega) (by omega)) ?_;refine jm (vI ((k+1:Nat):Int)) ?_;refine dO hb hB0 hB1 hB2 hD5 hD7 hD8 fun X4 hX4 hb hB0 hB1 hB2 hD5 hD7 hD8=>?_;replace hD10:=hD10.bel hX4
      go_wp2
      go_roundw
      case rel=>exact ⟨k+1,high,s,by omega,rfl,HH2,hhz,hD7,hD8,hD5,hB0,hB1,hB2,hb⟩
      case measure=>simp [intOf];omega
     ·refine jd ?_
      refine jn (vP g10 6) ?_;refine jg (rt (rN (sr l k)) (rP (sr l k)) (rD (sr l k))) (fun X hX hF=>aP 23 _ (by rfl) g10 6 (zD (sr l k)) (by rfl) G23 rfl X (hD10.bel hX) (by rfl) aD) ?_;refine jc (rz) (fun X hX hF=>yB X) ?_;refine jv (.bool false) (cT _ _ (by rfl) (rN (sr l k)) (rP (sr l k)) (rD (sr l k)) false [] [] (by rfl) (by rfl) false (qQo hz)) ?_;refine dO hb hB0 hB1 hB2 hD5 hD7 hD8 fun X3 hX3 hb hB0 hB1 hB2 hD5 hD7 hD8=>?_;replace hD10:=hD10.bel hX3;obtain ⟨y,y9⟩:∃ z,rmh l k / sr l k=z:=⟨_,rfl⟩;have HY:=Lib.hid y9
      have hyz:szR y 3001:=by
       rw [← y9];exact (iD (hs.out.rm (by decide) k) (hs.out.sr (by decide) k)).mono (by decide)
      clear y9;go_upto_region 14 with fail;refine jq 2 ?_;refine fX hD10 ?_;refine jc (rt (rN y) (rP y) (rD y)) (fun X hX hF=>(rfuC (ct l k) (mx l k) (sr l k) X ((hs.out.ct (by decide) k).mono (by decide)) ((hs.out.mx (by decide) k).mono (by decide)) ((hs.out.sr (by decide) k).mono (by decide)) hz).mono fun e X' ⟨h1,h2⟩=>⟨by rw [h1,← HY.out] <;> rfl,h2⟩) ?_;refine dO hb hB0 hB1 hB2 hD5 hD7 hD8 fun X4 hX4 hb hB0 hB1 hB2 hD5 hD7 hD8=>?_;replace hD10:=hD10.bel hX4;go_upto_region 15 with (refine osm 23 11 48 (zD y) aD fun Y4 hD11 hS9=>?_);have hgs11:=hb.size;have:=lt7 hB0 hB1 hB2 hD5 hD7 hD8 hD10;obtain ⟨hB0,hB1,hB2,hD5,hD7,hD8⟩:=bl6 hS9 hB0 hB1 hB2 hD5 hD7 hD8;have hD10:=hD10.bel hS9;have hb:=aF hb hS9;clear hS9;generalize X4.heap.size=g11 at *
      by_cases hl:low<y
      ·have hc:cC low y<0:=Int.not_le.1 fun h8=>absurd hl (Rat.not_lt.2 (cmpR_ge.1 h8))
       have HLT:Hid (lat (rmh l) (sr l) low k=true):=lat_t.2 ⟨hz,by rw [HY.out];exact hl⟩;refine jp ?_;refine aC hD5 ?_;refine aC hD11 ?_;refine jc (.bool true) (fun X hX hF=>qQf (rN low) (rP low) (rD low) (rN y) (rP y) (rD y) (aZ low) (aZ y) X (tzR hlz (by decide)) (tzR hyz (by decide)) hc) ?_;refine jm (.bool true) ?_;refine dO hb hB0 hB1 hB2 hD5 hD7 hD8 fun X5 hX5 hb hB0 hB1 hB2 hD5 hD7 hD8=>?_;obtain ⟨hD10,hD11⟩:=bl2 hX5 hD10 hD11
       by_cases hn7:high=low∨y<high
       ·go_upto_region 16 with fail
        refine zY [52,53,54,55,56,57,58,59,60,61,62] (fun f9 X=>(f9 62=.bool true∧True)∧Since X5 X) ?_ ?_
        ·by_cases h2:high=low
         ·refine jp ?_
          refine jmm (.bool true) (.bool true) ?_;refine aC hD7 ?_;refine aC hD5 ?_;refine jv (.bool true) (cT _ _ (by rfl) (rN high) (rP high) (rD high) (rN low) (rP low) (rD low) (by rfl) (by rfl) true (gK h2)) ?_;refine jm (.bool true) ?_;refine jss ?_;refine js ?_;refine jmm (.bool true) (.bool true) ?_
          exact aI fun X hX _=>fH ⟨⟨rfl,trivial⟩,hX⟩
         ·have hc2:cC y high<0:=Int.not_le.1 fun h8=>absurd (hn7.resolve_left h2) (Rat.not_lt.2 (cmpR_ge.1 h8))
          refine jp ?_;refine jmm (.bool true) (.bool true) ?_;refine aC hD7 ?_;refine aC hD5 ?_;refine jv (.bool false) (cT _ _ (by rfl) (rN high) (rP high) (rD high) (rN low) (rP low) (rD low) (by rfl) (by rfl) false (rS h2)) ?_;refine jm (.bool false) ?_;refine aC hD11 ?_;refine aC hD7 ?_;refine jc (.bool true) (fun X hX hF=>qQf (rN y) (rP y) (rD y) (rN high) (rP high) (rD high) (aZ y) (aZ high) X (tzR hyz (by decide)) (tzR hhz (by decide)) hc2) ?_;refine jmm (.bool true) (.bool true) ?_
          exact aI fun X hX _=>fH ⟨⟨rfl,trivial⟩,hX⟩
        ·intro f6 X6 hk9
         obtain ⟨⟨hk6_0,_⟩,hX6⟩:=hk9;simp only [lK,mT,pX,hk6_0];clear hk6_0;obtain ⟨hB0,hB1,hB2,hD5,hD7,hD8⟩:=bl6 hX6 hB0 hB1 hB2 hD5 hD7 hD8;obtain ⟨hD10,hD11⟩:=bl2 hX6 hD10 hD11;have hb:=aF hb hX6;go_upto_region 17 with fail;refine jq 1 ?_;refine aC hD11 ?_;refine dO hb hB0 hB1 hB2 hD5 hD7 hD8 fun X7 hX7 hb hB0 hB1 hB2 hD5 hD7 hD8=>?_;obtain ⟨hD10,hD11⟩:=bl2 hX7 hD10 hD11;refine osb 23 7 63 g7 23 hD7 (zD y) aD ?_;intro w17s hR9 hO9 hB9 hs9;have hb:=hB9 _ _ hb (by omega);obtain ⟨hB0,hB1,hB2,hD5,hD8,hD10,hD11⟩:=og7 hO9 hB0 hB1 hB2 hD5 hD8 hD10 hD11;have hD7:=hR9;clear hO9 hB9 hR9 hs9;refine wpList_nil ?_;have LB0:szR s 8009:=hsz;have LB1:szR (sr l k) 1000:=hs.out.sr (by decide) k;go_upto_region 18 with fail;refine jp ?_;refine jm (.bool true) ?_;refine dO hb hB0 hB1 hB2 hD5 hD7 hD8 fun X8 hX8 hb hB0 hB1 hB2 hD5 hD7 hD8=>?_;obtain ⟨hD10,hD11⟩:=bl2 hX8 hD10 hD11;go_upto_region 19 with fail;refine jq 4 ?_;refine aC hD8 ?_;refine jn (vP g10 6) ?_;refine jg (rt (rN (sr l k)) (rP (sr l k)) (rD (sr l k))) (fun X hX hF=>aP 23 _ (by rfl) g10 6 (zD (sr l k)) (by rfl) G23 rfl X (hD10.bel hX) (by rfl) aD) ?_;refine jc (rt (rN (s+(sr l k))) (rP (s+(sr l k))) (rD (s+(sr l k)))) (fun X hX hF=>uJ (rN s) (rP s) (rD s) (rN (sr l k)) (rP (sr l k)) (rD (sr l k)) (aZ s) (aZ (sr l k)) X (tzR LB0 (by omega)) (tzR LB1 (by omega))) ?_
         refine dO hb hB0 hB1 hB2 hD5 hD7 hD8 fun X9 hX9 hb hB0 hB1 hB2 hD5 hD7 hD8=>?_;obtain ⟨hD10,hD11⟩:=bl2 hX9 hD10 hD11;obtain ⟨s',hs'⟩:∃ s',s'=s+sr l k:=⟨_,rfl⟩
         have HH2:Hid (Rhi (rmh l) (sr l) low (k+1) y s'):=by
          have h7:=HH.out.new HLT.out (by rw [HY.out];exact hn7);rw [HY.out] at h7;rw [hs'];exact h7
         rw [← hs'];clear hs';refine osb 23 8 68 g8 23 hD8 (zD s') aD ?_;intro w19s hR9 hO9 hB9 hs9;have hb:=hB9 _ _ hb (by omega);obtain ⟨hB0,hB1,hB2,hD5,hD7,hD10,hD11⟩:=og7 hO9 hB0 hB1 hB2 hD5 hD7 hD10 hD11;have hD8:=hR9;clear hO9 hB9 hR9 hs9;refine wpList_nil ?_;go_upto_region 11 with fail;refine jp ?_;refine jm (vI k) ?_;refine jv (vI ((k+1:Nat):Int)) (aV _ _ _ _ (by rfl) (k:Int) 1 ((k+1:Nat):Int) (by rfl) (by rfl) (by omega) (by omega) (by omega)) ?_;refine jm (vI ((k+1:Nat):Int)) ?_;refine dO hb hB0 hB1 hB2 hD5 hD7 hD8 fun X10 hX10 hb hB0 hB1 hB2 hD5 hD7 hD8=>?_;obtain ⟨hD10,hD11⟩:=bl2 hX10 hD10 hD11
         go_wp2
         go_roundw
         case rel=>exact ⟨k+1,y,s',by omega,rfl,HH2,hyz,hD7,hD8,hD5,hB0,hB1,hB2,hb⟩
         case measure=>simp [intOf];omega
       ·have h2:high≠low:=fun h8=>hn7 (.inl h8)
        have h3:¬ y<high:=fun h8=>hn7 (.inr h8)
        have hc2:=cmpR_ge.2 (Rat.not_lt.1 h3);go_upto_region 16 with fail;refine jp ?_;refine jmm (.bool true) (.bool true) ?_;refine aC hD7 ?_;refine aC hD5 ?_;refine jv (.bool false) (cT _ _ (by rfl) (rN high) (rP high) (rD high) (rN low) (rP low) (rD low) (by rfl) (by rfl) false (rS h2)) ?_;refine jm (.bool false) ?_;refine aC hD11 ?_;refine aC hD7 ?_;refine jc (.bool false) (fun X hX hF=>qQg (rN y) (rP y) (rD y) (rN high) (rP high) (rD high) (aZ y) (aZ high) X (tzR hyz (by decide)) (tzR hhz (by decide)) hc2) ?_;refine jmm (.bool false) (.bool false) ?_;refine dO hb hB0 hB1 hB2 hD5 hD7 hD8 fun X6 hX6 hb hB0 hB1 hB2 hD5 hD7 hD8=>?_;obtain ⟨hD10,hD11⟩:=bl2 hX6 hD10 hD11;have LB0:szR s 8009:=hsz;have LB1:szR (sr l k) 1000:=hs.out.sr (by decide) k;go_upto_region 18 with fail;refine jp ?_;refine jm (.bool true) ?_;refine dO hb hB0 hB1 hB2 hD5 hD7 hD8 fun X7 hX7 hb hB0 hB1 hB2 hD5 hD7 hD8=>?_;obtain ⟨hD10,hD11⟩:=bl2 hX7 hD10 hD11;go_upto_region 19 with fail;refine jq 4 ?_;refine aC hD8 ?_;refine jn (vP g10 6) ?_;refine jg (rt (rN (sr l k)) (rP (sr l k)) (rD (sr l k))) (fun X hX hF=>aP 23 _ (by rfl) g10 6 (zD (sr l k)) (by rfl) G23 rfl X (hD10.bel hX) (by rfl) aD) ?_;refine jc (rt (rN (s+(sr l k))) (rP (s+(sr l k))) (rD (s+(sr l k)))) (fun X hX hF=>uJ (rN s) (rP s) (rD s) (rN (sr l k)) (rP (sr l k)) (rD (sr l k)) (aZ s) (aZ (sr l k)) X (tzR LB0 (by omega)) (tzR LB1 (by omega))) ?_
        refine dO hb hB0 hB1 hB2 hD5 hD7 hD8 fun X8 hX8 hb hB0 hB1 hB2 hD5 hD7 hD8=>?_;obtain ⟨hD10,hD11⟩:=bl2 hX8 hD10 hD11;obtain ⟨s',hs'⟩:∃ s',s'=s+sr l k:=⟨_,rfl⟩
        have HH2:Hid (Rhi (rmh l) (sr l) low (k+1) high s'):=by
         have h7:=HH.out.keep HLT.out h2 (by rw [HY.out];exact h3);rw [hs'];exact h7
        rw [← hs'];clear hs';refine osb 23 8 68 g8 23 hD8 (zD s') aD ?_;intro w19s hR9 hO9 hB9 hs9;have hb:=hB9 _ _ hb (by omega);obtain ⟨hB0,hB1,hB2,hD5,hD7,hD10,hD11⟩:=og7 hO9 hB0 hB1 hB2 hD5 hD7 hD10 hD11;have hD8:=hR9;clear hO9 hB9 hR9 hs9;refine wpList_nil ?_;go_upto_region 11 with fail;refine jp ?_;refine jm (vI k) ?_;refine jv (vI ((k+1:Nat):Int)) (aV _ _ _ _ (by rfl) (k:Int) 1 ((k+1:Nat):Int) (by rfl) (by rfl) (by omega) (by omega) (by omega)) ?_;refine jm (vI ((k+1:Nat):Int)) ?_;refine dO hb hB0 hB1 hB2 hD5 hD7 hD8 fun X9 hX9 hb hB0 hB1 hB2 hD5 hD7 hD8=>?_;obtain ⟨hD10,hD11⟩:=bl2 hX9 hD10 hD11
        go_wp2
        go_roundw
        case rel=>exact ⟨k+1,high,s',by omega,rfl,HH2,hhz,hD7,hD8,hD5,hB0,hB1,hB2,hb⟩
        case measure=>simp [intOf];omega
      ·have hc:=cmpR_ge.2 (Rat.not_lt.1 hl)
       refine jp ?_;refine aC hD5 ?_;refine aC hD11 ?_;refine jc (.bool false) (fun X hX hF=>qQg (rN low) (rP low) (rD low) (rN y) (rP y) (rD y) (aZ low) (aZ y) X (tzR hlz (by decide)) (tzR hyz (by decide)) hc) ?_;refine jm (.bool false) ?_;refine dO hb hB0 hB1 hB2 hD5 hD7 hD8 fun X5 hX5 hb hB0 hB1 hB2 hD5 hD7 hD8=>?_;obtain ⟨hD10,hD11⟩:=bl2 hX5 hD10 hD11;go_upto_region 16 with fail;refine jp ?_;refine jmm (.bool false) (.bool false) ?_;refine qVy ?_;refine jm (.bool false) ?_;refine dO hb hB0 hB1 hB2 hD5 hD7 hD8 fun X6 hX6 hb hB0 hB1 hB2 hD5 hD7 hD8=>?_;obtain ⟨hD10,hD11⟩:=bl2 hX6 hD10 hD11
       have HH2:Hid (Rhi (rmh l) (sr l) low (k+1) high s):=HH.out.skip (Bool.eq_false_iff.2 fun h8=>hl (by
        have h7:=(lat_t.1 h8).2;rw [HY.out] at h7
        exact h7))
       go_upto_region 18 with fail;refine jp ?_;refine jm (.bool false) ?_;refine dO hb hB0 hB1 hB2 hD5 hD7 hD8 fun X7 hX7 hb hB0 hB1 hB2 hD5 hD7 hD8=>?_;obtain ⟨hD10,hD11⟩:=bl2 hX7 hD10 hD11;go_upto_region 11 with fail;refine jp ?_;refine jm (vI k) ?_;refine jv (vI ((k+1:Nat):Int)) (aV _ _ _ _ (by rfl) (k:Int) 1 ((k+1:Nat):Int) (by rfl) (by rfl) (by omega) (by omega) (by omega)) ?_;refine jm (vI ((k+1:Nat):Int)) ?_;refine dO hb hB0 hB1 hB2 hD5 hD7 hD8 fun X8 hX8 hb hB0 hB1 hB2 hD5 hD7 hD8=>?_;obtain ⟨hD10,hD11⟩:=bl2 hX8 hD10 hD11
       go_wp2
       go_roundw
       case rel=>exact ⟨k+1,high,s,by omega,rfl,HH2,hhz,hD7,hD8,hD5,hB0,hB1,hB2,hb⟩
       case measure=>simp [intOf];omega
    ·have HHN:Hid (Rhi (rmh l) (sr l) low l.length high s):=by
      rw [HLN.out,show n=k by omega];exact HH.out
     go_upto_region 10 with fail;refine jp ?_;refine jm (vI k) ?_;refine jnf hB0 3 aT ?_;refine jv (vI n) (aM G24 _ (by rfl) A n cp (by rfl) _ rfl) ?_;refine dJ (k:Int) (n:Int) (by omega) ?_;refine dO hb hB0 hB1 hB2 hD5 hD7 hD8 fun X1 hX1 hb hB0 hB1 hB2 hD5 hD7 hD8=>?_
     by_cases h2:high=low
     ·have HPU:Hid (∀ k,k<l.length→lv (rmh l) (sr l) low k=pou l M k):=fun k hk=>lI HHS.out (HQ.out.done2 HHS.out (s:=s) (by have h8:=HHN.out;rw [h2] at h8;exact h8)) k hk
      go_upto_region 20 with fail;refine jp ?_;refine aC hD7 ?_;refine aC hD5 ?_;refine jv (.bool true) (cT _ _ (by rfl) (rN high) (rP high) (rD high) (rN low) (rP low) (rD low) (by rfl) (by rfl) true (gK h2)) ?_;refine dO hb hB0 hB1 hB2 hD5 hD7 hD8 fun X2 hX2 hb hB0 hB1 hB2 hD5 hD7 hD8=>?_;go_upto_region 21 with fail;refine jq 1 ?_;refine aC hD5 ?_;refine dO hb hB0 hB1 hB2 hD5 hD7 hD8 fun X3 hX3 hb hB0 hB1 hB2 hD5 hD7 hD8=>?_;refine osb 23 4 72 (w.heap.size+2) 23 hB2 (zD low) aD ?_;intro w9 hR9 hO9 hB9 hs9;have hb9:=hB9 _ _ hb (by omega);clear hO9 hB9
      go_wp2
      refine aK rfl rfl (by rfl) G23 rfl hR9 aD ⟨_,rfl,⟨low,rfl,hlz.mono (by decide),HPU.out⟩,hb9⟩
     ·go_upto_region 20 with fail
      refine jp ?_;refine aC hD7 ?_;refine aC hD5 ?_;refine jv (.bool false) (cT _ _ (by rfl) (rN high) (rP high) (rD high) (rN low) (rP low) (rD low) (by rfl) (by rfl) false (rS h2)) ?_;refine dO hb hB0 hB1 hB2 hD5 hD7 hD8 fun X2 hX2 hb hB0 hB1 hB2 hD5 hD7 hD8=>?_;obtain ⟨gh,gh9⟩:∃ z,gnd l.length (rmh l) (sr l) high=z:=⟨_,rfl⟩;have HGH:=Lib.hid gh9
      have hghz:szR gh 32017:=by
       rw [← gh9];exact qXb hs.out hn hhz
      clear gh9
      by_cases h3:M≤gh
      ·have LB0:szR gh 32017:=hghz
       have LB1:szR M 10000:=hMz;have LB2:szR gl 32017:=hglz;have LB3:szR (M-gl) 42018:=dF LB1 LB2;have LB4:szR s 8009:=hsz;have LB5:szR low 3001:=hlz;have LB6:szR ((M-gl) / s) 50027:=iD LB3 LB4;have hc:=cmpR_ge.2 h3
       have hs0:s≠0:=fun h8=>by
        have h7:=HHN.out.spos HHS.out h2;rw [h8] at h7;exact absurd h7 (by decide)
       have HPU:Hid (∀ k,k<l.length→lv (rmh l) (sr l) (low+((M-gl) / s)) k=pou l M k):=fun k hk=>by
        have h8:=lI HHS.out (HQ.out.done3 HHS.out HHN.out h2 (by rw [HGH.out];exact h3)) k hk;rw [HGL.out] at h8;exact h8
       have huz:szR (low+((M-gl) / s)) 53029:=lV hlz (iD (dF hMz hglz) hsz);go_upto_region 22 with fail;refine jd ?_;refine aJ hB0 ?_;refine aC hD7 ?_;refine jc (rt (rN gh) (rP gh) (rD gh)) (fun X hX hF=>mo (qQh p _ l high X (HES.out X (Since.next hb hX)) hs hn (hhz.mono (by decide)) HT) (by rw [HGH.out])) ?_;refine aC hB1 ?_;refine jc (vI (cC gh M)) (fun X hX hF=>uD (rN gh) (rP gh) (rD gh) (rN M) (rP M) (rD M) (aZ gh) (aZ M) X (tzR LB0 (by omega)) (tzR LB1 (by omega))) ?_;refine pI (cC gh M) 0 (by omega) ?_;refine dO hb hB0 hB1 hB2 hD5 hD7 hD8 fun X3 hX3 hb hB0 hB1 hB2 hD5 hD7 hD8=>?_;go_upto_region 23 with fail;have:=lt6 hB0 hB1 hB2 hD5 hD7 hD8;have hsn13:=hb.size;have hbs13:Since X3 X3:=Below.refl _ _;refine aN [none,none,none,none,none,some (Av 23 zA X3.heap.size)] (by kernel_rfl) (by kernel_rfl) (by kernel_rfl) rfl (aA (aA (aA (aA (aA (aE (Av.lasts _ _ _) (aG))))))) ?_;simp only [its,List.dropLast,Nat.zero_add,Nat.reduceAdd];refine aC hB1 ?_;refine aJ hB0 ?_;refine aC hD5 ?_;refine jc (rt (rN gl) (rP gl) (rD gl)) (fun X hX hF=>mo (qQh p _ l low X (HES.out X (Since.next hb hX)) hs hn (hlz.mono (by decide)) HT) (by rw [HGL.out])) ?_;refine jc (rt (rN (M-gl)) (rP (M-gl)) (rD (M-gl))) (fun X hX hF=>jZ (rN M) (rP M) (rD M) (rN gl) (rP gl) (rD gl) (aZ M) (aZ gl) X (tzR LB1 (by omega)) (tzR LB2 (by omega))) ?_
       refine bH (by rfl) (fun X hX hF=>Av.mk 23 zA X3.heap.size hX.size (by unfold execOp;go_simp)) ?_;intro v13;simp only [pX];refine aI ?_;intro X4 hX4 hF;have hv13:=hF _ _ zE;have hbs13:=Since.next hbs13 hX4;obtain ⟨hB0,hB1,hB2,hD5,hD7,hD8⟩:=bl6 hX4 hB0 hB1 hB2 hD5 hD7 hD8;have hb:=aF hb hX4;clear hF hX4;obtain ⟨g13,rfl,hge13,hD13⟩:=hv13;refine aU rfl 23 (.tmp 13) (.tmp 83) rfl g13 23 _ hD13 rfl (zD (M-gl)) rfl (by rfl) (al3 rfl rfl rfl) aD ?_;intro w13s hR9 hG9;have hSN13:Since X3 w13s:=aR hG9 hbs13 hbs13.size hge13;have hb:=aR hG9 hb hb.size (by omega);obtain ⟨hB0,hB1,hB2,hD5,hD7,hD8⟩:=bg6 hG9 hB0 hB1 hB2 hD5 hD7 hD8;have hD13:=hR9;clear hG9 hR9 hSN13 hbs13;refine wpList_nil ?_;go_upto_region 24 with fail;refine aN [] (by kernel_rfl) (by kernel_rfl) (by kernel_rfl) rfl (aG) ?_;simp only [its,List.dropLast,Nat.zero_add,Nat.reduceAdd];refine aC hD5 ?_;refine aC hD13 ?_;refine aC hD8 ?_;refine jc (.agg #[.bool (rN ((M-gl) / s)),st (rP ((M-gl) / s)),st (rD ((M-gl) / s)),vI 0]) (fun X hX hF=>vZj (rN (M-gl)) (rP (M-gl)) (rD (M-gl)) (rN s) (rP s) (rD s) (aZ (M-gl)) (aZ s) X (tzR LB3 (by omega)) (tzR LB4 (by omega)) hs0) ?_;refine jv (rt (rN ((M-gl) / s)) (rP ((M-gl) / s)) (rD ((M-gl) / s))) (fun X=>kW _ _ _ (by rfl) (by rfl) X (nB _ _ _ _ X)) ?_
       refine jc (.agg #[.bool (rN (low+((M-gl) / s))),st (rP (low+((M-gl) / s))),st (rD (low+((M-gl) / s)))]) (fun X hX hF=>uJ (rN low) (rP low) (rD low) (rN ((M-gl) / s)) (rP ((M-gl) / s)) (rD ((M-gl) / s)) (aZ low) (aZ ((M-gl) / s)) X (tzR LB5 (by omega)) (tzR LB6 (by omega))) ?_;refine dO hb hB0 hB1 hB2 hD5 hD7 hD8 fun X5 hX5 hb hB0 hB1 hB2 hD5 hD7 hD8=>?_;replace hD13:=hD13.bel hX5;refine osb 23 4 89 (w.heap.size+2) 23 hB2 [.bool (rN (low+((M-gl) / s))),.string ⟨(rP (low+((M-gl) / s))).toArray⟩,.string ⟨(rD (low+((M-gl) / s))).toArray⟩] aD ?_;intro w9 hR9 hO9 hB9 hs9;have hb9:=hB9 _ _ hb (by omega);clear hO9 hB9
       go_wp2
       refine aK rfl rfl (by rfl) G23 rfl hR9 aD ⟨_,rfl,⟨(low+((M-gl) / s)),rfl,huz.mono (by decide),HPU.out⟩,hb9⟩
      ·have LB0:szR gh 32017:=hghz
       have LB1:szR M 10000:=hMz
       have hc:cC gh M<0:=Int.not_le.1 fun h8=>h3 (cmpR_ge.1 h8)
       have HQ2:Hid (Rte l.length (rmh l) (sr l) M (r+1) high):=HQ.out.next HHS.out HHN.out h2 (by rw [HGH.out];exact Rat.not_le.1 h3);go_upto_region 22 with fail;refine jd ?_;refine aJ hB0 ?_;refine aC hD7 ?_;refine jc (rt (rN gh) (rP gh) (rD gh)) (fun X hX hF=>mo (qQh p _ l high X (HES.out X (Since.next hb hX)) hs hn (hhz.mono (by decide)) HT) (by rw [HGH.out])) ?_;refine aC hB1 ?_;refine jc (vI (cC gh M)) (fun X hX hF=>uD (rN gh) (rP gh) (rD gh) (rN M) (rP M) (rD M) (aZ gh) (aZ M) X (tzR LB0 (by omega)) (tzR LB1 (by omega))) ?_;refine tP (cC gh M) 0 (by omega) ?_;refine dO hb hB0 hB1 hB2 hD5 hD7 hD8 fun X3 hX3 hb hB0 hB1 hB2 hD5 hD7 hD8=>?_;go_upto_region 25 with fail;refine jq 1 ?_;refine aC hD7 ?_;refine dO hb hB0 hB1 hB2 hD5 hD7 hD8 fun X4 hX4 hb hB0 hB1 hB2 hD5 hD7 hD8=>?_;refine osb 23 5 90 g5 23 hD5 (zD high) aD ?_;intro w25s hR9 hO9 hB9 hs9;have hb:=hB9 _ _ hb (by omega);obtain ⟨hB0,hB1,hB2,hD7,hD8⟩:=og5 hO9 hB0 hB1 hB2 hD7 hD8;have hD5:=hR9;clear hO9 hB9 hR9 hs9;refine wpList_nil ?_;go_upto_region 4 with fail;refine jp ?_;refine jm (vI r) ?_;refine jv (vI ((r+1:Nat):Int)) (aV _ _ _ _ (by rfl) (r:Int) 1 ((r+1:Nat):Int) (by rfl) (by rfl) (by omega) (by omega) (by omega)) ?_;refine jm (vI ((r+1:Nat):Int)) ?_;refine dO hb hB0 hB1 hB2 hD5 hD7 hD8 fun X5 hX5 hb hB0 hB1 hB2 hD5 hD7 hD8=>?_
       go_wp2
       go_roundw
       case rel=>exact ⟨r+1,high,rfl,HQ2,hhz,hD5,hB0,hB1,hB2,hb⟩
       case measure=>simp [intOf];omega
end Go.Proofs.YtnfpenhldlfafaaGreatDoor

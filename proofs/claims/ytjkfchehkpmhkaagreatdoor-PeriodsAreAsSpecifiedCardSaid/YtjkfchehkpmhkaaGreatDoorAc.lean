/- account: Check. -/
import Derived.Test.YtjkfchehkpmhkaaGreatDoorAb
set_option linter.unusedSimpArgs false
set_option linter.unusedVariables false
set_option maxRecDepth 100000
set_option maxHeartbeats 1600000
namespace Go.Proofs.YtjkfchehkpmhkaaGreatDoor
open Go.RowKit
theorem vYv:Tryz.prog.eqGuardType Tryz.prog.depth 76=false:=by kernel_rfl
theorem kA {f:Operand→Value} {o:Oper} (x y:Operand) (ho:o.op=.binOp .neq 76 x y 76) (X Y:En) (hx:f x=.agg (enc X).toArray) (hy:f y=.agg (enc Y).toArray) (b:Bool) (hb:(!decide (X=Y))=b) (w:World):(execOp f o).run Tryz.prog w=.ok (.value (.bool b)) w:=by
 subst hb;exact cK .neq _ _ x y ho _ _ hx hy vYv _ w (xY X Y w)
theorem sD {w:World} {A:Option Addr} {n c k:Nat} {l:List En} (h:Rd w 13 (.slice A n c) n (fl enc l)) (hl:l.length=n) (hk:k≤n):Es (l.take k) (.slice A k c) w:=by
 have h1:(fl enc l).take (k * 13)=fl enc (l.take k):=xD (fun x _=>oB x) k;obtain ⟨hl9,A2,c2,h2,hc,hm,hz,hx⟩:=h
 injection h2 with e1 e2 e3
 subst e1 e3
 have hlen:(l.take k).length=k:=by
  rw [List.length_take]
  omega
 show Rd w 13 _ (l.take k).length (fl enc (l.take k))
 rw [hlen,← h1];refine ⟨by rw [List.length_take];omega,A,c,rfl,by omega,hm,hz,fun h0=>?_⟩;obtain ⟨b,off,hA,hb,hc9⟩:=hx (by omega)
 exact ⟨b,off,hA,hb,fun j u hj=>hc9 j u (by
  rw [List.getElem?_take] at hj
  split at hj
  ·exact hj
  ·cases hj)⟩
theorem Es.cap {w:World} {A:Option Addr} {n c:Nat} {l:List En} (h:Rd w 13 (.slice A n c) n (fl enc l)):n≤c∧c≤9223372036854775807:=by
 obtain ⟨hl9,A2,c2,h2,hc,hm,hx⟩:=h
 injection h2 with e1 e2 e3
 subst e1 e3
 unfold maxLen at hm
 omega
theorem tY {w:World} {b off n c:Nat} {l:List En} (h:Rd w 13 (.slice (some ⟨b,off,none⟩) n c) n (fl enc l)) (hl:l.length=n) {k:Nat} (hk:k<n):b<w.heap.size∧Cl w b (off+k * 13) (enc (en l k)):=by
 obtain ⟨b2,off2,h1,h2,h3⟩:=fL h hl hk
 injection h1 with h1
 injection h1 with h4 h5
 subst h4 h5;exact ⟨h2,h3⟩
theorem oppI (v:Value) (l:List En) (k:Nat) (a day:Int) (y:En) (w:World) (ha:a=(k:Int)) (hv:Es l v w) (hk:k<l.length) (hy:y=en l k):Calls Tryz.prog 59 #[v,vI a,vI day] w fun e w'=>e=.returned (.agg #[vI (opp y a day).day,vI (opp y a day).deb,vI (opp y a day).cre,.bool (opp y a day).am.1,vS (opp y a day).am.2.1,vS (opp y a day).am.2.2,vI (opp y a day).kd,vI (opp y a day).pd,vI (opp y a day).rf,vI (opp y a day).w1,vI (opp y a day).w2,vI (opp y a day).w3,vI (opp y a day).w4])∧Since w w':=by
 subst ha;exact oppC v l k day y w hv hk hy
def Mpn (B:Nat) (v:Value) (X:World):Prop:=∃ m,v=.map (some m)∧B≤m∧Mpb 0 (fun _=>false) v X
theorem Mpn.lasts (B:Nat):eJ (Mpn B):=by
 rintro v X Y ⟨m,h1,h2,h3⟩ hS
 exact ⟨m,h1,h2,Mpb.lasts _ _ _ _ _ h3 hS⟩
theorem qXh {f:Operand→Value} {o:Oper} (ho:o.op=.makeMap 109 none) {X:World} {B:Nat} (hB:B≤X.heap.size):∃ v X',(execOp f o).run Tryz.prog X=.ok (.value v) X'∧Mpn B v X'∧Since X X':=by
 refine ⟨_,_,?_,⟨_,rfl,hB,Mpb.made X⟩,(Below.refl X.heap.size X).alloc (Nat.le_refl _) _⟩
 unfold execOp
 simp only [ho,Option.map,Sem.run_bind,Sem.run_pure,Result.andThen_ok]
 rfl
theorem zO {k:Int} (h0:-1000000≤k) (h1:k≤1000000):(Lit.int .i64 k).wf=true:=by
 unfold Lit.wf
 simp only [Bool.and_eq_true,decide_eq_true_eq];exact ⟨Int.le_trans (by decide) h0,Int.le_trans h1 (by decide)⟩
theorem kW {c:Int} {l:List En} {k:Nat} (h:rgt c k (en l k)=false∨(0<k∧(en l k).day<(en l (k-1)).day)∨((en l k).kd=4∧dT (l.take k) (en l k)=false)):okE c l k=false:=by
 unfold okE
 rcases h with h|h|h
 ·rw [h,Bool.false_and,Bool.false_and]
 ·rw [decide_eq_true h.1,decide_eq_true h.2]
  simp
 ·rw [if_pos h.1,h.2,Bool.and_false]
theorem nO {c:Int} {l:List En} {k:Nat} (h1:rgt c k (en l k)=true) (h2:¬ (0<k∧(en l k).day<(en l (k-1)).day)) (h3:(en l k).kd=4→dT (l.take k) (en l k)=true):okE c l k=true:=by
 unfold okE
 have e2:(decide (0<k) && decide ((en l k).day<(en l (k-1)).day))=false:=by
  rw [← Bool.decide_and];exact decide_eq_false h2
 rw [h1,e2]
 split
 ·rename_i h4
  rw [h3 h4]
  rfl
 ·rfl
theorem lN {l:List En} {k:Nat} (hk:k<l.length) (a:Int):und (l.take (k+1)) a=(und (l.take k) a || (decide ((en l k).kd=4) && decide ((en l k).rf=a))):=by
 rw [List.take_add_one,List.getElem?_eq_getElem hk,mN hk];exact zR _ _ _
theorem ack0 (c:Int) (v:Value) (l:List En) (w:World) (hv:Es l v w) (h:100<c):Calls Tryz.prog 25 #[.agg #[vI c,v]] w fun e w'=>e=.returned (vI (acE c l))∧Since w w':=by
 have hln0:l.length≤4000∨4000<l.length:=by omega
 obtain ⟨A,n,cp,rfl,hln,hn1,HRX,HLN⟩:=hv19 hv;clear hv
 go_enter Tryz.func25,Tryz.ntmps25
 go_upto_region 1 with fail;obtain ⟨W0,hW0,hB0,hb⟩:=aT w 24 [vI c,.slice A n cp];rw [← hW0];clear hW0;rw [hln] at hln0;refine jp ?_;refine jnf hB0 0 aA ?_;refine cD c 100 (by omega) ?_;refine jm (.bool true) ?_;refine bR ?_;refine jm (.bool true) ?_;refine aQ hb hB0 fun X1 hX1 hb hB0=>?_;go_upto_region 2 with fail;refine jp ?_;refine jm (vI 2) ?_;refine aQ hb hB0 fun X2 hX2 hb hB0=>?_;have HC:Hid (acE c l=2):=oC (by omega)
 go_wp2
 go_ret
 exact ⟨by rw [HC.out];rfl,hb⟩
theorem ack1 (c:Int) (v:Value) (l:List En) (w:World) (hv:Es l v w) (h0:c≤100) (h:4000<l.length):Calls Tryz.prog 25 #[.agg #[vI c,v]] w fun e w'=>e=.returned (vI (acE c l))∧Since w w':=by
 have hln0:l.length≤4000∨4000<l.length:=by omega
 obtain ⟨A,n,cp,rfl,hln,hn1,HRX,HLN⟩:=hv19 hv;clear hv
 go_enter Tryz.func25,Tryz.ntmps25
 go_upto_region 1 with fail;obtain ⟨W0,hW0,hB0,hb⟩:=aT w 24 [vI c,.slice A n cp];rw [← hW0];clear hW0;rw [hln] at h;refine jp ?_;refine jnf hB0 0 aA ?_;refine bZ c 100 (by omega) ?_;refine jm (.bool false) ?_;refine jnf hB0 1 aO ?_;refine jv (vI n) (aF Tryz.underlying22 _ (by rfl) A n cp (by rfl) _ rfl) ?_;refine cD (n:Int) 4000 (by omega) ?_;refine jm (.bool true) ?_;refine aQ hb hB0 fun X1 hX1 hb hB0=>?_;go_upto_region 2 with fail;refine jp ?_;refine jm (vI 2) ?_;refine aQ hb hB0 fun X2 hX2 hb hB0=>?_;have HC:Hid (acE c l=2):=oC (by rw [HLN.out];omega)
 go_wp2
 go_ret
 exact ⟨by rw [HC.out];rfl,hb⟩
theorem ack2 (c:Int) (v:Value) (l:List En) (w:World) (hv:Es l v w) (h0:c≤100) (h1:l.length≤4000) (h:c<1):Calls Tryz.prog 25 #[.agg #[vI c,v]] w fun e w'=>e=.returned (vI (acE c l))∧Since w w':=by
 have hln0:l.length≤4000∨4000<l.length:=by omega
 obtain ⟨A,n,cp,rfl,hln,hn1,HRX,HLN⟩:=hv19 hv;clear hv
 go_enter Tryz.func25,Tryz.ntmps25
 go_upto_region 1 with fail;obtain ⟨W0,hW0,hB0,hb⟩:=aT w 24 [vI c,.slice A n cp];rw [← hW0];clear hW0;rw [hln] at h1;refine jp ?_;refine jnf hB0 0 aA ?_;refine bZ c 100 (by omega) ?_;refine jm (.bool false) ?_;refine jnf hB0 1 aO ?_;refine jv (vI n) (aF Tryz.underlying22 _ (by rfl) A n cp (by rfl) _ rfl) ?_;refine bZ (n:Int) 4000 (by omega) ?_;refine jm (.bool false) ?_;refine aQ hb hB0 fun X1 hX1 hb hB0=>?_;go_upto_region 3 with fail;refine jp ?_;refine jnf hB0 0 aA ?_;refine cE c 1 (by omega) ?_;refine aQ hb hB0 fun X2 hX2 hb hB0=>?_;go_upto_region 4 with fail;refine jp ?_;refine jm (vI 3) ?_;refine aQ hb hB0 fun X3 hX3 hb hB0=>?_;have HC:Hid (acE c l=3):=xO h (by rw [HLN.out];exact h1)
 go_wp2
 go_ret
 exact ⟨by rw [HC.out];rfl,hb⟩
theorem ackM (c:Int) (v:Value) (l:List En) (w:World) (hv:Es l v w) (hs:Hid (∀ k,tz (en l k).am.2.1 (en l k).am.2.2 1000000)) (hc1:1≤c) (hc2:c≤100) (h4:l.length≤4000):Calls Tryz.prog 25 #[.agg #[vI c,v]] w fun e w'=>e=.returned (vI (acE c l))∧Since w w':=by
 obtain ⟨A,n,cp,rfl,hln,hn1,HRX,HLN⟩:=hv19 hv;clear hv
 go_enter Tryz.func25,Tryz.ntmps25
 go_upto_region 1 with fail;obtain ⟨W0,hW0,hB0,hb⟩:=aT w 24 [vI c,.slice A n cp];rw [← hW0];clear hW0;rw [hln] at h4;have hcp:=HRX.out w (Below.refl _ _);replace hcp:=Es.cap hcp;refine jp ?_;refine jnf hB0 0 aA ?_;refine bZ c 100 (by omega) ?_;refine jm (.bool false) ?_;refine jnf hB0 1 aO ?_;refine jv (vI n) (aF Tryz.underlying22 _ (by rfl) A n cp (by rfl) _ rfl) ?_;refine bZ (n:Int) 4000 (by omega) ?_;refine jm (.bool false) ?_;refine aQ hb hB0 fun X1 hX1 hb hB0=>?_;go_upto_region 3 with fail;refine jp ?_;refine jnf hB0 0 aA ?_;refine bI c 1 (by omega) ?_;refine aQ hb hB0 fun X2 hX2 hb hB0=>?_;go_upto_region 5 with fail;refine bU [some (Mpn (w.heap.size+1))] (aD (Mpn.lasts _) (aH)) ?_;simp only [iX,Nat.reduceAdd];refine cC (by rfl) (fun X hX hF=>qXh (by rfl) (Nat.succ_le_of_lt (hB0.bel hX).lt)) ?_;intro v19;simp only [pX];refine jm (v19) ?_;refine aJ ?_;intro X3 hX3 hF;have hv19:=hF _ _ List.mem_cons_self;replace hB0:=hB0.bel hX3;have hb:=aI hb hX3;clear hF hX3;obtain ⟨m,rfl,hm,hM⟩:=hv19;go_upto_region 6 with fail;refine jp ?_;refine jnf hB0 1 aO ?_;refine jv (vI n) (aF Tryz.underlying22 _ (by rfl) A n cp (by rfl) _ rfl) ?_;refine jm (vI 0) ?_;refine aQ hb hB0 fun X4 hX4 hb hB0=>?_;replace hM:=(Mpb.lasts _ _) _ _ _ hM hX4;have hM:Mpb 0 (fun j=>und (l.take 0) j) (.map (some m)) X4:=hM
 go_wp2
 go_loopw [23] (fun kv wr=>∃ k:Nat,k≤n∧kv=vI k∧Hid (∀ j,j<k→okE c l j=true)∧Blk wr w.heap.size 24 [vI c,.slice A n cp]∧Mpb k (fun j=>und (l.take k) j) (.map (some m)) wr∧Below w.heap.size w wr) (fun kv _=>n-(intOf kv).toNat)
 case atStart=>exact ⟨0,by omega,rfl,(fun j hj=>by omega),hB0,hM,hb⟩
 case round =>
  clear hB0 hb hM;obtain ⟨k,hk,rfl,HZ,hB0,hM,hb⟩:=hrel
  rcases Nat.lt_or_ge k n with hlt|hlt
  ·obtain ⟨b,off,rfl,hbb,hcx⟩:=fL (HRX.out _ hb) HLN.out hlt
   obtain ⟨x,x9⟩:∃ x,x=en l k:=⟨_,rfl⟩;have HX:=Lib.hid x9;clear x9;rw [← HX.out] at hcx
   change Cl wr b (off+k * 13) (eL x) at hcx
   have hxs:tz x.am.2.1 x.am.2.2 1000000:=by rw [HX.out];exact hs.out k
   go_upto_region 7 with fail;refine jp ?_;refine cE (k:Int) (n:Int) (by omega) ?_;refine aQ hb hB0 fun X1 hX1 hb hB0=>?_;replace hM:=(Mpb.lasts _ _) _ _ _ hM hX1;have hcx:=hcx.below hX1 hbb;replace hbb:=Nat.lt_of_lt_of_le hbb (hX1).size;go_upto_region 8 with fail;refine jq 3 ?_;refine jm (vI k) ?_;refine jv (vP b (off+k * 13)) (aR Tryz.underlying22 aL _ _ (by rfl) b (off) n cp k (by omega) (by rfl) (by rfl) rfl) ?_;refine jg (.agg #[vI x.day,vI x.deb,vI x.cre,.bool x.am.1,st x.am.2.1,st x.am.2.2,vI x.kd,vI x.pd,vI x.rf,vI x.w1,vI x.w2,vI x.w3,vI x.w4]) (fun X hX hF=>cW 76 _ (by rfl) b (off+k * 13) (by rfl) Tryz.underlying76 rfl (eL x) X (Cl.part (hcx.below hX hbb) 0 _ (by rfl)) aL) ?_;refine aQ hb hB0 fun X2 hX2 hb hB0=>?_;replace hM:=(Mpb.lasts _ _) _ _ _ hM hX2;have hml:=Mpb.lt hM;have hcx:=hcx.below hX2 hbb;replace hbb:=Nat.lt_of_lt_of_le hbb (hX2).size;go_upto_region 9 with (refine osn 76 5 27 #[vI x.day,vI x.deb,vI x.cre,.bool x.am.1,vS x.am.2.1,vS x.am.2.2,vI x.kd,vI x.pd,vI x.rf,vI x.w1,vI x.w2,vI x.w3,vI x.w4] aL ?_)
   obtain ⟨Y2,hY9,hD5,hS9⟩:=aT X2 76 (eL x);rw [← hY9];clear hY9;have hgs5:=hb.size;have hlt5x0:=hB0.lt;have hml:=Mpb.lt hM;have hcx:=hcx.below hS9 hbb;replace hbb:=Nat.lt_of_lt_of_le hbb (hS9).size;have hB0:=hB0.bel hS9;have hM:=(Mpb.lasts _ _) _ _ _ hM hS9;have hb:=aI hb hS9;clear hS9;generalize X2.heap.size=g5 at *;replace hm:w.heap.size+1≤m:=hm;obtain ⟨rr,r9⟩:∃ rr,rgt c k x=rr:=⟨_,rfl⟩;have HR:=Lib.hid r9;clear r9
   rcases rr with _|_
   ·go_upto_region 9 with fail
    refine jd ?_;refine jnf hB0 0 aA ?_;refine jnf hB0 1 aO ?_;refine jm (vI k) ?_;refine jv (.slice (some ⟨b,off,none⟩) k cp) (eY Tryz.underlying22 aL _ _ (by rfl) (some ⟨b,off,none⟩) n cp k (by omega) (by rfl) (by rfl) rfl) ?_;refine jn (.agg #[vI c,.slice (some ⟨b,off,none⟩) k cp]) ?_;refine ja hD5 Tryz.underlying76 (by rfl) aL ?_;refine jc (.bool false) (fun X hX hF=>mo (uL c (some ⟨b,off,none⟩) k cp x X (by omega) hxs) (by rw [HR.out])) ?_;refine jmm (.bool true) (.bool true) ?_;refine cN ?_;refine bR ?_;refine jss ?_;refine jm (.bool true) ?_;refine aN hb hB0 hD5 fun X3 hX3 hb hB0 hD5=>?_;replace hM:=(Mpb.lasts _ _) _ _ _ hM hX3;have hml:=Mpb.lt hM;go_upto_region 10 with fail;refine jp ?_;refine jm (vI 1) ?_;refine aN hb hB0 hD5 fun X4 hX4 hb hB0 hD5=>?_;replace hM:=(Mpb.lasts _ _) _ _ _ hM hX4;have hml:=Mpb.lt hM;have HC:Hid (acE c l=1):=fT hc1 hc2 (by rw [HLN.out];exact h4) (k:=k) (by rw [HLN.out];exact hlt) (kW (.inl (by rw [← HX.out];exact HR.out)))
    go_wp2
    go_ret
    exact ⟨by rw [HC.out];rfl,hb⟩
   ·rcases Nat.eq_zero_or_pos k with hk0|hk0
    ·have hday:¬ (0<k∧x.day<(en l (k-1)).day):=by omega
     go_upto_region 9 with fail;refine jd ?_;refine jnf hB0 0 aA ?_;refine jnf hB0 1 aO ?_;refine jm (vI k) ?_;refine jv (.slice (some ⟨b,off,none⟩) k cp) (eY Tryz.underlying22 aL _ _ (by rfl) (some ⟨b,off,none⟩) n cp k (by omega) (by rfl) (by rfl) rfl) ?_;refine jn (.agg #[vI c,.slice (some ⟨b,off,none⟩) k cp]) ?_;refine ja hD5 Tryz.underlying76 (by rfl) aL ?_;refine jc (.bool true) (fun X hX hF=>mo (uL c (some ⟨b,off,none⟩) k cp x X (by omega) hxs) (by rw [HR.out])) ?_;refine aX (.bool false) (.bool false) (vI k) ?_;refine bZ (k:Int) 0 (by omega) ?_;refine jm (.bool false) ?_;refine cN ?_;refine jss ?_;refine jmm (.bool false) (.bool false) ?_;refine aN hb hB0 hD5 fun X3 hX3 hb hB0 hD5=>?_;replace hM:=(Mpb.lasts _ _) _ _ _ hM hX3;have hml:=Mpb.lt hM;have HG:Hid (Rg c k x):=rgt_t.1 HR.out
     rcases (show x.kd≠4∨x.kd=4 by omega) with hkd|hkd
     ·go_upto_region 11 with fail
      refine jp ?_;refine jn (vP g5 6) ?_;refine jnf hD5 6 aA ?_;refine jv (.bool true) (bA _ _ _ _ (by rfl) .i64 x.kd 4 (by rfl) (by rfl) true (by rw [decide_eq_false (by omega)];rfl)) ?_;refine aN hb hB0 hD5 fun X4 hX4 hb hB0 hD5=>?_;replace hM:=(Mpb.lasts _ _) _ _ _ hM hX4;have hml:=Mpb.lt hM;have HOK:Hid (okE c l k=true):=nO (by rw [← HX.out];exact HR.out) (by rw [← HX.out];exact hday) (fun h9=>by rw [← HX.out] at h9;exact absurd h9 hkd)
      have HF:Hid ((fun j=>und (l.take (k+1)) j)=fun j=>und (l.take k) j):=funext fun j=>by rw [lN (by rw [HLN.out];exact hlt),← HX.out,decide_eq_false hkd];simp
      replace hM:=hM.mono (Nat.le_succ k);rw [← HF.out] at hM
      have HZ2:Hid (∀ j,j<k+1→okE c l j=true):=fun j hj=>by
       rcases Nat.lt_or_ge j k with h9|h9
       ·exact HZ.out j h9
       ·rw [show j=k by omega];exact HOK.out
      go_upto_region 17 with fail;refine jp ?_;refine jv (vI ((k+1:Nat):Int)) (bB _ _ _ _ (by rfl) (k:Int) 1 ((k+1:Nat):Int) (by rfl) (by rfl) (by omega) (by omega) (by omega)) ?_;refine jm (vI ((k+1:Nat):Int)) ?_;refine aN hb hB0 hD5 fun X5 hX5 hb hB0 hD5=>?_;replace hM:=(Mpb.lasts _ _) _ _ _ hM hX5;have hml:=Mpb.lt hM
      go_wp2
      go_roundw
      case rel=>exact ⟨k+1,by omega,rfl,HZ2,hB0,hM,hb⟩
      case measure=>simp [intOf];omega
     ·go_upto_region 11 with fail
      refine jp ?_;refine jn (vP g5 6) ?_;refine jnf hD5 6 aA ?_;refine jv (.bool false) (bA _ _ _ _ (by rfl) .i64 x.kd 4 (by rfl) (by rfl) false (by rw [decide_eq_true (by omega)];rfl)) ?_;refine aN hb hB0 hD5 fun X4 hX4 hb hB0 hD5=>?_;replace hM:=(Mpb.lasts _ _) _ _ _ hM hX4;have hml:=Mpb.lt hM
      have hrf:0≤x.rf∧x.rf<(k:Int):=by
       have h9:=HG.out.rf
       rwa [if_pos hkd] at h9
      obtain ⟨r,hr⟩:∃ r:Nat,x.rf=(r:Int):=⟨x.rf.toNat,by omega⟩;obtain ⟨y,y9⟩:∃ y,y=en l r:=⟨_,rfl⟩;have HY:=Lib.hid y9;clear y9;have hwf:(Lit.int .i64 x.rf).wf=true:=zO (by omega) (by omega)
      have HES:Hid (∀ X,Since w X→Es l (.slice (some ⟨b,off,none⟩) n cp) X):=fun X h=>by show Rd X 13 _ l.length _;rw [HLN.out];exact HRX.out X h
      go_upto_region 12 with fail;refine jq 8 ?_;refine jnf hB0 1 aO ?_;refine jn (vP g5 6) ?_;refine jnf hD5 8 aA ?_;refine jnf hD5 0 aA ?_;refine jc (.agg #[vI x.day,vI y.cre,vI y.deb,.bool y.am.1,st y.am.2.1,st y.am.2.2,vI 4,vI y.pd,vI x.rf,vI y.w1,vI y.w2,vI y.w3,vI y.w4]) (fun X hX hF=>(oppI _ l r x.rf x.day y X hr (HES.out X (Since.next hb hX)) (by rw [HLN.out];omega) HY.out).mono fun e X' ⟨h1,h2⟩=>⟨h1,h2⟩) ?_;refine aN hb hB0 hD5 fun X5 hX5 hb hB0 hD5=>?_;replace hM:=(Mpb.lasts _ _) _ _ _ hM hX5;have hml:=Mpb.lt hM;go_upto_region 13 with (refine osn 76 6 65 #[vI x.day,vI y.cre,vI y.deb,.bool y.am.1,vS y.am.2.1,vS y.am.2.2,vI 4,vI y.pd,vI x.rf,vI y.w1,vI y.w2,vI y.w3,vI y.w4] aL ?_);obtain ⟨Y5,hY9,hD6,hS9⟩:=aT X5 76 [vI x.day,vI y.cre,vI y.deb,.bool y.am.1,vS y.am.2.1,vS y.am.2.2,vI 4,vI y.pd,vI x.rf,vI y.w1,vI y.w2,vI y.w3,vI y.w4];rw [← hY9];clear hY9;have hgs6:=hb.size;have hlt6x0:=hB0.lt;have hlt6x1:=hD5.lt;have hml:=Mpb.lt hM;obtain ⟨hB0,hD5⟩:=bl2 hS9 hB0 hD5;have hM:=(Mpb.lasts _ _) _ _ _ hM hS9;have hb:=aI hb hS9;clear hS9;generalize X5.heap.size=g6 at *;go_upto_region 13 with fail
      refine jq 5 ?_;refine jnn (vP g5 6) (vP g5 9) ?_;refine jg (.agg #[vI x.w1,vI x.w2,vI x.w3,vI x.w4]) (fun X hX hF=>aY 42 _ (by rfl) g5 9 [vI x.w1,vI x.w2,vI x.w3,vI x.w4] (by rfl) Tryz.underlying42 rfl X (hD5.bel hX) (by rfl) fR) ?_;refine jnn (vP g6 6) (vP g6 9) ?_;refine bE hb hB0 hD5 hD6 fun X6 hX6 hb hB0 hD5 hD6=>?_;replace hM:=(Mpb.lasts _ _) _ _ _ hM hX6;have hml:=Mpb.lt hM;refine cL rfl 42 (.tmp 70) (.tmp 68) rfl g6 76 _ hD6 9 rfl [vI x.w1,vI x.w2,vI x.w3,vI x.w4] rfl (by simp) (al4 rfl rfl rfl rfl) fR ?_;intro w13 hR9 hG9 hs9
      change Blk w13 g6 76 [vI x.day,vI y.cre,vI y.deb,.bool y.am.1,vS y.am.2.1,vS y.am.2.2,vI 4,vI y.pd,vI x.rf,vI x.w1,vI x.w2,vI x.w3,vI x.w4] at hR9
      have hb:=aV hG9 hb hb.size (by omega);replace hB0:=aE hG9 hB0 (by omega);replace hD5:=aE hG9 hD5 (by omega);replace hM:=Mpb.grown hM hG9 (fun h9=>by injection h9 with h9;omega);have hD6:=hR9;clear hR9 hG9 hs9;obtain ⟨u,u9⟩:∃ u,und (l.take k) x.rf=u:=⟨_,rfl⟩;have HU:=Lib.hid u9;clear u9;obtain ⟨d,d9⟩:∃ d,decide (x={ opp y x.rf x.day with w1:=x.w1,w2:=x.w2,w3:=x.w3,w4:=x.w4 })=d:=⟨_,rfl⟩;have HD:=Lib.hid d9;clear d9
      have HUD:Hid (dT (l.take k) (en l k)=(!u && d)):=by
       show _=_
       unfold dT
       rw [← HX.out,xH (show x.rf.toNat<k by omega),show x.rf.toNat=r by omega,← HY.out,HU.out,HD.out]
      rcases u with _|_
      ·rcases d with _|_
       ·go_upto_region 14 with fail
        refine jp ?_;refine jmn (.map (some m)) (vP g5 6) ?_;refine jnf hD5 8 aA ?_;refine jg (.bool false) (fun X hX hF=>by simpa only [HU.out] using iV _ _ (by rfl) (by rfl) (by rfl) hwf X ((Mpb.lasts _ _) _ _ _ hM hX)) ?_;refine jm (.bool false) ?_;refine ja hD5 Tryz.underlying76 (by rfl) aL ?_;refine ja hD6 Tryz.underlying76 (by rfl) aL ?_;refine jv (.bool true) (kA _ _ (by rfl) x { opp y x.rf x.day with w1:=x.w1,w2:=x.w2,w3:=x.w3,w4:=x.w4 } (by rfl) (by rfl) true (by rw [HD.out];rfl)) ?_;refine jm (.bool true) ?_;refine bE hb hB0 hD5 hD6 fun X7 hX7 hb hB0 hD5 hD6=>?_;replace hM:=(Mpb.lasts _ _) _ _ _ hM hX7;have hml:=Mpb.lt hM;go_upto_region 15 with fail;refine jp ?_;refine jm (vI 1) ?_;refine bE hb hB0 hD5 hD6 fun X8 hX8 hb hB0 hD5 hD6=>?_;replace hM:=(Mpb.lasts _ _) _ _ _ hM hX8;have hml:=Mpb.lt hM;have HC:Hid (acE c l=1):=fT hc1 hc2 (by rw [HLN.out];exact h4) (k:=k) (by rw [HLN.out];exact hlt) (kW (.inr (.inr ⟨by rw [← HX.out];exact hkd,by rw [HUD.out];rfl⟩)))
        go_wp2
        go_ret
        exact ⟨by rw [HC.out];rfl,hb⟩
       ·go_upto_region 14 with fail
        refine jp ?_;refine jmn (.map (some m)) (vP g5 6) ?_;refine jnf hD5 8 aA ?_;refine jg (.bool false) (fun X hX hF=>by simpa only [HU.out] using iV _ _ (by rfl) (by rfl) (by rfl) hwf X ((Mpb.lasts _ _) _ _ _ hM hX)) ?_;refine jm (.bool false) ?_;refine ja hD5 Tryz.underlying76 (by rfl) aL ?_;refine ja hD6 Tryz.underlying76 (by rfl) aL ?_;refine jv (.bool false) (kA _ _ (by rfl) x { opp y x.rf x.day with w1:=x.w1,w2:=x.w2,w3:=x.w3,w4:=x.w4 } (by rfl) (by rfl) false (by rw [HD.out];rfl)) ?_;refine jm (.bool false) ?_;refine bE hb hB0 hD5 hD6 fun X7 hX7 hb hB0 hD5 hD6=>?_;replace hM:=(Mpb.lasts _ _) _ _ _ hM hX7;have hml:=Mpb.lt hM;have HOK:Hid (okE c l k=true):=nO (by rw [← HX.out];exact HR.out) (by rw [← HX.out];exact hday) (fun _=>by rw [HUD.out];rfl);go_upto_region 16 with fail;refine jq 4 ?_;refine jmn (.map (some m)) (vP g5 6) ?_;refine jnf hD5 8 aA ?_;refine bE hb hB0 hD5 hD6 fun X8 hX8 hb hB0 hD5 hD6=>?_;replace hM:=(Mpb.lasts _ _) _ _ _ hM hX8;have hml:=Mpb.lt hM;refine qQw rfl (.tmp 81) (.tmp 84) _ rfl (b:=m) (k:=x.rf) (y:=true) rfl rfl rfl hwf hM (by unfold maxLen;omega) ?_;intro w16 hM2 hG9;have hb:=aV hG9 hb hb.size (by omega);replace hB0:=aE hG9 hB0 (by omega)
        have HF:Hid ((fun j=>if j=x.rf then true else und (l.take k) j)=fun j=>und (l.take (k+1)) j):=funext fun j=>by
         rw [lN (by rw [HLN.out];exact hlt),← HX.out,decide_eq_true hkd]
         by_cases h9:j=x.rf
         ·rw [if_pos h9,decide_eq_true h9.symm];simp
         ·rw [if_neg h9,decide_eq_false (fun h8=>h9 h8.symm)];simp
        replace hM:Mpb (k+1) (fun j=>und (l.take (k+1)) j) (.map (some m)) w16:=by rw [← HF.out];exact hM2
        clear hM2 hG9 hD5 hD6;refine wpList_nil ?_
        have HZ2:Hid (∀ j,j<k+1→okE c l j=true):=fun j hj=>by
         rcases Nat.lt_or_ge j k with h9|h9
         ·exact HZ.out j h9
         ·rw [show j=k by omega];exact HOK.out
        go_upto_region 17 with fail;refine jp ?_;refine jv (vI ((k+1:Nat):Int)) (bB _ _ _ _ (by rfl) (k:Int) 1 ((k+1:Nat):Int) (by rfl) (by rfl) (by omega) (by omega) (by omega)) ?_;refine jm (vI ((k+1:Nat):Int)) ?_;refine aQ hb hB0 fun X9 hX9 hb hB0=>?_;replace hM:=(Mpb.lasts _ _) _ _ _ hM hX9;have hml:=Mpb.lt hM
        go_wp2
        go_roundw
        case rel=>exact ⟨k+1,by omega,rfl,HZ2,hB0,hM,hb⟩
        case measure=>simp [intOf];omega
      ·go_upto_region 14 with fail
       refine jp ?_;refine jmn (.map (some m)) (vP g5 6) ?_;refine jnf hD5 8 aA ?_;refine jg (.bool true) (fun X hX hF=>by simpa only [HU.out] using iV _ _ (by rfl) (by rfl) (by rfl) hwf X ((Mpb.lasts _ _) _ _ _ hM hX)) ?_;refine jm (.bool true) ?_;refine jss ?_;refine js ?_;refine jm (.bool true) ?_;refine bE hb hB0 hD5 hD6 fun X7 hX7 hb hB0 hD5 hD6=>?_;replace hM:=(Mpb.lasts _ _) _ _ _ hM hX7;have hml:=Mpb.lt hM;go_upto_region 15 with fail;refine jp ?_;refine jm (vI 1) ?_;refine bE hb hB0 hD5 hD6 fun X8 hX8 hb hB0 hD5 hD6=>?_;replace hM:=(Mpb.lasts _ _) _ _ _ hM hX8;have hml:=Mpb.lt hM;have HC:Hid (acE c l=1):=fT hc1 hc2 (by rw [HLN.out];exact h4) (k:=k) (by rw [HLN.out];exact hlt) (kW (.inr (.inr ⟨by rw [← HX.out];exact hkd,by rw [HUD.out];rfl⟩)))
       go_wp2
       go_ret
       exact ⟨by rw [HC.out];rfl,hb⟩
    ·obtain ⟨j,hj⟩:∃ j,k=j+1:=⟨k-1,by omega⟩
     obtain ⟨p,p9⟩:∃ p,p=en l (k-1):=⟨_,rfl⟩;have HP:=Lib.hid p9;clear p9;obtain ⟨hbp,hcp9⟩:=tY (HRX.out _ hb) HLN.out (k:=j) (by omega);rw [show en l j=p by rw [HP.out,hj,Nat.add_sub_cancel]] at hcp9
     change Cl Y2 b (off+j * 13) (eL p) at hcp9
     rcases (show x.day<p.day∨p.day≤x.day by omega) with hdd|hdd
     ·go_upto_region 9 with fail
      refine jd ?_;refine jnf hB0 0 aA ?_;refine jnf hB0 1 aO ?_;refine jm (vI k) ?_;refine jv (.slice (some ⟨b,off,none⟩) k cp) (eY Tryz.underlying22 aL _ _ (by rfl) (some ⟨b,off,none⟩) n cp k (by omega) (by rfl) (by rfl) rfl) ?_;refine jn (.agg #[vI c,.slice (some ⟨b,off,none⟩) k cp]) ?_;refine ja hD5 Tryz.underlying76 (by rfl) aL ?_;refine jc (.bool true) (fun X hX hF=>mo (uL c (some ⟨b,off,none⟩) k cp x X (by omega) hxs) (by rw [HR.out])) ?_;refine aX (.bool false) (.bool false) (vI k) ?_;refine cD (k:Int) 0 (by omega) ?_;refine jm (.bool true) ?_;refine jnf hD5 0 aA ?_;refine jnf hB0 1 aO ?_;refine jm (vI k) ?_;refine jv (vI j) (aW _ _ _ _ (by rfl) (k:Int) 1 (j:Int) (by rfl) (by rfl) (by omega) (by omega) (by omega)) ?_;refine jv (vP b (off+j * 13)) (aR Tryz.underlying22 aL _ _ (by rfl) b (off) n cp j (by omega) (by rfl) (by rfl) rfl) ?_;refine jn (vP b (off+j * 13)) ?_;refine jg (vI p.day) (fun X hX hF=>aP 3 _ (by rfl) b (off+j * 13) (by rfl) _ X ((hcp9.below hX hbp) 0 _ rfl) (fun X u h=>aA b (off+j * 13) X u h)) ?_;refine cE x.day p.day (by omega) ?_;refine jmm (.bool true) (.bool true) ?_;refine aN hb hB0 hD5 fun X3 hX3 hb hB0 hD5=>?_;replace hM:=(Mpb.lasts _ _) _ _ _ hM hX3;have hml:=Mpb.lt hM;have hcp9:=hcp9.below hX3 hbp;replace hbp:=Nat.lt_of_lt_of_le hbp (hX3).size
      go_upto_region 10 with fail;refine jp ?_;refine jm (vI 1) ?_;refine aN hb hB0 hD5 fun X4 hX4 hb hB0 hD5=>?_;replace hM:=(Mpb.lasts _ _) _ _ _ hM hX4;have hml:=Mpb.lt hM;have HC:Hid (acE c l=1):=fT hc1 hc2 (by rw [HLN.out];exact h4) (k:=k) (by rw [HLN.out];exact hlt) (kW (.inr (.inl ⟨by omega,by rw [← HX.out,← HP.out];exact hdd⟩)))
      go_wp2
      go_ret
      exact ⟨by rw [HC.out];rfl,hb⟩
     ·have hday:¬ (0<k∧x.day<(en l (k-1)).day):=fun h9=>by rw [← HP.out] at h9;omega
      go_upto_region 9 with fail;refine jd ?_;refine jnf hB0 0 aA ?_;refine jnf hB0 1 aO ?_;refine jm (vI k) ?_;refine jv (.slice (some ⟨b,off,none⟩) k cp) (eY Tryz.underlying22 aL _ _ (by rfl) (some ⟨b,off,none⟩) n cp k (by omega) (by rfl) (by rfl) rfl) ?_;refine jn (.agg #[vI c,.slice (some ⟨b,off,none⟩) k cp]) ?_;refine ja hD5 Tryz.underlying76 (by rfl) aL ?_;refine jc (.bool true) (fun X hX hF=>mo (uL c (some ⟨b,off,none⟩) k cp x X (by omega) hxs) (by rw [HR.out])) ?_;refine aX (.bool false) (.bool false) (vI k) ?_;refine cD (k:Int) 0 (by omega) ?_;refine jm (.bool true) ?_;refine jnf hD5 0 aA ?_;refine jnf hB0 1 aO ?_;refine jm (vI k) ?_;refine jv (vI j) (aW _ _ _ _ (by rfl) (k:Int) 1 (j:Int) (by rfl) (by rfl) (by omega) (by omega) (by omega)) ?_;refine jv (vP b (off+j * 13)) (aR Tryz.underlying22 aL _ _ (by rfl) b (off) n cp j (by omega) (by rfl) (by rfl) rfl) ?_;refine jn (vP b (off+j * 13)) ?_;refine jg (vI p.day) (fun X hX hF=>aP 3 _ (by rfl) b (off+j * 13) (by rfl) _ X ((hcp9.below hX hbp) 0 _ rfl) (fun X u h=>aA b (off+j * 13) X u h)) ?_;refine bI x.day p.day (by omega) ?_;refine jmm (.bool false) (.bool false) ?_;refine aN hb hB0 hD5 fun X3 hX3 hb hB0 hD5=>?_;replace hM:=(Mpb.lasts _ _) _ _ _ hM hX3;have hml:=Mpb.lt hM;have hcp9:=hcp9.below hX3 hbp
      replace hbp:=Nat.lt_of_lt_of_le hbp (hX3).size;have HG:Hid (Rg c k x):=rgt_t.1 HR.out
      rcases (show x.kd≠4∨x.kd=4 by omega) with hkd|hkd
      ·go_upto_region 11 with fail
       refine jp ?_;refine jn (vP g5 6) ?_;refine jnf hD5 6 aA ?_;refine jv (.bool true) (bA _ _ _ _ (by rfl) .i64 x.kd 4 (by rfl) (by rfl) true (by rw [decide_eq_false (by omega)];rfl)) ?_;refine aN hb hB0 hD5 fun X4 hX4 hb hB0 hD5=>?_;replace hM:=(Mpb.lasts _ _) _ _ _ hM hX4;have hml:=Mpb.lt hM;have HOK:Hid (okE c l k=true):=nO (by rw [← HX.out];exact HR.out) (by rw [← HX.out];exact hday) (fun h9=>by rw [← HX.out] at h9;exact absurd h9 hkd)
       have HF:Hid ((fun j=>und (l.take (k+1)) j)=fun j=>und (l.take k) j):=funext fun j=>by rw [lN (by rw [HLN.out];exact hlt),← HX.out,decide_eq_false hkd];simp
       replace hM:=hM.mono (Nat.le_succ k);rw [← HF.out] at hM
       have HZ2:Hid (∀ j,j<k+1→okE c l j=true):=fun j hj=>by
        rcases Nat.lt_or_ge j k with h9|h9
        ·exact HZ.out j h9
        ·rw [show j=k by omega];exact HOK.out
       go_upto_region 17 with fail;refine jp ?_;refine jv (vI ((k+1:Nat):Int)) (bB _ _ _ _ (by rfl) (k:Int) 1 ((k+1:Nat):Int) (by rfl) (by rfl) (by omega) (by omega) (by omega)) ?_;refine jm (vI ((k+1:Nat):Int)) ?_;refine aN hb hB0 hD5 fun X5 hX5 hb hB0 hD5=>?_;replace hM:=(Mpb.lasts _ _) _ _ _ hM hX5;have hml:=Mpb.lt hM
       go_wp2
       go_roundw
       case rel=>exact ⟨k+1,by omega,rfl,HZ2,hB0,hM,hb⟩
       case measure=>simp [intOf];omega
      ·go_upto_region 11 with fail
       refine jp ?_;refine jn (vP g5 6) ?_;refine jnf hD5 6 aA ?_;refine jv (.bool false) (bA _ _ _ _ (by rfl) .i64 x.kd 4 (by rfl) (by rfl) false (by rw [decide_eq_true (by omega)];rfl)) ?_;refine aN hb hB0 hD5 fun X4 hX4 hb hB0 hD5=>?_;replace hM:=(Mpb.lasts _ _) _ _ _ hM hX4;have hml:=Mpb.lt hM
       have hrf:0≤x.rf∧x.rf<(k:Int):=by
        have h9:=HG.out.rf
        rwa [if_pos hkd] at h9
       obtain ⟨r,hr⟩:∃ r:Nat,x.rf=(r:Int):=⟨x.rf.toNat,by omega⟩;obtain ⟨y,y9⟩:∃ y,y=en l r:=⟨_,rfl⟩;have HY:=Lib.hid y9;clear y9;have hwf:(Lit.int .i64 x.rf).wf=true:=zO (by omega) (by omega)
       have HES:Hid (∀ X,Since w X→Es l (.slice (some ⟨b,off,none⟩) n cp) X):=fun X h=>by show Rd X 13 _ l.length _;rw [HLN.out];exact HRX.out X h
       go_upto_region 12 with fail;refine jq 8 ?_;refine jnf hB0 1 aO ?_;refine jn (vP g5 6) ?_;refine jnf hD5 8 aA ?_;refine jnf hD5 0 aA ?_;refine jc (.agg #[vI x.day,vI y.cre,vI y.deb,.bool y.am.1,st y.am.2.1,st y.am.2.2,vI 4,vI y.pd,vI x.rf,vI y.w1,vI y.w2,vI y.w3,vI y.w4]) (fun X hX hF=>(oppI _ l r x.rf x.day y X hr (HES.out X (Since.next hb hX)) (by rw [HLN.out];omega) HY.out).mono fun e X' ⟨h1,h2⟩=>⟨h1,h2⟩) ?_;refine aN hb hB0 hD5 fun X5 hX5 hb hB0 hD5=>?_;replace hM:=(Mpb.lasts _ _) _ _ _ hM hX5;have hml:=Mpb.lt hM;go_upto_region 13 with (refine osn 76 6 65 #[vI x.day,vI y.cre,vI y.deb,.bool y.am.1,vS y.am.2.1,vS y.am.2.2,vI 4,vI y.pd,vI x.rf,vI y.w1,vI y.w2,vI y.w3,vI y.w4] aL ?_);obtain ⟨Y5,hY9,hD6,hS9⟩:=aT X5 76 [vI x.day,vI y.cre,vI y.deb,.bool y.am.1,vS y.am.2.1,vS y.am.2.2,vI 4,vI y.pd,vI x.rf,vI y.w1,vI y.w2,vI y.w3,vI y.w4];rw [← hY9];clear hY9;have hgs6:=hb.size;have hlt6x0:=hB0.lt;have hlt6x1:=hD5.lt;have hml:=Mpb.lt hM;obtain ⟨hB0,hD5⟩:=bl2 hS9 hB0 hD5;have hM:=(Mpb.lasts _ _) _ _ _ hM hS9;have hb:=aI hb hS9;clear hS9;generalize X5.heap.size=g6 at *;go_upto_region 13 with fail
       refine jq 5 ?_;refine jnn (vP g5 6) (vP g5 9) ?_;refine jg (.agg #[vI x.w1,vI x.w2,vI x.w3,vI x.w4]) (fun X hX hF=>aY 42 _ (by rfl) g5 9 [vI x.w1,vI x.w2,vI x.w3,vI x.w4] (by rfl) Tryz.underlying42 rfl X (hD5.bel hX) (by rfl) fR) ?_;refine jnn (vP g6 6) (vP g6 9) ?_;refine bE hb hB0 hD5 hD6 fun X6 hX6 hb hB0 hD5 hD6=>?_;replace hM:=(Mpb.lasts _ _) _ _ _ hM hX6;have hml:=Mpb.lt hM;refine cL rfl 42 (.tmp 70) (.tmp 68) rfl g6 76 _ hD6 9 rfl [vI x.w1,vI x.w2,vI x.w3,vI x.w4] rfl (by simp) (al4 rfl rfl rfl rfl) fR ?_;intro w13 hR9 hG9 hs9
       change Blk w13 g6 76 [vI x.day,vI y.cre,vI y.deb,.bool y.am.1,vS y.am.2.1,vS y.am.2.2,vI 4,vI y.pd,vI x.rf,vI x.w1,vI x.w2,vI x.w3,vI x.w4] at hR9
       have hb:=aV hG9 hb hb.size (by omega);replace hB0:=aE hG9 hB0 (by omega);replace hD5:=aE hG9 hD5 (by omega);replace hM:=Mpb.grown hM hG9 (fun h9=>by injection h9 with h9;omega);have hD6:=hR9;clear hR9 hG9 hs9;obtain ⟨u,u9⟩:∃ u,und (l.take k) x.rf=u:=⟨_,rfl⟩;have HU:=Lib.hid u9;clear u9;obtain ⟨d,d9⟩:∃ d,decide (x={ opp y x.rf x.day with w1:=x.w1,w2:=x.w2,w3:=x.w3,w4:=x.w4 })=d:=⟨_,rfl⟩;have HD:=Lib.hid d9;clear d9
       have HUD:Hid (dT (l.take k) (en l k)=(!u && d)):=by
        show _=_
        unfold dT
        rw [← HX.out,xH (show x.rf.toNat<k by omega),show x.rf.toNat=r by omega,← HY.out,HU.out,HD.out]
       rcases u with _|_
       ·rcases d with _|_
        ·go_upto_region 14 with fail
         refine jp ?_;refine jmn (.map (some m)) (vP g5 6) ?_;refine jnf hD5 8 aA ?_;refine jg (.bool false) (fun X hX hF=>by simpa only [HU.out] using iV _ _ (by rfl) (by rfl) (by rfl) hwf X ((Mpb.lasts _ _) _ _ _ hM hX)) ?_;refine jm (.bool false) ?_;refine ja hD5 Tryz.underlying76 (by rfl) aL ?_;refine ja hD6 Tryz.underlying76 (by rfl) aL ?_;refine jv (.bool true) (kA _ _ (by rfl) x { opp y x.rf x.day with w1:=x.w1,w2:=x.w2,w3:=x.w3,w4:=x.w4 } (by rfl) (by rfl) true (by rw [HD.out];rfl)) ?_;refine jm (.bool true) ?_;refine bE hb hB0 hD5 hD6 fun X7 hX7 hb hB0 hD5 hD6=>?_;replace hM:=(Mpb.lasts _ _) _ _ _ hM hX7;have hml:=Mpb.lt hM;go_upto_region 15 with fail;refine jp ?_;refine jm (vI 1) ?_;refine bE hb hB0 hD5 hD6 fun X8 hX8 hb hB0 hD5 hD6=>?_;replace hM:=(Mpb.lasts _ _) _ _ _ hM hX8;have hml:=Mpb.lt hM;have HC:Hid (acE c l=1):=fT hc1 hc2 (by rw [HLN.out];exact h4) (k:=k) (by rw [HLN.out];exact hlt) (kW (.inr (.inr ⟨by rw [← HX.out];exact hkd,by rw [HUD.out];rfl⟩)))
         go_wp2
         go_ret
         exact ⟨by rw [HC.out];rfl,hb⟩
        ·go_upto_region 14 with fail
         refine jp ?_;refine jmn (.map (some m)) (vP g5 6) ?_;refine jnf hD5 8 aA ?_;refine jg (.bool false) (fun X hX hF=>by simpa only [HU.out] using iV _ _ (by rfl) (by rfl) (by rfl) hwf X ((Mpb.lasts _ _) _ _ _ hM hX)) ?_;refine jm (.bool false) ?_;refine ja hD5 Tryz.underlying76 (by rfl) aL ?_;refine ja hD6 Tryz.underlying76 (by rfl) aL ?_;refine jv (.bool false) (kA _ _ (by rfl) x { opp y x.rf x.day with w1:=x.w1,w2:=x.w2,w3:=x.w3,w4:=x.w4 } (by rfl) (by rfl) false (by rw [HD.out];rfl)) ?_;refine jm (.bool false) ?_;refine bE hb hB0 hD5 hD6 fun X7 hX7 hb hB0 hD5 hD6=>?_;replace hM:=(Mpb.lasts _ _) _ _ _ hM hX7;have hml:=Mpb.lt hM;have HOK:Hid (okE c l k=true):=nO (by rw [← HX.out];exact HR.out) (by rw [← HX.out];exact hday) (fun _=>by rw [HUD.out];rfl);go_upto_region 16 with fail;refine jq 4 ?_;refine jmn (.map (some m)) (vP g5 6) ?_;refine jnf hD5 8 aA ?_;refine bE hb hB0 hD5 hD6 fun X8 hX8 hb hB0 hD5 hD6=>?_;replace hM:=(Mpb.lasts _ _) _ _ _ hM hX8;have hml:=Mpb.lt hM;refine qQw rfl (.tmp 81) (.tmp 84) _ rfl (b:=m) (k:=x.rf) (y:=true) rfl rfl rfl hwf hM (by unfold maxLen;omega) ?_;intro w16 hM2 hG9;have hb:=aV hG9 hb hb.size (by omega);replace hB0:=aE hG9 hB0 (by omega)
         have HF:Hid ((fun j=>if j=x.rf then true else und (l.take k) j)=fun j=>und (l.take (k+1)) j):=funext fun j=>by
          rw [lN (by rw [HLN.out];exact hlt),← HX.out,decide_eq_true hkd]
          by_cases h9:j=x.rf
          ·rw [if_pos h9,decide_eq_true h9.symm];simp
          ·rw [if_neg h9,decide_eq_false (fun h8=>h9 h8.symm)];simp
         replace hM:Mpb (k+1) (fun j=>und (l.take (k+1)) j) (.map (some m)) w16:=by rw [← HF.out];exact hM2
         clear hM2 hG9 hD5 hD6;refine wpList_nil ?_
         have HZ2:Hid (∀ j,j<k+1→okE c l j=true):=fun j hj=>by
          rcases Nat.lt_or_ge j k with h9|h9
          ·exact HZ.out j h9
          ·rw [show j=k by omega];exact HOK.out
         go_upto_region 17 with fail;refine jp ?_;refine jv (vI ((k+1:Nat):Int)) (bB _ _ _ _ (by rfl) (k:Int) 1 ((k+1:Nat):Int) (by rfl) (by rfl) (by omega) (by omega) (by omega)) ?_;refine jm (vI ((k+1:Nat):Int)) ?_;refine aQ hb hB0 fun X9 hX9 hb hB0=>?_;replace hM:=(Mpb.lasts _ _) _ _ _ hM hX9;have hml:=Mpb.lt hM
         go_wp2
         go_roundw
         case rel=>exact ⟨k+1,by omega,rfl,HZ2,hB0,hM,hb⟩
         case measure=>simp [intOf];omega
       ·go_upto_region 14 with fail
        refine jp ?_;refine jmn (.map (some m)) (vP g5 6) ?_;refine jnf hD5 8 aA ?_;refine jg (.bool true) (fun X hX hF=>by simpa only [HU.out] using iV _ _ (by rfl) (by rfl) (by rfl) hwf X ((Mpb.lasts _ _) _ _ _ hM hX)) ?_;refine jm (.bool true) ?_;refine jss ?_;refine js ?_;refine jm (.bool true) ?_;refine bE hb hB0 hD5 hD6 fun X7 hX7 hb hB0 hD5 hD6=>?_;replace hM:=(Mpb.lasts _ _) _ _ _ hM hX7;have hml:=Mpb.lt hM;go_upto_region 15 with fail;refine jp ?_;refine jm (vI 1) ?_;refine bE hb hB0 hD5 hD6 fun X8 hX8 hb hB0 hD5 hD6=>?_;replace hM:=(Mpb.lasts _ _) _ _ _ hM hX8;have hml:=Mpb.lt hM;have HC:Hid (acE c l=1):=fT hc1 hc2 (by rw [HLN.out];exact h4) (k:=k) (by rw [HLN.out];exact hlt) (kW (.inr (.inr ⟨by rw [← HX.out];exact hkd,by rw [HUD.out];rfl⟩)))
        go_wp2
        go_ret
        exact ⟨by rw [HC.out];rfl,hb⟩
  ·obtain rfl:k=n:=by omega
   go_upto_region 7 with fail;refine jp ?_;refine bI (k:Int) (k:Int) (by omega) ?_;refine aQ hb hB0 fun X1 hX1 hb hB0=>?_;replace hM:=(Mpb.lasts _ _) _ _ _ hM hX1;go_upto_region 18 with fail;refine jp ?_;refine jm (vI 0) ?_;refine aQ hb hB0 fun X2 hX2 hb hB0=>?_;replace hM:=(Mpb.lasts _ _) _ _ _ hM hX2;have HC:Hid (acE c l=0):=acE_ok.2 ⟨hc1,hc2,by rw [HLN.out];exact h4,fun j hj=>HZ.out j (by rw [← HLN.out];exact hj)⟩
   go_wp2
   go_ret
   exact ⟨by rw [HC.out];rfl,hb⟩
theorem qYc (c:Int) (v:Value) (l:List En) (w:World) (hv:Es l v w) (hs:Hid (∀ k,tz (en l k).am.2.1 (en l k).am.2.2 1000000)):Calls Tryz.prog 25 #[.agg #[vI c,v]] w fun e w'=>e=.returned (vI (acE c l))∧Since w w':=by
 rcases (show 100<c∨(c≤100∧4000<l.length)∨(c≤100∧l.length≤4000∧c<1)∨(1≤c∧c≤100∧l.length≤4000) by omega) with h|h|h|h
 ·exact ack0 c v l w hv h
 ·exact ack1 c v l w hv h.1 h.2
 ·exact ack2 c v l w hv h.1 h.2.1 h.2.2
 ·exact ackM c v l w hv hs h.1 h.2.1 h.2.2
end Go.Proofs.YtjkfchehkpmhkaaGreatDoor

/- The reference of layer 41: room, gain, gained, full. -/
import Derived.Test.YtnfpenhldlfafaaGreatDoorRa41
set_option linter.unusedSimpArgs false
set_option linter.unusedVariables false
set_option maxRecDepth 100000
set_option maxHeartbeats 1600000
namespace Go.Proofs.YtnfpenhldlfafaaGreatDoor
open Go.RowKit
theorem vZb {rm sh:Nat→Rat} {u:Rat} {B:Nat} (h:∀ k,szR (lv rm sh u k) B) {k:Nat} (hk:k≤8):szR (gnd k rm sh u) (8 * (B+1)+1):=by
 unfold gnd
 exact (fU fun j _=>h j).mono (Nat.add_le_add_right (Nat.mul_le_mul_right _ hk) 1)
theorem wW (rm sh:Nat→Rat) (u:Rat) (k:Nat):bL (rm k) (u * sh k)=lv rm sh u k:=by
 rw [kS]
 rfl
theorem nB (a b c d:Value) (X:World):(Instr.field 84 (.agg #[a,b,c,d]) 0).run Tryz.prog X=.ok (.agg #[a,b,c]) X:=by kernel_rfl
theorem kW {P:Program} {f:Operand→Value} {o:Oper} (t:TypeId) (x:Operand) (i:Nat) (ho:o.op=.field t x i) {v r:Value} (hx:f x=v) (X:World) (hr:(Instr.field t v i).run P X=.ok r X):(execOp f o).run P X=.ok (.value r) X:=by
 unfold execOp
 simp only [ho,hx,Sem.run_bind,hr,Result.andThen_ok,Sem.run_pure]
theorem rroC (c m s:Rat) (w:World) (hc:szR c 40000) (hm:szR m 40000):Calls Tryz.prog 108 #[.agg #[.bool (rN c),vS (rP c),vS (rD c),.bool (rN m),vS (rP m),vS (rD m),.bool (rN s),vS (rP s),vS (rD s)]] w fun e w'=>e=.returned (rbv (m-c))∧Since w w':=by
 have LB0:szR m 40000:=hm;have LB1:szR c 40000:=hc
 go_enter Tryz.func108,Tryz.ntmps108
 go_upto_region 1 with fail;obtain ⟨W0,hW0,hB0,hB1,hb⟩:=cH w 66 23 [.bool (rN c),vS (rP c),vS (rD c),.bool (rN m),vS (rP m),vS (rD m),.bool (rN s),vS (rP s),vS (rD s)] zA;rw [← hW0];clear hW0;refine jq 5 ?_;refine jn (vP w.heap.size 3) ?_;refine jg (rt (rN m) (rP m) (rD m)) (fun X hX hF=>aP 23 _ (by rfl) w.heap.size 3 (zD m) (by rfl) G23 rfl X (hB0.bel hX) (by rfl) aD) ?_;refine jn (vP w.heap.size 0) ?_;refine jg (rt (rN c) (rP c) (rD c)) (fun X hX hF=>aP 23 _ (by rfl) w.heap.size 0 (zD c) (by rfl) G23 rfl X (hB0.bel hX) (by rfl) aD) ?_;refine jc (rt (rN (m-c)) (rP (m-c)) (rD (m-c))) (fun X hX hF=>jZ (rN m) (rP m) (rD m) (rN c) (rP c) (rD c) (aZ m) (aZ c) X (tzR LB0 (by omega)) (tzR LB1 (by omega))) ?_;refine bO hb hB0 hB1 fun X1 hX1 hb hB0 hB1=>?_;refine osb 23 2 7 (w.heap.size+1) 23 hB1 (zD (m-c)) aD ?_;intro w9 hR9 hO9 hB9 hs9;have hb9:=hB9 _ _ hb (by omega);clear hO9 hB9
 go_wp2
 refine aK rfl rfl (by rfl) G23 rfl hR9 aD ⟨rfl,hb9⟩
theorem rgaC (c m s u:Rat) (w:World) (hc:szR c 40000) (hm:szR m 40000) (hs:szR s 40000) (hu:szR u 200000):Calls Tryz.prog 81 #[.agg #[.bool (rN c),vS (rP c),vS (rD c),.bool (rN m),vS (rP m),vS (rD m),.bool (rN s),vS (rP s),vS (rD s)],.agg #[.bool (rN u),vS (rP u),vS (rD u)]] w fun e w'=>e=.returned (rbv (bL (m-c) (u * s)))∧Since w w':=by
 have LB0:szR u 200000:=hu;have LB1:szR s 40000:=hs;have LB2:szR (m-c) 80001:=dF hm hc;have LB3:szR (u * s) 240000:=gB LB0 LB1
 go_enter Tryz.func81,Tryz.ntmps81
 go_upto_region 1 with fail;obtain ⟨W0,hW0,hB0,hB1,hB2,hb⟩:=bN w 66 23 23 [.bool (rN c),vS (rP c),vS (rD c),.bool (rN m),vS (rP m),vS (rD m),.bool (rN s),vS (rP s),vS (rD s)] (zD u) zA;rw [← hW0];clear hW0;refine aN [] (by kernel_rfl) (by kernel_rfl) (by kernel_rfl) rfl (aG) ?_;simp only [its,List.dropLast,Nat.zero_add,Nat.reduceAdd];refine fX hB0 ?_;refine jc (rt (rN (m-c)) (rP (m-c)) (rD (m-c))) (fun X hX hF=>rroC c m s X hc hm) ?_;refine aC hB1 ?_;refine jn (vP w.heap.size 6) ?_;refine jg (rt (rN s) (rP s) (rD s)) (fun X hX hF=>aP 23 _ (by rfl) w.heap.size 6 (zD s) (by rfl) G23 rfl X (hB0.bel hX) (by rfl) aD) ?_;refine jc (rt (rN (u * s)) (rP (u * s)) (rD (u * s))) (fun X hX hF=>qYz (rN u) (rP u) (rD u) (rN s) (rP s) (rD s) (aZ u) (aZ s) X (tzR LB0 (by omega)) (tzR LB1 (by omega))) ?_;refine jc (rt (rN (bL (m-c) (u * s))) (rP (bL (m-c) (u * s))) (rD (bL (m-c) (u * s)))) (fun X hX hF=>qVe (rN (m-c)) (rP (m-c)) (rD (m-c)) (rN (u * s)) (rP (u * s)) (rD (u * s)) (aZ (m-c)) (aZ (u * s)) X (tzR LB2 (by omega)) (tzR LB3 (by omega))) ?_;refine aX hb hB0 hB1 hB2 fun X1 hX1 hb hB0 hB1 hB2=>?_
 refine osb 23 4 11 (w.heap.size+2) 23 hB2 [.bool (rN (bL (m-c) (u * s))),.string ⟨(rP (bL (m-c) (u * s))).toArray⟩,.string ⟨(rD (bL (m-c) (u * s))).toArray⟩] aD ?_;intro w9 hR9 hO9 hB9 hs9;have hb9:=hB9 _ _ hb (by omega);clear hO9 hB9
 go_wp2
 refine aK rfl rfl (by rfl) G23 rfl hR9 aD ⟨rfl,hb9⟩
theorem rfuC (c m s:Rat) (w:World) (hc:szR c 40000) (hm:szR m 40000) (hs:szR s 40000) (h0:s≠0):Calls Tryz.prog 107 #[.agg #[.bool (rN c),vS (rP c),vS (rD c),.bool (rN m),vS (rP m),vS (rD m),.bool (rN s),vS (rP s),vS (rD s)]] w fun e w'=>e=.returned (rbv ((m-c) / s))∧Since w w':=by
 have LB0:szR (m-c) 80001:=dF hm hc;have LB1:szR s 40000:=hs
 go_enter Tryz.func107,Tryz.ntmps107
 go_upto_region 1 with fail;obtain ⟨W0,hW0,hB0,hB1,hb⟩:=cH w 66 23 [.bool (rN c),vS (rP c),vS (rD c),.bool (rN m),vS (rP m),vS (rD m),.bool (rN s),vS (rP s),vS (rD s)] zA;rw [← hW0];clear hW0;refine aN [] (by kernel_rfl) (by kernel_rfl) (by kernel_rfl) rfl (aG) ?_;simp only [its,List.dropLast,Nat.zero_add,Nat.reduceAdd];refine fX hB0 ?_;refine jc (rt (rN (m-c)) (rP (m-c)) (rD (m-c))) (fun X hX hF=>rroC c m s X hc hm) ?_;refine jn (vP w.heap.size 6) ?_;refine jg (rt (rN s) (rP s) (rD s)) (fun X hX hF=>aP 23 _ (by rfl) w.heap.size 6 (zD s) (by rfl) G23 rfl X (hB0.bel hX) (by rfl) aD) ?_;refine jc (.agg #[.bool (rN ((m-c) / s)),st (rP ((m-c) / s)),st (rD ((m-c) / s)),vI 0]) (fun X hX hF=>vZj (rN (m-c)) (rP (m-c)) (rD (m-c)) (rN s) (rP s) (rD s) (aZ (m-c)) (aZ s) X (tzR LB0 (by omega)) (tzR LB1 (by omega)) h0) ?_;refine jv (rt (rN ((m-c) / s)) (rP ((m-c) / s)) (rD ((m-c) / s))) (fun X=>kW _ _ _ (by rfl) (by rfl) X (nB _ _ _ _ X)) ?_;refine bO hb hB0 hB1 fun X1 hX1 hb hB0 hB1=>?_;refine osb 23 2 8 (w.heap.size+1) 23 hB1 [.bool (rN ((m-c) / s)),.string ⟨(rP ((m-c) / s)).toArray⟩,.string ⟨(rD ((m-c) / s)).toArray⟩] aD ?_
 intro w9 hR9 hO9 hB9 hs9;have hb9:=hB9 _ _ hb (by omega);clear hO9 hB9
 go_wp2
 refine aK rfl rfl (by rfl) G23 rfl hR9 aD ⟨rfl,hb9⟩
theorem qQh (p:Tr) (v:Value) (l:List Ho) (u:Rat) (w:World) (hv:Hl l v w) (hs:Hid (Szp l 1000)) (hn:l.length≤8) (hu:szR u 100000) (HT:Hid (∀ k,k<l.length→ho l k=⟨tr (ct l k),tr (mx l k),tr (sr l k)⟩)):Calls Tryz.prog 106 #[.agg #[.bool p.1,vS p.2.1,vS p.2.2,v],.agg #[.bool (rN u),vS (rP u),vS (rD u)]] w fun e w'=>e=.returned (rbv (gnd l.length (rmh l) (sr l) u))∧Since w w':=by
 obtain ⟨A,n,cp,rfl,hln,hn1,hr⟩:=hv.at;clear hv
 have HRX:Hid (∀ X,Since w X→Rd X 9 (.slice A n cp) n (fl hoc l)):=fun X h=>hr.below h
 have HLN:=Lib.hid hln
 have hn9:n≤8:=by omega
 clear hr
 go_enter Tryz.func106,Tryz.ntmps106
 go_upto_region 1 with fail;obtain ⟨W0,hW0,hB0,hB1,hB2,hb⟩:=bN w 26 23 23 [.bool p.1,vS p.2.1,vS p.2.2,.slice A n cp] (zD u) zA;rw [← hW0];clear hW0;refine jq 1 ?_;refine jc (rt (rN (0:Rat)) (rP (0:Rat)) (rD (0:Rat))) (fun X hX hF=>uS X) ?_;refine aX hb hB0 hB1 hB2 fun X1 hX1 hb hB0 hB1 hB2=>?_;go_upto_region 2 with (refine osm 23 5 7 (zD (0:Rat)) aD fun Y1 hD5 hS9=>?_);have hgs5:=hb.size;have:=lt3 hB0 hB1 hB2;obtain ⟨hB0,hB1,hB2⟩:=bl3 hS9 hB0 hB1 hB2;have hb:=aF hb hS9;clear hS9;generalize X1.heap.size=g5 at *;refine jp ?_;refine jm (vI 0) ?_;refine dI hb hB0 hB1 hB2 hD5 fun X2 hX2 hb hB0 hB1 hB2 hD5=>?_
 have hlz:Hid (∀ k,szR (lv (rmh l) (sr l) u k) 101000):=fun k=>by
  unfold lv
  split
  ·exact (dF (hs.out.mx (by decide) k) (hs.out.ct (by decide) k)).mono (by decide)
  ·exact (gB hu (hs.out.sr (by decide) k)).mono (by decide)
 go_wp2
 go_loopw [6] (fun kv wr=>∃ (k:Nat) (s:Rat),k≤n∧kv=vI k∧Hid (s=gnd k (rmh l) (sr l) u)∧Blk wr g5 23 (zD s)∧Blk wr w.heap.size 26 [.bool p.1,vS p.2.1,vS p.2.2,.slice A n cp]∧Blk wr (w.heap.size+1) 23 (zD u)∧Blk wr (w.heap.size+2) 23 zA∧Below w.heap.size w wr) (fun kv _=>n-(intOf kv).toNat)
 case atStart=>exact ⟨0,0,by omega,rfl,rfl,hD5,hB0,hB1,hB2,hb⟩
 case round =>
  clear hB0 hB1 hB2 hD5 hb;obtain ⟨k,s,hk,rfl,HS,hD5,hB0,hB1,hB2,hb⟩:=hrel
  rcases Nat.lt_or_ge k n with hlt|hlt
  ·obtain ⟨b,off,rfl,hbb,hcx⟩:=gM (HRX.out _ hb) HLN.out hlt
   rw [HT.out k (by rw [HLN.out];exact hlt)] at hcx
   change Cl wr b (off+k * 9) [.bool (rN (ct l k)),vS (rP (ct l k)),vS (rD (ct l k)),.bool (rN (mx l k)),vS (rP (mx l k)),vS (rD (mx l k)),.bool (rN (sr l k)),vS (rP (sr l k)),vS (rD (sr l k))] at hcx
   have hsz:szR s 900000:=by rw [HS.out];exact (vZb hlz.out (show k≤8 by omega)).mono (by decide)
   have LB0:szR s 900000:=hsz;have LB1:szR (lv (rmh l) (sr l) u k) 101000:=hlz.out k;go_upto_region 3 with fail;refine jp ?_;refine jm (vI k) ?_;refine jnf hB0 3 aT ?_;refine jv (vI n) (aM G24 _ (by rfl) (some ⟨b,off,none⟩) n cp (by rfl) _ rfl) ?_;refine dP (k:Int) (n:Int) (by omega) ?_;refine dI hb hB0 hB1 hB2 hD5 fun X1 hX1 hb hB0 hB1 hB2 hD5=>?_;have hcx:=hcx.below hX1 hbb;replace hbb:=Nat.lt_of_lt_of_le hbb (hX1).size;go_upto_region 5 with fail;refine aN [] (by kernel_rfl) (by kernel_rfl) (by kernel_rfl) rfl (aG) ?_;simp only [its,List.dropLast,Nat.zero_add,Nat.reduceAdd];refine aC hD5 ?_;refine jnf hB0 3 aT ?_;refine jm (vI k) ?_;refine jv (vP b (off+k * 9)) (bD G24 bC _ _ (by rfl) b (off) n cp k (by omega) (by rfl) (by rfl) rfl) ?_;refine jg (.agg #[.bool (rN (ct l k)),st (rP (ct l k)),st (rD (ct l k)),.bool (rN (mx l k)),st (rP (mx l k)),st (rD (mx l k)),.bool (rN (sr l k)),st (rP (sr l k)),st (rD (sr l k))]) (fun X hX hF=>bP 66 _ (by rfl) b (off+k * 9) (by rfl) G66 rfl [.bool (rN (ct l k)),vS (rP (ct l k)),vS (rD (ct l k)),.bool (rN (mx l k)),vS (rP (mx l k)),vS (rD (mx l k)),.bool (rN (sr l k)),vS (rP (sr l k)),vS (rD (sr l k))] X (Cl.part (hcx.below hX hbb) 0 _ (by rfl)) bC) ?_
   refine aC hB1 ?_;refine jc (rt (rN (lv (rmh l) (sr l) u k)) (rP (lv (rmh l) (sr l) u k)) (rD (lv (rmh l) (sr l) u k))) (fun X hX hF=>mo (rgaC (ct l k) (mx l k) (sr l k) u X ((hs.out.ct (by decide) k).mono (by decide)) ((hs.out.mx (by decide) k).mono (by decide)) ((hs.out.sr (by decide) k).mono (by decide)) (hu.mono (by decide))) (by rw [← wW];rfl)) ?_;refine jc (.agg #[.bool (rN (s+(lv (rmh l) (sr l) u k))),st (rP (s+(lv (rmh l) (sr l) u k))),st (rD (s+(lv (rmh l) (sr l) u k)))]) (fun X hX hF=>uJ (rN s) (rP s) (rD s) (rN (lv (rmh l) (sr l) u k)) (rP (lv (rmh l) (sr l) u k)) (rD (lv (rmh l) (sr l) u k)) (aZ s) (aZ (lv (rmh l) (sr l) u k)) X (tzR LB0 (by omega)) (tzR LB1 (by omega))) ?_;refine dI hb hB0 hB1 hB2 hD5 fun X2 hX2 hb hB0 hB1 hB2 hD5=>?_;have hcx:=hcx.below hX2 hbb;replace hbb:=Nat.lt_of_lt_of_le hbb (hX2).size;obtain ⟨s',hs'⟩:∃ s',s'=s+lv (rmh l) (sr l) u k:=⟨_,rfl⟩
   have HS2:Hid (s'=gnd (k+1) (rmh l) (sr l) u):=by
    show _=_
    unfold gnd at HS ⊢
    rw [cK,← HS.out,hs']
   rw [← hs'];clear hs';refine osb 23 5 23 g5 23 hD5 (zD s') aD ?_;intro w5s hR9 hO9 hB9 hs9;have hb:=hB9 _ _ hb (by omega);obtain ⟨hB0,hB1,hB2⟩:=og3 hO9 hB0 hB1 hB2;have hD5:=hR9;clear hO9 hB9 hR9 hs9;refine wpList_nil ?_;go_upto_region 4 with fail;refine jp ?_;refine jm (vI k) ?_;refine jv (vI ((k+1:Nat):Int)) (aV _ _ _ _ (by rfl) (k:Int) 1 ((k+1:Nat):Int) (by rfl) (by rfl) (by omega) (by omega) (by omega)) ?_;refine jm (vI ((k+1:Nat):Int)) ?_;refine dI hb hB0 hB1 hB2 hD5 fun X3 hX3 hb hB0 hB1 hB2 hD5=>?_
   go_wp2
   go_roundw
   case rel=>exact ⟨k+1,s',by omega,rfl,HS2,hD5,hB0,hB1,hB2,hb⟩
   case measure=>simp [intOf];omega
  ·have HT9:Hid (s=gnd l.length (rmh l) (sr l) u):=by
    show _=_
    rw [HLN.out,show n=k by omega];exact HS.out
   go_upto_region 3 with fail;refine jp ?_;refine jm (vI k) ?_;refine jnf hB0 3 aT ?_;refine jv (vI n) (aM G24 _ (by rfl) A n cp (by rfl) _ rfl) ?_;refine dJ (k:Int) (n:Int) (by omega) ?_;refine dI hb hB0 hB1 hB2 hD5 fun X1 hX1 hb hB0 hB1 hB2 hD5=>?_;go_upto_region 6 with fail;refine jq 1 ?_;refine aC hD5 ?_;refine dI hb hB0 hB1 hB2 hD5 fun X2 hX2 hb hB0 hB1 hB2 hD5=>?_;refine osb 23 4 24 (w.heap.size+2) 23 hB2 (zD s) aD ?_;intro w9 hR9 hO9 hB9 hs9;have hb9:=hB9 _ _ hb (by omega);clear hO9 hB9
   go_wp2
   refine aK rfl rfl (by rfl) G23 rfl hR9 aD ⟨by rw [← HT9.out],hb9⟩
end Go.Proofs.YtnfpenhldlfafaaGreatDoor

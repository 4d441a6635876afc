/- The reference of layer 5: integers, operations, order, round -/
import Derived.Test.YtffgfkcljcollaaGreatDoorR5a
import Derived.Test.YtffgfkcljcollaaGreatDoorMH
import Derived.Test.YtffgfkcljcollaaGreatDoorRk
set_option linter.unusedSimpArgs false
set_option linter.unusedVariables false
set_option maxRecDepth 100000
set_option maxHeartbeats 1600000
namespace Go.Proofs.YtffgfkcljcollaaGreatDoor
open Go.RowKit
theorem qXv {m:Nat} (h:0<m):be m=be (m / 256)++[UInt8.ofNat (m % 256)]:=by
 unfold be
 rw [qXn (by omega) h,List.map_cons,List.reverse_cons]
theorem rintC (n:Nat) (w:World) (hn:n<9223372036854775808):Calls Tryz.prog 103 #[vI n] w fun e w'=>e=.returned (.agg #[vS (be n),vI 0])∧Since w w':=by
 have hl8:(be n).length≤8:=gM (by omega)
 go_enter Tryz.func103,Tryz.ntmps103
 go_upto_region 1 with fail;have hR0:Blk (w.alloc (.cells #[.string ⟨#[]⟩,vI 0] 119)) w.heap.size 119 [.string ⟨#[]⟩,vI 0]:=Blk.new rfl;have hb:Below w.heap.size w (w.alloc (.cells #[.string ⟨#[]⟩,vI 0] 119)):=(Below.refl _ _).alloc (Nat.le_refl _) _;generalize w.alloc (.cells #[.string ⟨#[]⟩,vI 0] 119)=W0 at hR0 hb ⊢;refine jp ?_;refine jm (vI n) ?_;refine bS (n:Int) 0 (by omega) ?_;refine jzb hb fun X1 hX1 hb=>?_;have hR0:=hR0.bel hX1
 go_wp2
 go_loopw [0,3] (fun nv sv wr=>∃ (m:Nat) (l:List UInt8),nv=vI m∧sv=vS l∧m≤n∧be n=be m++l∧Blk wr w.heap.size 119 [.string ⟨#[]⟩,vI 0]∧Below w.heap.size w wr) (fun nv _ _=>(intOf nv).toNat)
 case atStart=>exact ⟨n,[],rfl,rfl,Nat.le_refl _,by rw [List.append_nil],hR0,hb⟩
 case round =>
  clear hR0 hb;obtain ⟨m,l,rfl,rfl,hm,hbe,hR0,hb⟩:=hrel
  have hll:l.length≤8:=by rw [hbe,List.length_append] at hl8;omega
  have HBE:=Lib.hid hbe;clear hbe
  rcases Nat.eq_zero_or_pos m with h0|h0
  ·have HN:Hid (be n=l):=by show _=_;rw [HBE.out,h0];rfl
   have hm0:m≤0:=by omega
   clear h0;go_upto_region 4 with fail;refine jp ?_;refine jm (vI m) ?_;refine dM (m:Int) 0 (by omega) ?_;refine jzb hb fun X1 hX1 hb=>?_;have hR0:=hR0.bel hX1;go_upto_region 7 with fail;refine jq 2 ?_;refine jm (st l) ?_;refine jn (.agg #[st l,vI 0]) ?_;refine jzb hb fun X2 hX2 hb=>?_;have hR0:=hR0.bel hX2;refine osb 119 2 19 w.heap.size 119 hR0 [vS l,vI 0] jM ?_;intro w9 hR9 hO9 hB9 hs9;have hb9:=hB9 _ _ hb (Nat.le_refl _);clear hO9 hB9
   go_wp2
   refine aL rfl rfl (by rfl) Tryz.underlying119 rfl hR9 jM ⟨by rw [HN.out],hb9⟩
  ·have HBE2:Hid (be n=be (m / 256)++([UInt8.ofNat (m % 256)]++l)):=by show _=_;rw [HBE.out,qXv h0,List.append_assoc]
   go_upto_region 4 with fail;refine jp ?_;refine jm (vI m) ?_;refine dV (m:Int) 0 (by omega) ?_;refine jzb hb fun X1 hX1 hb=>?_;have hR0:=hR0.bel hX1;go_upto_region 5 with fail;refine bE [none,none,none,some (Bts [UInt8.ofNat (m % 256)])] (aA (aA (aA (aD (Bts.lasts _) (aG))))) ?_;simp only [iX,Nat.reduceAdd];refine jm (vI m) ?_;refine jv (vI ((m % 256:Nat):Int)) (lE _ _ _ _ (by rfl) .i64 (m:Int) 256 ((m % 256:Nat):Int) (by rfl) (by rfl) (by omega) (by omega) (by omega)) ?_;refine jv (.int .u8 ((m % 256:Nat):Int)) (bJ _ _ .i64 .u8 Tryz.underlying3 Tryz.underlying5 _ (by rfl) ((m % 256:Nat):Int) ((m % 256:Nat):Int) (by rfl) (by rw [w8 (by omega) (by omega)])) ?_;refine bP (by rfl) (fun X hX hF=>⟨_,_,sL _ (by rfl) _ (by rfl) X,Bts.new1 X _ (UInt8.ofNat (m % 256)) (by rw [u8n];omega),bI X _⟩) ?_;intro v12;simp only [pX];refine jg (st [UInt8.ofNat (m % 256)]) (fun X hX hF=>by obtain ⟨A9,c9,h9,hr9⟩:=(hF _ _ List.mem_cons_self rfl);subst h9;exact nU _ _ 5 Tryz.underlying146 Tryz.underlying5 Tryz.underlying9 _ (by rfl) (by rfl) hr9) ?_;refine jm (st l) ?_;refine jv (st ([UInt8.ofNat (m % 256)]++l)) (nY _ _ _ _ (by rfl) [UInt8.ofNat (m % 256)] l (by rfl) (by rfl) (by simp only [List.length_append,List.length_cons,List.length_nil];omega)) ?_;refine jm (st ([UInt8.ofNat (m % 256)]++l)) ?_;refine aM ?_;intro X2 hX2 hF
   have hv12:=hF _ _ List.mem_cons_self;have hR0:=hR0.bel hX2;have hb:=aF hb hX2;clear hF hX2;clear hv12;go_upto_region 6 with fail;refine jp ?_;refine jm (vI m) ?_;refine jv (vI ((m / 256:Nat):Int)) (jE _ _ _ _ (by rfl) .i64 (m:Int) 256 ((m / 256:Nat):Int) (by rfl) (by rfl) (by omega) (by omega) (by omega) (IntWalk.i64_in _ (by omega))) ?_;refine jm (vI ((m / 256:Nat):Int)) ?_;refine jzb hb fun X3 hX3 hb=>?_;have hR0:=hR0.bel hX3
   go_wp2
   go_roundw
   case rel=>exact ⟨m / 256,[UInt8.ofNat (m % 256)]++l,rfl,rfl,by omega,HBE2.out,hR0,hb⟩
   case measure=>simp [intOf];omega
theorem dJ:(Tryz.prog.info? 108).map (·.size)=some 4:=by kernel_rfl
theorem cY (b k:Nat) (X:World) (v:Value) (h:X.cell? ⟨b,k,none⟩=some v):(loadVar 41 ⟨b,k,none⟩).run Tryz.prog X=.ok v X:=by
 go_simp
theorem qYc (m:Int) (k:Nat) (w:World) (h:m=(k:Int)) (hk:k<9223372036854775808):Calls Tryz.prog 103 #[vI m] w fun e w'=>e=.returned (.agg #[vS (be k),vI 0])∧Since w w':=by
 subst h;exact rintC k w hk
theorem vQd (m:Int) (w:World) (hm:cU m=true) (h:m<0):Calls Tryz.prog 84 #[vI m] w fun e w'=>e=.returned (vS (be m.natAbs))∧Since w w':=by
 have hbd:=jA hm
 go_enter Tryz.func84,Tryz.ntmps84
 go_upto_region 1 with fail;refine jp ?_;refine jm (vI m) ?_;refine cP m 0 (by omega) ?_;refine jz fun X1 hX1=>?_;have hb:Below w.heap.size w X1:=hX1;go_upto_region 2 with fail;refine jp ?_;refine jm (vI m) ?_;refine jv (vI (-m)) (jG _ _ (by rfl) m (-m) (by rfl) rfl (by omega) (by omega)) ?_;refine jm (vI (-m)) ?_;refine jzb hb fun X2 hX2 hb=>?_;go_upto_region 3 with fail;refine jp ?_;refine jm (vI (-m)) ?_;refine jc (.agg #[st (be m.natAbs),vI 0]) (fun X hX hF=>qYc (-m) m.natAbs X (by omega) (by omega)) ?_;refine jm (st (be m.natAbs)) ?_;refine jm (st (be m.natAbs)) ?_;refine jzb hb fun X3 hX3 hb=>?_
 go_wp2
 go_ret
 exact ⟨rfl,hb⟩
theorem vQe (m:Int) (w:World) (hm:cU m=true) (h:0≤m):Calls Tryz.prog 84 #[vI m] w fun e w'=>e=.returned (vS (be m.natAbs))∧Since w w':=by
 have hbd:=jA hm
 go_enter Tryz.func84,Tryz.ntmps84
 go_upto_region 1 with fail;refine jp ?_;refine jm (vI m) ?_;refine bS m 0 (by omega) ?_;refine jz fun X1 hX1=>?_;have hb:Below w.heap.size w X1:=hX1;go_upto_region 3 with fail;refine jp ?_;refine jm (vI m) ?_;refine jc (.agg #[st (be m.natAbs),vI 0]) (fun X hX hF=>qYc m m.natAbs X (by omega) (by omega)) ?_;refine jm (st (be m.natAbs)) ?_;refine jm (st (be m.natAbs)) ?_;refine jzb hb fun X2 hX2 hb=>?_
 go_wp2
 go_ret
 exact ⟨rfl,hb⟩
theorem rQ (m:Int) (w:World) (hm:cU m=true):Calls Tryz.prog 84 #[vI m] w fun e w'=>e=.returned (vS (be m.natAbs))∧Since w w':=by
 by_cases h:m<0
 ·exact vQd m w hm h
 ·exact vQe m w hm (by omega)
theorem ins50 (n:Int) (w:World) (h:n < -999999999999999):Calls Tryz.prog 83 #[vI n] w fun e w'=>e=.returned (.bool (cU n))∧Since w w':=by
 have HI:Hid (cU n=false):=by unfold cU;exact decide_eq_false (by omega)
 go_enter Tryz.func83,Tryz.ntmps83
 go_upto_region 1 with fail;refine jp ?_;refine jm (vI n) ?_;refine eD n (-999999999999999) (by omega) ?_;refine jm (.bool false) ?_;refine js ?_;refine js ?_;refine jm (.bool false) ?_;refine jm (.bool false) ?_;refine jz fun X1 hX1=>?_;have hb:Below w.heap.size w X1:=hX1
 go_wp2
 go_ret
 exact ⟨by rw [HI.out];rfl,hb⟩
theorem ins51 (n:Int) (w:World) (h:999999999999999<n):Calls Tryz.prog 83 #[vI n] w fun e w'=>e=.returned (.bool (cU n))∧Since w w':=by
 have HI:Hid (cU n=false):=by unfold cU;exact decide_eq_false (by omega)
 go_enter Tryz.func83,Tryz.ntmps83
 go_upto_region 1 with fail;refine jp ?_;refine jm (vI n) ?_;refine fD n (-999999999999999) (by omega) ?_;refine jm (.bool true) ?_;refine jm (vI n) ?_;refine oP n 999999999999999 (by omega) ?_;refine jm (.bool false) ?_;refine jm (.bool false) ?_;refine jz fun X1 hX1=>?_;have hb:Below w.heap.size w X1:=hX1
 go_wp2
 go_ret
 exact ⟨by rw [HI.out];rfl,hb⟩
theorem ins52 (n:Int) (w:World) (h1:-999999999999999≤n) (h2:n≤999999999999999):Calls Tryz.prog 83 #[vI n] w fun e w'=>e=.returned (.bool (cU n))∧Since w w':=by
 have HI:Hid (cU n=true):=by unfold cU;exact decide_eq_true (by omega)
 go_enter Tryz.func83,Tryz.ntmps83
 go_upto_region 1 with fail;refine jp ?_;refine jm (vI n) ?_;refine fD n (-999999999999999) (by omega) ?_;refine jm (.bool true) ?_;refine jm (vI n) ?_;refine qI n 999999999999999 (by omega) ?_;refine jm (.bool true) ?_;refine jm (.bool true) ?_;refine jz fun X1 hX1=>?_;have hb:Below w.heap.size w X1:=hX1
 go_wp2
 go_ret
 exact ⟨by rw [HI.out];rfl,hb⟩
theorem rY (n:Int) (w:World):Calls Tryz.prog 83 #[vI n] w fun e w'=>e=.returned (.bool (cU n))∧Since w w':=by
 by_cases h1:n < -999999999999999
 ·exact ins50 n w h1
 ·by_cases h2:999999999999999<n
  ·exact ins51 n w h2
  ·exact ins52 n w (by omega) (by omega)
theorem yP (m n:Int) (w:World) (HM:Hid (cU m=true)) (HN:Hid (cU n=true)) (ha:m<0) (hb1:n<0) (hlm:(be m.natAbs).length≤8) (hln:(be n.natAbs).length≤8) (HDP:Hid (0<n.natAbs)) (HK:Hid (mkRat (sg false m.natAbs) n.natAbs=(m:Rat) / (n:Rat))):Calls Tryz.prog 63 #[vI m,vI n] w fun e w'=>e=.returned (.agg #[.bool (rN ((m:Rat) / (n:Rat))),.string ⟨(rP ((m:Rat) / (n:Rat))).toArray⟩,.string ⟨(rD ((m:Rat) / (n:Rat))).toArray⟩,vI 0])∧Since w w':=by
 go_enter Tryz.func63,Tryz.ntmps63
 go_upto_region 1 with fail;obtain ⟨W0,hW0,hB0,hb⟩:=aQ w 108 [.bool false,.string ⟨#[]⟩,.string ⟨#[]⟩,vI 0];rw [← hW0];clear hW0;refine jp ?_;refine jm (vI m) ?_;refine jc (.bool true) (fun X hX hF=>mo (rY m X) (by rw [HM.out])) ?_;refine jm (.bool true) ?_;refine jzb hb fun X1 hX1 hb=>?_;have hB0:=hB0.bel hX1;go_upto_region 2 with fail;refine jp ?_;refine jm (vI n) ?_;refine jc (.bool true) (fun X hX hF=>mo (rY n X) (by rw [HN.out])) ?_;refine jm (.bool true) ?_;refine jzb hb fun X2 hX2 hb=>?_;have hB0:=hB0.bel hX2;go_upto_region 3 with fail;refine jp ?_;refine jm (.bool true) ?_;refine jm (.bool false) ?_;refine jm (.bool false) ?_;refine jm (.bool true) ?_;refine jm (.bool false) ?_;refine jm (.bool false) ?_;refine jzb hb fun X3 hX3 hb=>?_;have hB0:=hB0.bel hX3;go_upto_region 5 with fail;refine jp ?_;refine jm (vI n) ?_;refine cC n 0 (by omega) ?_;refine jzb hb fun X4 hX4 hb=>?_;have hB0:=hB0.bel hX4;go_upto_region 7 with fail;refine jq 11 ?_;refine jm (vI m) ?_;refine cP m 0 (by omega) ?_;refine jm (vI n) ?_;refine cP n 0 (by omega) ?_;refine jm (.bool false) ?_;refine jm (vI m) ?_;refine jc (st (be m.natAbs)) (fun X hX hF=>rQ m X HM.out) ?_;refine jm (vI n) ?_;refine jc (st (be n.natAbs)) (fun X hX hF=>rQ n X HN.out) ?_;refine jc (rt (rN (mkRat (sg false m.natAbs) n.natAbs)) (rP (mkRat (sg false m.natAbs) n.natAbs)) (rD (mkRat (sg false m.natAbs) n.natAbs))) (fun X hX hF=>oO false m.natAbs n.natAbs X HDP.out (by first|omega|decide) (by first|omega|decide)) ?_
 refine jn (.agg #[.bool (rN (mkRat (sg false m.natAbs) n.natAbs)),st (rP (mkRat (sg false m.natAbs) n.natAbs)),st (rD (mkRat (sg false m.natAbs) n.natAbs)),vI 0]) ?_;refine jzb hb fun X5 hX5 hb=>?_;have hB0:=hB0.bel hX5;refine osb 108 4 31 w.heap.size 108 hB0 [.bool (rN (mkRat (sg false m.natAbs) n.natAbs)),.string ⟨(rP (mkRat (sg false m.natAbs) n.natAbs)).toArray⟩,.string ⟨(rD (mkRat (sg false m.natAbs) n.natAbs)).toArray⟩,vI 0] dJ ?_;intro w9 hR9 hO9 hB9 hs9;have hb9:=hB9 _ _ hb (by omega);clear hO9 hB9
 go_wp2
 refine aL rfl rfl (by rfl) Tryz.underlying108 rfl hR9 dJ ⟨by rw [HK.out],hb9⟩
theorem yQ (m n:Int) (w:World) (HM:Hid (cU m=true)) (HN:Hid (cU n=true)) (ha:m<0) (hb1:0<n) (hlm:(be m.natAbs).length≤8) (hln:(be n.natAbs).length≤8) (HDP:Hid (0<n.natAbs)) (HK:Hid (mkRat (sg true m.natAbs) n.natAbs=(m:Rat) / (n:Rat))):Calls Tryz.prog 63 #[vI m,vI n] w fun e w'=>e=.returned (.agg #[.bool (rN ((m:Rat) / (n:Rat))),.string ⟨(rP ((m:Rat) / (n:Rat))).toArray⟩,.string ⟨(rD ((m:Rat) / (n:Rat))).toArray⟩,vI 0])∧Since w w':=by
 go_enter Tryz.func63,Tryz.ntmps63
 go_upto_region 1 with fail;obtain ⟨W0,hW0,hB0,hb⟩:=aQ w 108 [.bool false,.string ⟨#[]⟩,.string ⟨#[]⟩,vI 0];rw [← hW0];clear hW0;refine jp ?_;refine jm (vI m) ?_;refine jc (.bool true) (fun X hX hF=>mo (rY m X) (by rw [HM.out])) ?_;refine jm (.bool true) ?_;refine jzb hb fun X1 hX1 hb=>?_;have hB0:=hB0.bel hX1;go_upto_region 2 with fail;refine jp ?_;refine jm (vI n) ?_;refine jc (.bool true) (fun X hX hF=>mo (rY n X) (by rw [HN.out])) ?_;refine jm (.bool true) ?_;refine jzb hb fun X2 hX2 hb=>?_;have hB0:=hB0.bel hX2;go_upto_region 3 with fail;refine jp ?_;refine jm (.bool true) ?_;refine jm (.bool false) ?_;refine jm (.bool false) ?_;refine jm (.bool true) ?_;refine jm (.bool false) ?_;refine jm (.bool false) ?_;refine jzb hb fun X3 hX3 hb=>?_;have hB0:=hB0.bel hX3;go_upto_region 5 with fail;refine jp ?_;refine jm (vI n) ?_;refine cC n 0 (by omega) ?_;refine jzb hb fun X4 hX4 hb=>?_;have hB0:=hB0.bel hX4;go_upto_region 7 with fail;refine jq 11 ?_;refine jm (vI m) ?_;refine cP m 0 (by omega) ?_;refine jm (vI n) ?_;refine bS n 0 (by omega) ?_;refine jm (.bool true) ?_;refine jm (vI m) ?_;refine jc (st (be m.natAbs)) (fun X hX hF=>rQ m X HM.out) ?_;refine jm (vI n) ?_;refine jc (st (be n.natAbs)) (fun X hX hF=>rQ n X HN.out) ?_;refine jc (rt (rN (mkRat (sg true m.natAbs) n.natAbs)) (rP (mkRat (sg true m.natAbs) n.natAbs)) (rD (mkRat (sg true m.natAbs) n.natAbs))) (fun X hX hF=>oO true m.natAbs n.natAbs X HDP.out (by first|omega|decide) (by first|omega|decide)) ?_
 refine jn (.agg #[.bool (rN (mkRat (sg true m.natAbs) n.natAbs)),st (rP (mkRat (sg true m.natAbs) n.natAbs)),st (rD (mkRat (sg true m.natAbs) n.natAbs)),vI 0]) ?_;refine jzb hb fun X5 hX5 hb=>?_;have hB0:=hB0.bel hX5;refine osb 108 4 31 w.heap.size 108 hB0 [.bool (rN (mkRat (sg true m.natAbs) n.natAbs)),.string ⟨(rP (mkRat (sg true m.natAbs) n.natAbs)).toArray⟩,.string ⟨(rD (mkRat (sg true m.natAbs) n.natAbs)).toArray⟩,vI 0] dJ ?_;intro w9 hR9 hO9 hB9 hs9;have hb9:=hB9 _ _ hb (by omega);clear hO9 hB9
 go_wp2
 refine aL rfl rfl (by rfl) Tryz.underlying108 rfl hR9 dJ ⟨by rw [HK.out],hb9⟩
theorem yR (m n:Int) (w:World) (HM:Hid (cU m=true)) (HN:Hid (cU n=true)) (ha:0≤m) (hb1:n<0) (hlm:(be m.natAbs).length≤8) (hln:(be n.natAbs).length≤8) (HDP:Hid (0<n.natAbs)) (HK:Hid (mkRat (sg true m.natAbs) n.natAbs=(m:Rat) / (n:Rat))):Calls Tryz.prog 63 #[vI m,vI n] w fun e w'=>e=.returned (.agg #[.bool (rN ((m:Rat) / (n:Rat))),.string ⟨(rP ((m:Rat) / (n:Rat))).toArray⟩,.string ⟨(rD ((m:Rat) / (n:Rat))).toArray⟩,vI 0])∧Since w w':=by
 go_enter Tryz.func63,Tryz.ntmps63
 go_upto_region 1 with fail;obtain ⟨W0,hW0,hB0,hb⟩:=aQ w 108 [.bool false,.string ⟨#[]⟩,.string ⟨#[]⟩,vI 0];rw [← hW0];clear hW0;refine jp ?_;refine jm (vI m) ?_;refine jc (.bool true) (fun X hX hF=>mo (rY m X) (by rw [HM.out])) ?_;refine jm (.bool true) ?_;refine jzb hb fun X1 hX1 hb=>?_;have hB0:=hB0.bel hX1;go_upto_region 2 with fail;refine jp ?_;refine jm (vI n) ?_;refine jc (.bool true) (fun X hX hF=>mo (rY n X) (by rw [HN.out])) ?_;refine jm (.bool true) ?_;refine jzb hb fun X2 hX2 hb=>?_;have hB0:=hB0.bel hX2;go_upto_region 3 with fail;refine jp ?_;refine jm (.bool true) ?_;refine jm (.bool false) ?_;refine jm (.bool false) ?_;refine jm (.bool true) ?_;refine jm (.bool false) ?_;refine jm (.bool false) ?_;refine jzb hb fun X3 hX3 hb=>?_;have hB0:=hB0.bel hX3;go_upto_region 5 with fail;refine jp ?_;refine jm (vI n) ?_;refine cC n 0 (by omega) ?_;refine jzb hb fun X4 hX4 hb=>?_;have hB0:=hB0.bel hX4;go_upto_region 7 with fail;refine jq 11 ?_;refine jm (vI m) ?_;refine bS m 0 (by omega) ?_;refine jm (vI n) ?_;refine cP n 0 (by omega) ?_;refine jm (.bool true) ?_;refine jm (vI m) ?_;refine jc (st (be m.natAbs)) (fun X hX hF=>rQ m X HM.out) ?_;refine jm (vI n) ?_;refine jc (st (be n.natAbs)) (fun X hX hF=>rQ n X HN.out) ?_;refine jc (rt (rN (mkRat (sg true m.natAbs) n.natAbs)) (rP (mkRat (sg true m.natAbs) n.natAbs)) (rD (mkRat (sg true m.natAbs) n.natAbs))) (fun X hX hF=>oO true m.natAbs n.natAbs X HDP.out (by first|omega|decide) (by first|omega|decide)) ?_
 refine jn (.agg #[.bool (rN (mkRat (sg true m.natAbs) n.natAbs)),st (rP (mkRat (sg true m.natAbs) n.natAbs)),st (rD (mkRat (sg true m.natAbs) n.natAbs)),vI 0]) ?_;refine jzb hb fun X5 hX5 hb=>?_;have hB0:=hB0.bel hX5;refine osb 108 4 31 w.heap.size 108 hB0 [.bool (rN (mkRat (sg true m.natAbs) n.natAbs)),.string ⟨(rP (mkRat (sg true m.natAbs) n.natAbs)).toArray⟩,.string ⟨(rD (mkRat (sg true m.natAbs) n.natAbs)).toArray⟩,vI 0] dJ ?_;intro w9 hR9 hO9 hB9 hs9;have hb9:=hB9 _ _ hb (by omega);clear hO9 hB9
 go_wp2
 refine aL rfl rfl (by rfl) Tryz.underlying108 rfl hR9 dJ ⟨by rw [HK.out],hb9⟩
theorem yS (m n:Int) (w:World) (HM:Hid (cU m=true)) (HN:Hid (cU n=true)) (ha:0≤m) (hb1:0<n) (hlm:(be m.natAbs).length≤8) (hln:(be n.natAbs).length≤8) (HDP:Hid (0<n.natAbs)) (HK:Hid (mkRat (sg false m.natAbs) n.natAbs=(m:Rat) / (n:Rat))):Calls Tryz.prog 63 #[vI m,vI n] w fun e w'=>e=.returned (.agg #[.bool (rN ((m:Rat) / (n:Rat))),.string ⟨(rP ((m:Rat) / (n:Rat))).toArray⟩,.string ⟨(rD ((m:Rat) / (n:Rat))).toArray⟩,vI 0])∧Since w w':=by
 go_enter Tryz.func63,Tryz.ntmps63
 go_upto_region 1 with fail;obtain ⟨W0,hW0,hB0,hb⟩:=aQ w 108 [.bool false,.string ⟨#[]⟩,.string ⟨#[]⟩,vI 0];rw [← hW0];clear hW0;refine jp ?_;refine jm (vI m) ?_;refine jc (.bool true) (fun X hX hF=>mo (rY m X) (by rw [HM.out])) ?_;refine jm (.bool true) ?_;refine jzb hb fun X1 hX1 hb=>?_;have hB0:=hB0.bel hX1;go_upto_region 2 with fail;refine jp ?_;refine jm (vI n) ?_;refine jc (.bool true) (fun X hX hF=>mo (rY n X) (by rw [HN.out])) ?_;refine jm (.bool true) ?_;refine jzb hb fun X2 hX2 hb=>?_;have hB0:=hB0.bel hX2;go_upto_region 3 with fail;refine jp ?_;refine jm (.bool true) ?_;refine jm (.bool false) ?_;refine jm (.bool false) ?_;refine jm (.bool true) ?_;refine jm (.bool false) ?_;refine jm (.bool false) ?_;refine jzb hb fun X3 hX3 hb=>?_;have hB0:=hB0.bel hX3;go_upto_region 5 with fail;refine jp ?_;refine jm (vI n) ?_;refine cC n 0 (by omega) ?_;refine jzb hb fun X4 hX4 hb=>?_;have hB0:=hB0.bel hX4;go_upto_region 7 with fail;refine jq 11 ?_;refine jm (vI m) ?_;refine bS m 0 (by omega) ?_;refine jm (vI n) ?_;refine bS n 0 (by omega) ?_;refine jm (.bool false) ?_;refine jm (vI m) ?_;refine jc (st (be m.natAbs)) (fun X hX hF=>rQ m X HM.out) ?_;refine jm (vI n) ?_;refine jc (st (be n.natAbs)) (fun X hX hF=>rQ n X HN.out) ?_;refine jc (rt (rN (mkRat (sg false m.natAbs) n.natAbs)) (rP (mkRat (sg false m.natAbs) n.natAbs)) (rD (mkRat (sg false m.natAbs) n.natAbs))) (fun X hX hF=>oO false m.natAbs n.natAbs X HDP.out (by first|omega|decide) (by first|omega|decide)) ?_
 refine jn (.agg #[.bool (rN (mkRat (sg false m.natAbs) n.natAbs)),st (rP (mkRat (sg false m.natAbs) n.natAbs)),st (rD (mkRat (sg false m.natAbs) n.natAbs)),vI 0]) ?_;refine jzb hb fun X5 hX5 hb=>?_;have hB0:=hB0.bel hX5;refine osb 108 4 31 w.heap.size 108 hB0 [.bool (rN (mkRat (sg false m.natAbs) n.natAbs)),.string ⟨(rP (mkRat (sg false m.natAbs) n.natAbs)).toArray⟩,.string ⟨(rD (mkRat (sg false m.natAbs) n.natAbs)).toArray⟩,vI 0] dJ ?_;intro w9 hR9 hO9 hB9 hs9;have hb9:=hB9 _ _ hb (by omega);clear hO9 hB9
 go_wp2
 refine aL rfl rfl (by rfl) Tryz.underlying108 rfl hR9 dJ ⟨by rw [HK.out],hb9⟩
theorem qVy {m n:Int} (h0:n≠0):mkRat (sg (decide (m<0) != decide (n<0)) m.natAbs) n.natAbs=(m:Rat) / (n:Rat):=by
 have h1:=vQw (decide (m<0)) (decide (n<0)) m.natAbs (q:=n.natAbs) (d:=1) (e:=1) (by omega) (by omega);rw [tI,tI,Nat.mul_one,Nat.one_mul] at h1;exact h1.symm
theorem makeS (m n:Int) (w:World) (hm:cU m=true) (hn:cU n=true) (h0:n≠0):Calls Tryz.prog 63 #[vI m,vI n] w fun e w'=>e=.returned (.agg #[.bool (rN ((m:Rat) / (n:Rat))),.string ⟨(rP ((m:Rat) / (n:Rat))).toArray⟩,.string ⟨(rD ((m:Rat) / (n:Rat))).toArray⟩,vI 0])∧Since w w':=by
 have b1:=jA hm;have b2:=jA hn;have lm:(be m.natAbs).length≤8:=gM (by omega);have ln:(be n.natAbs).length≤8:=gM (by omega);have key:=qVy (m:=m) h0
 by_cases ha:m<0 <;> by_cases hb:n<0
 ·rw [decide_eq_true ha,decide_eq_true hb] at key
  exact yP m n w hm hn ha hb lm ln (show 0<n.natAbs by omega) key
 ·rw [decide_eq_true ha,decide_eq_false hb] at key
  exact yQ m n w hm hn ha (by omega) lm ln (show 0<n.natAbs by omega) key
 ·rw [decide_eq_false ha,decide_eq_true hb] at key
  exact yR m n w hm hn (by omega) hb lm ln (show 0<n.natAbs by omega) key
 ·rw [decide_eq_false ha,decide_eq_false hb] at key
  exact yS m n w hm hn (by omega) (by omega) lm ln (show 0<n.natAbs by omega) key
theorem vQr (n:Int) (w:World) (HN:Hid (cU n=true)) (HQ1:Hid ((n:Rat) / ((1:Int):Rat)=(n:Rat))):Calls Tryz.prog 44 #[vI n] w fun e w'=>e=.returned (rbv (n:Rat))∧Since w w':=by
 go_enter Tryz.func44,Tryz.ntmps44
 go_upto_region 1 with fail;obtain ⟨W0,hW0,hB0,hb⟩:=aQ w 26 [.bool false,.string ⟨#[]⟩,.string ⟨#[]⟩];rw [← hW0];clear hW0;obtain ⟨q1,hq1⟩:∃ q1:Rat,q1=(n:Rat) / ((1:Int):Rat):=⟨_,rfl⟩;have HQ:=Lib.hid hq1;clear hq1;refine jq 2 ?_;refine jm (vI n) ?_;refine jc (.agg #[.bool (rN q1),st (rP q1),st (rD q1),vI 0]) (fun X hX hF=>mo (makeS n 1 X HN.out (by decide) (by decide)) (by rw [HQ.out])) ?_;refine jzb hb fun X1 hX1 hb=>?_;have hB0:=hB0.bel hX1;go_upto_region 2 with (refine osn 108 3 5 #[.bool (rN q1),vS (rP q1),vS (rD q1),vI 0] dJ ?_);obtain ⟨Y1,hY9,hD3,hS9⟩:=aQ X1 108 [.bool (rN q1),vS (rP q1),vS (rD q1),vI 0];rw [← hY9];clear hY9;have hgs3:=hb.size;have hlt3x0:=hB0.lt;have hB0:=hB0.bel hS9;have hb:=aF hb hS9;clear hS9;generalize X1.heap.size=g3 at *;refine jq 2 ?_;refine jn (vP g3 0) ?_;refine jg (rt (rN q1) (rP q1) (rD q1)) (fun X hX hF=>aP 26 _ (by rfl) g3 0 [.bool (rN q1),vS (rP q1),vS (rD q1)] (by rfl) Tryz.underlying26 rfl X (hD3.bel hX) (by rfl) aC) ?_;refine jzb hb fun X2 hX2 hb=>?_;obtain ⟨hB0,hD3⟩:=bl2 hX2 hB0 hD3;refine osb 26 2 7 w.heap.size 26 hB0 [.bool (rN q1),vS (rP q1),vS (rD q1)] aC ?_;intro w9 hR9 hO9 hB9 hs9;have hb9:=hB9 _ _ hb (by omega);clear hO9 hB9
 go_wp2
 refine aL rfl rfl (by rfl) Tryz.underlying26 rfl hR9 aC ⟨by rw [HQ.out,HQ1.out],hb9⟩
theorem intS (n:Int) (w:World) (hn:cU n=true):Calls Tryz.prog 44 #[vI n] w fun e w'=>e=.returned (rbv (n:Rat))∧Since w w':=vQr n w hn (show (n:Rat) / ((1:Int):Rat)=(n:Rat) by grind)
theorem vQc (n:Bool) (p q:List UInt8) (x:Rat) (HX:Hid (rq n p q=x)) (w:World) (h:tz p q 1000000) (HM:Hid (rN x=false)) (HE:Hid (rP x=[])) (HK:Hid (-x=x)):Calls Tryz.prog 77 #[.agg #[.bool n,vS p,vS q]] w fun e w'=>e=.returned (rbv (-x))∧Since w w':=by
 go_enter Tryz.func77,Tryz.ntmps77
 go_upto_region 1 with fail;obtain ⟨W0,hW0,hB0,hB1,hb⟩:=bL w 26 26 [.bool n,vS p,vS q] [.bool false,.string ⟨#[]⟩,.string ⟨#[]⟩];rw [← hW0];clear hW0;refine jq 2 ?_;refine ja hB0 Tryz.underlying26 (by rfl) aC ?_;refine jc (rt false (rP x) (rD x)) (fun X hX hF=>mo (dY n p q HX.out X h) (by rw [fB HM.out])) ?_;refine jzb hb fun X1 hX1 hb=>?_;obtain ⟨hB0,hB1⟩:=bl2 hX1 hB0 hB1;go_upto_region 2 with (refine osn 26 3 5 #[.bool false,vS (rP x),vS (rD x)] aC ?_);obtain ⟨Y1,hY9,hD3,hS9⟩:=aQ X1 26 [.bool false,vS (rP x),vS (rD x)];rw [← hY9];clear hY9;have hgs3:=hb.size;have hlt3x0:=hB0.lt;have hlt3x1:=hB1.lt;obtain ⟨hB0,hB1⟩:=bl2 hS9 hB0 hB1;have hb:=aF hb hS9;clear hS9;generalize X1.heap.size=g3 at *;refine jp ?_;refine jn (vP g3 1) ?_;refine jf _ hD3 1 aH ?_;refine jv (.bool false) (cG _ _ _ _ (by rfl) (rP x) ([]:List UInt8) (by rfl) (by rfl) false (uS HE.out)) ?_;refine jzb hb fun X2 hX2 hb=>?_;obtain ⟨hB0,hB1,hD3⟩:=bl3 hX2 hB0 hB1 hD3;go_upto_region 4 with fail;refine jq 1 ?_;refine ja hD3 Tryz.underlying26 (by rfl) aC ?_;refine jzb hb fun X3 hX3 hb=>?_;obtain ⟨hB0,hB1,hD3⟩:=bl3 hX3 hB0 hB1 hD3;refine osb 26 2 13 (w.heap.size+1) 26 hB1 [.bool false,vS (rP x),vS (rD x)] aC ?_;intro w9 hR9 hO9 hB9 hs9;have hb9:=hB9 _ _ hb (by omega)
 clear hO9 hB9
 go_wp2
 refine aL rfl rfl (by rfl) Tryz.underlying26 rfl hR9 aC ⟨by rw [HK.out,fB HM.out],hb9⟩
theorem wG (n:Bool) (p q:List UInt8) (x:Rat) (HX:Hid (rq n p q=x)) (w:World) (h:tz p q 1000000) (HM:Hid (rN x=true)) (HE:Hid (rP x≠[])) (HK:Hid (rN (-x)=false∧rP (-x)=rP x∧rD (-x)=rD x)):Calls Tryz.prog 77 #[.agg #[.bool n,vS p,vS q]] w fun e w'=>e=.returned (rbv (-x))∧Since w w':=by
 go_enter Tryz.func77,Tryz.ntmps77
 go_upto_region 1 with fail;obtain ⟨W0,hW0,hB0,hB1,hb⟩:=bL w 26 26 [.bool n,vS p,vS q] [.bool false,.string ⟨#[]⟩,.string ⟨#[]⟩];rw [← hW0];clear hW0;refine jq 2 ?_;refine ja hB0 Tryz.underlying26 (by rfl) aC ?_;refine jc (rt true (rP x) (rD x)) (fun X hX hF=>mo (dY n p q HX.out X h) (by rw [fB HM.out])) ?_;refine jzb hb fun X1 hX1 hb=>?_;obtain ⟨hB0,hB1⟩:=bl2 hX1 hB0 hB1;go_upto_region 2 with (refine osn 26 3 5 #[.bool true,vS (rP x),vS (rD x)] aC ?_);obtain ⟨Y1,hY9,hD3,hS9⟩:=aQ X1 26 [.bool true,vS (rP x),vS (rD x)];rw [← hY9];clear hY9;have hgs3:=hb.size;have hlt3x0:=hB0.lt;have hlt3x1:=hB1.lt;obtain ⟨hB0,hB1⟩:=bl2 hS9 hB0 hB1;have hb:=aF hb hS9;clear hS9;generalize X1.heap.size=g3 at *;refine jp ?_;refine jn (vP g3 1) ?_;refine jf _ hD3 1 aH ?_;refine jv (.bool true) (cG _ _ _ _ (by rfl) (rP x) ([]:List UInt8) (by rfl) (by rfl) true (iO HE.out)) ?_;refine jzb hb fun X2 hX2 hb=>?_;obtain ⟨hB0,hB1,hD3⟩:=bl3 hX2 hB0 hB1 hD3;go_upto_region 3 with fail;refine jq 4 ?_;refine jn (vP g3 0) ?_;refine jf _ hD3 0 aT ?_;refine jm (.bool false) ?_;refine jn (vP g3 0) ?_;refine jzb hb fun X3 hX3 hb=>?_;obtain ⟨hB0,hB1,hD3⟩:=bl3 hX3 hB0 hB1 hD3;refine eR rfl g3 0 26 _ hD3 (.bool false) (by simp) (fun X u h1 h2=>gZ _ _ (by rfl) _ _ (by rfl) (by rfl) u X h1 h2) ?_
 intro w5 hR5 hO5 hB5;have hb:=hB5 _ _ hb (by omega);have hB0:=hO5 _ _ _ (by omega) hB0;have hB1:=hO5 _ _ _ (by omega) hB1;have hD3:=hR5;clear hR5 hO5 hB5;go_upto_region 4 with fail;refine jq 1 ?_;refine ja hD3 Tryz.underlying26 (by rfl) aC ?_;refine jzb hb fun X4 hX4 hb=>?_;obtain ⟨hB0,hB1,hD3⟩:=bl3 hX4 hB0 hB1 hD3;refine osb 26 2 13 (w.heap.size+1) 26 hB1 [.bool false,vS (rP x),vS (rD x)] aC ?_;intro w9 hR9 hO9 hB9 hs9;have hb9:=hB9 _ _ hb (by omega);clear hO9 hB9
 go_wp2
 refine aL rfl rfl (by rfl) Tryz.underlying26 rfl hR9 aC ⟨by rw [lQ HK.out],hb9⟩
theorem tG (n:Bool) (p q:List UInt8) (x:Rat) (HX:Hid (rq n p q=x)) (w:World) (h:tz p q 1000000) (HM:Hid (rN x=false)) (HE:Hid (rP x≠[])) (HK:Hid (rN (-x)=true∧rP (-x)=rP x∧rD (-x)=rD x)):Calls Tryz.prog 77 #[.agg #[.bool n,vS p,vS q]] w fun e w'=>e=.returned (rbv (-x))∧Since w w':=by
 go_enter Tryz.func77,Tryz.ntmps77
 go_upto_region 1 with fail;obtain ⟨W0,hW0,hB0,hB1,hb⟩:=bL w 26 26 [.bool n,vS p,vS q] [.bool false,.string ⟨#[]⟩,.string ⟨#[]⟩];rw [← hW0];clear hW0;refine jq 2 ?_;refine ja hB0 Tryz.underlying26 (by rfl) aC ?_;refine jc (rt false (rP x) (rD x)) (fun X hX hF=>mo (dY n p q HX.out X h) (by rw [fB HM.out])) ?_;refine jzb hb fun X1 hX1 hb=>?_;obtain ⟨hB0,hB1⟩:=bl2 hX1 hB0 hB1;go_upto_region 2 with (refine osn 26 3 5 #[.bool false,vS (rP x),vS (rD x)] aC ?_);obtain ⟨Y1,hY9,hD3,hS9⟩:=aQ X1 26 [.bool false,vS (rP x),vS (rD x)];rw [← hY9];clear hY9;have hgs3:=hb.size;have hlt3x0:=hB0.lt;have hlt3x1:=hB1.lt;obtain ⟨hB0,hB1⟩:=bl2 hS9 hB0 hB1;have hb:=aF hb hS9;clear hS9;generalize X1.heap.size=g3 at *;refine jp ?_;refine jn (vP g3 1) ?_;refine jf _ hD3 1 aH ?_;refine jv (.bool true) (cG _ _ _ _ (by rfl) (rP x) ([]:List UInt8) (by rfl) (by rfl) true (iO HE.out)) ?_;refine jzb hb fun X2 hX2 hb=>?_;obtain ⟨hB0,hB1,hD3⟩:=bl3 hX2 hB0 hB1 hD3;go_upto_region 3 with fail;refine jq 4 ?_;refine jn (vP g3 0) ?_;refine jf _ hD3 0 aT ?_;refine jm (.bool true) ?_;refine jn (vP g3 0) ?_;refine jzb hb fun X3 hX3 hb=>?_;obtain ⟨hB0,hB1,hD3⟩:=bl3 hX3 hB0 hB1 hD3;refine eR rfl g3 0 26 _ hD3 (.bool true) (by simp) (fun X u h1 h2=>gZ _ _ (by rfl) _ _ (by rfl) (by rfl) u X h1 h2) ?_
 intro w5 hR5 hO5 hB5;have hb:=hB5 _ _ hb (by omega);have hB0:=hO5 _ _ _ (by omega) hB0;have hB1:=hO5 _ _ _ (by omega) hB1;have hD3:=hR5;clear hR5 hO5 hB5;go_upto_region 4 with fail;refine jq 1 ?_;refine ja hD3 Tryz.underlying26 (by rfl) aC ?_;refine jzb hb fun X4 hX4 hb=>?_;obtain ⟨hB0,hB1,hD3⟩:=bl3 hX4 hB0 hB1 hD3;refine osb 26 2 13 (w.heap.size+1) 26 hB1 [.bool true,vS (rP x),vS (rD x)] aC ?_;intro w9 hR9 hO9 hB9 hs9;have hb9:=hB9 _ _ hb (by omega);clear hO9 hB9
 go_wp2
 refine aL rfl rfl (by rfl) Tryz.underlying26 rfl hR9 aC ⟨by rw [lQ HK.out],hb9⟩
theorem negS (n:Bool) (p q:List UInt8) {x:Rat} (hx:rq n p q=x) (w:World) (h:tz p q 1000000):Calls Tryz.prog 77 #[.agg #[.bool n,vS p,vS q]] w fun e w'=>e=.returned (rbv (-x))∧Since w w':=by
 by_cases h0:x=0
 ·exact vQc n p q x hx w h (by rw [h0];rfl) (by rw [h0];rfl) (show -x=x by rw [h0];rfl)
 ·have he:rP x≠[]:=fun h9=>h0 ((iW x).1 (be_nil.1 h9))
  have hn:x.num≠0:=fun h9=>h0 ((iW x).1 (by rw [h9];rfl))
  have h2:rP (-x)=rP x:=by unfold rP;rw [Rat.neg_num,Int.natAbs_neg]
  have h3:rD (-x)=rD x:=by
   unfold rD
   rw [Rat.neg_num,Rat.neg_den,if_neg hn,if_neg (by omega)]
  rcases hm:rN x with _|_
  ·refine tG n p q x hx w h hm he ⟨?_,h2,h3⟩
   unfold rN at hm ⊢
   rw [Rat.neg_num];have:=of_decide_eq_false hm;exact decide_eq_true (by omega)
  ·refine wG n p q x hx w h hm he ⟨?_,h2,h3⟩
   unfold rN at hm ⊢
   rw [Rat.neg_num];have:=of_decide_eq_true hm;exact decide_eq_false (by omega)
theorem sub5 (n:Bool) (p q:List UInt8) (n':Bool) (p' q':List UInt8) (x y:Rat) (HX:Hid (rq n p q=x)) (HY:Hid (rq n' p' q'=y)) (w:World) (h:tz p q 1000000) (h':tz p' q' 1000000) (sy:szR (-y) 1000000):Calls Tryz.prog 54 #[.agg #[.bool n,vS p,vS q],.agg #[.bool n',vS p',vS q']] w fun e w'=>e=.returned (rbv (x-y))∧Since w w':=by
 go_enter Tryz.func54,Tryz.ntmps54
 go_upto_region 1 with fail;obtain ⟨W0,hW0,hB0,hB1,hB2,hb⟩:=bO w 26 26 26 [.bool n,vS p,vS q] [.bool n',vS p',vS q'] [.bool false,.string ⟨#[]⟩,.string ⟨#[]⟩];rw [← hW0];clear hW0;refine bH [] (by kernel_rfl) (by kernel_rfl) (by kernel_rfl) rfl (aG) ?_;simp only [its,List.dropLast,Nat.zero_add,Nat.reduceAdd];refine ja hB0 Tryz.underlying26 (by rfl) aC ?_;refine ja hB1 Tryz.underlying26 (by rfl) aC ?_;refine jc (rt (rN (-y)) (rP (-y)) (rD (-y))) (fun X hX hF=>negS n' p' q' HY.out X h') ?_;refine jc (rt (rN (x+(-y))) (rP (x+(-y))) (rD (x+(-y)))) (fun X hX hF=>vVf n p q (rN (-y)) (rP (-y)) (rD (-y)) HX.out (gT (-y)) X h (tzR sy (by omega))) ?_;refine jzb hb fun X1 hX1 hb=>?_;obtain ⟨hB0,hB1,hB2⟩:=bl3 hX1 hB0 hB1 hB2;refine osb 26 4 8 (w.heap.size+2) 26 hB2 [.bool (rN (x+(-y))),.string ⟨(rP (x+(-y))).toArray⟩,.string ⟨(rD (x+(-y))).toArray⟩] aC ?_;intro w9 hR9 hO9 hB9 hs9;have hb9:=hB9 _ _ hb (by omega);clear hO9 hB9
 go_wp2
 refine aL rfl rfl (by rfl) Tryz.underlying26 rfl hR9 aC ⟨by rw [Rat.sub_eq_add_neg],hb9⟩
theorem uK (n:Bool) (p q:List UInt8) (n':Bool) (p' q':List UInt8) {x:Rat} (hx:rq n p q=x) {y:Rat} (hy:rq n' p' q'=y) (w:World) (h:tz p q 1000000) (h':tz p' q' 1000000):Calls Tryz.prog 54 #[.agg #[.bool n,vS p,vS q],.agg #[.bool n',vS p',vS q']] w fun e w'=>e=.returned (rbv (x-y))∧Since w w':=sub5 n p q n' p' q' x y hx hy w h h' (pP (lM hy h'))
end Go.Proofs.YtffgfkcljcollaaGreatDoor

/- The reference: Int. -/
import Derived.Test.YtnfpenhldlfafaaGreatDoorMH
set_option linter.unusedSimpArgs false
set_option linter.unusedVariables false
set_option maxRecDepth 100000
set_option maxHeartbeats 1600000
namespace Go.Proofs.YtnfpenhldlfafaaGreatDoor
open Go.RowKit
theorem vQa {m:Nat} (h:0<m):be m=be (m / 256)++[UInt8.ofNat (m % 256)]:=by
 unfold be
 rw [qZw (by omega) h,List.map_cons,List.reverse_cons]
theorem rintC (n:Nat) (w:World) (hn:n<9223372036854775808):Calls Tryz.prog 129 #[vI n] w fun e w'=>e=.returned (.agg #[vS (be n),vI 0])∧Since w w':=by
 have hl8:(be n).length≤8:=iQ (by omega)
 go_enter Tryz.func129,Tryz.ntmps129
 go_upto_region 1 with fail;have hR0:Blk (w.alloc (.cells #[.string ⟨#[]⟩,vI 0] 116)) w.heap.size 116 [.string ⟨#[]⟩,vI 0]:=Blk.new rfl;have hb:Below w.heap.size w (w.alloc (.cells #[.string ⟨#[]⟩,vI 0] 116)):=(Below.refl _ _).alloc (Nat.le_refl _) _;generalize w.alloc (.cells #[.string ⟨#[]⟩,vI 0] 116)=W0 at hR0 hb ⊢;refine jp ?_;refine jm (vI n) ?_;refine dJ (n:Int) 0 (by omega) ?_;refine jzb hb fun X1 hX1 hb=>?_;have hR0:=hR0.bel hX1
 go_wp2
 go_loopw [0,3] (fun nv sv wr=>∃ (m:Nat) (l:List UInt8),nv=vI m∧sv=vS l∧m≤n∧be n=be m++l∧Blk wr w.heap.size 116 [.string ⟨#[]⟩,vI 0]∧Below w.heap.size w wr) (fun nv _ _=>(intOf nv).toNat)
 case atStart=>exact ⟨n,[],rfl,rfl,Nat.le_refl _,by rw [List.append_nil],hR0,hb⟩
 case round =>
  clear hR0 hb;obtain ⟨m,l,rfl,rfl,hm,hbe,hR0,hb⟩:=hrel
  have hll:l.length≤8:=by rw [hbe,List.length_append] at hl8;omega
  have HBE:=Lib.hid hbe;clear hbe
  rcases Nat.eq_zero_or_pos m with h0|h0
  ·have HN:Hid (be n=l):=by show _=_;rw [HBE.out,h0];rfl
   have hm0:m≤0:=by omega
   clear h0;go_upto_region 4 with fail;refine jp ?_;refine jm (vI m) ?_;refine nX (m:Int) 0 (by omega) ?_;refine jzb hb fun X1 hX1 hb=>?_;have hR0:=hR0.bel hX1;go_upto_region 7 with fail;refine jq 2 ?_;refine jmn (st l) (.agg #[st l,vI 0]) ?_;refine jzb hb fun X2 hX2 hb=>?_;have hR0:=hR0.bel hX2;refine osb 116 2 19 w.heap.size 116 hR0 [vS l,vI 0] kU ?_;intro w9 hR9 hO9 hB9 hs9;have hb9:=hB9 _ _ hb (Nat.le_refl _);clear hO9 hB9
   go_wp2
   refine aK rfl rfl (by rfl) G116 rfl hR9 kU ⟨by rw [HN.out],hb9⟩
  ·have HBE2:Hid (be n=be (m / 256)++([UInt8.ofNat (m % 256)]++l)):=by show _=_;rw [HBE.out,vQa h0,List.append_assoc]
   go_upto_region 4 with fail;refine jp ?_;refine jm (vI m) ?_;refine nV (m:Int) 0 (by omega) ?_;refine jzb hb fun X1 hX1 hb=>?_;have hR0:=hR0.bel hX1;go_upto_region 5 with fail;refine bM [none,none,none,some (Bts [UInt8.ofNat (m % 256)])] (aA (aA (aA (aE (Bts.lasts _) (aG))))) ?_;simp only [iX,Nat.reduceAdd];refine jm (vI m) ?_;refine jv (vI ((m % 256:Nat):Int)) (mG _ _ _ _ (by rfl) .i64 (m:Int) 256 ((m % 256:Nat):Int) (by rfl) (by rfl) (by omega) (by omega) (by omega)) ?_;refine jv (.int .u8 ((m % 256:Nat):Int)) (bX _ _ .i64 .u8 G3 G5 _ (by rfl) ((m % 256:Nat):Int) ((m % 256:Nat):Int) (by rfl) (by rw [w8 (by omega) (by omega)])) ?_;refine bH (by rfl) (fun X hX hF=>⟨_,_,uB _ (by rfl) _ (by rfl) X,Bts.new1 X _ (UInt8.ofNat (m % 256)) (by rw [u8n];omega),cE X _⟩) ?_;intro v12;simp only [pX];refine jg (st [UInt8.ofNat (m % 256)]) (fun X hX hF=>by obtain ⟨A9,c9,h9,hr9⟩:=(hF _ _ zE rfl);subst h9;exact pS _ _ 5 zH G5 G9 _ (by rfl) (by rfl) hr9) ?_;refine jm (st l) ?_;refine jv (st ([UInt8.ofNat (m % 256)]++l)) (pV _ _ _ _ (by rfl) [UInt8.ofNat (m % 256)] l (by rfl) (by rfl) (by simp only [List.length_append,List.length_cons,List.length_nil];omega)) ?_;refine jm (st ([UInt8.ofNat (m % 256)]++l)) ?_;refine aI ?_;intro X2 hX2 hF
   have hv12:=hF _ _ zE;have hR0:=hR0.bel hX2;have hb:=aF hb hX2;clear hF hX2;clear hv12;go_upto_region 6 with fail;refine jp ?_;refine jm (vI m) ?_;refine jv (vI ((m / 256:Nat):Int)) (kK _ _ _ _ (by rfl) .i64 (m:Int) 256 ((m / 256:Nat):Int) (by rfl) (by rfl) (by omega) (by omega) (by omega) (IntWalk.i64_in _ (by omega))) ?_;refine jm (vI ((m / 256:Nat):Int)) ?_;refine jzb hb fun X3 hX3 hb=>?_;have hR0:=hR0.bel hX3
   go_wp2
   go_roundw
   case rel=>exact ⟨m / 256,[UInt8.ofNat (m % 256)]++l,rfl,rfl,by omega,HBE2.out,hR0,hb⟩
   case measure=>simp [intOf];omega
end Go.Proofs.YtnfpenhldlfafaaGreatDoor

/- Division of numbers; DivMod. Value; Gcd. Gcd. Text. Parse. -/
import Derived.OwnWalk
import Derived.Laws.EntriesVeiled
import Derived.Test.YtnfpenhldlfafaaGreatDoorNby
import Derived.Test.YtnfpenhldlfafaaGreatDoorMB
import Derived.Test.YtnfpenhldlfafaaGreatDoorMC
set_option linter.unusedSimpArgs false
set_option linter.unusedVariables false
set_option maxRecDepth 100000
set_option maxHeartbeats 1600000
namespace Go.Proofs.YtnfpenhldlfafaaGreatDoor
open Go.RowKit
def Pr (x y:Nat) (q:Value) (X:World):Prop:=∃ u v,q=.tuple #[u,v]∧Lm x u X∧Lm y v X
theorem Pr.lasts (x y:Nat):dJ (Pr x y):=by
 rintro q X Y ⟨u,v,h1,h2,h3⟩ hS
 exact ⟨u,v,h1,h2.bel hS,h3.bel hS⟩
theorem byP (v v':Value) (x0 y0:Nat) (w:World) (hr:Lm x0 v w) (hr':Lm y0 v' w) (hx:(ld x0).length≤8388608) (hy:(ld y0).length≤8388608) (hy0:0<y0) :
  Calls Tryz.prog 114 #[v,v'] w fun e w'=>∃ q,e=.returned q∧Pr (x0 / y0) (x0 % y0) q w'∧Since w w':=by
 rcases Nat.lt_or_ge x0 y0 with h|h
 ·exact (byLt v v' x0 y0 w hr hr' hx hy h).mono fun e X' ⟨q,r,h1,h2,h3,h4⟩=>⟨_,h1,⟨q,r,rfl,h2,h3⟩,h4⟩
 ·rcases Nat.lt_or_ge (ld y0).length 2 with h1|h1
  ·have h0:0<(ld y0).length:=List.length_pos_iff.2 (fun h=>by rw [xS] at h;omega)
   exact (byOne v v' x0 y0 w hr hr' hx hy h hy0 (by omega)).mono fun e X' ⟨q,r,h1,h2,h3,h4⟩=>⟨_,h1,⟨q,r,rfl,h2,h3⟩,h4⟩
  ·exact (byBig v v' x0 y0 w hr hr' hx hy h hy0 h1).mono fun e X' ⟨q,r,h1,h2,h3,h4⟩=>⟨_,h1,⟨q,r,rfl,h2,h3⟩,h4⟩
theorem xR {x:Nat} (h:0<x):0<(ld x).length:=List.length_pos_iff.2 (fun h'=>by rw [xS] at h';omega)
theorem zT {x:Nat} (h:x=0):(ld x).length≤0:=by subst h;exact Nat.le_refl 0
theorem qQz (a b:List UInt8) (w:World) (ha:a.length≤4194304) (hb0:b.length≤4194304) (h0:0<val b) :
  Calls Tryz.prog 103 #[vS a,vS b] w fun e w'=>e=.returned (.tuple #[vS (be (val a / val b)),vS (be (val a % val b)),vI 0])∧Below w.heap.size w w':=by
 have la:=fB a;have lb:=fB b;have l0:=xR h0;have l1:=qW (Nat.div_le_self (val a) (val b));have l2:=qW (Nat.mod_le (val a) (val b))
 go_enter Tryz.func103,Tryz.ntmps103
 go_upto_region 1 with fail;refine bC [none,some (Lm (val a)),none,some (Lm (val b))] (aA (aD (Dg.lasts _) (aA (aD (Dg.lasts _) (aF))))) ?_;simp only [iX,Nat.reduceAdd];refine jm (st a) ?_;refine jk (fun X hX hF=>iG a X (by omega)) ?_;intro v12;refine jm (st b) ?_;refine jk (fun X hX hF=>iG b X (by omega)) ?_;intro v14;refine jmm (v12) (v14) ?_;refine aH ?_;intro X1 hX1 hF;have hv12:=hF _ _ (List.mem_cons_of_mem _ List.mem_cons_self);have hv14:=hF _ _ List.mem_cons_self;have hb:Below w.heap.size w X1:=hX1;clear hF hX1;go_upto_region 2 with fail;refine jp ?_;refine jm (v14) ?_;refine jg (vI ((ld (val b)).length:Int)) (fun X hX hF=>by obtain ⟨A9,c9,h9,_⟩:=((Dg.lasts _) _ _ _ hv14 hX);subst h9;exact aJ Tryz.underlying133 _ (by rfl) A9 _ c9 (by rfl) _ rfl X) ?_;refine zW ((ld (val b)).length:Int) 0 (by omega) ?_;refine jzb hb fun X2 hX2 hb=>?_;have hv12:=(Dg.lasts _) _ _ _ hv12 hX2;have hv14:=(Dg.lasts _) _ _ _ hv14 hX2;go_upto_region 4 with fail;refine aV 3 [none,none,some (Pr ((val a) / (val b)) ((val a) % (val b)))] (aA (aA (aD (Pr.lasts _ _) (aF)))) ?_;simp only [its,List.take,List.drop,Nat.zero_add,Nat.reduceAdd];refine jmm (v12) (v14) ?_;refine jk (fun X hX hF=>byP v12 v14 _ _ X ((Dg.lasts _) _ _ _ hv12 hX) ((Dg.lasts _) _ _ _ hv14 hX) (by omega) (by omega) (by omega)) ?_;intro v21;refine aH ?_;intro X3 hX3 hF;have hv12:=(Dg.lasts _) _ _ _ hv12 hX3
 have hv14:=(Dg.lasts _) _ _ _ hv14 hX3;have hv21:=hF _ _ List.mem_cons_self;have hb:=aG hb hX3;clear hF hX3;obtain ⟨q0,r0,rfl,hq,hr⟩:=hv21;go_upto_region 5 with fail;refine jp ?_;refine jm (q0) ?_;refine jc (st (be (val a / val b))) (fun X hX hF=>mE q0 _ X ((Dg.lasts _) _ _ _ hq hX) (by omega)) ?_;refine jm (r0) ?_;refine jc (st (be (val a % val b))) (fun X hX hF=>mE r0 _ X ((Dg.lasts _) _ _ _ hr hX) (by omega)) ?_;refine bY (st (be (val a / val b))) (st (be (val a % val b))) (vI 0) ?_;refine jzb hb fun X4 hX4 hb=>?_;have hv12:=(Dg.lasts _) _ _ _ hv12 hX4;have hv14:=(Dg.lasts _) _ _ _ hv14 hX4;have hq:=(Dg.lasts _) _ _ _ hq hX4;have hr:=(Dg.lasts _) _ _ _ hr hX4
 go_wp2
 go_ret3
 exact ⟨rfl,hb⟩
theorem qQx (n:Nat) (w:World) (hn:n<9223372036854775808):Calls Tryz.prog 102 #[vI n] w fun e w'=>e=.returned (.tuple #[vS (be n),vI 0])∧Below w.heap.size w w':=by
 have hlw:lw [UInt32.ofNat (n % 4294967296),UInt32.ofNat (n / 4294967296)]=n:=by
  rw [fH,oZ,iH,iH]
  omega
 have hl2:(ld (lw [UInt32.ofNat (n % 4294967296),UInt32.ofNat (n / 4294967296)])).length≤2:=by
  rw [hlw];exact gH (by omega)
 have HLW:=Lib.hid hlw;clear hlw
 go_enter Tryz.func102,Tryz.ntmps102
 go_upto_region 3 with fail;refine bC [none,none,none,none,none,some (Dg [UInt32.ofNat (n % 4294967296),UInt32.ofNat (n / 4294967296)]),some (Lm (lw [UInt32.ofNat (n % 4294967296),UInt32.ofNat (n / 4294967296)]))] (aA (aA (aA (aA (aA (aD (Dg.lasts _) (aD (Dg.lasts _) (aF)))))))) ?_;simp only [iX,Nat.reduceAdd];refine jm (vI n) ?_;refine jv (.int .u32 ((n % 4294967296:Nat):Int)) (bQ _ _ .i64 .u32 Tryz.underlying3 Tryz.underlying141 _ (by rfl) (n:Int) ((n % 4294967296:Nat):Int) (by rfl) (by rw [IntKind.wrap_u32];omega)) ?_;refine jm (vI n) ?_;refine jv (vI ((n / 4294967296:Nat):Int)) (iT _ _ _ _ (by rfl) .i64 .u64 (n:Int) ((n / 4294967296:Nat):Int) 32 (by rfl) (by rfl) rfl (by decide) (by omega)) ?_;refine jv (.int .u32 ((n / 4294967296:Nat):Int)) (bQ _ _ .i64 .u32 Tryz.underlying3 Tryz.underlying141 _ (by rfl) ((n / 4294967296:Nat):Int) ((n / 4294967296:Nat):Int) (by rfl) (by rw [w32 (by omega) (by omega)])) ?_;refine aW (by rfl) (fun X hX hF=>⟨_,_,yL _ _ (by rfl) _ _ (by rfl) (by rfl) X,Dg.new2 X _ _ (UInt32.ofNat (n % 4294967296)) (UInt32.ofNat (n / 4294967296)) (by rw [iH];omega) (by rw [iH];omega),bU X _⟩) ?_;intro v11;simp only [pX];refine jk (fun X hX hF=>jG _ v11 X (hF _ _ List.mem_cons_self rfl) (by first|omega|(simp only [List.length_cons,List.length_nil];omega))) ?_
 intro v12;refine jc (st (be (lw [UInt32.ofNat (n % 4294967296),UInt32.ofNat (n / 4294967296)]))) (fun X hX hF=>mE v12 _ X (hF _ _ List.mem_cons_self rfl) (by omega)) ?_;refine jmm (st (be (lw [UInt32.ofNat (n % 4294967296),UInt32.ofNat (n / 4294967296)]))) (vI 0) ?_;refine aH ?_;intro X1 hX1 hF;have hv11:=hF _ _ (List.mem_cons_of_mem _ List.mem_cons_self);have hv12:=hF _ _ List.mem_cons_self;have hb:Below w.heap.size w X1:=hX1;clear hF hX1;rw [HLW.out]
 go_wp2
 go_ret2
 exact ⟨rfl,hb⟩
theorem xQ (b k:Nat) (X:World) (v:Value) (h:X.cell? ⟨b,k,none⟩=some v):(loadVar 131 ⟨b,k,none⟩).run Tryz.prog X=.ok v X:=by
 go_simp
theorem qQc (g:Nat) (y0:Nat):∀ (v v':Value) (x0:Nat) (w:World),Lm x0 v w→Lm y0 v' w→(ld x0).length≤8388608→(ld y0).length≤8388608→g<w.heap.size→w.cell? ⟨g,0,none⟩=some (.func (.func 113) #[] #[vP g 0]) →
  Calls Tryz.prog 113 #[v,v',vP g 0] w fun e w'=>∃ u,e=.returned u∧Lm (Nat.gcd x0 y0) u w'∧Since w w':=by
 induction y0 using Nat.strongRecOn with
 | _ y0 ih =>
 intro v v' x0 w hr hr' hx hy hg hc;have ih:=Lib.hid ih
 rcases Nat.eq_zero_or_pos y0 with h0|h0
 ·have l0:=zT h0
  have HG:Hid (Nat.gcd x0 y0=x0):=by show _=_;rw [h0,Nat.gcd_zero_right]
  clear h0 hc ih;rw [HG.out]
  go_enter Tryz.func113,Tryz.ntmps113
  go_upto_region 1 with fail;refine jp ?_;refine jm (v') ?_;refine jg (vI ((ld y0).length:Int)) (fun X hX hF=>by obtain ⟨A9,c9,h9,_⟩:=((Dg.lasts _) _ _ _ hr' hX);subst h9;exact aJ Tryz.underlying133 _ (by rfl) A9 _ c9 (by rfl) _ rfl X) ?_;refine pH ((ld y0).length:Int) 0 (by omega) ?_;refine jz fun X1 hX1=>?_;have hr:=(Dg.lasts _) _ _ _ hr hX1;have hr':=(Dg.lasts _) _ _ _ hr' hX1;have hb:Below w.heap.size w X1:=hX1;go_upto_region 2 with fail;refine jp ?_;refine jmm (v) (v) ?_;refine jzb hb fun X2 hX2 hb=>?_;have hr:=(Dg.lasts _) _ _ _ hr hX2;have hr':=(Dg.lasts _) _ _ _ hr' hX2
  go_wp2
  go_ret
  exact ⟨_,rfl,hr,hb⟩
 ·have l0:=xR h0
  have hm:=Nat.mod_lt x0 h0;have l2:=qW (Nat.le_of_lt hm)
  have HG:Hid (Nat.gcd x0 y0=Nat.gcd y0 (x0 % y0)):=by
   show _=_
   rw [Nat.gcd_comm,Nat.gcd_rec,Nat.gcd_comm]
  have hc:=hc;rw [HG.out];have ih:=ih.out
  go_enter Tryz.func113,Tryz.ntmps113
  go_upto_region 1 with fail;refine jp ?_;refine jm (v') ?_;refine jg (vI ((ld y0).length:Int)) (fun X hX hF=>by obtain ⟨A9,c9,h9,_⟩:=((Dg.lasts _) _ _ _ hr' hX);subst h9;exact aJ Tryz.underlying133 _ (by rfl) A9 _ c9 (by rfl) _ rfl X) ?_;refine zW ((ld y0).length:Int) 0 (by omega) ?_;refine jz fun X1 hX1=>?_;have hr:=(Dg.lasts _) _ _ _ hr hX1;have hr':=(Dg.lasts _) _ _ _ hr' hX1;have hc:=(Below.cell hX1 (p:=⟨g,0,none⟩) hg).trans hc;have hg:=Nat.lt_of_lt_of_le hg (hX1).size;have hb:Below w.heap.size w X1:=hX1;go_upto_region 3 with fail;refine aV 3 [none,none,some (Pr (x0 / y0) (x0 % y0))] (aA (aA (aD (Pr.lasts _ _) (aF)))) ?_;simp only [its,List.take,List.drop,Nat.zero_add,Nat.reduceAdd];refine jmm (v) (v') ?_;refine jk (fun X hX hF=>byP v v' _ _ X ((Dg.lasts _) _ _ _ hr hX) ((Dg.lasts _) _ _ _ hr' hX) (by omega) (by omega) (by omega)) ?_;intro v15;refine aH ?_;intro X2 hX2 hF;have hr:=(Dg.lasts _) _ _ _ hr hX2;have hr':=(Dg.lasts _) _ _ _ hr' hX2;have hv15:=hF _ _ List.mem_cons_self;have hc:=(Below.cell hX2 (p:=⟨g,0,none⟩) hg).trans hc;have hg:=Nat.lt_of_lt_of_le hg (hX2).size;have hb:=aG hb hX2;clear hF hX2;obtain ⟨q0,r0,rfl,hq,hr0⟩:=hv15;go_upto_region 4 with fail;refine bC [none,none,none,some (Lm (Nat.gcd y0 (x0 % y0)))] (aA (aA (aA (aD (Dg.lasts _) (aF))))) ?_;simp only [iX,Nat.reduceAdd];refine jg ((.func (.func 113) #[] #[vP g 0])) (fun X hX hF=>bN 131 _ (by rfl) g 0 (by rfl) _ X ((Below.cell hX (p:=⟨g,0,none⟩) hg).trans hc) (fun X u h=>xQ g 0 X u h)) ?_
  refine jmm (v') (r0) ?_;refine iM (by rfl) _ _ _ (by rfl) 113 [vP g 0] (by rfl) [v',r0] (by rfl) (fun _=>by go_simp) (fun X hX hF=>ih (x0 % y0) hm v' r0 y0 X ((Dg.lasts _) _ _ _ hr' hX) ((Dg.lasts _) _ _ _ hr0 hX) (by omega) (by omega) (Nat.lt_of_lt_of_le hg hX.size) ((Below.cell hX (p:=⟨g,0,none⟩) hg).trans hc)) ?_;intro v21;simp only [pX];refine jm (v21) ?_;refine aH ?_;intro X3 hX3 hF;have hr:=(Dg.lasts _) _ _ _ hr hX3;have hr':=(Dg.lasts _) _ _ _ hr' hX3;have hr0:=(Dg.lasts _) _ _ _ hr0 hX3;have hv21:=hF _ _ List.mem_cons_self;have hc:=(Below.cell hX3 (p:=⟨g,0,none⟩) hg).trans hc;have hg:=Nat.lt_of_lt_of_le hg (hX3).size;have hb:=aG hb hX3;clear hF hX3
  go_wp2
  go_ret
  exact ⟨_,rfl,hv21,hb⟩
theorem xA (a b:List UInt8) (w:World) (ha:a.length≤4194304) (hb0:b.length≤4194304) :
  Calls Tryz.prog 91 #[vS a,vS b] w fun e w'=>e=.returned (.string ⟨(be (Nat.gcd (val a) (val b))).toArray⟩)∧Below w.heap.size w w':=by
 have la:=fB a;have lb:=fB b
 have lg:(ld (Nat.gcd (val a) (val b))).length≤4194304:=by
  rcases Nat.eq_zero_or_pos (val b) with h|h
  ·rw [h,Nat.gcd_zero_right];omega
  ·exact Nat.le_trans (qW (Nat.gcd_le_right _ h)) (by omega)
 go_enter Tryz.func91,Tryz.ntmps91
 go_upto_region 3 with fail;have hc:(w.alloc (.cells #[(.func (.func 113) #[] #[vP w.heap.size 0])] 131)).cell? ⟨w.heap.size,0,none⟩=some (.func (.func 113) #[] #[vP w.heap.size 0]):=(Blk.new (w:=w) (t:=131) (xs:=[(.func (.func 113) #[] #[vP w.heap.size 0])]) rfl).cell (j:=0) (u:=(.func (.func 113) #[] #[vP w.heap.size 0])) rfl
 have hg:w.heap.size<(w.alloc (.cells #[(.func (.func 113) #[] #[vP w.heap.size 0])] 131)).heap.size:=by simp
 have b1:Below w.heap.size w (w.alloc (.cells #[(.func (.func 113) #[] #[vP w.heap.size 0])] 131)):=(Below.refl _ _).alloc (Nat.le_refl _) _;generalize w.alloc (.cells #[(.func (.func 113) #[] #[vP w.heap.size 0])] 131)=w1 at hc hg b1 ⊢;refine jB [none,none,some (Lm (val a)),none,some (Lm (val b)),some (Lm (Nat.gcd (val a) (val b)))] (by kernel_rfl) (by kernel_rfl) (aA (aA (aD (Dg.lasts _) (aA (aD (Dg.lasts _) (aD (Dg.lasts _) (aF))))))) ?_;simp only [iX,Nat.reduceAdd];refine jg ((.func (.func 113) #[] #[vP w.heap.size 0])) (fun X hX hF=>bN 131 _ (by rfl) w.heap.size 0 (by rfl) _ X ((Below.cell hX (p:=⟨w.heap.size,0,none⟩) hg).trans hc) (fun X u h=>xQ w.heap.size 0 X u h)) ?_;refine jm (st a) ?_;refine jk (fun X hX hF=>iG a X (by omega)) ?_;intro v9;refine jm (st b) ?_;refine jk (fun X hX hF=>iG b X (by omega)) ?_;intro v11;refine iM (by rfl) _ _ _ (by rfl) 113 [vP w.heap.size 0] (by rfl) [v9,v11] (by rfl) (fun _=>by go_simp) (fun X hX hF=>qQc w.heap.size _ v9 v11 _ X (hF _ _ (List.mem_cons_of_mem _ List.mem_cons_self) rfl) (hF _ _ List.mem_cons_self rfl) (by omega) (by omega) (Nat.lt_of_lt_of_le hg hX.size) ((Below.cell hX (p:=⟨w.heap.size,0,none⟩) hg).trans hc)) ?_;intro v12;simp only [pX];refine jc (st (be (Nat.gcd (val a) (val b)))) (fun X hX hF=>mE v12 _ X (hF _ _ List.mem_cons_self rfl) (by omega)) ?_
 refine jm (st (be (Nat.gcd (val a) (val b)))) ?_;refine aH ?_;intro X1 hX1 hF;have hv9:=hF _ _ (List.mem_cons_of_mem _ (List.mem_cons_of_mem _ List.mem_cons_self));have hv11:=hF _ _ (List.mem_cons_of_mem _ List.mem_cons_self);have hv12:=hF _ _ List.mem_cons_self;have hb:Below w1.heap.size w1 X1:=hX1;clear hF hX1
 go_wp2
 go_ret
 exact ⟨rfl,b1.trans (hb.mono b1.size)⟩
end Go.Proofs.YtnfpenhldlfafaaGreatDoor

/- Division of numbers; DivMod. Value; Gcd. Gcd. Text. Parse. -/
import Derived.OwnWalk
import Derived.Laws.EntriesVeiled
import Derived.Test.YtnfpenhldlfafaaGreatDoorNby
import Derived.Test.YtnfpenhldlfafaaGreatDoorMB
import Derived.Test.YtnfpenhldlfafaaGreatDoorMC
set_option linter.unusedSimpArgs false
set_option linter.unusedVariables false
set_option maxRecDepth 100000
set_option maxHeartbeats 1600000
namespace Go.Proofs.YtnfpenhldlfafaaGreatDoor
open Go.RowKit
def Pr (x y:Nat) (q:Value) (X:World):Prop:=∃ u v,q=.tuple #[u,v]∧Lm x u X∧Lm y v X
theorem Pr.lasts (x y:Nat):dW (Pr x y):=by
 rintro q X Y ⟨u,v,h1,h2,h3⟩ hS
 exact ⟨u,v,h1,h2.bel hS,h3.bel hS⟩
theorem byP (v v':Value) (x0 y0:Nat) (w:World) (hr:Lm x0 v w) (hr':Lm y0 v' w) (hx:(ld x0).length≤8388608) (hy:(ld y0).length≤8388608) (hy0:0<y0) :
  Calls Tryz.prog 114 #[v,v'] w fun e w'=>∃ q,e=.returned q∧Pr (x0 / y0) (x0 % y0) q w'∧Since w w':=by
 rcases Nat.lt_or_ge x0 y0 with h|h
 ·exact (byLt v v' x0 y0 w hr hr' hx hy h).mono fun e X' ⟨q,r,h1,h2,h3,h4⟩=>⟨_,h1,⟨q,r,rfl,h2,h3⟩,h4⟩
 ·rcases Nat.lt_or_ge (ld y0).length 2 with h1|h1
  ·have h0:0<(ld y0).length:=List.length_pos_iff.2 (fun h=>by rw [qVw] at h;omega)
   exact (byOne v v' x0 y0 w hr hr' hx hy h hy0 (by omega)).mono fun e X' ⟨q,r,h1,h2,h3,h4⟩=>⟨_,h1,⟨q,r,rfl,h2,h3⟩,h4⟩
  ·exact (byBig v v' x0 y0 w hr hr' hx hy h hy0 h1).mono fun e X' ⟨q,r,h1,h2,h3,h4⟩=>⟨_,h1,⟨q,r,rfl,h2,h3⟩,h4⟩
theorem qVv {x:Nat} (h:0<x):0<(ld x).length:=List.length_pos_iff.2 (fun h'=>by rw [qVw] at h';omega)
theorem qZj {x:Nat} (h:x=0):(ld x).length≤0:=by subst h;exact Nat.le_refl 0
theorem vQp (a b:List UInt8) (w:World) (ha:a.length≤4194304) (hb0:b.length≤4194304) (h0:0<val b) :
  Calls Tryz.prog 103 #[vS a,vS b] w fun e w'=>e=.returned (.tuple #[vS (be (val a / val b)),vS (be (val a % val b)),vI 0])∧Below w.heap.size w w':=by
 have la:=gL a;have lb:=gL b;have l0:=qVv h0;have l1:=tN (Nat.div_le_self (val a) (val b));have l2:=tN (Nat.mod_le (val a) (val b))
 go_enter Tryz.func103,Tryz.ntmps103
 go_upto_region 1 with fail;refine bM [none,some (Lm (val a)),none,some (Lm (val b))] (aA (aE (Dg.lasts _) (aA (aE (Dg.lasts _) (aG))))) ?_;simp only [iX,Nat.reduceAdd];refine jm (st a) ?_;refine jk (fun X hX hF=>jX a X (by omega)) ?_;intro v12;refine jm (st b) ?_;refine jk (fun X hX hF=>jX b X (by omega)) ?_;intro v14;refine jmm (v12) (v14) ?_;refine aI ?_;intro X1 hX1 hF;have hv12:=hF _ _ (zF zE);have hv14:=hF _ _ zE;have hb:Below w.heap.size w X1:=hX1;clear hF hX1;go_upto_region 2 with fail;refine jp ?_;refine jm (v14) ?_;refine jg (vI ((ld (val b)).length:Int)) (fun X hX hF=>by obtain ⟨A9,c9,h9,_⟩:=((Dg.lasts _) _ _ _ hv14 hX);subst h9;exact aM fD _ (by rfl) A9 _ c9 (by rfl) _ rfl X) ?_;refine tO ((ld (val b)).length:Int) 0 (by omega) ?_;refine jzb hb fun X2 hX2 hb=>?_;have hv12:=(Dg.lasts _) _ _ _ hv12 hX2;have hv14:=(Dg.lasts _) _ _ _ hv14 hX2;go_upto_region 4 with fail;refine bA 3 [none,none,some (Pr ((val a) / (val b)) ((val a) % (val b)))] (aA (aA (aE (Pr.lasts _ _) (aG)))) ?_;simp only [its,List.take,List.drop,Nat.zero_add,Nat.reduceAdd];refine jmm (v12) (v14) ?_;refine jk (fun X hX hF=>byP v12 v14 _ _ X ((Dg.lasts _) _ _ _ hv12 hX) ((Dg.lasts _) _ _ _ hv14 hX) (by omega) (by omega) (by omega)) ?_;intro v21;refine aI ?_;intro X3 hX3 hF;have hv12:=(Dg.lasts _) _ _ _ hv12 hX3
 have hv14:=(Dg.lasts _) _ _ _ hv14 hX3;have hv21:=hF _ _ zE;have hb:=aF hb hX3;clear hF hX3;obtain ⟨q0,r0,rfl,hq,hr⟩:=hv21;go_upto_region 5 with fail;refine jp ?_;refine jm (q0) ?_;refine jc (st (be (val a / val b))) (fun X hX hF=>oO q0 _ X ((Dg.lasts _) _ _ _ hq hX) (by omega)) ?_;refine jm (r0) ?_;refine jc (st (be (val a % val b))) (fun X hX hF=>oO r0 _ X ((Dg.lasts _) _ _ _ hr hX) (by omega)) ?_;refine bZ (st (be (val a / val b))) (st (be (val a % val b))) (vI 0) ?_;refine jzb hb fun X4 hX4 hb=>?_;have hv12:=(Dg.lasts _) _ _ _ hv12 hX4;have hv14:=(Dg.lasts _) _ _ _ hv14 hX4;have hq:=(Dg.lasts _) _ _ _ hq hX4;have hr:=(Dg.lasts _) _ _ _ hr hX4
 go_wp2
 go_ret3
 exact ⟨rfl,hb⟩
theorem vQo (n:Nat) (w:World) (hn:n<9223372036854775808):Calls Tryz.prog 102 #[vI n] w fun e w'=>e=.returned (.tuple #[vS (be n),vI 0])∧Below w.heap.size w w':=by
 have hlw:lw [UInt32.ofNat (n % 4294967296),UInt32.ofNat (n / 4294967296)]=n:=by
  rw [gR,rY,jY,jY]
  omega
 have hl2:(ld (lw [UInt32.ofNat (n % 4294967296),UInt32.ofNat (n / 4294967296)])).length≤2:=by
  rw [hlw];exact iO (by omega)
 have HLW:=Lib.hid hlw;clear hlw
 go_enter Tryz.func102,Tryz.ntmps102
 go_upto_region 3 with fail;refine bM [none,none,none,none,none,some (Dg [UInt32.ofNat (n % 4294967296),UInt32.ofNat (n / 4294967296)]),some (Lm (lw [UInt32.ofNat (n % 4294967296),UInt32.ofNat (n / 4294967296)]))] (aA (aA (aA (aA (aA (aE (Dg.lasts _) (aE (Dg.lasts _) (aG)))))))) ?_;simp only [iX,Nat.reduceAdd];refine jm (vI n) ?_;refine jv (.int .u32 ((n % 4294967296:Nat):Int)) (bX _ _ .i64 .u32 G3 jT _ (by rfl) (n:Int) ((n % 4294967296:Nat):Int) (by rfl) (by rw [IntKind.wrap_u32];omega)) ?_;refine jm (vI n) ?_;refine jv (vI ((n / 4294967296:Nat):Int)) (kJ _ _ _ _ (by rfl) .i64 .u64 (n:Int) ((n / 4294967296:Nat):Int) 32 (by rfl) (by rfl) rfl (by decide) (by omega)) ?_;refine jv (.int .u32 ((n / 4294967296:Nat):Int)) (bX _ _ .i64 .u32 G3 jT _ (by rfl) ((n / 4294967296:Nat):Int) ((n / 4294967296:Nat):Int) (by rfl) (by rw [w32 (by omega) (by omega)])) ?_;refine bH (by rfl) (fun X hX hF=>⟨_,_,qXm _ _ (by rfl) _ _ (by rfl) (by rfl) X,Dg.new2 X _ _ (UInt32.ofNat (n % 4294967296)) (UInt32.ofNat (n / 4294967296)) (by rw [jY];omega) (by rw [jY];omega),cE X _⟩) ?_;intro v11;simp only [pX];refine jk (fun X hX hF=>lA _ v11 X (hF _ _ zE rfl) (by first|omega|(simp only [List.length_cons,List.length_nil];omega))) ?_
 intro v12;refine jc (st (be (lw [UInt32.ofNat (n % 4294967296),UInt32.ofNat (n / 4294967296)]))) (fun X hX hF=>oO v12 _ X (hF _ _ zE rfl) (by omega)) ?_;refine jmm (st (be (lw [UInt32.ofNat (n % 4294967296),UInt32.ofNat (n / 4294967296)]))) (vI 0) ?_;refine aI ?_;intro X1 hX1 hF;have hv11:=hF _ _ (zF zE);have hv12:=hF _ _ zE;have hb:Below w.heap.size w X1:=hX1;clear hF hX1;rw [HLW.out]
 go_wp2
 go_ret2
 exact ⟨rfl,hb⟩
theorem qVs (b k:Nat) (X:World) (v:Value) (h:X.cell? ⟨b,k,none⟩=some v):(loadVar 131 ⟨b,k,none⟩).run Tryz.prog X=.ok v X:=by
 go_simp
theorem qZt (g:Nat) (y0:Nat):∀ (v v':Value) (x0:Nat) (w:World),Lm x0 v w→Lm y0 v' w→(ld x0).length≤8388608→(ld y0).length≤8388608→g<w.heap.size→w.cell? ⟨g,0,none⟩=some (.func (.func 113) #[] #[vP g 0]) →
  Calls Tryz.prog 113 #[v,v',vP g 0] w fun e w'=>∃ u,e=.returned u∧Lm (Nat.gcd x0 y0) u w'∧Since w w':=by
 induction y0 using Nat.strongRecOn with
 | _ y0 ih =>
 intro v v' x0 w hr hr' hx hy hg hc;have ih:=Lib.hid ih
 rcases Nat.eq_zero_or_pos y0 with h0|h0
 ·have l0:=qZj h0
  have HG:Hid (Nat.gcd x0 y0=x0):=by show _=_;rw [h0,Nat.gcd_zero_right]
  clear h0 hc ih;rw [HG.out]
  go_enter Tryz.func113,Tryz.ntmps113
  go_upto_region 1 with fail;refine jp ?_;refine jm (v') ?_;refine jg (vI ((ld y0).length:Int)) (fun X hX hF=>by obtain ⟨A9,c9,h9,_⟩:=((Dg.lasts _) _ _ _ hr' hX);subst h9;exact aM fD _ (by rfl) A9 _ c9 (by rfl) _ rfl X) ?_;refine nU ((ld y0).length:Int) 0 (by omega) ?_;refine jz fun X1 hX1=>?_;have hr:=(Dg.lasts _) _ _ _ hr hX1;have hr':=(Dg.lasts _) _ _ _ hr' hX1;have hb:Below w.heap.size w X1:=hX1;go_upto_region 2 with fail;refine jp ?_;refine jmm (v) (v) ?_;refine jzb hb fun X2 hX2 hb=>?_;have hr:=(Dg.lasts _) _ _ _ hr hX2;have hr':=(Dg.lasts _) _ _ _ hr' hX2
  go_wp2
  go_ret
  exact ⟨_,rfl,hr,hb⟩
 ·have l0:=qVv h0
  have hm:=Nat.mod_lt x0 h0;have l2:=tN (Nat.le_of_lt hm)
  have HG:Hid (Nat.gcd x0 y0=Nat.gcd y0 (x0 % y0)):=by
   show _=_
   rw [Nat.gcd_comm,Nat.gcd_rec,Nat.gcd_comm]
  have hc:=hc;rw [HG.out];have ih:=ih.out
  go_enter Tryz.func113,Tryz.ntmps113
  go_upto_region 1 with fail;refine jp ?_;refine jm (v') ?_;refine jg (vI ((ld y0).length:Int)) (fun X hX hF=>by obtain ⟨A9,c9,h9,_⟩:=((Dg.lasts _) _ _ _ hr' hX);subst h9;exact aM fD _ (by rfl) A9 _ c9 (by rfl) _ rfl X) ?_;refine tO ((ld y0).length:Int) 0 (by omega) ?_;refine jz fun X1 hX1=>?_;have hr:=(Dg.lasts _) _ _ _ hr hX1;have hr':=(Dg.lasts _) _ _ _ hr' hX1;have hc:=(Below.cell hX1 (p:=⟨g,0,none⟩) hg).trans hc;have hg:=Nat.lt_of_lt_of_le hg (hX1).size;have hb:Below w.heap.size w X1:=hX1;go_upto_region 3 with fail;refine bA 3 [none,none,some (Pr (x0 / y0) (x0 % y0))] (aA (aA (aE (Pr.lasts _ _) (aG)))) ?_;simp only [its,List.take,List.drop,Nat.zero_add,Nat.reduceAdd];refine jmm (v) (v') ?_;refine jk (fun X hX hF=>byP v v' _ _ X ((Dg.lasts _) _ _ _ hr hX) ((Dg.lasts _) _ _ _ hr' hX) (by omega) (by omega) (by omega)) ?_;intro v15;refine aI ?_;intro X2 hX2 hF;have hr:=(Dg.lasts _) _ _ _ hr hX2;have hr':=(Dg.lasts _) _ _ _ hr' hX2;have hv15:=hF _ _ zE;have hc:=(Below.cell hX2 (p:=⟨g,0,none⟩) hg).trans hc;have hg:=Nat.lt_of_lt_of_le hg (hX2).size;have hb:=aF hb hX2;clear hF hX2;obtain ⟨q0,r0,rfl,hq,hr0⟩:=hv15;go_upto_region 4 with fail;refine bM [none,none,none,some (Lm (Nat.gcd y0 (x0 % y0)))] (aA (aA (aA (aE (Dg.lasts _) (aG))))) ?_;simp only [iX,Nat.reduceAdd];refine jg ((.func (.func 113) #[] #[vP g 0])) (fun X hX hF=>cA 131 _ (by rfl) g 0 (by rfl) _ X ((Below.cell hX (p:=⟨g,0,none⟩) hg).trans hc) (fun X u h=>qVs g 0 X u h)) ?_
  refine jmm (v') (r0) ?_;refine kC (by rfl) _ _ _ (by rfl) 113 [vP g 0] (by rfl) [v',r0] (by rfl) (fun _=>by go_simp) (fun X hX hF=>ih (x0 % y0) hm v' r0 y0 X ((Dg.lasts _) _ _ _ hr' hX) ((Dg.lasts _) _ _ _ hr0 hX) (by omega) (by omega) (Nat.lt_of_lt_of_le hg hX.size) ((Below.cell hX (p:=⟨g,0,none⟩) hg).trans hc)) ?_;intro v21;simp only [pX];refine jm (v21) ?_;refine aI ?_;intro X3 hX3 hF;have hr:=(Dg.lasts _) _ _ _ hr hX3;have hr':=(Dg.lasts _) _ _ _ hr' hX3;have hr0:=(Dg.lasts _) _ _ _ hr0 hX3;have hv21:=hF _ _ zE;have hc:=(Below.cell hX3 (p:=⟨g,0,none⟩) hg).trans hc;have hg:=Nat.lt_of_lt_of_le hg (hX3).size;have hb:=aF hb hX3;clear hF hX3
  go_wp2
  go_ret
  exact ⟨_,rfl,hv21,hb⟩
theorem qQy (a b:List UInt8) (w:World) (ha:a.length≤4194304) (hb0:b.length≤4194304) :
  Calls Tryz.prog 91 #[vS a,vS b] w fun e w'=>e=.returned (.string ⟨(be (Nat.gcd (val a) (val b))).toArray⟩)∧Below w.heap.size w w':=by
 have la:=gL a;have lb:=gL b
 have lg:(ld (Nat.gcd (val a) (val b))).length≤4194304:=by
  rcases Nat.eq_zero_or_pos (val b) with h|h
  ·rw [h,Nat.gcd_zero_right];omega
  ·exact Nat.le_trans (tN (Nat.gcd_le_right _ h)) (by omega)
 go_enter Tryz.func91,Tryz.ntmps91
 go_upto_region 3 with fail;have hc:(w.alloc (.cells #[(.func (.func 113) #[] #[vP w.heap.size 0])] 131)).cell? ⟨w.heap.size,0,none⟩=some (.func (.func 113) #[] #[vP w.heap.size 0]):=(Blk.new (w:=w) (t:=131) (xs:=[(.func (.func 113) #[] #[vP w.heap.size 0])]) rfl).cell (j:=0) (u:=(.func (.func 113) #[] #[vP w.heap.size 0])) rfl
 have hg:w.heap.size<(w.alloc (.cells #[(.func (.func 113) #[] #[vP w.heap.size 0])] 131)).heap.size:=by simp
 have b1:Below w.heap.size w (w.alloc (.cells #[(.func (.func 113) #[] #[vP w.heap.size 0])] 131)):=(Below.refl _ _).alloc (Nat.le_refl _) _;generalize w.alloc (.cells #[(.func (.func 113) #[] #[vP w.heap.size 0])] 131)=w1 at hc hg b1 ⊢;refine kT [none,none,some (Lm (val a)),none,some (Lm (val b)),some (Lm (Nat.gcd (val a) (val b)))] (by kernel_rfl) (by kernel_rfl) (aA (aA (aE (Dg.lasts _) (aA (aE (Dg.lasts _) (aE (Dg.lasts _) (aG))))))) ?_;simp only [iX,Nat.reduceAdd];refine jg ((.func (.func 113) #[] #[vP w.heap.size 0])) (fun X hX hF=>cA 131 _ (by rfl) w.heap.size 0 (by rfl) _ X ((Below.cell hX (p:=⟨w.heap.size,0,none⟩) hg).trans hc) (fun X u h=>qVs w.heap.size 0 X u h)) ?_;refine jm (st a) ?_;refine jk (fun X hX hF=>jX a X (by omega)) ?_;intro v9;refine jm (st b) ?_;refine jk (fun X hX hF=>jX b X (by omega)) ?_;intro v11;refine kC (by rfl) _ _ _ (by rfl) 113 [vP w.heap.size 0] (by rfl) [v9,v11] (by rfl) (fun _=>by go_simp) (fun X hX hF=>qZt w.heap.size _ v9 v11 _ X (hF _ _ (zF zE) rfl) (hF _ _ zE rfl) (by omega) (by omega) (Nat.lt_of_lt_of_le hg hX.size) ((Below.cell hX (p:=⟨w.heap.size,0,none⟩) hg).trans hc)) ?_;intro v12;simp only [pX];refine jc (st (be (Nat.gcd (val a) (val b)))) (fun X hX hF=>oO v12 _ X (hF _ _ zE rfl) (by omega)) ?_
 refine jm (st (be (Nat.gcd (val a) (val b)))) ?_;refine aI ?_;intro X1 hX1 hF;have hv9:=hF _ _ (zF (zF zE));have hv11:=hF _ _ (zF zE);have hv12:=hF _ _ zE;have hb:Below w1.heap.size w1 X1:=hX1;clear hF hX1
 go_wp2
 go_ret
 exact ⟨rfl,b1.trans (hb.mono b1.size)⟩
theorem uI {P:Program} {w:World} {ops:Array Oper} {rest:List Oper} {o:Oper} {a:Act} {Q:Exit→Act→World→Prop} {cs:Array Value} {tb:TypeId} (hgd:o.guard=none) {s x:Operand} {t:TypeId}
  (ho:o.op=.call { callee:=.builtin .append,args:=#[s,x],argTypes:=#[t,t] }) {e:TypeId} {z:Value} {bytes:Nat} (ht:P.underlying t=some (.slice e)) (hi:(P.info? e).map (fun i=>(i.zero,i.size,i.bytes))=some (some z,1,bytes)) (hz1:z.cells.size=1)
  (base:Nat) (v:Value) (n:Nat) (xs us:List Value) (hcs:cs=us.toArray) (hs:a.eval s=v) (hown:w.ownsRow base e 1 v n xs) {m:Nat} (hm:us.length=m)
  (hx:a.eval x=.slice (some ⟨w.heap.size,0,none⟩) m m) (h1:∀ u∈us,u.oneCell'=true) (hn:(n+m) * bytes≤140737488355328) (hn2:n+m≤140737488355328) (hbase:base≤w.heap.size)
  (h:∀ A' c' w',w'.ownsRow base e 1 (.slice A' (n+m) c') (n+m) (xs++us)→n+m≤c'→c'≤maxLen→Below base w w'→w.grownBy w' v.ownBlock→wpList P ops Q rest (a.put o.dst (.slice A' (n+m) c')) w') :
  wpList P ops Q (o :: rest) a (w.alloc (.cells cs tb)):=by
 subst hcs;obtain ⟨i,hi',hz0,hsz,hby⟩:=info_parts hi;refine wpList_append_own _ hgd s x t ho base e i z 1 bytes ht hi' hz0 hsz hby hz1 (by decide) v n xs hs (hown.alloc _) ⟨w.heap.size,0,none⟩ m m us hx (by omega) ?_ h1 (by unfold maxLen;omega) hn (by simp;omega) ?_
 ·intro j u hj
  have hb:Blk (w.alloc (.cells us.toArray tb)) w.heap.size tb us:=Blk.new rfl;have:=hb.cell hj;rw [kP,Nat.zero_add];exact this
 ·intro v' w' h2 h3 _
  have h4:Below base w w':=((Below.refl base w).alloc hbase _).grown h3 (by simp;omega) (by intro k hk;exact (hown.lt k hk).1);have hR:=Rd.of_own h2;obtain ⟨A',c',rfl,h5,h6⟩:=hR.form;have h7:Below w.heap.size w (w.alloc (.cells us.toArray tb)):=(Below.refl w.heap.size w).alloc (Nat.le_refl _) _;exact h A' c' w' h2 h5 h6 h4 ⟨h3.os,h3.tape,h3.output,Nat.le_trans h7.size h3.size,fun k hk hne=>(h3.block k (Nat.lt_of_lt_of_le hk h7.size) hne).trans (h7.block k hk)⟩
end Go.Proofs.YtnfpenhldlfafaaGreatDoor

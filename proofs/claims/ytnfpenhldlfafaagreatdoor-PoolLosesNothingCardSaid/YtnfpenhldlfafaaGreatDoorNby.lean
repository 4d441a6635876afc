/- by: quotient and remainder. -/
import Derived.Test.YtnfpenhldlfafaaGreatDoorME
set_option linter.unusedSimpArgs false
set_option linter.unusedVariables false
set_option maxRecDepth 100000
set_option maxHeartbeats 1600000
namespace Go.Proofs.YtnfpenhldlfafaaGreatDoor
open Go.RowKit
theorem Lm.zero (w:World):Lm 0 (.slice none 0 0) w:=⟨none,0,rfl,Rd.nil_ w 1⟩
theorem byLt (v v':Value) (x0 y0:Nat) (w:World) (hr:Lm x0 v w) (hr':Lm y0 v' w) (hx:(ld x0).length≤8388608) (hy:(ld y0).length≤8388608) (hlt:x0<y0) :
  Calls Tryz.prog 114 #[v,v'] w fun e w'=>∃ q r,e=.returned (.tuple #[q,r])∧Lm (x0 / y0) q w'∧Lm (x0 % y0) r w'∧Below w.heap.size w w':=by
 have e1:=Nat.div_eq_of_lt hlt;have e2:=Nat.mod_eq_of_lt hlt;rw [e1,e2];clear e1 e2
 go_enter Tryz.func114,Tryz.ntmps114
 go_upto_region 1 with fail
 apply wp_scope_straight
 repeat (apply wp_seq_k;intro _ _)
 refine jq 3 ?_;refine jg (v) (fun X _ _=>by rfl) ?_;refine jg (v') (fun X _ _=>by rfl) ?_;refine jc (vI (cD x0 y0)) (fun X hX hF=>eP v v' _ _ X (hr.bel hX) (hr'.bel hX) (by omega) (by omega)) ?_;refine aH ?_;intro W1 hW1 _;have hr:=hr.bel hW1;have hr':=hr'.bel hW1;have b1:Below w.heap.size w W1:=hW1;clear hW1;rw [eQ (show (x0:Int)<(y0:Int) by omega)]
 go_wp2
 rw [Exit.noGoto_ret]
 go_ret2
 exact ⟨_,_,rfl,Lm.zero _,hr,b1⟩
theorem byOne (v v':Value) (x0 y0:Nat) (w:World) (hr:Lm x0 v w) (hr':Lm y0 v' w) (hx:(ld x0).length≤8388608) (hy:(ld y0).length≤8388608) (hle:y0≤x0) (hy0:0<y0) (h1:(ld y0).length=1) :
  Calls Tryz.prog 114 #[v,v'] w fun e w'=>∃ q r,e=.returned (.tuple #[q,r])∧Lm (x0 / y0) q w'∧Lm (x0 % y0) r w'∧Below w.heap.size w w':=by
 have hyb:y0<4294967296:=by
  have:=fF (ld y0);rw [dT,h1] at this
  omega
 have hys:=iN hy0 hyb;have hmod:=Nat.mod_lt x0 hy0
 go_enter Tryz.func114,Tryz.ntmps114
 go_upto_region 1 with fail
 apply wp_scope_straight
 repeat (apply wp_seq_k;intro _ _)
 refine jq 3 ?_;refine jg (v) (fun X _ _=>by rfl) ?_;refine jg (v') (fun X _ _=>by rfl) ?_;refine jc (vI (cD x0 y0)) (fun X hX hF=>eP v v' _ _ X (hr.bel hX) (hr'.bel hX) (by omega) (by omega)) ?_;refine aH ?_;intro W1 hW1 _;have hr:=hr.bel hW1;have hr':=hr'.bel hW1;have b1:Below w.heap.size w W1:=hW1;clear hW1
 have hcmp:0≤cD (x0:Int) (y0:Int):=by unfold cD;rw [if_neg (by omega)];split <;> omega
 generalize cD (x0:Int) (y0:Int)=cc at hcmp ⊢;obtain ⟨A',c',rfl,hrr⟩:=hr';rw [h1] at hrr ⊢;obtain ⟨bb,off,rfl,hbb,hc⟩:=hrr.digit (k:=0) (by omega);rw [hys] at hc
 have hc1:W1.cell? ⟨bb,off+0,none⟩=some (.int .u32 (y0:Int)):=by rw [hc];show some (Value.int .u32 ((UInt32.ofNat y0).toNat:Int))=_;rw [iH,Nat.mod_eq_of_lt hyb]
 clear hc hys h1;go_upto_region 4 with fail;refine aV 5 [none,none,none,none,some (fun q Y=>∃ u,q=.tuple #[u,.int .u32 ((x0 % y0:Nat):Int)]∧Lm (x0 / y0) u Y)] (aA (aA (aA (aA (aD ((by rintro q X Y ⟨u,h1,h2⟩ hS;exact ⟨u,h1,h2.bel hS⟩)) (aF)))))) ?_;simp only [its,List.take,List.drop,Nat.zero_add,Nat.reduceAdd];refine jg (v) (fun X _ _=>by rfl) ?_;refine jg (.slice (some ⟨bb,off,none⟩) 1 c') (fun X _ _=>by rfl) ?_;refine jv (vP bb (off+0)) (cS Tryz.underlying133 bT _ _ (by rfl) bb (off) 1 c' 0 (by omega) (by rfl) (by rfl) rfl) ?_;refine jg (.int .u32 (y0:Int)) (fun X hX hF=>bN 141 _ (by rfl) bb (off+0) (by rfl) _ X ((Below.cell hX (p:=⟨bb,off+0,none⟩) hbb).trans hc1) (fun X u h=>cG bb (off+0) X u h)) ?_;refine jk (fun X hX hF=>(wL v x0 y0 X (hr.bel hX) (by omega) hy0 hyb).mono fun e X' ⟨u,h1,h2,h3⟩=>⟨_,h1,⟨u,rfl,h2⟩,h3⟩) ?_;intro v33;refine aH ?_;intro X2 hX2 hF;obtain ⟨u,hu,hL⟩:=hF _ _ List.mem_cons_self;subst hu;have b2:=aG b1 hX2;clear hF hc1;go_upto_region 5 with fail;refine bC [none,none,some (Dg [UInt32.ofNat (x0 % y0)]),some (Lm (lw [UInt32.ofNat (x0 % y0)]))] (aA (aA (aD (Dg.lasts _) (aD (Dg.lasts _) (aF))))) ?_;simp only [iX,Nat.reduceAdd];refine jg (u) (fun X _ _=>by rfl) ?_;refine jg (.int .u32 ((x0 % y0:Nat):Int)) (fun X _ _=>by rfl) ?_
 refine aW (by rfl) (fun X hX hF=>⟨_,_,rK _ (by rfl) _ (by rfl) X,Dg.new1 X _ (UInt32.ofNat (x0 % y0)) (by rw [iH,Nat.mod_eq_of_lt (show x0 % y0<4294967296 by omega)]),bU X _⟩) ?_;intro v38;simp only [pX];refine jk (fun X hX hF=>jG _ v38 X (hF _ _ List.mem_cons_self rfl) (by show 1≤_;omega)) ?_;intro v39;refine jg (u) (fun X _ _=>by rfl) ?_;refine jg (v39) (fun X _ _=>by rfl) ?_;refine aH ?_;intro X3 hX3 hF;have h39:=hF _ _ List.mem_cons_self;rw [oZ,iH,Nat.mod_eq_of_lt (show x0 % y0<4294967296 by omega)] at h39;have hL:=hL.bel hX3;have b3:=aG b2 hX3;clear hF
 go_wp2
 rw [Exit.noGoto_ret]
 go_ret2
 exact ⟨_,_,rfl,hL,h39,b3⟩
theorem zU (x:Nat) {b:Nat} (hb:b≤31):(ld (x * 2 ^ b)).length≤(ld x).length+1:=by
 have h1:ld (x * 2 ^ b)=ld (x * 2 ^ b):=rfl
 have h2:x<4294967296 ^ (ld x).length:=by have:=fF (ld x);rwa [dT] at this
 have h3:2 ^ b≤2 ^ 31:=Nat.pow_le_pow_right (by omega) hb
 have h4:x * 2 ^ b<4294967296 ^ ((ld x).length+1):=by
  rw [Nat.pow_succ];have h5:x * 2 ^ b≤x * 4294967296:=Nat.mul_le_mul_left _ (by omega);have h6:x * 4294967296<4294967296 ^ (ld x).length * 4294967296:=Nat.mul_lt_mul_of_pos_right h2 (by omega)
  omega
 exact gH h4
theorem vt_ge {V n vt v2 vr:Nat} (h2:2≤n) (hV:2147483648 * 4294967296 ^ (n-1)≤V) (hd:V=(vt * 4294967296+v2) * 4294967296 ^ (n-2)+vr) (hvr:vr<4294967296 ^ (n-2)) (hv2:v2<4294967296):2147483648≤vt:=by
 obtain ⟨k,rfl⟩:∃ k,n=k+2:=⟨n-2,by omega⟩;rw [show k+2-1=k+1 by omega,Nat.pow_succ,hd] at hV;rw [show k+2-2=k by omega] at hV hvr;generalize 4294967296 ^ k=E at hV hvr
 rcases Nat.lt_or_ge vt 2147483648 with h9|h9
 ·exfalso
  have h8:vt * 4294967296+v2+1≤9223372036854775808:=by omega
  have h10:=Nat.mul_le_mul_right E h8;rw [Nat.add_mul,Nat.one_mul] at h10;generalize (vt * 4294967296+v2) * E=F at h10 hV
  omega
 ·exact h9
theorem vO {XX V n L:Nat} (h2:2≤n) (hV:2147483648 * 4294967296 ^ (n-1)≤V) (hL:L=(ld XX).length+2) (hn:n≤L):XX<V * 4294967296 ^ (L-n):=by
 have h1:XX<4294967296 ^ (ld XX).length:=by have:=fF (ld XX);rwa [dT] at this
 have h3:=Nat.mul_le_mul_right (4294967296 ^ (L-n)) hV;rw [Nat.mul_assoc,← Nat.pow_add,show n-1+(L-n)=(ld XX).length+1 by omega,Nat.pow_succ] at h3;generalize 4294967296 ^ (ld XX).length=E at h1 h3;generalize V * 4294967296 ^ (L-n)=F at h3 ⊢
 have h4:E≤2147483648 * (E * 4294967296):=by omega
 omega
theorem tB (N J:Nat) (e:Nat):e * lw ((List.replicate N (0:UInt32)).drop J)=0:=by
 rw [List.drop_replicate,mA,Nat.mul_zero]
theorem vU (N i:Nat):(List.replicate N (0:UInt32)).getD i 0=0:=by
 simp only [List.getD,List.getElem?_replicate]
 split <;> rfl
theorem lD (R:List UInt32) (j i:Nat):(R.drop j).getD i 0=R.getD (j+i) 0:=by simp [List.getD]
theorem qYw {V P F vt v2 vr top r2 pr:Nat} (hV:V=(vt * 4294967296+v2) * F+vr) (hP:P=(top * 4294967296+r2) * F+pr) (hr2:r2<4294967296) (hpr:pr<F) (hlt:P<V * 4294967296) (hvt:0<vt):P / V≤min (top / vt) 4294967295:=by
 have e1:V=vt * (4294967296 * F)+(v2 * F+vr):=by rw [hV,Nat.add_mul,Nat.mul_assoc,Nat.add_assoc]
 have e2:P=top * (4294967296 * F)+(r2 * F+pr):=by rw [hP,Nat.add_mul,Nat.mul_assoc,Nat.add_assoc]
 have e3:r2 * F+pr<4294967296 * F:=by
  have h:=Nat.mul_le_mul_right F (show r2+1≤4294967296 by omega);rw [Nat.add_mul,Nat.one_mul] at h
  omega
 exact xZ e1 e2 e3 hlt hvt
theorem oA {P:Program} {f:Operand→Value} {o:Oper} {t e:TypeId} (hu:P.underlying t=some (.slice e)) (hs:(P.info? e).map (·.size)=some 1) (x lo hi:Operand) (ho:o.op=.slice t x (some lo) (some hi) none) (b n c p q k:Nat) (hx:f x=.slice (some ⟨b,0,none⟩) n c) {y z:Int} (hlo:f lo=vI y) (hy:y=(p:Int)) (hh:f hi=vI z) (hz:z=(q:Int)) (hpq:p≤q) (hk:q≤c) (hpc:p<c) (he:q-p=k) (w:World) :
  (execOp f o).run P w=.ok (.value (.slice (some ⟨b,p,none⟩) k (c-p))) w:=by
 have h:=vM hu hs x lo hi ho b 0 n c p q hx hlo hy hh hz hpq hk hpc w;rw [Nat.zero_add,he] at h;exact h
theorem qXu (v:Value) (x0 b:Nat) (w:World) (hr:Lm x0 v w) (hx:(ld x0).length≤16777216) (hb:b≤31) :
  Calls Tryz.prog 125 #[v,vI (-(b:Int))] w fun e w'=>∃ u,e=.returned u∧Lm (x0 / 2 ^ b) u w'∧Below w.heap.size w w':=by
 rcases Nat.eq_zero_or_pos b with h|h
 ·subst h
  have:=rU v x0 0 w hr hx (by omega);rw [Nat.pow_zero,Nat.mul_one] at this;rw [Nat.pow_zero,Nat.div_one];exact this
 ·exact qXt v x0 b w hr hx h hb
theorem uF {α:Type} (xs:List α) (off n:Nat) {z:α} (h:off+n≤xs.length):off+n≤(xs.take off++List.replicate n z++xs.drop (off+n)).length:=by
 simp only [List.length_append,List.length_take,List.length_replicate,List.length_drop]
 omega
theorem getD_set_ne (Q:List UInt32) (d:UInt32) {i j:Nat} (h:i≠j):(Q.set j d).getD i 0=Q.getD i 0:=by
 simp only [List.getD];rw [List.getElem?_set_ne (fun e=>h e.symm)]
theorem Blk.grown {w w':World} {g g':Nat} {t:TypeId} {xs:List Value} (h:Blk w g' t xs) (hg:w.grownBy w' (some g)) (hne:g<g'):Blk w' g' t xs :=
 (hg.block g' h.lt (fun e=>by injection e;omega)).trans h
theorem qU {a:Nat} (h:4294967296≤a):¬ ((a:Int)<4294967296):=by omega
theorem Fr.weak {base base':Nat} {v:Value} (h:Fr base v) (hb:base'≤base):Fr base' v:=by
 obtain ⟨A,n,c,hv,hor⟩:=h;exact ⟨A,n,c,hv,hor.imp id fun ⟨g,h1,h2⟩=>⟨g,h1,by omega⟩⟩
set_option maxHeartbeats 16000000 in
theorem byBig (v v':Value) (x0 y0:Nat) (w:World) (hr:Lm x0 v w) (hr':Lm y0 v' w) (hx:(ld x0).length≤8388608) (hy:(ld y0).length≤8388608) (hle:y0≤x0) (hy0:0<y0) (h2:2≤(ld y0).length) :
  Calls Tryz.prog 114 #[v,v'] w fun e w'=>∃ q r,e=.returned (.tuple #[q,r])∧Lm (x0 / y0) q w'∧Lm (x0 % y0) r w'∧Below w.heap.size w w':=by
 go_enter Tryz.func114,Tryz.ntmps114
 go_upto_region 1 with fail
 apply wp_scope_straight
 repeat (apply wp_seq_k;intro _ _)
 refine jq 3 ?_;refine jg (v) (fun X _ _=>by rfl) ?_;refine jg (v') (fun X _ _=>by rfl) ?_;refine jc (vI (cD x0 y0)) (fun X hX hF=>eP v v' _ _ X (hr.bel hX) (hr'.bel hX) (by omega) (by omega)) ?_;refine aH ?_;intro W1 hW1 _;have hr:=hr.bel hW1;have hr':=hr'.bel hW1;have b1:Below w.heap.size w W1:=hW1;clear hW1
 have hcmp:0≤cD (x0:Int) (y0:Int):=by unfold cD;rw [if_neg (by omega)];split <;> omega
 generalize cD (x0:Int) (y0:Int)=cc at hcmp ⊢;have hLy:=hr';obtain ⟨A',cy,rfl,hry⟩:=hr';obtain ⟨A,c0,rfl,hrx⟩:=hr;have hLx:Lm x0 (.slice A (ld x0).length c0) W1:=⟨A,c0,rfl,hrx⟩
 have hnorm:=fun bt t=>@wZ y0 (ld y0).length bt t rfl
 have hnx:(ld y0).length≤(ld x0).length:=gZ hle;obtain ⟨n,hn⟩:∃ n,n=(ld y0).length:=⟨_,rfl⟩;rw [← hn] at h2 hry hy hnorm hnx hLy ⊢;obtain ⟨n0,hn0⟩:∃ n0,n0=(ld x0).length:=⟨_,rfl⟩;rw [← hn0] at hrx hx hnx hLx ⊢;obtain ⟨by1,oy1,rfl,hby,hct⟩:=hry.digit (k:=n-1) (by omega);obtain ⟨t,ht⟩:∃ t,t=((ld y0).getD (n-1) 0).toNat:=⟨_,rfl⟩;rw [← ht] at hct;have bt0:t<4294967296:=ht ▸ dI _
 have htp:0<t:=by
  rcases Nat.eq_zero_or_pos t with h0|h0
  ·exfalso
   have h5:=zV y0;rw [List.getLast?_eq_getElem?,← hn,List.getElem?_eq_getElem (by omega)] at h5
   have h6:(ld y0).getD (n-1) 0=(ld y0)[n-1]'(by omega):=by simp [List.getD,show n-1<(ld y0).length by omega]
   rw [h6] at ht;exact h5 (by rw [show (ld y0)[n-1]'(by omega)=0 from UInt32.toNat_inj.1 (by rw [← ht,h0];rfl)])
  ·exact h0
 have HN:=Lib.hid hn;have HT:=Lib.hid ht;have HNORM:=Lib.hid (@hnorm)
 have hne1:¬ (n:Int)=1:=by omega
 have HN0:=Lib.hid hn0;clear hn hn0 ht hnorm hr' hrx hry;go_upto_region 6 with fail
 go_wp2
 go_loop [8] (fun bv=>∃ bt:Nat,bt≤31∧bv=vI bt∧t * 2 ^ bt<4294967296) (fun bv=>32-(intOf bv).toNat)
 case atStart=>exact ⟨0,by omega,rfl,by omega⟩
 case round =>
  obtain ⟨bt,hbt,rfl,hbt2⟩:=hrel
  have HS:Hid (IntKind.u32.wrap ((t:Int) * 2 ^ bt)=((t * 2 ^ bt:Nat):Int)):=by
   show _=_
   have e:(t:Int) * 2 ^ bt=((t * 2 ^ bt:Nat):Int):=by push_cast;omega
   rw [e];exact w32 (by omega) (by omega)
  by_cases hlt:t * 2 ^ bt<2147483648
  ·have hb31:bt<31:=by
    rcases Nat.lt_or_ge bt 31 with h|h
    ·exact h
    ·exfalso
     have h3:2 ^ 31≤2 ^ bt:=Nat.pow_le_pow_right (by omega) h;have h4:1 * 2 ^ bt≤t * 2 ^ bt:=Nat.mul_le_mul_right _ htp
     omega
   have hnx2:t * 2 ^ (bt+1)<4294967296:=by rw [Nat.pow_succ,← Nat.mul_assoc];omega
   go_upto_region 7 with fail;refine aU ?_;simp only [iX,Nat.reduceAdd];refine je (.slice (some ⟨by1,oy1,none⟩) n cy) (by rfl) ?_;refine je (.slice (some ⟨by1,oy1,none⟩) n cy) (by rfl) ?_;refine je (vI n) (aJ Tryz.underlying133 _ (by rfl) (some ⟨by1,oy1,none⟩) n cy (by rfl) _ rfl _) ?_;refine je (vI ((n:Int)-1)) (cM _ _ _ _ (by rfl) (n:Int) 1 ((n:Int)-1) (by rfl) (by rfl) (by omega) (by omega) (by omega) _) ?_;refine je (vP by1 (oy1+(n-1))) (cS Tryz.underlying133 bT _ _ (by rfl) by1 (oy1) n cy (n-1) (by omega) (by rfl) (by rfl) (by omega) _) ?_;refine je (.int .u32 (t:Int)) (bN 141 _ (by rfl) by1 (oy1+(n-1)) (by rfl) _ _ (hct) (fun X u h=>cG by1 (oy1+(n-1)) X u h)) ?_;refine je (vI bt) (by rfl) ?_;refine je (.int .u32 ((t * 2 ^ bt:Nat):Int)) (eM _ _ _ _ (by rfl) .u32 .i64 (t:Int) ((t * 2 ^ bt:Nat):Int) bt (by rfl) (by rfl) rfl (by show bt≤32;omega) HS.out _) ?_;refine je (.bool true) (cU _ _ _ _ (by rfl) .u32 ((t * 2 ^ bt:Nat):Int) 2147483648 (by rfl) (by rfl) true (decide_eq_true (by omega)) _) ?_;refine aH ?_
   rintro _ rfl _
   go_wp2
   go_round
   case rel=>exact ⟨bt+1,by omega,by go_num,hnx2⟩
   case measure=>simp [intOf];omega
  ·go_upto_region 7 with fail
   refine aU ?_;simp only [iX,Nat.reduceAdd];refine je (.slice (some ⟨by1,oy1,none⟩) n cy) (by rfl) ?_;refine je (.slice (some ⟨by1,oy1,none⟩) n cy) (by rfl) ?_;refine je (vI n) (aJ Tryz.underlying133 _ (by rfl) (some ⟨by1,oy1,none⟩) n cy (by rfl) _ rfl _) ?_;refine je (vI ((n:Int)-1)) (cM _ _ _ _ (by rfl) (n:Int) 1 ((n:Int)-1) (by rfl) (by rfl) (by omega) (by omega) (by omega) _) ?_;refine je (vP by1 (oy1+(n-1))) (cS Tryz.underlying133 bT _ _ (by rfl) by1 (oy1) n cy (n-1) (by omega) (by rfl) (by rfl) (by omega) _) ?_;refine je (.int .u32 (t:Int)) (bN 141 _ (by rfl) by1 (oy1+(n-1)) (by rfl) _ _ (hct) (fun X u h=>cG by1 (oy1+(n-1)) X u h)) ?_;refine je (vI bt) (by rfl) ?_;refine je (.int .u32 ((t * 2 ^ bt:Nat):Int)) (eM _ _ _ _ (by rfl) .u32 .i64 (t:Int) ((t * 2 ^ bt:Nat):Int) bt (by rfl) (by rfl) rfl (by show bt≤32;omega) HS.out _) ?_;refine je (.bool false) (cU _ _ _ _ (by rfl) .u32 ((t * 2 ^ bt:Nat):Int) 2147483648 (by rfl) (by rfl) false (decide_eq_false (by omega)) _) ?_;refine aH ?_
   rintro _ rfl _
   have hno:=HNORM.out bt t h2 hbt HT.out (by omega) hbt2;obtain ⟨V,hVe⟩:∃ V,V=y0 * 2 ^ bt:=⟨_,rfl⟩;obtain ⟨XX,hXe⟩:∃ XX,XX=x0 * 2 ^ bt:=⟨_,rfl⟩;rw [← hVe] at hno;have HNO:=Lib.hid hno;have HVE:=Lib.hid hVe;have HXE:=Lib.hid hXe
   have hXl:(ld XX).length≤n0+1:=by
    rw [HXE.out,HN0.out];exact zU x0 hbt
   have HXL:=Lib.hid hXl;clear hno hVe hXe hXl hct HNORM hlt hbt2 HS;go_upto_region 9 with fail;refine bC [none,none,some (Lm (y0 * 2 ^ bt))] (aA (aA (aD (Dg.lasts _) (aF)))) ?_;simp only [iX,Nat.reduceAdd];refine jg (.slice (some ⟨by1,oy1,none⟩) n cy) (fun X _ _=>by rfl) ?_;refine jg (vI bt) (fun X _ _=>by rfl) ?_;refine jk (fun X hX hF=>(rU _ y0 bt X (hLy.bel hX) (by rw [← HN.out];omega) (by omega))) ?_;intro v53;refine jg (v53) (fun X _ _=>by rfl) ?_;refine aH ?_;intro W9 hS9 hF;have h53:=hF _ _ List.mem_cons_self;rw [← HVE.out] at h53;clear hF;obtain ⟨A9,c9,rfl,hr9⟩:=h53;rw [HNO.out.1] at hr9 ⊢;obtain ⟨b9,o9,rfl,hb9,hcv⟩:=hr9.digit (k:=n-1) (by omega);obtain ⟨b9',o9',e9,_,hc2⟩:=hr9.digit (k:=n-2) (by omega)
   have e9b:b9'=b9∧o9'=o9:=by
    injection e9 with e9
    injection e9 with e9 e9' _
    exact ⟨e9.symm,e9'.symm⟩
   rw [e9b.1,e9b.2] at hc2;clear e9 e9b
   have HV9:Hid (∀ X,Below W9.heap.size W9 X→Lm V (.slice (some ⟨b9,o9,none⟩) n c9) X):=fun X hX=>(show Lm V (.slice (some ⟨b9,o9,none⟩) n c9) W9 from ⟨_,c9,by rw [HNO.out.1],by rw [HNO.out.1];exact hr9⟩).bel hX
   have HVT:Hid (∃ vt v2 vr,V=(vt * 4294967296+v2) * 4294967296 ^ (n-2)+vr∧vr<4294967296 ^ (n-2)∧vt=((ld V).getD (n-1) 0).toNat∧v2=((ld V).getD (n-2) 0).toNat):=⟨_,_,lw ((ld V).take (n-2)),by
    have:=top2 HNO.out.1 h2;rw [dT] at this
    exact this,fQ _ _,rfl,rfl⟩
   obtain ⟨vt,v2,vr,hVd,hvr,hvt,hv2⟩:=HVT.out;rw [← hvt] at hcv;rw [← hv2] at hc2;have bvt:vt<4294967296:=hvt ▸ dI _;have bv2:v2<4294967296:=hv2 ▸ dI _
   have hvt0:2147483648≤vt:=by
    exact vt_ge h2 HNO.out.2.1 hVd hvr bv2
   have HVD:=Lib.hid hVd;have HVR:=Lib.hid hvr;clear hVd hvr hvt hv2 HVT hr9;have hb9W:=hb9;have b9w:Below w.heap.size w W9:=aG b1 hS9;go_upto_region 10 with fail;refine aV 3 [none,none,some (Lm (x0 * 2 ^ bt))] (aA (aA (aD (Dg.lasts _) (aF)))) ?_;simp only [its,List.take,List.drop,Nat.zero_add,Nat.reduceAdd];refine jg (.slice A n0 c0) (fun X _ _=>by rfl) ?_;refine jg (vI bt) (fun X _ _=>by rfl) ?_;refine jk (fun X hX hF=>(rU _ x0 bt X (hLx.bel (aG hS9 hX)) (by rw [← HN0.out];omega) (by omega))) ?_;intro v56;refine aH ?_;intro W10 hS10 hF;have h56:=hF _ _ List.mem_cons_self;rw [← HXE.out] at h56;clear hF;obtain ⟨A10,c10,rfl,hr10⟩:=h56;have HRX:=Lib.hid hr10;clear hr10;have b10:Below W9.heap.size W9 W10:=hS10;clear hS10;obtain ⟨L0,hL0⟩:∃ L0,L0=(ld XX).length:=⟨_,rfl⟩;rw [← hL0] at HRX ⊢
   have hL0b:L0≤n0+1:=by rw [hL0];exact HXL.out
   have HL0:=Lib.hid hL0;clear hL0
   go_wp2_with fail
   refine (yW A10 L0 c10 (ld XX) _ HRX.out (by omega)).mono ?_
   rintro e w6 ⟨A6,c6,rfl,hown6,hb6⟩
   have HO6:=Lib.hid hown6;have b6:=b10.trans (hb6.mono b10.size);clear hown6;go_upto_region 11 with (at_builtin;refine kR rfl rfl Tryz.underlying133 gR rfl (W10.heap.size) _ (L0) _ [W32 0,W32 0] rfl rfl HO6.out (m:=2) rfl rfl (fun u hu=>nJ [0,0] u hu) (by omega) (by omega) hb6.size ?_;intro A8 cR w8 hown8 hc8 hc8' hb8);rw [show (ld XX).map W32++[W32 0,W32 0]=(ld XX++[0,0]).map W32 by rw [List.map_append];rfl] at hown8;obtain ⟨gr,tl,rfl,hgr10,_,_,htl,hB8⟩:=Blk.of_own hown8 (by omega);have b8:Below W9.heap.size W9 w8:=b6.trans (hb8.mono b10.size);have hgr:W9.heap.size≤gr:=Nat.le_trans b10.size hgr10
   have hL0n:n0≤L0:=by
    rw [HL0.out,HXE.out,HN0.out];exact gZ (Nat.le_mul_of_pos_right _ (Nat.pow_pos (by omega)))
   obtain ⟨L,hL⟩:∃ L,L=L0+2:=⟨_,rfl⟩;rw [← hL] at hc8 ⊢
   have hR0:(ld XX++[0,0]).length=L:=by rw [List.length_append,← HL0.out,hL];rfl
   have hlw0:lw (ld XX++[0,0])=XX:=by rw [eI,dT];simp [fH,fR]
   have hlt0:XX<V * 4294967296 ^ (L-n):=vO h2 HNO.out.2.1 (by rw [hL,HL0.out]) (by omega)
   have htop0:lw ((ld XX++[0,0]).drop (L-2))=0:=by
    rw [hL,Nat.add_sub_cancel,HL0.out,List.drop_left]
    rfl
   have HR0:=Lib.hid hR0;have HLW0:=Lib.hid hlw0;have HLT0:=Lib.hid hlt0;have HTOP0:=Lib.hid htop0;have hVb:V<4294967296 ^ n:=HNO.out.2.2;have HVB:=Lib.hid hVb
   have hL2:L≤n0+3:=by omega
   have hL3:n+2≤L:=by omega
   have HTL:=Lib.hid htl;clear hown8 HO6 HRX b6 hb8 hb6 b10 hR0 hlw0 hlt0 htop0 hVb hL hgr10 htl;refine aU ?_;simp only [iX,Nat.reduceAdd];refine je (.slice (some ⟨b9,o9,none⟩) n c9) (by rfl) ?_;refine je (vI n) (aJ Tryz.underlying133 _ (by rfl) (some ⟨b9,o9,none⟩) n c9 (by rfl) _ rfl _) ?_;refine je (vI n) (by rfl) ?_;refine aH ?_
   rintro _ rfl _
   obtain ⟨N,hN⟩:∃ N,N=n0-n+2:=⟨_,rfl⟩
   have hN1:N≤n0-n+2:=by omega
   have hN2:n0-n+2≤N:=by omega
   clear hN;go_upto_region 12 with fail;refine bC [none,none,none,none,none,some (MadeB N w8.heap.size)] (aA (aA (aA (aA (aA (aD (MadeB.lasts _ _) (aF))))))) ?_;simp only [iX,Nat.reduceAdd];refine jg (.slice A n0 c0) (fun X _ _=>by rfl) ?_;refine jv (vI n0) (aJ Tryz.underlying133 _ (by rfl) A n0 c0 (by rfl) _ rfl) ?_;refine jg (vI n) (fun X _ _=>by rfl) ?_;refine jv (vI ((n0:Int)-(n:Int))) (cM _ _ _ _ (by rfl) (n0:Int) (n:Int) ((n0:Int)-(n:Int)) (by rfl) (by rfl) (by omega) (by omega) (by omega)) ?_;refine jv (vI N) (bB _ _ _ _ (by rfl) ((n0:Int)-(n:Int)) 2 (N:Int) (by rfl) (by rfl) (by omega) (by omega) (by omega)) ?_;refine aW (by rfl) (fun X hX hF=>lG _ _ (by rfl) N w8.heap.size (by rfl) (by rfl) rfl (by omega) X hX.size) ?_;intro v67;simp only [pX];refine jg (v67) (fun X _ _=>by rfl) ?_;refine aH ?_;intro W12 hS12 hF;obtain ⟨gq,rfl,hgq,hBq⟩:=hF _ _ List.mem_cons_self;clear hF;have hBr:=hB8.bel hS12
   have hgrq:gr<gq:=by have:=hB8.lt;omega
   have b12:Below W9.heap.size W9 W12:=aG b8 hS12;clear hS12 hgq b8 hB8;obtain ⟨J0,hJ0⟩:∃ J0,J0=L-n:=⟨_,rfl⟩
   have hJ1:J0≤L-n:=by omega
   have hJ2:L-n≤J0:=by omega
   rw [← hJ0] at HLT0;clear hJ0;go_upto_region 13 with fail
   apply wp_label
   go_upto_region 13 with fail;refine aU ?_;simp only [iX,Nat.reduceAdd];refine je (.slice (some ⟨gr,0,none⟩) L cR) (by rfl) ?_;refine je (vI L) (aJ Tryz.underlying133 _ (by rfl) (some ⟨gr,0,none⟩) L cR (by rfl) _ rfl _) ?_;refine je (vI n) (by rfl) ?_;refine je (vI ((L:Int)-(n:Int))) (cM _ _ _ _ (by rfl) (L:Int) (n:Int) ((L:Int)-(n:Int)) (by rfl) (by rfl) (by omega) (by omega) (by omega) _) ?_;refine je (vI ((J0:Int)-1)) (cM _ _ _ _ (by rfl) ((L:Int)-(n:Int)) 1 ((J0:Int)-1) (by rfl) (by rfl) (by omega) (by omega) (by omega) _) ?_;refine je (vI ((J0:Int)-1)) (by rfl) ?_;refine aH ?_
   rintro _ rfl _
   go_wp2
   go_loopw [13] (fun jv wr=>∃ (J:Nat) (R Q:List UInt32),J≤L-n∧jv=vI ((J:Int)-1)∧R.length=L∧Q.length=N∧Blk wr gr 141 (R.map W32++tl)∧Blk wr gq 141 (Q.map W32)∧V * 4294967296 ^ J * lw (Q.drop J)+lw R=XX∧lw R<V * 4294967296 ^ J∧(∀ i,i<J→Q.getD i 0=0)∧(J=L-n→lw (R.drop (L-2))=0)∧Below W9.heap.size W9 wr) (fun jv _=>(intOf jv+1).toNat)
   case atStart=>exact ⟨J0,ld XX++[0,0],List.replicate N 0,hJ1,rfl,HR0.out,List.length_replicate,hBr,hBq,by rw [tB,HLW0.out];omega,by rw [HLW0.out];exact HLT0.out,fun i _=>vU N i,fun _=>HTOP0.out,b12⟩
   case round =>
    clear hBr hBq HR0 HLW0 HLT0 HTOP0 b12 hJ1 hJ2;obtain ⟨J,R,Q,hJ,rfl,hR,hQ,hBr,hBq,hX,hlt,hz,htop,hb⟩:=hrel;have HR:=Lib.hid hR;have HQ:=Lib.hid hQ;have HXX:=Lib.hid hX;have HLT:=Lib.hid hlt;have HZ:=Lib.hid hz;have HTOP:=Lib.hid htop;clear hR hQ hX hlt hz htop
    rcases Nat.eq_zero_or_pos J with hJ0|hJ0
    ·subst hJ0
     rw [show (((0:Nat):Int)-1)=-1 by rfl];go_upto_region 14 with fail;refine aU ?_;simp only [iX,Nat.reduceAdd];refine je (vI (-1)) (by rfl) ?_;refine je (.bool false) (kL _ _ _ _ (by rfl) .i64 (-1) 0 (by rfl) (by rfl) false (decide_eq_false (by omega)) _) ?_;refine aH ?_
     rintro _ rfl _
     have HDQ:Hid (∀ X,Since wr X→Dg Q (.slice (some ⟨gq,0,none⟩) N N) X):=fun X hX=>⟨_,N,by rw [HQ.out],by rw [HQ.out];exact (hBq.bel hX).rd HQ.out (by unfold maxLen;omega)⟩
     have HDR:Hid (∀ X,Since wr X→Dg R (.slice (some ⟨gr,0,none⟩) L cR) X):=fun X hX=>⟨_,cR,by rw [HR.out],by
      have h5:=(hBr.bel hX).mid (j:=0) (k:=L) (c:=cR) (by rw [HR.out];omega) hc8 hc8';rw [List.drop_zero,List.take_of_length_le (by rw [HR.out];omega)] at h5;rw [HR.out]
      exact h5⟩
     have hend:=qQd (q:=lw Q) (r:=lw R) HVE.out HXE.out (by have h5:=HXX.out;rw [Nat.pow_zero,Nat.mul_one,List.drop_zero] at h5;exact h5) (by have h5:=HLT.out;rw [Nat.pow_zero,Nat.mul_one] at h5;exact h5) hy0;have HEND:=Lib.hid hend
     have hQb:Q.length≤33554432:=by rw [HQ.out];omega
     have hRb:R.length≤33554432:=by rw [HR.out];omega
     have hRl:(ld (lw R)).length≤16777216:=by
      refine Nat.le_trans (gH (k:=L) ?_) (by omega);have h5:=fF R
      rwa [HR.out] at h5
     clear hend;go_upto_region 32 with fail;refine bC [none,some (Lm (lw Q)),none,some (Lm (lw R)),none,none,some (Lm (lw R / 2 ^ bt))] (aA (aD (Dg.lasts _) (aA (aD (Dg.lasts _) (aA (aA (aD (Dg.lasts _) (aF)))))))) ?_;simp only [iX,Nat.reduceAdd];refine jg (.slice (some ⟨gq,0,none⟩) N N) (fun X _ _=>by rfl) ?_;refine jk (fun X hX hF=>jG Q _ X (HDQ.out X hX) (by omega)) ?_;intro v187;refine jg (.slice (some ⟨gr,0,none⟩) L cR) (fun X _ _=>by rfl) ?_;refine jk (fun X hX hF=>jG R _ X (HDR.out X hX) (by omega)) ?_;intro v189;refine jg (vI bt) (fun X _ _=>by rfl) ?_;refine jv (vI (-(bt:Int))) (kI _ _ (by rfl) (bt:Int) (-(bt:Int)) (by rfl) (by omega) (by omega) (by omega)) ?_;refine jk (fun X hX hF=>qXu v189 (lw R) bt X (hF _ _ List.mem_cons_self rfl) (by omega) (by omega)) ?_;intro v192;refine jg (v187) (fun X _ _=>by rfl) ?_;refine jg (v192) (fun X _ _=>by rfl) ?_;refine aH ?_;intro X32 hX32 hF;have h1:=hF _ _ List.mem_cons_self;have h2:=hF _ _ (List.mem_cons_of_mem _ (List.mem_cons_of_mem _ List.mem_cons_self));have hb:=aG hb hX32;rw [HEND.out.1] at h2;rw [HEND.out.2] at h1;clear hF
     go_wp2
     rw [Exit.noGoto_ret]
     go_ret2
     exact ⟨_,_,rfl,h2,h1,b9w.trans (hb.mono b9w.size)⟩
    ·obtain ⟨j,rfl⟩:∃ j,J=j+1:=⟨J-1,by omega⟩
     rw [show (((j+1:Nat):Int)-1)=(j:Int) by omega];go_upto_region 14 with fail;refine aU ?_;simp only [iX,Nat.reduceAdd];refine je (vI j) (by rfl) ?_;refine je (.bool true) (kL _ _ _ _ (by rfl) .i64 (j:Int) 0 (by rfl) (by rfl) true (decide_eq_true (by omega)) _) ?_;refine aH ?_
     rintro _ rfl _
     have hjL:j+n+1≤L:=by omega
     obtain ⟨P,hP⟩:∃ P,P=lw (R.drop j):=⟨_,rfl⟩;have hPV:lw (R.drop j)<V * 4294967296:=zA (by rw [HR.out];omega) HLT.out;have hzero:lw (R.drop (j+(n+1)))=0:=tK (by rw [HR.out];omega) (Nat.le_of_lt HVB.out) hPV;have ht3:=top3 (S:=R.drop j) (n:=n) (V:=V) (by rw [List.length_drop,HR.out];omega) h2 (Nat.le_of_lt HVB.out) hPV;rw [lD,lD,lD,show j+(n-1)=j+n-1 by omega,show j+(n-2)=j+n-2 by omega] at ht3;have hcp:wr.cell? ⟨gr,j+n,none⟩=_:=hBr.digit2 (by rw [HR.out];omega);have hcq:wr.cell? ⟨gr,j+n-1,none⟩=_:=hBr.digit2 (by rw [HR.out];omega);have hcr:wr.cell? ⟨gr,j+n-2,none⟩=_:=hBr.digit2 (by rw [HR.out];omega)
     have hz0:j+1=L-n→(R.getD (j+n) 0).toNat=0∧(R.getD (j+n-1) 0).toNat=0:=fun h=>by
      have h5:=HTOP.out h;rw [show L-2=j+n-1 by omega,eJ (by rw [HR.out];omega),show j+n-1+1=j+n by omega,eJ (by rw [HR.out];omega)] at h5
      omega
     have bp:=dI (R.getD (j+n) 0);have bq:=dI (R.getD (j+n-1) 0);have br2:=dI (R.getD (j+n-2) 0);generalize (R.getD (j+n) 0).toNat=p at ht3 hcp hz0 bp;generalize (R.getD (j+n-1) 0).toNat=q at ht3 hcq hz0 bq;generalize (R.getD (j+n-2) 0).toNat=r2 at ht3 hcr br2;rw [← hP] at ht3 hPV;have HP:=Lib.hid hP;have HSP:Hid (lw ((R.drop j).take (n+1))=P):=ht3.2;have hPd:=ht3.1;have hpr:lw ((R.drop j).take (n-2))<4294967296 ^ (n-2):=fQ _ _;generalize lw ((R.drop j).take (n-2))=pr at hPd hpr;obtain ⟨top,hte⟩:∃ top,p * 4294967296+q=top:=⟨_,rfl⟩;rw [hte] at hPd
     have btop:top<18446744073709551616:=by omega
     have HTE:Hid (p * 2 ^ 32+q=top):=hte;have HPD:=Lib.hid hPd
     have HTZ:Hid (j+1=L-n→top=0):=fun h=>by
      have:=hz0 h
      omega
     have HPR:=Lib.hid hpr;have HPV:=Lib.hid hPV;have HZERO:=Lib.hid hzero;clear hP hPd hpr hPV hzero hz0 ht3 hte;have hgl:=hBr.lt;go_upto_region 16 with fail;refine jd ?_;refine jg (.slice (some ⟨gr,0,none⟩) L cR) (fun X _ _=>by rfl) ?_;refine jg (vI j) (fun X _ _=>by rfl) ?_;refine jg (vI n) (fun X _ _=>by rfl) ?_;refine jv (vI ((j:Int)+(n:Int))) (bB _ _ _ _ (by rfl) (j:Int) (n:Int) ((j:Int)+(n:Int)) (by rfl) (by rfl) (by omega) (by omega) (by omega)) ?_;refine jv (vP gr (j+n)) (eN Tryz.underlying133 bT _ _ (by rfl) gr L cR (j+n) (by omega) (by rfl) (by rfl) (by omega)) ?_;refine jg (.int .u32 (p:Int)) (fun X hX hF=>bN 141 _ (by rfl) gr ((j+n)) (by rfl) _ X ((Below.cell hX (p:=⟨gr,j+n,none⟩) hgl).trans hcp) (fun X u h=>cG gr ((j+n)) X u h)) ?_;refine jv (.int .u64 (p:Int)) (bQ _ _ .u32 .u64 Tryz.underlying141 Tryz.underlying148 _ (by rfl) (p:Int) (p:Int) (by rfl) (by rw [w64 (by omega) (by omega)])) ?_;refine jv (.int .u64 ((p * 2 ^ 32:Nat):Int)) (eM _ _ _ _ (by rfl) .u64 .u64 (p:Int) ((p * 2 ^ 32:Nat):Int) 32 (by rfl) (by rfl) rfl (by decide) (by rw [w64 (by omega) (by omega)];omega)) ?_;refine jg (.slice (some ⟨gr,0,none⟩) L cR) (fun X _ _=>by rfl) ?_;refine jg (vI j) (fun X _ _=>by rfl) ?_;refine jg (vI n) (fun X _ _=>by rfl) ?_;refine jv (vI ((j:Int)+(n:Int))) (bB _ _ _ _ (by rfl) (j:Int) (n:Int) ((j:Int)+(n:Int)) (by rfl) (by rfl) (by omega) (by omega) (by omega)) ?_
     refine jv (vI ((j:Int)+(n:Int)-1)) (cM _ _ _ _ (by rfl) ((j:Int)+(n:Int)) 1 ((j:Int)+(n:Int)-1) (by rfl) (by rfl) (by omega) (by omega) (by omega)) ?_;refine jv (vP gr (j+n-1)) (eN Tryz.underlying133 bT _ _ (by rfl) gr L cR (j+n-1) (by omega) (by rfl) (by rfl) (by omega)) ?_;refine jg (.int .u32 (q:Int)) (fun X hX hF=>bN 141 _ (by rfl) gr ((j+n-1)) (by rfl) _ X ((Below.cell hX (p:=⟨gr,j+n-1,none⟩) hgl).trans hcq) (fun X u h=>cG gr ((j+n-1)) X u h)) ?_;refine jv (.int .u64 (q:Int)) (bQ _ _ .u32 .u64 Tryz.underlying141 Tryz.underlying148 _ (by rfl) (q:Int) (q:Int) (by rfl) (by rw [w64 (by omega) (by omega)])) ?_;refine jv (.int .u64 (top:Int)) (kH _ _ _ _ (by rfl) .u64 ((p * 2 ^ 32:Nat):Int) (q:Int) (top:Int) (by rfl) (by rfl) ((zL p q 32 (by omega) (by omega)).trans (congrArg (fun z:Nat=>(z:Int)) HTE.out))) ?_;refine jg (.int .u64 (top:Int)) (fun X _ _=>by rfl) ?_;refine aH ?_;intro X16 hX16 _;have hBr:=hBr.bel hX16;have hBq:=hBq.bel hX16;have hcr:=(Below.cell hX16 (p:=⟨gr,j+n-2,none⟩) hgl).trans hcr;have hb:=aG hb hX16;have hcv':=(Below.cell hb (p:=⟨b9,o9+(n-1),none⟩) hb9).trans hcv;have hc2':=(Below.cell hb (p:=⟨b9,o9+(n-2),none⟩) hb9).trans hc2;clear hcp hcq hX16 hgl;clear HTE bp bq;obtain ⟨qv,hqv⟩:∃ qv,qv=P / V:=⟨_,rfl⟩;obtain ⟨q0,hq0⟩:∃ q0,q0=top / vt:=⟨_,rfl⟩
     have hq0b:q0≤top:=by rw [hq0];exact Nat.div_le_self _ _
     obtain ⟨g0,hg0⟩:∃ g0,g0=min q0 4294967295:=⟨_,rfl⟩
     have hguess:qv≤g0:=by
      rw [hg0,hq0,hqv];exact qYw HVD.out HPD.out br2 HPR.out HPV.out (by omega)
     have hg0q:g0≤q0:=by omega
     have hg0b:g0≤4294967295:=by omega
     obtain ⟨p1,hp1⟩:∃ p1,p1=g0 * vt:=⟨_,rfl⟩
     have hp1t:p1≤top:=by
      rw [hp1];exact Nat.le_trans (Nat.mul_le_mul_right _ hg0q) (by rw [hq0];exact Nat.div_mul_le_self _ _)
     obtain ⟨left0,hl0⟩:∃ left0,left0=top-p1:=⟨_,rfl⟩
     have hl0b:left0≤top:=by omega
     have HL0e:Hid (left0+g0 * vt=top):=by
      show _=_
      rw [← hp1]
      omega
     have HQ0:Hid ((top:Int) / (vt:Int)=(q0:Int)):=by
      show _=_
      rw [hq0];exact (Int.natCast_ediv _ _).symm
     have HG0:Hid (min (q0:Int) 4294967295=(g0:Int)):=by
      show _=_
      omega
     have HP1:Hid ((g0:Int) * (vt:Int)=(p1:Int)):=by
      show _=_
      rw [hp1];exact (Int.natCast_mul _ _).symm
     have HLT0:Hid ((top:Int)-(p1:Int)=(left0:Int)):=by
      show _=_
      omega
     have hV0:0<V:=Nat.pos_of_ne_zero (fun h=>by
      have:=HPV.out;rw [h] at this
      omega)
     have HVG:Hid (∀ g,g≤4294967295→(ld (V * g)).length≤n+1):=fun g hg=>gH (by
      rw [Nat.pow_succ]
      exact Nat.lt_of_le_of_lt (Nat.mul_le_mul_left V hg) (Nat.mul_lt_mul_of_lt_of_le HVB.out (by omega) (by omega)))
     have HPL:Hid ((ld P).length≤n+1):=gH (by
      rw [Nat.pow_succ]
      exact Nat.lt_trans HPV.out (Nat.mul_lt_mul_of_lt_of_le HVB.out (by omega) (by omega)))
     have hVl:(ld V).length≤n:=by rw [HNO.out.1];omega
     have HQV:=Lib.hid hqv;clear hqv hq0 hg0 hp1 hl0;go_upto_region 17 with fail;refine aU ?_;simp only [iX,Nat.reduceAdd];refine je (.int .u64 (top:Int)) (by rfl) ?_;refine je (.slice (some ⟨b9,o9,none⟩) n c9) (by rfl) ?_;refine je (vI n) (by rfl) ?_;refine je (vI ((n:Int)-1)) (cM _ _ _ _ (by rfl) (n:Int) 1 ((n:Int)-1) (by rfl) (by rfl) (by omega) (by omega) (by omega) _) ?_;refine je (vP b9 (o9+(n-1))) (cS Tryz.underlying133 bT _ _ (by rfl) b9 (o9) n c9 (n-1) (by omega) (by rfl) (by rfl) (by omega) _) ?_;refine je (.int .u32 (vt:Int)) (bN 141 _ (by rfl) b9 (o9+(n-1)) (by rfl) _ _ (hcv') (fun X u h=>cG b9 (o9+(n-1)) X u h)) ?_;refine je (.int .u64 (vt:Int)) (bQ _ _ .u32 .u64 Tryz.underlying141 Tryz.underlying148 _ (by rfl) (vt:Int) (vt:Int) (by rfl) (by rw [w64 (by omega) (by omega)]) _) ?_;refine je (.int .u64 (q0:Int)) (rH _ _ _ _ (by rfl) .u64 (top:Int) (vt:Int) (q0:Int) (by rfl) (by rfl) (by omega) (by omega) HQ0.out (w64 (by omega) (by omega)) _) ?_;refine je (.int .u64 (g0:Int)) (yJ _ _ (by rfl) .u64 (q0:Int) 4294967295 (g0:Int) (by rfl) (by rfl) HG0.out _) ?_;refine je (.int .u64 (g0:Int)) (by rfl) ?_;refine je (.int .u64 0) (by rfl) ?_;refine aH ?_
     rintro _ rfl _
     clear HQ0 HG0;go_upto_region 18 with fail;refine aU ?_;simp only [iX,Nat.reduceAdd];refine je (.int .u64 (top:Int)) (by rfl) ?_;refine je (.int .u64 (g0:Int)) (by rfl) ?_;refine je (.slice (some ⟨b9,o9,none⟩) n c9) (by rfl) ?_;refine je (vI n) (by rfl) ?_;refine je (vI ((n:Int)-1)) (cM _ _ _ _ (by rfl) (n:Int) 1 ((n:Int)-1) (by rfl) (by rfl) (by omega) (by omega) (by omega) _) ?_;refine je (vP b9 (o9+(n-1))) (cS Tryz.underlying133 bT _ _ (by rfl) b9 (o9) n c9 (n-1) (by omega) (by rfl) (by rfl) (by omega) _) ?_;refine je (.int .u32 (vt:Int)) (bN 141 _ (by rfl) b9 (o9+(n-1)) (by rfl) _ _ (hcv') (fun X u h=>cG b9 (o9+(n-1)) X u h)) ?_;refine je (.int .u64 (vt:Int)) (bQ _ _ .u32 .u64 Tryz.underlying141 Tryz.underlying148 _ (by rfl) (vt:Int) (vt:Int) (by rfl) (by rw [w64 (by omega) (by omega)]) _) ?_;refine je (.int .u64 (p1:Int)) (jE _ _ _ _ (by rfl) .u64 (g0:Int) (vt:Int) (p1:Int) (by rfl) (by rfl) (by rw [HP1.out];exact w64 (by omega) (by omega)) _) ?_;refine je (.int .u64 (left0:Int)) (fL _ _ _ _ (by rfl) .u64 (top:Int) (p1:Int) (left0:Int) (by rfl) (by rfl) (by rw [HLT0.out];exact w64 (by omega) (by omega)) _) ?_;refine je (.int .u64 (left0:Int)) (by rfl) ?_;refine aH ?_
     rintro _ rfl _
     have HCV:Hid (∀ X,Since X16 X→X.cell? ⟨b9,o9+(n-1),none⟩=some (.int .u32 (vt:Int))):=fun X hX=>(Below.cell hX (p:=⟨b9,o9+(n-1),none⟩) (Nat.lt_of_lt_of_le hb9 hb.size)).trans hcv'
     have HC2:Hid (∀ X,Since X16 X→X.cell? ⟨b9,o9+(n-2),none⟩=some (.int .u32 (v2:Int))):=fun X hX=>(Below.cell hX (p:=⟨b9,o9+(n-2),none⟩) (Nat.lt_of_lt_of_le hb9 hb.size)).trans hc2'
     have HCR:Hid (∀ X,Since X16 X→X.cell? ⟨gr,j+n-2,none⟩=some (.int .u32 (r2:Int))):=fun X hX=>(Below.cell hX (p:=⟨gr,j+n-2,none⟩) hBr.lt).trans hcr
     clear hcv' hc2' hcr HP1 hp1t hq0b hg0q HLT0
     go_wp2
     go_loopw [15,16] (fun gv lv wq=>∃ g left:Nat,gv=.int .u64 (g:Int)∧lv=.int .u64 (left:Int)∧left+g * vt=top∧qv≤g∧g≤4294967295∧Since X16 wq) (fun gv _ _=>(intOf gv).toNat)
     case atStart=>exact ⟨g0,left0,rfl,rfl,HL0e.out,hguess,hg0b,Below.refl _ _⟩
     case round =>
      clear HL0e hguess hg0b hl0b;obtain ⟨g,left,rfl,rfl,hsum,hgq,hgb,hs⟩:=hrel
      have hlt2:left≤top:=by rw [← hsum];exact Nat.le_add_right _ _
      have HSUM:=Lib.hid hsum;clear hsum;obtain ⟨p2,hp2⟩:∃ p2,p2=g * v2:=⟨_,rfl⟩
      have hp2b:p2≤4294967295 * 4294967295:=by rw [hp2];exact Nat.mul_le_mul hgb (by omega)
      have HP2:Hid ((g:Int) * (v2:Int)=(p2:Int)):=by
       show _=_
       rw [hp2];exact (Int.natCast_mul _ _).symm
      by_cases hA:left<4294967296∧left * 4294967296+r2<p2
      ·obtain ⟨hA1,hA2⟩:=hA
       have hg1:0<g:=by
        rcases Nat.eq_zero_or_pos g with h|h
        ·rw [h,Nat.zero_mul] at hp2
         omega
        ·exact h
       have hdec:qv≤g-1:=by
        rw [HQV.out];exact vK HVD.out HPD.out HPR.out (HQV.out ▸ hgq) HSUM.out (by rw [← hp2];exact hA2)
       have HSUM2:Hid (left+vt+(g-1) * vt=top):=by
        show _=_
        rw [← HSUM.out,Nat.add_assoc]
        congr 1
        obtain ⟨k,rfl⟩:∃ k,g=k+1:=⟨g-1,by omega⟩;rw [Nat.add_sub_cancel,Nat.add_mul,Nat.one_mul,Nat.add_comm]
       clear hp2;go_upto_region 19 with fail;refine jd ?_;refine jg (.int .u64 (left:Int)) (fun X _ _=>by rfl) ?_;refine jv (.bool true) (cU _ _ _ _ (by rfl) .u64 (left:Int) 4294967296 (by rfl) (by rfl) true (decide_eq_true (by omega))) ?_;refine jg (.bool true) (fun X _ _=>by rfl) ?_;refine jg (.int .u64 (g:Int)) (fun X _ _=>by rfl) ?_;refine jg (.slice (some ⟨b9,o9,none⟩) n c9) (fun X _ _=>by rfl) ?_;refine jg (vI n) (fun X _ _=>by rfl) ?_;refine jv (vI ((n:Int)-2)) (cM _ _ _ _ (by rfl) (n:Int) 2 ((n:Int)-2) (by rfl) (by rfl) (by omega) (by omega) (by omega)) ?_;refine jv (vP b9 (o9+(n-2))) (cS Tryz.underlying133 bT _ _ (by rfl) b9 (o9) n c9 (n-2) (by omega) (by rfl) (by rfl) (by omega)) ?_;refine jg (.int .u32 (v2:Int)) (fun X hX hF=>bN 141 _ (by rfl) b9 (o9+(n-2)) (by rfl) _ X (HC2.out X (hs.next hX)) (fun X u h=>cG b9 (o9+(n-2)) X u h)) ?_;refine jv (.int .u64 (v2:Int)) (bQ _ _ .u32 .u64 Tryz.underlying141 Tryz.underlying148 _ (by rfl) (v2:Int) (v2:Int) (by rfl) (by rw [w64 (by omega) (by omega)])) ?_;refine jv (.int .u64 (p2:Int)) (jE _ _ _ _ (by rfl) .u64 (g:Int) (v2:Int) (p2:Int) (by rfl) (by rfl) (by rw [HP2.out];exact w64 (by omega) (by omega))) ?_;refine jg (.int .u64 (left:Int)) (fun X _ _=>by rfl) ?_;refine jv (.int .u64 ((left * 2 ^ 32:Nat):Int)) (eM _ _ _ _ (by rfl) .u64 .u64 (left:Int) ((left * 2 ^ 32:Nat):Int) 32 (by rfl) (by rfl) rfl (by decide) (by rw [w64 (by omega) (by omega)];omega)) ?_
       refine jg (.slice (some ⟨gr,0,none⟩) L cR) (fun X _ _=>by rfl) ?_;refine jg (vI j) (fun X _ _=>by rfl) ?_;refine jg (vI n) (fun X _ _=>by rfl) ?_;refine jv (vI ((j:Int)+(n:Int))) (bB _ _ _ _ (by rfl) (j:Int) (n:Int) ((j:Int)+(n:Int)) (by rfl) (by rfl) (by omega) (by omega) (by omega)) ?_;refine jv (vI ((j:Int)+(n:Int)-2)) (cM _ _ _ _ (by rfl) ((j:Int)+(n:Int)) 2 ((j:Int)+(n:Int)-2) (by rfl) (by rfl) (by omega) (by omega) (by omega)) ?_;refine jv (vP gr (j+n-2)) (eN Tryz.underlying133 bT _ _ (by rfl) gr L cR (j+n-2) (by omega) (by rfl) (by rfl) (by omega)) ?_;refine jg (.int .u32 (r2:Int)) (fun X hX hF=>bN 141 _ (by rfl) gr ((j+n-2)) (by rfl) _ X (HCR.out X (hs.next hX)) (fun X u h=>cG gr ((j+n-2)) X u h)) ?_;refine jv (.int .u64 (r2:Int)) (bQ _ _ .u32 .u64 Tryz.underlying141 Tryz.underlying148 _ (by rfl) (r2:Int) (r2:Int) (by rfl) (by rw [w64 (by omega) (by omega)])) ?_;refine jv (.int .u64 ((left * 2 ^ 32+r2:Nat):Int)) (kH _ _ _ _ (by rfl) .u64 ((left * 2 ^ 32:Nat):Int) (r2:Int) ((left * 2 ^ 32+r2:Nat):Int) (by rfl) (by rfl) (zL left r2 32 (by omega) (by omega))) ?_;refine jv (.bool true) (fX _ _ _ _ (by rfl) .u64 (p2:Int) ((left * 2 ^ 32+r2:Nat):Int) (by rfl) (by rfl) true (decide_eq_true (by omega))) ?_;refine jg (.bool true) (fun X _ _=>by rfl) ?_
       refine aH ?_;intro X19 hX19 _;have hs9:=hs.next hX19;clear hX19 HP2;go_upto_region 20 with fail;refine aU ?_;simp only [iX,Nat.reduceAdd];refine je (.int .u64 (g:Int)) (by rfl) ?_;refine je (.int .u64 ((g:Int)-1)) (fL _ _ _ _ (by rfl) .u64 (g:Int) 1 ((g:Int)-1) (by rfl) (by rfl) (w64 (by omega) (by omega)) _) ?_;refine je (.int .u64 ((g:Int)-1)) (by rfl) ?_;refine aH ?_
       rintro _ rfl _
       go_upto_region 21 with fail;refine aU ?_;simp only [iX,Nat.reduceAdd];refine je (.int .u64 (left:Int)) (by rfl) ?_;refine je (.slice (some ⟨b9,o9,none⟩) n c9) (by rfl) ?_;refine je (vI n) (by rfl) ?_;refine je (vI ((n:Int)-1)) (cM _ _ _ _ (by rfl) (n:Int) 1 ((n:Int)-1) (by rfl) (by rfl) (by omega) (by omega) (by omega) _) ?_;refine je (vP b9 (o9+(n-1))) (cS Tryz.underlying133 bT _ _ (by rfl) b9 (o9) n c9 (n-1) (by omega) (by rfl) (by rfl) (by omega) _) ?_;refine je (.int .u32 (vt:Int)) (bN 141 _ (by rfl) b9 (o9+(n-1)) (by rfl) _ _ (HCV.out _ hs9) (fun X u h=>cG b9 (o9+(n-1)) X u h)) ?_;refine je (.int .u64 (vt:Int)) (bQ _ _ .u32 .u64 Tryz.underlying141 Tryz.underlying148 _ (by rfl) (vt:Int) (vt:Int) (by rfl) (by rw [w64 (by omega) (by omega)]) _) ?_;refine je (.int .u64 ((left:Int)+(vt:Int))) (gU _ _ _ _ (by rfl) .u64 (left:Int) (vt:Int) ((left:Int)+(vt:Int)) (by rfl) (by rfl) (w64 (by omega) (by omega)) _) ?_;refine je (.int .u64 ((left:Int)+(vt:Int))) (by rfl) ?_;refine aH ?_
       rintro _ rfl _
       go_wp2
       go_roundw
       case rel=>exact ⟨g-1,left+vt,eX (by omega),eX (by omega),HSUM2.out,hdec,by omega,hs9⟩
       case measure=>simp [intOf];omega
      ·rcases Nat.lt_or_ge left 4294967296 with hA1|hA1
       ·have hA2:p2≤left * 4294967296+r2:=by
         rcases Nat.lt_or_ge (left * 4294967296+r2) p2 with h|h
         ·exact absurd ⟨hA1,h⟩ hA
         ·exact h
        clear hA hp2;go_upto_region 19 with fail;refine jd ?_;refine jg (.int .u64 (left:Int)) (fun X _ _=>by rfl) ?_;refine jv (.bool true) (cU _ _ _ _ (by rfl) .u64 (left:Int) 4294967296 (by rfl) (by rfl) true (decide_eq_true (by omega))) ?_;refine jg (.bool true) (fun X _ _=>by rfl) ?_;refine jg (.int .u64 (g:Int)) (fun X _ _=>by rfl) ?_;refine jg (.slice (some ⟨b9,o9,none⟩) n c9) (fun X _ _=>by rfl) ?_;refine jg (vI n) (fun X _ _=>by rfl) ?_;refine jv (vI ((n:Int)-2)) (cM _ _ _ _ (by rfl) (n:Int) 2 ((n:Int)-2) (by rfl) (by rfl) (by omega) (by omega) (by omega)) ?_;refine jv (vP b9 (o9+(n-2))) (cS Tryz.underlying133 bT _ _ (by rfl) b9 (o9) n c9 (n-2) (by omega) (by rfl) (by rfl) (by omega)) ?_;refine jg (.int .u32 (v2:Int)) (fun X hX hF=>bN 141 _ (by rfl) b9 (o9+(n-2)) (by rfl) _ X (HC2.out X (hs.next hX)) (fun X u h=>cG b9 (o9+(n-2)) X u h)) ?_;refine jv (.int .u64 (v2:Int)) (bQ _ _ .u32 .u64 Tryz.underlying141 Tryz.underlying148 _ (by rfl) (v2:Int) (v2:Int) (by rfl) (by rw [w64 (by omega) (by omega)])) ?_;refine jv (.int .u64 (p2:Int)) (jE _ _ _ _ (by rfl) .u64 (g:Int) (v2:Int) (p2:Int) (by rfl) (by rfl) (by rw [HP2.out];exact w64 (by omega) (by omega))) ?_;refine jg (.int .u64 (left:Int)) (fun X _ _=>by rfl) ?_;refine jv (.int .u64 ((left * 2 ^ 32:Nat):Int)) (eM _ _ _ _ (by rfl) .u64 .u64 (left:Int) ((left * 2 ^ 32:Nat):Int) 32 (by rfl) (by rfl) rfl (by decide) (by rw [w64 (by omega) (by omega)];omega)) ?_
        refine jg (.slice (some ⟨gr,0,none⟩) L cR) (fun X _ _=>by rfl) ?_;refine jg (vI j) (fun X _ _=>by rfl) ?_;refine jg (vI n) (fun X _ _=>by rfl) ?_;refine jv (vI ((j:Int)+(n:Int))) (bB _ _ _ _ (by rfl) (j:Int) (n:Int) ((j:Int)+(n:Int)) (by rfl) (by rfl) (by omega) (by omega) (by omega)) ?_;refine jv (vI ((j:Int)+(n:Int)-2)) (cM _ _ _ _ (by rfl) ((j:Int)+(n:Int)) 2 ((j:Int)+(n:Int)-2) (by rfl) (by rfl) (by omega) (by omega) (by omega)) ?_;refine jv (vP gr (j+n-2)) (eN Tryz.underlying133 bT _ _ (by rfl) gr L cR (j+n-2) (by omega) (by rfl) (by rfl) (by omega)) ?_;refine jg (.int .u32 (r2:Int)) (fun X hX hF=>bN 141 _ (by rfl) gr ((j+n-2)) (by rfl) _ X (HCR.out X (hs.next hX)) (fun X u h=>cG gr ((j+n-2)) X u h)) ?_;refine jv (.int .u64 (r2:Int)) (bQ _ _ .u32 .u64 Tryz.underlying141 Tryz.underlying148 _ (by rfl) (r2:Int) (r2:Int) (by rfl) (by rw [w64 (by omega) (by omega)])) ?_;refine jv (.int .u64 ((left * 2 ^ 32+r2:Nat):Int)) (kH _ _ _ _ (by rfl) .u64 ((left * 2 ^ 32:Nat):Int) (r2:Int) ((left * 2 ^ 32+r2:Nat):Int) (by rfl) (by rfl) (zL left r2 32 (by omega) (by omega))) ?_;refine jv (.bool false) (fX _ _ _ _ (by rfl) .u64 (p2:Int) ((left * 2 ^ 32+r2:Nat):Int) (by rfl) (by rfl) false (decide_eq_false (by omega))) ?_;refine jg (.bool false) (fun X _ _=>by rfl) ?_
        refine aH ?_;intro X19 hX19 _;have hs9:=hs.next hX19;have hBr:=hBr.bel hs9;have hBq:=hBq.bel hs9;have hb:=aG hb hs9;clear hX19 hs hs9 HCV HC2 HCR
        try clear HP2
        rcases Nat.eq_zero_or_pos g with hg0|hg0
        ·have hPlt:lw (R.drop j)<V:=by
          rw [← HP.out]
          have h5:P / V<1:=by rw [← HQV.out];omega
          have h6:=(Nat.div_lt_iff_lt_mul hV0).1 h5
          omega
         have HDZ:=Lib.hid (nF (by rw [HR.out];omega) HXX.out hPlt (HZ.out j (by omega)));clear hPlt;go_upto_region 22 with fail;refine aU ?_;simp only [iX,Nat.reduceAdd];refine je (.int .u64 (g:Int)) (by rfl) ?_;refine je (.bool true) (eO _ _ _ _ (by rfl) .u64 (g:Int) 0 (by rfl) (by rfl) true (decide_eq_true (by omega)) _) ?_;refine aH ?_
         rintro _ rfl _
         go_upto_region 15 with fail;refine aU ?_;simp only [iX,Nat.reduceAdd];refine je (vI j) (by rfl) ?_;refine je (vI ((j:Int)-1)) (cM _ _ _ _ (by rfl) (j:Int) 1 ((j:Int)-1) (by rfl) (by rfl) (by omega) (by omega) (by omega) _) ?_;refine je (vI ((j:Int)-1)) (by rfl) ?_;refine aH ?_
         rintro _ rfl _
         go_wp2
         go_roundw
         case rel=>exact ⟨j,R,Q,by omega,rfl,HR.out,HQ.out,hBr,hBq,HDZ.out.1,HDZ.out.2,fun i hi=>HZ.out i (by omega),fun h=>by omega,hb⟩
         case measure=>simp [intOf] <;> omega
        ·have hjN:j<N:=by
          rcases Nat.lt_or_ge j N with h|h
          ·exact h
          ·exfalso
           have h5:=HTZ.out (by omega);have h6:=HSUM.out;rw [h5] at h6;have h7:1 * 1≤g * vt:=Nat.mul_le_mul hg0 (by omega)
           omega
         clear HSUM hlt2;go_upto_region 22 with fail;refine aU ?_;simp only [iX,Nat.reduceAdd];refine je (.int .u64 (g:Int)) (by rfl) ?_;refine je (.bool false) (eO _ _ _ _ (by rfl) .u64 (g:Int) 0 (by rfl) (by rfl) false (decide_eq_false (by omega)) _) ?_;refine aH ?_
         rintro _ rfl _
         go_upto_region 23 with fail;refine aU ?_;simp only [iX,Nat.reduceAdd];refine je (.slice (some ⟨gr,0,none⟩) L cR) (by rfl) ?_;refine je (vI j) (by rfl) ?_;refine je (vI j) (by rfl) ?_;refine je (vI n) (by rfl) ?_;refine je (vI ((j:Int)+(n:Int))) (bB _ _ _ _ (by rfl) (j:Int) (n:Int) ((j:Int)+(n:Int)) (by rfl) (by rfl) (by omega) (by omega) (by omega) _) ?_;refine je (vI ((j:Int)+(n:Int)+1)) (bB _ _ _ _ (by rfl) ((j:Int)+(n:Int)) 1 ((j:Int)+(n:Int)+1) (by rfl) (by rfl) (by omega) (by omega) (by omega) _) ?_;refine je (.slice (some ⟨gr,j,none⟩) (n+1) (cR-j)) (oA Tryz.underlying133 bT _ _ _ (by rfl) gr L cR j (j+n+1) (n+1) (by rfl) (by rfl) rfl (by rfl) (by omega) (by omega) (by omega) (by omega) (by omega) _) ?_;refine je (.slice (some ⟨gr,j,none⟩) (n+1) (cR-j)) (by rfl) ?_;refine aH ?_
         rintro _ rfl _
         obtain ⟨S,hS⟩:∃ S,S=(R.drop j).take (n+1):=⟨_,rfl⟩
         have hSl:S.length=n+1:=by rw [hS,List.length_take,List.length_drop,HR.out];omega
         have HSPS:Hid (lw S=P):=by
          show _=_
          rw [hS];exact HSP.out
         have HSP:=HSPS;clear HSPS
         have HS17:Hid (∀ X,Since X19 X→Dg S (.slice (some ⟨gr,j,none⟩) (n+1) (cR-j)) X):=fun X hX=>⟨_,cR-j,by rw [hSl],by
          rw [hSl,hS]
          exact (hBr.bel hX).mid (by rw [HR.out];omega) (by omega) (by omega)⟩
         have hSb:S.length≤33554432:=by omega
         have hPl:(ld P).length≤n+1:=HPL.out;have hVgl:=HVG.out g hgb;clear hS hSl;go_upto_region 24 with fail;refine bC [none,none,none,some (Lm g),some (Lm (V * g))] (aA (aA (aA (aD (Dg.lasts _) (aD (Dg.lasts _) (aF)))))) ?_;simp only [iX,Nat.reduceAdd];refine jg (.slice (some ⟨b9,o9,none⟩) n c9) (fun X _ _=>by rfl) ?_;refine jg (.int .u64 (g:Int)) (fun X _ _=>by rfl) ?_;refine jv (.int .u32 (g:Int)) (bQ _ _ .u64 .u32 Tryz.underlying148 Tryz.underlying141 _ (by rfl) (g:Int) (g:Int) (by rfl) (w32 (by omega) (by omega))) ?_;refine aW (by rfl) (fun X hX hF=>nD _ (by rfl) g (by omega) (by omega) (by rfl) rfl X) ?_;intro v159;simp only [pX];refine jk (fun X hX hF=>oH _ v159 V g X (HV9.out X (hb.trans (hX.mono hb.size))) (hF _ _ List.mem_cons_self rfl) (by omega) (by rw [iN (by omega) (by omega)];exact Nat.le_of_ble_eq_true rfl)) ?_;intro v160;refine jg (v160) (fun X _ _=>by rfl) ?_;refine aH ?_;intro X24 hX24 hF;have hpv:=hF _ _ List.mem_cons_self;clear hF
         go_wp2
         go_loopw [15,18] (fun gv qw wq=>∃ (g:Nat) (pv:Value),gv=.int .u64 (g:Int)∧pv=qw∧Lm (V * g) pv wq∧qv≤g∧g≤4294967295∧Since X19 wq) (fun gv _ _=>(intOf gv).toNat)
         case atStart=>exact ⟨g,_,rfl,rfl,hpv,hgq,hgb,hX24⟩
         case round =>
          clear hpv hgq hgb hX24 hg0 hVgl;obtain ⟨g,pv,rfl,rfl,hpv,hgq,hgb,hsq⟩:=hrel;have hVgl:=HVG.out g hgb
          by_cases hc4:P<V * g
          ·have hgl:=nB hV0 (HQV.out ▸ hgq) hc4
           have HC4:Hid (decide (cD ((P:Nat):Int) ((V * g:Nat):Int)<0)=true):=by
            show _=_
            rw [eQ (by omega)]
            rfl
           have HVG1:Hid (V * (g-1)=V * g-V):=by
            show _=_
            omega
           have hVle:V≤V * g:=by omega
           have hg1:=hgl.2.2
           have hqg:qv≤g-1:=by
            rw [HQV.out];exact hgl.1
           clear hgl;go_upto_region 25 with fail;refine bC [none,some (Dg S),some (Lm P)] (aA (aD (Dg.lasts _) (aD (Dg.lasts _) (aF)))) ?_;simp only [iX,Nat.reduceAdd];refine jg (.slice (some ⟨gr,j,none⟩) (n+1) (cR-j)) (fun X _ _=>by rfl) ?_;refine jk (fun X hX hF=>lI S _ X (HS17.out X (hsq.next hX)) (by omega)) ?_;intro v162;refine jk (fun X hX hF=>(jG S v162 X (hF _ _ List.mem_cons_self rfl) (by omega)).mono fun e X' ⟨u,h1,h2,h3⟩=>⟨u,h1,by rw [← HSP.out];exact h2,h3⟩) ?_;intro v163;refine jg (pv) (fun X _ _=>by rfl) ?_;refine jc (vI (cD (P:Nat) (V * g:Nat))) (fun X hX hF=>eP v163 pv P (V * g) X (hF _ _ List.mem_cons_self rfl) (hpv.bel hX) (by omega) (by omega)) ?_;refine jv (.bool true) (cU _ _ _ _ (by rfl) .i64 (cD (P:Nat) (V * g:Nat)) 0 (by rfl) (by rfl) true HC4.out) ?_;refine aH ?_;intro X25 hX25 _;clear HC4 hc4;go_upto_region 26 with fail;refine aU ?_;simp only [iX,Nat.reduceAdd];refine je (.int .u64 (g:Int)) (by rfl) ?_;refine je (.int .u64 ((g:Int)-1)) (fL _ _ _ _ (by rfl) .u64 (g:Int) 1 ((g:Int)-1) (by rfl) (by rfl) (w64 (by omega) (by omega)) _) ?_;refine je (.int .u64 ((g:Int)-1)) (by rfl) ?_;refine aH ?_
           rintro _ rfl _
           go_upto_region 27 with fail;refine bC [none,none,some (Lm (V * (g-1)))] (aA (aA (aD (Dg.lasts _) (aF)))) ?_;simp only [iX,Nat.reduceAdd];refine jg (pv) (fun X _ _=>by rfl) ?_;refine jg (.slice (some ⟨b9,o9,none⟩) n c9) (fun X _ _=>by rfl) ?_;refine jk (fun X hX hF=>(sN pv _ (V * g) V X (hpv.bel (Since.next hX25 hX)) (HV9.out X (hb.trans ((hsq.next (Since.next hX25 hX)).mono hb.size))) (by omega) hVle).mono fun e X' ⟨u,h1,h2,h3⟩=>⟨u,h1,by rw [HVG1.out];exact h2,h3⟩) ?_;intro v171;refine jg (v171) (fun X _ _=>by rfl) ?_;refine aH ?_;intro X27 hX27 hF;have h171:=hF _ _ List.mem_cons_self;clear hF
           go_wp2
           go_roundw
           case rel=>exact ⟨g-1,_,eX (by omega),rfl,h171,hqg,by omega,hsq.next (Since.next hX25 hX27)⟩
           case measure=>simp [intOf];omega
          ·have hle4:V * g≤P:=by omega
           have hge:=rE hV0 (HQV.out ▸ hgq) hle4
           have HC4:Hid (decide (cD ((P:Nat):Int) ((V * g:Nat):Int)<0)=false):=by
            show _=_
            have h5:0≤cD ((P:Nat):Int) ((V * g:Nat):Int):=by
             unfold cD
             rw [if_neg (by omega)]
             split <;> omega
            exact decide_eq_false (by omega)
           have HPM:Hid (P % V=P-V * g):=by
            show _=_
            rw [hge];exact Nat.mod_def P V
           have hds:=nG (R:=R) (Q:=Q) (V:=V) (X:=XX) (j:=j) (n:=n) (g:=g) (by rw [HR.out];omega) HXX.out (by rw [← HP.out];exact HPV.out) hV0 (Nat.le_of_lt HVB.out) hVl HZERO.out (by rw [HQ.out];exact hjN) (by rw [← HP.out];exact hge) (by omega);rw [← HP.out] at hds;have hml:=hds.2.2
           have HRL:Hid ((rp R j n (P % V)).length=L):=by
            show _=_
            rw [wN (by rw [HR.out];omega) (Nat.le_succ_of_le hml)];exact HR.out
           have HDS:=Lib.hid hds;clear hge hc4 hds;go_upto_region 25 with fail;refine bC [none,some (Dg S),some (Lm P)] (aA (aD (Dg.lasts _) (aD (Dg.lasts _) (aF)))) ?_;simp only [iX,Nat.reduceAdd];refine jg (.slice (some ⟨gr,j,none⟩) (n+1) (cR-j)) (fun X _ _=>by rfl) ?_;refine jk (fun X hX hF=>lI S _ X (HS17.out X (hsq.next hX)) (by omega)) ?_;intro v162;refine jk (fun X hX hF=>(jG S v162 X (hF _ _ List.mem_cons_self rfl) (by omega)).mono fun e X' ⟨u,h1,h2,h3⟩=>⟨u,h1,by rw [← HSP.out];exact h2,h3⟩) ?_;intro v163;refine jg (pv) (fun X _ _=>by rfl) ?_;refine jc (vI (cD (P:Nat) (V * g:Nat))) (fun X hX hF=>eP v163 pv P (V * g) X (hF _ _ List.mem_cons_self rfl) (hpv.bel hX) (by omega) (by omega)) ?_;refine jv (.bool false) (cU _ _ _ _ (by rfl) .i64 (cD (P:Nat) (V * g:Nat)) 0 (by rfl) (by rfl) false HC4.out) ?_;refine aH ?_;intro X25 hX25 _;clear HC4;have hsq:=hsq.next hX25;have hpv:=hpv.bel hX25;have hgr25:gr<X25.heap.size:=Nat.lt_of_lt_of_le hBr.lt hsq.size;go_upto_region 28 with fail;refine bC [none,some (Dg S),some (Lm P),none,some (fun q Y=>Lm (P % V) q Y∧Fr X25.heap.size q)] (aA (aD (Dg.lasts _) (aD (Dg.lasts _) (aA (aD ((by rintro q X Y ⟨h1,h2⟩ hS;exact ⟨h1.bel hS,h2⟩)) (aF)))))) ?_;simp only [iX,Nat.reduceAdd];refine jg (.slice (some ⟨gr,j,none⟩) (n+1) (cR-j)) (fun X _ _=>by rfl) ?_;refine jk (fun X hX hF=>lI S _ X (HS17.out X (hsq.next hX)) (by omega)) ?_
           intro v173;refine jk (fun X hX hF=>(jG S v173 X (hF _ _ List.mem_cons_self rfl) (by omega)).mono fun e X' ⟨u,h1,h2,h3⟩=>⟨u,h1,by rw [← HSP.out];exact h2,h3⟩) ?_;intro v174;refine jg (pv) (fun X _ _=>by rfl) ?_;refine jk (fun X hX hF=>(sM v174 pv P (V * g) X (hF _ _ List.mem_cons_self rfl) (hpv.bel hX) (by omega) hle4).mono fun e X' ⟨u,h1,h2,h3,h4⟩=>⟨u,h1,⟨by rw [show P % V=P-V * g from HPM.out];exact h2,h3.weak hX.size⟩,h4⟩) ?_;intro v176;refine jg (v176) (fun X _ _=>by rfl) ?_;refine aH ?_;intro X28 hX28 hF;obtain ⟨h176,hfr⟩:=hF _ _ List.mem_cons_self;clear hF;have hs28:=hsq.next hX28;have hBr:=hBr.bel hs28;have hBq:=hBq.bel hs28;have hb:=aG hb hs28;clear hs28 hX28 hsq hpv
           have hfit0:j+(n+1)≤(R.map W32++tl).length:=by
            rw [List.length_append,List.length_map,HR.out]
            omega
           go_upto_region 29 with fail;refine bW 1 ?_;simp only [its,List.take,List.drop,Nat.zero_add,Nat.reduceAdd];refine je (.slice (some ⟨gr,j,none⟩) (n+1) (cR-j)) (by rfl) ?_;refine aH ?_
           rintro _ rfl _
           refine qT rfl (.tmp 177) (by rfl) gr j (n+1) (cR-j) (Nat.succ_pos n) 141 _ hBr (by rfl) hfit0 ?_;intro w29 hB29 hg29;have hD29:=h176.grown hfr hgr25 hg29;have hBq:=hBq.grown hg29 (by omega);have hb:=hb.grown hg29 hb.size (fun k hk=>by injection hk;omega);clear hg29 hBr h176 hfr;have hfit:=uF (z:=Value.int .u32 0) (R.map W32++tl) j (n+1) hfit0;have hml1:(ld (P % V)).length≤n+1:=Nat.le_succ_of_le hml;go_upto_region 30 with fail;refine bW 2 ?_;simp only [its,List.take,List.drop,Nat.zero_add,Nat.reduceAdd];refine je (.slice (some ⟨gr,j,none⟩) (n+1) (cR-j)) (by rfl) ?_;refine je (v176) (by rfl) ?_;refine aH ?_
           rintro _ rfl _
           refine qS rfl (.tmp 178) (.tmp 179) (by rfl) gr j (n+1) (cR-j) _ hB29 (by rfl) (ld (P % V)) _ (by rfl) hD29 hml1 hfit ?_;intro w30 hB30 hg30;go_upto_region 31 with fail;rw [qN (by rw [HR.out];omega) hml] at hB30;have hBq:=hBq.grown hg30 (by omega);have hb:=hb.grown hg30 hb.size (fun k hk=>by injection hk;omega);clear hg30 hB29 hD29 hfit hfit0;refine bW 5 ?_;simp only [its,List.take,List.drop,Nat.zero_add,Nat.reduceAdd];refine je (.slice (some ⟨gq,0,none⟩) N N) (by rfl) ?_;refine je (vI j) (by rfl) ?_;refine je (.int .u64 (g:Int)) (by rfl) ?_;refine je (.int .u32 (g:Int)) (bQ _ _ .u64 .u32 Tryz.underlying148 Tryz.underlying141 _ (by rfl) (g:Int) (g:Int) (by rfl) (w32 (by omega) (by omega)) _) ?_;refine je (vP gq j) (eN Tryz.underlying133 bT _ _ (by rfl) gq N N j (by omega) (by rfl) (by rfl) (by omega) _) ?_;refine aH ?_
           rintro _ rfl _
           have hjQ:j<Q.length:=by rw [HQ.out];exact hjN
           have q1:=hBq.digit hjQ;have q2:=hBq.free j
           go_wp2
           go_roundw
           case rel =>
            have h9:=hBq.set j (W32 (UInt32.ofNat g));rw [lU] at h9
            have e9:W32 (UInt32.ofNat g)=Value.int .u32 (g:Int):=by
             show Value.int .u32 ((UInt32.ofNat g).toNat:Int)=_
             rw [iH,Nat.mod_eq_of_lt (by omega)]
            rw [e9] at h9;refine ⟨j,rp R j n (P % V),Q.set j (UInt32.ofNat g),by omega,rfl,HRL.out,by rw [List.length_set];exact HQ.out,?_,h9,HDS.out.1,HDS.out.2.1,fun i hi=>?_,fun h=>by omega,hb.setCell (by simp;omega) _⟩
            ·exact hB30.other _ _ (by simp;omega)
            ·rw [getD_set_ne _ _ (by omega)]
             exact HZ.out i (by omega)
           case measure=>simp [intOf] <;> omega
       ·have HA1:Hid (4294967296≤left):=hA1
        clear hA hp2 HP2 hA1 hp2b;go_upto_region 19 with fail;refine jd ?_;refine jg (.int .u64 (left:Int)) (fun X _ _=>by rfl) ?_;refine jv (.bool false) (cU _ _ _ _ (by rfl) .u64 (left:Int) 4294967296 (by rfl) (by rfl) false (decide_eq_false (qU HA1.out))) ?_;refine jg (.bool false) (fun X _ _=>by rfl) ?_;refine vE ?_;refine vE ?_;refine hI ?_;refine jg (.bool false) (fun X _ _=>by rfl) ?_;refine aH ?_;intro X19 hX19 _;have hs9:=hs.next hX19;have hBr:=hBr.bel hs9;have hBq:=hBq.bel hs9;have hb:=aG hb hs9;clear hX19 hs hs9 HCV HC2 HCR
        try clear HP2
        rcases Nat.eq_zero_or_pos g with hg0|hg0
        ·have hPlt:lw (R.drop j)<V:=by
          rw [← HP.out]
          have h5:P / V<1:=by rw [← HQV.out];omega
          have h6:=(Nat.div_lt_iff_lt_mul hV0).1 h5
          omega
         have HDZ:=Lib.hid (nF (by rw [HR.out];omega) HXX.out hPlt (HZ.out j (by omega)));clear hPlt;go_upto_region 22 with fail;refine aU ?_;simp only [iX,Nat.reduceAdd];refine je (.int .u64 (g:Int)) (by rfl) ?_;refine je (.bool true) (eO _ _ _ _ (by rfl) .u64 (g:Int) 0 (by rfl) (by rfl) true (decide_eq_true (by omega)) _) ?_;refine aH ?_
         rintro _ rfl _
         go_upto_region 15 with fail;refine aU ?_;simp only [iX,Nat.reduceAdd];refine je (vI j) (by rfl) ?_;refine je (vI ((j:Int)-1)) (cM _ _ _ _ (by rfl) (j:Int) 1 ((j:Int)-1) (by rfl) (by rfl) (by omega) (by omega) (by omega) _) ?_;refine je (vI ((j:Int)-1)) (by rfl) ?_;refine aH ?_
         rintro _ rfl _
         go_wp2
         go_roundw
         case rel=>exact ⟨j,R,Q,by omega,rfl,HR.out,HQ.out,hBr,hBq,HDZ.out.1,HDZ.out.2,fun i hi=>HZ.out i (by omega),fun h=>by omega,hb⟩
         case measure=>simp [intOf] <;> omega
        ·have hjN:j<N:=by
          rcases Nat.lt_or_ge j N with h|h
          ·exact h
          ·exfalso
           have h5:=HTZ.out (by omega);have h6:=HSUM.out;rw [h5] at h6;have h7:1 * 1≤g * vt:=Nat.mul_le_mul hg0 (by omega)
           omega
         clear HSUM hlt2;go_upto_region 22 with fail;refine aU ?_;simp only [iX,Nat.reduceAdd];refine je (.int .u64 (g:Int)) (by rfl) ?_;refine je (.bool false) (eO _ _ _ _ (by rfl) .u64 (g:Int) 0 (by rfl) (by rfl) false (decide_eq_false (by omega)) _) ?_;refine aH ?_
         rintro _ rfl _
         go_upto_region 23 with fail;refine aU ?_;simp only [iX,Nat.reduceAdd];refine je (.slice (some ⟨gr,0,none⟩) L cR) (by rfl) ?_;refine je (vI j) (by rfl) ?_;refine je (vI j) (by rfl) ?_;refine je (vI n) (by rfl) ?_;refine je (vI ((j:Int)+(n:Int))) (bB _ _ _ _ (by rfl) (j:Int) (n:Int) ((j:Int)+(n:Int)) (by rfl) (by rfl) (by omega) (by omega) (by omega) _) ?_;refine je (vI ((j:Int)+(n:Int)+1)) (bB _ _ _ _ (by rfl) ((j:Int)+(n:Int)) 1 ((j:Int)+(n:Int)+1) (by rfl) (by rfl) (by omega) (by omega) (by omega) _) ?_;refine je (.slice (some ⟨gr,j,none⟩) (n+1) (cR-j)) (oA Tryz.underlying133 bT _ _ _ (by rfl) gr L cR j (j+n+1) (n+1) (by rfl) (by rfl) rfl (by rfl) (by omega) (by omega) (by omega) (by omega) (by omega) _) ?_;refine je (.slice (some ⟨gr,j,none⟩) (n+1) (cR-j)) (by rfl) ?_;refine aH ?_
         rintro _ rfl _
         obtain ⟨S,hS⟩:∃ S,S=(R.drop j).take (n+1):=⟨_,rfl⟩
         have hSl:S.length=n+1:=by rw [hS,List.length_take,List.length_drop,HR.out];omega
         have HSPS:Hid (lw S=P):=by
          show _=_
          rw [hS];exact HSP.out
         have HSP:=HSPS;clear HSPS
         have HS17:Hid (∀ X,Since X19 X→Dg S (.slice (some ⟨gr,j,none⟩) (n+1) (cR-j)) X):=fun X hX=>⟨_,cR-j,by rw [hSl],by
          rw [hSl,hS]
          exact (hBr.bel hX).mid (by rw [HR.out];omega) (by omega) (by omega)⟩
         have hSb:S.length≤33554432:=by omega
         have hPl:(ld P).length≤n+1:=HPL.out;have hVgl:=HVG.out g hgb;clear hS hSl;go_upto_region 24 with fail;refine bC [none,none,none,some (Lm g),some (Lm (V * g))] (aA (aA (aA (aD (Dg.lasts _) (aD (Dg.lasts _) (aF)))))) ?_;simp only [iX,Nat.reduceAdd];refine jg (.slice (some ⟨b9,o9,none⟩) n c9) (fun X _ _=>by rfl) ?_;refine jg (.int .u64 (g:Int)) (fun X _ _=>by rfl) ?_;refine jv (.int .u32 (g:Int)) (bQ _ _ .u64 .u32 Tryz.underlying148 Tryz.underlying141 _ (by rfl) (g:Int) (g:Int) (by rfl) (w32 (by omega) (by omega))) ?_;refine aW (by rfl) (fun X hX hF=>nD _ (by rfl) g (by omega) (by omega) (by rfl) rfl X) ?_;intro v159;simp only [pX];refine jk (fun X hX hF=>oH _ v159 V g X (HV9.out X (hb.trans (hX.mono hb.size))) (hF _ _ List.mem_cons_self rfl) (by omega) (by rw [iN (by omega) (by omega)];exact Nat.le_of_ble_eq_true rfl)) ?_;intro v160;refine jg (v160) (fun X _ _=>by rfl) ?_;refine aH ?_;intro X24 hX24 hF;have hpv:=hF _ _ List.mem_cons_self;clear hF
         go_wp2
         go_loopw [15,18] (fun gv qw wq=>∃ (g:Nat) (pv:Value),gv=.int .u64 (g:Int)∧pv=qw∧Lm (V * g) pv wq∧qv≤g∧g≤4294967295∧Since X19 wq) (fun gv _ _=>(intOf gv).toNat)
         case atStart=>exact ⟨g,_,rfl,rfl,hpv,hgq,hgb,hX24⟩
         case round =>
          clear hpv hgq hgb hX24 hg0 hVgl;obtain ⟨g,pv,rfl,rfl,hpv,hgq,hgb,hsq⟩:=hrel;have hVgl:=HVG.out g hgb
          by_cases hc4:P<V * g
          ·have hgl:=nB hV0 (HQV.out ▸ hgq) hc4
           have HC4:Hid (decide (cD ((P:Nat):Int) ((V * g:Nat):Int)<0)=true):=by
            show _=_
            rw [eQ (by omega)]
            rfl
           have HVG1:Hid (V * (g-1)=V * g-V):=by
            show _=_
            omega
           have hVle:V≤V * g:=by omega
           have hg1:=hgl.2.2
           have hqg:qv≤g-1:=by
            rw [HQV.out];exact hgl.1
           clear hgl;go_upto_region 25 with fail;refine bC [none,some (Dg S),some (Lm P)] (aA (aD (Dg.lasts _) (aD (Dg.lasts _) (aF)))) ?_;simp only [iX,Nat.reduceAdd];refine jg (.slice (some ⟨gr,j,none⟩) (n+1) (cR-j)) (fun X _ _=>by rfl) ?_;refine jk (fun X hX hF=>lI S _ X (HS17.out X (hsq.next hX)) (by omega)) ?_;intro v162;refine jk (fun X hX hF=>(jG S v162 X (hF _ _ List.mem_cons_self rfl) (by omega)).mono fun e X' ⟨u,h1,h2,h3⟩=>⟨u,h1,by rw [← HSP.out];exact h2,h3⟩) ?_;intro v163;refine jg (pv) (fun X _ _=>by rfl) ?_;refine jc (vI (cD (P:Nat) (V * g:Nat))) (fun X hX hF=>eP v163 pv P (V * g) X (hF _ _ List.mem_cons_self rfl) (hpv.bel hX) (by omega) (by omega)) ?_;refine jv (.bool true) (cU _ _ _ _ (by rfl) .i64 (cD (P:Nat) (V * g:Nat)) 0 (by rfl) (by rfl) true HC4.out) ?_;refine aH ?_;intro X25 hX25 _;clear HC4 hc4;go_upto_region 26 with fail;refine aU ?_;simp only [iX,Nat.reduceAdd];refine je (.int .u64 (g:Int)) (by rfl) ?_;refine je (.int .u64 ((g:Int)-1)) (fL _ _ _ _ (by rfl) .u64 (g:Int) 1 ((g:Int)-1) (by rfl) (by rfl) (w64 (by omega) (by omega)) _) ?_;refine je (.int .u64 ((g:Int)-1)) (by rfl) ?_;refine aH ?_
           rintro _ rfl _
           go_upto_region 27 with fail;refine bC [none,none,some (Lm (V * (g-1)))] (aA (aA (aD (Dg.lasts _) (aF)))) ?_;simp only [iX,Nat.reduceAdd];refine jg (pv) (fun X _ _=>by rfl) ?_;refine jg (.slice (some ⟨b9,o9,none⟩) n c9) (fun X _ _=>by rfl) ?_;refine jk (fun X hX hF=>(sN pv _ (V * g) V X (hpv.bel (Since.next hX25 hX)) (HV9.out X (hb.trans ((hsq.next (Since.next hX25 hX)).mono hb.size))) (by omega) hVle).mono fun e X' ⟨u,h1,h2,h3⟩=>⟨u,h1,by rw [HVG1.out];exact h2,h3⟩) ?_;intro v171;refine jg (v171) (fun X _ _=>by rfl) ?_;refine aH ?_;intro X27 hX27 hF;have h171:=hF _ _ List.mem_cons_self;clear hF
           go_wp2
           go_roundw
           case rel=>exact ⟨g-1,_,eX (by omega),rfl,h171,hqg,by omega,hsq.next (Since.next hX25 hX27)⟩
           case measure=>simp [intOf];omega
          ·have hle4:V * g≤P:=by omega
           have hge:=rE hV0 (HQV.out ▸ hgq) hle4
           have HC4:Hid (decide (cD ((P:Nat):Int) ((V * g:Nat):Int)<0)=false):=by
            show _=_
            have h5:0≤cD ((P:Nat):Int) ((V * g:Nat):Int):=by
             unfold cD
             rw [if_neg (by omega)]
             split <;> omega
            exact decide_eq_false (by omega)
           have HPM:Hid (P % V=P-V * g):=by
            show _=_
            rw [hge];exact Nat.mod_def P V
           have hds:=nG (R:=R) (Q:=Q) (V:=V) (X:=XX) (j:=j) (n:=n) (g:=g) (by rw [HR.out];omega) HXX.out (by rw [← HP.out];exact HPV.out) hV0 (Nat.le_of_lt HVB.out) hVl HZERO.out (by rw [HQ.out];exact hjN) (by rw [← HP.out];exact hge) (by omega);rw [← HP.out] at hds;have hml:=hds.2.2
           have HRL:Hid ((rp R j n (P % V)).length=L):=by
            show _=_
            rw [wN (by rw [HR.out];omega) (Nat.le_succ_of_le hml)];exact HR.out
           have HDS:=Lib.hid hds;clear hge hc4 hds;go_upto_region 25 with fail;refine bC [none,some (Dg S),some (Lm P)] (aA (aD (Dg.lasts _) (aD (Dg.lasts _) (aF)))) ?_;simp only [iX,Nat.reduceAdd];refine jg (.slice (some ⟨gr,j,none⟩) (n+1) (cR-j)) (fun X _ _=>by rfl) ?_;refine jk (fun X hX hF=>lI S _ X (HS17.out X (hsq.next hX)) (by omega)) ?_;intro v162;refine jk (fun X hX hF=>(jG S v162 X (hF _ _ List.mem_cons_self rfl) (by omega)).mono fun e X' ⟨u,h1,h2,h3⟩=>⟨u,h1,by rw [← HSP.out];exact h2,h3⟩) ?_;intro v163;refine jg (pv) (fun X _ _=>by rfl) ?_;refine jc (vI (cD (P:Nat) (V * g:Nat))) (fun X hX hF=>eP v163 pv P (V * g) X (hF _ _ List.mem_cons_self rfl) (hpv.bel hX) (by omega) (by omega)) ?_;refine jv (.bool false) (cU _ _ _ _ (by rfl) .i64 (cD (P:Nat) (V * g:Nat)) 0 (by rfl) (by rfl) false HC4.out) ?_;refine aH ?_;intro X25 hX25 _;clear HC4;have hsq:=hsq.next hX25;have hpv:=hpv.bel hX25;have hgr25:gr<X25.heap.size:=Nat.lt_of_lt_of_le hBr.lt hsq.size;go_upto_region 28 with fail;refine bC [none,some (Dg S),some (Lm P),none,some (fun q Y=>Lm (P % V) q Y∧Fr X25.heap.size q)] (aA (aD (Dg.lasts _) (aD (Dg.lasts _) (aA (aD ((by rintro q X Y ⟨h1,h2⟩ hS;exact ⟨h1.bel hS,h2⟩)) (aF)))))) ?_;simp only [iX,Nat.reduceAdd];refine jg (.slice (some ⟨gr,j,none⟩) (n+1) (cR-j)) (fun X _ _=>by rfl) ?_;refine jk (fun X hX hF=>lI S _ X (HS17.out X (hsq.next hX)) (by omega)) ?_
           intro v173;refine jk (fun X hX hF=>(jG S v173 X (hF _ _ List.mem_cons_self rfl) (by omega)).mono fun e X' ⟨u,h1,h2,h3⟩=>⟨u,h1,by rw [← HSP.out];exact h2,h3⟩) ?_;intro v174;refine jg (pv) (fun X _ _=>by rfl) ?_;refine jk (fun X hX hF=>(sM v174 pv P (V * g) X (hF _ _ List.mem_cons_self rfl) (hpv.bel hX) (by omega) hle4).mono fun e X' ⟨u,h1,h2,h3,h4⟩=>⟨u,h1,⟨by rw [show P % V=P-V * g from HPM.out];exact h2,h3.weak hX.size⟩,h4⟩) ?_;intro v176;refine jg (v176) (fun X _ _=>by rfl) ?_;refine aH ?_;intro X28 hX28 hF;obtain ⟨h176,hfr⟩:=hF _ _ List.mem_cons_self;clear hF;have hs28:=hsq.next hX28;have hBr:=hBr.bel hs28;have hBq:=hBq.bel hs28;have hb:=aG hb hs28;clear hs28 hX28 hsq hpv
           have hfit0:j+(n+1)≤(R.map W32++tl).length:=by
            rw [List.length_append,List.length_map,HR.out]
            omega
           go_upto_region 29 with fail;refine bW 1 ?_;simp only [its,List.take,List.drop,Nat.zero_add,Nat.reduceAdd];refine je (.slice (some ⟨gr,j,none⟩) (n+1) (cR-j)) (by rfl) ?_;refine aH ?_
           rintro _ rfl _
           refine qT rfl (.tmp 177) (by rfl) gr j (n+1) (cR-j) (Nat.succ_pos n) 141 _ hBr (by rfl) hfit0 ?_;intro w29 hB29 hg29;have hD29:=h176.grown hfr hgr25 hg29;have hBq:=hBq.grown hg29 (by omega);have hb:=hb.grown hg29 hb.size (fun k hk=>by injection hk;omega);clear hg29 hBr h176 hfr;have hfit:=uF (z:=Value.int .u32 0) (R.map W32++tl) j (n+1) hfit0;have hml1:(ld (P % V)).length≤n+1:=Nat.le_succ_of_le hml;go_upto_region 30 with fail;refine bW 2 ?_;simp only [its,List.take,List.drop,Nat.zero_add,Nat.reduceAdd];refine je (.slice (some ⟨gr,j,none⟩) (n+1) (cR-j)) (by rfl) ?_;refine je (v176) (by rfl) ?_;refine aH ?_
           rintro _ rfl _
           refine qS rfl (.tmp 178) (.tmp 179) (by rfl) gr j (n+1) (cR-j) _ hB29 (by rfl) (ld (P % V)) _ (by rfl) hD29 hml1 hfit ?_;intro w30 hB30 hg30;go_upto_region 31 with fail;rw [qN (by rw [HR.out];omega) hml] at hB30;have hBq:=hBq.grown hg30 (by omega);have hb:=hb.grown hg30 hb.size (fun k hk=>by injection hk;omega);clear hg30 hB29 hD29 hfit hfit0;refine bW 5 ?_;simp only [its,List.take,List.drop,Nat.zero_add,Nat.reduceAdd];refine je (.slice (some ⟨gq,0,none⟩) N N) (by rfl) ?_;refine je (vI j) (by rfl) ?_;refine je (.int .u64 (g:Int)) (by rfl) ?_;refine je (.int .u32 (g:Int)) (bQ _ _ .u64 .u32 Tryz.underlying148 Tryz.underlying141 _ (by rfl) (g:Int) (g:Int) (by rfl) (w32 (by omega) (by omega)) _) ?_;refine je (vP gq j) (eN Tryz.underlying133 bT _ _ (by rfl) gq N N j (by omega) (by rfl) (by rfl) (by omega) _) ?_;refine aH ?_
           rintro _ rfl _
           have hjQ:j<Q.length:=by rw [HQ.out];exact hjN
           have q1:=hBq.digit hjQ;have q2:=hBq.free j
           go_wp2
           go_roundw
           case rel =>
            have h9:=hBq.set j (W32 (UInt32.ofNat g));rw [lU] at h9
            have e9:W32 (UInt32.ofNat g)=Value.int .u32 (g:Int):=by
             show Value.int .u32 ((UInt32.ofNat g).toNat:Int)=_
             rw [iH,Nat.mod_eq_of_lt (by omega)]
            rw [e9] at h9;refine ⟨j,rp R j n (P % V),Q.set j (UInt32.ofNat g),by omega,rfl,HRL.out,by rw [List.length_set];exact HQ.out,?_,h9,HDS.out.1,HDS.out.2.1,fun i hi=>?_,fun h=>by omega,hb.setCell (by simp;omega) _⟩
            ·exact hB30.other _ _ (by simp;omega)
            ·rw [getD_set_ne _ _ (by omega)]
             exact HZ.out i (by omega)
           case measure=>simp [intOf] <;> omega
end Go.Proofs.YtnfpenhldlfafaaGreatDoor

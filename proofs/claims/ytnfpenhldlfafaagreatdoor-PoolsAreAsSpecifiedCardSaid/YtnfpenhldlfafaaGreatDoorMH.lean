/- The references: DivMod, Gcd. Texts of numbers: they are read -/
import Derived.Test.YtnfpenhldlfafaaGreatDoorMG
import Derived.Test.YtnfpenhldlfafaaGreatDoorMC
import Derived.Test.YtnfpenhldlfafaaGreatDoorMF
set_option linter.unusedSimpArgs false
set_option linter.unusedVariables false
set_option maxRecDepth 100000
set_option maxHeartbeats 1600000
namespace Go.Proofs.YtnfpenhldlfafaaGreatDoor
open Go.RowKit
theorem tS:(Tryz.prog.info? 127).map (·.size)=some 3:=by kernel_rfl
theorem uB {f:Operand→Value} {o:Oper} (x:Operand) (ho:o.op=.buildSlice 144 1 #[(0,x)]) (n:Int) (hx:f x=.int .u8 n) (X:World) :
  (execOp f o).run Tryz.prog X=.ok (.value (.slice (some ⟨X.heap.size,0,none⟩) 1 1)) (X.alloc (.cells #[.int .u8 n] 5)):=by
 unfold execOp
 simp only [ho]
 go_simp
theorem Bts.new1 (X:World) (n:Int) (d:UInt8) (hd:n=(d.toNat:Int)):Bts [d] (.slice (some ⟨X.heap.size,0,none⟩) 1 1) (X.alloc (.cells #[.int .u8 n] 5)):=by
 subst hd;have hB:Blk (X.alloc (.cells #[.int .u8 (d.toNat:Int)] 5)) X.heap.size 5 ([d].map B8):=Blk.new rfl;exact ⟨_,1,rfl,Rd.of_cl hB.cl hB.lt rfl (Nat.le_refl _) (by unfold maxLen;omega)⟩
theorem xT (x:Nat) (a:List UInt8) {k:Nat} (hk:k<a.length):val (be x++(a.drop k).take (k+1-k))=x * 256+(a.getD k 0).toNat:=by
 have h1:(a.drop k).take (k+1-k)=[a.getD k 0]:=by
  rw [show k+1-k=1 by omega,List.drop_eq_getElem_cons hk,List.take_succ_cons,List.take_zero]
  simp [List.getD,hk]
 rw [h1,oM,aL]
theorem qXo {x c b R:Nat} (hb:0<b) (hR:R=x % b * 256+c) (hc:c<256):(x * 256+c) / b=x / b * 256+R / b∧(x * 256+c) % b=R % b∧R<256 * b:=by
 have h1:x * 256+c=R+b * (x / b * 256):=by
  have h2:=Nat.mod_add_div x b;have h3:b * (x / b * 256)=b * (x / b) * 256:=(Nat.mul_assoc _ _ _).symm;rw [h3,hR];generalize b * (x / b)=t at h2 ⊢;generalize x % b=u at h2 ⊢
  omega
 refine ⟨?_,?_,?_⟩
 ·rw [h1,Nat.add_mul_div_left _ _ hb,Nat.add_comm]
 ·rw [h1,Nat.add_mul_mod_self_left]
 ·have:=Nat.mod_lt x hb
  have h4:=Nat.mul_le_mul_right 256 (show x % b+1≤b from this);rw [Nat.add_mul] at h4
  omega
theorem xW {r n b R:Nat} (hb:b≤r) (h:r+n * b=R):r-b+(n+1) * b=R:=by
 rw [Nat.add_mul,Nat.one_mul]
 omega
theorem qXp {r n b R:Nat} (hb:0<b) (hr:r<b) (h:r+n * b=R):n=R / b∧r=R % b:=by
 rw [← h,Nat.add_mul_div_right _ _ hb,Nat.div_eq_of_lt hr,Nat.add_mul_mod_self_right,Nat.mod_eq_of_lt hr]
 omega
theorem zP {r n b R:Nat} (hb:0<b) (h:r+n * b=R) (hR:R<256 * b):n≤255:=by
 rcases Nat.lt_or_ge 255 n with h1|h1
 ·have:=Nat.mul_le_mul_right b h1
  omega
 ·exact h1
theorem vZw {x:Nat} {b:List UInt8} (h:x<256 * val b):(be x).length≤b.length+1:=by
 refine iQ (Nat.lt_of_lt_of_le h ?_);rw [Nat.pow_succ,Nat.mul_comm];exact Nat.mul_le_mul_right 256 (Nat.le_of_lt (gJ b))
theorem nQ {x:Nat} (h:0<x):be x≠[]:=fun h1=>by rw [be_nil] at h1;omega
theorem qQm (a b:List UInt8) (w:World) (ha:a.length≤4194304) (hb0:b.length≤4194300) (h0:0<val b):Calls Tryz.prog 110 #[vS a,vS b] w fun e w'=>e=.returned (.agg #[vS (be (val a / val b)),vS (be (val a % val b)),vI 0])∧Since w w':=by
 have HE:Hid (be (val b)≠[]):=nQ h0
 go_enter Tryz.func110,Tryz.ntmps110
 go_upto_region 1 with fail;have hR0:Blk (w.alloc (.cells #[.string ⟨#[]⟩,.string ⟨#[]⟩,vI 0] 127)) w.heap.size 127 [.string ⟨#[]⟩,.string ⟨#[]⟩,vI 0]:=Blk.new rfl;have hb:Below w.heap.size w (w.alloc (.cells #[.string ⟨#[]⟩,.string ⟨#[]⟩,vI 0] 127)):=(Below.refl _ _).alloc (Nat.le_refl _) _;generalize w.alloc (.cells #[.string ⟨#[]⟩,.string ⟨#[]⟩,vI 0] 127)=W0 at hR0 hb ⊢;refine jp ?_;refine jm (st b) ?_;refine jc (st (be (val b))) (fun X hX hF=>dG b X (by omega)) ?_;refine jv (.bool false) (bF _ _ _ _ (by rfl) (be (val b)) ([]:List UInt8) (by rfl) (by rfl) false (cU HE.out)) ?_;refine jzb hb fun X1 hX1 hb=>?_;have hR0:=hR0.bel hX1
 go_wp2
 go_loopw [5,6,7] (fun qv rv kv wr=>∃ (k r:Nat) (l:List UInt8),k≤a.length∧kv=vI k∧rv=vS (be r)∧qv=vS l∧l.length=k∧val l=val (a.take k) / val b∧r=val (a.take k) % val b∧Blk wr w.heap.size 127 [.string ⟨#[]⟩,.string ⟨#[]⟩,vI 0]∧Below w.heap.size w wr) (fun _ _ kv _=>a.length-(intOf kv).toNat)
 case atStart=>exact ⟨0,0,[],by omega,rfl,rfl,rfl,rfl,by rw [List.take_zero,nY,Nat.zero_div],by rw [List.take_zero,nY,Nat.zero_mod],hR0,hb⟩
 case round =>
  clear hR0 hb;obtain ⟨k,r,l,hk,rfl,rfl,rfl,hl,hq,hr,hR0,hb⟩:=hrel;have hrb:r<val b:=hr ▸ Nat.mod_lt _ h0;have hbr:(be r).length≤b.length:=Nat.le_trans (gT (Nat.le_of_lt hrb)) (cV b);have HL:=Lib.hid hl;have HQ:=Lib.hid hq;have HR:=Lib.hid hr
  have hll:l.length≤4194304:=by omega
  clear hl hq hr
  rcases Nat.lt_or_ge k a.length with hlt|hlt
  ·obtain ⟨c,hc⟩:∃ c,c=(a.getD k 0).toNat:=⟨_,rfl⟩
   have hcb:c<256:=hc ▸ wH _;obtain ⟨R,hRe⟩:∃ R,R=r * 256+c:=⟨_,rfl⟩;have hds:=qXo (R:=R) h0 (by rw [← HR.out];exact hRe) hcb
   have hV:val (be r++(a.drop k).take ((k+1)-k))=R:=by rw [xT r a hlt,← hc,hRe]
   have HV:=Lib.hid hV
   have hts:val (a.take (k+1))=val (a.take k) * 256+c:=by rw [kZ a hlt,hc]
   rw [← hts] at hds;have HDS:=Lib.hid hds;have hRb:=hds.2.2;clear hds hts hV hRe hc;go_upto_region 6 with fail;refine jp ?_;refine jmm (vI k) (st a) ?_;refine jv (vI (a.length:Int)) (bI G9 _ (by rfl) a (by rfl) _ rfl) ?_;refine dP (k:Int) (a.length:Int) (by omega) ?_;refine jzb hb fun X1 hX1 hb=>?_;have hR0:=hR0.bel hX1;go_upto_region 8 with fail;refine jp ?_;refine bZ (st (be r)) (st a) (vI k) ?_;refine jm (vI k) ?_;refine jv (vI ((k:Int)+1)) (aV _ _ _ _ (by rfl) (k:Int) 1 ((k:Int)+1) (by rfl) (by rfl) (by omega) (by omega) (by omega)) ?_;refine jv (st ((a.drop k).take ((k+1)-k))) (tY _ G9 _ _ _ (by rfl) a k (k+1) (by rfl) (by rfl) (by rfl) (by omega) (by omega) (by omega)) ?_;refine jv (st ((be r)++((a.drop k).take ((k+1)-k)))) (pV _ _ _ _ (by rfl) (be r) ((a.drop k).take ((k+1)-k)) (by rfl) (by rfl) (by rw [List.length_take];omega)) ?_;refine jc (st (be R)) (fun X hX hF=>mo (dG (be r++(a.drop k).take ((k+1)-k)) X (by rw [List.length_append,List.length_take];omega)) (by rw [HV.out])) ?_;refine jm (st (be R)) ?_;refine jzb hb fun X2 hX2 hb=>?_;have hR0:=hR0.bel hX2
   go_wp2
   go_loopw [6,8] (fun rv nv wq=>∃ n rr:Nat,nv=vI n∧rv=vS (be rr)∧rr+n * val b=R∧Blk wq w.heap.size 127 [.string ⟨#[]⟩,.string ⟨#[]⟩,vI 0]∧Below w.heap.size w wq) (fun _ nv _=>R+1-(intOf nv).toNat)
   case atStart=>exact ⟨0,R,rfl,rfl,by omega,hR0,hb⟩
   case round =>
    clear hR0 hb;obtain ⟨n,rr,rfl,rfl,hnr,hR0,hb⟩:=hrel;have hn255:=zP h0 hnr hRb
    have hnR:n≤R:=by
     have:=Nat.mul_le_mul_left n h0
     omega
    have hrrb:rr<256 * val b:=by omega
    have hrl:=vZw hrrb;have HNR:=Lib.hid hnr;clear hnr
    rcases Nat.lt_or_ge rr (val b) with hlt2|hge
    ·have hdd:=qXp h0 hlt2 HNR.out
     have HD:=Lib.hid hdd;clear hdd;go_upto_region 10 with fail;refine jp ?_;refine jmm (st (be rr)) (st b) ?_;refine jc (vI (cB rr (val b))) (fun X hX hF=>mo (oX (be rr) b X (by omega) (by omega)) (by simp only [aL])) ?_;refine jv (.bool false) (fQ _ _ _ _ (by rfl) .i64 (cB rr (val b)) 0 (by rfl) (by rfl) false (by rw [eE (by omega)];rfl)) ?_;refine jzb hb fun X1 hX1 hb=>?_;have hR0:=hR0.bel hX1;go_upto_region 13 with fail;refine bM [none,none,none,some (Bts [UInt8.ofNat n])] (aA (aA (aA (aE (Bts.lasts _) (aG))))) ?_;simp only [iX,Nat.reduceAdd];refine jmm (st l) (vI n) ?_;refine jv (.int .u8 (n:Int)) (bX _ _ .i64 .u8 G3 G5 _ (by rfl) (n:Int) (n:Int) (by rfl) (by rw [w8 (by omega) (by omega)])) ?_;refine bH (by rfl) (fun X hX hF=>⟨_,_,uB _ (by rfl) _ (by rfl) X,Bts.new1 X _ (UInt8.ofNat n) (by rw [u8n];omega),cE X _⟩) ?_;intro v40;simp only [pX];refine jg (st [UInt8.ofNat n]) (fun X hX hF=>by obtain ⟨A9,c9,h9,hr9⟩:=(hF _ _ zE rfl);subst h9;exact pS _ _ 5 zH G5 G9 _ (by rfl) (by rfl) hr9 ) ?_;refine jv (st (l++[UInt8.ofNat n])) (pV _ _ _ _ (by rfl) l [UInt8.ofNat n] (by rfl) (by rfl) (by simp only [List.length_append,List.length_cons,List.length_nil];omega)) ?_;refine jm (st (l++[UInt8.ofNat n])) ?_;refine aI ?_;intro X2 hX2 hF
     have hv40:=hF _ _ zE;have hR0:=hR0.bel hX2;have hb:=aF hb hX2;clear hF hX2;clear hv40;go_upto_region 7 with fail;refine jp ?_;refine jm (vI k) ?_;refine jv (vI ((k+1:Nat):Int)) (aV _ _ _ _ (by rfl) (k:Int) 1 ((k+1:Nat):Int) (by rfl) (by rfl) (by omega) (by omega) (by omega)) ?_;refine jm (vI ((k+1:Nat):Int)) ?_;refine jzb hb fun X3 hX3 hb=>?_;have hR0:=hR0.bel hX3
     have HQ2:Hid (val (l++[UInt8.ofNat n])=val (a.take (k+1)) / val b):=by
      show _=_
      rw [oM,HQ.out,HDS.out.1,← HD.out.1,u8n,Nat.mod_eq_of_lt (by omega)]
     go_wp2
     go_roundw
     case rel=>exact ⟨k+1,rr,l++[UInt8.ofNat n],by omega,rfl,rfl,rfl,by rw [List.length_append,HL.out];rfl,HQ2.out,by rw [HDS.out.2.1];exact HD.out.2,hR0,hb⟩
     case measure=>simp [intOf] <;> omega
    ·have HSB:=Lib.hid (xW hge HNR.out)
     have hcmp:0≤cB (rr:Nat) (val b:Nat):=by unfold cB;rw [if_neg (by omega)];split <;> omega
     go_upto_region 10 with fail;refine jp ?_;refine jmm (st (be rr)) (st b) ?_;refine jc (vI (cB rr (val b))) (fun X hX hF=>mo (oX (be rr) b X (by omega) (by omega)) (by simp only [aL])) ?_;refine pI (cB rr (val b)) 0 (by omega) ?_;refine jzb hb fun X1 hX1 hb=>?_;have hR0:=hR0.bel hX1;generalize cB (rr:Nat) (val b:Nat)=cc at hcmp ⊢;clear hcmp;go_upto_region 11 with fail;refine jp ?_;refine jmm (st (be rr)) (st b) ?_;refine jc (.agg #[st (be (rr-val b)),vI 0]) (fun X hX hF=>mo (tC (be rr) b X (by omega) (by omega) (by rw [aL];exact hge)) (by rw [aL])) ?_;refine jmm (st (be (rr-val b))) (st (be (rr-val b))) ?_;refine jzb hb fun X2 hX2 hb=>?_;have hR0:=hR0.bel hX2;go_upto_region 12 with fail;refine jp ?_;refine jm (vI n) ?_;refine jv (vI ((n+1:Nat):Int)) (aV _ _ _ _ (by rfl) (n:Int) 1 ((n+1:Nat):Int) (by rfl) (by rfl) (by omega) (by omega) (by omega)) ?_;refine jm (vI ((n+1:Nat):Int)) ?_;refine jzb hb fun X3 hX3 hb=>?_;have hR0:=hR0.bel hX3
     go_wp2
     go_roundw
     case rel=>exact ⟨n+1,rr-val b,rfl,rfl,HSB.out,hR0,hb⟩
     case measure=>simp [intOf] <;> omega
  ·obtain rfl:k=a.length:=by omega
   have HT:Hid (a.take a.length=a):=List.take_of_length_le (Nat.le_refl _)
   have HQ2:Hid (val l=val a / val b):=by show _=_;rw [HQ.out,HT.out]
   have HR2:Hid (r=val a % val b):=by show _=_;rw [HR.out,HT.out]
   go_upto_region 6 with fail;refine jp ?_;refine jmm (vI (a.length:Int)) (st a) ?_;refine jv (vI (a.length:Int)) (bI G9 _ (by rfl) a (by rfl) _ rfl) ?_;refine dJ (a.length:Int) (a.length:Int) (by omega) ?_;refine jzb hb fun X1 hX1 hb=>?_;have hR0:=hR0.bel hX1;go_upto_region 14 with fail;refine jq 4 ?_;refine jm (st l) ?_;refine jc (st (be (val l))) (fun X hX hF=>dG l X (by omega)) ?_;refine jmn (st (be r)) (.agg #[st (be (val l)),st (be r),vI 0]) ?_;refine jzb hb fun X2 hX2 hb=>?_;have hR0:=hR0.bel hX2;refine osb 127 4 46 w.heap.size 127 hR0 [vS (be (val l)),vS (be r),vI 0] tS ?_;intro w9 hR9 hO9 hB9 hs9;have hb9:=hB9 _ _ hb (Nat.le_refl _);clear hO9 hB9
   go_wp2
   refine aK rfl rfl (by rfl) G127 rfl hR9 tS ⟨by rw [HQ2.out,← HR2.out],hb9⟩
theorem qQi (a b:List UInt8) (w:World) (ha:a.length≤4194300) (hb0:b.length≤4194300):Calls Tryz.prog 93 #[vS a,vS b] w fun e w'=>e=.returned (.string ⟨(be (Nat.gcd (val a) (val b))).toArray⟩)∧Since w w':=by
 have la:=cV a;have lb:=cV b
 go_enter Tryz.func93,Tryz.ntmps93
 go_upto_region 1 with fail;refine jp ?_;refine jm (st a) ?_;refine jc (st (be (val a))) (fun X hX hF=>dG a X (by omega)) ?_;refine jm (st (be (val a))) ?_;refine jz fun X1 hX1=>?_;have hb:Below w.heap.size w X1:=hX1;go_upto_region 2 with fail;refine jp ?_;refine jm (st b) ?_;refine jc (st (be (val b))) (fun X hX hF=>dG b X (by omega)) ?_;refine jm (st (be (val b))) ?_;refine jzb hb fun X2 hX2 hb=>?_
 go_wp2
 go_loopw [5,6] (fun xv yv wr=>∃ p q:Nat,xv=vS (be p)∧yv=vS (be q)∧Nat.gcd p q=Nat.gcd (val a) (val b)∧(be p).length≤4194300∧(be q).length≤4194300∧Below w.heap.size w wr) (fun _ yv _=>match yv with|.string s=>val s.data.toList|_=>0)
 case atStart=>exact ⟨val a,val b,rfl,rfl,rfl,by omega,by omega,hb⟩
 case round =>
  clear hb;obtain ⟨p,q,rfl,rfl,hg,hp,hq,hb⟩:=hrel;have HG:=Lib.hid hg;clear hg
  rcases Nat.eq_zero_or_pos q with h0|h0
  ·have HE:Hid (be q=[]):=be_nil.2 h0
   have HP:Hid (Nat.gcd (val a) (val b)=p):=by show _=_;rw [← HG.out,h0,Nat.gcd_zero_right]
   clear h0;go_upto_region 3 with fail;refine jp ?_;refine jm (st (be q)) ?_;refine jv (.bool false) (cQ _ _ _ _ (by rfl) (be q) ([]:List UInt8) (by rfl) (by rfl) false (wU HE.out)) ?_;refine jzb hb fun X1 hX1 hb=>?_;go_upto_region 7 with fail;refine jp ?_;refine jmm (st (be p)) (st (be p)) ?_;refine jzb hb fun X2 hX2 hb=>?_
   go_wp2
   go_ret
   exact ⟨by rw [HP.out];rfl,hb⟩
  ·have HE:Hid (be q≠[]):=nQ h0
   have hm:=Nat.mod_lt p h0;have hml:=gT (Nat.le_of_lt hm)
   have HG2:Hid (Nat.gcd q (p % q)=Nat.gcd (val a) (val b)):=by
    show _=_
    rw [← HG.out,Nat.gcd_comm p q,Nat.gcd_rec q p,Nat.gcd_comm]
   go_upto_region 3 with fail;refine jp ?_;refine jm (st (be q)) ?_;refine jv (.bool true) (cQ _ _ _ _ (by rfl) (be q) ([]:List UInt8) (by rfl) (by rfl) true (jW HE.out)) ?_;refine jzb hb fun X1 hX1 hb=>?_;go_upto_region 4 with fail;refine jp ?_;refine jmm (st (be p)) (st (be q)) ?_;refine jc (.agg #[st (be (p / q)),st (be (p % q)),vI 0]) (fun X hX hF=>mo (qQm (be p) (be q) X (by omega) (by omega) (by rw [aL];exact h0)) (by simp only [aL])) ?_;refine jmm (st (be (p % q))) (st (be (p % q))) ?_;refine jzb hb fun X2 hX2 hb=>?_;go_upto_region 5 with fail;refine jp ?_;refine jmm (st (be q)) (st (be q)) ?_;refine jzb hb fun X3 hX3 hb=>?_;go_upto_region 6 with fail;refine jp ?_;refine jmm (st (be (p % q))) (st (be (p % q))) ?_;refine jzb hb fun X4 hX4 hb=>?_
   go_wp2
   go_roundw
   case rel=>exact ⟨q,p % q,rfl,rfl,HG2.out,by omega,by omega,hb⟩
   case measure =>
    show val (be (p % q))<val (be q)
    rw [aL,aL];exact hm
theorem gU {x y m n:Nat} (hx:(be x).length≤m) (hy:(be y).length≤n):(be (x+y)).length≤max m n+1:=by
 refine iQ ?_;have h1:=Nat.lt_of_lt_of_le (iZ x) (Nat.pow_le_pow_right (n:=256) (by omega) (Nat.le_trans hx (Nat.le_max_left m n)));have h2:=Nat.lt_of_lt_of_le (iZ y) (Nat.pow_le_pow_right (n:=256) (by omega) (Nat.le_trans hy (Nat.le_max_right m n)));rw [Nat.pow_succ]
 omega
theorem bS {x y m n:Nat} (hx:(be x).length≤m) (hy:(be y).length≤n):(be (x * y)).length≤m+n:=by
 refine iQ ?_;have h1:=Nat.lt_of_lt_of_le (iZ x) (Nat.pow_le_pow_right (n:=256) (by omega) hx);have h2:=Nat.lt_of_lt_of_le (iZ y) (Nat.pow_le_pow_right (n:=256) (by omega) hy);rw [Nat.pow_add];exact Nat.mul_lt_mul'' h1 h2
theorem gN {x y n:Nat} (h:x≤y) (hy:(be y).length≤n):(be x).length≤n:=Nat.le_trans (gT h) hy
section
variable (a b:List UInt8) (w:World)
end
end Go.Proofs.YtnfpenhldlfafaaGreatDoor

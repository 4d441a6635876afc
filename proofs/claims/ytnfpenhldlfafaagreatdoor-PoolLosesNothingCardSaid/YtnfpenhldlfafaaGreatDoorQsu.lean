/- rat: sums of lists. -/
import Derived.Laws.EntriesVeiled
import Derived.Test.YtnfpenhldlfafaaGreatDoorQfl
import Derived.Test.YtnfpenhldlfafaaGreatDoorMF
set_option linter.unusedSimpArgs false
set_option linter.unusedVariables false
set_option maxRecDepth 100000
set_option maxHeartbeats 1600000
namespace Go.Proofs.YtnfpenhldlfafaaGreatDoor
open Go.RowKit
abbrev Tr:=Bool×List UInt8×List UInt8
def trq (t:Tr):Rat:=rq t.1 t.2.1 t.2.2
def trc (t:Tr):List Value:=[.bool t.1,vS t.2.1,vS t.2.2]
theorem bM {P:Program} {f:Operand→Value} {o:Oper} (T:TypeId) (x:Operand) (ho:o.op=.load T x) (b off:Nat) (hx:f x=vP b off) {d:TypeDesc} (hu:P.underlying T=some d)
  (hag:(match d with|.struct _|.array _ _=>true|_=>false)=true) (cs:List Value) (X:World) (hc:Cl X b off cs) (hi:(P.info? T).map (·.size)=some cs.length):(execOp f o).run P X=.ok (.value (.agg cs.toArray)) X:=by
 unfold execOp
 simp only [ho,hx,Instr.loadAt,Instr.sureAddr,Sem.run_bind,Sem.run_pure,Result.andThen_ok,cQ T d b off cs hc hu hag hi]
theorem lQ (t:Tr):(trc t).length=3:=rfl
def cK (l:List Tr):Rat:=l.foldl (fun s t=>s+trq t) 0
theorem kW (l:List Tr) (t:Tr):cK (l++[t])=cK l+trq t:=by unfold cK;rw [List.foldl_append];rfl
theorem sT {x:Rat} {B:Nat} {v:Value} {X:World} (h:IsF x B v X):(be x.num.natAbs).length≤B∧(be x.den).length≤B:=by
 obtain ⟨n,p,d,_,hd,rfl,hp,hq⟩:=h;rw [kG n p hd,pD n p hd,mL];exact ⟨gJ (Nat.div_le_self _ _) hp,gJ (Nat.div_le_self _ _) hq⟩
def szR (x:Rat) (B:Nat):Prop:=(be x.num.natAbs).length≤B∧(be x.den).length≤B
theorem lS {x y:Rat} {B B':Nat} (hx:szR x B) (hy:szR y B'):szR (x+y) (B+B'+1):=by
 have key:=yZ (rN x) (rN y) x.num.natAbs y.num.natAbs (Nat.pos_of_ne_zero x.den_nz) (Nat.pos_of_ne_zero y.den_nz);rw [mN,mN] at key;have lpe:=bR hx.1 hy.2;have lqd:=bR hy.1 hx.2;have lde:=bR hx.2 hy.2;have lsum:=gC lpe lqd;have hde:=Nat.mul_pos (Nat.pos_of_ne_zero x.den_nz) (Nat.pos_of_ne_zero y.den_nz)
 have l1:(be (x.num.natAbs * y.den+y.num.natAbs * x.den)).length≤B+B'+1:=by omega
 have mk:∀ (s:Bool) (t:Nat),(be t).length≤B+B'+1→sg (rN x) (x.num.natAbs * y.den)+sg (rN y) (y.num.natAbs * x.den)=sg s t→szR (x+y) (B+B'+1):=fun s t ht hs=>by
  rw [key,hs];exact sT (X:=default) ⟨s,t,x.den * y.den,rfl,hde,rfl,ht,by omega⟩
 have l2:=gJ (Nat.sub_le (x.num.natAbs * y.den) (y.num.natAbs * x.den)) lpe;have l3:=gJ (Nat.sub_le (y.num.natAbs * x.den) (x.num.natAbs * y.den)) lqd
 by_cases hm:rN x=rN y
 ·exact mk (rN y) _ l1 (by rw [hm];exact iK _ _ _)
 ·rcases Nat.lt_or_ge (x.num.natAbs * y.den) (y.num.natAbs * x.den) with h|h
  ·exact mk _ _ (by omega) (kZ hm h)
  ·exact mk _ _ (by omega) (lA hm h)
theorem gX {x y:Rat} {B B':Nat} (hx:szR x B) (hy:szR y B'):szR (x * y) (B+B'):=by
 have key:=sJ (rN x) (rN y) x.num.natAbs y.num.natAbs x.den y.den;rw [mN,mN] at key;rw [key];exact sT (X:=default) ⟨_,_,x.den * y.den,rfl,Nat.mul_pos (Nat.pos_of_ne_zero x.den_nz) (Nat.pos_of_ne_zero y.den_nz),rfl,bR hx.1 hy.1,bR hx.2 hy.2⟩
theorem zE {x:Rat} {B:Nat} (hx:szR x B):szR (-x) B:=by
 unfold szR
 rw [Rat.neg_num,Int.natAbs_neg,Rat.neg_den];exact hx
theorem wG (n:Bool) (p q:List UInt8) {B:Nat} (hp:p.length≤B) (hq:q.length≤B) (h1:1≤B):szR (rq n p q) B:=⟨lenP n p q hp hq h1,lenD n p q hp hq h1⟩
theorem szR_zero:szR 0 1:=⟨by decide,by rw [show (0:Rat).den=1 from rfl,be_one];decide⟩
theorem szR.mono {x:Rat} {B B':Nat} (h:szR x B) (hb:B≤B'):szR x B':=⟨Nat.le_trans h.1 hb,Nat.le_trans h.2 hb⟩
theorem szR.rP {x:Rat} {B:Nat} (h:szR x B):(rP x).length≤B:=h.1
theorem szR.rD {x:Rat} {B:Nat} (h:szR x B):(rD x).length≤B:=by
 unfold Go.Proofs.YtnfpenhldlfafaaGreatDoor.rD
 split
 ·exact Nat.zero_le _
 ·exact h.2
theorem wI {B:Nat} (h1:1≤B):∀ {l:List Tr},(∀ t∈l,t.2.1.length≤B∧t.2.2.length≤B)→∀ k,szR (cK (l.take k)) (k * (B+1)+1)
 | l,_,0=>by rw [List.take_zero,Nat.zero_mul,Nat.zero_add];exact szR_zero
 | l,h,k+1=>by
  have ih:=wI h1 h k
  rcases Nat.lt_or_ge k l.length with hk|hk
  ·rw [gK hk,kW]
   have ht:=h _ (List.getElem_mem hk);refine (lS ih (wG _ _ _ ht.1 ht.2 h1)).mono ?_;rw [Nat.add_mul]
   omega
  ·rw [List.take_of_length_le (by omega),← List.take_of_length_le hk]
   refine ih.mono ?_;rw [Nat.add_mul]
   omega
theorem qXp (A:Option Addr) (n c:Nat) (l:List Tr) (B:Nat) (w:World) (hr:Rd w 3 (.slice A n c) n (fl trc l)) (h1:1≤B) (hlb:∀ t∈l,t.2.1.length≤B∧t.2.2.length≤B) (hn:n * (B+1)+1≤1000000) (hB:B≤1000000):Calls Tryz.prog 70 #[.slice A n c] w fun e w'=>e=.returned (rbv (cK l))∧Since w w':=by
 have hn9:n≤1000000:=by
  have h9:=Nat.mul_le_mul_left n (show 1≤B+1 by omega)
  omega
 have hln:l.length=n:=by
  have h9:=hr.len;rw [jR (m:=3) (fun x _=>lQ x)] at h9
  omega
 have HRX:Hid (∀ X,Since w X→Rd X 3 (.slice A n c) n (fl trc l)):=fun X h=>hr.below h
 have HLN:=Lib.hid hln;have HB:=Lib.hid hlb;clear hln hr hlb
 go_enter Tryz.func70,Tryz.ntmps70
 go_upto_region 2 with fail;obtain ⟨W0,hW0,hB0,hB1,hb⟩:=cI w 23 23 [.bool false,.string ⟨#[]⟩,.string ⟨#[]⟩] [.bool false,.string ⟨#[]⟩,.string ⟨#[]⟩];rw [← hW0];clear hW0;refine jp ?_;refine jm (.slice A n c) ?_;refine jv (vI n) (aJ Tryz.underlying27 _ (by rfl) A n c (by rfl) _ rfl) ?_;refine jm (vI 0) ?_;refine bV hb hB0 hB1 fun X1 hX1 hb hB0 hB1=>?_
 go_wp2
 go_loopw [8] (fun kv wr=>∃ k:Nat,k≤n∧kv=vI k∧Blk wr (w.heap.size+1) 23 [.bool (rN (cK (l.take k))),.string ⟨(rP (cK (l.take k))).toArray⟩,.string ⟨(rD (cK (l.take k))).toArray⟩]∧Blk wr w.heap.size 23 [.bool false,.string ⟨#[]⟩,.string ⟨#[]⟩]∧Below w.heap.size w wr) (fun kv _=>n-(intOf kv).toNat)
 case atStart=>exact ⟨0,by omega,rfl,hB1,hB0,hb⟩
 case round =>
  clear hB0 hB1 hb;obtain ⟨k,hk,rfl,hB1,hB0,hb⟩:=hrel
  rcases Nat.lt_or_ge k n with hlt|hlt
  ·obtain ⟨b,off,x,rfl,hbb,hcx,hxl,hdrop⟩:=(HRX.out _ hb).atF (m:=3) (fun x _=>lQ x) (by omega) (k:=k) (by rw [HLN.out];exact hlt)
   have hS:szR (cK (l.take k)) 1000000:=(wI h1 HB.out k).mono (by have:=Nat.mul_le_mul_right (B+1) hk;omega);have hx1:=HB.out x hxl
   have HNX:Hid (cK (l.take (k+1))=(cK (l.take k))+trq x):=by
    show _=_
    have hk2:k<l.length:=by rw [HLN.out];exact hlt
    have h9:=hdrop.out;rw [List.drop_eq_getElem_cons hk2] at h9
    injection h9 with h9 _
    rw [gK hk2,kW,h9]
   have hSP:=hS.rP;have hSD:=hS.rD;have hgw:=hB1.lt;go_upto_region 3 with fail;refine jp ?_;refine fC (k:Int) (n:Int) (by omega) ?_;refine bV hb hB1 hB0 fun X1 hX1 hb hB1 hB0=>?_;have hcx:=hcx.below hX1 hbb;have hbb:=Nat.lt_of_lt_of_le hbb (hX1).size;go_upto_region 4 with fail;refine jq 2 ?_;refine jv (vP b (off+k * 3)) (aY Tryz.underlying27 aB _ _ (by rfl) b off n c k (by omega) (by rfl) (by rfl) rfl) ?_;refine jg (.agg #[.bool x.1,st x.2.1,st x.2.2]) (fun X hX hF=>bM 23 _ (by rfl) b (off+k * 3) (by rfl) Tryz.underlying23 rfl (trc x) X (hcx.below hX hbb) aB) ?_;refine bV hb hB1 hB0 fun X2 hX2 hb hB1 hB0=>?_;have hcx:=hcx.below hX2 hbb;have hbb:=Nat.lt_of_lt_of_le hbb (hX2).size;go_upto_region 5 with (refine osn 23 5 11 #[.bool x.1,vS x.2.1,vS x.2.2] aB ?_);obtain ⟨Y2,hY9,hD5,hS9⟩:=aZ X2 23 [.bool x.1,vS x.2.1,vS x.2.2];rw [← hY9];clear hY9;have hgs5:=hb.size;have hlt5x0:=hB1.lt;have hlt5x1:=hB0.lt;have hcx:=hcx.below hS9 hbb;have hbb:=Nat.lt_of_lt_of_le hbb (hS9).size;obtain ⟨hB1,hB0⟩:=bl2 hS9 hB1 hB0;have hb:=aG hb hS9;clear hS9;generalize X2.heap.size=g5 at *;refine jq 3 ?_;refine ja hB1 Tryz.underlying23 (by rfl) aB ?_;refine ja hD5 Tryz.underlying23 (by rfl) aB ?_;refine jc (.agg #[.bool (rN ((cK (l.take k))+trq x)),st (rP ((cK (l.take k))+trq x)),st (rD ((cK (l.take k))+trq x))]) (fun X hX hF=>mo (addQ (rN (cK (l.take k))) (rP (cK (l.take k))) (rD (cK (l.take k))) x.1 x.2.1 x.2.2 X hSP hSD (by omega) (by omega)) (by rw [bH];rfl)) ?_
   refine bD hb hB1 hB0 hD5 fun X3 hX3 hb hB1 hB0 hD5=>?_;refine osb 23 3 14 (w.heap.size+1) 23 hB1 [.bool (rN ((cK (l.take k))+trq x)),.string ⟨(rP ((cK (l.take k))+trq x)).toArray⟩,.string ⟨(rD ((cK (l.take k))+trq x)).toArray⟩] aB ?_;intro w9 hR9 hO9 hB9 hs9;have hb:=hB9 _ _ hb (by omega);have hB0:=hO9 _ _ _ (by omega) hB0;rw [← HNX.out] at hR9;clear hO9 hB9 hB1 hD5;go_upto_region 6 with fail;refine jp ?_;refine jv (vI ((k+1:Nat):Int)) (bB _ _ _ _ (by rfl) (k:Int) 1 ((k+1:Nat):Int) (by rfl) (by rfl) (by omega) (by omega) (by omega)) ?_;refine jm (vI ((k+1:Nat):Int)) ?_;refine bZ hb hB0 fun X4 hX4 hb hB0=>?_;have hR9:=hR9.bel hX4
   go_wp2
   go_roundw
   case rel=>exact ⟨k+1,by omega,rfl,hR9,hB0,hb⟩
   case measure=>simp [intOf];omega
  ·obtain rfl:k=n:=by omega
   have HT:Hid (l.take k=l):=List.take_of_length_le (by rw [HLN.out];exact Nat.le_refl _);rw [HT.out] at hB1;have hgw:=hB1.lt;go_upto_region 3 with fail;refine jp ?_;refine fD (k:Int) (k:Int) (by omega) ?_;refine bV hb hB1 hB0 fun X1 hX1 hb hB1 hB0=>?_;go_upto_region 7 with fail;refine jq 1 ?_;refine ja hB1 Tryz.underlying23 (by rfl) aB ?_;refine bV hb hB1 hB0 fun X2 hX2 hb hB1 hB0=>?_;refine osb 23 2 16 w.heap.size 23 hB0 [.bool (rN (cK l)),vS (rP (cK l)),vS (rD (cK l))] aB ?_;intro w9 hR9 hO9 hB9 hs9;have hb9:=hB9 _ _ hb (by omega);clear hO9 hB9
   go_wp2
   refine aX rfl rfl (by rfl) Tryz.underlying23 rfl hR9 aB ⟨rfl,hb9⟩
theorem sumQ (A:Option Addr) (n c:Nat) (l:List Tr) (B:Nat) (w:World) (hr:Rd w 3 (.slice A n c) n (fl trc l)) (h1:1≤B) (hlb:∀ t∈l,t.2.1.length≤B∧t.2.2.length≤B) (hn:n * (B+1)+1≤1000000) (hB:B≤1000000):Calls Tryz.prog 28 #[.slice A n c] w fun e w'=>e=.returned (rbv (cK l))∧Since w w':=by
 have HRX:Hid (∀ X,Since w X→Rd X 3 (.slice A n c) n (fl trc l)):=fun X h=>hr.below h
 have HB:=Lib.hid hlb;clear hr hlb
 go_enter Tryz.func28,Tryz.ntmps28
 go_upto_region 1 with fail;obtain ⟨W0,hW0,hB0,hb⟩:=aZ w 23 [.bool false,.string ⟨#[]⟩,.string ⟨#[]⟩];rw [← hW0];clear hW0;refine jq 2 ?_;refine jm (.slice A n c) ?_;refine jc (rt (rN (cK l)) (rP (cK l)) (rD (cK l))) (fun X hX hF=>qXp A n c l B X (HRX.out X (hb.trans (Below.mono hX hb.size))) h1 HB.out hn hB) ?_;refine bZ hb hB0 fun X1 hX1 hb hB0=>?_;refine osb 23 2 4 w.heap.size 23 hB0 [.bool (rN (cK l)),vS (rP (cK l)),vS (rD (cK l))] aB ?_;intro w9 hR9 hO9 hB9 hs9;have hb9:=hB9 _ _ hb (by omega);clear hO9 hB9
 go_wp2
 refine aX rfl rfl (by rfl) Tryz.underlying23 rfl hR9 aB ⟨rfl,hb9⟩
end Go.Proofs.YtnfpenhldlfafaaGreatDoor

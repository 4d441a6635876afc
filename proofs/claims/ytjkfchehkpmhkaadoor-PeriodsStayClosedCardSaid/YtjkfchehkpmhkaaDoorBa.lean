/- account: the array of sums. -/
import Derived.Test.YtjkfchehkpmhkaaDoorAe
import Derived.Test.YtjkfchehkpmhkaaDoorRf
set_option linter.unusedSimpArgs false
set_option linter.unusedVariables false
set_option maxRecDepth 100000
set_option maxHeartbeats 1600000
namespace Go.Proofs.YtjkfchehkpmhkaaDoor
open Go.RowKit
section
variable {P:Program} {ops:Array Oper} {Q:Exit→Act→World→Prop} {a:Act} {w:World} {n:Nat}
def Qt (n:Nat) (P:Program) (ops:Array Oper) (Q:Exit→Act→World→Prop) (tail:List Oper) (e:Exit) (a:Act) (w:World):Prop :=
 match e with
 | .normal=>wpListIn Fence.wide n P ops Q tail a w
 | e=>Q e a w
theorem nP (hL:¬ LetsOut Q) (tail:List Oper):∀ (l:List Oper) (a:Act) (w:World),wpList P ops (Qt n P ops Q tail) l a w→wpListIn Fence.wide n P ops Q (l++tail) a w
 | [],a,w,h=>h
 | o :: l,a,w,h=>by
  rw [List.cons_append]
  unfold wpListIn
  unfold wpList at h
  split
  ·rename_i hw
   rw [if_pos hw] at h
   rcases h with h|h
   ·refine ⟨fun _ _=>trivial,?_⟩
    rw [show Fence.wide.round=none from rfl,Oper.semAt_none];have h:=Oper.wp_mono (fun a w h=>nP hL tail l a w h) h
    unfold Oper.wp at h
    generalize (execOp a.eval o).run P w=res at h ⊢
    cases res with
    | ok x w' =>
     cases x <;> simp only [Oper.upon,Oper.uponIn] at h ⊢
     case value v=>exact h
     case skip=>exact h
     case defer d=>exact h
     case enter f args=>exact ⟨fun h9=>(by cases h9),CallsIn.mono (callsIn_wide.2 h) fun e w'' he=>by cases e <;> exact he⟩
     case row row args =>
      exact ⟨fun h9=>(by cases h9),fun c cs _=>by
       obtain ⟨v,w'',hR,hs⟩:=h c cs
       exact ⟨v,w'',hR,stepsIn_wide.2 hs⟩⟩
    | halt x w' =>
     cases x <;> simp only [Oper.upon,Oper.uponIn] at h ⊢
     case panic v=>exact h
   ·exact (hL h.2).elim
  ·rename_i hw
   rw [if_neg hw] at h;exact ⟨fun _ _=>trivial,nP hL tail l _ _ h⟩
theorem jY {l:List Oper} {id:Nat} {Q':Exit→Act→World→Prop} {a:Act} {w:World} (k:Nat) (ss:List cB) (hL:¬ LetsOut Q') (hst:∀ S,some S∈ss→∀ v X Y,S v X→Since X Y→S v Y)
  (h:bQ P l.toArray Since w (wpListIn Fence.wide n P l.toArray Q' (l.drop k)) (fun _ _=>true) (its 0 (l.take k) ss) [] a):(Code.region id l.toArray false).wpIn Fence.wide n P Q' a w:=by
 refine wpIn_region_lit ?_
 have hq:=eR (Q':=Qt n P l.toArray Q' (l.drop k)) (tail:=[]) (fun _ _ h h'=>Since.next h h') (its 0 (l.take k) ss) [] a w (fun it hit S hS=>by
  rcases ((fP 0 (l.take k) ss).2.1 it hit).2.2 with h'|h'
  ·rw [hS] at h'
   cases h'
  ·rw [hS] at h'
   exact hst S h') (fun p F hp=>by cases hp) (show Since w w from Below.refl w.heap.size w) h.out
 rw [mL,List.append_nil] at hq;have:=nP hL (l.drop k) (l.take k) a w hq
 rwa [List.take_append_drop] at this
end
theorem Rd.but {X Y:World} {m sz n k c:Nat} {T:Nat→Prop} {A:Option Addr} {xs:List Value} (h:Rd X sz (.slice A n c) k xs) (hB:But m T X Y) (hA:∀ b off,A=some ⟨b,off,none⟩→b<m∧¬ T b):Rd Y sz (.slice A n c) k xs:=by
 obtain ⟨hl,A2,c2,hv,hc,hm,hz,hx⟩:=h;refine ⟨hl,A2,c2,hv,hc,hm,hz,fun hn=>?_⟩;obtain ⟨b,off,hA2,hb,hcell⟩:=hx hn
 injection hv with e1 e2 e3
 have h9:=hA b off (e1.trans hA2);refine ⟨b,off,hA2,Nat.lt_of_lt_of_le hb hB.size,fun j u hj=>?_⟩;exact (World.cell?_of_block (w:=X) (a:=⟨b,off+j,none⟩) (hB.block b h9.1 h9.2)).trans (hcell j u hj)
def Bti (c:Int) (v:Value) (f t:Int) (B:Nat) (vf:Value) (X:World):Prop:=∃ g1 g2 g3,vf=.func (.func 66) #[] #[vP g1 0,vP g2 0,vP g3 0]∧B≤g1∧B≤g2∧B≤g3∧Blk X g1 28 [vI c,v]∧Blk X g2 3 [vI t]∧Blk X g3 3 [vI f]
theorem Bti.lasts (c:Int) (v:Value) (f t:Int) (B:Nat):dM (Bti c v f t B):=by
 rintro vf X Y ⟨g1,g2,g3,h1,h2,h3,h4,h5,h6,h7⟩ hS
 exact ⟨g1,g2,g3,h1,h2,h3,h4,h5.bel hS,h6.bel hS,h7.bel hS⟩
theorem betC (c f t:Int) (A:Option Addr) (n cp:Nat) (w:World):Calls Tryd.prog 50 #[.agg #[vI c,.slice A n cp],vI f,vI t] w fun e w'=>∃ vf,e=.returned vf∧Bti c (.slice A n cp) f t w.heap.size vf w'∧Since w w':=by
 go_enter Tryd.func50,Tryd.ntmps50
 go_upto_region 1 with fail;obtain ⟨W0,hW0,hB0,hB1,hB2,hb⟩:=bV w 28 3 3 [vI c,.slice A n cp] [vI f] [vI t];rw [← hW0];clear hW0;refine jp ?_;refine jv (.func (.func 66) #[] #[vP w.heap.size 0,vP (w.heap.size+2) 0,vP (w.heap.size+1) 0]) (nS 66 [.tmp 3,.tmp 5,.tmp 4] [vP w.heap.size 0,vP (w.heap.size+2) 0,vP (w.heap.size+1) 0] (by rfl) (by rfl)) ?_;refine jm (.func (.func 66) #[] #[vP w.heap.size 0,vP (w.heap.size+2) 0,vP (w.heap.size+1) 0]) ?_;refine jzb hb fun X1 hX1 hb=>?_;obtain ⟨hB0,hB1,hB2⟩:=bl3 hX1 hB0 hB1 hB2
 go_wp2
 go_ret
 exact ⟨_,rfl,⟨w.heap.size,w.heap.size+2,w.heap.size+1,rfl,Nat.le_refl _,by omega,by omega,hB0,hB2,hB1⟩,hb⟩
theorem btIt (c:Int) (A:Option Addr) (n cp:Nat) (l:List En) (f t:Int) (T:Nat→Prop) (w:World) (g1 g2 g3:Nat) (hln:l.length=n) (hn1:n≤9223372036854775807) (hr:Rd w 13 (.slice A n cp) n (fl enc l)) (HK:Hid (Ok44 c l)) (hB1:Blk w g1 28 [vI c,.slice A n cp]) (hB2:Blk w g2 3 [vI t]) (hB3:Blk w g3 3 [vI f]) (hT:∀ k,T k→k<w.heap.size) (hT1:¬ T g1) (hT2:¬ T g2) (hT3:¬ T g3) (hTb:0<n→∀ b off,A=some ⟨b,off,none⟩→¬ T b):vVv Tryd.prog 66 #[vP g1 0,vP g2 0,vP g3 0] (fun k=>#[vI ((cl l f+k:Nat):Int),.agg (enc (en l (cl l f+k))).toArray]) (nb l f t) T w:=by
 intro y9 J W hW hJ hJ0 hY;have hB1:Blk W g1 28 [vI c,.slice A n cp]:=hB1.bel hW;have hB2:Blk W g2 3 [vI t]:=hB2.bel hW;have hB3:Blk W g3 3 [vI f]:=hB3.bel hW;have hrd:Rd W 13 (.slice A n cp) n (fl enc l):=hr.below hW
 have hTW:∀ k,T k→k<W.heap.size:=fun k hk=>Nat.lt_of_lt_of_le (hT k hk) hW.size
 clear hT hW hr;have HRW:=Lib.hid hrd;have HLN:=Lib.hid hln;refine qP Tryd.func66 rfl ?_;simp only [Tryd.ntmps66,List.size_toArray,List.length_cons,List.length_nil,Nat.reduceAdd,Nat.reduceSub,Array.replicate_succ,Array.replicate_zero,List.push_toArray,List.append_toArray,List.nil_append,List.cons_append];have hb:Below W.heap.size W W:=Below.refl _ _;go_upto_region 0 with fail;refine jp ?_;refine jn (vP g1 1) ?_;refine jf _ hB1 1 aZ ?_;refine jv (vI n) (aJ Tryd.underlying26 _ (by rfl) A n cp (by rfl) _ rfl) ?_;refine jm (vI 0) ?_;refine jzb hb fun X1 hX1 hb=>?_;replace hrd:=Rd.below hrd hX1;obtain ⟨hB1,hB2,hB3⟩:=bl3 hX1 hB1 hB2 hB3;obtain ⟨m0,hm0⟩:∃ m0,m0=X1.heap.size:=⟨_,rfl⟩
 have hmW:W.heap.size≤m0:=by rw [hm0];exact hb.size
 have hms:m0≤X1.heap.size:=by omega
 have hJS:J m0 (0-cl l f) X1:=by rw [Nat.zero_sub];exact hJ0 m0 X1 hmW hb
 have hg1:g1<m0:=by rw [hm0];exact hB1.lt
 have hg2:g2<m0:=by rw [hm0];exact hB2.lt
 have hg3:g3<m0:=by rw [hm0];exact hB3.lt
 clear hm0
 go_wp2
 go_loopw [10] (fun kv wr=>∃ k:Nat,k≤n∧k≤cl l (t+1)∧kv=vI k∧m0≤wr.heap.size∧J m0 (k-cl l f) wr∧Blk wr g1 28 [vI c,.slice A n cp]∧Blk wr g2 3 [vI t]∧Blk wr g3 3 [vI f]∧Rd wr 13 (.slice A n cp) n (fl enc l)) (fun kv _=>n-(intOf kv).toNat)
 case atStart=>exact ⟨0,by omega,by omega,rfl,hms,hJS,hB1,hB2,hB3,hrd⟩
 case round =>
  clear hB1 hB2 hB3 hrd hJS hms hb;obtain ⟨k,hk,hkt,rfl,hms,hJt,hB1,hB2,hB3,hrd⟩:=hrel
  rcases Nat.lt_or_ge k n with hlt|hlt
  ·have hb:Below wr.heap.size wr wr:=Below.refl _ _
   obtain ⟨b,off,rfl,hbb,hcx⟩:=iW hrd HLN.out hlt;have hbW:b<m0:=Nat.lt_of_lt_of_le (vD HRW.out HLN.out hlt).1 hmW;have hTB:¬ T b:=hTb (by omega) b off rfl;have hcf:=kN HK.out (d:=f) (k:=k) (by rw [HLN.out];exact hlt);have hct:=kN HK.out (d:=t+1) (k:=k) (by rw [HLN.out];exact hlt);obtain ⟨x,x9⟩:∃ x,x=en l k:=⟨_,rfl⟩;have HX:=Lib.hid x9;clear x9;rw [← HX.out] at hcx hcf hct
   change Cl wr b (off+k * 13) (eL x) at hcx
   go_upto_region 1 with fail;refine jp ?_;refine cW (k:Int) (n:Int) (by omega) ?_;refine jzb hb fun X1 hX1 hb=>?_;replace hrd:=Rd.below hrd hX1;obtain ⟨hB1,hB2,hB3⟩:=bl3 hX1 hB1 hB2 hB3;have hcx:=hcx.below hX1 hbb;replace hbb:=Nat.lt_of_lt_of_le hbb (hX1).size;go_upto_region 2 with fail;refine jq 3 ?_;refine jm (vI k) ?_;refine jv (vP b (off+k * 13)) (aW Tryd.underlying26 aR _ _ (by rfl) b (off) n cp k (by omega) (by rfl) (by rfl) rfl) ?_;refine jg (.agg #[vI x.day,vI x.deb,vI x.cre,.bool x.am.1,st x.am.2.1,st x.am.2.2,vI x.kd,vI x.pd,vI x.rf,vI x.w1,vI x.w2,vI x.w3,vI x.w4]) (fun X hX hF=>bY 70 _ (by rfl) b (off+k * 13) (by rfl) Tryd.underlying70 rfl (eL x) X (Cl.part (hcx.below hX hbb) 0 _ (by rfl)) aR) ?_;refine jzb hb fun X2 hX2 hb=>?_;replace hrd:=Rd.below hrd hX2;obtain ⟨hB1,hB2,hB3⟩:=bl3 hX2 hB1 hB2 hB3;have hcx:=hcx.below hX2 hbb;replace hbb:=Nat.lt_of_lt_of_le hbb (hX2).size;go_upto_region 3 with (refine osn 70 6 14 #[vI x.day,vI x.deb,vI x.cre,.bool x.am.1,vS x.am.2.1,vS x.am.2.2,vI x.kd,vI x.pd,vI x.rf,vI x.w1,vI x.w2,vI x.w3,vI x.w4] aR ?_)
   obtain ⟨Y2,hY9,hD6,hS9⟩:=aT X2 70 (eL x);rw [← hY9];clear hY9;have hgs6:=hb.size;have hlt6x0:=hB1.lt;have hlt6x1:=hB2.lt;have hlt6x2:=hB3.lt;replace hrd:=Rd.below hrd hS9;have hcx:=hcx.below hS9 hbb;replace hbb:=Nat.lt_of_lt_of_le hbb (hS9).size;obtain ⟨hB1,hB2,hB3⟩:=bl3 hS9 hB1 hB2 hB3;have hb:=aD hb hS9;clear hS9;generalize X2.heap.size=g6 at *
   rcases (show t<x.day∨x.day≤t by omega) with ht|ht
   ·go_upto_region 3 with fail
    refine jp ?_;refine jn (vP g6 0) ?_;refine jf _ hD6 0 aB ?_;refine jf _ hB2 0 aB ?_;refine dN x.day t (by omega) ?_;refine jzb hb fun X3 hX3 hb=>?_;replace hrd:=Rd.below hrd hX3;obtain ⟨hB1,hB2,hB3,hD6⟩:=bl4 hX3 hB1 hB2 hB3 hD6
    have hnb:nb l f t=k-cl l f:=by unfold nb;omega
    have hJE:J m0 (nb l f t) X3:=by rw [hnb];exact hJ _ _ _ _ hJt hb
    go_wp2
    refine bodyPost_ret (results_none rfl _ _ _) rfl ?_;exact ⟨⟨_,rfl⟩,m0,hmW,hJE⟩
   ·go_upto_region 3 with fail
    refine jp ?_;refine jn (vP g6 0) ?_;refine jf _ hD6 0 aB ?_;refine jf _ hB2 0 aB ?_;refine dF x.day t (by omega) ?_;refine jzb hb fun X3 hX3 hb=>?_;replace hrd:=Rd.below hrd hX3;obtain ⟨hB1,hB2,hB3,hD6⟩:=bl4 hX3 hB1 hB2 hB3 hD6
    rcases (show x.day<f∨f≤x.day by omega) with hf|hf
    ·have HJ2:Hid (∀ X,Since wr X→J m0 (k+1-cl l f) X):=fun X h=>by
      rw [show k+1-cl l f=k-cl l f by omega];exact hJ _ _ _ _ hJt h
     go_upto_region 4 with fail;refine jp ?_;refine jn (vP g6 0) ?_;refine jf _ hD6 0 aB ?_;refine jf _ hB3 0 aB ?_;refine mK x.day f (by omega) ?_;refine jm (.bool false) ?_;refine js ?_;refine js ?_;refine js ?_;refine js ?_;refine js ?_;refine jm (.bool false) ?_;refine jzb hb fun X4 hX4 hb=>?_;replace hrd:=Rd.below hrd hX4;obtain ⟨hB1,hB2,hB3,hD6⟩:=bl4 hX4 hB1 hB2 hB3 hD6;go_upto_region 5 with fail;refine jp ?_;refine jv (vI ((k+1:Nat):Int)) (aX _ _ _ _ (by rfl) (k:Int) 1 ((k+1:Nat):Int) (by rfl) (by rfl) (by omega) (by omega) (by omega)) ?_;refine jm (vI ((k+1:Nat):Int)) ?_;refine jzb hb fun X5 hX5 hb=>?_;replace hrd:=Rd.below hrd hX5;obtain ⟨hB1,hB2,hB3,hD6⟩:=bl4 hX5 hB1 hB2 hB3 hD6;have hms2:=Nat.le_trans hms hb.size;have hJ3:=HJ2.out _ hb
     go_wp2
     go_roundw
     case rel=>exact ⟨k+1,by omega,by omega,rfl,hms2,hJ3,hB1,hB2,hB3,hrd⟩
     case measure=>simp [intOf];omega
    ·go_upto_region 4 with fail
     refine (wpIn_wide (n:=0)).1 ?_;refine jY 8 [] (by rintro ⟨_,_,⟨_,h9⟩,_⟩;cases h9) (aG) ?_;simp only [its,List.take,List.drop,Nat.zero_add,Nat.reduceAdd];refine jn (vP g6 0) ?_;refine jf _ hD6 0 aB ?_;refine jf _ hB3 0 aB ?_;refine kC x.day f (by omega) ?_;refine jm (.bool true) ?_;refine jm (.func (.yield y9) #[] #[]) ?_;refine jm (vI k) ?_;refine ja hD6 Tryd.underlying70 (by rfl) aR ?_;refine aI ?_;intro X9 hX9 _;have hbX:=Since.next hb hX9;have hms9:=Nat.le_trans hms hbX.size;have HYX:=hY m0 (k-cl l f) X9 hmW hms9 (by unfold nb;omega) (hJ _ _ _ _ hJt hbX);rw [show cl l f+(k-cl l f)=k by omega,← HX.out] at HYX;refine pT (S:=fun Y=>J m0 (k-cl l f+1) Y∧But m0 T X9 Y) (by rfl) (.tmp 24) [.tmp 25,.tmp 26] _ rfl y9 rfl [vI k,.agg #[vI x.day,vI x.deb,vI x.cre,.bool x.am.1,vS x.am.2.1,vS x.am.2.2,vI x.kd,vI x.pd,vI x.rf,vI x.w1,vI x.w2,vI x.w3,vI x.w4]] rfl HYX fun Y hJB=>?_;obtain ⟨hJ2,hB9⟩:=hJB;refine iP (by rintro ⟨_,_,⟨_,h9⟩,_⟩;cases h9) _ _ _ ?_;replace hB1:=hB9.blk (hB1.bel hX9) hg1 hT1;replace hB2:=hB9.blk (hB2.bel hX9) hg2 hT2;replace hB3:=hB9.blk (hB3.bel hX9) hg3 hT3;replace hrd:=Rd.but (hrd.below hX9) hB9 (fun b' off' h9=>by injection h9 with h9;injection h9 with h8 h7;subst h8;exact ⟨hbW,hTB⟩)
     have hmsY:=Nat.le_trans hms9 hB9.size;clear hb hB9 HYX hJt hms9 hms hX9 hbX hD6;have hb:Below Y.heap.size Y Y:=Below.refl _ _
     have HJ2:Hid (∀ X,Since Y X→J m0 (k+1-cl l f) X):=fun X h=>by
      rw [show k+1-cl l f=k-cl l f+1 by omega];exact hJ _ _ _ _ hJ2 h
     clear hJ2;go_upto_region 5 with fail;refine jp ?_;refine jv (vI ((k+1:Nat):Int)) (aX _ _ _ _ (by rfl) (k:Int) 1 ((k+1:Nat):Int) (by rfl) (by rfl) (by omega) (by omega) (by omega)) ?_;refine jm (vI ((k+1:Nat):Int)) ?_;refine jzb hb fun X4 hX4 hb=>?_;replace hrd:=Rd.below hrd hX4;obtain ⟨hB1,hB2,hB3⟩:=bl3 hX4 hB1 hB2 hB3;have hms2:=Nat.le_trans hmsY hb.size;have hJ3:=HJ2.out _ hb
     go_wp2
     go_roundw
     case rel=>exact ⟨k+1,by omega,by omega,rfl,hms2,hJ3,hB1,hB2,hB3,hrd⟩
     case measure=>simp [intOf];omega
  ·have hb:Below wr.heap.size wr wr:=Below.refl _ _
   have hle:=vF l (t+1);rw [HLN.out] at hle;go_upto_region 1 with fail;refine jp ?_;refine bR (k:Int) (n:Int) (by omega) ?_;refine jzb hb fun X1 hX1 hb=>?_;replace hrd:=Rd.below hrd hX1;obtain ⟨hB1,hB2,hB3⟩:=bl3 hX1 hB1 hB2 hB3
   have hnb:nb l f t=k-cl l f:=by unfold nb;omega
   have hJE:J m0 (nb l f t) X1:=by rw [hnb];exact hJ _ _ _ _ hJt hb
   go_wp2
   go_end0
   exact ⟨⟨_,rfl⟩,m0,hmW,hJE⟩
theorem vQh:rc 0=[.bool false,.string ⟨#[]⟩,.string ⟨#[]⟩]:=by
 have h1:rN 0=false:=by decide +kernel
 have h2:rP 0=[]:=by decide +kernel
 have h3:rD 0=[]:=by decide +kernel
 unfold rc trc tr
 rw [h1,h2,h3]
theorem qQx:Tryd.zeroCells89=(List.replicate 100 [Value.bool false,.string ⟨#[]⟩,.string ⟨#[]⟩]).flatten.toArray:=by kernel_rfl
theorem xD:Tryd.zeroCells89=(fl rc (List.replicate 100 0)).toArray:=by
 have h:fl rc (List.replicate 100 0)=(List.replicate 100 [Value.bool false,.string ⟨#[]⟩,.string ⟨#[]⟩]).flatten:=by
  unfold fl
  rw [List.map_replicate,vQh]
 rw [h];exact qQx
theorem fT {f:Operand→Value} {o:Oper} (x i:Operand) (ho:o.op=.indexAddr 89 x i) (g k:Nat) (hk:k<100) (hx:f x=vP g 0) {z:Int} (hi:f i=vI z) (hz:z=(k:Int)) (w:World):(execOp f o).run Tryd.prog w=.ok (.value (vP g (0+k * 3))) w:=by
 subst hz
 unfold execOp
 simp only [ho,hx,hi]
 go_simp
 intro h9;exact absurd h9 (by omega)
theorem oX {T:TypeId} {l:List Rat} {g k:Nat} {X:World} (h:Blk X g T (fl rc l)) (hk:k<l.length):Cl X g (0+k * 3) (rc (yq l k)):=by
 have h1:=tA (g:=rc) (m:=3) (l:=l) (fun x _=>jV x) (List.drop_eq_getElem_cons hk);rw [← tO hk] at h1;exact Cl.part h.cl (k * 3) _ (by rw [jV];exact h1)
theorem gC {T:TypeId} {w:World} {ops:Array Oper} {rest:List Oper} {o:Oper} {a:Act} {Q:Exit→Act→World→Prop} (hgd:o.guard=none) (p x:Operand) (ho:o.op=.store 39 p x) (g:Nat) (l:List Rat) (hB:Blk w g T (fl rc l)) (k:Nat) (hk:k<l.length)
  (hp:a.eval p=vP g (0+k * 3)) (y:Rat) (hx:a.eval x=rbv y)
  (h:∀ w',Blk w' g T (fl rc (l.set k y))→w.grownBy w' (some g)→wpList Tryd.prog ops Q rest (a.put o.dst undef) w'):wpList Tryd.prog ops Q (o :: rest) a w:=by
 refine cO hgd 39 p x ho g T (fl rc l) hB (k * 3) (by rw [hp,Nat.zero_add]) (rc y) hx (by rw [oQ,jV];omega) (by
  intro u hu;simp only [rc,trc,List.mem_cons,List.not_mem_nil,or_false] at hu
  rcases hu with rfl|rfl|rfl <;> rfl) (by rw [jV];exact aF) fun w' h2 h3 _=>h w' ?_ h3
 have h4:=vQz jV hk y;rw [jV] at h2
 rwa [h4] at h2
theorem qC:(Tryd.prog.info? 89).map (·.size)=some 300:=by kernel_rfl
end Go.Proofs.YtjkfchehkpmhkaaDoor

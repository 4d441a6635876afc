/- account: Trace. -/
import Derived.Test.YtffgfkcljcollaaGreatDoorBf
import Derived.Test.YtffgfkcljcollaaGreatDoorLp
set_option linter.unusedSimpArgs false
set_option linter.unusedVariables false
set_option maxRecDepth 100000
set_option maxHeartbeats 1600000
namespace Go.Proofs.YtffgfkcljcollaaGreatDoor
open Go.RowKit
theorem vVd {c:Int} {l:List En} {a day:Int} (h:blE c l a day=0):Ok44 c l∧0≤a∧a<c∧0≤day∧day≤14609:=by
 unfold blE at h
 split at h
 ·rename_i h1
  exact absurd h h1
 ·rename_i h1
  split at h
  ·cases h
  ·exact ⟨acE_ok.1 (Decidable.of_not_not h1),by omega,by omega,by omega,by omega⟩
theorem vE {c:Int} {l:List En} (h:Ok44 c l):cl l 0=0:=by
 rcases Nat.eq_zero_or_pos (cl l 0) with h1|h1
 ·exact h1
 ·have h2:=mI l 0
  have h3:=(gA h (d:=0) (k:=0) (by omega)).2 h1;have h4:=(h.rg (k:=0) (by omega)).y0
  omega
theorem qZy {c:Int} {l:List En} (h:Ok44 c l) (a t:Int):plN l a t (nb l 0 t)=plA l a t:=by
 have h0:=vE h;have h1:=mI l (t+1)
 have h2:nb l 0 t=cl l (t+1):=by unfold nb;omega
 have h3:=uO h (a:=a) (t:=t) (n:=cl l (t+1)) (m:=l.length-cl l (t+1)) (by omega) (fun h4=>by
  have h5:=gA h (d:=t+1) h4
  rcases Int.lt_or_le t (en l (cl l (t+1))).day with h6|h6
  ·exact h6
  ·exact absurd (h5.1 (by omega)) (by omega))
 rw [h2,← h3]
 unfold plA
 congr 1
 omega
theorem sG {f:Operand→Value} {o:Oper} (x y:Operand) (ho:o.op=.store 58 x y) (g j:Nat) {A:Option Addr} {n c:Nat} (hx:f x=vP g j) (hy:f y=.slice A n c) (u:Value) (X:World) (hc:X.cell? ⟨g,j,none⟩=some u) (hf:X.frozen? ⟨g,j,none⟩=false) :
  (execOp f o).run Tryz.prog X=.ok .skip (X.setCell ⟨g,j,none⟩ (.slice A n c)):=by
 unfold execOp
 simp only [ho,hx,hy]
 go_simp
theorem rZ:(Tryz.prog.info? 3).map (fun i=>(i.zero,i.size,i.bytes))=some (some (vI 0),1,8):=by kernel_rfl
structure TrI (w:World) (l:List En) (a t:Int) (g10:Nat) (m k:Nat) (X:World):Prop where
 out:∃ A c,Blk X g10 58 [.slice A (plN l a t k).length c]∧X.ownsRow m 3 1 (.slice A (plN l a t k).length c) (plN l a t k).length ((plN l a t k).map I64)
 ac:Blk X (w.heap.size+1) 3 [vI a]
 bel:Below w.heap.size w X
theorem TrI.kept {w:World} {l:List En} {a t:Int} {g10 m k B:Nat} {X Y:World} (h:TrI w l a t g10 m k X) (hK:Kept B X Y) (hB:w.heap.size≤B):TrI w l a t g10 m k Y:=by
 obtain ⟨⟨A,c,h1,h2⟩,h3,h5⟩:=h;exact ⟨⟨A,c,hK.blk h1,hK.owns h2⟩,hK.blk h3,hK.below h5 hB⟩
theorem trc0 (c:Int) (v:Value) (l:List En) (a day:Int) (w:World) (hv:Es l v w) (hs1:Hid (∀ k,tz (en l k).am.2.1 (en l k).am.2.2 100)) (h0:blE c l a day≠0):Calls Tryz.prog 12 #[.agg #[vI c,v],vI a,vI day] w fun e w'=>∃ u,e=.returned u∧Tp (Ks (trL c l a day)) (blE c l a day) u w'∧Since w w':=by
 obtain ⟨z,z9⟩:∃ z,blE c l a day=z:=⟨_,rfl⟩;have HZ:=Lib.hid z9
 have hz0:z≠0:=by rw [← z9];exact h0
 clear z9 h0
 have HL:Hid (trL c l a day=[]):=by
  show _=_
  unfold trL
  rw [HZ.out,if_neg hz0]
 obtain ⟨A,n,cp,rfl,hln,hn1,hr⟩:=hv.at;clear hv;have HRX:=bV hr;have HLN:=Lib.hid hln;clear hr;have HES:=cA HLN HRX;refine jJ Tryz.func12 rfl ?_;simp only [Tryz.ntmps12,List.size_toArray,List.length_cons,List.length_nil,Nat.reduceAdd,Nat.reduceSub,Array.replicate_succ,Array.replicate_zero,List.push_toArray,List.append_toArray,List.nil_append,List.cons_append];go_upto_region 1 with fail;obtain ⟨W0,hW0,hB0,hB1,hb⟩:=bL w 24 3 [vI c,.slice A n cp] [vI a];rw [← hW0];clear hW0;refine jq 7 ?_;refine ja hB0 Tryz.underlying24 (by rfl) aE ?_;refine jf _ hB1 0 aB ?_;refine jm (vI day) ?_;refine jc (.tuple #[rt (rN (blV c l a day)) (rP (blV c l a day)) (rD (blV c l a day)),vI z]) (fun X hX hF=>mo (qXt c _ l a day X (HES.out X (Since.next hb hX)) hs1) (by rw [HZ.out])) ?_;refine jm (.tuple #[rt (rN (blV c l a day)) (rP (blV c l a day)) (rD (blV c l a day)),vI z]) ?_;refine jm (rt (rN (blV c l a day)) (rP (blV c l a day)) (rD (blV c l a day))) ?_;refine jm (vI z) ?_;refine jzb hb fun X1 hX1 hb=>?_;obtain ⟨hB0,hB1⟩:=bl2 hX1 hB0 hB1;go_upto_region 2 with (refine osn 26 8 18 #[.bool (rN (blV c l a day)),vS (rP (blV c l a day)),vS (rD (blV c l a day))] aC ?_);obtain ⟨Y1,hY9,hD8,hS9⟩:=aQ X1 26 [.bool (rN (blV c l a day)),vS (rP (blV c l a day)),vS (rD (blV c l a day))];rw [← hY9];clear hY9;have hgs8:=hb.size
 have hlt8x0:=hB0.lt;have hlt8x1:=hB1.lt;obtain ⟨hB0,hB1⟩:=bl2 hS9 hB0 hB1;have hb:=aF hb hS9;clear hS9;generalize X1.heap.size=g8 at *;go_upto_region 2 with fail;refine jp ?_;refine jm (vI z) ?_;refine jv (.bool true) (aS _ _ _ _ (by rfl) .i64 z 0 (by rfl) (by rfl) true (by rw [decide_eq_false (by omega)];rfl)) ?_;refine jzb hb fun X2 hX2 hb=>?_;obtain ⟨hB0,hB1,hD8⟩:=bl3 hX2 hB0 hB1 hD8;go_upto_region 3 with fail;refine jp ?_;refine jm (vI z) ?_;refine jm (.slice none 0 0) ?_;refine jm (vI z) ?_;refine jzb hb fun X3 hX3 hb=>?_;obtain ⟨hB0,hB1,hD8⟩:=bl3 hX3 hB0 hB1 hD8
 go_wp2
 refine qZr (fun X=>results_tmp2 rfl _ _ _) rfl ?_;exact ⟨_,rfl,⟨.slice none 0 0,by rw [HZ.out];rfl,by rw [HL.out];exact zI _⟩,hb⟩
theorem yF {X:World} {base n:Nat} {v:Value} {xs:List Value} {g:Nat} {cs:List Value} (h:X.ownsRow base 3 1 v n xs) (hB:Blk X g 32 cs) (hT:(3 == 32)=false):v.ownBlock≠some g:=by
 intro h9
 rcases h.2 with ⟨rfl,_⟩|⟨g',cap,cur,rfl,hb,hg,_⟩
 ·cases h9
 ·have h8:g'=g:=by simpa [Value.ownBlock] using h9
  subst h8;have h7:X.heap[g']?=some (.cells cs.toArray 32 (0,0)):=hB;rw [h7] at hg
  injection hg with hg
  injection hg with _ h6 _
  rw [h6] at hT
  simp at hT
theorem trc1 (c:Int) (v:Value) (l:List En) (a day:Int) (w:World) (hv:Es l v w) (hs1:Hid (∀ k,tz (en l k).am.2.1 (en l k).am.2.2 100)) (HC:Hid (blE c l a day=0)):Calls Tryz.prog 12 #[.agg #[vI c,v],vI a,vI day] w fun e w'=>∃ u,e=.returned u∧Tp (Ks (trL c l a day)) (blE c l a day) u w'∧Since w w':=by
 obtain ⟨hK9,ha0,ha1,hd0,hd1⟩:=vVd HC.out;have HK:=Lib.hid hK9
 have HL:Hid (trL c l a day=plA l a day):=by
  show _=_
  unfold trL
  rw [HC.out,if_pos rfl]
 have HC0:=Lib.hid (vE hK9);have hlen4:=hK9.len;clear hK9;obtain ⟨A,n,cp,rfl,hln,hn1,hr⟩:=hv.at;clear hv;have HRX:=bV hr;have HLN:=Lib.hid hln;clear hr;have HES:=cA HLN HRX;refine jJ Tryz.func12 rfl ?_;simp only [Tryz.ntmps12,List.size_toArray,List.length_cons,List.length_nil,Nat.reduceAdd,Nat.reduceSub,Array.replicate_succ,Array.replicate_zero,List.push_toArray,List.append_toArray,List.nil_append,List.cons_append];go_upto_region 1 with fail;obtain ⟨W0,hW0,hB0,hB1,hb⟩:=bL w 24 3 [vI c,.slice A n cp] [vI a];rw [← hW0];clear hW0;refine jq 7 ?_;refine ja hB0 Tryz.underlying24 (by rfl) aE ?_;refine jf _ hB1 0 aB ?_;refine jm (vI day) ?_;refine jc (.tuple #[rt (rN (blV c l a day)) (rP (blV c l a day)) (rD (blV c l a day)),vI 0]) (fun X hX hF=>mo (qXt c _ l a day X (HES.out X (Since.next hb hX)) hs1) (by rw [HC.out])) ?_;refine jm (.tuple #[rt (rN (blV c l a day)) (rP (blV c l a day)) (rD (blV c l a day)),vI 0]) ?_;refine jm (rt (rN (blV c l a day)) (rP (blV c l a day)) (rD (blV c l a day))) ?_;refine jm (vI 0) ?_;refine jzb hb fun X1 hX1 hb=>?_;obtain ⟨hB0,hB1⟩:=bl2 hX1 hB0 hB1;go_upto_region 2 with (refine osn 26 8 18 #[.bool (rN (blV c l a day)),vS (rP (blV c l a day)),vS (rD (blV c l a day))] aC ?_);obtain ⟨Y1,hY9,hD8,hS9⟩:=aQ X1 26 [.bool (rN (blV c l a day)),vS (rP (blV c l a day)),vS (rD (blV c l a day))]
 rw [← hY9];clear hY9;have hgs8:=hb.size;have hlt8x0:=hB0.lt;have hlt8x1:=hB1.lt;obtain ⟨hB0,hB1⟩:=bl2 hS9 hB0 hB1;have hb:=aF hb hS9;clear hS9;generalize X1.heap.size=g8 at *;go_upto_region 2 with fail;refine jp ?_;refine jm (vI 0) ?_;refine jv (.bool false) (aS _ _ _ _ (by rfl) .i64 0 0 (by rfl) (by rfl) false (by rw [decide_eq_true (by omega)];rfl)) ?_;refine jzb hb fun X2 hX2 hb=>?_;obtain ⟨hB0,hB1,hD8⟩:=bl3 hX2 hB0 hB1 hD8;go_upto_region 5 with fail;obtain ⟨Y2,hY9,hD10,hS9⟩:=aQ X2 58 [.slice none 0 0];rw [← hY9];clear hY9;have hgs10:=hb.size;have hlt10x0:=hB0.lt;have hlt10x1:=hB1.lt;have hlt10x2:=hD8.lt;obtain ⟨hB0,hB1,hD8⟩:=bl3 hS9 hB0 hB1 hD8;have hb:=aF hb hS9;clear hS9;generalize X2.heap.size=g10 at *;refine bE [none,none,some (Bti c (.slice A n cp) 0 day (g10+1))] (aA (aA (aD (Bti.lasts _ _ _ _ _) (aG)))) ?_;simp only [iX,Nat.reduceAdd];refine ja hB0 Tryz.underlying24 (by rfl) aE ?_;refine jm (vI day) ?_;refine jk (fun X hX hF=>(betC c 0 day A n cp X).mono fun e X' ⟨vf,h1,⟨q1,q2,q3,h4,h5,h6,h7,h8⟩,h3⟩=>⟨vf,h1,⟨q1,q2,q3,h4,by have:=(hD10.bel hX).lt;omega,by have:=(hD10.bel hX).lt;omega,by have:=(hD10.bel hX).lt;omega,h8⟩,h3⟩) ?_;intro v25;refine aM ?_;intro X3 hX3 hF;have hv25:=hF _ _ List.mem_cons_self;obtain ⟨hB0,hB1,hD8,hD10⟩:=bl4 hX3 hB0 hB1 hD8 hD10;have hb:=aF hb hX3;clear hF hX3;obtain ⟨g1,g2,g3,rfl,hg1,hg2,hg3,hC1,hC2,hC3⟩:=hv25
 have hD10L:=hD10.lt;clear hB0 hD8
 go_wp2
 refine oR (gf:=55) (lb:=#[vP g1 0,vP g2 0,vP g3 0]) (T:=fun k=>k=g10) ?F (fun k g X=>X3.heap.size+2≤g∧Blk X g 32 (enc (en l (cl l 0+k)))) rfl (pE Tryz.func55 (by kernel_rfl) rfl) ?hT (btIt c A n cp l 0 day _ X3 g1 g2 g3 HLN.out hn1 (HRX.out _ hb) HK hC1 hC2 hC3 ?hT ?hT1 ?hT2 ?hT3 ?hTb) (fun _=>rfl) (fun m k X=>TrI w l a day g10 m k X) ?hI ?h0 ?hBx ?assign ?body ?done
 case hT =>
  rintro k rfl
  exact hD10L
 case hT1=>intro h9;omega
 case hT2=>intro h9;omega
 case hT3=>intro h9;omega
 case hTb =>
  intro h0 b off hA h9;subst h9;obtain ⟨b2,off2,h1,h2,_⟩:=fI (HRX.out w (Below.refl _ _)) HLN.out h0;rw [hA] at h1
  injection h1 with h1
  injection h1 with h1 h3
  omega
 case hI=>exact fun m k X Y h hK=>h.kept hK (Nat.le_trans (by omega) hD10L)
 case h0=>exact fun m _=>⟨⟨none,0,hD10,⟨rfl,.inl ⟨rfl,rfl⟩⟩⟩,hB1,hb⟩
 case hBx=>exact fun k g X Y h hK=>⟨h.1,hK.blk h.2⟩
 case assign =>
  intro l9 k W K hWs hk hK;have hb:Below W.heap.size W W:=Below.refl _ _;simp only [List.zip_toArray,List.zip_cons_cons,List.zip_nil_left,List.zip_nil_right,List.foldl_toArray,List.foldl_cons,List.foldl_nil,pA,pS,pZ]
  gi_upto_region 6 with fail
  refine fW [] (by kernel_rfl) (by rintro ⟨_,_,h9⟩;exact h9) (aG) ?_;simp only [iX,Nat.reduceAdd];refine jm (vI ((cl l 0+k:Nat):Int)) ?_;refine jzb hb fun X1 hX1 hb=>?_;refine wpList_nil ?_
  gi_upto_region 7 with fail
  refine iY 0 [] (by kernel_rfl) (by rintro ⟨_,_,h9⟩;exact h9) (aG) ?_;simp only [its,List.take,List.drop,Nat.zero_add,Nat.reduceAdd];refine jzb hb fun X2 hX2 hb=>?_;refine uQ rfl rfl 32 [vI 0,vI 0,vI 0,.bool false,.string ⟨#[]⟩,.string ⟨#[]⟩,vI 0,vI 0,vI 0,vI 0,vI 0,vI 0,vI 0] (enc (en l (cl l 0+k))) (.tmp 12) (.tmp 27) rfl (fun X=>by unfold execOp;go_simp) (fun g=>by rfl) (fun g=>by rfl) rfl (by intro u hu;simp only [enc,List.mem_cons,List.not_mem_nil,or_false] at hu;rcases hu with rfl|rfl|rfl|rfl|rfl|rfl|rfl|rfl|rfl|rfl|rfl|rfl|rfl <;> rfl) aI ?_;intro g W1 hg1 hB1 hS1;refine wpList_nil ?_;have hW1:=hb.size;exact hK g W1 (Since.next hb hS1) ⟨by omega,hB1⟩
 case body =>
  intro l9 m k g W hm hmw hk hi hbx;clear hD10 hB1 hb hC1 hC2 hC3;obtain ⟨⟨A6,c6,hD10,hOW⟩,hB1,hb⟩:=hi;obtain ⟨hgm,hD12⟩:=hbx
  have hkl:k<l.length:=by
   have h8:=mI l (day+1)
   unfold nb at hk
   omega
  obtain ⟨x,x9⟩:∃ x,x=(en l (cl l 0+k)):=⟨_,rfl⟩
  have HX:Hid (x=en l k):=by
   show _=_
   rw [x9,HC0.out,Nat.zero_add]
  have hday:x.day≤day:=by
   rw [HX.out];have h9:=(gA HK.out (d:=day+1) hkl).2 (by unfold nb at hk;omega)
   omega
  rw [← x9] at hD12;clear x9;obtain ⟨P,hP⟩:∃ P,P=plN l a day k:=⟨_,rfl⟩;have HP:=Lib.hid hP
  have hPk:P.length≤k:=by rw [hP];exact uP _ _ _ _
  rw [← hP] at hD10 hOW;clear hP;obtain ⟨n6,hn6⟩:∃ n6,P.length=n6:=⟨_,rfl⟩;have HN:=Lib.hid hn6;rw [hn6] at hD10 hOW hPk;clear hn6;obtain ⟨kk,hkk⟩:∃ kk,kk=cl l 0+k:=⟨_,rfl⟩
  have HKK:Hid (kk=k):=by
   show _=_
   rw [hkk,HC0.out,Nat.zero_add]
  rw [← hkk];clear hkk;have hbut:But m (fun k=>k=g10) W W:=But.refl _ _ _;have hD12:Blk W g 32 (eL x):=hD12;have hog:Value.ownBlock (.slice A6 n6 c6)≠some g:=yF hOW hD12 rfl
  rcases (show x.deb=a∨(x.deb≠a∧x.cre=a)∨(x.deb≠a∧x.cre≠a) by omega) with ha|ha|ha
  ·have HPS:Hid (plN l a day (k+1)=P++[(kk:Int)]):=by
    show _=_
    rw [dU,← HX.out,if_pos ⟨hday,by omega⟩,HP.out,HKK.out]
   gi_upto_region 8 with fail
   refine fW [] (by kernel_rfl) (by rintro ⟨_,_,h9,_⟩;cases h9) (aG) ?_;simp only [iX,Nat.reduceAdd];refine jn (vP g 1) ?_;refine jf _ hD12 1 aB ?_;refine jf _ hB1 0 aB ?_;refine bZ x.deb a (by omega) ?_;refine jm (.bool true) ?_;refine js ?_;refine js ?_;refine js ?_;refine js ?_;refine jm (.bool true) ?_;refine jzb hb fun X1 hX1 hb=>?_;replace hOW:=bG hOW hX1;replace hbut:=hbut.trans (But.of_since hX1 hmw);replace hmw:=Nat.le_trans hmw hX1.size;obtain ⟨hD12,hD10,hB1⟩:=bl3 hX1 hD12 hD10 hB1;refine wpList_nil ?_
   have HNA:Hid ((P++[(kk:Int)]).length=n6+1):=by
    show _=_
    rw [List.length_append,HN.out]
    rfl
   have HFA:Hid ((P++[(kk:Int)]).map I64=P.map I64++[vI kk]):=by
    show _=_
    rw [List.map_append]
    rfl
   have hmg:g10<m∧w.heap.size+1<m∧m≤g∨g10<m∧w.heap.size+1<m:=.inr ⟨by omega,by omega⟩
   gi_upto_region 9 with fail
   have hbA:m≤X1.heap.size:=by omega
   have hn_hD12:(Value.ownBlock (.slice A6 n6 c6))≠some g:=fun h9=>hog h9
   have hn_hD10:(Value.ownBlock (.slice A6 n6 c6))≠some g10:=fun h9=>by have h8:=bY hOW _ h9;omega
   have hn_hB1:(Value.ownBlock (.slice A6 n6 c6))≠some (w.heap.size+1):=fun h9=>by have h8:=bY hOW _ h9;omega
   refine kY 4 (⟨m,3,1,.slice A6 n6 c6,n6,(P.map I64),[vI kk]⟩:Ar) 3 [none,none,some (Anew (⟨m,3,1,.slice A6 n6 c6,n6,(P.map I64),[vI kk]⟩:Ar) 3),some (Aout (⟨m,3,1,.slice A6 n6 c6,n6,(P.map I64),[vI kk]⟩:Ar))] (by kernel_rfl) (by rintro ⟨_,_,h9,_⟩;cases h9) (dI (dI (eW (fun v X Y h hR=>Anew.lasts v X Y h hR) (eW (fun v X Y h hR=>Aout.lasts v X Y h hR) (nQ))))) ?_;simp only [iB,List.take,List.drop,Nat.reduceAdd];refine ag hOW hbA (.slice A6 n6 c6) (fun X σ hX hF=>aV 58 _ (by rfl) g10 0 (by rfl) _ X ((hX.blk hD10 hn_hD10).cell (j:=0) rfl) (fun X u h=>lS g10 0 X u h)) ?_;refine am (vI kk) ?_;refine ab hOW 3 (fun X=>by unfold execOp;go_simp) ?_;intro v40;refine aa hOW hbA 3 2 v40 List.mem_cons_self Tryz.underlying58 rZ rfl (show 0<1 by decide) (by rfl) (by intro u hu;simp only [List.mem_cons,List.not_mem_nil,or_false] at hu;rcases hu with rfl <;> rfl) (show n6+1≤maxLen by unfold maxLen;omega) (show (n6+1) * 8≤140737488355328 by omega) ?_;intro v41;refine az hOW hbA ?_;intro X2 σ hX hF;have hO41:X2.ownsRow m 3 1 v41 (n6+1) ((P.map I64)++[vI kk]):=(hF _ _ List.mem_cons_self).2;have hD12:=hX.blk hD12 hn_hD12;have hD10:=hX.blk hD10 hn_hD10;have hB1:=hX.blk hB1 hn_hB1;have hb:=hb.trans (hX.below.mono (show w.heap.size≤m by omega));clear hF hn_hD12 hn_hD10 hn_hB1;replace hbut:=hbut.trans (But.of_grown hX.grown hmw (fun k h=>.inl (bY hOW k h).1))
   replace hmw:=Nat.le_trans hmw hX.grown.size;obtain ⟨A7,c7,rfl,_,_⟩:=(Rd.of_own hO41).form;clear hOW hX hD12;refine eQ rfl g10 0 58 _ hD10 (.slice A7 (n6+1) c7) (by simp) (fun X u h1 h2=>sG _ _ (by rfl) _ _ (by rfl) (by rfl) u X h1 h2) ?_;intro w8 hR8 hG8;have hb:=aY hG8 hb hb.size (by omega);have hB1:=aO hG8 hB1 (by omega);have hOW:=eA hO41 hG8 (fun g h h9=>by have h8:=bY hO41 _ h9;injection h with h;omega);replace hbut:=hbut.trans (But.of_grown hG8 hmw (fun k h=>.inr (by injection h with h;exact h.symm)));replace hmw:=Nat.le_trans hmw hG8.size
   have hD10:Blk w8 g10 58 [.slice A7 (P++[(kk:Int)]).length c7]:=by rw [HNA.out];exact hR8
   have hOW:w8.ownsRow m 3 1 (.slice A7 (P++[(kk:Int)]).length c7) (P++[(kk:Int)]).length ((P++[(kk:Int)]).map I64):=by
    rw [HNA.out,HFA.out];exact hOW
   clear hO41 hR8 hG8;refine wpList_nil ?_
   gi_wp2
   exact ⟨trivial,hbut,⟨⟨A7,c7,by rw [HPS.out];exact hD10,by rw [HPS.out];exact hOW⟩,hB1,hb⟩⟩
  ·have HPS:Hid (plN l a day (k+1)=P++[(kk:Int)]):=by
    show _=_
    rw [dU,← HX.out,if_pos ⟨hday,by omega⟩,HP.out,HKK.out]
   gi_upto_region 8 with fail
   refine fW [] (by kernel_rfl) (by rintro ⟨_,_,h9,_⟩;cases h9) (aG) ?_;simp only [iX,Nat.reduceAdd];refine jn (vP g 1) ?_;refine jf _ hD12 1 aB ?_;refine jf _ hB1 0 aB ?_;refine cC x.deb a (by omega) ?_;refine jm (.bool false) ?_;refine jn (vP g 2) ?_;refine jf _ hD12 2 aB ?_;refine jf _ hB1 0 aB ?_;refine bZ x.cre a (by omega) ?_;refine jm (.bool true) ?_;refine jzb hb fun X1 hX1 hb=>?_;replace hOW:=bG hOW hX1;replace hbut:=hbut.trans (But.of_since hX1 hmw);replace hmw:=Nat.le_trans hmw hX1.size;obtain ⟨hD12,hD10,hB1⟩:=bl3 hX1 hD12 hD10 hB1;refine wpList_nil ?_
   have HNA:Hid ((P++[(kk:Int)]).length=n6+1):=by
    show _=_
    rw [List.length_append,HN.out]
    rfl
   have HFA:Hid ((P++[(kk:Int)]).map I64=P.map I64++[vI kk]):=by
    show _=_
    rw [List.map_append]
    rfl
   have hmg:g10<m∧w.heap.size+1<m∧m≤g∨g10<m∧w.heap.size+1<m:=.inr ⟨by omega,by omega⟩
   gi_upto_region 9 with fail
   have hbA:m≤X1.heap.size:=by omega
   have hn_hD12:(Value.ownBlock (.slice A6 n6 c6))≠some g:=fun h9=>hog h9
   have hn_hD10:(Value.ownBlock (.slice A6 n6 c6))≠some g10:=fun h9=>by have h8:=bY hOW _ h9;omega
   have hn_hB1:(Value.ownBlock (.slice A6 n6 c6))≠some (w.heap.size+1):=fun h9=>by have h8:=bY hOW _ h9;omega
   refine kY 4 (⟨m,3,1,.slice A6 n6 c6,n6,(P.map I64),[vI kk]⟩:Ar) 3 [none,none,some (Anew (⟨m,3,1,.slice A6 n6 c6,n6,(P.map I64),[vI kk]⟩:Ar) 3),some (Aout (⟨m,3,1,.slice A6 n6 c6,n6,(P.map I64),[vI kk]⟩:Ar))] (by kernel_rfl) (by rintro ⟨_,_,h9,_⟩;cases h9) (dI (dI (eW (fun v X Y h hR=>Anew.lasts v X Y h hR) (eW (fun v X Y h hR=>Aout.lasts v X Y h hR) (nQ))))) ?_;simp only [iB,List.take,List.drop,Nat.reduceAdd];refine ag hOW hbA (.slice A6 n6 c6) (fun X σ hX hF=>aV 58 _ (by rfl) g10 0 (by rfl) _ X ((hX.blk hD10 hn_hD10).cell (j:=0) rfl) (fun X u h=>lS g10 0 X u h)) ?_;refine am (vI kk) ?_;refine ab hOW 3 (fun X=>by unfold execOp;go_simp) ?_;intro v40;refine aa hOW hbA 3 2 v40 List.mem_cons_self Tryz.underlying58 rZ rfl (show 0<1 by decide) (by rfl) (by intro u hu;simp only [List.mem_cons,List.not_mem_nil,or_false] at hu;rcases hu with rfl <;> rfl) (show n6+1≤maxLen by unfold maxLen;omega) (show (n6+1) * 8≤140737488355328 by omega) ?_;intro v41;refine az hOW hbA ?_;intro X2 σ hX hF;have hO41:X2.ownsRow m 3 1 v41 (n6+1) ((P.map I64)++[vI kk]):=(hF _ _ List.mem_cons_self).2;have hD12:=hX.blk hD12 hn_hD12;have hD10:=hX.blk hD10 hn_hD10;have hB1:=hX.blk hB1 hn_hB1;have hb:=hb.trans (hX.below.mono (show w.heap.size≤m by omega));clear hF hn_hD12 hn_hD10 hn_hB1;replace hbut:=hbut.trans (But.of_grown hX.grown hmw (fun k h=>.inl (bY hOW k h).1))
   replace hmw:=Nat.le_trans hmw hX.grown.size;obtain ⟨A7,c7,rfl,_,_⟩:=(Rd.of_own hO41).form;clear hOW hX hD12;refine eQ rfl g10 0 58 _ hD10 (.slice A7 (n6+1) c7) (by simp) (fun X u h1 h2=>sG _ _ (by rfl) _ _ (by rfl) (by rfl) u X h1 h2) ?_;intro w8 hR8 hG8;have hb:=aY hG8 hb hb.size (by omega);have hB1:=aO hG8 hB1 (by omega);have hOW:=eA hO41 hG8 (fun g h h9=>by have h8:=bY hO41 _ h9;injection h with h;omega);replace hbut:=hbut.trans (But.of_grown hG8 hmw (fun k h=>.inr (by injection h with h;exact h.symm)));replace hmw:=Nat.le_trans hmw hG8.size
   have hD10:Blk w8 g10 58 [.slice A7 (P++[(kk:Int)]).length c7]:=by rw [HNA.out];exact hR8
   have hOW:w8.ownsRow m 3 1 (.slice A7 (P++[(kk:Int)]).length c7) (P++[(kk:Int)]).length ((P++[(kk:Int)]).map I64):=by
    rw [HNA.out,HFA.out];exact hOW
   clear hO41 hR8 hG8;refine wpList_nil ?_
   gi_wp2
   exact ⟨trivial,hbut,⟨⟨A7,c7,by rw [HPS.out];exact hD10,by rw [HPS.out];exact hOW⟩,hB1,hb⟩⟩
  ·have HPS:Hid (plN l a day (k+1)=P):=by
    show _=_
    rw [dU,← HX.out,if_neg (by omega),HP.out]
   rw [← HN.out] at hD10 hOW
   gi_upto_region 8 with fail
   refine fW [] (by kernel_rfl) (by rintro ⟨_,_,h9,_⟩;cases h9) (aG) ?_;simp only [iX,Nat.reduceAdd];refine jn (vP g 1) ?_;refine jf _ hD12 1 aB ?_;refine jf _ hB1 0 aB ?_;refine cC x.deb a (by omega) ?_;refine jm (.bool false) ?_;refine jn (vP g 2) ?_;refine jf _ hD12 2 aB ?_;refine jf _ hB1 0 aB ?_;refine cC x.cre a (by omega) ?_;refine jm (.bool false) ?_;refine jzb hb fun X1 hX1 hb=>?_;replace hOW:=bG hOW hX1;replace hbut:=hbut.trans (But.of_since hX1 hmw);replace hmw:=Nat.le_trans hmw hX1.size;obtain ⟨hD12,hD10,hB1⟩:=bl3 hX1 hD12 hD10 hB1;refine wpList_nil ?_
   gi_wp2
   exact ⟨trivial,hbut,⟨⟨A6,c6,by rw [HPS.out];exact hD10,by rw [HPS.out];exact hOW⟩,hB1,hb⟩⟩
 case done =>
  intro D m W hD hm hi hKD;clear hD10 hB1 hb hC1 hC2 hC3;obtain ⟨⟨A6,c6,hD10,hOW⟩,hB1,hb⟩:=hi
  have hgD:g10<D:=by omega
  go_upto_region 10 with fail;refine jp ?_;refine jf _ hD10 0 lS ?_;refine jm (.slice A6 (plN l a day (nb l 0 day)).length c6) ?_;refine jm (vI 0) ?_;refine jzb hb fun X1 hX1 hb=>?_;replace hOW:=bG hOW hX1;replace hKD:=(hX1.block D (Array.getElem?_eq_some_iff.1 hKD).1).trans hKD;replace hD10:=hD10.bel hX1
  go_wp2
  refine qZq hKD (fun X=>results_tmp2 rfl _ _ _) rfl ?_;refine ⟨_,rfl,⟨.slice A6 (plN l a day (nb l 0 day)).length c6,by rw [HC.out];rfl,?_⟩,(Kept.putObj (B:=w.heap.size) hKD rfl (by omega)).below hb (Nat.le_refl _)⟩;rw [HL.out,← qZy HK.out];have h9:=Rd.of_own ((Kept.putObj (B:=0) (o':=.deferred none) hKD rfl (Nat.zero_le _)).owns hOW);exact ⟨_,_,rfl,h9⟩
theorem trcC (c:Int) (v:Value) (l:List En) (a day:Int) (w:World) (hv:Es l v w) (hs1:Hid (∀ k,tz (en l k).am.2.1 (en l k).am.2.2 100)):Calls Tryz.prog 12 #[.agg #[vI c,v],vI a,vI day] w fun e w'=>∃ u,e=.returned u∧Tp (Ks (trL c l a day)) (blE c l a day) u w'∧Since w w':=by
 by_cases h0:blE c l a day=0
 ·exact trc1 c v l a day w hv hs1 h0
 ·exact trc0 c v l a day w hv hs1 h0
end Go.Proofs.YtffgfkcljcollaaGreatDoor

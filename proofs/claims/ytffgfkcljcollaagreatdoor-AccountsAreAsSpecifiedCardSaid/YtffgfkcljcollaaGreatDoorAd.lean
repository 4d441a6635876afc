/- account: Clone of entries, with, Post. -/
import Derived.WalkSpells
import Derived.Lib.SliceRun
import Derived.Test.YtffgfkcljcollaaGreatDoorAc
import Derived.Test.YtffgfkcljcollaaGreatDoorME
set_option linter.unusedSimpArgs false
set_option linter.unusedVariables false
set_option maxRecDepth 100000
set_option maxHeartbeats 1600000
namespace Go.Proofs.YtffgfkcljcollaaGreatDoor
open Go.RowKit
theorem qP (l:List En):∀ u∈fl enc l,u.oneCell'=true:=by
 intro u hu
 unfold fl at hu
 rw [List.mem_flatten] at hu;obtain ⟨xs,h1,h2⟩:=hu;rw [List.mem_map] at h1;obtain ⟨x,_,rfl⟩:=h1
 unfold enc at h2
 simp only [List.mem_cons,List.not_mem_nil,or_false] at h2
 rcases h2 with rfl|rfl|rfl|rfl|rfl|rfl|rfl|rfl|rfl|rfl|rfl|rfl|rfl <;> rfl
def Ow (B:Nat) (l:List En) (v:Value) (X:World):Prop:=X.ownsRow B 32 13 v l.length (fl enc l)
theorem Ow.lasts (B:Nat) (l:List En):dF (Ow B l):=fun _ _ _ h hS=>bG h hS
theorem Ow.mono {B B':Nat} {l:List En} {v:Value} {X:World} (h:Ow B l v X) (hB:B'≤B):Ow B' l v X:=by
 obtain ⟨hl,hr⟩:=h;refine ⟨hl,hr.imp id ?_⟩
 rintro ⟨g,cap,cur,hv,hb,rest⟩
 exact ⟨g,cap,cur,hv,Nat.le_trans hB hb,rest⟩
theorem Ow.es {B:Nat} {l:List En} {v:Value} {X:World} (h:Ow B l v X):Es l v X:=nZ h rfl
theorem vVc (v:Value) (l:List En) (w:World) (hv:Es l v w) (hl:l.length≤4000):Calls Tryz.prog 43 #[v] w fun e w'=>∃ u,e=.returned u∧Ow w.heap.size l u w'∧Since w w':=by
 obtain ⟨A,n,c,rfl,hln,hn1,hr⟩:=hv.at
 rcases A with _|⟨b,off,fr⟩
 ·have h0:n=0:=by
   obtain ⟨_,A2,c2,h2,hc,hm,hz,_⟩:=hr
   injection h2 with e1 e2 e3
   have:=hz e1.symm
   omega
  subst h0
  have hc0:c=0:=by
   obtain ⟨_,A2,c2,h2,hc,hm,hz,_⟩:=hr
   injection h2 with e1 e2 e3
   subst e3;exact hz e1.symm
  subst hc0;obtain rfl:l=[]:=List.eq_nil_of_length_eq_zero hln;have he:=Lib.run_eql_slice_nil (P:=Tryz.prog) (w:=w) 22 32 none 0 0 0 0 Tryz.underlying22
  go_enter Tryz.func43,Tryz.ntmps43
  go_wp2
  go_ret
  exact ⟨_,rfl,⟨rfl,.inl ⟨rfl,rfl⟩⟩,Below.refl _ _⟩
 ·have he:=Lib.run_eql_slice_nil (P:=Tryz.prog) (w:=w) 22 32 (some ⟨b,off,fr⟩) n c 0 0 Tryz.underlying22
  have ho0:(w.alloc (.cells #[] 32)).ownsRow w.heap.size 32 13 (.slice (some ⟨w.heap.size,0,none⟩) 0 0) 0 [] :=
   ⟨rfl,.inr ⟨w.heap.size,0,#[],rfl,Nat.le_refl _,heap_alloc_new w _,Nat.le_refl _,by unfold maxLen;omega,rfl,rfl⟩⟩
  have hr0:=hr.alloc (.cells #[] 32);have hb0:=(Below.refl w.heap.size w).alloc (Nat.le_refl _) (.cells #[] 32)
  go_enter Tryz.func43,Tryz.ntmps43
  go_wp2_with (at_builtin;refine iC rfl (.tmp 5) (.tmp 6) 22 rfl w.heap.size 32 _ 13 120 Tryz.underlying22 fX rfl (by decide) _ _ _ rfl ho0 _ _ _ rfl hr0 (qP l) (by omega) (by unfold maxLen;omega) hb0.size ?_;intro v4 w4 hown4 hg4 hb4)
  rw [List.nil_append,Nat.zero_add,← hln] at hown4
  go_wp2
  go_ret
  exact ⟨_,rfl,hown4,hb0.trans hb4⟩
theorem nV {f:Operand→Value} {o:Oper} (x y:Operand) (ho:o.op=.store 22 x y) (g j:Nat) {A:Option Addr} {n c:Nat} (hx:f x=vP g j) (hy:f y=.slice A n c) (u:Value) (X:World) (hc:X.cell? ⟨g,j,none⟩=some u) (hf:X.frozen? ⟨g,j,none⟩=false) :
  (execOp f o).run Tryz.prog X=.ok .skip (X.setCell ⟨g,j,none⟩ (.slice A n c)):=by
 unfold execOp
 simp only [ho,hx,hy]
 go_simp
theorem lC (l:List En) (x:En):fl enc l++fl enc [x]=fl enc (l++[x]):=by simp [fl]
theorem qQd {P:Program} {f:Operand→Value} {o:Oper} (x:En) {X:World} (hr:(execOp f o).run P X=.ok (.value (.slice (some ⟨X.heap.size,0,none⟩) 1 1)) (X.alloc (.cells (enc x).toArray 32))):∃ v X',(execOp f o).run P X=.ok (.value v) X'∧Es [x] v X'∧Since X X':=by
 refine ⟨_,_,hr,?_,bI X _⟩;have hB:Blk (X.alloc (.cells (enc x).toArray 32)) X.heap.size 32 (enc x):=Blk.new rfl;refine ⟨by simp [fl];rfl,some ⟨X.heap.size,0,none⟩,1,rfl,Nat.le_refl _,by unfold maxLen;omega,(fun h9=>by cases h9),fun _=>⟨X.heap.size,0,rfl,hB.lt,fun j u hj=>?_⟩⟩
 have hj2:(enc x)[j]?=some u:=by simpa [fl] using hj
 have:=hB.cell (j:=j) hj2
 rwa [Nat.zero_add]
def wiL (l:List En) (x:En):List En:=if dD l x=0 then l++[x] else []
theorem wth0 (c:Int) (v:Value) (l:List En) (x:En) (w:World) (hv:Es l v w) (h0:0<l.length) (hd:x.day<(en l (l.length-1)).day):Calls Tryz.prog 29 #[.agg #[vI c,v],.agg #[vI x.day,vI x.deb,vI x.cre,.bool x.am.1,vS x.am.2.1,vS x.am.2.2,vI x.kd,vI x.pd,vI x.rf,vI x.w1,vI x.w2,vI x.w3,vI x.w4]] w fun e w'=>∃ u,e=.returned u∧Tp (Bks (ifz (dD l x) c) (wiL l x)) (dD l x) u w'∧Since w w':=by
 obtain ⟨A,n,cp,rfl,hln,hn1,hr⟩:=hv.at;clear hv;have HRX:=bV hr;have HLN:=Lib.hid hln;clear hr
 go_enter Tryz.func29,Tryz.ntmps29
 go_upto_region 1 with fail;obtain ⟨W0,hW0,hB0,hB1,hB2,hb⟩:=bO w 24 32 24 [vI c,.slice A n cp] (eL x) [vI 0,.slice none 0 0];rw [← hW0];clear hW0;refine jp ?_;refine jn (vP w.heap.size 1) ?_;refine jf _ hB0 1 aK ?_;refine jv (vI n) (aN Tryz.underlying22 _ (by rfl) A n cp (by rfl) _ rfl) ?_;refine jm (vI n) ?_;refine jzb hb fun X1 hX1 hb=>?_;obtain ⟨hB0,hB1,hB2⟩:=bl3 hX1 hB0 hB1 hB2
 have hnp:0<n:=by rw [← HLN.out];exact h0
 obtain ⟨j,hj⟩:∃ j,n=j+1:=⟨n-1,by omega⟩;obtain ⟨b,off,rfl,hbb,hcx⟩:=fI (HRX.out _ hb) HLN.out (k:=j) (by omega);obtain ⟨p,p9⟩:∃ p,p=en l (l.length-1):=⟨_,rfl⟩;have HP:=Lib.hid p9;clear p9;rw [show en l j=p by rw [HP.out,HLN.out,hj,Nat.add_sub_cancel]] at hcx
 change Cl X1 b (off+j * 13) (eL p) at hcx
 have hdp:x.day<p.day:=by rw [HP.out];exact hd
 have HE:Hid (dD l x=15):=by
  show _=_
  unfold dD
  rw [if_pos ⟨h0,hd⟩]
 go_upto_region 2 with fail;refine jd ?_;refine jm (vI n) ?_;refine dV (n:Int) 0 (by omega) ?_;refine jm (.bool true) ?_;refine jn (vP (w.heap.size+1) 0) ?_;refine jf _ hB1 0 aB ?_;refine jn (vP w.heap.size 1) ?_;refine jf _ hB0 1 aK ?_;refine jm (vI n) ?_;refine jv (vI j) (bM _ _ _ _ (by rfl) (n:Int) 1 (j:Int) (by rfl) (by rfl) (by omega) (by omega) (by omega)) ?_;refine jv (vP b (off+j * 13)) (aW Tryz.underlying22 aI _ _ (by rfl) b (off) n cp j (by omega) (by rfl) (by rfl) rfl) ?_;refine jn (vP b (off+j * 13)) ?_;refine jg (vI p.day) (fun X hX hF=>aV 3 _ (by rfl) b (off+j * 13) (by rfl) _ X ((hcx.below hX hbb) 0 _ rfl) (fun X u h=>aB b (off+j * 13) X u h)) ?_;refine cP x.day p.day (by omega) ?_;refine jm (.bool true) ?_;refine jzb hb fun X2 hX2 hb=>?_;obtain ⟨hB0,hB1,hB2⟩:=bl3 hX2 hB0 hB1 hB2;have hcx:=hcx.below hX2 hbb;replace hbb:=Nat.lt_of_lt_of_le hbb (hX2).size
 have HL:Hid (wiL l x=[]):=by
  show _=_
  unfold wiL
  rw [HE.out,if_neg (by decide)]
 go_upto_region 3 with fail;refine jq 1 ?_;refine jn (.agg #[vI 0,.slice none 0 0]) ?_;refine jzb hb fun X3 hX3 hb=>?_;obtain ⟨hB0,hB1,hB2⟩:=bl3 hX3 hB0 hB1 hB2;refine osb 24 4 24 (w.heap.size+2) 24 hB2 [vI 0,.slice none 0 0] aE ?_;intro w9 hR9 hO9 hB9 hs9;have hb9:=hB9 _ _ hb (by omega);have hB0:=hO9 _ _ _ (by omega) hB0;have hB1:=hO9 _ _ _ (by omega) hB1;clear hO9 hB9
 go_wp2
 refine bD (v:=vI 15) rfl rfl (by rfl) (by rfl) Tryz.underlying24 rfl hR9 aE ⟨_,rfl,⟨_,by rw [HE.out],by rw [HE.out,HL.out];exact ⟨_,rfl,bW _⟩⟩,hb9⟩
theorem wth1 (c:Int) (v:Value) (l:List En) (x:En) (w:World) (hv:Es l v w) (hd:¬ (0<l.length∧x.day<(en l (l.length-1)).day)) (hlen:4000≤l.length):Calls Tryz.prog 29 #[.agg #[vI c,v],.agg #[vI x.day,vI x.deb,vI x.cre,.bool x.am.1,vS x.am.2.1,vS x.am.2.2,vI x.kd,vI x.pd,vI x.rf,vI x.w1,vI x.w2,vI x.w3,vI x.w4]] w fun e w'=>∃ u,e=.returned u∧Tp (Bks (ifz (dD l x) c) (wiL l x)) (dD l x) u w'∧Since w w':=by
 obtain ⟨A,n,cp,rfl,hln,hn1,hr⟩:=hv.at;clear hv;have HRX:=bV hr;have HLN:=Lib.hid hln;clear hr
 go_enter Tryz.func29,Tryz.ntmps29
 go_upto_region 1 with fail;obtain ⟨W0,hW0,hB0,hB1,hB2,hb⟩:=bO w 24 32 24 [vI c,.slice A n cp] (eL x) [vI 0,.slice none 0 0];rw [← hW0];clear hW0;refine jp ?_;refine jn (vP w.heap.size 1) ?_;refine jf _ hB0 1 aK ?_;refine jv (vI n) (aN Tryz.underlying22 _ (by rfl) A n cp (by rfl) _ rfl) ?_;refine jm (vI n) ?_;refine jzb hb fun X1 hX1 hb=>?_;obtain ⟨hB0,hB1,hB2⟩:=bl3 hX1 hB0 hB1 hB2;rw [hln] at hlen
 have HE:Hid (dD l x=2):=by
  show _=_
  unfold dD
  rw [if_neg (fun h9=>hd h9),if_pos (by rw [HLN.out];exact hlen)]
 have hnp:0<n:=by omega
 obtain ⟨j,hj⟩:∃ j,n=j+1:=⟨n-1,by omega⟩;obtain ⟨b,off,rfl,hbb,hcx⟩:=fI (HRX.out _ hb) HLN.out (k:=j) (by omega);obtain ⟨p,p9⟩:∃ p,p=en l (l.length-1):=⟨_,rfl⟩;have HP:=Lib.hid p9;clear p9;rw [show en l j=p by rw [HP.out,HLN.out,hj,Nat.add_sub_cancel]] at hcx
 change Cl X1 b (off+j * 13) (eL p) at hcx
 have hdp:¬ x.day<p.day:=fun h9=>hd ⟨by rw [HLN.out];omega,by rw [← HP.out];exact h9⟩
 go_upto_region 2 with fail;refine jd ?_;refine jm (vI n) ?_;refine dV (n:Int) 0 (by omega) ?_;refine jm (.bool true) ?_;refine jn (vP (w.heap.size+1) 0) ?_;refine jf _ hB1 0 aB ?_;refine jn (vP w.heap.size 1) ?_;refine jf _ hB0 1 aK ?_;refine jm (vI n) ?_;refine jv (vI j) (bM _ _ _ _ (by rfl) (n:Int) 1 (j:Int) (by rfl) (by rfl) (by omega) (by omega) (by omega)) ?_;refine jv (vP b (off+j * 13)) (aW Tryz.underlying22 aI _ _ (by rfl) b (off) n cp j (by omega) (by rfl) (by rfl) rfl) ?_;refine jn (vP b (off+j * 13)) ?_;refine jg (vI p.day) (fun X hX hF=>aV 3 _ (by rfl) b (off+j * 13) (by rfl) _ X ((hcx.below hX hbb) 0 _ rfl) (fun X u h=>aB b (off+j * 13) X u h)) ?_;refine bS x.day p.day (by omega) ?_;refine jm (.bool false) ?_;refine jzb hb fun X2 hX2 hb=>?_;obtain ⟨hB0,hB1,hB2⟩:=bl3 hX2 hB0 hB1 hB2;have hcx:=hcx.below hX2 hbb;replace hbb:=Nat.lt_of_lt_of_le hbb (hX2).size;go_upto_region 4 with fail;refine jp ?_;refine jn (vP w.heap.size 1) ?_;refine jf _ hB0 1 aK ?_;refine jv (vI n) (aN Tryz.underlying22 _ (by rfl) (some ⟨b,off,none⟩) n cp (by rfl) _ rfl) ?_;refine fD (n:Int) 4000 (by omega) ?_;refine jzb hb fun X3 hX3 hb=>?_;obtain ⟨hB0,hB1,hB2⟩:=bl3 hX3 hB0 hB1 hB2
 have HL:Hid (wiL l x=[]):=by
  show _=_
  unfold wiL
  rw [HE.out,if_neg (by decide)]
 go_upto_region 5 with fail;refine jq 1 ?_;refine jn (.agg #[vI 0,.slice none 0 0]) ?_;refine jzb hb fun X4 hX4 hb=>?_;obtain ⟨hB0,hB1,hB2⟩:=bl3 hX4 hB0 hB1 hB2;refine osb 24 4 29 (w.heap.size+2) 24 hB2 [vI 0,.slice none 0 0] aE ?_;intro w9 hR9 hO9 hB9 hs9;have hb9:=hB9 _ _ hb (by omega);have hB0:=hO9 _ _ _ (by omega) hB0;have hB1:=hO9 _ _ _ (by omega) hB1;clear hO9 hB9
 go_wp2
 refine bD (v:=vI 2) rfl rfl (by rfl) (by rfl) Tryz.underlying24 rfl hR9 aE ⟨_,rfl,⟨_,by rw [HE.out],by rw [HE.out,HL.out];exact ⟨_,rfl,bW _⟩⟩,hb9⟩
theorem wth2 (c:Int) (v:Value) (l:List En) (x:En) (w:World) (hv:Es l v w) (hd:¬ (0<l.length∧x.day<(en l (l.length-1)).day)) (hlen:l.length<4000):Calls Tryz.prog 29 #[.agg #[vI c,v],.agg #[vI x.day,vI x.deb,vI x.cre,.bool x.am.1,vS x.am.2.1,vS x.am.2.2,vI x.kd,vI x.pd,vI x.rf,vI x.w1,vI x.w2,vI x.w3,vI x.w4]] w fun e w'=>∃ u,e=.returned u∧Tp (Bks (ifz (dD l x) c) (wiL l x)) (dD l x) u w'∧Since w w':=by
 obtain ⟨A,n,cp,rfl,hln,hn1,hr⟩:=hv.at;clear hv;have HRX:=bV hr;have HLN:=Lib.hid hln;clear hr
 go_enter Tryz.func29,Tryz.ntmps29
 go_upto_region 1 with fail;obtain ⟨W0,hW0,hB0,hB1,hB2,hb⟩:=bO w 24 32 24 [vI c,.slice A n cp] (eL x) [vI 0,.slice none 0 0];rw [← hW0];clear hW0;refine jp ?_;refine jn (vP w.heap.size 1) ?_;refine jf _ hB0 1 aK ?_;refine jv (vI n) (aN Tryz.underlying22 _ (by rfl) A n cp (by rfl) _ rfl) ?_;refine jm (vI n) ?_;refine jzb hb fun X1 hX1 hb=>?_;obtain ⟨hB0,hB1,hB2⟩:=bl3 hX1 hB0 hB1 hB2;rw [hln] at hlen
 have HE:Hid (dD l x=0):=by
  show _=_
  unfold dD
  rw [if_neg (fun h9=>hd h9),if_neg (by rw [HLN.out];omega)]
 have HL:Hid (wiL l x=l++[x]):=by
  show _=_
  unfold wiL
  rw [if_pos HE.out]
 rcases Nat.eq_zero_or_pos n with hn0|hnp
 ·go_upto_region 2 with fail
  refine jd ?_;refine jm (vI n) ?_;refine dM (n:Int) 0 (by omega) ?_;refine jm (.bool false) ?_;refine js ?_;refine js ?_;refine js ?_;refine js ?_;refine js ?_;refine js ?_;refine js ?_;refine js ?_;refine js ?_;refine js ?_;refine jm (.bool false) ?_;refine jzb hb fun X2 hX2 hb=>?_;obtain ⟨hB0,hB1,hB2⟩:=bl3 hX2 hB0 hB1 hB2;go_upto_region 4 with fail;refine jp ?_;refine jn (vP w.heap.size 1) ?_;refine jf _ hB0 1 aK ?_;refine jv (vI n) (aN Tryz.underlying22 _ (by rfl) A n cp (by rfl) _ rfl) ?_;refine eD (n:Int) 4000 (by omega) ?_;refine jzb hb fun X3 hX3 hb=>?_;obtain ⟨hB0,hB1,hB2⟩:=bl3 hX3 hB0 hB1 hB2;have hWB:w.heap.size+2<X3.heap.size:=hB2.lt;have HES:=cA HLN HRX;go_upto_region 6 with fail;refine rR 3 [none,none,some (Ow X3.heap.size l),none,some (Es [x])] (by kernel_rfl) (by kernel_rfl) (by kernel_rfl) (aA (aA (aD (Ow.lasts _ _) (aA (aD (Es.lasts _) (aG)))))) ?_;simp only [its,List.length_cons,List.length_nil,Nat.zero_add,Nat.reduceAdd,Nat.reduceSub,List.take_succ_cons,List.take_zero,List.drop_succ_cons,List.drop_zero];refine jn (vP w.heap.size 1) ?_;refine jf _ hB0 1 aK ?_;refine jk (fun X hX hF=>(vVc _ l X (HES.out X (Since.next hb hX)) (by rw [HLN.out];omega)).mono fun e X' ⟨u,h1,h2,h3⟩=>⟨u,h1,h2.mono hX.size,h3⟩) ?_;intro v32;refine ja hB1 Tryz.underlying32 (by rfl) aI ?_
  refine bP (by rfl) (fun X hX hF=>qQd x (by unfold execOp enc;go_simp)) ?_;intro v34;simp only [pX];refine aM ?_;intro X4 hX4 hF;have hv32:=hF _ _ (List.mem_cons_of_mem _ List.mem_cons_self);have hv34:=hF _ _ List.mem_cons_self;have hszW:=(hX4).size;obtain ⟨hB0,hB1,hB2⟩:=bl3 hX4 hB0 hB1 hB2;have hb:=aF hb hX4;clear hF hX4;refine iC rfl (.tmp 32) (.tmp 34) 22 rfl X3.heap.size 32 _ 13 120 Tryz.underlying22 fX rfl (by decide) _ l.length _ rfl hv32 _ 1 _ rfl hv34 (qP [x]) (by omega) (by unfold maxLen;omega) hszW ?_;intro v35 w35 hown hg35 hb35;obtain ⟨A5,c5,rfl,_,_⟩:=(Rd.of_own hown).form;have hB0:=hB0.below hb35 (by omega);have hB2:=hB2.below hb35 (by omega);have hb:=hb.trans (hb35.mono (by omega));clear hv32 hv34 hg35 hb35 hB1;refine yI rfl (vP w.heap.size 1) (by unfold execOp;go_simp) ?_;refine eR rfl w.heap.size 1 24 _ hB0 (.slice A5 (l.length+1) c5) (by simp) (fun X u h1 h2=>nV _ _ (by rfl) _ _ (by rfl) (by rfl) u X h1 h2) ?_;intro w36 hR5 hO5 hB5;have hb:=hB5 _ _ hb (by omega);have hB2:=hO5 _ _ _ (by omega) hB2;have hOw:=rK hown (fun g t zs h9 hB=>hO5 _ _ _ (by have:=(bY hown _ h9).1;omega) hB)
  change Blk w36 w.heap.size 24 [vI c,.slice A5 (l.length+1) c5] at hR5
  have hB0:=hR5;clear hown hO5 hB5 hR5;refine wpList_nil ?_;go_upto_region 7 with fail;refine jq 1 ?_;refine ja hB0 Tryz.underlying24 (by rfl) aE ?_;refine jzb hb fun X5 hX5 hb=>?_;have hOw:=bG hOw hX5;obtain ⟨hB0,hB2⟩:=bl2 hX5 hB0 hB2;refine bB rfl 24 (.tmp 4) (.tmp 37) rfl (w.heap.size+2) 24 _ hB2 rfl [vI c,.slice A5 (l.length+1) c5] rfl (by rfl) (by intro u hu;simp only [List.mem_cons,List.not_mem_nil,or_false] at hu;rcases hu with rfl|rfl <;> rfl) aE ?_;intro w9s hR9 hG9;have hb:=aY hG9 hb hb.size (by omega);have hB0:=aO hG9 hB0 (by omega);have hOw:=eA hOw hG9 (fun g h h9=>by injection h with h;have h8:=(bY hOw _ h9).1;omega);have hB2:=hR9;clear hG9 hR9
  go_wp2
  refine bD (v:=vI 0) rfl rfl (by rfl) (by rfl) Tryz.underlying24 rfl hB2 aE ⟨_,rfl,⟨_,by rw [HE.out],by rw [HE.out,HL.out];exact ⟨_,rfl,nZ (by rw [lC] at hOw;exact hOw) (by simp)⟩⟩,hb⟩
 ·obtain ⟨j,hj⟩:∃ j,n=j+1:=⟨n-1,by omega⟩
  obtain ⟨b,off,rfl,hbb,hcx⟩:=fI (HRX.out _ hb) HLN.out (k:=j) (by omega);obtain ⟨p,p9⟩:∃ p,p=en l (l.length-1):=⟨_,rfl⟩;have HP:=Lib.hid p9;clear p9;rw [show en l j=p by rw [HP.out,HLN.out,hj,Nat.add_sub_cancel]] at hcx
  change Cl X1 b (off+j * 13) (eL p) at hcx
  have hdp:¬ x.day<p.day:=fun h9=>hd ⟨by rw [HLN.out];omega,by rw [← HP.out];exact h9⟩
  go_upto_region 2 with fail;refine jd ?_;refine jm (vI n) ?_;refine dV (n:Int) 0 (by omega) ?_;refine jm (.bool true) ?_;refine jn (vP (w.heap.size+1) 0) ?_;refine jf _ hB1 0 aB ?_;refine jn (vP w.heap.size 1) ?_;refine jf _ hB0 1 aK ?_;refine jm (vI n) ?_;refine jv (vI j) (bM _ _ _ _ (by rfl) (n:Int) 1 (j:Int) (by rfl) (by rfl) (by omega) (by omega) (by omega)) ?_;refine jv (vP b (off+j * 13)) (aW Tryz.underlying22 aI _ _ (by rfl) b (off) n cp j (by omega) (by rfl) (by rfl) rfl) ?_;refine jn (vP b (off+j * 13)) ?_;refine jg (vI p.day) (fun X hX hF=>aV 3 _ (by rfl) b (off+j * 13) (by rfl) _ X ((hcx.below hX hbb) 0 _ rfl) (fun X u h=>aB b (off+j * 13) X u h)) ?_;refine bS x.day p.day (by omega) ?_;refine jm (.bool false) ?_;refine jzb hb fun X2 hX2 hb=>?_;obtain ⟨hB0,hB1,hB2⟩:=bl3 hX2 hB0 hB1 hB2;have hcx:=hcx.below hX2 hbb;replace hbb:=Nat.lt_of_lt_of_le hbb (hX2).size;go_upto_region 4 with fail;refine jp ?_;refine jn (vP w.heap.size 1) ?_;refine jf _ hB0 1 aK ?_;refine jv (vI n) (aN Tryz.underlying22 _ (by rfl) (some ⟨b,off,none⟩) n cp (by rfl) _ rfl) ?_;refine eD (n:Int) 4000 (by omega) ?_;refine jzb hb fun X3 hX3 hb=>?_;obtain ⟨hB0,hB1,hB2⟩:=bl3 hX3 hB0 hB1 hB2;have hWB:w.heap.size+2<X3.heap.size:=hB2.lt
  have HES:Hid (∀ X,Since w X→Es l (.slice (some ⟨b,off,none⟩) n cp) X):=fun X h=>by show Rd X 13 _ l.length _;rw [HLN.out];exact HRX.out X h
  go_upto_region 6 with fail;refine rR 3 [none,none,some (Ow X3.heap.size l),none,some (Es [x])] (by kernel_rfl) (by kernel_rfl) (by kernel_rfl) (aA (aA (aD (Ow.lasts _ _) (aA (aD (Es.lasts _) (aG)))))) ?_;simp only [its,List.length_cons,List.length_nil,Nat.zero_add,Nat.reduceAdd,Nat.reduceSub,List.take_succ_cons,List.take_zero,List.drop_succ_cons,List.drop_zero];refine jn (vP w.heap.size 1) ?_;refine jf _ hB0 1 aK ?_;refine jk (fun X hX hF=>(vVc _ l X (HES.out X (Since.next hb hX)) (by rw [HLN.out];omega)).mono fun e X' ⟨u,h1,h2,h3⟩=>⟨u,h1,h2.mono hX.size,h3⟩) ?_;intro v32;refine ja hB1 Tryz.underlying32 (by rfl) aI ?_;refine bP (by rfl) (fun X hX hF=>qQd x (by unfold execOp enc;go_simp)) ?_;intro v34;simp only [pX];refine aM ?_;intro X4 hX4 hF;have hv32:=hF _ _ (List.mem_cons_of_mem _ List.mem_cons_self);have hv34:=hF _ _ List.mem_cons_self;have hszW:=(hX4).size;obtain ⟨hB0,hB1,hB2⟩:=bl3 hX4 hB0 hB1 hB2;have hb:=aF hb hX4;clear hF hX4;refine iC rfl (.tmp 32) (.tmp 34) 22 rfl X3.heap.size 32 _ 13 120 Tryz.underlying22 fX rfl (by decide) _ l.length _ rfl hv32 _ 1 _ rfl hv34 (qP [x]) (by omega) (by unfold maxLen;omega) hszW ?_;intro v35 w35 hown hg35 hb35;obtain ⟨A5,c5,rfl,_,_⟩:=(Rd.of_own hown).form;have hB0:=hB0.below hb35 (by omega);have hB2:=hB2.below hb35 (by omega);have hb:=hb.trans (hb35.mono (by omega))
  clear hv32 hv34 hg35 hb35 hB1;refine yI rfl (vP w.heap.size 1) (by unfold execOp;go_simp) ?_;refine eR rfl w.heap.size 1 24 _ hB0 (.slice A5 (l.length+1) c5) (by simp) (fun X u h1 h2=>nV _ _ (by rfl) _ _ (by rfl) (by rfl) u X h1 h2) ?_;intro w36 hR5 hO5 hB5;have hb:=hB5 _ _ hb (by omega);have hB2:=hO5 _ _ _ (by omega) hB2;have hOw:=rK hown (fun g t zs h9 hB=>hO5 _ _ _ (by have:=(bY hown _ h9).1;omega) hB)
  change Blk w36 w.heap.size 24 [vI c,.slice A5 (l.length+1) c5] at hR5
  have hB0:=hR5;clear hown hO5 hB5 hR5;refine wpList_nil ?_;go_upto_region 7 with fail;refine jq 1 ?_;refine ja hB0 Tryz.underlying24 (by rfl) aE ?_;refine jzb hb fun X5 hX5 hb=>?_;have hOw:=bG hOw hX5;obtain ⟨hB0,hB2⟩:=bl2 hX5 hB0 hB2;refine bB rfl 24 (.tmp 4) (.tmp 37) rfl (w.heap.size+2) 24 _ hB2 rfl [vI c,.slice A5 (l.length+1) c5] rfl (by rfl) (by intro u hu;simp only [List.mem_cons,List.not_mem_nil,or_false] at hu;rcases hu with rfl|rfl <;> rfl) aE ?_;intro w9s hR9 hG9;have hb:=aY hG9 hb hb.size (by omega);have hB0:=aO hG9 hB0 (by omega);have hOw:=eA hOw hG9 (fun g h h9=>by injection h with h;have h8:=(bY hOw _ h9).1;omega);have hB2:=hR9;clear hG9 hR9
  go_wp2
  refine bD (v:=vI 0) rfl rfl (by rfl) (by rfl) Tryz.underlying24 rfl hB2 aE ⟨_,rfl,⟨_,by rw [HE.out],by rw [HE.out,HL.out];exact ⟨_,rfl,nZ (by rw [lC] at hOw;exact hOw) (by simp)⟩⟩,hb⟩
theorem xC (c:Int) (v:Value) (l:List En) (x:En) (w:World) (hv:Es l v w):Calls Tryz.prog 29 #[.agg #[vI c,v],.agg #[vI x.day,vI x.deb,vI x.cre,.bool x.am.1,vS x.am.2.1,vS x.am.2.2,vI x.kd,vI x.pd,vI x.rf,vI x.w1,vI x.w2,vI x.w3,vI x.w4]] w fun e w'=>∃ u,e=.returned u∧Tp (Bks (ifz (dD l x) c) (wiL l x)) (dD l x) u w'∧Since w w':=by
 by_cases h:0<l.length∧x.day<(en l (l.length-1)).day
 ·exact wth0 c v l x w hv h.1 h.2
 ·rcases Nat.lt_or_ge l.length 4000 with h2|h2
  ·exact wth2 c v l x w hv h h2
  ·exact wth1 c v l x w hv h h2
end Go.Proofs.YtffgfkcljcollaaGreatDoor

/- account: Post. -/
import Derived.WalkSpells
import Derived.Lib.SliceRun
import Derived.Test.YtjkfchehkpmhkaaDoorAc
import Derived.Test.YtjkfchehkpmhkaaDoorME
set_option linter.unusedSimpArgs false
set_option linter.unusedVariables false
set_option maxRecDepth 100000
set_option maxHeartbeats 1600000
namespace Go.Proofs.YtjkfchehkpmhkaaDoor
open Go.RowKit
theorem tD (l:List En):∀ u∈fl enc l,u.oneCell'=true:=by
 intro u hu
 unfold fl at hu
 rw [List.mem_flatten] at hu;obtain ⟨xs,h1,h2⟩:=hu;rw [List.mem_map] at h1;obtain ⟨x,_,rfl⟩:=h1
 unfold enc at h2
 simp only [List.mem_cons,List.not_mem_nil,or_false] at h2
 rcases h2 with rfl|rfl|rfl|rfl|rfl|rfl|rfl|rfl|rfl|rfl|rfl|rfl|rfl <;> rfl
def Ow (B:Nat) (l:List En) (v:Value) (X:World):Prop:=X.ownsRow B 70 13 v l.length (fl enc l)
theorem Ow.lasts (B:Nat) (l:List En):dM (Ow B l):=fun _ _ _ h hS=>cA h hS
theorem Ow.mono {B B':Nat} {l:List En} {v:Value} {X:World} (h:Ow B l v X) (hB:B'≤B):Ow B' l v X:=by
 obtain ⟨hl,hr⟩:=h;refine ⟨hl,hr.imp id ?_⟩
 rintro ⟨g,cap,cur,hv,hb,rest⟩
 exact ⟨g,cap,cur,hv,Nat.le_trans hB hb,rest⟩
theorem Ow.es {B:Nat} {l:List En} {v:Value} {X:World} (h:Ow B l v X):Es l v X:=wP h rfl
theorem xQq (v:Value) (l:List En) (w:World) (hv:Es l v w) (hl:l.length≤4000):Calls Tryd.prog 56 #[v] w fun e w'=>∃ u,e=.returned u∧Ow w.heap.size l u w'∧Since w w':=by
 obtain ⟨A,n,c,rfl,hln,hn1,hr⟩:=hv.at
 rcases A with _|⟨b,off,fr⟩
 ·have h0:n=0:=by
   obtain ⟨_,A2,c2,h2,hc,hm,hz,_⟩:=hr
   injection h2 with e1 e2 e3
   have:=hz e1.symm
   omega
  subst h0
  have hc0:c=0:=by
   obtain ⟨_,A2,c2,h2,hc,hm,hz,_⟩:=hr
   injection h2 with e1 e2 e3
   subst e3;exact hz e1.symm
  subst hc0;obtain rfl:l=[]:=List.eq_nil_of_length_eq_zero hln;have he:=Lib.run_eql_slice_nil (P:=Tryd.prog) (w:=w) 26 70 none 0 0 0 0 Tryd.underlying26
  go_enter Tryd.func56,Tryd.ntmps56
  go_wp2
  go_ret
  exact ⟨_,rfl,⟨rfl,.inl ⟨rfl,rfl⟩⟩,Below.refl _ _⟩
 ·have he:=Lib.run_eql_slice_nil (P:=Tryd.prog) (w:=w) 26 70 (some ⟨b,off,fr⟩) n c 0 0 Tryd.underlying26
  have ho0:(w.alloc (.cells #[] 70)).ownsRow w.heap.size 70 13 (.slice (some ⟨w.heap.size,0,none⟩) 0 0) 0 [] :=
   ⟨rfl,.inr ⟨w.heap.size,0,#[],rfl,Nat.le_refl _,heap_alloc_new w _,Nat.le_refl _,by unfold maxLen;omega,rfl,rfl⟩⟩
  have hr0:=hr.alloc (.cells #[] 70);have hb0:=(Below.refl w.heap.size w).alloc (Nat.le_refl _) (.cells #[] 70)
  go_enter Tryd.func56,Tryd.ntmps56
  go_wp2_with (at_builtin;refine fM rfl (.tmp 5) (.tmp 6) 26 rfl w.heap.size 70 _ 13 120 Tryd.underlying26 qB rfl (by decide) _ _ _ rfl ho0 _ _ _ rfl hr0 (tD l) (by omega) (by unfold maxLen;omega) hb0.size ?_;intro v4 w4 hown4 hg4 hb4)
  rw [List.nil_append,Nat.zero_add,← hln] at hown4
  go_wp2
  go_ret
  exact ⟨_,rfl,hown4,hb0.trans hb4⟩
theorem qI {f:Operand→Value} {o:Oper} (x y:Operand) (ho:o.op=.store 26 x y) (g j:Nat) {A:Option Addr} {n c:Nat} (hx:f x=vP g j) (hy:f y=.slice A n c) (u:Value) (X:World) (hc:X.cell? ⟨g,j,none⟩=some u) (hf:X.frozen? ⟨g,j,none⟩=false) :
  (execOp f o).run Tryd.prog X=.ok .skip (X.setCell ⟨g,j,none⟩ (.slice A n c)):=by
 unfold execOp
 simp only [ho,hx,hy]
 go_simp
theorem uT (l:List En) (x:En):fl enc l++fl enc [x]=fl enc (l++[x]):=by simp [fl]
theorem qYq {P:Program} {f:Operand→Value} {o:Oper} (x:En) {X:World} (hr:(execOp f o).run P X=.ok (.value (.slice (some ⟨X.heap.size,0,none⟩) 1 1)) (X.alloc (.cells (enc x).toArray 70))):∃ v X',(execOp f o).run P X=.ok (.value v) X'∧Es [x] v X'∧Since X X':=by
 refine ⟨_,_,hr,?_,bE X _⟩;have hB:Blk (X.alloc (.cells (enc x).toArray 70)) X.heap.size 70 (enc x):=Blk.new rfl;refine ⟨by simp [fl];rfl,some ⟨X.heap.size,0,none⟩,1,rfl,Nat.le_refl _,by unfold maxLen;omega,(fun h9=>by cases h9),fun _=>⟨X.heap.size,0,rfl,hB.lt,fun j u hj=>?_⟩⟩
 have hj2:(enc x)[j]?=some u:=by simpa [fl] using hj
 have:=hB.cell (j:=j) hj2
 rwa [Nat.zero_add]
def wiL (l:List En) (x:En):List En:=if gB l x=0 then l++[x] else []
theorem wth0 (c:Int) (v:Value) (l:List En) (x:En) (w:World) (hv:Es l v w) (h0:0<l.length) (hd:x.day<(en l (l.length-1)).day):Calls Tryd.prog 55 #[.agg #[vI c,v],.agg #[vI x.day,vI x.deb,vI x.cre,.bool x.am.1,vS x.am.2.1,vS x.am.2.2,vI x.kd,vI x.pd,vI x.rf,vI x.w1,vI x.w2,vI x.w3,vI x.w4]] w fun e w'=>∃ u,e=.returned u∧Tp (Bks (ifz (gB l x) c) (wiL l x)) (gB l x) u w'∧Since w w':=by
 obtain ⟨A,n,cp,rfl,hln,hn1,hr⟩:=hv.at;clear hv;have HRX:=cP hr;have HLN:=Lib.hid hln;clear hr
 go_enter Tryd.func55,Tryd.ntmps55
 go_upto_region 1 with fail;obtain ⟨W0,hW0,hB0,hB1,hB2,hb⟩:=bV w 28 70 28 [vI c,.slice A n cp] (eL x) [vI 0,.slice none 0 0];rw [← hW0];clear hW0;refine jp ?_;refine jn (vP w.heap.size 1) ?_;refine jf _ hB0 1 aZ ?_;refine jv (vI n) (aJ Tryd.underlying26 _ (by rfl) A n cp (by rfl) _ rfl) ?_;refine jm (vI n) ?_;refine jzb hb fun X1 hX1 hb=>?_;obtain ⟨hB0,hB1,hB2⟩:=bl3 hX1 hB0 hB1 hB2
 have hnp:0<n:=by rw [← HLN.out];exact h0
 obtain ⟨j,hj⟩:∃ j,n=j+1:=⟨n-1,by omega⟩;obtain ⟨b,off,rfl,hbb,hcx⟩:=iW (HRX.out _ hb) HLN.out (k:=j) (by omega);obtain ⟨p,p9⟩:∃ p,p=en l (l.length-1):=⟨_,rfl⟩;have HP:=Lib.hid p9;clear p9;rw [show en l j=p by rw [HP.out,HLN.out,hj,Nat.add_sub_cancel]] at hcx
 change Cl X1 b (off+j * 13) (eL p) at hcx
 have hdp:x.day<p.day:=by rw [HP.out];exact hd
 have HE:Hid (gB l x=15):=by
  show _=_
  unfold gB
  rw [if_pos ⟨h0,hd⟩]
 go_upto_region 2 with fail;refine jd ?_;refine jm (vI n) ?_;refine dN (n:Int) 0 (by omega) ?_;refine jm (.bool true) ?_;refine jn (vP (w.heap.size+1) 0) ?_;refine jf _ hB1 0 aB ?_;refine jn (vP w.heap.size 1) ?_;refine jf _ hB0 1 aZ ?_;refine jm (vI n) ?_;refine jv (vI j) (bC _ _ _ _ (by rfl) (n:Int) 1 (j:Int) (by rfl) (by rfl) (by omega) (by omega) (by omega)) ?_;refine jv (vP b (off+j * 13)) (aW Tryd.underlying26 aR _ _ (by rfl) b (off) n cp j (by omega) (by rfl) (by rfl) rfl) ?_;refine jn (vP b (off+j * 13)) ?_;refine jg (vI p.day) (fun X hX hF=>aY 3 _ (by rfl) b (off+j * 13) (by rfl) _ X ((hcx.below hX hbb) 0 _ rfl) (fun X u h=>aB b (off+j * 13) X u h)) ?_;refine cW x.day p.day (by omega) ?_;refine jm (.bool true) ?_;refine jzb hb fun X2 hX2 hb=>?_;obtain ⟨hB0,hB1,hB2⟩:=bl3 hX2 hB0 hB1 hB2;have hcx:=hcx.below hX2 hbb;replace hbb:=Nat.lt_of_lt_of_le hbb (hX2).size
 have HL:Hid (wiL l x=[]):=by
  show _=_
  unfold wiL
  rw [HE.out,if_neg (by decide)]
 go_upto_region 3 with fail;refine jq 1 ?_;refine jn (.agg #[vI 0,.slice none 0 0]) ?_;refine jzb hb fun X3 hX3 hb=>?_;obtain ⟨hB0,hB1,hB2⟩:=bl3 hX3 hB0 hB1 hB2;refine osb 28 4 24 (w.heap.size+2) 28 hB2 [vI 0,.slice none 0 0] aP ?_;intro w9 hR9 hO9 hB9 hs9;have hb9:=hB9 _ _ hb (by omega);have hB0:=hO9 _ _ _ (by omega) hB0;have hB1:=hO9 _ _ _ (by omega) hB1;clear hO9 hB9
 go_wp2
 refine aU (v:=vI 15) rfl rfl (by rfl) (by rfl) Tryd.underlying28 rfl hR9 aP ⟨_,rfl,⟨_,by rw [HE.out],by rw [HE.out,HL.out];exact ⟨_,rfl,cV _⟩⟩,hb9⟩
theorem wth1 (c:Int) (v:Value) (l:List En) (x:En) (w:World) (hv:Es l v w) (hd:¬ (0<l.length∧x.day<(en l (l.length-1)).day)) (hlen:4000≤l.length):Calls Tryd.prog 55 #[.agg #[vI c,v],.agg #[vI x.day,vI x.deb,vI x.cre,.bool x.am.1,vS x.am.2.1,vS x.am.2.2,vI x.kd,vI x.pd,vI x.rf,vI x.w1,vI x.w2,vI x.w3,vI x.w4]] w fun e w'=>∃ u,e=.returned u∧Tp (Bks (ifz (gB l x) c) (wiL l x)) (gB l x) u w'∧Since w w':=by
 obtain ⟨A,n,cp,rfl,hln,hn1,hr⟩:=hv.at;clear hv;have HRX:=cP hr;have HLN:=Lib.hid hln;clear hr
 go_enter Tryd.func55,Tryd.ntmps55
 go_upto_region 1 with fail;obtain ⟨W0,hW0,hB0,hB1,hB2,hb⟩:=bV w 28 70 28 [vI c,.slice A n cp] (eL x) [vI 0,.slice none 0 0];rw [← hW0];clear hW0;refine jp ?_;refine jn (vP w.heap.size 1) ?_;refine jf _ hB0 1 aZ ?_;refine jv (vI n) (aJ Tryd.underlying26 _ (by rfl) A n cp (by rfl) _ rfl) ?_;refine jm (vI n) ?_;refine jzb hb fun X1 hX1 hb=>?_;obtain ⟨hB0,hB1,hB2⟩:=bl3 hX1 hB0 hB1 hB2;rw [hln] at hlen
 have HE:Hid (gB l x=2):=by
  show _=_
  unfold gB
  rw [if_neg (fun h9=>hd h9),if_pos (by rw [HLN.out];exact hlen)]
 have hnp:0<n:=by omega
 obtain ⟨j,hj⟩:∃ j,n=j+1:=⟨n-1,by omega⟩;obtain ⟨b,off,rfl,hbb,hcx⟩:=iW (HRX.out _ hb) HLN.out (k:=j) (by omega);obtain ⟨p,p9⟩:∃ p,p=en l (l.length-1):=⟨_,rfl⟩;have HP:=Lib.hid p9;clear p9;rw [show en l j=p by rw [HP.out,HLN.out,hj,Nat.add_sub_cancel]] at hcx
 change Cl X1 b (off+j * 13) (eL p) at hcx
 have hdp:¬ x.day<p.day:=fun h9=>hd ⟨by rw [HLN.out];omega,by rw [← HP.out];exact h9⟩
 go_upto_region 2 with fail;refine jd ?_;refine jm (vI n) ?_;refine dN (n:Int) 0 (by omega) ?_;refine jm (.bool true) ?_;refine jn (vP (w.heap.size+1) 0) ?_;refine jf _ hB1 0 aB ?_;refine jn (vP w.heap.size 1) ?_;refine jf _ hB0 1 aZ ?_;refine jm (vI n) ?_;refine jv (vI j) (bC _ _ _ _ (by rfl) (n:Int) 1 (j:Int) (by rfl) (by rfl) (by omega) (by omega) (by omega)) ?_;refine jv (vP b (off+j * 13)) (aW Tryd.underlying26 aR _ _ (by rfl) b (off) n cp j (by omega) (by rfl) (by rfl) rfl) ?_;refine jn (vP b (off+j * 13)) ?_;refine jg (vI p.day) (fun X hX hF=>aY 3 _ (by rfl) b (off+j * 13) (by rfl) _ X ((hcx.below hX hbb) 0 _ rfl) (fun X u h=>aB b (off+j * 13) X u h)) ?_;refine bR x.day p.day (by omega) ?_;refine jm (.bool false) ?_;refine jzb hb fun X2 hX2 hb=>?_;obtain ⟨hB0,hB1,hB2⟩:=bl3 hX2 hB0 hB1 hB2;have hcx:=hcx.below hX2 hbb;replace hbb:=Nat.lt_of_lt_of_le hbb (hX2).size;go_upto_region 4 with fail;refine jp ?_;refine jn (vP w.heap.size 1) ?_;refine jf _ hB0 1 aZ ?_;refine jv (vI n) (aJ Tryd.underlying26 _ (by rfl) (some ⟨b,off,none⟩) n cp (by rfl) _ rfl) ?_;refine kC (n:Int) 4000 (by omega) ?_;refine jzb hb fun X3 hX3 hb=>?_;obtain ⟨hB0,hB1,hB2⟩:=bl3 hX3 hB0 hB1 hB2
 have HL:Hid (wiL l x=[]):=by
  show _=_
  unfold wiL
  rw [HE.out,if_neg (by decide)]
 go_upto_region 5 with fail;refine jq 1 ?_;refine jn (.agg #[vI 0,.slice none 0 0]) ?_;refine jzb hb fun X4 hX4 hb=>?_;obtain ⟨hB0,hB1,hB2⟩:=bl3 hX4 hB0 hB1 hB2;refine osb 28 4 29 (w.heap.size+2) 28 hB2 [vI 0,.slice none 0 0] aP ?_;intro w9 hR9 hO9 hB9 hs9;have hb9:=hB9 _ _ hb (by omega);have hB0:=hO9 _ _ _ (by omega) hB0;have hB1:=hO9 _ _ _ (by omega) hB1;clear hO9 hB9
 go_wp2
 refine aU (v:=vI 2) rfl rfl (by rfl) (by rfl) Tryd.underlying28 rfl hR9 aP ⟨_,rfl,⟨_,by rw [HE.out],by rw [HE.out,HL.out];exact ⟨_,rfl,cV _⟩⟩,hb9⟩
theorem wth2 (c:Int) (v:Value) (l:List En) (x:En) (w:World) (hv:Es l v w) (hd:¬ (0<l.length∧x.day<(en l (l.length-1)).day)) (hlen:l.length<4000):Calls Tryd.prog 55 #[.agg #[vI c,v],.agg #[vI x.day,vI x.deb,vI x.cre,.bool x.am.1,vS x.am.2.1,vS x.am.2.2,vI x.kd,vI x.pd,vI x.rf,vI x.w1,vI x.w2,vI x.w3,vI x.w4]] w fun e w'=>∃ u,e=.returned u∧Tp (Bks (ifz (gB l x) c) (wiL l x)) (gB l x) u w'∧Since w w':=by
 obtain ⟨A,n,cp,rfl,hln,hn1,hr⟩:=hv.at;clear hv;have HRX:=cP hr;have HLN:=Lib.hid hln;clear hr
 go_enter Tryd.func55,Tryd.ntmps55
 go_upto_region 1 with fail;obtain ⟨W0,hW0,hB0,hB1,hB2,hb⟩:=bV w 28 70 28 [vI c,.slice A n cp] (eL x) [vI 0,.slice none 0 0];rw [← hW0];clear hW0;refine jp ?_;refine jn (vP w.heap.size 1) ?_;refine jf _ hB0 1 aZ ?_;refine jv (vI n) (aJ Tryd.underlying26 _ (by rfl) A n cp (by rfl) _ rfl) ?_;refine jm (vI n) ?_;refine jzb hb fun X1 hX1 hb=>?_;obtain ⟨hB0,hB1,hB2⟩:=bl3 hX1 hB0 hB1 hB2;rw [hln] at hlen
 have HE:Hid (gB l x=0):=by
  show _=_
  unfold gB
  rw [if_neg (fun h9=>hd h9),if_neg (by rw [HLN.out];omega)]
 have HL:Hid (wiL l x=l++[x]):=by
  show _=_
  unfold wiL
  rw [if_pos HE.out]
 rcases Nat.eq_zero_or_pos n with hn0|hnp
 ·go_upto_region 2 with fail
  refine jd ?_;refine jm (vI n) ?_;refine dF (n:Int) 0 (by omega) ?_;refine jm (.bool false) ?_;refine js ?_;refine js ?_;refine js ?_;refine js ?_;refine js ?_;refine js ?_;refine js ?_;refine js ?_;refine js ?_;refine js ?_;refine jm (.bool false) ?_;refine jzb hb fun X2 hX2 hb=>?_;obtain ⟨hB0,hB1,hB2⟩:=bl3 hX2 hB0 hB1 hB2;go_upto_region 4 with fail;refine jp ?_;refine jn (vP w.heap.size 1) ?_;refine jf _ hB0 1 aZ ?_;refine jv (vI n) (aJ Tryd.underlying26 _ (by rfl) A n cp (by rfl) _ rfl) ?_;refine mK (n:Int) 4000 (by omega) ?_;refine jzb hb fun X3 hX3 hb=>?_;obtain ⟨hB0,hB1,hB2⟩:=bl3 hX3 hB0 hB1 hB2;have hWB:w.heap.size+2<X3.heap.size:=hB2.lt;have HES:=dG HLN HRX;go_upto_region 6 with fail;refine jX 3 [none,none,some (Ow X3.heap.size l),none,some (Es [x])] (by kernel_rfl) (by kernel_rfl) (by kernel_rfl) (aA (aA (aC (Ow.lasts _ _) (aA (aC (Es.lasts _) (aG)))))) ?_;simp only [its,List.length_cons,List.length_nil,Nat.zero_add,Nat.reduceAdd,Nat.reduceSub,List.take_succ_cons,List.take_zero,List.drop_succ_cons,List.drop_zero];refine jn (vP w.heap.size 1) ?_;refine jf _ hB0 1 aZ ?_;refine jk (fun X hX hF=>(xQq _ l X (HES.out X (Since.next hb hX)) (by rw [HLN.out];omega)).mono fun e X' ⟨u,h1,h2,h3⟩=>⟨u,h1,h2.mono hX.size,h3⟩) ?_;intro v32;refine ja hB1 Tryd.underlying70 (by rfl) aR ?_
  refine bJ (by rfl) (fun X hX hF=>qYq x (by unfold execOp enc;go_simp)) ?_;intro v34;simp only [pX];refine aI ?_;intro X4 hX4 hF;have hv32:=hF _ _ (List.mem_cons_of_mem _ List.mem_cons_self);have hv34:=hF _ _ List.mem_cons_self;have hszW:=(hX4).size;obtain ⟨hB0,hB1,hB2⟩:=bl3 hX4 hB0 hB1 hB2;have hb:=aD hb hX4;clear hF hX4;refine fM rfl (.tmp 32) (.tmp 34) 26 rfl X3.heap.size 70 _ 13 120 Tryd.underlying26 qB rfl (by decide) _ l.length _ rfl hv32 _ 1 _ rfl hv34 (tD [x]) (by omega) (by unfold maxLen;omega) hszW ?_;intro v35 w35 hown hg35 hb35;obtain ⟨A5,c5,rfl,_,_⟩:=(Rd.of_own hown).form;have hB0:=hB0.below hb35 (by omega);have hB2:=hB2.below hb35 (by omega);have hb:=hb.trans (hb35.mono (by omega));clear hv32 hv34 hg35 hb35 hB1;refine dV rfl (vP w.heap.size 1) (by unfold execOp;go_simp) ?_;refine iN rfl w.heap.size 1 28 _ hB0 (.slice A5 (l.length+1) c5) (by simp) (fun X u h1 h2=>qI _ _ (by rfl) _ _ (by rfl) (by rfl) u X h1 h2) ?_;intro w36 hR5 hO5 hB5;have hb:=hB5 _ _ hb (by omega);have hB2:=hO5 _ _ _ (by omega) hB2;have hOw:=uG hown (fun g t zs h9 hB=>hO5 _ _ _ (by have:=(cM hown _ h9).1;omega) hB)
  change Blk w36 w.heap.size 28 [vI c,.slice A5 (l.length+1) c5] at hR5
  have hB0:=hR5;clear hown hO5 hB5 hR5;refine wpList_nil ?_;go_upto_region 7 with fail;refine jq 1 ?_;refine ja hB0 Tryd.underlying28 (by rfl) aP ?_;refine jzb hb fun X5 hX5 hb=>?_;have hOw:=cA hOw hX5;obtain ⟨hB0,hB2⟩:=bl2 hX5 hB0 hB2;refine aN rfl 28 (.tmp 4) (.tmp 37) rfl (w.heap.size+2) 28 _ hB2 rfl [vI c,.slice A5 (l.length+1) c5] rfl (by rfl) (by intro u hu;simp only [List.mem_cons,List.not_mem_nil,or_false] at hu;rcases hu with rfl|rfl <;> rfl) aP ?_;intro w9s hR9 hG9;have hb:=aK hG9 hb hb.size (by omega);have hB0:=aE hG9 hB0 (by omega);have hOw:=fI hOw hG9 (fun g h h9=>by injection h with h;have h8:=(cM hOw _ h9).1;omega);have hB2:=hR9;clear hG9 hR9
  go_wp2
  refine aU (v:=vI 0) rfl rfl (by rfl) (by rfl) Tryd.underlying28 rfl hB2 aP ⟨_,rfl,⟨_,by rw [HE.out],by rw [HE.out,HL.out];exact ⟨_,rfl,wP (by rw [uT] at hOw;exact hOw) (by simp)⟩⟩,hb⟩
 ·obtain ⟨j,hj⟩:∃ j,n=j+1:=⟨n-1,by omega⟩
  obtain ⟨b,off,rfl,hbb,hcx⟩:=iW (HRX.out _ hb) HLN.out (k:=j) (by omega);obtain ⟨p,p9⟩:∃ p,p=en l (l.length-1):=⟨_,rfl⟩;have HP:=Lib.hid p9;clear p9;rw [show en l j=p by rw [HP.out,HLN.out,hj,Nat.add_sub_cancel]] at hcx
  change Cl X1 b (off+j * 13) (eL p) at hcx
  have hdp:¬ x.day<p.day:=fun h9=>hd ⟨by rw [HLN.out];omega,by rw [← HP.out];exact h9⟩
  go_upto_region 2 with fail;refine jd ?_;refine jm (vI n) ?_;refine dN (n:Int) 0 (by omega) ?_;refine jm (.bool true) ?_;refine jn (vP (w.heap.size+1) 0) ?_;refine jf _ hB1 0 aB ?_;refine jn (vP w.heap.size 1) ?_;refine jf _ hB0 1 aZ ?_;refine jm (vI n) ?_;refine jv (vI j) (bC _ _ _ _ (by rfl) (n:Int) 1 (j:Int) (by rfl) (by rfl) (by omega) (by omega) (by omega)) ?_;refine jv (vP b (off+j * 13)) (aW Tryd.underlying26 aR _ _ (by rfl) b (off) n cp j (by omega) (by rfl) (by rfl) rfl) ?_;refine jn (vP b (off+j * 13)) ?_;refine jg (vI p.day) (fun X hX hF=>aY 3 _ (by rfl) b (off+j * 13) (by rfl) _ X ((hcx.below hX hbb) 0 _ rfl) (fun X u h=>aB b (off+j * 13) X u h)) ?_;refine bR x.day p.day (by omega) ?_;refine jm (.bool false) ?_;refine jzb hb fun X2 hX2 hb=>?_;obtain ⟨hB0,hB1,hB2⟩:=bl3 hX2 hB0 hB1 hB2;have hcx:=hcx.below hX2 hbb;replace hbb:=Nat.lt_of_lt_of_le hbb (hX2).size;go_upto_region 4 with fail;refine jp ?_;refine jn (vP w.heap.size 1) ?_;refine jf _ hB0 1 aZ ?_;refine jv (vI n) (aJ Tryd.underlying26 _ (by rfl) (some ⟨b,off,none⟩) n cp (by rfl) _ rfl) ?_;refine mK (n:Int) 4000 (by omega) ?_;refine jzb hb fun X3 hX3 hb=>?_;obtain ⟨hB0,hB1,hB2⟩:=bl3 hX3 hB0 hB1 hB2;have hWB:w.heap.size+2<X3.heap.size:=hB2.lt
  have HES:Hid (∀ X,Since w X→Es l (.slice (some ⟨b,off,none⟩) n cp) X):=fun X h=>by show Rd X 13 _ l.length _;rw [HLN.out];exact HRX.out X h
  go_upto_region 6 with fail;refine jX 3 [none,none,some (Ow X3.heap.size l),none,some (Es [x])] (by kernel_rfl) (by kernel_rfl) (by kernel_rfl) (aA (aA (aC (Ow.lasts _ _) (aA (aC (Es.lasts _) (aG)))))) ?_;simp only [its,List.length_cons,List.length_nil,Nat.zero_add,Nat.reduceAdd,Nat.reduceSub,List.take_succ_cons,List.take_zero,List.drop_succ_cons,List.drop_zero];refine jn (vP w.heap.size 1) ?_;refine jf _ hB0 1 aZ ?_;refine jk (fun X hX hF=>(xQq _ l X (HES.out X (Since.next hb hX)) (by rw [HLN.out];omega)).mono fun e X' ⟨u,h1,h2,h3⟩=>⟨u,h1,h2.mono hX.size,h3⟩) ?_;intro v32;refine ja hB1 Tryd.underlying70 (by rfl) aR ?_;refine bJ (by rfl) (fun X hX hF=>qYq x (by unfold execOp enc;go_simp)) ?_;intro v34;simp only [pX];refine aI ?_;intro X4 hX4 hF;have hv32:=hF _ _ (List.mem_cons_of_mem _ List.mem_cons_self);have hv34:=hF _ _ List.mem_cons_self;have hszW:=(hX4).size;obtain ⟨hB0,hB1,hB2⟩:=bl3 hX4 hB0 hB1 hB2;have hb:=aD hb hX4;clear hF hX4;refine fM rfl (.tmp 32) (.tmp 34) 26 rfl X3.heap.size 70 _ 13 120 Tryd.underlying26 qB rfl (by decide) _ l.length _ rfl hv32 _ 1 _ rfl hv34 (tD [x]) (by omega) (by unfold maxLen;omega) hszW ?_;intro v35 w35 hown hg35 hb35;obtain ⟨A5,c5,rfl,_,_⟩:=(Rd.of_own hown).form;have hB0:=hB0.below hb35 (by omega);have hB2:=hB2.below hb35 (by omega);have hb:=hb.trans (hb35.mono (by omega))
  clear hv32 hv34 hg35 hb35 hB1;refine dV rfl (vP w.heap.size 1) (by unfold execOp;go_simp) ?_;refine iN rfl w.heap.size 1 28 _ hB0 (.slice A5 (l.length+1) c5) (by simp) (fun X u h1 h2=>qI _ _ (by rfl) _ _ (by rfl) (by rfl) u X h1 h2) ?_;intro w36 hR5 hO5 hB5;have hb:=hB5 _ _ hb (by omega);have hB2:=hO5 _ _ _ (by omega) hB2;have hOw:=uG hown (fun g t zs h9 hB=>hO5 _ _ _ (by have:=(cM hown _ h9).1;omega) hB)
  change Blk w36 w.heap.size 28 [vI c,.slice A5 (l.length+1) c5] at hR5
  have hB0:=hR5;clear hown hO5 hB5 hR5;refine wpList_nil ?_;go_upto_region 7 with fail;refine jq 1 ?_;refine ja hB0 Tryd.underlying28 (by rfl) aP ?_;refine jzb hb fun X5 hX5 hb=>?_;have hOw:=cA hOw hX5;obtain ⟨hB0,hB2⟩:=bl2 hX5 hB0 hB2;refine aN rfl 28 (.tmp 4) (.tmp 37) rfl (w.heap.size+2) 28 _ hB2 rfl [vI c,.slice A5 (l.length+1) c5] rfl (by rfl) (by intro u hu;simp only [List.mem_cons,List.not_mem_nil,or_false] at hu;rcases hu with rfl|rfl <;> rfl) aP ?_;intro w9s hR9 hG9;have hb:=aK hG9 hb hb.size (by omega);have hB0:=aE hG9 hB0 (by omega);have hOw:=fI hOw hG9 (fun g h h9=>by injection h with h;have h8:=(cM hOw _ h9).1;omega);have hB2:=hR9;clear hG9 hR9
  go_wp2
  refine aU (v:=vI 0) rfl rfl (by rfl) (by rfl) Tryd.underlying28 rfl hB2 aP ⟨_,rfl,⟨_,by rw [HE.out],by rw [HE.out,HL.out];exact ⟨_,rfl,wP (by rw [uT] at hOw;exact hOw) (by simp)⟩⟩,hb⟩
theorem qZp (c:Int) (v:Value) (l:List En) (x:En) (w:World) (hv:Es l v w):Calls Tryd.prog 55 #[.agg #[vI c,v],.agg #[vI x.day,vI x.deb,vI x.cre,.bool x.am.1,vS x.am.2.1,vS x.am.2.2,vI x.kd,vI x.pd,vI x.rf,vI x.w1,vI x.w2,vI x.w3,vI x.w4]] w fun e w'=>∃ u,e=.returned u∧Tp (Bks (ifz (gB l x) c) (wiL l x)) (gB l x) u w'∧Since w w':=by
 by_cases h:0<l.length∧x.day<(en l (l.length-1)).day
 ·exact wth0 c v l x w hv h.1 h.2
 ·rcases Nat.lt_or_ge l.length 4000 with h2|h2
  ·exact wth2 c v l x w hv h h2
  ·exact wth1 c v l x w hv h h2
theorem Es.form {l:List En} {v:Value} {X:World} (h:Es l v X):∃ A c,v=.slice A l.length c:=by
 obtain ⟨A,n,c,h1,h2,_⟩:=h.at;exact ⟨A,c,by rw [h1,h2]⟩
theorem Es.grown {X Y:World} {g:Nat} {T:TypeId} {l:List En} {v:Value} {ys:List Value} (hG:X.grownBy Y (some g)) (h:Es l v X) (hB:Blk X g T ys) (hy:ys.length<13:=by simp):Es l v Y:=by
 obtain ⟨hl,A,c,hv,hc,hm,hz,hx⟩:=h;refine ⟨hl,A,c,hv,hc,hm,hz,fun hn=>?_⟩;obtain ⟨b,off,hA,hb,hcell⟩:=hx hn;refine ⟨b,off,hA,Nat.lt_of_lt_of_le hb hG.size,fun j u hj=>?_⟩;have h1:=hcell j u hj
 have hne:b≠g:=fun h9=>by
  subst h9
  have hlen:12<(fl enc l).length:=by rw [vVg];omega
  have h2:=hcell 12 _ (List.getElem?_eq_getElem hlen);rw [cell_of_row _ _ _ _ _ _ hB] at h2
  have h3:ys[off+12]?=some (fl enc l)[12]:=by simpa using h2
  rw [List.getElem?_eq_none (by omega)] at h3
  cases h3
 exact (World.cell?_of_block (w:=X) (a:=⟨b,off+j,none⟩) (hG.block b hb (fun h9=>hne (by injection h9)))).trans h1
theorem pst0 (c:Int) (v:Value) (l:List En) (x:En) (w:World) (hv:Es l v w) (hs:Hid (∀ k,tz (en l k).am.2.1 (en l k).am.2.2 1000000)) (hxs:tz x.am.2.1 x.am.2.2 1000000) (h0:acE c l≠0):Calls Tryd.prog 38 #[.agg #[vI c,v],.agg #[vI x.day,vI x.deb,vI x.cre,.bool x.am.1,vS x.am.2.1,vS x.am.2.2,vI x.kd,vI x.pd,vI x.rf,vI x.w1,vI x.w2,vI x.w3,vI x.w4]] w fun e w'=>∃ u,e=.returned u∧Tp (Bks (ifz (poE c l x) c) (poL c l x)) (poE c l x) u w'∧Since w w':=by
 obtain ⟨z,z9⟩:∃ z,acE c l=z:=⟨_,rfl⟩;have HZ:=Lib.hid z9
 have hz0:z≠0:=by rw [← z9];exact h0
 clear z9 h0
 have HE:Hid (poE c l x=z):=by
  show _=_
  unfold poE
  rw [HZ.out,if_pos hz0]
 obtain ⟨A,n,cp,rfl,hln,hn1,hr⟩:=hv.at;clear hv;have HRX:=cP hr;have HLN:=Lib.hid hln;clear hr;have HES:=dG HLN HRX
 go_enter Tryd.func38,Tryd.ntmps38
 go_upto_region 1 with fail;obtain ⟨W0,hW0,hB0,hB1,hB2,hb⟩:=bV w 28 70 28 [vI c,.slice A n cp] (eL x) [vI 0,.slice none 0 0];rw [← hW0];clear hW0;refine jp ?_;refine ja hB0 Tryd.underlying28 (by rfl) aP ?_;refine jc (vI z) (fun X hX hF=>mo (lN c _ l X (HES.out X (Since.next hb hX)) hs) (by rw [HZ.out])) ?_;refine jm (vI z) ?_;refine jzb hb fun X1 hX1 hb=>?_;obtain ⟨hB0,hB1,hB2⟩:=bl3 hX1 hB0 hB1 hB2;go_upto_region 2 with fail;refine jp ?_;refine jm (vI z) ?_;refine jv (.bool true) (aL _ _ _ _ (by rfl) .i64 z 0 (by rfl) (by rfl) true (by rw [decide_eq_false (by omega)];rfl)) ?_;refine jzb hb fun X2 hX2 hb=>?_;obtain ⟨hB0,hB1,hB2⟩:=bl3 hX2 hB0 hB1 hB2
 have HL:Hid (poL c l x=[]):=by
  show _=_
  unfold poL
  rw [HE.out,if_neg hz0]
 go_upto_region 3 with fail;refine jq 2 ?_;refine jn (.agg #[vI 0,.slice none 0 0]) ?_;refine jm (vI z) ?_;refine jzb hb fun X3 hX3 hb=>?_;obtain ⟨hB0,hB1,hB2⟩:=bl3 hX3 hB0 hB1 hB2;refine osb 28 4 11 (w.heap.size+2) 28 hB2 [vI 0,.slice none 0 0] aP ?_;intro w9 hR9 hO9 hB9 hs9;have hb9:=hB9 _ _ hb (by omega);have hB0:=hO9 _ _ _ (by omega) hB0;have hB1:=hO9 _ _ _ (by omega) hB1;clear hO9 hB9
 go_wp2
 refine aU (v:=vI z) rfl rfl (by rfl) (by rfl) Tryd.underlying28 rfl hR9 aP ⟨_,rfl,⟨_,by rw [HE.out],by rw [HE.out,HL.out,show ifz z c=0 from if_neg hz0];exact ⟨_,rfl,cV _⟩⟩,hb9⟩
theorem pst1 (c:Int) (v:Value) (l:List En) (x:En) (w:World) (hv:Es l v w) (hs:Hid (∀ k,tz (en l k).am.2.1 (en l k).am.2.2 1000000)) (hxs:tz x.am.2.1 x.am.2.2 1000000) (HC:Hid (acE c l=0)) (h:Hid (x.kd=4)):Calls Tryd.prog 38 #[.agg #[vI c,v],.agg #[vI x.day,vI x.deb,vI x.cre,.bool x.am.1,vS x.am.2.1,vS x.am.2.2,vI x.kd,vI x.pd,vI x.rf,vI x.w1,vI x.w2,vI x.w3,vI x.w4]] w fun e w'=>∃ u,e=.returned u∧Tp (Bks (ifz (poE c l x) c) (poL c l x)) (poE c l x) u w'∧Since w w':=by
 obtain ⟨A,n,cp,rfl,hln,hn1,hr⟩:=hv.at;clear hv;have HRX:=cP hr;have HLN:=Lib.hid hln;clear hr;have HES:=dG HLN HRX
 go_enter Tryd.func38,Tryd.ntmps38
 go_upto_region 1 with fail;obtain ⟨W0,hW0,hB0,hB1,hB2,hb⟩:=bV w 28 70 28 [vI c,.slice A n cp] (eL x) [vI 0,.slice none 0 0];rw [← hW0];clear hW0;refine jp ?_;refine ja hB0 Tryd.underlying28 (by rfl) aP ?_;refine jc (vI 0) (fun X hX hF=>mo (lN c _ l X (HES.out X (Since.next hb hX)) hs) (by rw [HC.out])) ?_;refine jm (vI 0) ?_;refine jzb hb fun X1 hX1 hb=>?_;obtain ⟨hB0,hB1,hB2⟩:=bl3 hX1 hB0 hB1 hB2;go_upto_region 2 with fail;refine jp ?_;refine jm (vI 0) ?_;refine jv (.bool false) (aL _ _ _ _ (by rfl) .i64 0 0 (by rfl) (by rfl) false (by rw [decide_eq_true (by omega)];rfl)) ?_;refine jzb hb fun X2 hX2 hb=>?_;obtain ⟨hB0,hB1,hB2⟩:=bl3 hX2 hB0 hB1 hB2;go_upto_region 4 with fail;refine jp ?_;refine jn (vP (w.heap.size+1) 6) ?_;refine jn (vP (w.heap.size+1) 6) ?_;refine jf _ hB1 6 aB ?_;refine eG x.kd 4 h.out ?_;refine jm (.bool true) ?_;refine js ?_;refine js ?_;refine js ?_;refine js ?_;refine jm (.bool true) ?_;refine jzb hb fun X3 hX3 hb=>?_;obtain ⟨hB0,hB1,hB2⟩:=bl3 hX3 hB0 hB1 hB2
 have HE:Hid (poE c l x=1):=by
  show _=_
  unfold poE
  rw [HC.out,if_neg (by decide),if_pos (.inl h.out)]
 have HL:Hid (poL c l x=[]):=by
  show _=_
  unfold poL
  rw [HE.out,if_neg (by decide)]
 go_upto_region 5 with fail;refine jq 1 ?_;refine jn (.agg #[vI 0,.slice none 0 0]) ?_;refine jzb hb fun X4 hX4 hb=>?_;obtain ⟨hB0,hB1,hB2⟩:=bl3 hX4 hB0 hB1 hB2;refine osb 28 4 23 (w.heap.size+2) 28 hB2 [vI 0,.slice none 0 0] aP ?_;intro w9 hR9 hO9 hB9 hs9;have hb9:=hB9 _ _ hb (by omega);have hB0:=hO9 _ _ _ (by omega) hB0;have hB1:=hO9 _ _ _ (by omega) hB1;clear hO9 hB9
 go_wp2
 refine aU (v:=vI 1) rfl rfl (by rfl) (by rfl) Tryd.underlying28 rfl hR9 aP ⟨_,rfl,⟨_,by rw [HE.out],by rw [HE.out,HL.out];exact ⟨_,rfl,cV _⟩⟩,hb9⟩
theorem pst2 (c:Int) (v:Value) (l:List En) (x:En) (w:World) (hv:Es l v w) (hs:Hid (∀ k,tz (en l k).am.2.1 (en l k).am.2.2 1000000)) (hxs:tz x.am.2.1 x.am.2.2 1000000) (HC:Hid (acE c l=0)) (h:x.kd≠4) (hr0:rgt c l.length x=false):Calls Tryd.prog 38 #[.agg #[vI c,v],.agg #[vI x.day,vI x.deb,vI x.cre,.bool x.am.1,vS x.am.2.1,vS x.am.2.2,vI x.kd,vI x.pd,vI x.rf,vI x.w1,vI x.w2,vI x.w3,vI x.w4]] w fun e w'=>∃ u,e=.returned u∧Tp (Bks (ifz (poE c l x) c) (poL c l x)) (poE c l x) u w'∧Since w w':=by
 obtain ⟨A,n,cp,rfl,hln,hn1,hr⟩:=hv.at;clear hv;have HRX:=cP hr;have HLN:=Lib.hid hln;clear hr;have HES:=dG HLN HRX
 go_enter Tryd.func38,Tryd.ntmps38
 go_upto_region 1 with fail;obtain ⟨W0,hW0,hB0,hB1,hB2,hb⟩:=bV w 28 70 28 [vI c,.slice A n cp] (eL x) [vI 0,.slice none 0 0];rw [← hW0];clear hW0;refine jp ?_;refine ja hB0 Tryd.underlying28 (by rfl) aP ?_;refine jc (vI 0) (fun X hX hF=>mo (lN c _ l X (HES.out X (Since.next hb hX)) hs) (by rw [HC.out])) ?_;refine jm (vI 0) ?_;refine jzb hb fun X1 hX1 hb=>?_;obtain ⟨hB0,hB1,hB2⟩:=bl3 hX1 hB0 hB1 hB2
 have HR:Hid (rgt c n x=false):=by
  show _=_
  rw [← HLN.out];exact hr0
 go_upto_region 2 with fail;refine jp ?_;refine jm (vI 0) ?_;refine jv (.bool false) (aL _ _ _ _ (by rfl) .i64 0 0 (by rfl) (by rfl) false (by rw [decide_eq_true (by omega)];rfl)) ?_;refine jzb hb fun X2 hX2 hb=>?_;obtain ⟨hB0,hB1,hB2⟩:=bl3 hX2 hB0 hB1 hB2;go_upto_region 4 with fail;refine jp ?_;refine jn (vP (w.heap.size+1) 6) ?_;refine jn (vP (w.heap.size+1) 6) ?_;refine jf _ hB1 6 aB ?_;refine eH x.kd 4 (by omega) ?_;refine jm (.bool false) ?_;refine ja hB0 Tryd.underlying28 (by rfl) aP ?_;refine ja hB1 Tryd.underlying70 (by rfl) aR ?_;refine jc (.bool false) (fun X hX hF=>mo (oH c A n cp x X hn1 hxs) (by rw [HR.out])) ?_;refine jm (.bool true) ?_;refine jm (.bool true) ?_;refine jzb hb fun X3 hX3 hb=>?_;obtain ⟨hB0,hB1,hB2⟩:=bl3 hX3 hB0 hB1 hB2
 have HE:Hid (poE c l x=1):=by
  show _=_
  unfold poE
  rw [HC.out,if_neg (by decide),if_pos (.inr hr0)]
 have HL:Hid (poL c l x=[]):=by
  show _=_
  unfold poL
  rw [HE.out,if_neg (by decide)]
 go_upto_region 5 with fail;refine jq 1 ?_;refine jn (.agg #[vI 0,.slice none 0 0]) ?_;refine jzb hb fun X4 hX4 hb=>?_;obtain ⟨hB0,hB1,hB2⟩:=bl3 hX4 hB0 hB1 hB2;refine osb 28 4 23 (w.heap.size+2) 28 hB2 [vI 0,.slice none 0 0] aP ?_;intro w9 hR9 hO9 hB9 hs9;have hb9:=hB9 _ _ hb (by omega);have hB0:=hO9 _ _ _ (by omega) hB0;have hB1:=hO9 _ _ _ (by omega) hB1;clear hO9 hB9
 go_wp2
 refine aU (v:=vI 1) rfl rfl (by rfl) (by rfl) Tryd.underlying28 rfl hR9 aP ⟨_,rfl,⟨_,by rw [HE.out],by rw [HE.out,HL.out];exact ⟨_,rfl,cV _⟩⟩,hb9⟩
theorem pst3 (c:Int) (v:Value) (l:List En) (x:En) (w:World) (hv:Es l v w) (hs:Hid (∀ k,tz (en l k).am.2.1 (en l k).am.2.2 1000000)) (hxs:tz x.am.2.1 x.am.2.2 1000000) (HC:Hid (acE c l=0)) (h:x.kd≠4) (hr0:rgt c l.length x=true):Calls Tryd.prog 38 #[.agg #[vI c,v],.agg #[vI x.day,vI x.deb,vI x.cre,.bool x.am.1,vS x.am.2.1,vS x.am.2.2,vI x.kd,vI x.pd,vI x.rf,vI x.w1,vI x.w2,vI x.w3,vI x.w4]] w fun e w'=>∃ u,e=.returned u∧Tp (Bks (ifz (poE c l x) c) (poL c l x)) (poE c l x) u w'∧Since w w':=by
 obtain ⟨A,n,cp,rfl,hln,hn1,hr⟩:=hv.at;clear hv;have HRX:=cP hr;have HLN:=Lib.hid hln;clear hr;have HES:=dG HLN HRX
 go_enter Tryd.func38,Tryd.ntmps38
 go_upto_region 1 with fail;obtain ⟨W0,hW0,hB0,hB1,hB2,hb⟩:=bV w 28 70 28 [vI c,.slice A n cp] (eL x) [vI 0,.slice none 0 0];rw [← hW0];clear hW0;refine jp ?_;refine ja hB0 Tryd.underlying28 (by rfl) aP ?_;refine jc (vI 0) (fun X hX hF=>mo (lN c _ l X (HES.out X (Since.next hb hX)) hs) (by rw [HC.out])) ?_;refine jm (vI 0) ?_;refine jzb hb fun X1 hX1 hb=>?_;obtain ⟨hB0,hB1,hB2⟩:=bl3 hX1 hB0 hB1 hB2
 have HR:Hid (rgt c n x=true):=by
  show _=_
  rw [← HLN.out];exact hr0
 obtain ⟨q,q9⟩:∃ q,q=gB l x:=⟨_,rfl⟩;have HQ:=Lib.hid q9;clear q9
 have HE:Hid (poE c l x=q):=by
  show _=_
  unfold poE
  rw [HC.out,if_neg (by decide),if_neg (by rw [hr0];simp [h]),HQ.out]
 have HL:Hid (poL c l x=wiL l x):=by
  show _=_
  unfold poL wiL
  rw [HE.out,← HQ.out]
 go_upto_region 2 with fail;refine jp ?_;refine jm (vI 0) ?_;refine jv (.bool false) (aL _ _ _ _ (by rfl) .i64 0 0 (by rfl) (by rfl) false (by rw [decide_eq_true (by omega)];rfl)) ?_;refine jzb hb fun X2 hX2 hb=>?_;obtain ⟨hB0,hB1,hB2⟩:=bl3 hX2 hB0 hB1 hB2;go_upto_region 4 with fail;refine jp ?_;refine jn (vP (w.heap.size+1) 6) ?_;refine jn (vP (w.heap.size+1) 6) ?_;refine jf _ hB1 6 aB ?_;refine eH x.kd 4 (by omega) ?_;refine jm (.bool false) ?_;refine ja hB0 Tryd.underlying28 (by rfl) aP ?_;refine ja hB1 Tryd.underlying70 (by rfl) aR ?_;refine jc (.bool true) (fun X hX hF=>mo (oH c A n cp x X hn1 hxs) (by rw [HR.out])) ?_;refine jm (.bool false) ?_;refine jm (.bool false) ?_;refine jzb hb fun X3 hX3 hb=>?_;obtain ⟨hB0,hB1,hB2⟩:=bl3 hX3 hB0 hB1 hB2;go_upto_region 6 with fail;refine bA 5 [none,none,some (Tp (Bks (ifz q c) (wiL l x)) q),some (Bks (ifz q c) (wiL l x))] (aA (aA (aC (Tp.lasts (Bks.lasts _ _) _) (aC (Bks.lasts _ _) (aG))))) ?_;simp only [its,List.take,List.drop,Nat.zero_add,Nat.reduceAdd];refine ja hB0 Tryd.underlying28 (by rfl) aP ?_;refine ja hB1 Tryd.underlying70 (by rfl) aR ?_;refine jk (fun X hX hF=>by rw [HQ.out];exact qZp c _ l x X (HES.out X (Since.next hb hX))) ?_;intro v26;refine bJ (by rfl) (fun X hX hF=>by obtain ⟨u9,h9,h8⟩:=(hF _ _ List.mem_cons_self rfl);subst h9;exact ⟨u9,X,rfl,h8,Below.refl _ _⟩) ?_
 intro v27;simp only [pX];refine jg (vI q) (fun X hX hF=>by obtain ⟨u9,h9,_⟩:=(hF _ _ (List.mem_cons_of_mem _ List.mem_cons_self) rfl);subst h9;rfl) ?_;refine aI ?_;intro X4 hX4 hF;have hv26:=hF _ _ (List.mem_cons_of_mem _ List.mem_cons_self);have hv27:=hF _ _ List.mem_cons_self;obtain ⟨hB0,hB1,hB2⟩:=bl3 hX4 hB0 hB1 hB2;have hb:=aD hb hX4;clear hF hX4;obtain ⟨u27,rfl,hu27⟩:=hv27;obtain ⟨A27,c27,rfl⟩:=Es.form hu27;clear hv26;refine aN rfl 28 (.tmp 4) (.tmp 27) rfl (w.heap.size+2) 28 _ hB2 rfl [vI (ifz q c),.slice A27 (wiL l x).length c27] rfl (by rfl) (by intro u hu;simp only [List.mem_cons,List.not_mem_nil,or_false] at hu;rcases hu with rfl|rfl <;> rfl) aP ?_;intro w9s hR9 hG9;have hb:=aK hG9 hb hb.size (by omega);replace hB0:=aE hG9 hB0 (by omega);replace hB1:=aE hG9 hB1 (by omega);replace hu27:=Es.grown hG9 hu27 hB2;have hB2:=hR9;clear hG9 hR9
 go_wp2
 refine aU (v:=vI q) rfl rfl (by rfl) (by rfl) Tryd.underlying28 rfl hB2 aP ⟨_,rfl,⟨_,by rw [HE.out],by rw [HE.out,HL.out];exact ⟨_,rfl,hu27⟩⟩,hb⟩
theorem pstC (c:Int) (v:Value) (l:List En) (x:En) (w:World) (hv:Es l v w) (hs:Hid (∀ k,tz (en l k).am.2.1 (en l k).am.2.2 1000000)) (hxs:tz x.am.2.1 x.am.2.2 1000000):Calls Tryd.prog 38 #[.agg #[vI c,v],.agg #[vI x.day,vI x.deb,vI x.cre,.bool x.am.1,vS x.am.2.1,vS x.am.2.2,vI x.kd,vI x.pd,vI x.rf,vI x.w1,vI x.w2,vI x.w3,vI x.w4]] w fun e w'=>∃ u,e=.returned u∧Tp (Bks (ifz (poE c l x) c) (poL c l x)) (poE c l x) u w'∧Since w w':=by
 by_cases h0:acE c l=0
 ·by_cases h4:x.kd=4
  ·exact pst1 c v l x w hv hs hxs h0 h4
  ·cases hr:rgt c l.length x with
   | false=>exact pst2 c v l x w hv hs hxs h0 h4 hr
   | true=>exact pst3 c v l x w hv hs hxs h0 h4 hr
 ·exact pst0 c v l x w hv hs hxs h0
end Go.Proofs.YtjkfchehkpmhkaaDoor

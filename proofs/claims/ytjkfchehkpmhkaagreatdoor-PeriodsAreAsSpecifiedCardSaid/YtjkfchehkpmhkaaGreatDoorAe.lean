/- account: Post. -/
import Derived.WalkSpells
import Derived.Lib.SliceRun
import Derived.Test.YtjkfchehkpmhkaaGreatDoorAc
import Derived.Test.YtjkfchehkpmhkaaGreatDoorME
set_option linter.unusedSimpArgs false
set_option linter.unusedVariables false
set_option maxRecDepth 100000
set_option maxHeartbeats 1600000
namespace Go.Proofs.YtjkfchehkpmhkaaGreatDoor
open Go.RowKit
theorem sF (l:List En):∀ u∈fl enc l,u.oneCell'=true:=by
 intro u hu
 unfold fl at hu
 rw [List.mem_flatten] at hu;obtain ⟨xs,h1,h2⟩:=hu;rw [List.mem_map] at h1;obtain ⟨x,_,rfl⟩:=h1
 unfold enc at h2
 simp only [List.mem_cons,List.not_mem_nil,or_false] at h2
 rcases h2 with rfl|rfl|rfl|rfl|rfl|rfl|rfl|rfl|rfl|rfl|rfl|rfl|rfl <;> rfl
def Ow (B:Nat) (l:List En) (v:Value) (X:World):Prop:=X.ownsRow B 76 13 v l.length (fl enc l)
theorem Ow.lasts (B:Nat) (l:List En):eJ (Ow B l):=fun _ _ _ h hS=>cH h hS
theorem Ow.mono {B B':Nat} {l:List En} {v:Value} {X:World} (h:Ow B l v X) (hB:B'≤B):Ow B' l v X:=by
 obtain ⟨hl,hr⟩:=h;refine ⟨hl,hr.imp id ?_⟩
 rintro ⟨g,cap,cur,hv,hb,rest⟩
 exact ⟨g,cap,cur,hv,Nat.le_trans hB hb,rest⟩
theorem cleC (v:Value) (l:List En) (w:World) (hv:Es l v w) (hl:l.length≤4000):Calls Tryz.prog 68 #[v] w fun e w'=>∃ u,e=.returned u∧Ow w.heap.size l u w'∧Since w w':=by
 obtain ⟨A,n,c,rfl,hln,hn1,hr⟩:=hv.at
 rcases A with _|⟨b,off,fr⟩
 ·have h0:n=0:=by
   obtain ⟨_,A2,c2,h2,hc,hm,hz,_⟩:=hr
   injection h2 with e1 e2 e3
   have:=hz e1.symm
   omega
  subst h0
  have hc0:c=0:=by
   obtain ⟨_,A2,c2,h2,hc,hm,hz,_⟩:=hr
   injection h2 with e1 e2 e3
   subst e3;exact hz e1.symm
  subst hc0;obtain rfl:l=[]:=List.eq_nil_of_length_eq_zero hln;have he:=Lib.run_eql_slice_nil (P:=Tryz.prog) (w:=w) 22 76 none 0 0 0 0 Tryz.underlying22
  go_enter Tryz.func68,Tryz.ntmps68
  go_wp2
  go_ret
  exact ⟨_,rfl,⟨rfl,.inl ⟨rfl,rfl⟩⟩,Below.refl _ _⟩
 ·have he:=Lib.run_eql_slice_nil (P:=Tryz.prog) (w:=w) 22 76 (some ⟨b,off,fr⟩) n c 0 0 Tryz.underlying22
  have ho0:(w.alloc (.cells #[] 76)).ownsRow w.heap.size 76 13 (.slice (some ⟨w.heap.size,0,none⟩) 0 0) 0 [] :=
   ⟨rfl,.inr ⟨w.heap.size,0,#[],rfl,Nat.le_refl _,heap_alloc_new w _,Nat.le_refl _,by unfold maxLen;omega,rfl,rfl⟩⟩
  have hr0:=hr.alloc (.cells #[] 76);have hb0:=(Below.refl w.heap.size w).alloc (Nat.le_refl _) (.cells #[] 76)
  go_enter Tryz.func68,Tryz.ntmps68
  go_wp2_with (at_builtin;refine jA rfl (.tmp 5) (.tmp 6) 22 rfl w.heap.size 76 _ 13 120 Tryz.underlying22 jX rfl (by decide) _ _ _ rfl ho0 _ _ _ rfl hr0 (sF l) (by omega) (by unfold maxLen;omega) hb0.size ?_;intro v4 w4 hown4 hg4 hb4)
  rw [List.nil_append,Nat.zero_add,← hln] at hown4
  go_wp2
  go_ret
  exact ⟨_,rfl,hown4,hb0.trans hb4⟩
theorem pH {f:Operand→Value} {o:Oper} (x y:Operand) (ho:o.op=.store 22 x y) (g j:Nat) {A:Option Addr} {n c:Nat} (hx:f x=vP g j) (hy:f y=.slice A n c) (u:Value) (X:World) (hc:X.cell? ⟨g,j,none⟩=some u) (hf:X.frozen? ⟨g,j,none⟩=false) :
  (execOp f o).run Tryz.prog X=.ok .skip (X.setCell ⟨g,j,none⟩ (.slice A n c)):=by
 unfold execOp
 simp only [ho,hx,hy]
 go_simp
theorem pG (l:List En) (x:En):fl enc l++fl enc [x]=fl enc (l++[x]):=by simp [fl]
theorem qXk {P:Program} {f:Operand→Value} {o:Oper} (x:En) {X:World} (hr:(execOp f o).run P X=.ok (.value (.slice (some ⟨X.heap.size,0,none⟩) 1 1)) (X.alloc (.cells (enc x).toArray 76))):∃ v X',(execOp f o).run P X=.ok (.value v) X'∧Es [x] v X'∧Since X X':=by
 refine ⟨_,_,hr,?_,bL X _⟩;have hB:Blk (X.alloc (.cells (enc x).toArray 76)) X.heap.size 76 (enc x):=Blk.new rfl;refine ⟨by simp [fl];rfl,some ⟨X.heap.size,0,none⟩,1,rfl,Nat.le_refl _,by unfold maxLen;omega,(fun h9=>by cases h9),fun _=>⟨X.heap.size,0,rfl,hB.lt,fun j u hj=>?_⟩⟩
 have hj2:(enc x)[j]?=some u:=by simpa [fl] using hj
 have:=hB.cell (j:=j) hj2
 rwa [Nat.zero_add]
def wiL (l:List En) (x:En):List En:=if iM l x=0 then l++[x] else []
theorem wth2 (c:Int) (v:Value) (l:List En) (x:En) (w:World) (hv:Es l v w) (hd:¬ (0<l.length∧x.day<(en l (l.length-1)).day)) (hlen:l.length<4000):Calls Tryz.prog 67 #[.agg #[vI c,v],.agg #[vI x.day,vI x.deb,vI x.cre,.bool x.am.1,vS x.am.2.1,vS x.am.2.2,vI x.kd,vI x.pd,vI x.rf,vI x.w1,vI x.w2,vI x.w3,vI x.w4]] w fun e w'=>∃ u,e=.returned u∧Tp (Bks (ifz (iM l x) c) (wiL l x)) (iM l x) u w'∧Since w w':=by
 obtain ⟨A,n,cp,rfl,hln,hn1,HRX,HLN⟩:=hv19 hv;clear hv
 go_enter Tryz.func67,Tryz.ntmps67
 go_upto_region 1 with fail;obtain ⟨W0,hW0,hB0,hB1,hB2,hb⟩:=dO w 24 76 24 [vI c,.slice A n cp] (eL x) [vI 0,.slice none 0 0];rw [← hW0];clear hW0;refine jp ?_;refine jnf hB0 1 aO ?_;refine jv (vI n) (aF Tryz.underlying22 _ (by rfl) A n cp (by rfl) _ rfl) ?_;refine jm (vI n) ?_;refine bE hb hB0 hB1 hB2 fun X1 hX1 hb hB0 hB1 hB2=>?_;rw [hln] at hlen
 have HE:Hid (iM l x=0):=by
  show _=_
  unfold iM
  rw [if_neg (fun h9=>hd h9),if_neg (by rw [HLN.out];omega)]
 have HL:Hid (wiL l x=l++[x]):=by
  show _=_
  unfold wiL
  rw [if_pos HE.out]
 rcases Nat.eq_zero_or_pos n with hn0|hnp
 ·go_upto_region 2 with fail
  refine jd ?_;refine jm (vI n) ?_;refine bZ (n:Int) 0 (by omega) ?_;refine jm (.bool false) ?_;refine cN ?_;refine jss ?_;refine jm (.bool false) ?_;refine bE hb hB0 hB1 hB2 fun X2 hX2 hb hB0 hB1 hB2=>?_;go_upto_region 4 with fail;refine jp ?_;refine jnf hB0 1 aO ?_;refine jv (vI n) (aF Tryz.underlying22 _ (by rfl) A n cp (by rfl) _ rfl) ?_;refine fW (n:Int) 4000 (by omega) ?_;refine bE hb hB0 hB1 hB2 fun X3 hX3 hb hB0 hB1 hB2=>?_;have hWB:w.heap.size+2<X3.heap.size:=hB2.lt;have HES:=hes4 HLN HRX;go_upto_region 6 with fail;refine lY 3 [none,none,some (Ow X3.heap.size l),none,some (Es [x])] (by kernel_rfl) (by kernel_rfl) (by kernel_rfl) (aB (aB (aD (Ow.lasts _ _) (aB (aD (Es.lasts _) (aH)))))) ?_;simp only [its,List.length_cons,List.length_nil,Nat.zero_add,Nat.reduceAdd,Nat.reduceSub,List.take_succ_cons,List.take_zero,List.drop_succ_cons,List.drop_zero];refine jnf hB0 1 aO ?_;refine jk (fun X hX hF=>(cleC _ l X (HES.out X (Since.next hb hX)) (by rw [HLN.out];omega)).mono fun e X' ⟨u,h1,h2,h3⟩=>⟨u,h1,h2.mono hX.size,h3⟩) ?_;intro v32;refine ja hB1 Tryz.underlying76 (by rfl) aL ?_;refine cC (by rfl) (fun X hX hF=>qXk x (by unfold execOp enc;go_simp)) ?_;intro v34;simp only [pX];refine aJ ?_;intro X4 hX4 hF;have hv32:=hF _ _ (List.mem_cons_of_mem _ List.mem_cons_self);have hv34:=hF _ _ List.mem_cons_self
  have hszW:=(hX4).size;obtain ⟨hB0,hB1,hB2⟩:=bl3 hX4 hB0 hB1 hB2;have hb:=aI hb hX4;clear hF hX4;refine jA rfl (.tmp 32) (.tmp 34) 22 rfl X3.heap.size 76 _ 13 120 Tryz.underlying22 jX rfl (by decide) _ l.length _ rfl hv32 _ 1 _ rfl hv34 (sF [x]) (by omega) (by unfold maxLen;omega) hszW ?_;intro v35 w35 hown hg35 hb35;obtain ⟨A5,c5,rfl,_,_⟩:=(Rd.of_own hown).form;have hB0:=hB0.below hb35 (by omega);have hB2:=hB2.below hb35 (by omega);have hb:=hb.trans (hb35.mono (by omega));clear hv32 hv34 hg35 hb35 hB1;refine jT rfl (vP w.heap.size 1) (by unfold execOp;go_simp) ?_;refine fN rfl w.heap.size 1 24 _ hB0 (.slice A5 (l.length+1) c5) (by simp) (fun X u h1 h2=>pH _ _ (by rfl) _ _ (by rfl) (by rfl) u X h1 h2) ?_;intro w36 hR5 hO5 hB5;have hb:=hB5 _ _ hb (by omega);have hB2:=hO5 _ _ _ (by omega) hB2;have hOw:=tB hown (fun g t zs h9 hB=>hO5 _ _ _ (by have:=(dG hown _ h9).1;omega) hB)
  change Blk w36 w.heap.size 24 [vI c,.slice A5 (l.length+1) c5] at hR5
  have hB0:=hR5;clear hown hO5 hB5 hR5;refine wpList_nil ?_;go_upto_region 7 with fail;refine jq 1 ?_;refine ja hB0 Tryz.underlying24 (by rfl) bT ?_;refine aN hb hB0 hB2 fun X5 hX5 hb hB0 hB2=>?_;have hOw:=cH hOw hX5;refine bG rfl 24 (.tmp 4) (.tmp 37) rfl (w.heap.size+2) 24 _ hB2 rfl [vI c,.slice A5 (l.length+1) c5] rfl (by rfl) (al2 rfl rfl) bT ?_;intro w9s hR9 hG9;have hb:=aV hG9 hb hb.size (by omega);have hB0:=aE hG9 hB0 (by omega);have hOw:=eD hOw hG9 (fun g h h9=>by injection h with h;have h8:=(dG hOw _ h9).1;omega);have hB2:=hR9;clear hG9 hR9
  go_wp2
  refine bQ (v:=vI 0) rfl rfl (by rfl) (by rfl) Tryz.underlying24 rfl hB2 bT ⟨_,rfl,⟨_,by rw [HE.out],by rw [HE.out,HL.out];exact ⟨_,rfl,vK (by rw [pG] at hOw;exact hOw) (by simp)⟩⟩,hb⟩
 ·obtain ⟨j,hj⟩:∃ j,n=j+1:=⟨n-1,by omega⟩
  obtain ⟨b,off,rfl,hbb,hcx⟩:=fL (HRX.out _ hb) HLN.out (k:=j) (by omega);obtain ⟨p,p9⟩:∃ p,p=en l (l.length-1):=⟨_,rfl⟩;have HP:=Lib.hid p9;clear p9;rw [show en l j=p by rw [HP.out,HLN.out,hj,Nat.add_sub_cancel]] at hcx
  change Cl X1 b (off+j * 13) (eL p) at hcx
  have hdp:¬ x.day<p.day:=fun h9=>hd ⟨by rw [HLN.out];omega,by rw [← HP.out];exact h9⟩
  go_upto_region 2 with fail;refine jd ?_;refine jm (vI n) ?_;refine cD (n:Int) 0 (by omega) ?_;refine jm (.bool true) ?_;refine jnf hB1 0 aA ?_;refine jnf hB0 1 aO ?_;refine jm (vI n) ?_;refine jv (vI j) (aW _ _ _ _ (by rfl) (n:Int) 1 (j:Int) (by rfl) (by rfl) (by omega) (by omega) (by omega)) ?_;refine jv (vP b (off+j * 13)) (aR Tryz.underlying22 aL _ _ (by rfl) b (off) n cp j (by omega) (by rfl) (by rfl) rfl) ?_;refine jn (vP b (off+j * 13)) ?_;refine jg (vI p.day) (fun X hX hF=>aP 3 _ (by rfl) b (off+j * 13) (by rfl) _ X ((hcx.below hX hbb) 0 _ rfl) (fun X u h=>aA b (off+j * 13) X u h)) ?_;refine bI x.day p.day (by omega) ?_;refine jm (.bool false) ?_;refine bE hb hB0 hB1 hB2 fun X2 hX2 hb hB0 hB1 hB2=>?_;have hcx:=hcx.below hX2 hbb;replace hbb:=Nat.lt_of_lt_of_le hbb (hX2).size;go_upto_region 4 with fail;refine jp ?_;refine jnf hB0 1 aO ?_;refine jv (vI n) (aF Tryz.underlying22 _ (by rfl) (some ⟨b,off,none⟩) n cp (by rfl) _ rfl) ?_;refine fW (n:Int) 4000 (by omega) ?_;refine bE hb hB0 hB1 hB2 fun X3 hX3 hb hB0 hB1 hB2=>?_;have hWB:w.heap.size+2<X3.heap.size:=hB2.lt
  have HES:Hid (∀ X,Since w X→Es l (.slice (some ⟨b,off,none⟩) n cp) X):=fun X h=>by show Rd X 13 _ l.length _;rw [HLN.out];exact HRX.out X h
  go_upto_region 6 with fail;refine lY 3 [none,none,some (Ow X3.heap.size l),none,some (Es [x])] (by kernel_rfl) (by kernel_rfl) (by kernel_rfl) (aB (aB (aD (Ow.lasts _ _) (aB (aD (Es.lasts _) (aH)))))) ?_;simp only [its,List.length_cons,List.length_nil,Nat.zero_add,Nat.reduceAdd,Nat.reduceSub,List.take_succ_cons,List.take_zero,List.drop_succ_cons,List.drop_zero];refine jnf hB0 1 aO ?_;refine jk (fun X hX hF=>(cleC _ l X (HES.out X (Since.next hb hX)) (by rw [HLN.out];omega)).mono fun e X' ⟨u,h1,h2,h3⟩=>⟨u,h1,h2.mono hX.size,h3⟩) ?_;intro v32;refine ja hB1 Tryz.underlying76 (by rfl) aL ?_;refine cC (by rfl) (fun X hX hF=>qXk x (by unfold execOp enc;go_simp)) ?_;intro v34;simp only [pX];refine aJ ?_;intro X4 hX4 hF;have hv32:=hF _ _ (List.mem_cons_of_mem _ List.mem_cons_self);have hv34:=hF _ _ List.mem_cons_self;have hszW:=(hX4).size;obtain ⟨hB0,hB1,hB2⟩:=bl3 hX4 hB0 hB1 hB2;have hb:=aI hb hX4;clear hF hX4;refine jA rfl (.tmp 32) (.tmp 34) 22 rfl X3.heap.size 76 _ 13 120 Tryz.underlying22 jX rfl (by decide) _ l.length _ rfl hv32 _ 1 _ rfl hv34 (sF [x]) (by omega) (by unfold maxLen;omega) hszW ?_;intro v35 w35 hown hg35 hb35;obtain ⟨A5,c5,rfl,_,_⟩:=(Rd.of_own hown).form;have hB0:=hB0.below hb35 (by omega);have hB2:=hB2.below hb35 (by omega);have hb:=hb.trans (hb35.mono (by omega));clear hv32 hv34 hg35 hb35 hB1;refine jT rfl (vP w.heap.size 1) (by unfold execOp;go_simp) ?_
  refine fN rfl w.heap.size 1 24 _ hB0 (.slice A5 (l.length+1) c5) (by simp) (fun X u h1 h2=>pH _ _ (by rfl) _ _ (by rfl) (by rfl) u X h1 h2) ?_;intro w36 hR5 hO5 hB5;have hb:=hB5 _ _ hb (by omega);have hB2:=hO5 _ _ _ (by omega) hB2;have hOw:=tB hown (fun g t zs h9 hB=>hO5 _ _ _ (by have:=(dG hown _ h9).1;omega) hB)
  change Blk w36 w.heap.size 24 [vI c,.slice A5 (l.length+1) c5] at hR5
  have hB0:=hR5;clear hown hO5 hB5 hR5;refine wpList_nil ?_;go_upto_region 7 with fail;refine jq 1 ?_;refine ja hB0 Tryz.underlying24 (by rfl) bT ?_;refine aN hb hB0 hB2 fun X5 hX5 hb hB0 hB2=>?_;have hOw:=cH hOw hX5;refine bG rfl 24 (.tmp 4) (.tmp 37) rfl (w.heap.size+2) 24 _ hB2 rfl [vI c,.slice A5 (l.length+1) c5] rfl (by rfl) (al2 rfl rfl) bT ?_;intro w9s hR9 hG9;have hb:=aV hG9 hb hb.size (by omega);have hB0:=aE hG9 hB0 (by omega);have hOw:=eD hOw hG9 (fun g h h9=>by injection h with h;have h8:=(dG hOw _ h9).1;omega);have hB2:=hR9;clear hG9 hR9
  go_wp2
  refine bQ (v:=vI 0) rfl rfl (by rfl) (by rfl) Tryz.underlying24 rfl hB2 bT ⟨_,rfl,⟨_,by rw [HE.out],by rw [HE.out,HL.out];exact ⟨_,rfl,vK (by rw [pG] at hOw;exact hOw) (by simp)⟩⟩,hb⟩
theorem Es.form {l:List En} {v:Value} {X:World} (h:Es l v X):∃ A c,v=.slice A l.length c:=by
 obtain ⟨A,n,c,h1,h2,_⟩:=h.at;exact ⟨A,c,by rw [h1,h2]⟩
theorem Es.grown {X Y:World} {g:Nat} {T:TypeId} {l:List En} {v:Value} {ys:List Value} (hG:X.grownBy Y (some g)) (h:Es l v X) (hB:Blk X g T ys) (hy:ys.length<13:=by simp):Es l v Y:=by
 obtain ⟨hl,A,c,hv,hc,hm,hz,hx⟩:=h;refine ⟨hl,A,c,hv,hc,hm,hz,fun hn=>?_⟩;obtain ⟨b,off,hA,hb,hcell⟩:=hx hn;refine ⟨b,off,hA,Nat.lt_of_lt_of_le hb hG.size,fun j u hj=>?_⟩;have h1:=hcell j u hj
 have hne:b≠g:=fun h9=>by
  subst h9
  have hlen:12<(fl enc l).length:=by rw [xG];omega
  have h2:=hcell 12 _ (List.getElem?_eq_getElem hlen);rw [cell_of_row _ _ _ _ _ _ hB] at h2
  have h3:ys[off+12]?=some (fl enc l)[12]:=by simpa using h2
  rw [List.getElem?_eq_none (by omega)] at h3
  cases h3
 exact (World.cell?_of_block (w:=X) (a:=⟨b,off+j,none⟩) (hG.block b hb (fun h9=>hne (by injection h9)))).trans h1
end Go.Proofs.YtjkfchehkpmhkaaGreatDoor

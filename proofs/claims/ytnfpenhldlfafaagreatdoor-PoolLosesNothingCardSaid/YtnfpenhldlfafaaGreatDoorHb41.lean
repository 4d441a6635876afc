/- reservoir: Clone, clone, take. -/
import Derived.WalkSpells
import Derived.Lib.SliceRun
import Derived.Test.YtnfpenhldlfafaaGreatDoorHa41
import Derived.Test.YtnfpenhldlfafaaGreatDoorPl41f
import Derived.Test.YtnfpenhldlfafaaGreatDoorME
import Derived.Test.YtnfpenhldlfafaaGreatDoorLcw
set_option linter.unusedSimpArgs false
set_option linter.unusedVariables false
set_option maxRecDepth 100000
set_option maxHeartbeats 1600000
namespace Go.Proofs.YtnfpenhldlfafaaGreatDoor
open Go.RowKit
theorem bI {X:World} {B B' m n:Nat} {e:TypeId} {v:Value} {xs:List Value} (h:X.ownsRow B e m v n xs) (hB:B'≤B):X.ownsRow B' e m v n xs:=by
 obtain ⟨hl,hr⟩:=h;refine ⟨hl,hr.imp id ?_⟩
 rintro ⟨g,cap,cur,hv,hb,rest⟩
 exact ⟨g,cap,cur,hv,Nat.le_trans hB hb,rest⟩
theorem qQa (l:List Ho):∀ u∈fl hoc l,u.oneCell'=true:=by
 intro u hu
 unfold fl at hu
 rw [List.mem_flatten] at hu;obtain ⟨xs,h1,h2⟩:=hu;rw [List.mem_map] at h1;obtain ⟨x,_,rfl⟩:=h1
 unfold hoc at h2
 simp only [List.mem_cons,List.not_mem_nil,or_false] at h2
 rcases h2 with rfl|rfl|rfl|rfl|rfl|rfl|rfl|rfl|rfl <;> rfl
theorem bG {X:World} {B m n g:Nat} {e t:TypeId} {v:Value} {xs ys:List Value} (h:X.ownsRow B e m v n xs) (hB:Blk X g t ys) (ht:(e == t)=false:=by rfl):v.ownBlock≠some g:=fun h9=>by
 rcases h.2 with ⟨h3,_⟩|⟨g',cap,cur,h3,_,h4,_⟩
 ·rw [h3] at h9
  cases h9
 ·rw [h3] at h9
  have h8:g'=g:=by
   have:(some g':Option Nat)=some g:=h9
   injection this
  subst h8;have h5:X.heap[g']?=some (.cells ys.toArray t (0,0)):=hB;rw [h4] at h5
  injection h5 with h5
  injection h5 with _ h6 _
  rw [h6] at ht
  simp at ht
theorem oW {X:World} {B B' m m' n n' g:Nat} {e e':TypeId} {v v':Value} {xs xs':List Value} (h:X.ownsRow B e m v n xs) (h':X.ownsRow B' e' m' v' n' xs') (h1:v.ownBlock=some g) (h2:v'.ownBlock=some g) (ht:(e == e')=false:=by rfl):False:=by
 rcases h'.2 with ⟨h3,_⟩|⟨g',cap,cur,h3,_,h4,_⟩
 ·rw [h3] at h2
  cases h2
 ·rw [h3] at h2
  have h8:g'=g:=by
   have:(some g':Option Nat)=some g:=h2
   injection this
  subst h8;have hB:Blk X g' e' cur.toList:=h4;exact bG h hB ht h1
def Oh (B:Nat) (l:List Ho) (v:Value) (X:World):Prop:=X.ownsRow B 66 9 v l.length (fl hoc l)
theorem Oh.lasts (B:Nat) (l:List Ho):dJ (Oh B l):=fun _ _ _ h hS=>aC h hS
theorem Oh.mono {B B':Nat} {l:List Ho} {v:Value} {X:World} (h:Oh B l v X) (hB:B'≤B):Oh B' l v X:=bI h hB
theorem Oh.hl {B:Nat} {l:List Ho} {v:Value} {X:World} (h:Oh B l v X):Hl l v X:=Rd.of_own h
def Oz (B:Nat) (q:List Rat) (v:Value) (X:World):Prop:=X.ownsRow B 23 3 v q.length (fl rc q)
theorem Oz.lasts (B:Nat) (q:List Rat):dJ (Oz B q):=fun _ _ _ h hS=>aC h hS
theorem Oh.grown {X Y:World} {B g:Nat} {T:TypeId} {l:List Ho} {v:Value} {ys:List Value} (hG:X.grownBy Y (some g)) (h:Oh B l v X) (hB:Blk X g T ys) (ht:(66 == T)=false:=by rfl):Oh B l v Y :=
 aO h hG fun k hk h9=>bG h hB ht (h9.trans hk.symm)
theorem Oz.grown {X Y:World} {B g:Nat} {T:TypeId} {q:List Rat} {v:Value} {ys:List Value} (hG:X.grownBy Y (some g)) (h:Oz B q v X) (hB:Blk X g T ys) (ht:(23 == T)=false:=by rfl):Oz B q v Y :=
 aO h hG fun k hk h9=>bG h hB ht (h9.trans hk.symm)
def Pn (B:Nat) (p:Tr) (l:List Ho) (v:Value) (X:World):Prop:=∃ u,v=.agg #[.bool p.1,vS p.2.1,vS p.2.2,u]∧Oh B l u X
theorem Pn.lasts (B:Nat) (p:Tr) (l:List Ho):dJ (Pn B p l):=by
 rintro v X Y ⟨u,h1,h2⟩ hS
 exact ⟨u,h1,Oh.lasts _ _ _ _ _ h2 hS⟩
def Pow (B:Nat) (d:Pd) (v:Value) (X:World):Prop:=∃ u z,v=.agg #[.bool d.p.1,vS d.p.2.1,vS d.p.2.2,u,z,.bool (rN d.r),vS (rP d.r),vS (rD d.r)]∧Oh B d.l u X∧X.ownsRow B 23 3 z d.q.length (fl rc d.q)
theorem Pow.lasts (B:Nat) (d:Pd):dJ (Pow B d):=by
 rintro v X Y ⟨u,z,h1,h2,h3⟩ hS
 exact ⟨u,z,h1,Oh.lasts _ _ _ _ _ h2 hS,aC h3 hS⟩
theorem qVk (q:List Rat):fl trc (q.map tr)=fl rc q:=by
 unfold fl
 rw [List.map_map]
 rfl
theorem rY {X:World} {B n:Nat} {v:Value} {q:List Rat} (h:X.ownsRow B 23 3 v n (fl rc q)) (hn:q.length=n):Rl (q.map tr) v X:=by
 show Rd X 3 v (q.map tr).length (fl trc (q.map tr))
 rw [List.length_map,hn,qVk];exact Rd.of_own h
theorem Oz.rl {B:Nat} {q:List Rat} {v:Value} {X:World} (h:Oz B q v X):Rl (q.map tr) v X:=rY h rfl
theorem Oh.form {B:Nat} {l:List Ho} {v:Value} {X:World} (h:Oh B l v X):∃ A c,v=.slice A l.length c:=by
 obtain ⟨A,c,h1,_,_⟩:=(Rd.of_own h).form;exact ⟨A,c,h1⟩
theorem Oz.form {B:Nat} {q:List Rat} {v:Value} {X:World} (h:Oz B q v X):∃ A c,v=.slice A q.length c:=by
 obtain ⟨A,c,h1,_,_⟩:=(Rd.of_own h).form;exact ⟨A,c,h1⟩
def upk (l:List Ho) (g:Nat→Rat) (k:Nat):List Ho:=(List.range l.length).map fun j=>if j<k then { ho l j with c:=tr (g j) } else ho l j
theorem dF (l:List Ho) (g:Nat→Rat) (k:Nat):(upk l g k).length=l.length:=by
 unfold upk
 rw [List.length_map,List.length_range]
theorem jQ (l:List Ho) (g:Nat→Rat) (k:Nat) {j:Nat} (hj:j<l.length):ho (upk l g k) j=if j<k then { ho l j with c:=tr (g j) } else ho l j:=by
 rw [gS (by rw [dF];exact hj)]
 unfold upk
 rw [List.getElem_map,List.getElem_range]
theorem qF (l:List Ho) (g:Nat→Rat):upk l g 0=l:=sU (dF _ _ _) fun k hk=>by
 rw [dF] at hk;rw [jQ l g 0 hk,if_neg (Nat.not_lt_zero k)]
theorem oG (l:List Ho) (g:Nat→Rat):upk l g l.length=stc l g:=sU (by rw [dF,dP]) fun k hk=>by
 rw [dF] at hk;rw [jQ l g _ hk,if_pos hk,iQ l g hk]
theorem qYu {l:List Ho} {k j:Nat} {x:Ho} (hk:k<l.length) (hj:j<l.length):ho (l.set k x) j=if j=k then x else ho l j:=by
 unfold ho
 rw [List.getD_eq_getElem?_getD,List.getD_eq_getElem?_getD,List.getElem?_set]
 by_cases h:k=j
 ·subst h
  rw [if_pos rfl,if_pos rfl,if_pos hk]
  rfl
 ·rw [if_neg h,if_neg (fun h9=>h h9.symm)]
theorem tM {l:List Ho} {g:Nat→Rat} {k:Nat} (hk:k<l.length):(upk l g k).set k { ho l k with c:=tr (g k) }=upk l g (k+1):=by
 refine sU (by rw [List.length_set,dF,dF]) fun j hj=>?_;rw [List.length_set,dF] at hj;rw [qYu (by rw [dF];exact hk) (by rw [dF];exact hj),jQ l g (k+1) hj,jQ l g k hj]
 by_cases h:j=k
 ·subst h
  rw [if_pos rfl,if_pos (by omega)]
 ·rw [if_neg h]
  by_cases h2:j<k
  ·rw [if_pos h2,if_pos (by omega)]
  ·rw [if_neg h2,if_neg (by omega)]
theorem uD {l:List Ho} {k:Nat} (hk:k<l.length) (x:Rat):(fl hoc l).take (k * 9)++rc x++(fl hoc l).drop (k * 9+(rc x).length)=fl hoc (l.set k { ho l k with c:=tr x }):=by
 rw [← pO iC hk];have h1:hoc { ho l k with c:=tr x }=rc x++(hoc (ho l k)).drop 3:=rfl
 have h2:((fl hoc l).drop (k * 9)).take 9=hoc (ho l k):=by
  have h9:=lE (g:=hoc) (m:=9) (l:=l) (fun x _=>iC x) (List.drop_eq_getElem_cons hk)
  rwa [← gS hk] at h9
 have h3:(fl hoc l).drop (k * 9+3)=(hoc (ho l k)).drop 3++(fl hoc l).drop (k * 9+9):=by
  rw [← h2,← List.drop_drop,List.drop_take,show (fl hoc l).drop (k * 9+9)=(((fl hoc l).drop (k * 9)).drop 3).drop (9-3) by rw [List.drop_drop,List.drop_drop],List.take_append_drop]
 rw [h1,eD,h3,List.append_assoc,List.append_assoc,List.append_assoc]
theorem wU (n:Nat) (f:Nat→Rat):fl rc (ptl (n+1) f)=fl rc (ptl n f)++rc (f n):=by
 unfold ptl
 rw [List.range_succ,List.map_append,pP]
 simp [fl]
theorem mY:(Tryz.prog.info? 23).map (fun i=>(i.zero,i.size,i.bytes))=some (some (.agg #[.bool false,.string ⟨#[]⟩,.string ⟨#[]⟩]),3,40):=by kernel_rfl
theorem yD {f:Operand→Value} {o:Oper} (x y:Operand) (ho:o.op=.store 27 x y) (g j:Nat) {A:Option Addr} {n c:Nat} (hx:f x=vP g j) (hy:f y=.slice A n c) (u:Value) (X:World) (hc:X.cell? ⟨g,j,none⟩=some u) (hf:X.frozen? ⟨g,j,none⟩=false) :
  (execOp f o).run Tryz.prog X=.ok .skip (X.setCell ⟨g,j,none⟩ (.slice A n c)):=by
 unfold execOp
 simp only [ho,hx,hy]
 go_simp
theorem clhC (v:Value) (l:List Ho) (w:World) (hv:Hl l v w) (hl:l.length≤20):Calls Tryz.prog 105 #[v] w fun e w'=>∃ u,e=.returned u∧Oh w.heap.size l u w'∧Since w w':=by
 obtain ⟨A,n,c,rfl,hln,hn1,hr⟩:=hv.at
 rcases A with _|⟨b,off,fr⟩
 ·have h0:n=0:=by
   obtain ⟨_,A2,c2,h2,hc,hm,hz,_⟩:=hr
   injection h2 with e1 e2 e3
   have:=hz e1.symm
   omega
  subst h0
  have hc0:c=0:=by
   obtain ⟨_,A2,c2,h2,hc,hm,hz,_⟩:=hr
   injection h2 with e1 e2 e3
   subst e3;exact hz e1.symm
  subst hc0;obtain rfl:l=[]:=List.eq_nil_of_length_eq_zero hln;have he:=Lib.run_eql_slice_nil (P:=Tryz.prog) (w:=w) 24 66 none 0 0 0 0 Tryz.underlying24
  go_enter Tryz.func105,Tryz.ntmps105
  go_wp2
  go_ret
  exact ⟨_,rfl,⟨rfl,.inl ⟨rfl,rfl⟩⟩,Below.refl _ _⟩
 ·have he:=Lib.run_eql_slice_nil (P:=Tryz.prog) (w:=w) 24 66 (some ⟨b,off,fr⟩) n c 0 0 Tryz.underlying24
  have ho0:(w.alloc (.cells #[] 66)).ownsRow w.heap.size 66 9 (.slice (some ⟨w.heap.size,0,none⟩) 0 0) 0 [] :=
   ⟨rfl,.inr ⟨w.heap.size,0,#[],rfl,Nat.le_refl _,heap_alloc_new w _,Nat.le_refl _,by unfold maxLen;omega,rfl,rfl⟩⟩
  have hr0:=hr.alloc (.cells #[] 66);have hb0:=(Below.refl w.heap.size w).alloc (Nat.le_refl _) (.cells #[] 66)
  go_enter Tryz.func105,Tryz.ntmps105
  go_wp2_with (at_builtin;refine oC rfl (.tmp 5) (.tmp 6) 24 rfl w.heap.size 66 _ 9 120 Tryz.underlying24 xY rfl (by decide) _ _ _ rfl ho0 _ _ _ rfl hr0 (qQa l) (by omega) (by unfold maxLen;omega) hb0.size ?_;intro v4 w4 hown4 hg4 hb4)
  rw [List.nil_append,Nat.zero_add,← hln] at hown4
  go_wp2
  go_ret
  exact ⟨_,rfl,hown4,hb0.trans hb4⟩
theorem clnC (p:Tr) (v:Value) (l:List Ho) (w:World) (hv:Hl l v w) (hl:l.length≤20):Calls Tryz.prog 79 #[.agg #[.bool p.1,vS p.2.1,vS p.2.2,v]] w fun e w'=>∃ u,e=.returned u∧Pn w.heap.size p l u w'∧Since w w':=by
 have HV:Hid (∀ X,Since w X→Hl l v X):=fun X h=>Hl.lasts l _ _ _ hv h
 clear hv
 go_enter Tryz.func79,Tryz.ntmps79
 go_upto_region 1 with fail;obtain ⟨W0,hW0,hB0,hB1,hb⟩:=cI w 26 26 [.bool p.1,vS p.2.1,vS p.2.2,v] [.bool false,.string ⟨#[]⟩,.string ⟨#[]⟩,.slice none 0 0];rw [← hW0];clear hW0;have hwB:w.heap.size+1<W0.heap.size:=hB1.lt;refine aV 4 [none,none,some (Oh W0.heap.size l)] (aA (aA (aD (Oh.lasts _ _) (aF)))) ?_;simp only [its,List.take,List.drop,Nat.zero_add,Nat.reduceAdd];refine jnf hB0 3 aR ?_;refine jk (fun X hX hF=>(clhC v l X (HV.out X (Since.next hb hX)) hl).mono fun e X' ⟨u,h1,h2,h3⟩=>⟨u,h1,h2.mono hX.size,h3⟩) ?_;intro v5;refine jn (vP w.heap.size 3) ?_;refine aH ?_;intro X1 hX1 hF;have hv5:=hF _ _ List.mem_cons_self;obtain ⟨hB0,hB1⟩:=bl2 hX1 hB0 hB1;have hb:=aG hb hX1;clear hF hX1;have hOu:=hv5;clear hv5
 unfold Oh at hOu
 obtain ⟨A5,c5,rfl,_,_⟩:=(Rd.of_own hOu).form;refine jA rfl w.heap.size 3 26 _ hB0 (.slice A5 l.length c5) (by simp) (fun X u h1 h2=>yE _ _ (by rfl) _ _ (by rfl) (by rfl) u X h1 h2) ?_;intro w5 hR5 hO5 hB5;have hb:=hB5 _ _ hb (by omega);have hB1:=hO5 _ _ _ (by omega) hB1;have hOw:=wX hOu (fun g t zs h9 hB=>hO5 _ _ _ (by have:=(bL hOu _ h9).1;omega) hB)
 change Blk w5 w.heap.size 26 [.bool p.1,vS p.2.1,vS p.2.2,.slice A5 l.length c5] at hR5
 have hB0:=hR5;clear hOu hO5 hB5 hR5;refine wpList_nil ?_;go_upto_region 2 with fail;refine jq 1 ?_;refine ja hB0 Tryz.underlying26 (by rfl) aL ?_;refine bV hb hB0 hB1 fun X2 hX2 hb hB0 hB1=>?_;have hOw:=aC hOw hX2;refine aS rfl 26 (.tmp 2) (.tmp 7) rfl (w.heap.size+1) 26 _ hB1 rfl [.bool p.1,vS p.2.1,vS p.2.2,.slice A5 l.length c5] rfl (by rfl) (al4 rfl rfl rfl rfl) aL ?_;intro w9s hR9 hG9;have hb:=aN hG9 hb hb.size (by omega);have hB0:=aE hG9 hB0 (by omega);have hOw:=aO hOw hG9 (fun g h h9=>by injection h with h;have h8:=(bL hOw _ h9).1;omega);have hB1:=hR9;clear hG9 hR9
 go_wp2
 refine aX rfl rfl (by rfl) Tryz.underlying26 rfl hB1 aL ⟨_,rfl,⟨_,rfl,Oh.mono hOw (by omega)⟩,hb⟩
theorem zC (p:Tr) (v:Value) (l:List Ho) (F:FuncId) (lb:List Value) (fq:Nat→Rat) (w:World) (hv:Hl l v w) (hs:Hid (Szp l 1000)) (HOK:Hid (Okp p l)) (hn8:l.length≤8) (hfs:Hid (∀ k,k<l.length→szR (fq k) 20000)) (hi9:Tryz.prog.inits.idxOf? F=none) (hE9:∀ (X:World) (a b:Value),(callFunc F ([a,b]++lb).toArray).run Tryz.prog X=.ok (.enter F ([a,b]++lb).toArray) X) (HF:Hid (∀ (X:World) (k:Nat),Since w X→k<l.length→Calls Tryz.prog F (([vI k,.agg (hoc (ho l k)).toArray]:List Value)++lb).toArray X fun e X'=>e=.returned (rbv (fq k))∧Since X X')):Calls Tryz.prog 44 #[.agg #[.bool p.1,vS p.2.1,vS p.2.2,v],.func (.func F) #[] lb.toArray] w fun e w'=>∃ u,e=.returned u∧Pow w.heap.size (taD p l fq 0) u w'∧Since w w':=by
 obtain ⟨A,n,cp,rfl,hln,hn1,hr⟩:=hv.at;clear hv
 have HRX:Hid (∀ X,Since w X→Rd X 9 (.slice A n cp) n (fl hoc l)):=fun X h=>hr.below h
 have HLN:=Lib.hid hln
 have hn9:n≤8:=by omega
 have HES:Hid (∀ X,Since w X→Hl l (.slice A n cp) X):=fun X h=>by show Rd X 9 _ l.length _;rw [hln];exact hr.below h
 clear hr
 go_enter Tryz.func44,Tryz.ntmps44
 go_upto_region 1 with fail;obtain ⟨W0,hW0,hB0,hB1,hb⟩:=cI w 26 41 [.bool p.1,vS p.2.1,vS p.2.2,.slice A n cp] [.bool false,.string ⟨#[]⟩,.string ⟨#[]⟩,.slice none 0 0,.slice none 0 0,.bool false,.string ⟨#[]⟩,.string ⟨#[]⟩];rw [← hW0];clear hW0;have hwB:w.heap.size+1<W0.heap.size:=hB1.lt;refine aV 2 [none,some (Pn W0.heap.size p l)] (aA (aD (Pn.lasts _ _ _) (aF))) ?_;simp only [its,List.take,List.drop,Nat.zero_add,Nat.reduceAdd];refine ja hB0 Tryz.underlying26 (by rfl) aL ?_;refine jk (fun X hX hF=>(clnC p _ l X (HES.out X (Since.next hb hX)) (by rw [HLN.out];omega)).mono fun e X' ⟨u,h1,⟨u',h2,h4⟩,h3⟩=>⟨u,h1,⟨u',h2,h4.mono hX.size⟩,h3⟩) ?_;intro v10;refine aH ?_;intro X1 hX1 hF;have hv10:=hF _ _ List.mem_cons_self;obtain ⟨hB0,hB1⟩:=bl2 hX1 hB0 hB1;have hb:=aG hb hX1;clear hF hX1;obtain ⟨u10,rfl,hOu⟩:=hv10
 unfold Oh at hOu
 rw [HLN.out] at hOu;replace hOu:=bI hOu (show w.heap.size+2≤W0.heap.size by omega);obtain ⟨A5,c5,rfl,_,_⟩:=(Rd.of_own hOu).form;refine sG rfl (.agg #[.bool p.1,vS p.2.1,vS p.2.2,.slice A5 n c5,.slice none 0 0,.bool false,.string ⟨#[]⟩,.string ⟨#[]⟩]) (by unfold execOp;go_simp) ?_;go_upto_region 2 with (refine osn 41 5 11 #[.bool p.1,vS p.2.1,vS p.2.2,.slice A5 n c5,.slice none 0 0,.bool false,.string ⟨#[]⟩,.string ⟨#[]⟩] aM ?_);obtain ⟨Y1,hY9,hD5,hS9⟩:=aZ X1 41 [.bool p.1,vS p.2.1,vS p.2.2,.slice A5 n c5,.slice none 0 0,.bool false,.string ⟨#[]⟩,.string ⟨#[]⟩];rw [← hY9];clear hY9;have hgs5:=hb.size;have hlt5x0:=hB0.lt;have hlt5x1:=hB1.lt;replace hOu:=aC hOu hS9;obtain ⟨hB0,hB1⟩:=bl2 hS9 hB0 hB1;have hb:=aG hb hS9;clear hS9;generalize X1.heap.size=g5 at *;refine jp ?_;refine jnf hB0 3 aR ?_;refine jv (vI n) (aJ Tryz.underlying24 _ (by rfl) A n cp (by rfl) _ rfl) ?_;refine jm (vI 0) ?_;refine bD hb hB0 hB1 hD5 fun X2 hX2 hb hB0 hB1 hD5=>?_;replace hOu:=aC hOu hX2
 have hOu:X2.ownsRow (w.heap.size+2) 66 9 (.slice A5 n c5) n (fl hoc (upk l (fun j=>ct l j-fq j) 0)):=by rw [qF];exact hOu
 go_wp2
 go_loopw [15] (fun kv wr=>∃ (k c6:Nat) (A6:Option Addr),k≤n∧kv=vI k∧Blk wr g5 41 [.bool p.1,vS p.2.1,vS p.2.2,.slice A5 n c5,.slice A6 k c6,.bool false,.string ⟨#[]⟩,.string ⟨#[]⟩]∧Blk wr w.heap.size 26 [.bool p.1,vS p.2.1,vS p.2.2,.slice A n cp]∧Blk wr (w.heap.size+1) 41 [.bool false,.string ⟨#[]⟩,.string ⟨#[]⟩,.slice none 0 0,.slice none 0 0,.bool false,.string ⟨#[]⟩,.string ⟨#[]⟩]∧wr.ownsRow (w.heap.size+2) 66 9 (.slice A5 n c5) n (fl hoc (upk l (fun j=>ct l j-fq j) k))∧wr.ownsRow (w.heap.size+2) 23 3 (.slice A6 k c6) k (fl rc (ptl k fq))∧Below w.heap.size w wr) (fun kv _=>n-(intOf kv).toNat)
 case atStart=>exact ⟨0,0,none,by omega,rfl,hD5,hB0,hB1,hOu,⟨rfl,.inl ⟨rfl,rfl⟩⟩,hb⟩
 case round =>
  clear hD5 hB0 hB1 hOu hb;obtain ⟨k,c6,A6,hk,rfl,hD5,hB0,hB1,hOu,hOz,hb⟩:=hrel;have hog:=bL hOz
  rcases Nat.lt_or_ge k n with hlt|hlt
  ·obtain ⟨b,off,rfl,hbb,hcx⟩:=iR (HRX.out _ hb) HLN.out hlt
   rw [HOK.out.ho_tr (by rw [HLN.out];exact hlt)] at hcx
   change Cl wr b (off+k * 9) [.bool (rN (ct l k)),vS (rP (ct l k)),vS (rD (ct l k)),.bool (rN (mx l k)),vS (rP (mx l k)),vS (rD (mx l k)),.bool (rN (sr l k)),vS (rP (sr l k)),vS (rD (sr l k))] at hcx
   have LB0:szR (ct l k) 1000:=hs.out.ct (by decide) k;have LB1:szR (fq k) 20000:=hfs.out k (by rw [HLN.out];exact hlt);go_upto_region 3 with fail;refine jp ?_;refine fC (k:Int) (n:Int) (by omega) ?_;refine bD hb hB0 hB1 hD5 fun X1 hX1 hb hB0 hB1 hD5=>?_;replace hOu:=aC hOu hX1;replace hog:=bL hOz;replace hOz:=aC hOz hX1;have hcx:=hcx.below hX1 hbb;replace hbb:=Nat.lt_of_lt_of_le hbb (hX1).size;go_upto_region 4 with fail;refine jq 3 ?_;refine jm (vI k) ?_;refine jv (vP b (off+k * 9)) (aY Tryz.underlying24 bF _ _ (by rfl) b (off) n cp k (by omega) (by rfl) (by rfl) rfl) ?_;refine jg (.agg #[.bool (rN (ct l k)),st (rP (ct l k)),st (rD (ct l k)),.bool (rN (mx l k)),st (rP (mx l k)),st (rD (mx l k)),.bool (rN (sr l k)),st (rP (sr l k)),st (rD (sr l k))]) (fun X hX hF=>bM 66 _ (by rfl) b (off+k * 9) (by rfl) Tryz.underlying66 rfl [.bool (rN (ct l k)),vS (rP (ct l k)),vS (rD (ct l k)),.bool (rN (mx l k)),vS (rP (mx l k)),vS (rD (mx l k)),.bool (rN (sr l k)),vS (rP (sr l k)),vS (rD (sr l k))] X (Cl.part (hcx.below hX hbb) 0 _ (by rfl)) bF) ?_;refine bD hb hB0 hB1 hD5 fun X2 hX2 hb hB0 hB1 hD5=>?_;replace hOu:=aC hOu hX2;replace hog:=bL hOz;replace hOz:=aC hOz hX2;have hcx:=hcx.below hX2 hbb;replace hbb:=Nat.lt_of_lt_of_le hbb (hX2).size
   go_upto_region 5 with (refine osn 66 7 19 #[.bool (rN (ct l k)),vS (rP (ct l k)),vS (rD (ct l k)),.bool (rN (mx l k)),vS (rP (mx l k)),vS (rD (mx l k)),.bool (rN (sr l k)),vS (rP (sr l k)),vS (rD (sr l k))] bF ?_);obtain ⟨Y2,hY9,hD7,hS9⟩:=aZ X2 66 [.bool (rN (ct l k)),vS (rP (ct l k)),vS (rD (ct l k)),.bool (rN (mx l k)),vS (rP (mx l k)),vS (rD (mx l k)),.bool (rN (sr l k)),vS (rP (sr l k)),vS (rD (sr l k))];rw [← hY9];clear hY9;have hgs7:=hb.size;have hlt7x0:=hB0.lt;have hlt7x1:=hB1.lt;have hlt7x2:=hD5.lt;replace hOu:=aC hOu hS9;replace hog:=bL hOz;replace hOz:=aC hOz hS9;have hcx:=hcx.below hS9 hbb;replace hbb:=Nat.lt_of_lt_of_le hbb (hS9).size;obtain ⟨hB0,hB1,hD5⟩:=bl3 hS9 hB0 hB1 hD5;have hb:=aG hb hS9;clear hS9;generalize X2.heap.size=g7 at *;refine jq 4 ?_;refine jmm (.func (.func F) #[] lb.toArray) (vI k) ?_;refine ja hD7 Tryz.underlying66 (by rfl) bF ?_;refine xJ (by rfl) F _ _ _ lb (by rfl) (by rfl) (.agg #[.bool (rN (fq k)),vS (rP (fq k)),vS (rD (fq k))]) [vI k,.agg #[.bool (rN (ct l k)),vS (rP (ct l k)),vS (rD (ct l k)),.bool (rN (mx l k)),vS (rP (mx l k)),vS (rD (mx l k)),.bool (rN (sr l k)),vS (rP (sr l k)),vS (rD (sr l k))]] (by rfl) hi9 (fun X=>hE9 X _ _) (fun X hX hF=>by have h9:=HF.out X k (Since.next hb hX) (by rw [HLN.out];exact hlt);rw [HOK.out.ho_tr (by rw [HLN.out];exact hlt)] at h9;exact h9) ?_
   simp only [pX];refine hH hb hB0 hB1 hD5 hD7 fun X3 hX3 hb hB0 hB1 hD5 hD7=>?_;replace hOu:=aC hOu hX3;replace hog:=bL hOz;replace hOz:=aC hOz hX3;go_upto_region 6 with (refine osn 23 8 23 #[.bool (rN (fq k)),vS (rP (fq k)),vS (rD (fq k))] aB ?_);obtain ⟨Y3,hY9,hD8,hS9⟩:=aZ X3 23 [.bool (rN (fq k)),vS (rP (fq k)),vS (rD (fq k))];rw [← hY9];clear hY9;have hgs8:=hb.size;have hlt8x0:=hB0.lt;have hlt8x1:=hB1.lt;have hlt8x2:=hD5.lt;have hlt8x3:=hD7.lt;replace hOu:=aC hOu hS9;replace hog:=bL hOz;replace hOz:=aC hOz hS9;obtain ⟨hB0,hB1,hD5,hD7⟩:=bl4 hS9 hB0 hB1 hD5 hD7;have hb:=aG hb hS9;clear hS9;generalize X3.heap.size=g8 at *;have h1l:=hB1.lt;go_upto_region 6 with fail
   have hbA:(w.heap.size+2)≤Y3.heap.size:=by omega
   have hn_hB0:(Value.ownBlock (.slice A6 k c6))≠some w.heap.size:=fun h9=>by have h8:=bL hOz _ h9;omega
   have hn_hB1:(Value.ownBlock (.slice A6 k c6))≠some (w.heap.size+1):=fun h9=>by have h8:=bL hOz _ h9;omega
   have hn_hD5:(Value.ownBlock (.slice A6 k c6))≠some g5:=bG hOz hD5;have hn_hD7:(Value.ownBlock (.slice A6 k c6))≠some g7:=bG hOz hD7
   have hn_hD8:(Value.ownBlock (.slice A6 k c6))≠some g8:=fun h9=>by have h8:=hog _ h9;omega
   refine rA 6 (⟨(w.heap.size+2),23,3,.slice A6 k c6,k,(fl rc (ptl k fq)),[.bool (rN (fq k)),vS (rP (fq k)),vS (rD (fq k))]⟩:Ar) 4 [none,none,none,some (Anew (⟨(w.heap.size+2),23,3,.slice A6 k c6,k,(fl rc (ptl k fq)),[.bool (rN (fq k)),vS (rP (fq k)),vS (rD (fq k))]⟩:Ar) 23),some (Aout (⟨(w.heap.size+2),23,3,.slice A6 k c6,k,(fl rc (ptl k fq)),[.bool (rN (fq k)),vS (rP (fq k)),vS (rD (fq k))]⟩:Ar))] (jC (jC (jC (lX (fun v X Y h hR=>Anew.lasts v X Y h hR) (lX (fun v X Y h hR=>Aout.lasts v X Y h hR) (xV)))))) ?_;simp only [iB,List.take,List.drop,Nat.reduceAdd];refine an (vP g5 4) ?_;refine ag hOz hbA (.slice A6 k c6) (fun X σ hX hF=>bN 27 _ (by rfl) g5 4 (by rfl) _ X ((hX.blk hD5 hn_hD5).cell (j:=4) rfl) (fun X u h=>bA g5 4 X u h)) ?_;refine ag hOz hbA (.agg #[.bool (rN (fq k)),vS (rP (fq k)),vS (rD (fq k))]) (fun X σ hX hF=>fW 23 _ (by rfl) g8 (by rfl) Tryz.underlying23 rfl X (hX.blk hD8 hn_hD8) aB) ?_;refine ab hOz 23 (fun X=>by unfold execOp;go_simp) ?_;intro v27;refine aa hOz hbA 23 3 v27 List.mem_cons_self Tryz.underlying27 mY rfl (show 0<3 by decide) (by rfl) (al3 rfl rfl rfl) (show k+1≤maxLen by unfold maxLen;omega) (show (k+1) * 40≤140737488355328 by omega) ?_;intro v28;refine an (vP g5 4) ?_
   refine az hOz hbA ?_;intro X4 σ hX hF;have hO28:X4.ownsRow (w.heap.size+2) 23 3 v28 (k+1) ((fl rc (ptl k fq))++[.bool (rN (fq k)),vS (rP (fq k)),vS (rD (fq k))]):=(hF _ _ List.mem_cons_self).2;have hB0:=hX.blk hB0 hn_hB0;have hB1:=hX.blk hB1 hn_hB1;have hD5:=hX.blk hD5 hn_hD5;have hD7:=hX.blk hD7 hn_hD7;have hD8:=hX.blk hD8 hn_hD8;have hb:=hb.trans (hX.below.mono (show w.heap.size≤(w.heap.size+2) by omega));clear hF hn_hB0 hn_hB1 hn_hD5 hn_hD7 hn_hD8;have hOu:=aO hOu hX.grown (fun g h h9=>oW hOz hOu h h9);obtain ⟨A7,c7,rfl,_,_⟩:=(Rd.of_own hO28).form;clear hOz hog
   have hOz:X4.ownsRow (w.heap.size+2) 23 3 (.slice A7 (k+1) c7) (k+1) (fl rc (ptl (k+1) fq)):=by rw [wU];exact hO28
   clear hO28;refine sH rfl g5 4 41 _ hD5 (.slice A7 (k+1) c7) (by simp) (fun X u h1 h2=>yD _ _ (by rfl) _ _ (by rfl) (by rfl) u X h1 h2) ?_;intro w6 hR5 hG5;have hb:=aN hG5 hb hb.size (by omega);have hB0:=aE hG5 hB0 (by omega);have hB1:=aE hG5 hB1 (by omega);have hD7:=aE hG5 hD7 (by omega);have hD8:=aE hG5 hD8 (by omega);have hOu:=aO hOu hG5 (fun g h h9=>bG hOu hD5 rfl (h9.trans h.symm));have hOz:=aO hOz hG5 (fun g h h9=>bG hOz hD5 rfl (h9.trans h.symm))
   change Blk w6 g5 41 [.bool p.1,vS p.2.1,vS p.2.2,.slice A5 n c5,.slice A7 (k+1) c7,.bool false,.string ⟨#[]⟩,.string ⟨#[]⟩] at hR5
   have hD5:=hR5;clear hR5 hG5;refine wpList_nil ?_;obtain ⟨gh,rfl⟩:=jY hOu (show 0<n by omega);go_upto_region 7 with fail;refine aT [] (by kernel_rfl) (by kernel_rfl) (by kernel_rfl) rfl (aF) ?_;simp only [its,List.dropLast,Nat.zero_add,Nat.reduceAdd];refine jn (vP g5 0) ?_;refine jnf hD5 3 aR ?_;refine jmn (vI k) (vP g7 0) ?_;refine jg (rt (rN (ct l k)) (rP (ct l k)) (rD (ct l k))) (fun X hX hF=>aK 23 _ (by rfl) g7 0 [.bool (rN (ct l k)),vS (rP (ct l k)),vS (rD (ct l k))] (by rfl) Tryz.underlying23 rfl X (hD7.bel hX) (by rfl) aB) ?_;refine ja hD8 Tryz.underlying23 (by rfl) aB ?_;refine jc (rt (rN ((ct l k)-(fq k))) (rP ((ct l k)-(fq k))) (rD ((ct l k)-(fq k)))) (fun X hX hF=>oM (rN (ct l k)) (rP (ct l k)) (rD (ct l k)) (rN (fq k)) (rP (fq k)) (rD (fq k)) (bH (ct l k)) (bH (fq k)) X (tzR LB0 (by omega)) (tzR LB1 (by omega))) ?_;refine jv (vP gh (0+k * 9)) (aY Tryz.underlying24 bF _ _ (by rfl) gh (0) n c5 k (by omega) (by rfl) (by rfl) rfl) ?_;refine jn (vP gh (0+k * 9)) ?_;refine cC hb hB0 hB1 hD5 hD7 hD8 fun X5 hX5 hb hB0 hB1 hD5 hD7 hD8=>?_;replace hOu:=aC hOu hX5;replace hOz:=aC hOz hX5;refine gF rfl 23 (.tmp 39) (.tmp 37) rfl hOu (k * 9) (by show vP gh (0+k * 9)=_;rw [Nat.zero_add]) (rc (ct l k-fq k)) rfl (by rw [pK,dF,eD,HLN.out];omega) (by intro u hu;simp only [rc,trc,List.mem_cons,List.not_mem_nil,or_false] at hu;rcases hu with rfl|rfl|rfl <;> rfl) aB ?_
   intro w7 hR5 hG5;rw [uD (by rw [dF,HLN.out];exact hlt),jQ l _ k (by rw [HLN.out];exact hlt),if_neg (Nat.lt_irrefl k),tM (by rw [HLN.out];exact hlt)] at hR5;have hgb:=bL hOu gh rfl;have hb:=aN hG5 hb hb.size (by omega);have hB0:=aE hG5 hB0 (by omega);have hB1:=aE hG5 hB1 (by omega);have hD5:=aE hG5 hD5 (fun h9=>bG hOu hD5 rfl (by rw [h9];rfl));have hOz:=aO hOz hG5 (fun g h h9=>oW hOz hOu h9 h);have hOu:=hR5;clear hR5 hG5 hgb hD7 hD8;refine wpList_nil ?_;go_upto_region 8 with fail;refine jp ?_;refine jv (vI ((k+1:Nat):Int)) (bB _ _ _ _ (by rfl) (k:Int) 1 ((k+1:Nat):Int) (by rfl) (by rfl) (by omega) (by omega) (by omega)) ?_;refine jm (vI ((k+1:Nat):Int)) ?_;refine bD hb hB0 hB1 hD5 fun X6 hX6 hb hB0 hB1 hD5=>?_;replace hOu:=aC hOu hX6;replace hOz:=aC hOz hX6
   go_wp2
   go_roundw
   case rel=>exact ⟨k+1,c7,A7,by omega,rfl,hD5,hB0,hB1,hOu,hOz,hb⟩
   case measure=>simp [intOf];omega
  ·obtain rfl:k=n:=by omega
   go_upto_region 3 with fail;refine jp ?_;refine fD (k:Int) (k:Int) (by omega) ?_;refine bD hb hB0 hB1 hD5 fun X1 hX1 hb hB0 hB1 hD5=>?_;replace hOu:=aC hOu hX1;replace hOz:=aC hOz hX1;go_upto_region 9 with fail;refine jq 1 ?_;refine ja hD5 Tryz.underlying41 (by rfl) aM ?_;refine bD hb hB0 hB1 hD5 fun X2 hX2 hb hB0 hB1 hD5=>?_;replace hOu:=aC hOu hX2;replace hOz:=aC hOz hX2;refine aS rfl 41 (.tmp 4) (.tmp 41) rfl (w.heap.size+1) 41 _ hB1 rfl [.bool p.1,vS p.2.1,vS p.2.2,.slice A5 k c5,.slice A6 k c6,.bool false,.string ⟨#[]⟩,.string ⟨#[]⟩] rfl (by rfl) (al8 rfl rfl rfl rfl rfl rfl rfl rfl) aM ?_;intro w9 hR9 hG9;have hb:=aN hG9 hb hb.size (by omega);have hOu:=aO hOu hG9 (fun g h h9=>by injection h with h;have h8:=(bL hOu _ h9).1;omega);have hOz:=aO hOz hG9 (fun g h h9=>by injection h with h;have h8:=(bL hOz _ h9).1;omega)
   go_wp2
   refine aX rfl rfl (by rfl) Tryz.underlying41 rfl hR9 aM ⟨_,rfl,⟨.slice A5 k c5,.slice A6 k c6,rfl,?_,?_⟩,hb⟩
   ·show World.ownsRow _ _ _ _ _ (stc l _).length (fl hoc (stc l _))
    rw [dP,HLN.out,← oG,HLN.out];exact bI hOu (by omega)
   ·show World.ownsRow _ _ _ _ _ (ptl l.length fq).length (fl rc (ptl l.length fq))
    rw [bX,HLN.out];exact bI hOz (by omega)
end Go.Proofs.YtnfpenhldlfafaaGreatDoor

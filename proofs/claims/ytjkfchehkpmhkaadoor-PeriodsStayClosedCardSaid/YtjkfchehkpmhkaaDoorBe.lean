/- account: sums. -/
import Derived.Test.YtjkfchehkpmhkaaDoorBa
import Derived.Test.YtjkfchehkpmhkaaDoorPl44e
import Derived.Test.YtjkfchehkpmhkaaDoorKe
set_option linter.unusedSimpArgs false
set_option linter.unusedVariables false
set_option maxRecDepth 100000
set_option maxHeartbeats 1600000
namespace Go.Proofs.YtjkfchehkpmhkaaDoor
open Go.RowKit
def sS (l:List En) (f t k:Int) (n:Nat):List Rat:=(List.range 100).map fun a:Nat=>vK l (a:Int) f t k n
theorem pK (l:List En) (f t k:Int) (n:Nat):(sS l f t k n).length=100:=by
 unfold sS
 rw [List.length_map,List.length_range]
theorem qVp (l:List En) (f t k:Int) (n:Nat) {a:Nat} (ha:a<100):yq (sS l f t k n) a=vK l (a:Int) f t k n:=tN (fun a:Nat=>vK l (a:Int) f t k n) ha
theorem vQc (l:List En) (f t k:Int):sS l f t k 0=List.replicate 100 0:=by
 refine List.ext_getElem (by rw [pK,List.length_replicate]) fun i h1 h2=>?_;have h9:=List.getElem_map (l:=List.range 100) (fun a:Nat=>vK l (a:Int) f t k 0) (i:=i) (h:=h1);rw [List.getElem_replicate];exact h9
theorem vQd {l:List En} {f t k:Int} {n:Nat} (h:¬ (k=0∨(en l (cl l f+n)).kd=k)):sS l f t k (n+1)=sS l f t k n:=by
 unfold sS
 refine List.map_congr_left fun a _=>?_;rw [oA,if_neg h,Rat.add_zero]
theorem xO {c:Int} {l:List En} (h:Ok44 c l) {f t k:Int} {n:Nat} {x:En} (hx:x=en l (cl l f+n)) (hn:cl l f+n<l.length) (hk:k=0∨x.kd=k) {d e:Nat} (hd:x.deb=(d:Int)) (he:x.cre=(e:Int)) :
  ((sS l f t k n).set d (yq (sS l f t k n) d+trq x.am)).set e (yq (sS l f t k n) e-trq x.am)=sS l f t k (n+1):=by
 have hr:Rg c (cl l f+n) x:=by rw [hx];exact h.rg hn
 have hc:=h.c100;have h1:=hr.d1;have h3:=hr.c1
 have hne:e≠d:=fun h9=>hr.ne (by omega)
 have hl:=pK l f t k n
 have he2:yq ((sS l f t k n).set d (yq (sS l f t k n) d+trq x.am)) e=yq (sS l f t k n) e:=by
  rw [vM (by omega),if_neg hne]
 have key:=fun a=>zF (S:=sS l f t k n) hr (by rw [hl];omega) a
 rw [show x.deb.toNat=d by omega,show x.cre.toNat=e by omega] at key;refine vXw (by rw [List.length_set,List.length_set,hl,pK]) fun a ha=>?_;rw [List.length_set,List.length_set,hl] at ha;have h9:=key a;rw [show (sS l f t k n).getD d 0=yq (sS l f t k n) d from rfl] at h9;rw [show ((sS l f t k n).set d (yq (sS l f t k n) d+trq x.am)).getD e 0=yq ((sS l f t k n).set d (yq (sS l f t k n) d+trq x.am)) e from rfl,he2,if_pos (by omega)] at h9;refine Eq.trans h9 ?_;rw [show (sS l f t k n).getD a 0=yq (sS l f t k n) a from rfl,qVp _ _ _ _ _ ha,qVp _ _ _ _ _ ha,oA,if_pos (by rw [← hx];exact hk),hx]
def smF (l:List En) (f t k:Int):List Rat:=(List.range 100).map fun a:Nat=>bal l (a:Int) f t k
theorem qZw (l:List En) (f t k:Int):(smF l f t k).length=100:=by
 unfold smF
 rw [List.length_map,List.length_range]
theorem vYy (l:List En) (f t k:Int) {a:Nat} (ha:a<100):yq (smF l f t k) a=bal l (a:Int) f t k:=tN (fun a:Nat=>bal l (a:Int) f t k) ha
theorem vZh {c:Int} {l:List En} (h:Ok44 c l) (f t k:Int):sS l f t k (nb l f t)=smF l f t k:=by
 unfold sS smF
 exact List.map_congr_left fun a _=>qZh h _ _ _ _
theorem sN {P:Program} {w:World} {ops:Array Oper} {rest:List Oper} {o o2:Oper} {a:Act} {Q:Exit→Act→World→Prop} (hgd:o.guard=none) (hgd2:o2.guard=none) (T:TypeId) (z ys:List Value) (p x:Operand) (ho:o2.op=.store T p x)
  (hr1:∀ X:World,(execOp a.eval o).run P X=.ok (.value (vP X.heap.size 0)) (X.alloc (.cells z.toArray T)))
  (hp:∀ g,(a.put o.dst (vP g 0)).eval p=vP g 0) (hx:∀ g,(a.put o.dst (vP g 0)).eval x=.agg ys.toArray) (hl:ys.length=z.length) (h1:∀ v∈ys,v.oneCell'=true) (hi:(P.info? T).map (·.size)=some ys.length)
  (h:∀ (g:Nat) (w':World),g=w.heap.size→Blk w' g T ys→Since w w'→wpList P ops Q rest ((a.put o.dst (vP g 0)).put o2.dst undef) w'):wpList P ops Q (o :: o2 :: rest) a w:=by
 refine wpList_plain hgd fun K hK=>?_
 unfold Oper.wp
 rw [hr1];exact hK _ _ (mB w z.toArray T hgd2 T p x ho (hp _) ys.toArray (hx _) (by simpa using hl) (by simpa using h1) (by simpa using hi) (h _ _ rfl (Blk.new rfl) (bE w _)))
theorem uC {P:Program} {fn:Func} {a:Act} {w:World} {s g:Nat} {T t:TypeId} {cs:List Value} {d:TypeDesc} (hres:fn.results=#[.cell s T]) (hp:a.tmps.getD s undef=vP g 0) (hu:P.underlying T=some d)
  (hag:(match d with|.struct _|.array _ _=>true|_=>false)=true) (hB:Blk w g t cs) (hi:(P.info? T).map (·.size)=some cs.length):(results fn a.tmps).run P w=.ok (.agg cs.toArray) w:=by
 have hld:=cG (P:=P) T d g 0 cs hB.cl hu hag hi
 have hp2:a.tmps[s]?.getD undef=vP g 0:=by rw [← Array.getD_eq_getD_getElem?];exact hp
 simp [results,hres,asAddr,hld,hp2]
theorem vZ {P:Program} {a:Act} {w:World} {n:Nat} {fn:Func} {R:Ending→World→Prop} {v:Value} {D:Nat} (hK:w.heap[D]?=some (.deferred (some []))) (hr:(results fn a.tmps).run P (w.putObj D (.deferred none))=.ok v (w.putObj D (.deferred none))) (hd:a.defers=[{ target:=.collected D,args:=#[] }]) (hR:R (.returned v) (w.putObj D (.deferred none))):bodyPostM Fence.wide n P fn R .ret a w:=by
 show LeavesInM _ _ _ _ _ _ a.defers .returning w
 rw [hd];exact ⟨by simp,.inl ⟨_,_,rfl,run_takeDeferred hK,v,hr,hR⟩⟩
theorem nE {P:Program} {g:Operand} {ps:Array Tmp} {assign body:Code} {Q:Exit→Act→World→Prop} {a:Act} {w:World} {gf:Nat} {lb:Array Value} (a1:Nat→Nat→Act) (Bx:Nat→Nat→World→Prop)
  (hg:a.eval g=.func (.func gf) #[] lb) (eg:∀ args w,(callFunc gf args).run P w=.ok (.enter gf args) w) {encs:Nat→Array Value} {N:Nat} {T:Nat→Prop} (hT:∀ k,T k→k<w.heap.size)
  (hseq:vVv P gf lb encs N T w) (hps:∀ k,(encs k).size=ps.size)
  (I:Nat→Nat→World→Prop) (hI:∀ m k X Y,I m k X→Kept w.heap.size X Y→I m k Y) (h0:∀ m,w.heap.size+2≤m→I m 0 w)
  (hBx:∀ k g X Y,Bx k g X→Kept w.heap.size X Y→Bx k g Y)
  (hassign:∀ (l k:Nat) (W:World) (K:Act→World→Prop),w.heap.size+2≤W.heap.size→k<N→(∀ g W',Since W W'→Bx k g W'→K (a1 k g) W') →
   assign.wpIn (Fence.wide.inRound l) 0 P (Exit.then K (fun _ _ _=>False)) { tmps:=(ps.zip (encs k)).foldl (fun t (p,v)=>t.setIfInBounds p v) a.tmps,defers:=[] } W)
  (hbody:∀ (l m k g:Nat) (W:World),w.heap.size+2≤m→m≤W.heap.size→k<N→I m k W→Bx k g W →
   body.wpIn (Fence.wide.inRound l) 0 P (fun e _ W'=>e=.normal∧But m T W W'∧I m (k+1) W') (a1 k g) W)
  (hdone:∀ (D m:Nat) (W:World),w.heap.size≤D→w.heap.size+2≤m→I m N W→W.heap[D]?=some (.deferred (some []))→Q .normal { a with defers:={ target:=.collected D,args:=#[] } :: a.defers } W) :
  (Code.rangeFunc g ps assign body).wp P Q a w :=
 qQz hg eg hT hseq hps I hI h0 (fun k a' X=>∃ g,a'=a1 k g∧Bx k g X) (fun _ _ _ _ ⟨g,h1,h2⟩ hK=>⟨g,h1,hBx _ _ _ _ h2 hK⟩) (fun l _ k W K h1 h2 h3 _ hK=>hassign l k W K (Nat.le_trans h1 h2) h3 fun g W' hS hb=>hK _ W' hS ⟨g,rfl,hb⟩) (fun l m k a' W h1 h2 h3 h4 ⟨g,h5,h6⟩=>by subst h5;exact hbody l m k g W h1 h2 h3 h4 h6) hdone
structure SmI (w:World) (l:List En) (f t kd:Int) (g9:Nat) (k:Nat) (X:World):Prop where
 out:Blk X g9 89 (fl rc (sS l f t kd k))
 kd:Blk X (w.heap.size+1) 3 [vI kd]
 res:Blk X (w.heap.size+2) 89 (fl rc (List.replicate 100 0))
 bel:Below w.heap.size w X
theorem SmI.kept {w:World} {l:List En} {f t kd:Int} {g9 k B:Nat} {X Y:World} (h:SmI w l f t kd g9 k X) (hK:Kept B X Y) (hB:w.heap.size≤B):SmI w l f t kd g9 k Y :=
 ⟨hK.blk h.out,hK.blk h.kd,hK.blk h.res,hK.below h.bel hB⟩
theorem smsC (c:Int) (v:Value) (l:List En) (f t kd:Int) (w:World) (hv:Es l v w) (hs:Hid (∀ k,tz (en l k).am.2.1 (en l k).am.2.2 100)) (HK:Hid (Ok44 c l)):Calls Tryd.prog 30 #[.agg #[vI c,v],vI f,vI t,vI kd] w fun e w'=>e=.returned (.agg (fl rc (smF l f t kd)).toArray)∧Since w w':=by
 obtain ⟨A,n,cp,rfl,hln,hn1,hr⟩:=hv.at;clear hv;have HRX:=cP hr;have HLN:=Lib.hid hln;clear hr;have HES:=dG HLN HRX;refine eS Tryd.func30 rfl ?_;simp only [Tryd.ntmps30,List.size_toArray,List.length_cons,List.length_nil,Nat.reduceAdd,Nat.reduceSub,Array.replicate_succ,Array.replicate_zero,List.push_toArray,List.append_toArray,List.nil_append,List.cons_append];go_upto_region 1 with fail;rw [xD];obtain ⟨W0,hW0,hB0,hB1,hA8,hb⟩:=bV w 28 3 89 [vI c,.slice A n cp] [vI kd] (fl rc (List.replicate 100 0));rw [← hW0];clear hW0;go_upto_region 2 with fail;rw [xD];obtain ⟨Y1,hY9,hA9,hS9⟩:=aT W0 89 (fl rc (List.replicate 100 0));rw [← hY9];clear hY9;have hgs9:=hA8.lt;replace hA8:=hA8.bel hS9;obtain ⟨hB0,hB1⟩:=bl2 hS9 hB0 hB1;have hb:=aD hb hS9;clear hS9;generalize W0.heap.size=g9 at *;refine bI [none,none,none,some (Bti c (.slice A n cp) f t (g9+1))] (aA (aA (aA (aC (Bti.lasts _ _ _ _ _) (aG))))) ?_;simp only [iX,Nat.reduceAdd];refine ja hB0 Tryd.underlying28 (by rfl) aP ?_;refine jm (vI f) ?_;refine jm (vI t) ?_;refine jk (fun X hX hF=>(betC c f t A n cp X).mono fun e X' ⟨vf,h1,⟨q1,q2,q3,h4,h5,h6,h7,h8⟩,h3⟩=>⟨vf,h1,⟨q1,q2,q3,h4,by have:=(hA9.bel hX).lt;omega,by have:=(hA9.bel hX).lt;omega,by have:=(hA9.bel hX).lt;omega,h8⟩,h3⟩) ?_;intro v15;refine aI ?_;intro X2 hX2 hF;have hv15:=hF _ _ List.mem_cons_self
 replace hA8:=hA8.bel hX2;replace hA9:=hA9.bel hX2;obtain ⟨hB0,hB1⟩:=bl2 hX2 hB0 hB1;have hb:=aD hb hX2;clear hF hX2;obtain ⟨g1,g2,g3,rfl,hg1,hg2,hg3,hC1,hC2,hC3⟩:=hv15;have hA9L:=hA9.lt;clear hB0
 go_wp2
 refine nE (gf:=66) (lb:=#[vP g1 0,vP g2 0,vP g3 0]) (T:=fun k=>k=g9) ?F (fun k g X=>X2.heap.size+2≤g∧Blk X g 70 (enc (en l (cl l f+k)))) rfl (nU Tryd.func66 (by kernel_rfl) rfl) ?hT (btIt c A n cp l f t _ X2 g1 g2 g3 HLN.out hn1 (HRX.out _ hb) HK hC1 hC2 hC3 ?hT ?hT1 ?hT2 ?hT3 ?hTb) (fun _=>rfl) (fun _ k X=>SmI w l f t kd g9 k X) ?hI ?h0 ?hBx ?assign ?body ?done
 case hT =>
  rintro k rfl
  exact hA9L
 case hT1=>intro h9;omega
 case hT2=>intro h9;omega
 case hT3=>intro h9;omega
 case hTb =>
  intro h0 b off hA h9;subst h9;obtain ⟨b2,off2,h1,h2,_⟩:=iW (HRX.out w (Below.refl _ _)) HLN.out h0;rw [hA] at h1
  injection h1 with h1
  injection h1 with h1 h3
  omega
 case hI=>exact fun m k X Y h hK=>h.kept hK (Nat.le_trans (by omega) hA9L)
 case h0=>exact fun m _=>⟨by rw [vQc];exact hA9,hB1,hA8,hb⟩
 case hBx=>exact fun k g X Y h hK=>⟨h.1,hK.blk h.2⟩
 case assign =>
  intro l9 k W K hWs hk hK;have hb:Below W.heap.size W W:=Below.refl _ _;simp only [List.zip_toArray,List.zip_cons_cons,List.zip_nil_left,List.zip_nil_right,List.foldl_toArray,List.foldl_cons,List.foldl_nil,pA,pS,pZ]
  gi_upto_region 3 with fail
  refine eE 0 [] (by kernel_rfl) (by rintro ⟨_,_,h9⟩;exact h9) (aG) ?_;simp only [its,List.take,List.drop,Nat.zero_add,Nat.reduceAdd];refine jzb hb fun X1 hX1 hb=>?_;refine sN rfl rfl 70 [vI 0,vI 0,vI 0,.bool false,.string ⟨#[]⟩,.string ⟨#[]⟩,vI 0,vI 0,vI 0,vI 0,vI 0,vI 0,vI 0] (enc (en l (cl l f+k))) (.tmp 11) (.tmp 17) rfl (fun X=>by unfold execOp;go_simp) (fun g=>by rfl) (fun g=>by rfl) rfl (by intro u hu;simp only [enc,List.mem_cons,List.not_mem_nil,or_false] at hu;rcases hu with rfl|rfl|rfl|rfl|rfl|rfl|rfl|rfl|rfl|rfl|rfl|rfl|rfl <;> rfl) aR ?_;intro g W1 hg1 hB1 hS1;refine wpList_nil ?_;have hW1:=hb.size;exact hK g W1 (Since.next hb hS1) ⟨by omega,hB1⟩
 case body =>
  intro l9 m k g W hm hmw hk hi hbx;clear hA9 hA8 hB1 hb hC1 hC2 hC3;obtain ⟨hA9,hB1,hA8,hb⟩:=hi;obtain ⟨hgm,hD11⟩:=hbx
  have hkl:cl l f+k<l.length:=by
   have h8:=vF l (t+1)
   unfold nb at hk
   omega
  obtain ⟨x,x9⟩:∃ x,x=(en l (cl l f+k)):=⟨_,rfl⟩;have HX:=Lib.hid x9
  have hxs:tz x.am.2.1 x.am.2.2 100:=by rw [x9];exact hs.out _
  have hr:Rg c (cl l f+k) x:=by rw [x9];exact HK.out.rg hkl
  have hc100:=HK.out.c100;have hlen:=HK.out.len;rw [← x9] at hD11;clear x9;obtain ⟨d,hd⟩:∃ d:Nat,x.deb=(d:Int):=⟨x.deb.toNat,by have:=hr.d0;omega⟩;obtain ⟨e',he⟩:∃ e:Nat,x.cre=(e:Int):=⟨x.cre.toNat,by have:=hr.c0;omega⟩
  have hd9:d<100:=by have:=hr.d1;omega
  have he9:e'<100:=by have:=hr.c1;omega
  have hde:e'≠d:=fun h9=>hr.ne (by omega)
  have HD:=Lib.hid hd;have HE:=Lib.hid he;have HR:=Lib.hid hr;clear hd he hr;obtain ⟨S,hS⟩:∃ S,S=sS l f t kd k:=⟨_,rfl⟩;have HS:=Lib.hid hS
  have hSl:S.length=100:=by rw [hS];exact pK _ _ _ _ _
  have hsz:∀ a,a<100→szR (yq S a) 900000:=fun a ha=>by
   rw [hS,qVp _ _ _ _ _ ha];exact (yX (by decide) hs.out _ _ _ _ _).mono (by omega)
  have hszd:=hsz d hd9;have hsze:=hsz e' he9;rw [← hS] at hA9;clear hS hsz;have hbut:But m (fun k=>k=g9) W W:=But.refl _ _ _;have hD11:Blk W g 70 (eL x):=hD11
  rcases (show kd=0∨(kd≠0∧x.kd=kd)∨(kd≠0∧x.kd≠kd) by omega) with hk0|hk0|hk0
  ·have HMK:Hid (kd=0∨x.kd=kd):=.inl hk0
   have HK0:=Lib.hid hk0;clear hk0
   gi_upto_region 4 with fail
   refine dP [] (by kernel_rfl) (by rintro ⟨_,_,h9,_⟩;cases h9) (aG) ?_;simp only [iX,Nat.reduceAdd];refine jf _ hB1 0 aB ?_;refine eG kd 0 HK0.out ?_;refine jm (.bool true) ?_;refine js ?_;refine js ?_;refine js ?_;refine js ?_;refine js ?_;refine jm (.bool true) ?_;refine jzb hb fun X1 hX1 hb=>?_;replace hA8:=hA8.bel hX1;replace hA9:=hA9.bel hX1;replace hbut:=hbut.trans (But.of_since hX1 hmw);replace hmw:=Nat.le_trans hmw hX1.size;obtain ⟨hD11,hB1⟩:=bl2 hX1 hD11 hB1;refine wpList_nil ?_;have hcd:=oX hA9 (k:=d) (by rw [hSl];omega);have hl9:=hA9.lt;have hcd:Cl X1 g9 (0+d * 3) [.bool (rN (yq S d)),vS (rP (yq S d)),vS (rD (yq S d))]:=hcd;have LB0:szR (yq S d) 900000:=hszd
   gi_upto_region 5 with fail
   refine eW [] (by kernel_rfl) (by kernel_rfl) (by kernel_rfl) (by kernel_rfl) (by rintro ⟨_,_,h9,_⟩;cases h9) rfl (aG) ?_;simp only [its,List.dropLast,Nat.zero_add,Nat.reduceAdd];refine jn (vP g 1) ?_;refine jf _ hD11 1 aB ?_;refine jn (vP g 1) ?_;refine jf _ hD11 1 aB ?_;refine jv (vP g9 (0+d * 3)) (fT _ _ (by rfl) g9 d (by omega) (by rfl) (by rfl) HD.out) ?_;refine jg (rt (rN (yq S d)) (rP (yq S d)) (rD (yq S d))) (fun X hX hF=>bY 39 _ (by rfl) g9 (0+d * 3) (by rfl) Tryd.underlying39 rfl [.bool (rN (yq S d)),vS (rP (yq S d)),vS (rD (yq S d))] X (Cl.part (hcd.below hX hl9) 0 _ (by rfl)) aF) ?_;refine jn (vP g 3) ?_;refine jg (.agg #[.bool x.am.1,st x.am.2.1,st x.am.2.2]) (fun X hX hF=>aO 39 _ (by rfl) g 3 [.bool x.am.1,vS x.am.2.1,vS x.am.2.2] (by rfl) Tryd.underlying39 rfl X (hD11.bel hX) (by rfl) aF) ?_;refine jc (rt (rN ((yq S d)+(trq x.am))) (rP ((yq S d)+(trq x.am))) (rD ((yq S d)+(trq x.am)))) (fun X hX hF=>rC (rN (yq S d)) (rP (yq S d)) (rD (yq S d)) x.am.1 x.am.2.1 x.am.2.2 (cH (yq S d)) rfl X (tzR LB0 (by omega)) (hxs.mono (by omega))) ?_;refine jv (vP g9 (0+d * 3)) (fT _ _ (by rfl) g9 d (by omega) (by rfl) (by rfl) HD.out) ?_;refine jzb hb fun X2 hX2 hb=>?_;replace hA8:=hA8.bel hX2;replace hA9:=hA9.bel hX2
   replace hbut:=hbut.trans (But.of_since hX2 hmw);replace hmw:=Nat.le_trans hmw hX2.size;obtain ⟨hD11,hB1⟩:=bl2 hX2 hD11 hB1;have hcd:=hcd.below hX2 hl9;replace hl9:=Nat.lt_of_lt_of_le hl9 (hX2).size;clear hcd hl9;refine gC rfl (.tmp 36) (.tmp 35) rfl g9 S hA9 d (by rw [hSl];omega) rfl ((yq S d)+(trq x.am)) rfl ?_;intro w5 hA9 hG;replace hbut:=hbut.trans (But.of_grown hG hmw (fun k h=>.inr (by injection h with h;exact h.symm)));replace hmw:=Nat.le_trans hmw hG.size;have hb:=aK hG hb hb.size (by omega);replace hB1:=aE hG hB1 (by omega);replace hA8:=aE hG hA8 (by omega);replace hD11:=aE hG hD11 (by omega);clear hG;refine wpList_nil ?_;obtain ⟨S2,hS2⟩:∃ S2,S2=S.set d ((yq S d)+(trq x.am)):=⟨_,rfl⟩;have HS2:=Lib.hid hS2
   have hSl2:S2.length=100:=by rw [hS2,List.length_set];exact hSl
   have HYQ:Hid (yq S2 e'=yq S e'):=by
    show _=_
    rw [hS2,vM (by rw [hSl];exact hd9),if_neg hde]
   rw [← hS2] at hA9;clear hS2;have hcd:=oX hA9 (k:=e') (by rw [hSl2];omega);have hl9:=hA9.lt;rw [HYQ.out] at hcd;have hcd:Cl w5 g9 (0+e' * 3) [.bool (rN (yq S e')),vS (rP (yq S e')),vS (rD (yq S e'))]:=hcd;have LB0:szR (yq S e') 900000:=hsze
   gi_upto_region 6 with fail
   refine eW [] (by kernel_rfl) (by kernel_rfl) (by kernel_rfl) (by kernel_rfl) (by rintro ⟨_,_,h9,_⟩;cases h9) rfl (aG) ?_;simp only [its,List.dropLast,Nat.zero_add,Nat.reduceAdd];refine jn (vP g 2) ?_;refine jf _ hD11 2 aB ?_;refine jn (vP g 2) ?_;refine jf _ hD11 2 aB ?_;refine jv (vP g9 (0+e' * 3)) (fT _ _ (by rfl) g9 e' (by omega) (by rfl) (by rfl) HE.out) ?_;refine jg (rt (rN (yq S e')) (rP (yq S e')) (rD (yq S e'))) (fun X hX hF=>bY 39 _ (by rfl) g9 (0+e' * 3) (by rfl) Tryd.underlying39 rfl [.bool (rN (yq S e')),vS (rP (yq S e')),vS (rD (yq S e'))] X (Cl.part (hcd.below hX hl9) 0 _ (by rfl)) aF) ?_;refine jn (vP g 3) ?_;refine jg (.agg #[.bool x.am.1,st x.am.2.1,st x.am.2.2]) (fun X hX hF=>aO 39 _ (by rfl) g 3 [.bool x.am.1,vS x.am.2.1,vS x.am.2.2] (by rfl) Tryd.underlying39 rfl X (hD11.bel hX) (by rfl) aF) ?_;refine jc (rt (rN ((yq S e')-(trq x.am))) (rP ((yq S e')-(trq x.am))) (rD ((yq S e')-(trq x.am)))) (fun X hX hF=>tU (rN (yq S e')) (rP (yq S e')) (rD (yq S e')) x.am.1 x.am.2.1 x.am.2.2 (cH (yq S e')) rfl X (tzR LB0 (by omega)) (hxs.mono (by omega))) ?_;refine jv (vP g9 (0+e' * 3)) (fT _ _ (by rfl) g9 e' (by omega) (by rfl) (by rfl) HE.out) ?_;refine jzb hb fun X3 hX3 hb=>?_;replace hA8:=hA8.bel hX3
   replace hA9:=hA9.bel hX3;replace hbut:=hbut.trans (But.of_since hX3 hmw);replace hmw:=Nat.le_trans hmw hX3.size;obtain ⟨hD11,hB1⟩:=bl2 hX3 hD11 hB1;have hcd:=hcd.below hX3 hl9;replace hl9:=Nat.lt_of_lt_of_le hl9 (hX3).size;clear hcd hl9;refine gC rfl (.tmp 46) (.tmp 45) rfl g9 S2 hA9 e' (by rw [hSl2];omega) rfl ((yq S e')-(trq x.am)) rfl ?_;intro w6 hA9 hG;replace hbut:=hbut.trans (But.of_grown hG hmw (fun k h=>.inr (by injection h with h;exact h.symm)));replace hmw:=Nat.le_trans hmw hG.size;have hb:=aK hG hb hb.size (by omega);replace hB1:=aE hG hB1 (by omega);replace hA8:=aE hG hA8 (by omega);replace hD11:=aE hG hD11 (by omega);clear hG;refine wpList_nil ?_
   have HSN:Hid (S2.set e' ((yq S e')-(trq x.am))=sS l f t kd (k+1)):=by
    show _=_
    rw [HS2.out,HS.out];exact xO HK.out HX.out hkl HMK.out HD.out HE.out
   gi_wp2
   exact ⟨trivial,hbut,⟨by rw [← HSN.out];exact hA9,hB1,hA8,hb⟩⟩
  ·have HMK:Hid (kd=0∨x.kd=kd):=.inr hk0.2
   have HK0:=Lib.hid hk0;clear hk0
   gi_upto_region 4 with fail
   refine dP [] (by kernel_rfl) (by rintro ⟨_,_,h9,_⟩;cases h9) (aG) ?_;simp only [iX,Nat.reduceAdd];refine jf _ hB1 0 aB ?_;refine eH kd 0 HK0.out.1 ?_;refine jm (.bool false) ?_;refine jn (vP g 6) ?_;refine jn (vP g 6) ?_;refine jf _ hD11 6 aB ?_;refine jf _ hB1 0 aB ?_;refine eG x.kd kd HK0.out.2 ?_;refine jm (.bool true) ?_;refine jzb hb fun X1 hX1 hb=>?_;replace hA8:=hA8.bel hX1;replace hA9:=hA9.bel hX1;replace hbut:=hbut.trans (But.of_since hX1 hmw);replace hmw:=Nat.le_trans hmw hX1.size;obtain ⟨hD11,hB1⟩:=bl2 hX1 hD11 hB1;refine wpList_nil ?_;have hcd:=oX hA9 (k:=d) (by rw [hSl];omega);have hl9:=hA9.lt;have hcd:Cl X1 g9 (0+d * 3) [.bool (rN (yq S d)),vS (rP (yq S d)),vS (rD (yq S d))]:=hcd;have LB0:szR (yq S d) 900000:=hszd
   gi_upto_region 5 with fail
   refine eW [] (by kernel_rfl) (by kernel_rfl) (by kernel_rfl) (by kernel_rfl) (by rintro ⟨_,_,h9,_⟩;cases h9) rfl (aG) ?_;simp only [its,List.dropLast,Nat.zero_add,Nat.reduceAdd];refine jn (vP g 1) ?_;refine jf _ hD11 1 aB ?_;refine jn (vP g 1) ?_;refine jf _ hD11 1 aB ?_;refine jv (vP g9 (0+d * 3)) (fT _ _ (by rfl) g9 d (by omega) (by rfl) (by rfl) HD.out) ?_;refine jg (rt (rN (yq S d)) (rP (yq S d)) (rD (yq S d))) (fun X hX hF=>bY 39 _ (by rfl) g9 (0+d * 3) (by rfl) Tryd.underlying39 rfl [.bool (rN (yq S d)),vS (rP (yq S d)),vS (rD (yq S d))] X (Cl.part (hcd.below hX hl9) 0 _ (by rfl)) aF) ?_;refine jn (vP g 3) ?_;refine jg (.agg #[.bool x.am.1,st x.am.2.1,st x.am.2.2]) (fun X hX hF=>aO 39 _ (by rfl) g 3 [.bool x.am.1,vS x.am.2.1,vS x.am.2.2] (by rfl) Tryd.underlying39 rfl X (hD11.bel hX) (by rfl) aF) ?_;refine jc (rt (rN ((yq S d)+(trq x.am))) (rP ((yq S d)+(trq x.am))) (rD ((yq S d)+(trq x.am)))) (fun X hX hF=>rC (rN (yq S d)) (rP (yq S d)) (rD (yq S d)) x.am.1 x.am.2.1 x.am.2.2 (cH (yq S d)) rfl X (tzR LB0 (by omega)) (hxs.mono (by omega))) ?_;refine jv (vP g9 (0+d * 3)) (fT _ _ (by rfl) g9 d (by omega) (by rfl) (by rfl) HD.out) ?_;refine jzb hb fun X2 hX2 hb=>?_;replace hA8:=hA8.bel hX2;replace hA9:=hA9.bel hX2
   replace hbut:=hbut.trans (But.of_since hX2 hmw);replace hmw:=Nat.le_trans hmw hX2.size;obtain ⟨hD11,hB1⟩:=bl2 hX2 hD11 hB1;have hcd:=hcd.below hX2 hl9;replace hl9:=Nat.lt_of_lt_of_le hl9 (hX2).size;clear hcd hl9;refine gC rfl (.tmp 36) (.tmp 35) rfl g9 S hA9 d (by rw [hSl];omega) rfl ((yq S d)+(trq x.am)) rfl ?_;intro w5 hA9 hG;replace hbut:=hbut.trans (But.of_grown hG hmw (fun k h=>.inr (by injection h with h;exact h.symm)));replace hmw:=Nat.le_trans hmw hG.size;have hb:=aK hG hb hb.size (by omega);replace hB1:=aE hG hB1 (by omega);replace hA8:=aE hG hA8 (by omega);replace hD11:=aE hG hD11 (by omega);clear hG;refine wpList_nil ?_;obtain ⟨S2,hS2⟩:∃ S2,S2=S.set d ((yq S d)+(trq x.am)):=⟨_,rfl⟩;have HS2:=Lib.hid hS2
   have hSl2:S2.length=100:=by rw [hS2,List.length_set];exact hSl
   have HYQ:Hid (yq S2 e'=yq S e'):=by
    show _=_
    rw [hS2,vM (by rw [hSl];exact hd9),if_neg hde]
   rw [← hS2] at hA9;clear hS2;have hcd:=oX hA9 (k:=e') (by rw [hSl2];omega);have hl9:=hA9.lt;rw [HYQ.out] at hcd;have hcd:Cl w5 g9 (0+e' * 3) [.bool (rN (yq S e')),vS (rP (yq S e')),vS (rD (yq S e'))]:=hcd;have LB0:szR (yq S e') 900000:=hsze
   gi_upto_region 6 with fail
   refine eW [] (by kernel_rfl) (by kernel_rfl) (by kernel_rfl) (by kernel_rfl) (by rintro ⟨_,_,h9,_⟩;cases h9) rfl (aG) ?_;simp only [its,List.dropLast,Nat.zero_add,Nat.reduceAdd];refine jn (vP g 2) ?_;refine jf _ hD11 2 aB ?_;refine jn (vP g 2) ?_;refine jf _ hD11 2 aB ?_;refine jv (vP g9 (0+e' * 3)) (fT _ _ (by rfl) g9 e' (by omega) (by rfl) (by rfl) HE.out) ?_;refine jg (rt (rN (yq S e')) (rP (yq S e')) (rD (yq S e'))) (fun X hX hF=>bY 39 _ (by rfl) g9 (0+e' * 3) (by rfl) Tryd.underlying39 rfl [.bool (rN (yq S e')),vS (rP (yq S e')),vS (rD (yq S e'))] X (Cl.part (hcd.below hX hl9) 0 _ (by rfl)) aF) ?_;refine jn (vP g 3) ?_;refine jg (.agg #[.bool x.am.1,st x.am.2.1,st x.am.2.2]) (fun X hX hF=>aO 39 _ (by rfl) g 3 [.bool x.am.1,vS x.am.2.1,vS x.am.2.2] (by rfl) Tryd.underlying39 rfl X (hD11.bel hX) (by rfl) aF) ?_;refine jc (rt (rN ((yq S e')-(trq x.am))) (rP ((yq S e')-(trq x.am))) (rD ((yq S e')-(trq x.am)))) (fun X hX hF=>tU (rN (yq S e')) (rP (yq S e')) (rD (yq S e')) x.am.1 x.am.2.1 x.am.2.2 (cH (yq S e')) rfl X (tzR LB0 (by omega)) (hxs.mono (by omega))) ?_;refine jv (vP g9 (0+e' * 3)) (fT _ _ (by rfl) g9 e' (by omega) (by rfl) (by rfl) HE.out) ?_;refine jzb hb fun X3 hX3 hb=>?_;replace hA8:=hA8.bel hX3
   replace hA9:=hA9.bel hX3;replace hbut:=hbut.trans (But.of_since hX3 hmw);replace hmw:=Nat.le_trans hmw hX3.size;obtain ⟨hD11,hB1⟩:=bl2 hX3 hD11 hB1;have hcd:=hcd.below hX3 hl9;replace hl9:=Nat.lt_of_lt_of_le hl9 (hX3).size;clear hcd hl9;refine gC rfl (.tmp 46) (.tmp 45) rfl g9 S2 hA9 e' (by rw [hSl2];omega) rfl ((yq S e')-(trq x.am)) rfl ?_;intro w6 hA9 hG;replace hbut:=hbut.trans (But.of_grown hG hmw (fun k h=>.inr (by injection h with h;exact h.symm)));replace hmw:=Nat.le_trans hmw hG.size;have hb:=aK hG hb hb.size (by omega);replace hB1:=aE hG hB1 (by omega);replace hA8:=aE hG hA8 (by omega);replace hD11:=aE hG hD11 (by omega);clear hG;refine wpList_nil ?_
   have HSN:Hid (S2.set e' ((yq S e')-(trq x.am))=sS l f t kd (k+1)):=by
    show _=_
    rw [HS2.out,HS.out];exact xO HK.out HX.out hkl HMK.out HD.out HE.out
   gi_wp2
   exact ⟨trivial,hbut,⟨by rw [← HSN.out];exact hA9,hB1,hA8,hb⟩⟩
  ·have HMK:Hid (¬ (kd=0∨x.kd=kd)):=by
    show ¬ _
    rintro (h9|h9)
    ·exact hk0.1 h9
    ·exact hk0.2 h9
   have HSN:Hid (S=sS l f t kd (k+1)):=by
    show _=_
    rw [HS.out];exact (vQd (by rw [← HX.out];exact HMK.out)).symm
   gi_upto_region 4 with fail
   refine dP [] (by kernel_rfl) (by rintro ⟨_,_,h9,_⟩;cases h9) (aG) ?_;simp only [iX,Nat.reduceAdd];refine jf _ hB1 0 aB ?_;refine eH kd 0 (by omega) ?_;refine jm (.bool false) ?_;refine jn (vP g 6) ?_;refine jn (vP g 6) ?_;refine jf _ hD11 6 aB ?_;refine jf _ hB1 0 aB ?_;refine eH x.kd kd (by omega) ?_;refine jm (.bool false) ?_;refine jzb hb fun X1 hX1 hb=>?_;replace hA8:=hA8.bel hX1;replace hA9:=hA9.bel hX1;replace hbut:=hbut.trans (But.of_since hX1 hmw);replace hmw:=Nat.le_trans hmw hX1.size;obtain ⟨hD11,hB1⟩:=bl2 hX1 hD11 hB1;refine wpList_nil ?_
   gi_wp2
   exact ⟨trivial,hbut,⟨by rw [← HSN.out];exact hA9,hB1,hA8,hb⟩⟩
 case done =>
  intro D m W hD hm hi hKD;clear hA9 hA8 hB1 hb hC1 hC2 hC3;obtain ⟨hA9,hB1,hA8,hb⟩:=hi
  have hDg:w.heap.size+2<D:=by omega
  have hlE:(fl rc (sS l f t kd (nb l f t))).length=300:=by rw [oQ,pK]
  go_upto_region 7 with fail;refine jq 1 ?_;refine jg (.agg (fl rc (sS l f t kd (nb l f t))).toArray) (fun X hX hF=>uZ 89 _ (by rfl) g9 (by rfl) Tryd.underlying89 rfl X (hA9.bel hX) (by rw [hlE];exact qC)) ?_;refine jzb hb fun X1 hX1 hb=>?_;replace hA8:=hA8.bel hX1;replace hA9:=hA9.bel hX1;replace hKD:=(hX1.block D (Array.getElem?_eq_some_iff.1 hKD).1).trans hKD
  refine aN rfl 89 (.tmp 8) (.tmp 47) rfl (w.heap.size+2) 89 _ hA8 rfl (fl rc (sS l f t kd (nb l f t))) rfl (by rw [hlE,oQ];rfl) (by
   intro u hu
   unfold fl at hu
   obtain ⟨y,hy,hz⟩:=List.mem_flatten.1 hu;obtain ⟨t9,_,rfl⟩:=List.mem_map.1 hy;simp only [rc,trc,List.mem_cons,List.not_mem_nil,or_false] at hz
   rcases hz with rfl|rfl|rfl <;> rfl) (by rw [hlE];exact qC) ?_
  intro w9 hR9 hG9;have hb:=aK hG9 hb hb.size (by omega);replace hKD:w9.heap[D]?=some (.deferred (some [])):=(hG9.block D (Array.getElem?_eq_some_iff.1 hKD).1 (fun h9=>by injection h9 with h9;omega)).trans hKD
  go_wp2
  refine vZ hKD (uC rfl rfl Tryd.underlying89 rfl ((Kept.putObj (B:=0) hKD rfl (Nat.zero_le _)).blk hR9) (by rw [hlE];exact qC)) rfl ?_;exact ⟨by rw [vZh HK.out],(Kept.putObj (B:=w.heap.size) hKD rfl (by omega)).below hb (Nat.le_refl _)⟩
end Go.Proofs.YtjkfchehkpmhkaaDoor

/- period: Carried. -/
import Derived.Test.YtjkfchehkpmhkaaGreatDoorPf45
import Derived.Test.YtjkfchehkpmhkaaGreatDoorBg
import Derived.Test.YtjkfchehkpmhkaaGreatDoorAb
set_option linter.unusedSimpArgs false
set_option linter.unusedVariables false
set_option maxRecDepth 100000
set_option maxHeartbeats 1600000
namespace Go.Proofs.YtjkfchehkpmhkaaGreatDoor
open Go.RowKit
theorem qVm (b k:Nat) (X:World) (v:Value) (h:X.cell? ⟨b,k,none⟩=some v):(loadVar 97 ⟨b,k,none⟩).run Tryz.prog X=.ok v X:=by
 go_simp
theorem qQx {P:Program} {w:World} {ops:Array Oper} {rest:List Oper} {o:Oper} {a:Act} {Q:Exit→Act→World→Prop} (hgd:o.guard=none) (f:FuncId) (x:Operand) (xs:List Operand) (ts:Array TypeId) (lb:List Value) (ho:o.op=.call { callee:=.value x,args:=xs.toArray,argTypes:=ts }) (hx:a.eval x=.func (.func f) #[] lb.toArray) (args:List Value) (he:xs.map a.eval=args)
  (hf:∀ X:World,(callFunc f (args++lb).toArray).run P X=.ok (.enter f (args++lb).toArray) X) {S:World→Prop} (hc:Calls P f (args++lb).toArray w fun e w'=>∃ v,e=.returned v∧S w')
  (hK:∀ v w',S w'→wpList P ops Q rest (a.put o.dst v) w'):wpList P ops Q (o :: rest) a w:=by
 refine wpList_plain hgd fun K hK2=>?_
 have he2:xs.toArray.map a.eval=args.toArray:=by rw [List.map_toArray,he]
 unfold Oper.wp
 rw [vJ f x xs ts lb ho hx args he2 (hf w)];refine hc.mono fun e X ⟨v,h1,h2⟩=>?_;subst h1;exact hK2 _ _ (hK v X h2)
theorem kJ {P:Program} {fn:Func} {a:Act} {w:World} {s g t1 t2:Nat} {T t:TypeId} {cs:List Value} {d:TypeDesc} {v1 v2:Value} (hres:fn.results=#[.cell s T,.tmp t1,.tmp t2]) (hp:a.tmps.getD s undef=vP g 0) (h1:a.tmps.getD t1 undef=v1) (h2:a.tmps.getD t2 undef=v2) (hu:P.underlying T=some d)
  (hag:(match d with|.struct _|.array _ _=>true|_=>false)=true) (hB:Blk w g t cs) (hi:(P.info? T).map (·.size)=some cs.length):(results fn a.tmps).run P w=.ok (.tuple #[.agg cs.toArray,v1,v2]) w:=by
 have hld:=cP (P:=P) T d g 0 cs hB.cl hu hag hi
 have hp2:a.tmps[s]?.getD undef=vP g 0:=by rw [← Array.getD_eq_getD_getElem?];exact hp
 have hv1:a.tmps[t1]?.getD undef=v1:=by rw [← Array.getD_eq_getD_getElem?];exact h1
 have hv2:a.tmps[t2]?.getD undef=v2:=by rw [← Array.getD_eq_getD_getElem?];exact h2
 simp [results,hres,asAddr,hld,hp2,hv1,hv2]
theorem uM {P:Program} {a:Act} {w:World} {n:Nat} {fn:Func} {R:Ending→World→Prop} {v:Value} (hr:(results fn a.tmps).run P w=.ok v w) (hd:a.defers=[]) (hR:R (.returned v) w):bodyPostM Fence.wide n P fn R .ret a w:=by
 show LeavesInM _ _ _ _ _ _ a.defers .returning w
 rw [hd];exact ⟨v,hr,hR⟩
theorem ks_i1 (X:World) (q:Int) {f:Operand→Value} {o:Oper} {P:Program} (hr:(execOp f o).run P X=.ok (.value (.slice (some ⟨X.heap.size,0,none⟩) 1 1)) (X.alloc (.cells #[vI q] 3))):∃ v X',(execOp f o).run P X=.ok (.value v) X'∧Ks [q] v X'∧Since X X':=Ks.mk [q] 1 rfl (by decide) hr
structure CrI (w:World) (l:List En) (a f t:Int) (g12 g13 g14:Nat) (m k:Nat) (X:World):Prop where
 sum:Blk X g12 40 [.bool (rN (cS l a f t k)),vS (rP (cS l a f t k)),vS (rD (cS l a f t k))]
 plc:∃ A c,Blk X g13 61 [.slice A (plS l a f t k).length c]∧X.ownsRow m 3 1 (.slice A (plS l a f t k).length c) (plS l a f t k).length ((plS l a f t k).map I64)
 fn:Blk X g14 97 [.func (.func 49) #[] #[vP g12 0,vP g13 0]]
 fr:Blk X (w.heap.size+1) 3 [vI f]
 to':Blk X (w.heap.size+2) 3 [vI t]
 res:Blk X (w.heap.size+3) 40 [.bool false,.string ⟨#[]⟩,.string ⟨#[]⟩]
 bel:Below w.heap.size w X
theorem CrI.kept {w:World} {l:List En} {a f t:Int} {g12 g13 g14 m k B:Nat} {X Y:World} (h:CrI w l a f t g12 g13 g14 m k X) (hK:Kept B X Y) (hB:w.heap.size≤B):CrI w l a f t g12 g13 g14 m k Y:=by
 obtain ⟨h0,⟨A,c,h1,h2⟩,h3,h4,h5,h6,h7⟩:=h;exact ⟨hK.blk h0,⟨A,c,hK.blk h1,hK.owns h2⟩,hK.blk h3,hK.blk h4,hK.blk h5,hK.blk h6,hK.below h7 hB⟩
theorem vZd {c:Int} {l:List En} {cs:List Cg} {a f t:Int} (h0:peE c l cs=0) (h:eA c 0 a f=0) (ht:0≤t∧t≤14609):iZ c l cs a f t=0:=by
 unfold iZ
 rw [if_neg (fun h9=>h9 h0),if_neg (fun h9=>h9 h),if_neg (by omega)]
theorem vU {c:Int} {l:List En} {cs:List Cg} {a f t:Int} (h:iZ c l cs a f t≠0):gX c l cs a f t=0∧nU c l cs a f t=[]:=by
 unfold gX nU
 rw [if_neg h,if_neg h];exact ⟨rfl,rfl⟩
theorem vZc {c:Int} {l:List En} {cs:List Cg} {a f t:Int} (h:iZ c l cs a f t=0):gX c l cs a f t=vQf l a f t l.length∧nU c l cs a f t=qA l a f t l.length:=by
 unfold gX nU
 rw [if_pos h,if_pos h];exact ⟨rfl,rfl⟩
theorem vZg {x:En} {a f t:Int} (hm:mtc x a=true):kG x a f t=(decide (x.kd=3) && decide (f≤x.day) && decide (x.day≤t)):=by
 unfold kG
 unfold mtc at hm
 rw [hm,Bool.and_true]
theorem cr1C (x:En) (q:Nat) (e s:Rat) (kd:Bool) (gs gp m nn cc:Nat) (A:Option Addr) (ps:List Int) (w:World) (hS:Blk w gs 40 [.bool (rN s),vS (rP s),vS (rD s)]) (hP:Blk w gp 61 [.slice A nn cc]) (hOW:w.ownsRow m 3 1 (.slice A nn cc) nn (ps.map I64)) (hne:gs≠gp) (hgs:gs<m) (hgp:gp<m) (hmw:m≤w.heap.size) (hsS:szR s 900000) (hsE:szR e 1000) (hnn:nn≤5000):Calls Tryz.prog 49 #[.agg #[vI q,vI x.day,vI x.deb,vI x.cre,.bool x.am.1,vS x.am.2.1,vS x.am.2.2,vI x.kd,vI x.pd,vI x.rf,vI x.w1,vI x.w2,vI x.w3,vI x.w4,.bool (rN e),vS (rP e),vS (rD e),.bool kd],vP gs 0,vP gp 0] w fun e' w'=>∃ v,e'=.returned v∧∃ A' c',Blk w' gs 40 [.bool (rN (s+e)),vS (rP (s+e)),vS (rD (s+e))]∧Blk w' gp 61 [.slice A' (nn+1) c']∧w'.ownsRow m 3 1 (.slice A' (nn+1) c') (nn+1) (ps.map I64++[vI q])∧But m (fun k=>k=gs∨k=gp) w w':=by
 have hBT:But m (fun k=>k=gs∨k=gp) w w:=But.refl _ _ _;have hlS:=hS.lt;have hlP:=hP.lt;have hmw0:=hmw
 go_enter Tryz.func49,Tryz.ntmps49
 go_upto_region 1 with fail;obtain ⟨W0,hW0,hB0,hb⟩:=aT w 96 [vI q,vI x.day,vI x.deb,vI x.cre,.bool x.am.1,vS x.am.2.1,vS x.am.2.2,vI x.kd,vI x.pd,vI x.rf,vI x.w1,vI x.w2,vI x.w3,vI x.w4,.bool (rN e),vS (rP e),vS (rD e),.bool kd];rw [← hW0];clear hW0;replace hS:=hS.bel hb;replace hP:=hP.bel hb;replace hOW:=cH hOW hb;replace hBT:=hBT.trans (But.of_since hb hmw);replace hmw:=Nat.le_trans hmw hb.size;have LB0:szR s 900000:=hsS;have LB1:szR e 1000:=hsE;refine lY 3 [none,none,none,none,none,none,none,some (Ks [(q:Int)])] (by kernel_rfl) (by kernel_rfl) (by kernel_rfl) (aB (aB (aB (aB (aB (aB (aB (aD (Ks.lasts _) (aH))))))))) ?_;simp only [its,List.length_cons,List.length_nil,Nat.zero_add,Nat.reduceAdd,Nat.reduceSub,List.take_succ_cons,List.take_zero,List.drop_succ_cons,List.drop_zero];refine ja hS Tryz.underlying40 (by rfl) aC ?_;refine jn (vP w.heap.size 14) ?_;refine jg (rt (rN e) (rP e) (rD e)) (fun X hX hF=>aY 40 _ (by rfl) w.heap.size 14 [.bool (rN e),vS (rP e),vS (rD e)] (by rfl) Tryz.underlying40 rfl X (hB0.bel hX) (by rfl) aC) ?_;refine jc (rt (rN (s+e)) (rP (s+e)) (rD (s+e))) (fun X hX hF=>vZk (rN s) (rP s) (rD s) (rN e) (rP e) (rD e) (eM s) (eM e) X (tzR LB0 (by omega)) (tzR LB1 (by omega))) ?_
 refine jf _ hP 0 qP ?_;refine jnf hB0 0 aA ?_;refine cC (by rfl) (fun X hX hF=>ks_i1 X (q:Int) (by unfold execOp;go_simp)) ?_;intro v11;simp only [pX];refine aJ ?_;intro X1 hX1 hF;have hv11:=hF _ _ List.mem_cons_self;replace hOW:=cH hOW hX1;replace hBT:=hBT.trans (But.of_since hX1 hmw);replace hmw:=Nat.le_trans hmw hX1.size;replace hB0:=hB0.bel hX1;replace hS:=hS.bel hX1;replace hP:=hP.bel hX1;have hb:=aI hb hX1;clear hF hX1;obtain ⟨A9,n9,c9,rfl,hl9,_,hr9⟩:=hv11.at
 obtain rfl:n9=1:=by rw [← hl9];rfl
 have hr9:Rd _ 1 _ 1 [vI q]:=hr9;refine jA rfl (.tmp 8) (.tmp 11) 61 rfl m 3 _ 1 8 Tryz.underlying61 qVw rfl (by decide) _ nn _ rfl hOW _ 1 _ rfl hr9 (by intro u hu;simp only [List.mem_cons,List.not_mem_nil,or_false] at hu;rcases hu with rfl <;> rfl) (by omega) (by unfold maxLen;omega) hmw ?_;intro v12 w12 hown hg12 hb12;obtain ⟨A7,c7,rfl,_,_⟩:=(Rd.of_own hown).form;replace hBT:=hBT.trans (But.of_grown hg12 hmw (fun k h=>.inl (dG hOW k h).1));replace hmw:=Nat.le_trans hmw hg12.size;replace hS:=hS.below hb12 hgs;replace hP:=hP.below hb12 hgp;clear hOW hv11 hl9 hr9 hg12 hb12 hB0;refine bG rfl 40 (.tmp 1) (.tmp 7) rfl gs 40 _ hS rfl [.bool (rN (s+e)),vS (rP (s+e)),vS (rD (s+e))] rfl (by rfl) (al3 rfl rfl rfl) aC ?_;intro w9 hR9 hG9;replace hBT:=hBT.trans (But.of_grown hG9 hmw (fun k h=>.inr (.inl (by injection h with h;exact h.symm))));replace hmw:=Nat.le_trans hmw hG9.size;replace hP:=aE hG9 hP (fun h9=>hne h9.symm);have hOW:=eD hown hG9 (fun g h h9=>by have h8:=dG hown _ h9;injection h with h;omega);clear hS hown hG9;refine cB rfl gp 0 61 _ hP (.slice A7 (nn+1) c7) (by simp) (fun X u h1 h2=>qXd _ _ (by rfl) _ _ (by rfl) (by rfl) u X h1 h2) ?_;intro w8 hR8 hG8;replace hBT:=hBT.trans (But.of_grown hG8 hmw (fun k h=>.inr (.inr (by injection h with h;exact h.symm))));have hS:=aE hG8 hR9 hne;have hOW2:=eD hOW hG8 (fun g h h9=>by have h8:=dG hOW _ h9;injection h with h;omega)
 refine wpList_nil ?_
 go_wp2
 go_end0
 exact ⟨⟨_,rfl⟩,hS,A7,c7,hR8,hOW2,hBT⟩
theorem car0 (B:Nat) (c:Int) (v z:Value) (l:List En) (cs:List Cg) (a f t:Int) (w:World) (hv:Es l v w) (hz:Cs B cs z w) (hs1:Hid (Sz45 l)) (h0:peE c l cs≠0):Calls Tryz.prog 18 #[.agg #[vI c,v,z],vI a,vI f,vI t] w fun e w'=>∃ u,e=.returned (.tuple #[.agg #[.bool (rN (gX c l cs a f t)),vS (rP (gX c l cs a f t)),vS (rD (gX c l cs a f t))],u,vI (iZ c l cs a f t)])∧Ks (nU c l cs a f t) u w'∧Since w w':=by
 have hs:Hid (∀ k,tz (en l k).am.2.1 (en l k).am.2.2 1000000):=fun k=>(hs1.out.1 k).mono (by decide)
 obtain ⟨z0,z9⟩:∃ z,peE c l cs=z:=⟨_,rfl⟩;have HZ:=Lib.hid z9
 have hz0:z0≠0:=by rw [← z9];exact h0
 clear z9 h0
 have HE:Hid (iZ c l cs a f t=z0):=by
  show _=_
  unfold iZ
  rw [HZ.out,if_pos hz0]
 obtain ⟨A,n,cp,A2,m,cp2,rfl,rfl,hln,hn1,hlm,hm1,HRX,HLN,HES,HCS,HRC,HLM⟩:=eU hv hz;clear hv hz;refine fY Tryz.func18 rfl ?_;simp only [Tryz.ntmps18,List.size_toArray,List.length_cons,List.length_nil,Nat.reduceAdd,Nat.reduceSub,Array.replicate_succ,Array.replicate_zero,List.push_toArray,List.append_toArray,List.nil_append,List.cons_append];go_upto_region 1 with fail;obtain ⟨W0,hW0,hB0,hB1,hB2,hB3,hb⟩:=oL w 27 3 3 40 [vI c,.slice A n cp,.slice A2 m cp2] [vI f] [vI t] [.bool false,.string ⟨#[]⟩,.string ⟨#[]⟩];rw [← hW0];clear hW0;refine jp ?_;refine ja hB0 Tryz.underlying27 (by rfl) aK ?_;refine jc (vI z0) (fun X hX hF=>mo (sZ B c _ _ l cs X (HES.out X (Since.next hb hX)) (HCS.out X (Since.next hb hX)) hs) (by rw [HZ.out])) ?_;refine jm (vI z0) ?_;refine cM hb hB0 hB1 hB2 hB3 fun X1 hX1 hb hB0 hB1 hB2 hB3=>?_;go_upto_region 2 with fail;refine jp ?_;refine jm (vI z0) ?_;refine jv (.bool true) (bA _ _ _ _ (by rfl) .i64 z0 0 (by rfl) (by rfl) true (by rw [decide_eq_false (by omega)];rfl)) ?_;refine cM hb hB0 hB1 hB2 hB3 fun X2 hX2 hb hB0 hB1 hB2 hB3=>?_;obtain ⟨q1,q2⟩:=vU (c:=c) (l:=l) (cs:=cs) (a:=a) (f:=f) (t:=t) (by rw [HE.out];exact hz0);have HQ1:=Lib.hid q1;have HQ2:=Lib.hid q2;clear q1 q2;go_upto_region 3 with fail;refine jq 2 ?_;refine jn (rz) ?_;refine jm (vI z0) ?_;refine cM hb hB0 hB1 hB2 hB3 fun X3 hX3 hb hB0 hB1 hB2 hB3=>?_
 refine bG rfl 40 (.tmp 8) (.tmp 20) rfl (w.heap.size+3) 40 _ hB3 rfl [.bool false,.string ⟨#[]⟩,.string ⟨#[]⟩] rfl (by rfl) (al3 rfl rfl rfl) aC ?_;intro w9 hR9 hG9;have hb:=aV hG9 hb hb.size (by omega)
 go_wp2
 refine uM (kJ (v1:=.slice none 0 0) (v2:=vI z0) rfl rfl (by rfl) (by rfl) Tryz.underlying40 rfl hR9 aC) rfl ?_;exact ⟨_,by rw [HE.out,HQ1.out];rfl,by rw [HQ2.out];exact vA _,hb⟩
theorem car1 (B:Nat) (c:Int) (v z:Value) (l:List En) (cs:List Cg) (a f t:Int) (w:World) (hv:Es l v w) (hz:Cs B cs z w) (hs1:Hid (Sz45 l)) (HC:Hid (peE c l cs=0)) (h0:eA c 0 a f≠0):Calls Tryz.prog 18 #[.agg #[vI c,v,z],vI a,vI f,vI t] w fun e w'=>∃ u,e=.returned (.tuple #[.agg #[.bool (rN (gX c l cs a f t)),vS (rP (gX c l cs a f t)),vS (rD (gX c l cs a f t))],u,vI (iZ c l cs a f t)])∧Ks (nU c l cs a f t) u w'∧Since w w':=by
 have hs:Hid (∀ k,tz (en l k).am.2.1 (en l k).am.2.2 1000000):=fun k=>(hs1.out.1 k).mono (by decide)
 obtain ⟨k0,k9⟩:∃ z,eA c 0 a f=z:=⟨_,rfl⟩;have HA:=Lib.hid k9
 have hk0:k0≠0:=by rw [← k9];exact h0
 clear k9 h0
 have HE:Hid (iZ c l cs a f t=3):=by
  show _=_
  unfold iZ
  rw [HC.out,if_neg (by decide),HA.out,if_pos hk0]
 obtain ⟨A,n,cp,A2,m,cp2,rfl,rfl,hln,hn1,hlm,hm1,HRX,HLN,HES,HCS,HRC,HLM⟩:=eU hv hz;clear hv hz;refine fY Tryz.func18 rfl ?_;simp only [Tryz.ntmps18,List.size_toArray,List.length_cons,List.length_nil,Nat.reduceAdd,Nat.reduceSub,Array.replicate_succ,Array.replicate_zero,List.push_toArray,List.append_toArray,List.nil_append,List.cons_append];go_upto_region 1 with fail;obtain ⟨W0,hW0,hB0,hB1,hB2,hB3,hb⟩:=oL w 27 3 3 40 [vI c,.slice A n cp,.slice A2 m cp2] [vI f] [vI t] [.bool false,.string ⟨#[]⟩,.string ⟨#[]⟩];rw [← hW0];clear hW0;refine jp ?_;refine ja hB0 Tryz.underlying27 (by rfl) aK ?_;refine jc (vI 0) (fun X hX hF=>mo (sZ B c _ _ l cs X (HES.out X (Since.next hb hX)) (HCS.out X (Since.next hb hX)) hs) (by rw [HC.out])) ?_;refine jm (vI 0) ?_;refine cM hb hB0 hB1 hB2 hB3 fun X1 hX1 hb hB0 hB1 hB2 hB3=>?_;go_upto_region 2 with fail;refine jp ?_;refine jm (vI 0) ?_;refine jv (.bool false) (bA _ _ _ _ (by rfl) .i64 0 0 (by rfl) (by rfl) false (by rw [decide_eq_true (by omega)];rfl)) ?_;refine cM hb hB0 hB1 hB2 hB3 fun X2 hX2 hb hB0 hB1 hB2 hB3=>?_;go_upto_region 4 with fail;refine jp ?_;refine ja hB0 Tryz.underlying27 (by rfl) aK ?_;refine jm (vI a) ?_;refine jf _ hB1 0 aA ?_;refine jc (vI k0) (fun X hX hF=>mo (qYa c _ _ 0 a f X) (by rw [HA.out])) ?_;refine jv (.bool true) (bA _ _ _ _ (by rfl) .i64 k0 0 (by rfl) (by rfl) true (by rw [decide_eq_false (by omega)];rfl)) ?_
 refine jm (.bool true) ?_;refine jss ?_;refine js ?_;refine jm (.bool true) ?_;refine cM hb hB0 hB1 hB2 hB3 fun X3 hX3 hb hB0 hB1 hB2 hB3=>?_;obtain ⟨q1,q2⟩:=vU (c:=c) (l:=l) (cs:=cs) (a:=a) (f:=f) (t:=t) (by rw [HE.out];decide);have HQ1:=Lib.hid q1;have HQ2:=Lib.hid q2;clear q1 q2;go_upto_region 5 with fail;refine jq 1 ?_;refine jn (rz) ?_;refine cM hb hB0 hB1 hB2 hB3 fun X4 hX4 hb hB0 hB1 hB2 hB3=>?_;refine bG rfl 40 (.tmp 8) (.tmp 32) rfl (w.heap.size+3) 40 _ hB3 rfl [.bool false,.string ⟨#[]⟩,.string ⟨#[]⟩] rfl (by rfl) (al3 rfl rfl rfl) aC ?_;intro w9 hR9 hG9;have hb:=aV hG9 hb hb.size (by omega)
 go_wp2
 refine uM (kJ (v1:=.slice none 0 0) (v2:=vI 3) rfl rfl (by rfl) (by rfl) Tryz.underlying40 rfl hR9 aC) rfl ?_;exact ⟨_,by rw [HE.out,HQ1.out];rfl,by rw [HQ2.out];exact vA _,hb⟩
theorem car2 (B:Nat) (c:Int) (v z:Value) (l:List En) (cs:List Cg) (a f t:Int) (w:World) (hv:Es l v w) (hz:Cs B cs z w) (hs1:Hid (Sz45 l)) (HC:Hid (peE c l cs=0)) (HA:Hid (eA c 0 a f=0)) (ht:t<0∨14609<t):Calls Tryz.prog 18 #[.agg #[vI c,v,z],vI a,vI f,vI t] w fun e w'=>∃ u,e=.returned (.tuple #[.agg #[.bool (rN (gX c l cs a f t)),vS (rP (gX c l cs a f t)),vS (rD (gX c l cs a f t))],u,vI (iZ c l cs a f t)])∧Ks (nU c l cs a f t) u w'∧Since w w':=by
 have hs:Hid (∀ k,tz (en l k).am.2.1 (en l k).am.2.2 1000000):=fun k=>(hs1.out.1 k).mono (by decide)
 have HD:Hid ((decide (0≤t) && decide (t≤14609))=false):=by
  show _=_
  rcases ht with h9|h9
  ·rw [decide_eq_false (show ¬ 0≤t by omega)];rfl
  ·rw [decide_eq_false (show ¬ t≤14609 by omega),Bool.and_false]
 have HE:Hid (iZ c l cs a f t=3):=by
  show _=_
  unfold iZ
  rw [HC.out,if_neg (by decide),HA.out,if_neg (by decide),if_pos ht]
 obtain ⟨A,n,cp,A2,m,cp2,rfl,rfl,hln,hn1,hlm,hm1,HRX,HLN,HES,HCS,HRC,HLM⟩:=eU hv hz;clear hv hz;refine fY Tryz.func18 rfl ?_;simp only [Tryz.ntmps18,List.size_toArray,List.length_cons,List.length_nil,Nat.reduceAdd,Nat.reduceSub,Array.replicate_succ,Array.replicate_zero,List.push_toArray,List.append_toArray,List.nil_append,List.cons_append];go_upto_region 1 with fail;obtain ⟨W0,hW0,hB0,hB1,hB2,hB3,hb⟩:=oL w 27 3 3 40 [vI c,.slice A n cp,.slice A2 m cp2] [vI f] [vI t] [.bool false,.string ⟨#[]⟩,.string ⟨#[]⟩];rw [← hW0];clear hW0;refine jp ?_;refine ja hB0 Tryz.underlying27 (by rfl) aK ?_;refine jc (vI 0) (fun X hX hF=>mo (sZ B c _ _ l cs X (HES.out X (Since.next hb hX)) (HCS.out X (Since.next hb hX)) hs) (by rw [HC.out])) ?_;refine jm (vI 0) ?_;refine cM hb hB0 hB1 hB2 hB3 fun X1 hX1 hb hB0 hB1 hB2 hB3=>?_;go_upto_region 2 with fail;refine jp ?_;refine jm (vI 0) ?_;refine jv (.bool false) (bA _ _ _ _ (by rfl) .i64 0 0 (by rfl) (by rfl) false (by rw [decide_eq_true (by omega)];rfl)) ?_;refine cM hb hB0 hB1 hB2 hB3 fun X2 hX2 hb hB0 hB1 hB2 hB3=>?_;go_upto_region 4 with fail;refine jp ?_;refine ja hB0 Tryz.underlying27 (by rfl) aK ?_;refine jm (vI a) ?_;refine jf _ hB1 0 aA ?_;refine jc (vI 0) (fun X hX hF=>mo (qYa c _ _ 0 a f X) (by rw [HA.out])) ?_;refine jv (.bool false) (bA _ _ _ _ (by rfl) .i64 0 0 (by rfl) (by rfl) false (by rw [decide_eq_true (by omega)];rfl)) ?_
 refine jm (.bool false) ?_;refine jf _ hB2 0 aA ?_;refine jc (.bool false) (fun X hX hF=>mo (yJ t X) (by rw [HD.out])) ?_;refine jmm (.bool true) (.bool true) ?_;refine cM hb hB0 hB1 hB2 hB3 fun X3 hX3 hb hB0 hB1 hB2 hB3=>?_;obtain ⟨q1,q2⟩:=vU (c:=c) (l:=l) (cs:=cs) (a:=a) (f:=f) (t:=t) (by rw [HE.out];decide);have HQ1:=Lib.hid q1;have HQ2:=Lib.hid q2;clear q1 q2;go_upto_region 5 with fail;refine jq 1 ?_;refine jn (rz) ?_;refine cM hb hB0 hB1 hB2 hB3 fun X4 hX4 hb hB0 hB1 hB2 hB3=>?_;refine bG rfl 40 (.tmp 8) (.tmp 32) rfl (w.heap.size+3) 40 _ hB3 rfl [.bool false,.string ⟨#[]⟩,.string ⟨#[]⟩] rfl (by rfl) (al3 rfl rfl rfl) aC ?_;intro w9 hR9 hG9;have hb:=aV hG9 hb hb.size (by omega)
 go_wp2
 refine uM (kJ (v1:=.slice none 0 0) (v2:=vI 3) rfl rfl (by rfl) (by rfl) Tryz.underlying40 rfl hR9 aC) rfl ?_;exact ⟨_,by rw [HE.out,HQ1.out];rfl,by rw [HQ2.out];exact vA _,hb⟩
set_option maxHeartbeats 8000000 in
theorem car3 (B:Nat) (c:Int) (v z:Value) (l:List En) (cs:List Cg) (a f t:Int) (w:World) (hv:Es l v w) (hz:Cs B cs z w) (hs1:Hid (Sz45 l)) (HC:Hid (peE c l cs=0)) (HA:Hid (eA c 0 a f=0)) (ht:0≤t∧t≤14609):Calls Tryz.prog 18 #[.agg #[vI c,v,z],vI a,vI f,vI t] w fun e w'=>∃ u,e=.returned (.tuple #[.agg #[.bool (rN (gX c l cs a f t)),vS (rP (gX c l cs a f t)),vS (rD (gX c l cs a f t))],u,vI (iZ c l cs a f t)])∧Ks (nU c l cs a f t) u w'∧Since w w':=by
 have hs:Hid (∀ k,tz (en l k).am.2.1 (en l k).am.2.2 1000000):=fun k=>(hs1.out.1 k).mono (by decide)
 have HD:Hid ((decide (0≤t) && decide (t≤14609))=true):=by
  show _=_
  rw [decide_eq_true ht.1,decide_eq_true ht.2];rfl
 have HE:=Lib.hid (vZd HC.out HA.out ht);obtain ⟨q1,q2⟩:=vZc HE.out;have HQ1:=Lib.hid q1;have HQ2:=Lib.hid q2;clear q1 q2;have HK:Hid (Ok44 c l):=(peE_ok.1 HC.out).ac;obtain ⟨A,n,cp,A2,m,cp2,rfl,rfl,hln,hn1,hlm,hm1,HRX,HLN,HES,HCS,HRC,HLM⟩:=eU hv hz;clear hv hz;refine fY Tryz.func18 rfl ?_;simp only [Tryz.ntmps18,List.size_toArray,List.length_cons,List.length_nil,Nat.reduceAdd,Nat.reduceSub,Array.replicate_succ,Array.replicate_zero,List.push_toArray,List.append_toArray,List.nil_append,List.cons_append];go_upto_region 1 with fail;obtain ⟨W0,hW0,hB0,hB1,hB2,hB3,hb⟩:=oL w 27 3 3 40 [vI c,.slice A n cp,.slice A2 m cp2] [vI f] [vI t] [.bool false,.string ⟨#[]⟩,.string ⟨#[]⟩];rw [← hW0];clear hW0;refine jp ?_;refine ja hB0 Tryz.underlying27 (by rfl) aK ?_;refine jc (vI 0) (fun X hX hF=>mo (sZ B c _ _ l cs X (HES.out X (Since.next hb hX)) (HCS.out X (Since.next hb hX)) hs) (by rw [HC.out])) ?_;refine jm (vI 0) ?_;refine cM hb hB0 hB1 hB2 hB3 fun X1 hX1 hb hB0 hB1 hB2 hB3=>?_;go_upto_region 2 with fail;refine jp ?_;refine jm (vI 0) ?_;refine jv (.bool false) (bA _ _ _ _ (by rfl) .i64 0 0 (by rfl) (by rfl) false (by rw [decide_eq_true (by omega)];rfl)) ?_;refine cM hb hB0 hB1 hB2 hB3 fun X2 hX2 hb hB0 hB1 hB2 hB3=>?_;go_upto_region 4 with fail;refine jp ?_;refine ja hB0 Tryz.underlying27 (by rfl) aK ?_;refine jm (vI a) ?_;refine jf _ hB1 0 aA ?_
 refine jc (vI 0) (fun X hX hF=>mo (qYa c _ _ 0 a f X) (by rw [HA.out])) ?_;refine jv (.bool false) (bA _ _ _ _ (by rfl) .i64 0 0 (by rfl) (by rfl) false (by rw [decide_eq_true (by omega)];rfl)) ?_;refine jm (.bool false) ?_;refine jf _ hB2 0 aA ?_;refine jc (.bool true) (fun X hX hF=>mo (yJ t X) (by rw [HD.out])) ?_;refine jmm (.bool false) (.bool false) ?_;refine cM hb hB0 hB1 hB2 hB3 fun X3 hX3 hb hB0 hB1 hB2 hB3=>?_;go_upto_region 7 with fail;obtain ⟨Y3,hY9,hD12,hS9⟩:=aT X3 40 [.bool false,.string ⟨#[]⟩,.string ⟨#[]⟩];rw [← hY9];clear hY9;have hgs12:=hb.size;have hlt12x0:=hB0.lt;have hlt12x1:=hB1.lt;have hlt12x2:=hB2.lt;have hlt12x3:=hB3.lt;obtain ⟨hB0,hB1,hB2,hB3⟩:=bl4 hS9 hB0 hB1 hB2 hB3;have hb:=aI hb hS9;clear hS9;generalize X3.heap.size=g12 at *;go_upto_region 8 with fail;obtain ⟨Y4,hY9,hD13,hS9⟩:=aT Y3 61 [.slice none 0 0];rw [← hY9];clear hY9;have hgs13:=hb.size;have hlt13x0:=hB0.lt;have hlt13x1:=hB1.lt;have hlt13x2:=hB2.lt;have hlt13x3:=hB3.lt;have hlt13x4:=hD12.lt;obtain ⟨hB0,hB1,hB2,hB3,hD12⟩:=bl5 hS9 hB0 hB1 hB2 hB3 hD12;have hb:=aI hb hS9;clear hS9;generalize Y3.heap.size=g13 at *;refine jq 1 ?_;refine jv (.func (.func 49) #[] #[vP g12 0,vP g13 0]) (qT 49 [.tmp 12,.tmp 13] [vP g12 0,vP g13 0] (by rfl) (by rfl)) ?_;refine jzb6 hb hB0 hB1 hB2 hB3 hD12 hD13 fun X5 hX5 hb hB0 hB1 hB2 hB3 hD12 hD13=>?_
 refine qZg rfl rfl 97 (.nilFunc) (.func (.func 49) #[] #[vP g12 0,vP g13 0]) (fun X=>by unfold execOp;go_simp) (fun X g u h1 h2=>by unfold execOp;go_simp) ?_;intro g14 Y14 hg14 hD14 hS9;have hgs14:=hb.size;have hlt14a:=hD12.lt;have hlt14b:=hD13.lt;rw [← hg14] at hgs14 hlt14a hlt14b;obtain ⟨hB0,hB1,hB2,hB3,hD12,hD13⟩:=bl6 hS9 hB0 hB1 hB2 hB3 hD12 hD13;have hb:=aI hb hS9;clear hS9 hg14;refine wpList_nil ?_;go_upto_region 9 with fail;refine bU [none,none,some (Iti c (.slice A n cp) (.slice A2 m cp2) a (g14+1))] (aB (aB (aD (Iti.lasts _ _ _ _ _) (aH)))) ?_;simp only [iX,Nat.reduceAdd];refine ja hB0 Tryz.underlying27 (by rfl) aK ?_;refine jm (vI a) ?_;refine jk (fun X hX hF=>(itsC c a _ _ n cp m cp2 X).mono fun e X' ⟨vf,h1,⟨q1,q2,h4,h5,h6,h7⟩,h3⟩=>⟨vf,h1,⟨q1,q2,h4,by have:=(hD14.bel hX).lt;omega,by have:=(hD14.bel hX).lt;omega,h7⟩,h3⟩) ?_;intro v36;refine aJ ?_;intro X6 hX6 hF;have hv36:=hF _ _ List.mem_cons_self;obtain ⟨hB0,hB1,hB2,hB3,hD12,hD13⟩:=bl6 hX6 hB0 hB1 hB2 hB3 hD12 hD13;replace hD14:=hD14.bel hX6;have hb:=aI hb hX6;clear hF hX6;obtain ⟨g1,g2,rfl,hg1,hg2,hC1,hC2⟩:=hv36;have hL12:=hD12.lt;have hL13:=hD13.lt;have hL14:=hD14.lt;clear hB0
 go_wp2
 refine qG (gf:=79) (lb:=#[vP g1 0,vP g2 0]) (T:=fun k=>k=g12∨k=g13) ?F (fun k g X=>X6.heap.size+2≤g∧Blk X g 96 (imc a (ix l a k) (en l (ix l a k)))) rfl (qW Tryz.func79 (by kernel_rfl) rfl) ?hT (itIt B c _ _ n cp m cp2 l cs a _ X6 g1 g2 HLN.out HLM.out hn1 (HRX.out _ hb) (HCS.out _ hb) HK hs hC1 hC2 ?hT ?hT1 ?hT2 ?hTb ?hTc) (fun _=>rfl) (fun m k X=>CrI w l a f t g12 g13 g14 m k X) ?hI ?h0 ?hBx ?assign ?body ?done
 case hT =>
  rintro k (rfl|rfl)
  ·exact hL12
  ·exact hL13
 case hT1=>rintro (h9|h9) <;> omega
 case hT2=>rintro (h9|h9) <;> omega
 case hTb =>
  intro h0 b off hA h9;subst hA;have h8:=Rd.blkb (HRX.out w (Below.refl _ _)) h0
  rcases h9 with h9|h9 <;> omega
 case hTc =>
  intro h0 b off hA h9;have h8:=(HRC.out w (Below.refl _ _));rw [hA] at h8;have h7:=Rd.blkb h8 h0
  rcases h9 with h9|h9 <;> omega
 case hI=>exact fun m k X Y h hK=>h.kept hK (Nat.le_trans (by omega) hL12)
 case h0=>exact fun m _=>⟨hD12,⟨none,0,hD13,⟨rfl,.inl ⟨rfl,rfl⟩⟩⟩,hD14,hB1,hB2,hB3,hb⟩
 case hBx=>exact fun k g X Y h hK=>⟨h.1,hK.blk h.2⟩
 case assign =>
  intro l9 k W K hWs hk hK;have hb:Below W.heap.size W W:=Below.refl _ _;simp only [List.zip_toArray,List.zip_cons_cons,List.zip_nil_left,List.zip_nil_right,List.foldl_toArray,List.foldl_cons,List.foldl_nil,pA,pS,pZ]
  gi_upto_region 10 with fail
  refine fA 0 [] (by kernel_rfl) (by rintro ⟨_,_,h9⟩;exact h9) (aH) ?_;simp only [its,List.take,List.drop,Nat.zero_add,Nat.reduceAdd];refine jzb hb fun X1 hX1 hb=>?_;refine wO rfl rfl 96 [vI 0,vI 0,vI 0,vI 0,.bool false,.string ⟨#[]⟩,.string ⟨#[]⟩,vI 0,vI 0,vI 0,vI 0,vI 0,vI 0,vI 0,.bool false,.string ⟨#[]⟩,.string ⟨#[]⟩,.bool false] (imc a (ix l a k) (en l (ix l a k))) (.tmp 15) (.tmp 37) rfl (fun X=>by unfold execOp;go_simp) (fun g=>by rfl) (fun g=>by rfl) rfl (xC _ _ _) jD ?_;intro g W1 hg1 hB1 hS1;refine wpList_nil ?_;have hW1:=hb.size;exact hK g W1 (Since.next hb hS1) ⟨by omega,hB1⟩
 case body =>
  intro l9 m9 k g W hm hmw hk hi hbx;clear hD12 hD13 hD14 hB1 hB2 hB3 hb hC1 hC2;obtain ⟨hD12,⟨A6,c6,hD13,hOW⟩,hD14,hB1,hB2,hB3,hb⟩:=hi;obtain ⟨hgm,hD15⟩:=hbx;obtain ⟨hqk,hqm⟩:=ix_in hk;obtain ⟨q,hq⟩:∃ q,q=ix l a k:=⟨_,rfl⟩;obtain ⟨x,x9⟩:∃ x,x=(en l (ix l a k)):=⟨_,rfl⟩;rw [← hq] at hD15 x9 hqm hqk;have hkl:=wZ l a;have hlen:=hs1.out.ln HK.out.len
  have hxs:tz x.am.2.1 x.am.2.2 420:=by rw [x9];exact hs1.out.1 _
  have HX:=Lib.hid x9;rw [← x9] at hD15 hqm
  have HSS:Hid (cS l a f t (k+1)=cS l a f t k+if kG x a f t=true then ent x a else 0):=by
   show _=_
   rw [vQh,x9,hq]
  have HPP:Hid (plS l a f t (k+1)=if kG x a f t=true then plS l a f t k++[(q:Int)] else plS l a f t k):=by
   show _=_
   rw [oU,x9,hq]
  have HCB:=Lib.hid (vZg (x:=x) (a:=a) (f:=f) (t:=t) hqm);clear x9 hq hqm;have hsS:szR (cS l a f t k) 900000:=(cS_sz (by decide) hs1.out.1 a f t k).mono (by omega);have hsE:szR (ent x a) 1000:=(kB (by decide) hxs a).mono (by omega);have hPk:=wN l a f t k;obtain ⟨S0,hS0⟩:∃ z,cS l a f t k=z:=⟨_,rfl⟩;obtain ⟨P0,hP0⟩:∃ z,plS l a f t k=z:=⟨_,rfl⟩;obtain ⟨E0,hE0⟩:∃ z,ent x a=z:=⟨_,rfl⟩;have HS0:=Lib.hid hS0;have HP0:=Lib.hid hP0;have HE0:=Lib.hid hE0;rw [hS0] at hD12 hsS;rw [hP0] at hD13 hOW hPk;rw [hE0] at hsE;clear hS0 hP0;obtain ⟨nn,hnn⟩:∃ n,P0.length=n:=⟨_,rfl⟩;have HNN:=Lib.hid hnn;rw [hnn] at hD13 hOW hPk;clear hnn;obtain ⟨kd,hkd⟩:∃ kd,decide (x.kd=3)=kd:=⟨_,rfl⟩;have HKD:=Lib.hid hkd;have hbut:But m9 (fun k=>k=g12∨k=g13) W W:=But.refl _ _ _;have hD15:Blk W g 96 [vI q,vI x.day,vI x.deb,vI x.cre,.bool x.am.1,vS x.am.2.1,vS x.am.2.2,vI x.kd,vI x.pd,vI x.rf,vI x.w1,vI x.w2,vI x.w3,vI x.w4,.bool (rN (ent x a)),vS (rP (ent x a)),vS (rD (ent x a)),.bool (decide (x.kd=3))]:=hD15;rw [hkd,hE0] at hD15;clear hkd hE0
  rcases kd with _|_
  ·skip
   have HCF:Hid (kG x a f t=false):=by
    show _=_
    rw [HCB.out,HKD.out];rw [Bool.false_and,Bool.false_and]
   have HSN:Hid (cS l a f t (k+1)=S0):=by
    show _=_
    rw [HSS.out,HCF.out,if_neg (by decide),HS0.out,Rat.add_zero]
   have HPN:Hid (plS l a f t (k+1)=P0):=by
    show _=_
    rw [HPP.out,HCF.out,if_neg (by decide),HP0.out]
   gi_upto_region 11 with fail
   refine eW [] (by kernel_rfl) (by rintro ⟨_,_,h9,_⟩;cases h9) (aH) ?_;simp only [iX,Nat.reduceAdd];refine jnf hD15 17 aS ?_;refine jm (.bool false) ?_;refine bR ?_;refine js ?_;refine jmm (.bool false) (.bool false) ?_;refine bR ?_;refine js ?_;refine jm (.bool false) ?_;refine bE hb hD12 hD13 hB3 fun X1 hX1 hb hD12 hD13 hB3=>?_;replace hOW:=cH hOW hX1;replace hbut:=hbut.trans (But.of_since hX1 hmw);replace hmw:=Nat.le_trans hmw hX1.size;obtain ⟨hD15,hB1,hB2,hD14⟩:=bl4 hX1 hD15 hB1 hB2 hD14;refine wpList_nil ?_
   gi_wp2
   rw [← HNN.out] at hD13 hOW;exact ⟨trivial,hbut,⟨by rw [HSN.out];exact hD12,⟨A6,c6,by rw [HPN.out];exact hD13,by rw [HPN.out];exact hOW⟩,hD14,hB1,hB2,hB3,hb⟩⟩
  ·skip
   rcases (show x.day<f∨(f≤x.day∧t<x.day)∨(f≤x.day∧x.day≤t) by omega) with hh|hh|hh
   ·have HCF:Hid (kG x a f t=false):=by
     show _=_
     rw [HCB.out,HKD.out];rw [decide_eq_false (show ¬ f≤x.day by omega),Bool.and_false,Bool.false_and]
    have HSN:Hid (cS l a f t (k+1)=S0):=by
     show _=_
     rw [HSS.out,HCF.out,if_neg (by decide),HS0.out,Rat.add_zero]
    have HPN:Hid (plS l a f t (k+1)=P0):=by
     show _=_
     rw [HPP.out,HCF.out,if_neg (by decide),HP0.out]
    gi_upto_region 11 with fail
    refine eW [] (by kernel_rfl) (by rintro ⟨_,_,h9,_⟩;cases h9) (aH) ?_;simp only [iX,Nat.reduceAdd];refine jnf hD15 17 aS ?_;refine jmn (.bool true) (vP g 1) ?_;refine jnf hD15 1 aA ?_;refine jf _ hB1 0 aA ?_;refine fW x.day f (by omega) ?_;refine jmm (.bool false) (.bool false) ?_;refine bR ?_;refine js ?_;refine jm (.bool false) ?_;refine bE hb hD12 hD13 hB3 fun X1 hX1 hb hD12 hD13 hB3=>?_;replace hOW:=cH hOW hX1;replace hbut:=hbut.trans (But.of_since hX1 hmw);replace hmw:=Nat.le_trans hmw hX1.size;obtain ⟨hD15,hB1,hB2,hD14⟩:=bl4 hX1 hD15 hB1 hB2 hD14;refine wpList_nil ?_
    gi_wp2
    rw [← HNN.out] at hD13 hOW;exact ⟨trivial,hbut,⟨by rw [HSN.out];exact hD12,⟨A6,c6,by rw [HPN.out];exact hD13,by rw [HPN.out];exact hOW⟩,hD14,hB1,hB2,hB3,hb⟩⟩
   ·have HCF:Hid (kG x a f t=false):=by
     show _=_
     rw [HCB.out,HKD.out];rw [decide_eq_false (show ¬ x.day≤t by omega),Bool.and_false]
    have HSN:Hid (cS l a f t (k+1)=S0):=by
     show _=_
     rw [HSS.out,HCF.out,if_neg (by decide),HS0.out,Rat.add_zero]
    have HPN:Hid (plS l a f t (k+1)=P0):=by
     show _=_
     rw [HPP.out,HCF.out,if_neg (by decide),HP0.out]
    gi_upto_region 11 with fail
    refine eW [] (by kernel_rfl) (by rintro ⟨_,_,h9,_⟩;cases h9) (aH) ?_;simp only [iX,Nat.reduceAdd];refine jnf hD15 17 aS ?_;refine jmn (.bool true) (vP g 1) ?_;refine jnf hD15 1 aA ?_;refine jf _ hB1 0 aA ?_;refine iS x.day f (by omega) ?_;refine eE (.bool true) (.bool true) (vP g 1) ?_;refine jnf hD15 1 aA ?_;refine jf _ hB2 0 aA ?_;refine jW x.day t (by omega) ?_;refine jm (.bool false) ?_;refine bE hb hD12 hD13 hB3 fun X1 hX1 hb hD12 hD13 hB3=>?_;replace hOW:=cH hOW hX1;replace hbut:=hbut.trans (But.of_since hX1 hmw);replace hmw:=Nat.le_trans hmw hX1.size;obtain ⟨hD15,hB1,hB2,hD14⟩:=bl4 hX1 hD15 hB1 hB2 hD14;refine wpList_nil ?_
    gi_wp2
    rw [← HNN.out] at hD13 hOW;exact ⟨trivial,hbut,⟨by rw [HSN.out];exact hD12,⟨A6,c6,by rw [HPN.out];exact hD13,by rw [HPN.out];exact hOW⟩,hD14,hB1,hB2,hB3,hb⟩⟩
   ·have HCT:Hid (kG x a f t=true):=by
     show _=_
     rw [HCB.out,HKD.out,decide_eq_true hh.1,decide_eq_true hh.2]
     rfl
    have HSN:Hid (cS l a f t (k+1)=S0+E0):=by
     show _=_
     rw [HSS.out,HCT.out,if_pos rfl,HS0.out,HE0.out]
    have HPN:Hid (plS l a f t (k+1)=P0++[(q:Int)]):=by
     show _=_
     rw [HPP.out,HCT.out,if_pos rfl,HP0.out]
    have HPL:Hid ((P0++[(q:Int)]).length=nn+1):=by
     show _=_
     rw [List.length_append,HNN.out]
     rfl
    have HPM:Hid ((P0++[(q:Int)]).map I64=P0.map I64++[vI q]):=by
     show _=_
     rw [List.map_append]
     rfl
    gi_upto_region 11 with fail
    refine eW [] (by kernel_rfl) (by rintro ⟨_,_,h9,_⟩;cases h9) (aH) ?_;simp only [iX,Nat.reduceAdd];refine jnf hD15 17 aS ?_;refine jmn (.bool true) (vP g 1) ?_;refine jnf hD15 1 aA ?_;refine jf _ hB1 0 aA ?_;refine iS x.day f (by omega) ?_;refine eE (.bool true) (.bool true) (vP g 1) ?_;refine jnf hD15 1 aA ?_;refine jf _ hB2 0 aA ?_;refine nT x.day t (by omega) ?_;refine jm (.bool true) ?_;refine bE hb hD12 hD13 hB3 fun X1 hX1 hb hD12 hD13 hB3=>?_;replace hOW:=cH hOW hX1;replace hbut:=hbut.trans (But.of_since hX1 hmw);replace hmw:=Nat.le_trans hmw hX1.size;obtain ⟨hD15,hB1,hB2,hD14⟩:=bl4 hX1 hD15 hB1 hB2 hD14;refine wpList_nil ?_
    gi_upto_region 12 with fail
    refine fA 2 [] (by kernel_rfl) (by rintro ⟨_,_,h9,_⟩;cases h9) (aH) ?_;simp only [its,List.take,List.drop,Nat.zero_add,Nat.reduceAdd];refine jf _ hD14 0 qVm ?_;refine ja hD15 Tryz.underlying96 (by rfl) jD ?_;refine bE hb hD12 hD13 hB3 fun X2 hX2 hb hD12 hD13 hB3=>?_;replace hOW:=cH hOW hX2;replace hbut:=hbut.trans (But.of_since hX2 hmw);replace hmw:=Nat.le_trans hmw hX2.size;obtain ⟨hD15,hB1,hB2,hD14⟩:=bl4 hX2 hD15 hB1 hB2 hD14
    have h1213:g12≠g13:=by omega
    refine qQx (S:=fun Y=>∃ A' c',Blk Y g12 40 [.bool (rN (S0+E0)),vS (rP (S0+E0)),vS (rD (S0+E0))]∧Blk Y g13 61 [.slice A' (nn+1) c']∧Y.ownsRow m9 3 1 (.slice A' (nn+1) c') (nn+1) (P0.map I64++[vI q])∧But m9 (fun k=>k=g12∨k=g13) X2 Y) rfl 49 (.tmp 54) [.tmp 55] _ [vP g12 0,vP g13 0] rfl rfl [.agg #[vI q,vI x.day,vI x.deb,vI x.cre,.bool x.am.1,vS x.am.2.1,vS x.am.2.2,vI x.kd,vI x.pd,vI x.rf,vI x.w1,vI x.w2,vI x.w3,vI x.w4,.bool (rN E0),vS (rP E0),vS (rD E0),.bool true]] rfl (fun _=>by go_simp) (cr1C x q E0 S0 true g12 g13 m9 nn c6 A6 P0 _ hD12 hD13 hOW h1213 (by omega) (by omega) hmw hsS hsE (by omega)) ?_
    rintro v9 Y ⟨A7,c7,h12,h13,hOW7,hBT⟩
    replace hbut:=hbut.trans hBT;have hb:=hBT.below hb (by omega) (by rintro k (rfl|rfl) <;> omega);replace hB1:=hBT.blk hB1 (by omega) (by rintro (h9|h9) <;> omega);replace hB2:=hBT.blk hB2 (by omega) (by rintro (h9|h9) <;> omega);replace hB3:=hBT.blk hB3 (by omega) (by rintro (h9|h9) <;> omega);replace hD14:=hBT.blk hD14 (by omega) (by rintro (h9|h9) <;> omega);refine wpList_nil ?_
    gi_wp2
    exact ⟨trivial,hbut,⟨by rw [HSN.out];exact h12,⟨A7,c7,by rw [HPN.out,HPL.out];exact h13,by rw [HPN.out,HPL.out,HPM.out];exact hOW7⟩,hD14,hB1,hB2,hB3,hb⟩⟩
 case done =>
  intro D m9 W hD hm hi hKD;clear hD12 hD13 hD14 hB1 hB2 hB3 hb hC1 hC2;obtain ⟨hD12,⟨A6,c6,hD13,hOW⟩,hD14,hB1,hB2,hB3,hb⟩:=hi
  have hgD:w.heap.size+3<D:=by omega
  rw [vZh] at hD12;rw [qZe] at hD13 hOW
  have hD3m:w.heap.size+3<m9:=by omega
  have HB1':=Lib.hid hB3;obtain ⟨S0,hS0⟩:∃ z,vQf l a f t l.length=z:=⟨_,rfl⟩;have HS0:=Lib.hid hS0;rw [hS0] at hD12;clear hS0 HB1';go_upto_region 13 with fail;refine lZ (w.heap.size+3) 40 [.bool false,.string ⟨#[]⟩,.string ⟨#[]⟩] [.bool (rN S0),vS (rP S0),vS (rD S0)] (List.replicate 2 none++[some (fun _ X=>Blk X (w.heap.size+3) 40 [.bool (rN S0),vS (rP S0),vS (rD S0)])]) (by kernel_rfl) (by kernel_rfl) qH ?_;simp only [its,List.replicate,List.cons_append,List.nil_append,Nat.zero_add,Nat.reduceAdd];refine jg (rt (rN S0) (rP S0) (rD S0)) (fun X hX hF=>tT 40 _ (by rfl) g12 (by rfl) Tryz.underlying40 rfl X (Turns.blk hX hD12 (by omega)) aC) ?_;refine jg (.slice A6 (qA l a f t l.length).length c6) (fun X hX hF=>aP 61 _ (by rfl) g13 0 (by rfl) _ X ((Turns.blk hX hD13 (by omega)).cell (j:=0) rfl) (fun X u h=>qP g13 0 X u h)) ?_;refine yL (by rfl) 40 (.tmp 8) (.tmp 57) (by rfl) rfl (by rfl) (by rfl) hB3 rfl (al3 rfl rfl rfl) aC ?_;refine jmm (.slice A6 (qA l a f t l.length).length c6) (vI 0) ?_;refine aJ ?_;intro X1 hX hF;have hS:=hF _ _ List.mem_cons_self;have hOW2:=eD hOW hX.1 (fun g h h9=>by have h8:=dG hOW _ h9;injection h with h;omega);have hKD2:X1.heap[D]?=some (.deferred (some [])):=(hX.1.block D (Array.getElem?_eq_some_iff.1 hKD).1 (fun h9=>by injection h9 with h9;omega)).trans hKD
  have hb:=hX.below hb hb.size (by omega)
  go_wp2
  refine qQl hKD2 (kJ (v1:=.slice A6 (qA l a f t l.length).length c6) (v2:=vI 0) rfl rfl (by rfl) (by rfl) Tryz.underlying40 rfl ((Kept.putObj (B:=0) hKD2 rfl (Nat.zero_le _)).blk hS) aC) rfl ?_;have h9:=Rd.of_own ((Kept.putObj (B:=0) (o':=.deferred none) hKD2 rfl (Nat.zero_le _)).owns hOW2);exact ⟨_,by rw [HE.out,HQ1.out,HS0.out],by rw [HQ2.out];exact ⟨_,_,rfl,h9⟩,(Kept.putObj (B:=w.heap.size) hKD2 rfl (by omega)).below hb (Nat.le_refl _)⟩
theorem crrC (B:Nat) (c:Int) (v z:Value) (l:List En) (cs:List Cg) (a f t:Int) (w:World) (hv:Es l v w) (hz:Cs B cs z w) (hs1:Hid (Sz45 l)):Calls Tryz.prog 18 #[.agg #[vI c,v,z],vI a,vI f,vI t] w fun e w'=>∃ u,e=.returned (.tuple #[.agg #[.bool (rN (gX c l cs a f t)),vS (rP (gX c l cs a f t)),vS (rD (gX c l cs a f t))],u,vI (iZ c l cs a f t)])∧Ks (nU c l cs a f t) u w'∧Since w w':=by
 by_cases h0:peE c l cs=0
 ·by_cases h1:eA c 0 a f=0
  ·rcases (show (t<0∨14609<t)∨(0≤t∧t≤14609) by omega) with h|h
   ·exact car2 B c v z l cs a f t w hv hz hs1 h0 h1 h
   ·exact car3 B c v z l cs a f t w hv hz hs1 h0 h1 h
  ·exact car1 B c v z l cs a f t w hv hz hs1 h0 h1
 ·exact car0 B c v z l cs a f t w hv hz hs1 h0
end Go.Proofs.YtjkfchehkpmhkaaGreatDoor

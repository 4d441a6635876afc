/- law 41: Short, Few, SameRats, SamePool, of, ints, example, i -/
import Derived.Test.YtnfpenhldlfafaaGreatDoorHf41
import Derived.Test.YtnfpenhldlfafaaGreatDoorL5a
set_option linter.unusedSimpArgs false
set_option linter.unusedVariables false
set_option maxRecDepth 100000
set_option maxHeartbeats 1600000
namespace Go.Proofs.YtnfpenhldlfafaaGreatDoor
open Go.RowKit
theorem qZa:Tryz.prog.eqGuardType Tryz.prog.depth 66=false:=by kernel_rfl
theorem uS (x:Ho) (w:World):(binOp .neq 66 (.agg (hoc x).toArray) (.agg (hoc x).toArray)).run Tryz.prog w=.ok (.bool false) w:=by
 unfold hoc
 go_simp
theorem rI {f:Operand→Value} {o:Oper} (x y:Operand) (ho:o.op=.binOp .neq 66 x y 66) (X:Ho) (hx:f x=.agg (hoc X).toArray) (hy:f y=.agg (hoc X).toArray) (w:World):(execOp f o).run Tryz.prog w=.ok (.value (.bool false)) w :=
 cH .neq _ _ x y ho _ _ hx hy qZa _ w (uS X w)
def shB (xs:List Tr):Bool:=xs.all fun t=>few t.2.1 t.2.2 12
theorem pQ {p q:List UInt8} {m:Nat} (h:few p q m=true):tz p q m:=by
 unfold few at h
 rw [Bool.and_eq_true] at h;exact ⟨of_decide_eq_true h.1,of_decide_eq_true h.2⟩
theorem fO {xs:List Tr} (h:shB xs=true):∀ k,tz (xt xs k).2.1 (xt xs k).2.2 12:=fun k=>by
 rcases Nat.lt_or_ge k xs.length with hk|hk
 ·rw [mB hk]
  exact pQ (List.all_eq_true.1 h _ (List.getElem_mem hk))
 ·rw [qVx hk]
  exact dK
def dH (p:Tr) (l:List Ho):Bool:=(decide (l.length≤8) || (decide (20<l.length) && decide (l.length≤30))) && (shB [p] && l.all fun x=>shB [x.c,x.m,x.s])
structure Few9 (p:Tr) (l:List Ho):Prop where
 n:l.length≤8∨20<l.length
 p:tz p.2.1 p.2.2 12
 s:Szp l 12
theorem fI {p:Tr} {l:List Ho} (h:dH p l=true):Few9 p l:=by
 unfold dH at h
 rw [Bool.and_eq_true,Bool.and_eq_true,Bool.or_eq_true,Bool.and_eq_true,decide_eq_true_eq,decide_eq_true_eq,decide_eq_true_eq] at h;obtain ⟨h1,h2,h3⟩:=h
 have key:∀ k,k<l.length→shB [(ho l k).c,(ho l k).m,(ho l k).s]=true:=fun k hk=>by
  rw [gS hk];exact List.all_eq_true.1 h3 _ (List.getElem_mem hk)
 have dz:∀ k,l.length≤k→ho l k=default:=fun k hk=>mZ hk
 refine ⟨h1.imp id fun h9=>h9.1,fO h2 0,⟨fun k=>?_,fun k=>?_,fun k=>?_⟩⟩ <;> rcases Nat.lt_or_ge k l.length with hk|hk
 ·exact fO (key k hk) 0
 ·rw [dz k hk]
  exact dK
 ·exact fO (key k hk) 1
 ·rw [dz k hk]
  exact dK
 ·exact fO (key k hk) 2
 ·rw [dz k hk]
  exact dK
def gM (i:Tr) (ws:List Tr) (o:Tr):Bool:=decide (ws.length≤30) && (shB ws && shB [i,o])
theorem jV {i:Tr} {ws:List Tr} {o:Tr} (h:gM i ws o=true):tz i.2.1 i.2.2 12∧(∀ k,tz (xt ws k).2.1 (xt ws k).2.2 12)∧tz o.2.1 o.2.2 12∧ws.length≤30:=by
 unfold gM at h
 rw [Bool.and_eq_true,Bool.and_eq_true,decide_eq_true_eq] at h;exact ⟨fO h.2.2 0,fO h.2.1,fO h.2.2 1,h.1⟩
def Ohb (B:Nat) (L:List Ho) (v:Value) (X:World):Prop:=∃ g,v=.slice (some ⟨g,0,none⟩) L.length L.length∧B≤g∧Blk X g 66 (fl hoc L)
theorem Ohb.lasts (B:Nat) (L:List Ho):dJ (Ohb B L):=by
 rintro v X Y ⟨g,h1,h2,h3⟩ hS
 exact ⟨g,h1,h2,h3.bel hS⟩
theorem Ohb.hl {B:Nat} {L:List Ho} {v:Value} {X:World} (h:Ohb B L v X) (hL:L.length≤1000):Hl L v X:=by
 obtain ⟨g,h1,_,h3⟩:=h;subst h1;refine ⟨by rw [pK],some ⟨g,0,none⟩,L.length,rfl,Nat.le_refl _,by unfold maxLen;omega,(fun h9=>by cases h9),fun _=>⟨g,0,rfl,h3.lt,fun j u hj=>?_⟩⟩;rw [Nat.zero_add];exact h3.cell hj
def exL:List Ho:=[⟨tr (ri 10),tr (ri 20),tr (ri 1)⟩,⟨tr (ri 0),tr (ri 50),tr (ri 2)⟩,⟨tr (ri 30),tr (ri 60),tr (ri 1)⟩]
theorem qYh {P:Program} {f:Operand→Value} {o:Oper} {X:World} {B:Nat} (hB:B≤X.heap.size) (hr:(execOp f o).run P X=.ok (.value (.slice (some ⟨X.heap.size,0,none⟩) 3 3)) (X.alloc (.cells (fl hoc exL).toArray 66))):∃ v X',(execOp f o).run P X=.ok (.value v) X'∧Ohb B exL v X'∧Since X X' :=
 ⟨_,_,hr,⟨X.heap.size,rfl,hB,Blk.new rfl⟩,bU X _⟩
theorem mK (v:Value) (xs:List Tr) (w:World) (hv:Rl xs v w):Calls Tryz.prog 7 #[v] w fun e w'=>e=.returned (.bool (shB xs))∧Since w w':=by
 obtain ⟨A,n,cp,rfl,hln,hn1,hr⟩:=eB hv;clear hv
 have HRX:Hid (∀ X,Since w X→Rd X 3 (.slice A n cp) n (fl trc xs)):=fun X h=>hr.below h
 have HLN:=Lib.hid hln;clear hr
 go_enter Tryz.func7,Tryz.ntmps7
 go_upto_region 1 with fail;refine jp ?_;refine jm (vI 0) ?_;refine jz fun X1 hX1=>?_;have hb:Below w.heap.size w X1:=hX1
 go_wp2
 go_loopw [3] (fun kv wr=>∃ k:Nat,k≤n∧kv=vI k∧Hid (∀ j,j<k→few (xt xs j).2.1 (xt xs j).2.2 12=true)∧Below w.heap.size w wr) (fun kv _=>n-(intOf kv).toNat)
 case atStart=>exact ⟨0,by omega,rfl,(fun j hj=>by omega),hb⟩
 case round =>
  clear hb;obtain ⟨k,hk,rfl,HZ,hb⟩:=hrel
  rcases Nat.lt_or_ge k n with hlt|hlt
  ·obtain ⟨b,off,rfl,hbb,hcx⟩:=qO (HRX.out _ hb) HLN.out hlt
   obtain ⟨x,x9⟩:∃ x,x=xt xs k:=⟨_,rfl⟩;have HX:=Lib.hid x9;clear x9;rw [← HX.out] at hcx
   change Cl wr b (off+k * 3) [.bool x.1,vS x.2.1,vS x.2.2] at hcx
   obtain ⟨q1,q1e⟩:∃ z,z=x.2.1.length:=⟨_,rfl⟩;obtain ⟨q2,q2e⟩:∃ z,z=x.2.2.length:=⟨_,rfl⟩;have HQ1:=Lib.hid q1e;have HQ2:=Lib.hid q2e;clear q1e q2e;go_upto_region 2 with fail;refine jp ?_;refine jmm (vI k) (.slice (some ⟨b,off,none⟩) n cp) ?_;refine jv (vI n) (aJ Tryz.underlying27 _ (by rfl) (some ⟨b,off,none⟩) n cp (by rfl) _ rfl) ?_;refine fC (k:Int) (n:Int) (by omega) ?_;refine jzb hb fun X1 hX1 hb=>?_;have hcx:=hcx.below hX1 hbb;replace hbb:=Nat.lt_of_lt_of_le hbb (hX1).size
   rcases (show 12<q1∨(q1≤12∧12<q2)∨(q1≤12∧q2≤12) by omega) with hq|hq|hq
   ·have HN:Hid (shB xs=false):=by
     show _=_
     rw [Bool.eq_false_iff];intro h8;have h7:=fO h8 k;rw [← HX.out] at h7;have h6:=h7.1;have h5:=h7.2;rw [← HQ1.out] at h6;rw [← HQ2.out] at h5
     omega
    go_upto_region 4 with fail;refine jp ?_;refine jmm (.slice (some ⟨b,off,none⟩) n cp) (vI k) ?_;refine jv (vP b (off+k * 3)) (aY Tryz.underlying27 aB _ _ (by rfl) b (off) n cp k (by omega) (by rfl) (by rfl) rfl) ?_;refine jn (vP b (off+k * 3+1)) ?_;refine jg (st x.2.1) (fun X hX hF=>bN 9 _ (by rfl) b (off+k * 3+1) (by rfl) _ X ((hcx.below hX hbb) 1 _ rfl) (fun X u h=>aI b (off+k * 3+1) X u h)) ?_;refine jv (vI q1) (fun X=>by rw [HQ1.out];exact dR Tryz.underlying9 _ (by rfl) x.2.1 (by rfl) _ rfl X) ?_;refine mV (q1:Int) 12 (by omega) ?_;refine jm (.bool true) ?_;refine hI ?_;refine jss ?_;refine js ?_;refine jm (.bool true) ?_;refine jzb hb fun X2 hX2 hb=>?_;have hcx:=hcx.below hX2 hbb;replace hbb:=Nat.lt_of_lt_of_le hbb (hX2).size;go_upto_region 5 with fail;refine jp ?_;refine jm (.bool false) ?_;refine jzb hb fun X3 hX3 hb=>?_
    go_wp2
    go_ret
    exact ⟨by rw [HN.out];rfl,hb⟩
   ·have HN:Hid (shB xs=false):=by
     show _=_
     rw [Bool.eq_false_iff];intro h8;have h7:=fO h8 k;rw [← HX.out] at h7;have h6:=h7.1;have h5:=h7.2;rw [← HQ1.out] at h6;rw [← HQ2.out] at h5
     omega
    go_upto_region 4 with fail;refine jp ?_;refine jmm (.slice (some ⟨b,off,none⟩) n cp) (vI k) ?_;refine jv (vP b (off+k * 3)) (aY Tryz.underlying27 aB _ _ (by rfl) b (off) n cp k (by omega) (by rfl) (by rfl) rfl) ?_;refine jn (vP b (off+k * 3+1)) ?_;refine jg (st x.2.1) (fun X hX hF=>bN 9 _ (by rfl) b (off+k * 3+1) (by rfl) _ X ((hcx.below hX hbb) 1 _ rfl) (fun X u h=>aI b (off+k * 3+1) X u h)) ?_;refine jv (vI q1) (fun X=>by rw [HQ1.out];exact dR Tryz.underlying9 _ (by rfl) x.2.1 (by rfl) _ rfl X) ?_;refine iO (q1:Int) 12 (by omega) ?_;refine bY (.bool false) (.slice (some ⟨b,off,none⟩) n cp) (vI k) ?_;refine jv (vP b (off+k * 3)) (aY Tryz.underlying27 aB _ _ (by rfl) b (off) n cp k (by omega) (by rfl) (by rfl) rfl) ?_;refine jn (vP b (off+k * 3+2)) ?_;refine jg (st x.2.2) (fun X hX hF=>bN 9 _ (by rfl) b (off+k * 3+2) (by rfl) _ X ((hcx.below hX hbb) 2 _ rfl) (fun X u h=>aI b (off+k * 3+2) X u h)) ?_;refine jv (vI q2) (fun X=>by rw [HQ2.out];exact dR Tryz.underlying9 _ (by rfl) x.2.2 (by rfl) _ rfl X) ?_;refine mV (q2:Int) 12 (by omega) ?_;refine jm (.bool true) ?_;refine jzb hb fun X2 hX2 hb=>?_;have hcx:=hcx.below hX2 hbb;replace hbb:=Nat.lt_of_lt_of_le hbb (hX2).size;go_upto_region 5 with fail;refine jp ?_;refine jm (.bool false) ?_
    refine jzb hb fun X3 hX3 hb=>?_
    go_wp2
    go_ret
    exact ⟨by rw [HN.out];rfl,hb⟩
   ·have HF:Hid (few x.2.1 x.2.2 12=true):=by
     show _=_
     unfold few
     rw [← HQ1.out,← HQ2.out,decide_eq_true hq.1,decide_eq_true hq.2]
     rfl
    have HZ2:Hid (∀ j,j<k+1→few (xt xs j).2.1 (xt xs j).2.2 12=true):=fun j hj=>by
     rcases Nat.lt_or_ge j k with h9|h9
     ·exact HZ.out j h9
     ·rw [show j=k by omega,← HX.out];exact HF.out
    go_upto_region 4 with fail;refine jp ?_;refine jmm (.slice (some ⟨b,off,none⟩) n cp) (vI k) ?_;refine jv (vP b (off+k * 3)) (aY Tryz.underlying27 aB _ _ (by rfl) b (off) n cp k (by omega) (by rfl) (by rfl) rfl) ?_;refine jn (vP b (off+k * 3+1)) ?_;refine jg (st x.2.1) (fun X hX hF=>bN 9 _ (by rfl) b (off+k * 3+1) (by rfl) _ X ((hcx.below hX hbb) 1 _ rfl) (fun X u h=>aI b (off+k * 3+1) X u h)) ?_;refine jv (vI q1) (fun X=>by rw [HQ1.out];exact dR Tryz.underlying9 _ (by rfl) x.2.1 (by rfl) _ rfl X) ?_;refine iO (q1:Int) 12 (by omega) ?_;refine bY (.bool false) (.slice (some ⟨b,off,none⟩) n cp) (vI k) ?_;refine jv (vP b (off+k * 3)) (aY Tryz.underlying27 aB _ _ (by rfl) b (off) n cp k (by omega) (by rfl) (by rfl) rfl) ?_;refine jn (vP b (off+k * 3+2)) ?_;refine jg (st x.2.2) (fun X hX hF=>bN 9 _ (by rfl) b (off+k * 3+2) (by rfl) _ X ((hcx.below hX hbb) 2 _ rfl) (fun X u h=>aI b (off+k * 3+2) X u h)) ?_;refine jv (vI q2) (fun X=>by rw [HQ2.out];exact dR Tryz.underlying9 _ (by rfl) x.2.2 (by rfl) _ rfl X) ?_;refine iO (q2:Int) 12 (by omega) ?_;refine jm (.bool false) ?_;refine jzb hb fun X2 hX2 hb=>?_;have hcx:=hcx.below hX2 hbb;replace hbb:=Nat.lt_of_lt_of_le hbb (hX2).size;go_upto_region 3 with fail;refine jp ?_;refine jm (vI k) ?_
    refine jv (vI ((k+1:Nat):Int)) (bB _ _ _ _ (by rfl) (k:Int) 1 ((k+1:Nat):Int) (by rfl) (by rfl) (by omega) (by omega) (by omega)) ?_;refine jm (vI ((k+1:Nat):Int)) ?_;refine jzb hb fun X3 hX3 hb=>?_
    go_wp2
    go_roundw
    case rel=>exact ⟨k+1,by omega,rfl,HZ2,hb⟩
    case measure=>simp [intOf];omega
  ·have HN:Hid (shB xs=true):=by
    refine List.all_eq_true.2 fun t ht=>?_;obtain ⟨i,hi,rfl⟩:=List.getElem_of_mem ht;rw [← mB hi];exact HZ.out i (by rw [HLN.out] at hi;omega)
   go_upto_region 2 with fail;refine jp ?_;refine jmm (vI k) (.slice A n cp) ?_;refine jv (vI n) (aJ Tryz.underlying27 _ (by rfl) A n cp (by rfl) _ rfl) ?_;refine fD (k:Int) (n:Int) (by omega) ?_;refine jzb hb fun X1 hX1 hb=>?_;go_upto_region 6 with fail;refine jp ?_;refine jm (.bool true) ?_;refine jzb hb fun X2 hX2 hb=>?_
   go_wp2
   go_ret
   exact ⟨by rw [HN.out];rfl,hb⟩
theorem few40 (p:Tr) (v:Value) (l:List Ho) (w:World) (hv:Hl l v w) (h:8<l.length) (h2:l.length≤20):Calls Tryz.prog 5 #[.agg #[.bool p.1,vS p.2.1,vS p.2.2,v],vI 8] w fun e w'=>e=.returned (.bool (dH p l))∧Since w w':=by
 obtain ⟨A,n,cp,rfl,hln,hn1,hr⟩:=hv.at;clear hv
 have HRX:Hid (∀ X,Since w X→Rd X 9 (.slice A n cp) n (fl hoc l)):=fun X h=>hr.below h
 have HLN:=Lib.hid hln;rw [hln] at h h2;clear hr
 have HN:Hid (dH p l=false):=by
  show _=_
  unfold dH
  rw [decide_eq_false (show ¬ l.length≤8 by rw [HLN.out];omega),decide_eq_false (show ¬ 20<l.length by rw [HLN.out];omega)]
  simp
 go_enter Tryz.func5,Tryz.ntmps5
 go_upto_region 1 with fail;obtain ⟨W0,hW0,hB0,hb⟩:=aZ w 26 [.bool p.1,vS p.2.1,vS p.2.2,.slice A n cp];rw [← hW0];clear hW0;refine jp ?_;refine jnf hB0 3 aR ?_;refine jv (vI n) (aJ Tryz.underlying24 _ (by rfl) A n cp (by rfl) _ rfl) ?_;refine jm (vI 8) ?_;refine mV (n:Int) 8 (by omega) ?_;refine jm (.bool true) ?_;refine jnf hB0 3 aR ?_;refine jv (vI n) (aJ Tryz.underlying24 _ (by rfl) A n cp (by rfl) _ rfl) ?_;refine vF (n:Int) 20 (by omega) ?_;refine jmm (.bool true) (.bool true) ?_;refine hI ?_;refine jm (.bool true) ?_;refine bZ hb hB0 fun X1 hX1 hb hB0=>?_;go_upto_region 2 with fail;refine jp ?_;refine jm (.bool false) ?_;refine bZ hb hB0 fun X2 hX2 hb hB0=>?_
 go_wp2
 go_ret
 exact ⟨by rw [HN.out];rfl,hb⟩
theorem qQb (p:Tr) (v:Value) (l:List Ho) (w:World) (hv:Hl l v w) (h:30<l.length):Calls Tryz.prog 5 #[.agg #[.bool p.1,vS p.2.1,vS p.2.2,v],vI 8] w fun e w'=>e=.returned (.bool (dH p l))∧Since w w':=by
 obtain ⟨A,n,cp,rfl,hln,hn1,hr⟩:=hv.at;clear hv
 have HRX:Hid (∀ X,Since w X→Rd X 9 (.slice A n cp) n (fl hoc l)):=fun X h=>hr.below h
 have HLN:=Lib.hid hln;rw [hln] at h;clear hr
 have HN:Hid (dH p l=false):=by
  show _=_
  unfold dH
  rw [decide_eq_false (show ¬ l.length≤8 by rw [HLN.out];omega),decide_eq_false (show ¬ l.length≤30 by rw [HLN.out];omega)]
  simp
 go_enter Tryz.func5,Tryz.ntmps5
 go_upto_region 1 with fail;obtain ⟨W0,hW0,hB0,hb⟩:=aZ w 26 [.bool p.1,vS p.2.1,vS p.2.2,.slice A n cp];rw [← hW0];clear hW0;refine jp ?_;refine jnf hB0 3 aR ?_;refine jv (vI n) (aJ Tryz.underlying24 _ (by rfl) A n cp (by rfl) _ rfl) ?_;refine jm (vI 8) ?_;refine mV (n:Int) 8 (by omega) ?_;refine jm (.bool true) ?_;refine jnf hB0 3 aR ?_;refine jv (vI n) (aJ Tryz.underlying24 _ (by rfl) A n cp (by rfl) _ rfl) ?_;refine vG (n:Int) 20 (by omega) ?_;refine jmm (.bool false) (.bool false) ?_;refine jnf hB0 3 aR ?_;refine jv (vI n) (aJ Tryz.underlying24 _ (by rfl) A n cp (by rfl) _ rfl) ?_;refine mV (n:Int) 30 (by omega) ?_;refine jm (.bool true) ?_;refine bZ hb hB0 fun X1 hX1 hb hB0=>?_;go_upto_region 2 with fail;refine jp ?_;refine jm (.bool false) ?_;refine bZ hb hB0 fun X2 hX2 hb hB0=>?_
 go_wp2
 go_ret
 exact ⟨by rw [HN.out];rfl,hb⟩
theorem few42 (p:Tr) (v:Value) (l:List Ho) (w:World) (hv:Hl l v w) (h:l.length≤8∨(20<l.length∧l.length≤30)):Calls Tryz.prog 5 #[.agg #[.bool p.1,vS p.2.1,vS p.2.2,v],vI 8] w fun e w'=>e=.returned (.bool (dH p l))∧Since w w':=by
 obtain ⟨A,n,cp,rfl,hln,hn1,hr⟩:=hv.at;clear hv
 have HRX:Hid (∀ X,Since w X→Rd X 9 (.slice A n cp) n (fl hoc l)):=fun X h=>hr.below h
 have HLN:=Lib.hid hln
 have h9:n≤8∨(20<n∧n≤30):=by omega
 clear hr
 have HC:Hid (dH p l=(shB [p] && l.all fun x=>shB [x.c,x.m,x.s])):=by
  show _=_
  unfold dH
  rcases h with h8|h8
  ·rw [decide_eq_true h8]
   rfl
  ·rw [decide_eq_true h8.1,decide_eq_true h8.2]
   simp
 clear h
 go_enter Tryz.func5,Tryz.ntmps5
 go_upto_region 1 with fail;obtain ⟨W0,hW0,hB0,hb⟩:=aZ w 26 [.bool p.1,vS p.2.1,vS p.2.2,.slice A n cp];rw [← hW0];clear hW0;obtain ⟨sb,sb9⟩:∃ z,shB [p]=z:=⟨_,rfl⟩;have HSB:=Lib.hid sb9;clear sb9
 rcases h9 with h9|h9
 ·refine jp ?_
  refine jnf hB0 3 aR ?_;refine jv (vI n) (aJ Tryz.underlying24 _ (by rfl) A n cp (by rfl) _ rfl) ?_;refine jm (vI 8) ?_;refine iO (n:Int) 8 (by omega) ?_;refine jm (.bool false) ?_;refine hI ?_;refine jmm (.bool false) (.bool false) ?_;refine jnf hB0 3 aR ?_;refine jv (vI n) (aJ Tryz.underlying24 _ (by rfl) A n cp (by rfl) _ rfl) ?_;refine iO (n:Int) 30 (by omega) ?_;refine jm (.bool false) ?_;refine bZ hb hB0 fun X1 hX1 hb hB0=>?_;go_upto_region 3 with fail;refine bC [none,none,some (Rl [p])] (aA (aA (aD (Rl.lasts [p]) (aF)))) ?_;simp only [iX,Nat.reduceAdd];refine jn (vP w.heap.size 0) ?_;refine jg (.agg #[.bool p.1,st p.2.1,st p.2.2]) (fun X hX hF=>aK 23 _ (by rfl) w.heap.size 0 [.bool p.1,vS p.2.1,vS p.2.2] (by rfl) Tryz.underlying23 rfl X (hB0.bel hX) (by rfl) aB) ?_;refine aW (by rfl) (fun X hX hF=>Rl.mk [p] 1 rfl (by decide) (by unfold execOp;go_simp;rfl)) ?_;intro v28;simp only [pX];refine jc (.bool sb) (fun X hX hF=>mo (mK _ [p] X (hF _ _ List.mem_cons_self rfl)) (by rw [HSB.out])) ?_;refine jm (.bool sb) ?_;refine aH ?_;intro X2 hX2 hF;have hv28:=hF _ _ List.mem_cons_self;replace hB0:=hB0.bel hX2;have hb:=aG hb hX2;clear hF hX2;clear hv28;go_upto_region 4 with fail;refine jp ?_;refine jm (vI 0) ?_;refine bZ hb hB0 fun X3 hX3 hb hB0=>?_
  go_wp2
  go_loopw [5,6] (fun av kv wr=>∃ (k:Nat) (a:Bool),k≤n∧av=.bool a∧kv=vI k∧Hid (a=true↔shB [p]=true∧∀ j,j<k→shB [(ho l j).c,(ho l j).m,(ho l j).s]=true)∧Blk wr w.heap.size 26 [.bool p.1,vS p.2.1,vS p.2.2,.slice A n cp]∧Below w.heap.size w wr) (fun _ kv _=>n-(intOf kv).toNat)
  case atStart=>exact ⟨0,sb,by omega,rfl,rfl,⟨fun h8=>⟨by rw [HSB.out,h8],fun j hj=>by omega⟩,fun h8=>by rw [← HSB.out,h8.1]⟩,hB0,hb⟩
  case round =>
   clear hB0 hb;obtain ⟨k,a,hk,rfl,rfl,HA,hB0,hb⟩:=hrel
   rcases Nat.lt_or_ge k n with hlt|hlt
   ·obtain ⟨b,off,rfl,hbb,hcx⟩:=iR (HRX.out _ hb) HLN.out hlt
    obtain ⟨x,x9⟩:∃ x,x=ho l k:=⟨_,rfl⟩;have HX:=Lib.hid x9;clear x9;rw [← HX.out] at hcx
    change Cl wr b (off+k * 9) [.bool x.c.1,vS x.c.2.1,vS x.c.2.2,.bool x.m.1,vS x.m.2.1,vS x.m.2.2,.bool x.s.1,vS x.s.2.1,vS x.s.2.2] at hcx
    have HFQ:=HA;obtain ⟨q,q9⟩:∃ z,shB [x.c,x.m,x.s]=z:=⟨_,rfl⟩;have HQ:=Lib.hid q9;clear q9;go_upto_region 5 with fail;refine jp ?_;refine jm (vI k) ?_;refine jnf hB0 3 aR ?_;refine jv (vI n) (aJ Tryz.underlying24 _ (by rfl) (some ⟨b,off,none⟩) n cp (by rfl) _ rfl) ?_;refine fC (k:Int) (n:Int) (by omega) ?_;refine bZ hb hB0 fun X1 hX1 hb hB0=>?_;have hcx:=hcx.below hX1 hbb;replace hbb:=Nat.lt_of_lt_of_le hbb (hX1).size;go_upto_region 7 with fail;refine jq 5 ?_;refine jnf hB0 3 aR ?_;refine jm (vI k) ?_;refine jv (vP b (off+k * 9)) (aY Tryz.underlying24 bF _ _ (by rfl) b (off) n cp k (by omega) (by rfl) (by rfl) rfl) ?_;refine jg (.agg #[.bool x.c.1,st x.c.2.1,st x.c.2.2,.bool x.m.1,st x.m.2.1,st x.m.2.2,.bool x.s.1,st x.s.2.1,st x.s.2.2]) (fun X hX hF=>bM 66 _ (by rfl) b (off+k * 9) (by rfl) Tryz.underlying66 rfl [.bool x.c.1,vS x.c.2.1,vS x.c.2.2,.bool x.m.1,vS x.m.2.1,vS x.m.2.2,.bool x.s.1,vS x.s.2.1,vS x.s.2.2] X (Cl.part (hcx.below hX hbb) 0 _ (by rfl)) bF) ?_;refine bZ hb hB0 fun X2 hX2 hb hB0=>?_;have hcx:=hcx.below hX2 hbb;replace hbb:=Nat.lt_of_lt_of_le hbb (hX2).size;go_upto_region 8 with (refine osn 66 7 41 #[.bool x.c.1,vS x.c.2.1,vS x.c.2.2,.bool x.m.1,vS x.m.2.1,vS x.m.2.2,.bool x.s.1,vS x.s.2.1,vS x.s.2.2] bF ?_)
    obtain ⟨Y2,hY9,hD7,hS9⟩:=aZ X2 66 [.bool x.c.1,vS x.c.2.1,vS x.c.2.2,.bool x.m.1,vS x.m.2.1,vS x.m.2.2,.bool x.s.1,vS x.s.2.1,vS x.s.2.2];rw [← hY9];clear hY9;have hgs7:=hb.size;have hlt7x0:=hB0.lt;have hcx:=hcx.below hS9 hbb;replace hbb:=Nat.lt_of_lt_of_le hbb (hS9).size;have hB0:=hB0.bel hS9;have hb:=aG hb hS9;clear hS9;generalize X2.heap.size=g7 at *;refine bC [none,none,none,none,none,none,some (Rl [x.c,x.m,x.s])] (aA (aA (aA (aA (aA (aA (aD (Rl.lasts [x.c,x.m,x.s]) (aF)))))))) ?_;simp only [iX,Nat.reduceAdd];refine jn (vP g7 0) ?_;refine jg (.agg #[.bool x.c.1,st x.c.2.1,st x.c.2.2]) (fun X hX hF=>aK 23 _ (by rfl) g7 0 [.bool x.c.1,vS x.c.2.1,vS x.c.2.2] (by rfl) Tryz.underlying23 rfl X (hD7.bel hX) (by rfl) aB) ?_;refine jn (vP g7 3) ?_;refine jg (.agg #[.bool x.m.1,st x.m.2.1,st x.m.2.2]) (fun X hX hF=>aK 23 _ (by rfl) g7 3 [.bool x.m.1,vS x.m.2.1,vS x.m.2.2] (by rfl) Tryz.underlying23 rfl X (hD7.bel hX) (by rfl) aB) ?_;refine jn (vP g7 6) ?_;refine jg (.agg #[.bool x.s.1,st x.s.2.1,st x.s.2.2]) (fun X hX hF=>aK 23 _ (by rfl) g7 6 [.bool x.s.1,vS x.s.2.1,vS x.s.2.2] (by rfl) Tryz.underlying23 rfl X (hD7.bel hX) (by rfl) aB) ?_
    refine aW (by rfl) (fun X hX hF=>Rl.mk [x.c,x.m,x.s] 3 rfl (by decide) (by unfold execOp;go_simp;rfl)) ?_;intro v48;simp only [pX];refine jc (.bool q) (fun X hX hF=>mo (mK _ [x.c,x.m,x.s] X (hF _ _ List.mem_cons_self rfl)) (by rw [HQ.out])) ?_;refine jm (.bool q) ?_;refine aH ?_;intro X3 hX3 hF;have hv48:=hF _ _ List.mem_cons_self;obtain ⟨hB0,hD7⟩:=bl2 hX3 hB0 hD7;have hb:=aG hb hX3;clear hF hX3;clear hv48
    rcases a with _|_
    ·have HA2:Hid (false=true↔shB [p]=true∧∀ j,j<k+1→shB [(ho l j).c,(ho l j).m,(ho l j).s]=true):=⟨fun h8=>(by cases h8),fun h8=>HA.out.2 ⟨h8.1,fun j hj=>h8.2 j (by omega)⟩⟩
     go_upto_region 9 with fail;refine jp ?_;refine jmm (.bool false) (.bool false) ?_;refine js ?_;refine jmm (.bool false) (.bool false) ?_;refine bV hb hB0 hD7 fun X4 hX4 hb hB0 hD7=>?_;go_upto_region 6 with fail;refine jp ?_;refine jm (vI k) ?_;refine jv (vI ((k+1:Nat):Int)) (bB _ _ _ _ (by rfl) (k:Int) 1 ((k+1:Nat):Int) (by rfl) (by rfl) (by omega) (by omega) (by omega)) ?_;refine jm (vI ((k+1:Nat):Int)) ?_;refine bV hb hB0 hD7 fun X5 hX5 hb hB0 hD7=>?_
     go_wp2
     go_roundw
     case rel=>exact ⟨k+1,false,by omega,rfl,rfl,HA2,hB0,hb⟩
     case measure=>simp [intOf];omega
    ·have HA2:Hid (q=true↔shB [p]=true∧∀ j,j<k+1→shB [(ho l j).c,(ho l j).m,(ho l j).s]=true):=⟨fun h8=>⟨(HA.out.1 rfl).1,fun j hj=>by
      rcases Nat.lt_or_ge j k with h7|h7
      ·exact (HA.out.1 rfl).2 j h7
      ·rw [show j=k by omega,← HX.out,HQ.out]
       exact h8⟩,fun h8=>by
      rw [← HQ.out,HX.out]
      exact h8.2 k (by omega)⟩
     go_upto_region 9 with fail;refine jp ?_;refine bY (.bool true) (.bool true) (.bool q) ?_;refine jmm (.bool q) (.bool q) ?_;refine bV hb hB0 hD7 fun X4 hX4 hb hB0 hD7=>?_;go_upto_region 6 with fail;refine jp ?_;refine jm (vI k) ?_;refine jv (vI ((k+1:Nat):Int)) (bB _ _ _ _ (by rfl) (k:Int) 1 ((k+1:Nat):Int) (by rfl) (by rfl) (by omega) (by omega) (by omega)) ?_;refine jm (vI ((k+1:Nat):Int)) ?_;refine bV hb hB0 hD7 fun X5 hX5 hb hB0 hD7=>?_
     go_wp2
     go_roundw
     case rel=>exact ⟨k+1,q,by omega,rfl,rfl,HA2,hB0,hb⟩
     case measure=>simp [intOf];omega
   ·have HN:Hid (dH p l=a):=by
     show _=_
     rw [HC.out];rw [Bool.eq_iff_iff,Bool.and_eq_true]
     constructor
     ·rintro ⟨h8,h7⟩
      refine HA.out.2 ⟨h8,fun j hj=>?_⟩
      have hj2:j<l.length:=by rw [HLN.out];omega
      rw [gS hj2];exact List.all_eq_true.1 h7 _ (List.getElem_mem hj2)
     ·intro h8
      refine ⟨(HA.out.1 h8).1,List.all_eq_true.2 fun x hx=>?_⟩;obtain ⟨j,hj,rfl⟩:=List.getElem_of_mem hx;rw [← gS hj];exact (HA.out.1 h8).2 j (by rw [HLN.out] at hj;omega)
    go_upto_region 5 with fail;refine jp ?_;refine jm (vI k) ?_;refine jnf hB0 3 aR ?_;refine jv (vI n) (aJ Tryz.underlying24 _ (by rfl) A n cp (by rfl) _ rfl) ?_;refine fD (k:Int) (n:Int) (by omega) ?_;refine bZ hb hB0 fun X1 hX1 hb hB0=>?_;go_upto_region 10 with fail;refine jp ?_;refine jmm (.bool a) (.bool a) ?_;refine bZ hb hB0 fun X2 hX2 hb hB0=>?_
    go_wp2
    go_ret
    exact ⟨by rw [HN.out];rfl,hb⟩
 ·refine jp ?_
  refine jnf hB0 3 aR ?_;refine jv (vI n) (aJ Tryz.underlying24 _ (by rfl) A n cp (by rfl) _ rfl) ?_;refine jm (vI 8) ?_;refine mV (n:Int) 8 (by omega) ?_;refine jm (.bool true) ?_;refine jnf hB0 3 aR ?_;refine jv (vI n) (aJ Tryz.underlying24 _ (by rfl) A n cp (by rfl) _ rfl) ?_;refine vG (n:Int) 20 (by omega) ?_;refine jmm (.bool false) (.bool false) ?_;refine jnf hB0 3 aR ?_;refine jv (vI n) (aJ Tryz.underlying24 _ (by rfl) A n cp (by rfl) _ rfl) ?_;refine iO (n:Int) 30 (by omega) ?_;refine jm (.bool false) ?_;refine bZ hb hB0 fun X1 hX1 hb hB0=>?_;go_upto_region 3 with fail;refine bC [none,none,some (Rl [p])] (aA (aA (aD (Rl.lasts [p]) (aF)))) ?_;simp only [iX,Nat.reduceAdd];refine jn (vP w.heap.size 0) ?_;refine jg (.agg #[.bool p.1,st p.2.1,st p.2.2]) (fun X hX hF=>aK 23 _ (by rfl) w.heap.size 0 [.bool p.1,vS p.2.1,vS p.2.2] (by rfl) Tryz.underlying23 rfl X (hB0.bel hX) (by rfl) aB) ?_;refine aW (by rfl) (fun X hX hF=>Rl.mk [p] 1 rfl (by decide) (by unfold execOp;go_simp;rfl)) ?_;intro v28;simp only [pX];refine jc (.bool sb) (fun X hX hF=>mo (mK _ [p] X (hF _ _ List.mem_cons_self rfl)) (by rw [HSB.out])) ?_;refine jm (.bool sb) ?_;refine aH ?_;intro X2 hX2 hF;have hv28:=hF _ _ List.mem_cons_self;replace hB0:=hB0.bel hX2;have hb:=aG hb hX2
  clear hF hX2;clear hv28;go_upto_region 4 with fail;refine jp ?_;refine jm (vI 0) ?_;refine bZ hb hB0 fun X3 hX3 hb hB0=>?_
  go_wp2
  go_loopw [5,6] (fun av kv wr=>∃ (k:Nat) (a:Bool),k≤n∧av=.bool a∧kv=vI k∧Hid (a=true↔shB [p]=true∧∀ j,j<k→shB [(ho l j).c,(ho l j).m,(ho l j).s]=true)∧Blk wr w.heap.size 26 [.bool p.1,vS p.2.1,vS p.2.2,.slice A n cp]∧Below w.heap.size w wr) (fun _ kv _=>n-(intOf kv).toNat)
  case atStart=>exact ⟨0,sb,by omega,rfl,rfl,⟨fun h8=>⟨by rw [HSB.out,h8],fun j hj=>by omega⟩,fun h8=>by rw [← HSB.out,h8.1]⟩,hB0,hb⟩
  case round =>
   clear hB0 hb;obtain ⟨k,a,hk,rfl,rfl,HA,hB0,hb⟩:=hrel
   rcases Nat.lt_or_ge k n with hlt|hlt
   ·obtain ⟨b,off,rfl,hbb,hcx⟩:=iR (HRX.out _ hb) HLN.out hlt
    obtain ⟨x,x9⟩:∃ x,x=ho l k:=⟨_,rfl⟩;have HX:=Lib.hid x9;clear x9;rw [← HX.out] at hcx
    change Cl wr b (off+k * 9) [.bool x.c.1,vS x.c.2.1,vS x.c.2.2,.bool x.m.1,vS x.m.2.1,vS x.m.2.2,.bool x.s.1,vS x.s.2.1,vS x.s.2.2] at hcx
    have HFQ:=HA;obtain ⟨q,q9⟩:∃ z,shB [x.c,x.m,x.s]=z:=⟨_,rfl⟩;have HQ:=Lib.hid q9;clear q9;go_upto_region 5 with fail;refine jp ?_;refine jm (vI k) ?_;refine jnf hB0 3 aR ?_;refine jv (vI n) (aJ Tryz.underlying24 _ (by rfl) (some ⟨b,off,none⟩) n cp (by rfl) _ rfl) ?_;refine fC (k:Int) (n:Int) (by omega) ?_;refine bZ hb hB0 fun X1 hX1 hb hB0=>?_;have hcx:=hcx.below hX1 hbb;replace hbb:=Nat.lt_of_lt_of_le hbb (hX1).size;go_upto_region 7 with fail;refine jq 5 ?_;refine jnf hB0 3 aR ?_;refine jm (vI k) ?_;refine jv (vP b (off+k * 9)) (aY Tryz.underlying24 bF _ _ (by rfl) b (off) n cp k (by omega) (by rfl) (by rfl) rfl) ?_;refine jg (.agg #[.bool x.c.1,st x.c.2.1,st x.c.2.2,.bool x.m.1,st x.m.2.1,st x.m.2.2,.bool x.s.1,st x.s.2.1,st x.s.2.2]) (fun X hX hF=>bM 66 _ (by rfl) b (off+k * 9) (by rfl) Tryz.underlying66 rfl [.bool x.c.1,vS x.c.2.1,vS x.c.2.2,.bool x.m.1,vS x.m.2.1,vS x.m.2.2,.bool x.s.1,vS x.s.2.1,vS x.s.2.2] X (Cl.part (hcx.below hX hbb) 0 _ (by rfl)) bF) ?_;refine bZ hb hB0 fun X2 hX2 hb hB0=>?_;have hcx:=hcx.below hX2 hbb;replace hbb:=Nat.lt_of_lt_of_le hbb (hX2).size;go_upto_region 8 with (refine osn 66 7 41 #[.bool x.c.1,vS x.c.2.1,vS x.c.2.2,.bool x.m.1,vS x.m.2.1,vS x.m.2.2,.bool x.s.1,vS x.s.2.1,vS x.s.2.2] bF ?_)
    obtain ⟨Y2,hY9,hD7,hS9⟩:=aZ X2 66 [.bool x.c.1,vS x.c.2.1,vS x.c.2.2,.bool x.m.1,vS x.m.2.1,vS x.m.2.2,.bool x.s.1,vS x.s.2.1,vS x.s.2.2];rw [← hY9];clear hY9;have hgs7:=hb.size;have hlt7x0:=hB0.lt;have hcx:=hcx.below hS9 hbb;replace hbb:=Nat.lt_of_lt_of_le hbb (hS9).size;have hB0:=hB0.bel hS9;have hb:=aG hb hS9;clear hS9;generalize X2.heap.size=g7 at *;refine bC [none,none,none,none,none,none,some (Rl [x.c,x.m,x.s])] (aA (aA (aA (aA (aA (aA (aD (Rl.lasts [x.c,x.m,x.s]) (aF)))))))) ?_;simp only [iX,Nat.reduceAdd];refine jn (vP g7 0) ?_;refine jg (.agg #[.bool x.c.1,st x.c.2.1,st x.c.2.2]) (fun X hX hF=>aK 23 _ (by rfl) g7 0 [.bool x.c.1,vS x.c.2.1,vS x.c.2.2] (by rfl) Tryz.underlying23 rfl X (hD7.bel hX) (by rfl) aB) ?_;refine jn (vP g7 3) ?_;refine jg (.agg #[.bool x.m.1,st x.m.2.1,st x.m.2.2]) (fun X hX hF=>aK 23 _ (by rfl) g7 3 [.bool x.m.1,vS x.m.2.1,vS x.m.2.2] (by rfl) Tryz.underlying23 rfl X (hD7.bel hX) (by rfl) aB) ?_;refine jn (vP g7 6) ?_;refine jg (.agg #[.bool x.s.1,st x.s.2.1,st x.s.2.2]) (fun X hX hF=>aK 23 _ (by rfl) g7 6 [.bool x.s.1,vS x.s.2.1,vS x.s.2.2] (by rfl) Tryz.underlying23 rfl X (hD7.bel hX) (by rfl) aB) ?_
    refine aW (by rfl) (fun X hX hF=>Rl.mk [x.c,x.m,x.s] 3 rfl (by decide) (by unfold execOp;go_simp;rfl)) ?_;intro v48;simp only [pX];refine jc (.bool q) (fun X hX hF=>mo (mK _ [x.c,x.m,x.s] X (hF _ _ List.mem_cons_self rfl)) (by rw [HQ.out])) ?_;refine jm (.bool q) ?_;refine aH ?_;intro X3 hX3 hF;have hv48:=hF _ _ List.mem_cons_self;obtain ⟨hB0,hD7⟩:=bl2 hX3 hB0 hD7;have hb:=aG hb hX3;clear hF hX3;clear hv48
    rcases a with _|_
    ·have HA2:Hid (false=true↔shB [p]=true∧∀ j,j<k+1→shB [(ho l j).c,(ho l j).m,(ho l j).s]=true):=⟨fun h8=>(by cases h8),fun h8=>HA.out.2 ⟨h8.1,fun j hj=>h8.2 j (by omega)⟩⟩
     go_upto_region 9 with fail;refine jp ?_;refine jmm (.bool false) (.bool false) ?_;refine js ?_;refine jmm (.bool false) (.bool false) ?_;refine bV hb hB0 hD7 fun X4 hX4 hb hB0 hD7=>?_;go_upto_region 6 with fail;refine jp ?_;refine jm (vI k) ?_;refine jv (vI ((k+1:Nat):Int)) (bB _ _ _ _ (by rfl) (k:Int) 1 ((k+1:Nat):Int) (by rfl) (by rfl) (by omega) (by omega) (by omega)) ?_;refine jm (vI ((k+1:Nat):Int)) ?_;refine bV hb hB0 hD7 fun X5 hX5 hb hB0 hD7=>?_
     go_wp2
     go_roundw
     case rel=>exact ⟨k+1,false,by omega,rfl,rfl,HA2,hB0,hb⟩
     case measure=>simp [intOf];omega
    ·have HA2:Hid (q=true↔shB [p]=true∧∀ j,j<k+1→shB [(ho l j).c,(ho l j).m,(ho l j).s]=true):=⟨fun h8=>⟨(HA.out.1 rfl).1,fun j hj=>by
      rcases Nat.lt_or_ge j k with h7|h7
      ·exact (HA.out.1 rfl).2 j h7
      ·rw [show j=k by omega,← HX.out,HQ.out]
       exact h8⟩,fun h8=>by
      rw [← HQ.out,HX.out]
      exact h8.2 k (by omega)⟩
     go_upto_region 9 with fail;refine jp ?_;refine bY (.bool true) (.bool true) (.bool q) ?_;refine jmm (.bool q) (.bool q) ?_;refine bV hb hB0 hD7 fun X4 hX4 hb hB0 hD7=>?_;go_upto_region 6 with fail;refine jp ?_;refine jm (vI k) ?_;refine jv (vI ((k+1:Nat):Int)) (bB _ _ _ _ (by rfl) (k:Int) 1 ((k+1:Nat):Int) (by rfl) (by rfl) (by omega) (by omega) (by omega)) ?_;refine jm (vI ((k+1:Nat):Int)) ?_;refine bV hb hB0 hD7 fun X5 hX5 hb hB0 hD7=>?_
     go_wp2
     go_roundw
     case rel=>exact ⟨k+1,q,by omega,rfl,rfl,HA2,hB0,hb⟩
     case measure=>simp [intOf];omega
   ·have HN:Hid (dH p l=a):=by
     show _=_
     rw [HC.out];rw [Bool.eq_iff_iff,Bool.and_eq_true]
     constructor
     ·rintro ⟨h8,h7⟩
      refine HA.out.2 ⟨h8,fun j hj=>?_⟩
      have hj2:j<l.length:=by rw [HLN.out];omega
      rw [gS hj2];exact List.all_eq_true.1 h7 _ (List.getElem_mem hj2)
     ·intro h8
      refine ⟨(HA.out.1 h8).1,List.all_eq_true.2 fun x hx=>?_⟩;obtain ⟨j,hj,rfl⟩:=List.getElem_of_mem hx;rw [← gS hj];exact (HA.out.1 h8).2 j (by rw [HLN.out] at hj;omega)
    go_upto_region 5 with fail;refine jp ?_;refine jm (vI k) ?_;refine jnf hB0 3 aR ?_;refine jv (vI n) (aJ Tryz.underlying24 _ (by rfl) A n cp (by rfl) _ rfl) ?_;refine fD (k:Int) (n:Int) (by omega) ?_;refine bZ hb hB0 fun X1 hX1 hb hB0=>?_;go_upto_region 10 with fail;refine jp ?_;refine jmm (.bool a) (.bool a) ?_;refine bZ hb hB0 fun X2 hX2 hb hB0=>?_
    go_wp2
    go_ret
    exact ⟨by rw [HN.out];rfl,hb⟩
theorem sW (p:Tr) (v:Value) (l:List Ho) (w:World) (hv:Hl l v w):Calls Tryz.prog 5 #[.agg #[.bool p.1,vS p.2.1,vS p.2.2,v],vI 8] w fun e w'=>e=.returned (.bool (dH p l))∧Since w w':=by
 rcases (show (8<l.length∧l.length≤20)∨30<l.length∨(l.length≤8∨(20<l.length∧l.length≤30)) by omega) with h|h|h
 ·exact few40 p v l w hv h.1 h.2
 ·exact qQb p v l w hv h
 ·exact few42 p v l w hv h
theorem wK (i o:Tr) (v:Value) (xs:List Tr) (w:World) (hv:Rl xs v w):Calls Tryz.prog 6 #[.agg #[.bool i.1,vS i.2.1,vS i.2.2,v,.bool o.1,vS o.2.1,vS o.2.2]] w fun e w'=>e=.returned (.bool (gM i xs o))∧Since w w':=by
 obtain ⟨A,n,cp,rfl,hln,_,_⟩:=eB hv
 have HV:Hid (∀ X,Since w X→Rl xs (.slice A n cp) X):=fun X h=>Rl.lasts xs _ _ _ hv h
 have HLN:=Lib.hid hln;clear hv hln;obtain ⟨b1,b19⟩:∃ z,shB xs=z:=⟨_,rfl⟩;have HB1:=Lib.hid b19;clear b19;obtain ⟨b2,b29⟩:∃ z,shB [i,o]=z:=⟨_,rfl⟩;have HB2:=Lib.hid b29;clear b29;obtain ⟨bs,bs9⟩:∃ z,gM i xs o=z:=⟨_,rfl⟩;have HS:=Lib.hid bs9;clear bs9
 have HSE:Hid (bs=(decide (n≤30) && (b1 && b2))):=by
  show _=_
  rw [← HS.out,← HB1.out,← HB2.out,← HLN.out]
  rfl
 go_enter Tryz.func6,Tryz.ntmps6
 go_upto_region 1 with fail;obtain ⟨W0,hW0,hB0,hb⟩:=aZ w 29 [.bool i.1,vS i.2.1,vS i.2.2,.slice A n cp,.bool o.1,vS o.2.1,vS o.2.2];rw [← hW0];clear hW0
 by_cases h9:n≤30
 ·rcases b1 with _|_
  ·have HR:Hid (bs=false):=by
    show _=_
    rw [HSE.out,decide_eq_true h9]
    rfl
   refine jp ?_;refine jnf hB0 3 bA ?_;refine jv (vI n) (aJ Tryz.underlying27 _ (by rfl) A n cp (by rfl) _ rfl) ?_;refine vF (n:Int) 30 (by omega) ?_;refine jm (.bool true) ?_;refine jnf hB0 3 bA ?_;refine jc (.bool false) (fun X hX hF=>mo (mK _ xs X (HV.out X (Since.next hb hX))) (by rw [HB1.out])) ?_;refine jmm (.bool false) (.bool false) ?_;refine hI ?_;refine jss ?_;refine jmm (.bool false) (.bool false) ?_;refine bZ hb hB0 fun X1 hX1 hb hB0=>?_
   go_wp2
   go_ret
   exact ⟨by rw [HS.out,HR.out];rfl,hb⟩
  ·have HR:Hid (bs=b2):=by
    show _=_
    rw [HSE.out,decide_eq_true h9]
    rfl
   refine bC [none,none,none,none,none,none,none,none,none,none,none,none,none,none,some (Rl [i,o])] (aA (aA (aA (aA (aA (aA (aA (aA (aA (aA (aA (aA (aA (aA (aD (Rl.lasts [i,o]) (aF)))))))))))))))) ?_;simp only [iX,Nat.reduceAdd];refine jnf hB0 3 bA ?_;refine jv (vI n) (aJ Tryz.underlying27 _ (by rfl) A n cp (by rfl) _ rfl) ?_;refine vF (n:Int) 30 (by omega) ?_;refine jm (.bool true) ?_;refine jnf hB0 3 bA ?_;refine jc (.bool true) (fun X hX hF=>mo (mK _ xs X (HV.out X (Since.next hb hX))) (by rw [HB1.out])) ?_;refine eK (.bool true) (.bool true) (vP w.heap.size 0) ?_;refine jg (.agg #[.bool i.1,st i.2.1,st i.2.2]) (fun X hX hF=>aK 23 _ (by rfl) w.heap.size 0 [.bool i.1,vS i.2.1,vS i.2.2] (by rfl) Tryz.underlying23 rfl X (hB0.bel hX) (by rfl) aB) ?_;refine jn (vP w.heap.size 4) ?_;refine jg (.agg #[.bool o.1,st o.2.1,st o.2.2]) (fun X hX hF=>aK 23 _ (by rfl) w.heap.size 4 [.bool o.1,vS o.2.1,vS o.2.2] (by rfl) Tryz.underlying23 rfl X (hB0.bel hX) (by rfl) aB) ?_;refine aW (by rfl) (fun X hX hF=>Rl.mk [i,o] 2 rfl (by decide) (by unfold execOp;go_simp;rfl)) ?_;intro v17;simp only [pX];refine jc (.bool b2) (fun X hX hF=>mo (mK _ [i,o] X (hF _ _ List.mem_cons_self rfl)) (by rw [HB2.out])) ?_
   refine jmm (.bool b2) (.bool b2) ?_;refine aH ?_;intro X1 hX1 hF;have hv17:=hF _ _ List.mem_cons_self;replace hB0:=hB0.bel hX1;have hb:=aG hb hX1;clear hF hX1
   go_wp2
   go_ret
   exact ⟨by rw [HS.out,HR.out];rfl,hb⟩
 ·have HR:Hid (bs=false):=by
   show _=_
   rw [HSE.out,decide_eq_false h9]
   rfl
  refine jp ?_;refine jnf hB0 3 bA ?_;refine jv (vI n) (aJ Tryz.underlying27 _ (by rfl) A n cp (by rfl) _ rfl) ?_;refine vG (n:Int) 30 (by omega) ?_;refine jm (.bool false) ?_;refine jss ?_;refine js ?_;refine jmm (.bool false) (.bool false) ?_;refine hI ?_;refine jss ?_;refine jmm (.bool false) (.bool false) ?_;refine bZ hb hB0 fun X1 hX1 hb hB0=>?_
  go_wp2
  go_ret
  exact ⟨by rw [HS.out,HR.out];rfl,hb⟩
theorem qL (v u:Value) (xs:List Tr) (w:World) (hv:Rl xs v w) (hu:Rl xs u w):Calls Tryz.prog 31 #[v,u] w fun e w'=>e=.returned (.bool true)∧Since w w':=by
 obtain ⟨A,n,cp,rfl,hln,hn1,hr⟩:=eB hv;clear hv
 have HRX:Hid (∀ X,Since w X→Rd X 3 (.slice A n cp) n (fl trc xs)):=fun X h=>hr.below h
 have HLN:=Lib.hid hln;obtain ⟨A',n',cp',rfl,hln',_,hr'⟩:=eB hu;clear hu
 have HRY:Hid (∀ X,Since w X→Rd X 3 (.slice A' n' cp') n' (fl trc xs)):=fun X h=>hr'.below h
 have HLM:=Lib.hid hln'
 have hq1:n'≤n:=by omega
 have hq2:n≤n':=by omega
 clear hr' hln';clear hr
 go_enter Tryz.func31,Tryz.ntmps31
 go_upto_region 1 with fail;refine jp ?_;refine jm (.slice A n cp) ?_;refine jv (vI n) (aJ Tryz.underlying27 _ (by rfl) A n cp (by rfl) _ rfl) ?_;refine jm (.slice A' n' cp') ?_;refine jv (vI n') (aJ Tryz.underlying27 _ (by rfl) A' n' cp' (by rfl) _ rfl) ?_;refine jv (.bool false) (bE _ _ _ _ (by rfl) .i64 (n:Int) (n':Int) (by rfl) (by rfl) false (by rw [decide_eq_true (by omega)];rfl)) ?_;refine jz fun X1 hX1=>?_;have hb:Below w.heap.size w X1:=hX1;go_upto_region 3 with fail;refine jp ?_;refine jm (vI 0) ?_;refine jzb hb fun X2 hX2 hb=>?_
 go_wp2
 go_loopw [5] (fun kv wr=>∃ k:Nat,k≤n∧kv=vI k∧Below w.heap.size w wr) (fun kv _=>n-(intOf kv).toNat)
 case atStart=>exact ⟨0,by omega,rfl,hb⟩
 case round =>
  clear hb;obtain ⟨k,hk,rfl,hb⟩:=hrel
  rcases Nat.lt_or_ge k n with hlt|hlt
  ·obtain ⟨b,off,rfl,hbb,hcx⟩:=qO (HRX.out _ hb) HLN.out hlt
   obtain ⟨x,x9⟩:∃ x,x=xt xs k:=⟨_,rfl⟩;have HX:=Lib.hid x9;clear x9;rw [← HX.out] at hcx
   change Cl wr b (off+k * 3) [.bool x.1,vS x.2.1,vS x.2.2] at hcx
   obtain ⟨b2,off2,rfl,hbb2,hcx2⟩:=qO (HRY.out _ hb) HLM.out (show k<n' by omega);rw [← HX.out] at hcx2
   change Cl wr b2 (off2+k * 3) [.bool x.1,vS x.2.1,vS x.2.2] at hcx2
   go_upto_region 4 with fail;refine jp ?_;refine jmm (vI k) (.slice (some ⟨b,off,none⟩) n cp) ?_;refine jv (vI n) (aJ Tryz.underlying27 _ (by rfl) (some ⟨b,off,none⟩) n cp (by rfl) _ rfl) ?_;refine fC (k:Int) (n:Int) (by omega) ?_;refine jzb hb fun X1 hX1 hb=>?_;have hcx:=hcx.below hX1 hbb;have hcx2:=hcx2.below hX1 hbb2;replace hbb:=Nat.lt_of_lt_of_le hbb (hX1).size;replace hbb2:=Nat.lt_of_lt_of_le hbb2 (hX1).size;go_upto_region 6 with fail;refine jd ?_;refine jmm (.slice (some ⟨b,off,none⟩) n cp) (vI k) ?_;refine jv (vP b (off+k * 3)) (aY Tryz.underlying27 aB _ _ (by rfl) b (off) n cp k (by omega) (by rfl) (by rfl) rfl) ?_;refine jg (.agg #[.bool x.1,st x.2.1,st x.2.2]) (fun X hX hF=>bM 23 _ (by rfl) b (off+k * 3) (by rfl) Tryz.underlying23 rfl [.bool x.1,vS x.2.1,vS x.2.2] X (Cl.part (hcx.below hX hbb) 0 _ (by rfl)) aB) ?_;refine jmm (.slice (some ⟨b2,off2,none⟩) n' cp') (vI k) ?_;refine jv (vP b2 (off2+k * 3)) (aY Tryz.underlying27 aB _ _ (by rfl) b2 (off2) n' cp' k (by omega) (by rfl) (by rfl) rfl) ?_;refine jg (.agg #[.bool x.1,st x.2.1,st x.2.2]) (fun X hX hF=>bM 23 _ (by rfl) b2 (off2+k * 3) (by rfl) Tryz.underlying23 rfl [.bool x.1,vS x.2.1,vS x.2.2] X (Cl.part (hcx2.below hX hbb2) 0 _ (by rfl)) aB) ?_;refine jv (.bool false) (cJ _ _ (by rfl) x.1 x.2.1 x.2.2 x.1 x.2.1 x.2.2 (by rfl) (by rfl) false (by simp)) ?_
   refine jzb hb fun X2 hX2 hb=>?_;have hcx:=hcx.below hX2 hbb;have hcx2:=hcx2.below hX2 hbb2;replace hbb:=Nat.lt_of_lt_of_le hbb (hX2).size;replace hbb2:=Nat.lt_of_lt_of_le hbb2 (hX2).size;go_upto_region 5 with fail;refine jp ?_;refine jm (vI k) ?_;refine jv (vI ((k+1:Nat):Int)) (bB _ _ _ _ (by rfl) (k:Int) 1 ((k+1:Nat):Int) (by rfl) (by rfl) (by omega) (by omega) (by omega)) ?_;refine jm (vI ((k+1:Nat):Int)) ?_;refine jzb hb fun X3 hX3 hb=>?_
   go_wp2
   go_roundw
   case rel=>exact ⟨k+1,by omega,rfl,hb⟩
   case measure=>simp [intOf];omega
  ·skip
   go_upto_region 4 with fail;refine jp ?_;refine jmm (vI k) (.slice A n cp) ?_;refine jv (vI n) (aJ Tryz.underlying27 _ (by rfl) A n cp (by rfl) _ rfl) ?_;refine fD (k:Int) (n:Int) (by omega) ?_;refine jzb hb fun X1 hX1 hb=>?_;go_upto_region 8 with fail;refine jp ?_;refine jm (.bool true) ?_;refine jzb hb fun X2 hX2 hb=>?_
   go_wp2
   go_ret
   exact ⟨rfl,hb⟩
theorem sppC (p:Tr) (v u:Value) (l:List Ho) (w:World) (hv:Hl l v w) (hu:Hl l u w):Calls Tryz.prog 30 #[.agg #[.bool p.1,vS p.2.1,vS p.2.2,v],.agg #[.bool p.1,vS p.2.1,vS p.2.2,u]] w fun e w'=>e=.returned (.bool true)∧Since w w':=by
 obtain ⟨A,n,cp,rfl,hln,hn1,hr⟩:=hv.at;clear hv
 have HRX:Hid (∀ X,Since w X→Rd X 9 (.slice A n cp) n (fl hoc l)):=fun X h=>hr.below h
 have HLN:=Lib.hid hln;obtain ⟨A',n',cp',rfl,hln',_,hr'⟩:=hu.at;clear hu
 have HRY:Hid (∀ X,Since w X→Rd X 9 (.slice A' n' cp') n' (fl hoc l)):=fun X h=>hr'.below h
 have HLM:=Lib.hid hln'
 have hq1:n'≤n:=by omega
 have hq2:n≤n':=by omega
 clear hr' hln';clear hr
 go_enter Tryz.func30,Tryz.ntmps30
 go_upto_region 1 with fail;obtain ⟨W0,hW0,hB0,hB1,hb⟩:=cI w 26 26 [.bool p.1,vS p.2.1,vS p.2.2,.slice A n cp] [.bool p.1,vS p.2.1,vS p.2.2,.slice A' n' cp'];rw [← hW0];clear hW0;refine jp ?_;refine jnf hB0 3 aR ?_;refine jv (vI n) (aJ Tryz.underlying24 _ (by rfl) A n cp (by rfl) _ rfl) ?_;refine jnf hB1 3 aR ?_;refine jv (vI n') (aJ Tryz.underlying24 _ (by rfl) A' n' cp' (by rfl) _ rfl) ?_;refine jv (.bool false) (bE _ _ _ _ (by rfl) .i64 (n:Int) (n':Int) (by rfl) (by rfl) false (by rw [decide_eq_true (by omega)];rfl)) ?_;refine jmn (.bool false) (vP w.heap.size 0) ?_;refine jg (.agg #[.bool p.1,st p.2.1,st p.2.2]) (fun X hX hF=>aK 23 _ (by rfl) w.heap.size 0 [.bool p.1,vS p.2.1,vS p.2.2] (by rfl) Tryz.underlying23 rfl X (hB0.bel hX) (by rfl) aB) ?_;refine jn (vP (w.heap.size+1) 0) ?_;refine jg (.agg #[.bool p.1,st p.2.1,st p.2.2]) (fun X hX hF=>aK 23 _ (by rfl) (w.heap.size+1) 0 [.bool p.1,vS p.2.1,vS p.2.2] (by rfl) Tryz.underlying23 rfl X (hB1.bel hX) (by rfl) aB) ?_;refine jv (.bool false) (cJ _ _ (by rfl) p.1 p.2.1 p.2.2 p.1 p.2.1 p.2.2 (by rfl) (by rfl) false (by simp)) ?_;refine jm (.bool false) ?_;refine bV hb hB0 hB1 fun X1 hX1 hb hB0 hB1=>?_;go_upto_region 3 with fail;refine jp ?_
 refine jm (vI 0) ?_;refine bV hb hB0 hB1 fun X2 hX2 hb hB0 hB1=>?_
 go_wp2
 go_loopw [5] (fun kv wr=>∃ k:Nat,k≤n∧kv=vI k∧Blk wr w.heap.size 26 [.bool p.1,vS p.2.1,vS p.2.2,.slice A n cp]∧Blk wr (w.heap.size+1) 26 [.bool p.1,vS p.2.1,vS p.2.2,.slice A' n' cp']∧Below w.heap.size w wr) (fun kv _=>n-(intOf kv).toNat)
 case atStart=>exact ⟨0,by omega,rfl,hB0,hB1,hb⟩
 case round =>
  clear hb hB0 hB1;obtain ⟨k,hk,rfl,hB0,hB1,hb⟩:=hrel
  rcases Nat.lt_or_ge k n with hlt|hlt
  ·obtain ⟨b,off,rfl,hbb,hcx⟩:=iR (HRX.out _ hb) HLN.out hlt
   obtain ⟨x,x9⟩:∃ x,x=ho l k:=⟨_,rfl⟩;have HX:=Lib.hid x9;clear x9;rw [← HX.out] at hcx
   change Cl wr b (off+k * 9) [.bool x.c.1,vS x.c.2.1,vS x.c.2.2,.bool x.m.1,vS x.m.2.1,vS x.m.2.2,.bool x.s.1,vS x.s.2.1,vS x.s.2.2] at hcx
   obtain ⟨b2,off2,rfl,hbb2,hcx2⟩:=iR (HRY.out _ hb) HLM.out (show k<n' by omega);rw [← HX.out] at hcx2
   change Cl wr b2 (off2+k * 9) [.bool x.c.1,vS x.c.2.1,vS x.c.2.2,.bool x.m.1,vS x.m.2.1,vS x.m.2.2,.bool x.s.1,vS x.s.2.1,vS x.s.2.2] at hcx2
   go_upto_region 4 with fail;refine jp ?_;refine jm (vI k) ?_;refine jnf hB0 3 aR ?_;refine jv (vI n) (aJ Tryz.underlying24 _ (by rfl) (some ⟨b,off,none⟩) n cp (by rfl) _ rfl) ?_;refine fC (k:Int) (n:Int) (by omega) ?_;refine bV hb hB0 hB1 fun X1 hX1 hb hB0 hB1=>?_;have hcx:=hcx.below hX1 hbb;have hcx2:=hcx2.below hX1 hbb2;replace hbb:=Nat.lt_of_lt_of_le hbb (hX1).size;replace hbb2:=Nat.lt_of_lt_of_le hbb2 (hX1).size;go_upto_region 6 with fail;refine jd ?_;refine jnf hB0 3 aR ?_;refine jm (vI k) ?_;refine jv (vP b (off+k * 9)) (aY Tryz.underlying24 bF _ _ (by rfl) b (off) n cp k (by omega) (by rfl) (by rfl) rfl) ?_;refine jg (.agg #[.bool x.c.1,st x.c.2.1,st x.c.2.2,.bool x.m.1,st x.m.2.1,st x.m.2.2,.bool x.s.1,st x.s.2.1,st x.s.2.2]) (fun X hX hF=>bM 66 _ (by rfl) b (off+k * 9) (by rfl) Tryz.underlying66 rfl [.bool x.c.1,vS x.c.2.1,vS x.c.2.2,.bool x.m.1,vS x.m.2.1,vS x.m.2.2,.bool x.s.1,vS x.s.2.1,vS x.s.2.2] X (Cl.part (hcx.below hX hbb) 0 _ (by rfl)) bF) ?_;refine jnf hB1 3 aR ?_;refine jm (vI k) ?_;refine jv (vP b2 (off2+k * 9)) (aY Tryz.underlying24 bF _ _ (by rfl) b2 (off2) n' cp' k (by omega) (by rfl) (by rfl) rfl) ?_;refine jg (.agg #[.bool x.c.1,st x.c.2.1,st x.c.2.2,.bool x.m.1,st x.m.2.1,st x.m.2.2,.bool x.s.1,st x.s.2.1,st x.s.2.2]) (fun X hX hF=>bM 66 _ (by rfl) b2 (off2+k * 9) (by rfl) Tryz.underlying66 rfl [.bool x.c.1,vS x.c.2.1,vS x.c.2.2,.bool x.m.1,vS x.m.2.1,vS x.m.2.2,.bool x.s.1,vS x.s.2.1,vS x.s.2.2] X (Cl.part (hcx2.below hX hbb2) 0 _ (by rfl)) bF) ?_
   refine jv (.bool false) (rI _ _ (by rfl) x (by rfl) (by rfl)) ?_;refine bV hb hB0 hB1 fun X2 hX2 hb hB0 hB1=>?_;have hcx:=hcx.below hX2 hbb;have hcx2:=hcx2.below hX2 hbb2;replace hbb:=Nat.lt_of_lt_of_le hbb (hX2).size;replace hbb2:=Nat.lt_of_lt_of_le hbb2 (hX2).size;go_upto_region 5 with fail;refine jp ?_;refine jm (vI k) ?_;refine jv (vI ((k+1:Nat):Int)) (bB _ _ _ _ (by rfl) (k:Int) 1 ((k+1:Nat):Int) (by rfl) (by rfl) (by omega) (by omega) (by omega)) ?_;refine jm (vI ((k+1:Nat):Int)) ?_;refine bV hb hB0 hB1 fun X3 hX3 hb hB0 hB1=>?_
   go_wp2
   go_roundw
   case rel=>exact ⟨k+1,by omega,rfl,hB0,hB1,hb⟩
   case measure=>simp [intOf];omega
  ·skip
   go_upto_region 4 with fail;refine jp ?_;refine jm (vI k) ?_;refine jnf hB0 3 aR ?_;refine jv (vI n) (aJ Tryz.underlying24 _ (by rfl) A n cp (by rfl) _ rfl) ?_;refine fD (k:Int) (n:Int) (by omega) ?_;refine bV hb hB0 hB1 fun X1 hX1 hb hB0 hB1=>?_;go_upto_region 8 with fail;refine jp ?_;refine jm (.bool true) ?_;refine bV hb hB0 hB1 fun X2 hX2 hb hB0 hB1=>?_
   go_wp2
   go_ret
   exact ⟨rfl,hb⟩
theorem nY (x t:Int) (w:World) (hx:eA x=true) (ht:eA t=true) (h0:t≠0):Calls Tryz.prog 35 #[vI x,vI t] w fun e w'=>e=.returned (rbv (rk x t))∧Since w w':=by
 go_enter Tryz.func35,Tryz.ntmps35
 go_upto_region 1 with fail;obtain ⟨W0,hW0,hB0,hb⟩:=aZ w 23 [.bool false,.string ⟨#[]⟩,.string ⟨#[]⟩];rw [← hW0];clear hW0;refine jq 6 ?_;refine jmm (vI x) (vI t) ?_;refine jc (.tuple #[rt (rN (rk x t)) (rP (rk x t)) (rD (rk x t)),vI 0]) (fun X hX hF=>makeC x t X hx ht h0) ?_;refine bY (.tuple #[rt (rN (rk x t)) (rP (rk x t)) (rD (rk x t)),vI 0]) (rt (rN (rk x t)) (rP (rk x t)) (rD (rk x t))) (vI 0) ?_;refine bZ hb hB0 fun X1 hX1 hb hB0=>?_;go_upto_region 2 with (refine osn 23 5 11 #[.bool (rN (rk x t)),vS (rP (rk x t)),vS (rD (rk x t))] aB ?_);obtain ⟨Y1,hY9,hD5,hS9⟩:=aZ X1 23 [.bool (rN (rk x t)),vS (rP (rk x t)),vS (rD (rk x t))];rw [← hY9];clear hY9;have hgs5:=hb.size;have hlt5x0:=hB0.lt;have hB0:=hB0.bel hS9;have hb:=aG hb hS9;clear hS9;generalize X1.heap.size=g5 at *;refine jq 1 ?_;refine ja hD5 Tryz.underlying23 (by rfl) aB ?_;refine bV hb hB0 hD5 fun X2 hX2 hb hB0 hD5=>?_;refine osb 23 4 13 w.heap.size 23 hB0 [.bool (rN (rk x t)),vS (rP (rk x t)),vS (rD (rk x t))] aB ?_;intro w9 hR9 hO9 hB9 hs9;have hb9:=hB9 _ _ hb (by omega);clear hO9 hB9
 go_wp2
 refine aX rfl rfl (by rfl) Tryz.underlying23 rfl hR9 aB ⟨rfl,hb9⟩
theorem vH {L:List Int} {k:Nat} (h:k<L.length):fl rc ((L.take (k+1)).map ri)=fl rc ((L.take k).map ri)++rc (ri (wt L k)):=by
 rw [List.take_add_one,List.getElem?_eq_getElem h,vY h,List.map_append,pP]
 simp [fl]
theorem rB (v:Value) (L:List Int) (w:World) (hv:Ks L v w) (hl:L.length≤100) (hin:Hid (∀ k,eA (wt L k)=true)):Calls Tryz.prog 34 #[v] w fun e w'=>∃ u,e=.returned u∧Rq (L.map ri) u w'∧Since w w':=by
 obtain ⟨A,n,cp,rfl,hln,hn1,hr⟩:=hv.at;clear hv
 have HRX:Hid (∀ X,Since w X→Rd X 1 (.slice A n cp) n (L.map I64)):=fun X h=>hr.below h
 have HLN:=Lib.hid hln
 have hn9:n≤100:=by omega
 clear hr
 go_enter Tryz.func34,Tryz.ntmps34
 go_upto_region 1 with fail;refine jp ?_;refine jm (.slice none 0 0) ?_;refine jz fun X1 hX1=>?_;have hb:Below w.heap.size w X1:=hX1;go_upto_region 2 with fail;refine jp ?_;refine jm (.slice A n cp) ?_;refine jv (vI n) (aJ Tryz.underlying99 _ (by rfl) A n cp (by rfl) _ rfl) ?_;refine jm (vI 0) ?_;refine jzb hb fun X2 hX2 hb=>?_
 go_wp2
 go_loopw [3,8] (fun sv kv wr=>∃ (k c6:Nat) (A6:Option Addr),k≤n∧sv=.slice A6 k c6∧kv=vI k∧wr.ownsRow w.heap.size 23 3 (.slice A6 k c6) k (fl rc ((L.take k).map ri))∧Below w.heap.size w wr) (fun _ kv _=>n-(intOf kv).toNat)
 case atStart=>exact ⟨0,0,none,by omega,rfl,rfl,⟨rfl,.inl ⟨rfl,rfl⟩⟩,hb⟩
 case round =>
  clear hb;obtain ⟨k,c6,A6,hk,rfl,rfl,hOW,hb⟩:=hrel
  rcases Nat.lt_or_ge k n with hlt|hlt
  ·obtain ⟨b,off,rfl,hbb,hcx⟩:=wtIn (HRX.out _ hb) HLN.out hlt
   obtain ⟨x,x9⟩:∃ x,x=wt L k:=⟨_,rfl⟩;have HX:=Lib.hid x9
   have hxi:eA x=true:=by rw [x9];exact hin.out k
   clear x9;rw [← HX.out] at hcx;go_upto_region 3 with fail;refine jp ?_;refine fC (k:Int) (n:Int) (by omega) ?_;refine jzb hb fun X1 hX1 hb=>?_;replace hOW:=aC hOW hX1;have hcx:=hcx.below hX1 hbb;replace hbb:=Nat.lt_of_lt_of_le hbb (hX1).size;go_upto_region 4 with fail;refine jp ?_;refine jv (vP b (off+k * 1)) (aY Tryz.underlying99 zZ _ _ (by rfl) b (off) n cp k (by omega) (by rfl) (by rfl) rfl) ?_;refine jg (vI x) (fun X hX hF=>bN 3 _ (by rfl) b (off+k * 1) (by rfl) _ X ((hcx.below hX hbb) 0 _ rfl) (fun X u h=>xP b (off+k * 1) X u h)) ?_;refine jm (vI x) ?_;refine jzb hb fun X2 hX2 hb=>?_;replace hOW:=aC hOW hX2;have hcx:=hcx.below hX2 hbb;replace hbb:=Nat.lt_of_lt_of_le hbb (hX2).size;have hszA:=hb.size;go_upto_region 5 with fail
   have hbA:w.heap.size≤X2.heap.size:=by omega
   refine xU (⟨w.heap.size,23,3,.slice A6 k c6,k,(fl rc ((L.take k).map ri)),[.bool (rN (ri x)),vS (rP (ri x)),vS (rD (ri x))]⟩:Ar) 4 [none,none,none,some (Anew (⟨w.heap.size,23,3,.slice A6 k c6,k,(fl rc ((L.take k).map ri)),[.bool (rN (ri x)),vS (rP (ri x)),vS (rD (ri x))]⟩:Ar) 23),some (Aout (⟨w.heap.size,23,3,.slice A6 k c6,k,(fl rc ((L.take k).map ri)),[.bool (rN (ri x)),vS (rP (ri x)),vS (rD (ri x))]⟩:Ar))] (jC (jC (jC (lX (fun v X Y h hR=>Anew.lasts v X Y h hR) (lX (fun v X Y h hR=>Aout.lasts v X Y h hR) (xV)))))) ?_;simp only [iB,Nat.reduceAdd];refine am (.slice A6 k c6) ?_;refine am (vI x) ?_;refine ac hOW hbA (f:=33) (args:=[vI x]) (.agg #[.bool (rN (ri x)),vS (rP (ri x)),vS (rD (ri x))]) (fun X σ hX hF=>eH x X hxi) ?_;refine ab hOW 23 (fun X=>by unfold execOp;go_simp) ?_;intro v15;refine aa hOW hbA 23 3 v15 List.mem_cons_self Tryz.underlying27 mY rfl (show 0<3 by decide) (by rfl) (al3 rfl rfl rfl) (show k+1≤maxLen by unfold maxLen;omega) (show (k+1) * 40≤140737488355328 by omega) ?_;intro v16;refine am (v16) ?_;refine az hOW hbA ?_;intro X3 σ hX hF;have hO16:X3.ownsRow w.heap.size 23 3 v16 (k+1) ((fl rc ((L.take k).map ri))++[.bool (rN (ri x)),vS (rP (ri x)),vS (rD (ri x))]):=(hF _ _ List.mem_cons_self).2
   have hb:=hb.trans (hX.below.mono (show w.heap.size≤w.heap.size by omega));clear hF ;obtain ⟨A7,c7,rfl,_,_⟩:=(Rd.of_own hO16).form;clear hOW
   have hOW:X3.ownsRow w.heap.size 23 3 (.slice A7 (k+1) c7) (k+1) (fl rc ((L.take (k+1)).map ri)):=by rw [vH (by rw [HLN.out];exact hlt),← HX.out];exact hO16
   clear hO16;go_upto_region 6 with fail;refine jp ?_;refine jv (vI ((k+1:Nat):Int)) (bB _ _ _ _ (by rfl) (k:Int) 1 ((k+1:Nat):Int) (by rfl) (by rfl) (by omega) (by omega) (by omega)) ?_;refine jm (vI ((k+1:Nat):Int)) ?_;refine jzb hb fun X4 hX4 hb=>?_;replace hOW:=aC hOW hX4
   go_wp2
   go_roundw
   case rel=>exact ⟨k+1,c7,A7,by omega,rfl,rfl,hOW,hb⟩
   case measure=>simp [intOf];omega
  ·have hkl:L.length≤k:=by rw [HLN.out];exact hlt
   go_upto_region 3 with fail;refine jp ?_;refine fD (k:Int) (n:Int) (by omega) ?_;refine jzb hb fun X1 hX1 hb=>?_;replace hOW:=aC hOW hX1;go_upto_region 7 with fail;refine jp ?_;refine jmm (.slice A6 k c6) (.slice A6 k c6) ?_;refine jzb hb fun X2 hX2 hb=>?_;replace hOW:=aC hOW hX2
   go_wp2
   go_ret
   exact ⟨_,rfl,(by have h9:=rY hOW (by rw [List.length_map,List.length_take];have:=HLN.out;omega);rw [List.take_of_length_le hkl] at h9;exact h9),hb⟩
theorem qYz (a b c:Int) (w:World) (ha:eA a=true) (hb:eA b=true) (hc:eA c=true):Calls Tryz.prog 72 #[vI a,vI b,vI c] w fun e w'=>e=.returned (.agg #[.bool (rN (ri a)),vS (rP (ri a)),vS (rD (ri a)),.bool (rN (ri b)),vS (rP (ri b)),vS (rD (ri b)),.bool (rN (ri c)),vS (rP (ri c)),vS (rD (ri c))])∧Since w w':=by
 have ha:=ha;have h9b:=hb;have h9c:=hc;clear hb
 go_enter Tryz.func72,Tryz.ntmps72
 go_upto_region 1 with fail;obtain ⟨W0,hW0,hB0,hb⟩:=aZ w 66 [.bool false,.string ⟨#[]⟩,.string ⟨#[]⟩,.bool false,.string ⟨#[]⟩,.string ⟨#[]⟩,.bool false,.string ⟨#[]⟩,.string ⟨#[]⟩];rw [← hW0];clear hW0;refine jq 7 ?_;refine jm (vI a) ?_;refine jc (rt (rN (ri a)) (rP (ri a)) (rD (ri a))) (fun X hX hF=>eH a X ha) ?_;refine jm (vI b) ?_;refine jc (rt (rN (ri b)) (rP (ri b)) (rD (ri b))) (fun X hX hF=>eH b X h9b) ?_;refine jm (vI c) ?_;refine jc (rt (rN (ri c)) (rP (ri c)) (rD (ri c))) (fun X hX hF=>eH c X h9c) ?_;refine jn (.agg #[.bool (rN (ri a)),st (rP (ri a)),st (rD (ri a)),.bool (rN (ri b)),st (rP (ri b)),st (rD (ri b)),.bool (rN (ri c)),st (rP (ri c)),st (rD (ri c))]) ?_;refine bZ hb hB0 fun X1 hX1 hb hB0=>?_;refine osb 66 6 13 w.heap.size 66 hB0 [.bool (rN (ri a)),vS (rP (ri a)),vS (rD (ri a)),.bool (rN (ri b)),vS (rP (ri b)),vS (rD (ri b)),.bool (rN (ri c)),vS (rP (ri c)),vS (rD (ri c))] bF ?_;intro w9 hR9 hO9 hB9 hs9;have hb9:=hB9 _ _ hb (by omega);clear hO9 hB9
 go_wp2
 refine aX rfl rfl (by rfl) Tryz.underlying66 rfl hR9 bF ⟨rfl,hb9⟩
theorem exC (w:World):Calls Tryz.prog 32 #[] w fun e w'=>∃ u,e=.returned (.agg #[.bool (rN (ri 100)),vS (rP (ri 100)),vS (rD (ri 100)),u])∧Ohb w.heap.size exL u w'∧Since w w':=by
 go_enter Tryz.func32,Tryz.ntmps32
 go_upto_region 1 with fail;obtain ⟨W0,hW0,hB0,hb⟩:=aZ w 26 [.bool false,.string ⟨#[]⟩,.string ⟨#[]⟩,.slice none 0 0];rw [← hW0];clear hW0;refine jp ?_;refine jm (.func (.func 72) #[] #[]) ?_;refine bZ hb hB0 fun X1 hX1 hb hB0=>?_;have hwB:=hB0.lt;go_upto_region 2 with fail;refine aV 8 [none,none,none,none,none,none,none,some (Ohb X1.heap.size exL)] (aA (aA (aA (aA (aA (aA (aA (aD (Ohb.lasts _ _) (aF))))))))) ?_;simp only [its,List.take,List.drop,Nat.zero_add,Nat.reduceAdd];refine jc (rt (rN (ri 100)) (rP (ri 100)) (rD (ri 100))) (fun X hX hF=>eH 100 X (by decide)) ?_;refine jm (.func (.func 72) #[] #[]) ?_;refine gP (by rfl) 72 _ _ _ (by rfl) (by rfl) (.agg #[.bool (rN (ri 10)),vS (rP (ri 10)),vS (rD (ri 10)),.bool (rN (ri 20)),vS (rP (ri 20)),vS (rD (ri 20)),.bool (rN (ri 1)),vS (rP (ri 1)),vS (rD (ri 1))]) [vI 10,vI 20,vI 1] (by rfl) (by kernel_rfl) (fun _=>by go_simp) (fun X hX hF=>qYz 10 20 1 X (by decide) (by decide) (by decide)) ?_;simp only [pX];refine jm (.func (.func 72) #[] #[]) ?_;refine gP (by rfl) 72 _ _ _ (by rfl) (by rfl) (.agg #[.bool (rN (ri 0)),vS (rP (ri 0)),vS (rD (ri 0)),.bool (rN (ri 50)),vS (rP (ri 50)),vS (rD (ri 50)),.bool (rN (ri 2)),vS (rP (ri 2)),vS (rD (ri 2))]) [vI 0,vI 50,vI 2] (by rfl) (by kernel_rfl) (fun _=>by go_simp) (fun X hX hF=>qYz 0 50 2 X (by decide) (by decide) (by decide)) ?_
 simp only [pX];refine jm (.func (.func 72) #[] #[]) ?_;refine gP (by rfl) 72 _ _ _ (by rfl) (by rfl) (.agg #[.bool (rN (ri 30)),vS (rP (ri 30)),vS (rD (ri 30)),.bool (rN (ri 60)),vS (rP (ri 60)),vS (rD (ri 60)),.bool (rN (ri 1)),vS (rP (ri 1)),vS (rD (ri 1))]) [vI 30,vI 60,vI 1] (by rfl) (by kernel_rfl) (fun _=>by go_simp) (fun X hX hF=>qYz 30 60 1 X (by decide) (by decide) (by decide)) ?_;simp only [pX];refine aW (by rfl) (fun X hX hF=>qYh hX.size (by unfold execOp;go_simp;rfl)) ?_;intro v9;simp only [pX];refine aH ?_;intro X2 hX2 hF;have hv9:=hF _ _ List.mem_cons_self;replace hB0:=hB0.bel hX2;have hb:=aG hb hX2;clear hF hX2;obtain ⟨gx,rfl,hgx,hBx⟩:=hv9
 change Blk X2 gx 66 (fl hoc exL) at hBx
 refine sG rfl (.agg #[.bool (rN (ri 100)),vS (rP (ri 100)),vS (rD (ri 100)),.slice (some ⟨gx,0,none⟩) 3 3]) (by unfold execOp;go_simp;rfl) ?_;refine aS rfl 26 (.tmp 0) (.tmp 10) rfl w.heap.size 26 _ hB0 rfl [.bool (rN (ri 100)),vS (rP (ri 100)),vS (rD (ri 100)),.slice (some ⟨gx,0,none⟩) 3 3] rfl (by rfl) (al4 rfl rfl rfl rfl) aL ?_;intro w9 hR9 hG9;have hb:=aN hG9 hb hb.size (by omega);have hBx:=aE hG9 hBx (by omega)
 go_wp2
 refine aX rfl rfl (by rfl) Tryz.underlying26 rfl hR9 aL ⟨_,rfl,⟨gx,rfl,by omega,hBx⟩,hb⟩
theorem mX (d:Pd) (u z pv:Value) (m:Int) (w:World) (hz:Rl (d.q.map tr) z w) (hp:Rl (d.q.map tr) pv w) (hm:eA m=true) (hr:d.r=ri m):Calls Tryz.prog 36 #[.agg #[.bool (d).p.1,vS (d).p.2.1,vS (d).p.2.2,u,z,.bool (rN d.r),vS (rP d.r),vS (rD d.r)],vI 0,pv,vI m] w fun e w'=>e=.returned (.bool true)∧Since w w':=by
 obtain ⟨A,n,cp,rfl,_⟩:=eB hz
 have HZ:Hid (∀ X,Since w X→Rl (d.q.map tr) (.slice A n cp) X∧Rl (d.q.map tr) pv X):=fun X h=>⟨Rl.lasts _ _ _ _ hz h,Rl.lasts _ _ _ _ hp h⟩
 clear hz hp;have HRR:=Lib.hid hr;clear hr
 go_enter Tryz.func36,Tryz.ntmps36
 go_upto_region 1 with fail;obtain ⟨W0,hW0,hB0,hb⟩:=aZ w 41 [.bool (d).p.1,vS (d).p.2.1,vS (d).p.2.2,u,.slice A n cp,.bool (rN d.r),vS (rP d.r),vS (rD d.r)];rw [← hW0];clear hW0;refine jd ?_;refine jm (vI 0) ?_;refine pH 0 0 (by omega) ?_;refine jm (.bool true) ?_;refine jnf hB0 4 bA ?_;refine jm (pv) ?_;refine jc (.bool true) (fun X hX hF=>qL _ _ (d.q.map tr) X (HZ.out X (Since.next hb hX)).1 (HZ.out X (Since.next hb hX)).2) ?_;refine eK (.bool true) (.bool true) (vP w.heap.size 5) ?_;refine jg (rt (rN d.r) (rP d.r) (rD d.r)) (fun X hX hF=>aK 23 _ (by rfl) w.heap.size 5 [.bool (rN d.r),vS (rP d.r),vS (rD d.r)] (by rfl) Tryz.underlying23 rfl X (hB0.bel hX) (by rfl) aB) ?_;refine jm (vI m) ?_;refine jc (rt (rN d.r) (rP d.r) (rD d.r)) (fun X hX hF=>mo (eH m X hm) (by rw [HRR.out];rfl)) ?_;refine jv (.bool true) (eZ _ _ (by rfl) (rN d.r) (rP d.r) (rD d.r) (rN d.r) (rP d.r) (rD d.r) (by rfl) (by rfl) true (dU rfl)) ?_;refine jmm (.bool true) (.bool true) ?_;refine bZ hb hB0 fun X1 hX1 hb hB0=>?_
 go_wp2
 go_ret
 exact ⟨rfl,hb⟩
theorem ltoC (p:Tr) (v:Value) (l:List Ho) (w:World) (hv:Hl l v w) (hs:Hid (Szp l 40000)) (hp:tz p.2.1 p.2.2 1000000):Calls Tryz.prog 27 #[.agg #[.bool p.1,vS p.2.1,vS p.2.2,v]] w fun e w'=>e=.returned (rbv (toV p l))∧Since w w':=by
 have HV:Hid (∀ X,Since w X→Hl l v X):=fun X h=>Hl.lasts l _ _ _ hv h
 clear hv
 go_enter Tryz.func27,Tryz.ntmps27
 go_upto_region 1 with fail;obtain ⟨W0,hW0,hB0,hB1,hb⟩:=cI w 26 23 [.bool p.1,vS p.2.1,vS p.2.2,v] [.bool false,.string ⟨#[]⟩,.string ⟨#[]⟩];rw [← hW0];clear hW0;refine jq 5 ?_;refine ja hB0 Tryz.underlying26 (by rfl) aL ?_;refine jc (.tuple #[rt (rN (toV p l)) (rP (toV p l)) (rD (toV p l)),vI (chE p l)]) (fun X hX hF=>wB p v l X (HV.out X (Since.next hb hX)) hs hp) ?_;refine bY (.tuple #[rt (rN (toV p l)) (rP (toV p l)) (rD (toV p l)),vI (chE p l)]) (rt (rN (toV p l)) (rP (toV p l)) (rD (toV p l))) (vI (chE p l)) ?_;refine bV hb hB0 hB1 fun X1 hX1 hb hB0 hB1=>?_;go_upto_region 2 with (refine osn 23 3 8 #[.bool (rN (toV p l)),vS (rP (toV p l)),vS (rD (toV p l))] aB ?_);obtain ⟨Y1,hY9,hD3,hS9⟩:=aZ X1 23 [.bool (rN (toV p l)),vS (rP (toV p l)),vS (rD (toV p l))];rw [← hY9];clear hY9;have hgs3:=hb.size;have hlt3x0:=hB0.lt;have hlt3x1:=hB1.lt;obtain ⟨hB0,hB1⟩:=bl2 hS9 hB0 hB1;have hb:=aG hb hS9;clear hS9;generalize X1.heap.size=g3 at *;refine jq 1 ?_;refine ja hD3 Tryz.underlying23 (by rfl) aB ?_;refine bD hb hB0 hB1 hD3 fun X2 hX2 hb hB0 hB1 hD3=>?_;refine osb 23 2 10 (w.heap.size+1) 23 hB1 [.bool (rN (toV p l)),vS (rP (toV p l)),vS (rD (toV p l))] aB ?_;intro w9 hR9 hO9 hB9 hs9;have hb9:=hB9 _ _ hb (by omega);clear hO9 hB9
 go_wp2
 refine aX rfl rfl (by rfl) Tryz.underlying23 rfl hR9 aB ⟨rfl,hb9⟩
end Go.Proofs.YtnfpenhldlfafaaGreatDoor

/- The reference of layer 44: with, Post, day, sum. -/
import Derived.Test.YtffgfkcljcollaaGreatDoorRa44
import Derived.Test.YtffgfkcljcollaaGreatDoorLp
set_option linter.unusedSimpArgs false
set_option linter.unusedVariables false
set_option maxRecDepth 100000
set_option maxHeartbeats 1600000
namespace Go.Proofs.YtffgfkcljcollaaGreatDoor
open Go.RowKit
theorem aR:(Tryz.prog.info? 45).map (·.size)=some 3:=by kernel_rfl
theorem cV:(Tryz.prog.info? 50).map (·.size)=some 4:=by kernel_rfl
theorem cJ:(Tryz.prog.info? 56).map (·.size)=some 2:=by kernel_rfl
theorem gY:(Tryz.prog.info? 62).map (·.size)=some 2:=by kernel_rfl
theorem pmk0 {P:Program} {f:Operand→Value} {o:Oper} (T:TypeId) {X:World} (hr:(execOp f o).run P X=.ok (.value (.slice (some ⟨X.heap.size,0,none⟩) 0 0)) (X.alloc (.cells #[] T))):(execOp f o).run P X=.ok (.value (.slice (some ⟨X.heap.size,0,none⟩) 0 0)) (X.alloc (.cells #[] T)):=hr
theorem pmk1 {P:Program} {f:Operand→Value} {o:Oper} (T:TypeId) (cs:List Value) {X:World} (hr:(execOp f o).run P X=.ok (.value (.slice (some ⟨X.heap.size,0,none⟩) 1 1)) (X.alloc (.cells cs.toArray T))):(execOp f o).run P X=.ok (.value (.slice (some ⟨X.heap.size,0,none⟩) 1 1)) (X.alloc (.cells cs.toArray T)):=hr
theorem jP {P:Program} {f:Operand→Value} {o:Oper} (s x:Operand) (t:TypeId) (ho:o.op=.call { callee:=.builtin .append,args:=#[s,x],argTypes:=#[t,t] }) {vs vx:Value} (hs:f s=vs) (hx:f x=vx) {v':Value} {X X':World} (hr:(Builtin.append_ #[t,t] o.type #[vs,vx]).run P X=.ok v' X'):(execOp f o).run P X=.ok (.value v') X':=by
 unfold execOp
 simp only [ho,resolve,invoke,builtin,Sem.run_bind,Sem.run_pure,Result.andThen_ok,List.map_toArray,List.map_cons,List.map_nil,hs,hx,hr]
def Bo (c:Int) (l:List En) (e:Int) (v:Value) (X:World):Prop:=∃ u,v=.agg #[vI c,u,vI e]∧Es l u X
theorem Bo.lasts (c:Int) (l:List En) (e:Int):dF (Bo c l e):=by
 rintro v X Y ⟨u,h1,h2⟩ hS
 exact ⟨u,h1,Es.lasts l _ _ _ h2 hS⟩
theorem rwt0 (c:Int) (v:Value) (l:List En) (x:En) (w:World) (hv:Es l v w) (h0:0<l.length) (hd:x.day<(en l (l.length-1)).day):Calls Tryz.prog 30 #[.agg #[vI c,v],.agg #[vI x.day,vI x.deb,vI x.cre,.bool x.am.1,vS x.am.2.1,vS x.am.2.2,vI x.kd,vI x.pd,vI x.rf,vI x.w1,vI x.w2,vI x.w3,vI x.w4]] w fun e w'=>∃ u,e=.returned u∧Bo (ifz (dD l x) c) (wiL l x) (dD l x) u w'∧Since w w':=by
 obtain ⟨A,n,cp,rfl,hln,hn1,hr⟩:=hv.at;clear hv;have HRX:=bV hr;have HLN:=Lib.hid hln;clear hr;have HES:=cA HLN HRX
 go_enter Tryz.func30,Tryz.ntmps30
 go_upto_region 1 with fail;obtain ⟨W0,hW0,hB0,hB1,hB2,hb⟩:=bO w 24 32 45 [vI c,.slice A n cp] (eL x) [vI 0,.slice none 0 0,vI 0];rw [← hW0];clear hW0;refine jp ?_;refine jn (vP w.heap.size 1) ?_;refine jf _ hB0 1 aK ?_;refine jv (vI n) (aN Tryz.underlying22 _ (by rfl) A n cp (by rfl) _ rfl) ?_;refine jm (vI n) ?_;refine jzb hb fun X1 hX1 hb=>?_;obtain ⟨hB0,hB1,hB2⟩:=bl3 hX1 hB0 hB1 hB2
 have hnp:0<n:=by rw [← HLN.out];exact h0
 obtain ⟨j,hj9⟩:∃ j,n=j+1:=⟨n-1,by omega⟩;have HJ:=Lib.hid hj9
 have hj1:j<n:=by omega
 have hj2:n≤j+1:=by omega
 clear hj9;obtain ⟨b,off,rfl,hbb,hcx⟩:=fI (HRX.out _ hb) HLN.out (k:=j) (by omega);obtain ⟨p,p9⟩:∃ p,p=en l (l.length-1):=⟨_,rfl⟩;have HP:=Lib.hid p9;clear p9;rw [show en l j=p by rw [HP.out,HLN.out,HJ.out,Nat.add_sub_cancel]] at hcx
 change Cl X1 b (off+j * 13) (eL p) at hcx
 have hdp:x.day<p.day:=by rw [HP.out];exact hd
 have HE:Hid (dD l x=15):=by
  show _=_
  unfold dD
  rw [if_pos ⟨h0,hd⟩]
 go_upto_region 2 with fail;refine jd ?_;refine jm (vI n) ?_;refine dV (n:Int) 0 (by omega) ?_;refine jm (.bool true) ?_;refine jn (vP (w.heap.size+1) 0) ?_;refine jf _ hB1 0 aB ?_;refine jn (vP w.heap.size 1) ?_;refine jf _ hB0 1 aK ?_;refine jm (vI n) ?_;refine jv (vI j) (bM _ _ _ _ (by rfl) (n:Int) 1 (j:Int) (by rfl) (by rfl) (by omega) (by omega) (by omega)) ?_;refine jv (vI j) (eK _ _ (by rfl) .i64 0 (j:Int) (j:Int) (by rfl) (by rfl) (by omega)) ?_;refine jv (vP b (off+j * 13)) (aW Tryz.underlying22 aI _ _ (by rfl) b (off) n cp j (by omega) (by rfl) (by rfl) rfl) ?_;refine jn (vP b (off+j * 13)) ?_;refine jg (vI p.day) (fun X hX hF=>aV 3 _ (by rfl) b (off+j * 13) (by rfl) _ X ((hcx.below hX hbb) 0 _ rfl) (fun X u h=>aB b (off+j * 13) X u h)) ?_;refine cP x.day p.day (by omega) ?_;refine jm (.bool true) ?_;refine jzb hb fun X2 hX2 hb=>?_;obtain ⟨hB0,hB1,hB2⟩:=bl3 hX2 hB0 hB1 hB2;have hcx:=hcx.below hX2 hbb;replace hbb:=Nat.lt_of_lt_of_le hbb (hX2).size
 have HL:Hid (wiL l x=[]):=by
  show _=_
  unfold wiL
  rw [HE.out,if_neg (by decide)]
 go_upto_region 3 with fail;refine jq 1 ?_;refine jn (.agg #[vI 0,.slice none 0 0,vI 15]) ?_;refine jzb hb fun X3 hX3 hb=>?_;obtain ⟨hB0,hB1,hB2⟩:=bl3 hX3 hB0 hB1 hB2;refine osb 45 4 24 (w.heap.size+2) 45 hB2 [vI 0,.slice none 0 0,vI 15] aR ?_;intro w9 hR9 hO9 hB9 hs9;have hb9:=hB9 _ _ hb (by omega);have hB0:=hO9 _ _ _ (by omega) hB0;have hB1:=hO9 _ _ _ (by omega) hB1;clear hO9 hB9
 go_wp2
 refine aL rfl rfl (by rfl) Tryz.underlying45 rfl hR9 aR ⟨_,rfl,⟨.slice none 0 0,by rw [HE.out];rfl,by rw [HL.out];exact bW _⟩,hb9⟩
theorem rwt1 (c:Int) (v:Value) (l:List En) (x:En) (w:World) (hv:Es l v w) (hd:¬ (0<l.length∧x.day<(en l (l.length-1)).day)) (hlen:4000≤l.length):Calls Tryz.prog 30 #[.agg #[vI c,v],.agg #[vI x.day,vI x.deb,vI x.cre,.bool x.am.1,vS x.am.2.1,vS x.am.2.2,vI x.kd,vI x.pd,vI x.rf,vI x.w1,vI x.w2,vI x.w3,vI x.w4]] w fun e w'=>∃ u,e=.returned u∧Bo (ifz (dD l x) c) (wiL l x) (dD l x) u w'∧Since w w':=by
 obtain ⟨A,n,cp,rfl,hln,hn1,hr⟩:=hv.at;clear hv;have HRX:=bV hr;have HLN:=Lib.hid hln;clear hr;have HES:=cA HLN HRX
 go_enter Tryz.func30,Tryz.ntmps30
 go_upto_region 1 with fail;obtain ⟨W0,hW0,hB0,hB1,hB2,hb⟩:=bO w 24 32 45 [vI c,.slice A n cp] (eL x) [vI 0,.slice none 0 0,vI 0];rw [← hW0];clear hW0;refine jp ?_;refine jn (vP w.heap.size 1) ?_;refine jf _ hB0 1 aK ?_;refine jv (vI n) (aN Tryz.underlying22 _ (by rfl) A n cp (by rfl) _ rfl) ?_;refine jm (vI n) ?_;refine jzb hb fun X1 hX1 hb=>?_;obtain ⟨hB0,hB1,hB2⟩:=bl3 hX1 hB0 hB1 hB2;rw [hln] at hlen
 have HE:Hid (dD l x=2):=by
  show _=_
  unfold dD
  rw [if_neg (fun h9=>hd h9),if_pos (by rw [HLN.out];exact hlen)]
 have hnp:0<n:=by omega
 obtain ⟨j,hj9⟩:∃ j,n=j+1:=⟨n-1,by omega⟩;have HJ:=Lib.hid hj9
 have hj1:j<n:=by omega
 have hj2:n≤j+1:=by omega
 clear hj9;obtain ⟨b,off,rfl,hbb,hcx⟩:=fI (HRX.out _ hb) HLN.out (k:=j) (by omega);obtain ⟨p,p9⟩:∃ p,p=en l (l.length-1):=⟨_,rfl⟩;have HP:=Lib.hid p9;clear p9;rw [show en l j=p by rw [HP.out,HLN.out,HJ.out,Nat.add_sub_cancel]] at hcx
 change Cl X1 b (off+j * 13) (eL p) at hcx
 have hdp:¬ x.day<p.day:=fun h9=>hd ⟨by rw [HLN.out];omega,by rw [← HP.out];exact h9⟩
 go_upto_region 2 with fail;refine jd ?_;refine jm (vI n) ?_;refine dV (n:Int) 0 (by omega) ?_;refine jm (.bool true) ?_;refine jn (vP (w.heap.size+1) 0) ?_;refine jf _ hB1 0 aB ?_;refine jn (vP w.heap.size 1) ?_;refine jf _ hB0 1 aK ?_;refine jm (vI n) ?_;refine jv (vI j) (bM _ _ _ _ (by rfl) (n:Int) 1 (j:Int) (by rfl) (by rfl) (by omega) (by omega) (by omega)) ?_;refine jv (vI j) (eK _ _ (by rfl) .i64 0 (j:Int) (j:Int) (by rfl) (by rfl) (by omega)) ?_;refine jv (vP b (off+j * 13)) (aW Tryz.underlying22 aI _ _ (by rfl) b (off) n cp j (by omega) (by rfl) (by rfl) rfl) ?_;refine jn (vP b (off+j * 13)) ?_;refine jg (vI p.day) (fun X hX hF=>aV 3 _ (by rfl) b (off+j * 13) (by rfl) _ X ((hcx.below hX hbb) 0 _ rfl) (fun X u h=>aB b (off+j * 13) X u h)) ?_;refine bS x.day p.day (by omega) ?_;refine jm (.bool false) ?_;refine jzb hb fun X2 hX2 hb=>?_;obtain ⟨hB0,hB1,hB2⟩:=bl3 hX2 hB0 hB1 hB2;have hcx:=hcx.below hX2 hbb;replace hbb:=Nat.lt_of_lt_of_le hbb (hX2).size;go_upto_region 4 with fail;refine jp ?_;refine jm (vI n) ?_;refine fD (n:Int) 4000 (by omega) ?_;refine jzb hb fun X3 hX3 hb=>?_;obtain ⟨hB0,hB1,hB2⟩:=bl3 hX3 hB0 hB1 hB2
 have HL:Hid (wiL l x=[]):=by
  show _=_
  unfold wiL
  rw [HE.out,if_neg (by decide)]
 go_upto_region 5 with fail;refine jq 1 ?_;refine jn (.agg #[vI 0,.slice none 0 0,vI 2]) ?_;refine jzb hb fun X4 hX4 hb=>?_;obtain ⟨hB0,hB1,hB2⟩:=bl3 hX4 hB0 hB1 hB2;refine osb 45 4 27 (w.heap.size+2) 45 hB2 [vI 0,.slice none 0 0,vI 2] aR ?_;intro w9 hR9 hO9 hB9 hs9;have hb9:=hB9 _ _ hb (by omega);have hB0:=hO9 _ _ _ (by omega) hB0;have hB1:=hO9 _ _ _ (by omega) hB1;clear hO9 hB9
 go_wp2
 refine aL rfl rfl (by rfl) Tryz.underlying45 rfl hR9 aR ⟨_,rfl,⟨.slice none 0 0,by rw [HE.out];rfl,by rw [HL.out];exact bW _⟩,hb9⟩
theorem rwt2 (c:Int) (v:Value) (l:List En) (x:En) (w:World) (hv:Es l v w) (hd:¬ (0<l.length∧x.day<(en l (l.length-1)).day)) (hlen:l.length<4000):Calls Tryz.prog 30 #[.agg #[vI c,v],.agg #[vI x.day,vI x.deb,vI x.cre,.bool x.am.1,vS x.am.2.1,vS x.am.2.2,vI x.kd,vI x.pd,vI x.rf,vI x.w1,vI x.w2,vI x.w3,vI x.w4]] w fun e w'=>∃ u,e=.returned u∧Bo (ifz (dD l x) c) (wiL l x) (dD l x) u w'∧Since w w':=by
 obtain ⟨A,n,cp,rfl,hln,hn1,hr⟩:=hv.at;clear hv;have HRX:=bV hr;have HLN:=Lib.hid hln;clear hr;have HES:=cA HLN HRX
 go_enter Tryz.func30,Tryz.ntmps30
 go_upto_region 1 with fail;obtain ⟨W0,hW0,hB0,hB1,hB2,hb⟩:=bO w 24 32 45 [vI c,.slice A n cp] (eL x) [vI 0,.slice none 0 0,vI 0];rw [← hW0];clear hW0;refine jp ?_;refine jn (vP w.heap.size 1) ?_;refine jf _ hB0 1 aK ?_;refine jv (vI n) (aN Tryz.underlying22 _ (by rfl) A n cp (by rfl) _ rfl) ?_;refine jm (vI n) ?_;refine jzb hb fun X1 hX1 hb=>?_;obtain ⟨hB0,hB1,hB2⟩:=bl3 hX1 hB0 hB1 hB2;rw [hln] at hlen
 have HE:Hid (dD l x=0):=by
  show _=_
  unfold dD
  rw [if_neg (fun h9=>hd h9),if_neg (by rw [HLN.out];omega)]
 have HL:Hid (wiL l x=l++[x]):=by
  show _=_
  unfold wiL
  rw [if_pos HE.out]
 rcases Nat.eq_zero_or_pos n with hn0|hnp
 ·have HN0:=Lib.hid hn0
  replace hn0:n≤0:=by omega
  go_upto_region 2 with fail;refine jd ?_;refine jm (vI n) ?_;refine dM (n:Int) 0 (by omega) ?_;refine jm (.bool false) ?_;refine js ?_;refine js ?_;refine js ?_;refine js ?_;refine js ?_;refine js ?_;refine js ?_;refine js ?_;refine js ?_;refine js ?_;refine js ?_;refine jm (.bool false) ?_;refine jzb hb fun X2 hX2 hb=>?_;obtain ⟨hB0,hB1,hB2⟩:=bl3 hX2 hB0 hB1 hB2;go_upto_region 4 with fail;refine jp ?_;refine jm (vI n) ?_;refine eD (n:Int) 4000 (by omega) ?_;refine jzb hb fun X3 hX3 hb=>?_;obtain ⟨hB0,hB1,hB2⟩:=bl3 hX3 hB0 hB1 hB2
  have hlX:(fl enc l).length=n * 13:=by rw [qQ,HLN.out]
  have hgw2:=hB2.lt;go_upto_region 6 with fail;refine uV 8 [none,none,some (fun v _=>(fun v=>∃ g,v=.slice (some ⟨g,0,none⟩) 0 0) v),none,none,some (oI (Pcp X3.heap.size 32 13 n (fl enc l))),none,some (oI (fun v X=>∃ g,v=.slice (some ⟨g,0,none⟩) 1 1∧Blk X g 32 (eL x))),some (qVa (fun v X=>X.ownsRow X3.heap.size 32 13 v (n+1) ((fl enc l)++(eL x))))] (by kernel_rfl) (by kernel_rfl) (by kernel_rfl) rfl (eV (eV (zA (eV (eV (qG (Pcp.lasts _ _ _ _ _) (eV (qG (fun _ _ _ ⟨g,h1,h2⟩ hS=>⟨g,h1,h2.bel hS⟩) (zC (S0:=fun v X=>X.ownsRow X3.heap.size 32 13 v (n+1) ((fl enc l)++(eL x))) (fun _ _ _ h hS=>bG h hS) (zB)))))))))) ?_;simp only [iB,List.dropLast,Nat.reduceAdd];refine pg (vP w.heap.size 0) (fun X hX hF=>by (unfold execOp;go_simp)) ?_
  simp only [pX];refine pg (vI c) (fun X hX hF=>aV 3 _ (by rfl) w.heap.size 0 (by rfl) _ X ((hB0.bel hX).cell (j:=0) rfl) (fun X u h=>aB w.heap.size 0 X u h)) ?_;simp only [pX];refine qYe (fun v=>∃ g,v=.slice (some ⟨g,0,none⟩) 0 0) (fun X hX hF=>⟨_,_,pmk0 32 (by unfold execOp;go_simp),⟨_,rfl⟩,bI X _⟩) (Nat.le_refl _) fun v30=>?_;simp only [pX];refine pg (vP w.heap.size 1) (fun X hX hF=>by (unfold execOp;go_simp)) ?_;simp only [pX];refine pg (.slice A n cp) (fun X hX hF=>aV 22 _ (by rfl) w.heap.size 1 (by rfl) _ X ((hB0.bel hX).cell (j:=1) rfl) (fun X u h=>aK w.heap.size 1 X u h)) ?_;simp only [pX]
  refine qVv (Pcp X3.heap.size 32 13 n (fl enc l)) (fun X hX hF=>by
   obtain ⟨_,g9,h9⟩:=hF _ _ List.mem_cons_self rfl;obtain ⟨v',X',h1,h2,h3⟩:=mD (P:=Tryz.prog) X _ _ 32 _ 13 120 Tryz.underlying22 fX rfl (by decide) g9 _ n (fl enc l) (HRX.out X (Since.next hb hX)) (by omega) (by unfold maxLen;omega);refine ⟨v',X',jP _ _ _ (by rfl) (show _=.slice (some ⟨g9,0,none⟩) 0 0 from h9) (by rfl) h1,?_,h3⟩
   rcases h2 with ⟨h4,h5⟩|h4
   ·exact .inl ⟨h4,g9,h5⟩
   ·exact .inr (fL h4 hX.size)) (Nat.le_refl _) fun v33=>?_
  simp only [pX];refine pg (.agg #[vI x.day,vI x.deb,vI x.cre,.bool x.am.1,vS x.am.2.1,vS x.am.2.2,vI x.kd,vI x.pd,vI x.rf,vI x.w1,vI x.w2,vI x.w3,vI x.w4]) (fun X hX hF=>lG 32 _ (by rfl) (w.heap.size+1) (by rfl) Tryz.underlying32 rfl X (hB1.bel hX) aI) ?_;simp only [pX];refine qVv (fun v X=>∃ g,v=.slice (some ⟨g,0,none⟩) 1 1∧Blk X g 32 (eL x)) (fun X hX hF=>⟨_,_,pmk1 32 (eL x) (by unfold execOp;go_simp),⟨_,rfl,Blk.new rfl⟩,bI X _⟩) (Nat.le_refl _) fun v35=>?_;simp only [pX];refine pap (hw:=?hw9) (fun v X=>X.ownsRow X3.heap.size 32 13 v (n+1) ((fl enc l)++(eL x))) ?hr9 ?_
  case hw9=>rfl
  case hr9 =>
   intro X hX hF;have h8:=hF _ (oI (Pcp X3.heap.size 32 13 n (fl enc l)) v33) (List.mem_cons_of_mem _ List.mem_cons_self) rfl rfl;obtain ⟨g9,h9,h7⟩:=hF _ (oI (fun v X=>∃ g,v=.slice (some ⟨g,0,none⟩) 1 1∧Blk X g 32 (eL x)) v35) List.mem_cons_self rfl rfl;obtain ⟨v',X',h1,h2,h3⟩:=mC (P:=Tryz.prog) X X3.heap.size _ _ 32 _ 13 120 Tryz.underlying22 fX rfl (by decide) h8 (hlX) h7 rfl (by intro u hu;simp only [List.mem_cons,List.not_mem_nil,or_false] at hu;rcases hu with rfl|rfl|rfl|rfl|rfl|rfl|rfl|rfl|rfl|rfl|rfl|rfl|rfl <;> rfl) (by omega) (by unfold maxLen;omega) hX.size;exact ⟨v',X',jP _ _ _ (by rfl) (by rfl) (show _=.slice (some ⟨g9,0,none⟩) 1 1 from h9) h1,h2,h3⟩
  intro v36;simp only [pX];refine pg (.agg #[vI c,v36]) (fun X hX hF=>by obtain ⟨_,_,h9⟩:=hF _ _ List.mem_cons_self rfl;obtain ⟨A9,c9,rfl,_,_⟩:=(Rd.of_own h9).form;unfold execOp;go_simp) ?_;simp only [pX];refine pg (.agg #[vI c,v36,vI 0]) (fun X hX hF=>by obtain ⟨_,_,h9⟩:=hF _ _ List.mem_cons_self rfl;obtain ⟨A9,c9,rfl,_,_⟩:=(Rd.of_own h9).form;unfold execOp;go_simp) ?_;simp only [pX];refine pz ?_;intro X4 hX hF;obtain ⟨_,_,hO36⟩:=hF _ _ List.mem_cons_self;replace hO36:X4.ownsRow X3.heap.size 32 13 v36 (n+1) ((fl enc l)++(eL x)):=hO36;obtain ⟨hB0,hB1,hB2⟩:=bl3 hX hB0 hB1 hB2;have hb:=aF hb hX;clear hF hX;obtain ⟨A6,c6,rfl,_,_⟩:=(Rd.of_own hO36).form;have hOw:=hO36;clear hO36;refine bB rfl 45 (.tmp 4) (.tmp 38) rfl (w.heap.size+2) 45 _ hB2 rfl [vI c,.slice A6 (n+1) c6,vI 0] rfl (by rfl) (by intro u hu;simp only [List.mem_cons,List.not_mem_nil,or_false] at hu;rcases hu with rfl|rfl|rfl <;> rfl) aR ?_;intro w9 hR9 hG9;have hb:=aY hG9 hb hb.size (by omega);have hOw:=eA hOw hG9 (fun g h h9=>by injection h with h;have h8:=(bY hOw _ h9).1;omega)
  go_wp2
  refine aL rfl rfl (by rfl) Tryz.underlying45 rfl hR9 aR ⟨_,rfl,⟨.slice A6 (n+1) c6,by rw [HE.out];rfl,by rw [HL.out];exact nZ (by rw [← lC];exact hOw) (by rw [List.length_append,HLN.out];rfl)⟩,hb⟩
 ·obtain ⟨j,hj9⟩:∃ j,n=j+1:=⟨n-1,by omega⟩
  have HJ:=Lib.hid hj9
  have hj1:j<n:=by omega
  have hj2:n≤j+1:=by omega
  clear hj9;obtain ⟨b,off,rfl,hbb,hcx⟩:=fI (HRX.out _ hb) HLN.out (k:=j) (by omega);obtain ⟨p,p9⟩:∃ p,p=en l (l.length-1):=⟨_,rfl⟩;have HP:=Lib.hid p9;clear p9;rw [show en l j=p by rw [HP.out,HLN.out,HJ.out,Nat.add_sub_cancel]] at hcx
  change Cl X1 b (off+j * 13) (eL p) at hcx
  have hdp:¬ x.day<p.day:=fun h9=>hd ⟨by rw [HLN.out];omega,by rw [← HP.out];exact h9⟩
  go_upto_region 2 with fail;refine jd ?_;refine jm (vI n) ?_;refine dV (n:Int) 0 (by omega) ?_;refine jm (.bool true) ?_;refine jn (vP (w.heap.size+1) 0) ?_;refine jf _ hB1 0 aB ?_;refine jn (vP w.heap.size 1) ?_;refine jf _ hB0 1 aK ?_;refine jm (vI n) ?_;refine jv (vI j) (bM _ _ _ _ (by rfl) (n:Int) 1 (j:Int) (by rfl) (by rfl) (by omega) (by omega) (by omega)) ?_;refine jv (vI j) (eK _ _ (by rfl) .i64 0 (j:Int) (j:Int) (by rfl) (by rfl) (by omega)) ?_;refine jv (vP b (off+j * 13)) (aW Tryz.underlying22 aI _ _ (by rfl) b (off) n cp j (by omega) (by rfl) (by rfl) rfl) ?_;refine jn (vP b (off+j * 13)) ?_;refine jg (vI p.day) (fun X hX hF=>aV 3 _ (by rfl) b (off+j * 13) (by rfl) _ X ((hcx.below hX hbb) 0 _ rfl) (fun X u h=>aB b (off+j * 13) X u h)) ?_;refine bS x.day p.day (by omega) ?_;refine jm (.bool false) ?_;refine jzb hb fun X2 hX2 hb=>?_;obtain ⟨hB0,hB1,hB2⟩:=bl3 hX2 hB0 hB1 hB2;have hcx:=hcx.below hX2 hbb;replace hbb:=Nat.lt_of_lt_of_le hbb (hX2).size;go_upto_region 4 with fail;refine jp ?_;refine jm (vI n) ?_;refine eD (n:Int) 4000 (by omega) ?_;refine jzb hb fun X3 hX3 hb=>?_;obtain ⟨hB0,hB1,hB2⟩:=bl3 hX3 hB0 hB1 hB2
  have hlX:(fl enc l).length=n * 13:=by rw [qQ,HLN.out]
  have hgw2:=hB2.lt;go_upto_region 6 with fail;refine uV 8 [none,none,some (fun v _=>(fun v=>∃ g,v=.slice (some ⟨g,0,none⟩) 0 0) v),none,none,some (oI (Pcp X3.heap.size 32 13 n (fl enc l))),none,some (oI (fun v X=>∃ g,v=.slice (some ⟨g,0,none⟩) 1 1∧Blk X g 32 (eL x))),some (qVa (fun v X=>X.ownsRow X3.heap.size 32 13 v (n+1) ((fl enc l)++(eL x))))] (by kernel_rfl) (by kernel_rfl) (by kernel_rfl) rfl (eV (eV (zA (eV (eV (qG (Pcp.lasts _ _ _ _ _) (eV (qG (fun _ _ _ ⟨g,h1,h2⟩ hS=>⟨g,h1,h2.bel hS⟩) (zC (S0:=fun v X=>X.ownsRow X3.heap.size 32 13 v (n+1) ((fl enc l)++(eL x))) (fun _ _ _ h hS=>bG h hS) (zB)))))))))) ?_;simp only [iB,List.dropLast,Nat.reduceAdd];refine pg (vP w.heap.size 0) (fun X hX hF=>by (unfold execOp;go_simp)) ?_
  simp only [pX];refine pg (vI c) (fun X hX hF=>aV 3 _ (by rfl) w.heap.size 0 (by rfl) _ X ((hB0.bel hX).cell (j:=0) rfl) (fun X u h=>aB w.heap.size 0 X u h)) ?_;simp only [pX];refine qYe (fun v=>∃ g,v=.slice (some ⟨g,0,none⟩) 0 0) (fun X hX hF=>⟨_,_,pmk0 32 (by unfold execOp;go_simp),⟨_,rfl⟩,bI X _⟩) (Nat.le_refl _) fun v30=>?_;simp only [pX];refine pg (vP w.heap.size 1) (fun X hX hF=>by (unfold execOp;go_simp)) ?_;simp only [pX];refine pg (.slice (some ⟨b,off,none⟩) n cp) (fun X hX hF=>aV 22 _ (by rfl) w.heap.size 1 (by rfl) _ X ((hB0.bel hX).cell (j:=1) rfl) (fun X u h=>aK w.heap.size 1 X u h)) ?_;simp only [pX]
  refine qVv (Pcp X3.heap.size 32 13 n (fl enc l)) (fun X hX hF=>by
   obtain ⟨_,g9,h9⟩:=hF _ _ List.mem_cons_self rfl;obtain ⟨v',X',h1,h2,h3⟩:=mD (P:=Tryz.prog) X _ _ 32 _ 13 120 Tryz.underlying22 fX rfl (by decide) g9 _ n (fl enc l) (HRX.out X (Since.next hb hX)) (by omega) (by unfold maxLen;omega);refine ⟨v',X',jP _ _ _ (by rfl) (show _=.slice (some ⟨g9,0,none⟩) 0 0 from h9) (by rfl) h1,?_,h3⟩
   rcases h2 with ⟨h4,h5⟩|h4
   ·exact .inl ⟨h4,g9,h5⟩
   ·exact .inr (fL h4 hX.size)) (Nat.le_refl _) fun v33=>?_
  simp only [pX];refine pg (.agg #[vI x.day,vI x.deb,vI x.cre,.bool x.am.1,vS x.am.2.1,vS x.am.2.2,vI x.kd,vI x.pd,vI x.rf,vI x.w1,vI x.w2,vI x.w3,vI x.w4]) (fun X hX hF=>lG 32 _ (by rfl) (w.heap.size+1) (by rfl) Tryz.underlying32 rfl X (hB1.bel hX) aI) ?_;simp only [pX];refine qVv (fun v X=>∃ g,v=.slice (some ⟨g,0,none⟩) 1 1∧Blk X g 32 (eL x)) (fun X hX hF=>⟨_,_,pmk1 32 (eL x) (by unfold execOp;go_simp),⟨_,rfl,Blk.new rfl⟩,bI X _⟩) (Nat.le_refl _) fun v35=>?_;simp only [pX];refine pap (hw:=?hw9) (fun v X=>X.ownsRow X3.heap.size 32 13 v (n+1) ((fl enc l)++(eL x))) ?hr9 ?_
  case hw9=>rfl
  case hr9 =>
   intro X hX hF;have h8:=hF _ (oI (Pcp X3.heap.size 32 13 n (fl enc l)) v33) (List.mem_cons_of_mem _ List.mem_cons_self) rfl rfl;obtain ⟨g9,h9,h7⟩:=hF _ (oI (fun v X=>∃ g,v=.slice (some ⟨g,0,none⟩) 1 1∧Blk X g 32 (eL x)) v35) List.mem_cons_self rfl rfl;obtain ⟨v',X',h1,h2,h3⟩:=mC (P:=Tryz.prog) X X3.heap.size _ _ 32 _ 13 120 Tryz.underlying22 fX rfl (by decide) h8 (hlX) h7 rfl (by intro u hu;simp only [List.mem_cons,List.not_mem_nil,or_false] at hu;rcases hu with rfl|rfl|rfl|rfl|rfl|rfl|rfl|rfl|rfl|rfl|rfl|rfl|rfl <;> rfl) (by omega) (by unfold maxLen;omega) hX.size;exact ⟨v',X',jP _ _ _ (by rfl) (by rfl) (show _=.slice (some ⟨g9,0,none⟩) 1 1 from h9) h1,h2,h3⟩
  intro v36;simp only [pX];refine pg (.agg #[vI c,v36]) (fun X hX hF=>by obtain ⟨_,_,h9⟩:=hF _ _ List.mem_cons_self rfl;obtain ⟨A9,c9,rfl,_,_⟩:=(Rd.of_own h9).form;unfold execOp;go_simp) ?_;simp only [pX];refine pg (.agg #[vI c,v36,vI 0]) (fun X hX hF=>by obtain ⟨_,_,h9⟩:=hF _ _ List.mem_cons_self rfl;obtain ⟨A9,c9,rfl,_,_⟩:=(Rd.of_own h9).form;unfold execOp;go_simp) ?_;simp only [pX];refine pz ?_;intro X4 hX hF;obtain ⟨_,_,hO36⟩:=hF _ _ List.mem_cons_self;replace hO36:X4.ownsRow X3.heap.size 32 13 v36 (n+1) ((fl enc l)++(eL x)):=hO36;obtain ⟨hB0,hB1,hB2⟩:=bl3 hX hB0 hB1 hB2;have hb:=aF hb hX;clear hF hX;obtain ⟨A6,c6,rfl,_,_⟩:=(Rd.of_own hO36).form;have hOw:=hO36;clear hO36;refine bB rfl 45 (.tmp 4) (.tmp 38) rfl (w.heap.size+2) 45 _ hB2 rfl [vI c,.slice A6 (n+1) c6,vI 0] rfl (by rfl) (by intro u hu;simp only [List.mem_cons,List.not_mem_nil,or_false] at hu;rcases hu with rfl|rfl|rfl <;> rfl) aR ?_;intro w9 hR9 hG9;have hb:=aY hG9 hb hb.size (by omega);have hOw:=eA hOw hG9 (fun g h h9=>by injection h with h;have h8:=(bY hOw _ h9).1;omega)
  go_wp2
  refine aL rfl rfl (by rfl) Tryz.underlying45 rfl hR9 aR ⟨_,rfl,⟨.slice A6 (n+1) c6,by rw [HE.out];rfl,by rw [HL.out];exact nZ (by rw [← lC];exact hOw) (by rw [List.length_append,HLN.out];rfl)⟩,hb⟩
theorem xR (c:Int) (v:Value) (l:List En) (x:En) (w:World) (hv:Es l v w):Calls Tryz.prog 30 #[.agg #[vI c,v],.agg #[vI x.day,vI x.deb,vI x.cre,.bool x.am.1,vS x.am.2.1,vS x.am.2.2,vI x.kd,vI x.pd,vI x.rf,vI x.w1,vI x.w2,vI x.w3,vI x.w4]] w fun e w'=>∃ u,e=.returned u∧Bo (ifz (dD l x) c) (wiL l x) (dD l x) u w'∧Since w w':=by
 by_cases h:0<l.length∧x.day<(en l (l.length-1)).day
 ·exact rwt0 c v l x w hv h.1 h.2
 ·rcases Nat.lt_or_ge l.length 4000 with h2|h2
  ·exact rwt2 c v l x w hv h h2
  ·exact rwt1 c v l x w hv h h2
theorem rpo0 (c:Int) (v:Value) (l:List En) (x:En) (w:World) (hv:Es l v w) (hs:Hid (∀ k,tz (en l k).am.2.1 (en l k).am.2.2 1000000)) (hxs:tz x.am.2.1 x.am.2.2 1000000) (h0:acE c l≠0):Calls Tryz.prog 7 #[.agg #[vI c,v],.agg #[vI x.day,vI x.deb,vI x.cre,.bool x.am.1,vS x.am.2.1,vS x.am.2.2,vI x.kd,vI x.pd,vI x.rf,vI x.w1,vI x.w2,vI x.w3,vI x.w4]] w fun e w'=>∃ u,e=.returned u∧Bo (ifz (poE c l x) c) (poL c l x) (poE c l x) u w'∧Since w w':=by
 obtain ⟨z,z9⟩:∃ z,acE c l=z:=⟨_,rfl⟩;have HZ:=Lib.hid z9
 have hz0:z≠0:=by rw [← z9];exact h0
 clear z9 h0
 have HE:Hid (poE c l x=z):=by
  show _=_
  unfold poE
  rw [HZ.out,if_pos hz0]
 obtain ⟨A,n,cp,rfl,hln,hn1,hr⟩:=hv.at;clear hv;have HRX:=bV hr;have HLN:=Lib.hid hln;clear hr;have HES:=cA HLN HRX
 go_enter Tryz.func7,Tryz.ntmps7
 go_upto_region 1 with fail;obtain ⟨W0,hW0,hB0,hB1,hB2,hb⟩:=bO w 24 32 45 [vI c,.slice A n cp] (eL x) [vI 0,.slice none 0 0,vI 0];rw [← hW0];clear hW0;refine jp ?_;refine ja hB0 Tryz.underlying24 (by rfl) aE ?_;refine jc (vI z) (fun X hX hF=>mo (fK c _ l X (HES.out X (Since.next hb hX)) hs) (by rw [HZ.out])) ?_;refine jm (vI z) ?_;refine jzb hb fun X1 hX1 hb=>?_;obtain ⟨hB0,hB1,hB2⟩:=bl3 hX1 hB0 hB1 hB2;go_upto_region 2 with fail;refine jp ?_;refine jm (vI z) ?_;refine jv (.bool true) (aS _ _ _ _ (by rfl) .i64 z 0 (by rfl) (by rfl) true (by rw [decide_eq_false (by omega)];rfl)) ?_;refine jzb hb fun X2 hX2 hb=>?_;obtain ⟨hB0,hB1,hB2⟩:=bl3 hX2 hB0 hB1 hB2
 have HL:Hid (poL c l x=[]):=by
  show _=_
  unfold poL
  rw [HE.out,if_neg hz0]
 go_upto_region 3 with fail;refine jq 2 ?_;refine jm (vI z) ?_;refine jn (.agg #[vI 0,.slice none 0 0,vI z]) ?_;refine jzb hb fun X3 hX3 hb=>?_;obtain ⟨hB0,hB1,hB2⟩:=bl3 hX3 hB0 hB1 hB2;refine osb 45 4 12 (w.heap.size+2) 45 hB2 [vI 0,.slice none 0 0,vI z] aR ?_;intro w9 hR9 hO9 hB9 hs9;have hb9:=hB9 _ _ hb (by omega);have hB0:=hO9 _ _ _ (by omega) hB0;have hB1:=hO9 _ _ _ (by omega) hB1;clear hO9 hB9
 go_wp2
 refine aL rfl rfl (by rfl) Tryz.underlying45 rfl hR9 aR ⟨_,rfl,⟨.slice none 0 0,by rw [HE.out,show ifz z c=0 from if_neg hz0],by rw [HL.out];exact bW _⟩,hb9⟩
theorem rpo1 (c:Int) (v:Value) (l:List En) (x:En) (w:World) (hv:Es l v w) (hs:Hid (∀ k,tz (en l k).am.2.1 (en l k).am.2.2 1000000)) (hxs:tz x.am.2.1 x.am.2.2 1000000) (HC:Hid (acE c l=0)) (hr0:rgt c l.length x=false):Calls Tryz.prog 7 #[.agg #[vI c,v],.agg #[vI x.day,vI x.deb,vI x.cre,.bool x.am.1,vS x.am.2.1,vS x.am.2.2,vI x.kd,vI x.pd,vI x.rf,vI x.w1,vI x.w2,vI x.w3,vI x.w4]] w fun e w'=>∃ u,e=.returned u∧Bo (ifz (poE c l x) c) (poL c l x) (poE c l x) u w'∧Since w w':=by
 obtain ⟨A,n,cp,rfl,hln,hn1,hr⟩:=hv.at;clear hv;have HRX:=bV hr;have HLN:=Lib.hid hln;clear hr;have HES:=cA HLN HRX
 go_enter Tryz.func7,Tryz.ntmps7
 go_upto_region 1 with fail;obtain ⟨W0,hW0,hB0,hB1,hB2,hb⟩:=bO w 24 32 45 [vI c,.slice A n cp] (eL x) [vI 0,.slice none 0 0,vI 0];rw [← hW0];clear hW0;refine jp ?_;refine ja hB0 Tryz.underlying24 (by rfl) aE ?_;refine jc (vI 0) (fun X hX hF=>mo (fK c _ l X (HES.out X (Since.next hb hX)) hs) (by rw [HC.out])) ?_;refine jm (vI 0) ?_;refine jzb hb fun X1 hX1 hb=>?_;obtain ⟨hB0,hB1,hB2⟩:=bl3 hX1 hB0 hB1 hB2;go_upto_region 2 with fail;refine jp ?_;refine jm (vI 0) ?_;refine jv (.bool false) (aS _ _ _ _ (by rfl) .i64 0 0 (by rfl) (by rfl) false (by rw [decide_eq_true (by omega)];rfl)) ?_;refine jzb hb fun X2 hX2 hb=>?_;obtain ⟨hB0,hB1,hB2⟩:=bl3 hX2 hB0 hB1 hB2
 have HR:Hid (rgt c n x=false):=by
  show _=_
  rw [← HLN.out];exact hr0
 have HE:Hid (poE c l x=1):=by
  show _=_
  unfold poE
  rw [HC.out,if_neg (by decide),if_pos (.inr hr0)]
 go_upto_region 4 with fail;refine jp ?_;refine ja hB0 Tryz.underlying24 (by rfl) aE ?_;refine ja hB1 Tryz.underlying32 (by rfl) aI ?_;refine jc (.bool false) (fun X hX hF=>mo (kS c A n cp x X hn1 hxs) (by rw [HR.out])) ?_;refine jm (.bool false) ?_;refine jzb hb fun X3 hX3 hb=>?_;obtain ⟨hB0,hB1,hB2⟩:=bl3 hX3 hB0 hB1 hB2;go_upto_region 5 with fail;refine jp ?_;refine jm (.bool false) ?_;refine jm (.bool true) ?_;refine jm (.bool true) ?_;refine js ?_;refine js ?_;refine js ?_;refine js ?_;refine jm (.bool true) ?_;refine jzb hb fun X4 hX4 hb=>?_;obtain ⟨hB0,hB1,hB2⟩:=bl3 hX4 hB0 hB1 hB2
 have HL:Hid (poL c l x=[]):=by
  show _=_
  unfold poL
  rw [HE.out,if_neg (by decide)]
 go_upto_region 6 with fail;refine jq 1 ?_;refine jn (.agg #[vI 0,.slice none 0 0,vI 1]) ?_;refine jzb hb fun X5 hX5 hb=>?_;obtain ⟨hB0,hB1,hB2⟩:=bl3 hX5 hB0 hB1 hB2;refine osb 45 4 24 (w.heap.size+2) 45 hB2 [vI 0,.slice none 0 0,vI 1] aR ?_;intro w9 hR9 hO9 hB9 hs9;have hb9:=hB9 _ _ hb (by omega);have hB0:=hO9 _ _ _ (by omega) hB0;have hB1:=hO9 _ _ _ (by omega) hB1;clear hO9 hB9
 go_wp2
 refine aL rfl rfl (by rfl) Tryz.underlying45 rfl hR9 aR ⟨_,rfl,⟨.slice none 0 0,by rw [HE.out];rfl,by rw [HL.out];exact bW _⟩,hb9⟩
theorem rpo2 (c:Int) (v:Value) (l:List En) (x:En) (w:World) (hv:Es l v w) (hs:Hid (∀ k,tz (en l k).am.2.1 (en l k).am.2.2 1000000)) (hxs:tz x.am.2.1 x.am.2.2 1000000) (HC:Hid (acE c l=0)) (hr0:rgt c l.length x=true) (h:Hid (x.kd=4)):Calls Tryz.prog 7 #[.agg #[vI c,v],.agg #[vI x.day,vI x.deb,vI x.cre,.bool x.am.1,vS x.am.2.1,vS x.am.2.2,vI x.kd,vI x.pd,vI x.rf,vI x.w1,vI x.w2,vI x.w3,vI x.w4]] w fun e w'=>∃ u,e=.returned u∧Bo (ifz (poE c l x) c) (poL c l x) (poE c l x) u w'∧Since w w':=by
 obtain ⟨A,n,cp,rfl,hln,hn1,hr⟩:=hv.at;clear hv;have HRX:=bV hr;have HLN:=Lib.hid hln;clear hr;have HES:=cA HLN HRX
 go_enter Tryz.func7,Tryz.ntmps7
 go_upto_region 1 with fail;obtain ⟨W0,hW0,hB0,hB1,hB2,hb⟩:=bO w 24 32 45 [vI c,.slice A n cp] (eL x) [vI 0,.slice none 0 0,vI 0];rw [← hW0];clear hW0;refine jp ?_;refine ja hB0 Tryz.underlying24 (by rfl) aE ?_;refine jc (vI 0) (fun X hX hF=>mo (fK c _ l X (HES.out X (Since.next hb hX)) hs) (by rw [HC.out])) ?_;refine jm (vI 0) ?_;refine jzb hb fun X1 hX1 hb=>?_;obtain ⟨hB0,hB1,hB2⟩:=bl3 hX1 hB0 hB1 hB2;go_upto_region 2 with fail;refine jp ?_;refine jm (vI 0) ?_;refine jv (.bool false) (aS _ _ _ _ (by rfl) .i64 0 0 (by rfl) (by rfl) false (by rw [decide_eq_true (by omega)];rfl)) ?_;refine jzb hb fun X2 hX2 hb=>?_;obtain ⟨hB0,hB1,hB2⟩:=bl3 hX2 hB0 hB1 hB2
 have HR:Hid (rgt c n x=true):=by
  show _=_
  rw [← HLN.out];exact hr0
 have HE:Hid (poE c l x=1):=by
  show _=_
  unfold poE
  rw [HC.out,if_neg (by decide),if_pos (.inl h.out)]
 go_upto_region 4 with fail;refine jp ?_;refine ja hB0 Tryz.underlying24 (by rfl) aE ?_;refine ja hB1 Tryz.underlying32 (by rfl) aI ?_;refine jc (.bool true) (fun X hX hF=>mo (kS c A n cp x X hn1 hxs) (by rw [HR.out])) ?_;refine jm (.bool true) ?_;refine jzb hb fun X3 hX3 hb=>?_;obtain ⟨hB0,hB1,hB2⟩:=bl3 hX3 hB0 hB1 hB2;go_upto_region 5 with fail;refine jp ?_;refine jm (.bool true) ?_;refine jm (.bool false) ?_;refine jm (.bool false) ?_;refine jn (vP (w.heap.size+1) 6) ?_;refine jn (vP (w.heap.size+1) 6) ?_;refine jf _ hB1 6 aB ?_;refine bZ x.kd 4 h.out ?_;refine jm (.bool true) ?_;refine jzb hb fun X4 hX4 hb=>?_;obtain ⟨hB0,hB1,hB2⟩:=bl3 hX4 hB0 hB1 hB2
 have HL:Hid (poL c l x=[]):=by
  show _=_
  unfold poL
  rw [HE.out,if_neg (by decide)]
 go_upto_region 6 with fail;refine jq 1 ?_;refine jn (.agg #[vI 0,.slice none 0 0,vI 1]) ?_;refine jzb hb fun X5 hX5 hb=>?_;obtain ⟨hB0,hB1,hB2⟩:=bl3 hX5 hB0 hB1 hB2;refine osb 45 4 24 (w.heap.size+2) 45 hB2 [vI 0,.slice none 0 0,vI 1] aR ?_;intro w9 hR9 hO9 hB9 hs9;have hb9:=hB9 _ _ hb (by omega);have hB0:=hO9 _ _ _ (by omega) hB0;have hB1:=hO9 _ _ _ (by omega) hB1;clear hO9 hB9
 go_wp2
 refine aL rfl rfl (by rfl) Tryz.underlying45 rfl hR9 aR ⟨_,rfl,⟨.slice none 0 0,by rw [HE.out];rfl,by rw [HL.out];exact bW _⟩,hb9⟩
theorem rpo3 (c:Int) (v:Value) (l:List En) (x:En) (w:World) (hv:Es l v w) (hs:Hid (∀ k,tz (en l k).am.2.1 (en l k).am.2.2 1000000)) (hxs:tz x.am.2.1 x.am.2.2 1000000) (HC:Hid (acE c l=0)) (hr0:rgt c l.length x=true) (h:x.kd≠4):Calls Tryz.prog 7 #[.agg #[vI c,v],.agg #[vI x.day,vI x.deb,vI x.cre,.bool x.am.1,vS x.am.2.1,vS x.am.2.2,vI x.kd,vI x.pd,vI x.rf,vI x.w1,vI x.w2,vI x.w3,vI x.w4]] w fun e w'=>∃ u,e=.returned u∧Bo (ifz (poE c l x) c) (poL c l x) (poE c l x) u w'∧Since w w':=by
 obtain ⟨A,n,cp,rfl,hln,hn1,hr⟩:=hv.at;clear hv;have HRX:=bV hr;have HLN:=Lib.hid hln;clear hr;have HES:=cA HLN HRX
 go_enter Tryz.func7,Tryz.ntmps7
 go_upto_region 1 with fail;obtain ⟨W0,hW0,hB0,hB1,hB2,hb⟩:=bO w 24 32 45 [vI c,.slice A n cp] (eL x) [vI 0,.slice none 0 0,vI 0];rw [← hW0];clear hW0;refine jp ?_;refine ja hB0 Tryz.underlying24 (by rfl) aE ?_;refine jc (vI 0) (fun X hX hF=>mo (fK c _ l X (HES.out X (Since.next hb hX)) hs) (by rw [HC.out])) ?_;refine jm (vI 0) ?_;refine jzb hb fun X1 hX1 hb=>?_;obtain ⟨hB0,hB1,hB2⟩:=bl3 hX1 hB0 hB1 hB2;go_upto_region 2 with fail;refine jp ?_;refine jm (vI 0) ?_;refine jv (.bool false) (aS _ _ _ _ (by rfl) .i64 0 0 (by rfl) (by rfl) false (by rw [decide_eq_true (by omega)];rfl)) ?_;refine jzb hb fun X2 hX2 hb=>?_;obtain ⟨hB0,hB1,hB2⟩:=bl3 hX2 hB0 hB1 hB2
 have HR:Hid (rgt c n x=true):=by
  show _=_
  rw [← HLN.out];exact hr0
 obtain ⟨q,q9⟩:∃ q,q=dD l x:=⟨_,rfl⟩;have HQ:=Lib.hid q9;clear q9
 have HE:Hid (poE c l x=q):=by
  show _=_
  unfold poE
  rw [HC.out,if_neg (by decide),if_neg (by rw [hr0];simp [h]),HQ.out]
 have HL:Hid (poL c l x=wiL l x):=by
  show _=_
  unfold poL wiL
  rw [HE.out,← HQ.out]
 go_upto_region 4 with fail;refine jp ?_;refine ja hB0 Tryz.underlying24 (by rfl) aE ?_;refine ja hB1 Tryz.underlying32 (by rfl) aI ?_;refine jc (.bool true) (fun X hX hF=>mo (kS c A n cp x X hn1 hxs) (by rw [HR.out])) ?_;refine jm (.bool true) ?_;refine jzb hb fun X3 hX3 hb=>?_;obtain ⟨hB0,hB1,hB2⟩:=bl3 hX3 hB0 hB1 hB2;go_upto_region 5 with fail;refine jp ?_;refine jm (.bool true) ?_;refine jm (.bool false) ?_;refine jm (.bool false) ?_;refine jn (vP (w.heap.size+1) 6) ?_;refine jn (vP (w.heap.size+1) 6) ?_;refine jf _ hB1 6 aB ?_;refine cC x.kd 4 (by omega) ?_;refine jm (.bool false) ?_;refine jzb hb fun X4 hX4 hb=>?_;obtain ⟨hB0,hB1,hB2⟩:=bl3 hX4 hB0 hB1 hB2;go_upto_region 7 with fail;refine aZ 3 [none,none,some (Bo (ifz q c) (wiL l x) q)] (aA (aA (aD (Bo.lasts _ _ _) (aG)))) ?_;simp only [its,List.take,List.drop,Nat.zero_add,Nat.reduceAdd];refine ja hB0 Tryz.underlying24 (by rfl) aE ?_;refine ja hB1 Tryz.underlying32 (by rfl) aI ?_;refine jk (fun X hX hF=>by rw [HQ.out];exact xR c _ l x X (HES.out X (Since.next hb hX))) ?_;intro v27;refine aM ?_;intro X5 hX5 hF;have hv27:=hF _ _ List.mem_cons_self;obtain ⟨hB0,hB1,hB2⟩:=bl3 hX5 hB0 hB1 hB2;have hb:=aF hb hX5;clear hF hX5;obtain ⟨u9,rfl,hu9⟩:=hv27;obtain ⟨A9,c9,rfl⟩:=Es.form hu9;refine bB rfl 45 (.tmp 4) (.tmp 27) rfl (w.heap.size+2) 45 _ hB2 rfl [vI (ifz q c),.slice A9 ((wiL l x)).length c9,vI q] rfl (by rfl) (by intro u hu;simp only [List.mem_cons,List.not_mem_nil,or_false] at hu;rcases hu with rfl|rfl|rfl <;> rfl) aR ?_
 intro w9 hR9 hG9;have hb:=aY hG9 hb hb.size (by omega);have hu9:=Es.grown hG9 hu9 hB2
 go_wp2
 refine aL rfl rfl (by rfl) Tryz.underlying45 rfl hR9 aR ⟨_,rfl,⟨_,by rw [HE.out],by rw [HL.out];exact hu9⟩,hb⟩
theorem rpoC (c:Int) (v:Value) (l:List En) (x:En) (w:World) (hv:Es l v w) (hs:Hid (∀ k,tz (en l k).am.2.1 (en l k).am.2.2 1000000)) (hxs:tz x.am.2.1 x.am.2.2 1000000):Calls Tryz.prog 7 #[.agg #[vI c,v],.agg #[vI x.day,vI x.deb,vI x.cre,.bool x.am.1,vS x.am.2.1,vS x.am.2.2,vI x.kd,vI x.pd,vI x.rf,vI x.w1,vI x.w2,vI x.w3,vI x.w4]] w fun e w'=>∃ u,e=.returned u∧Bo (ifz (poE c l x) c) (poL c l x) (poE c l x) u w'∧Since w w':=by
 by_cases h0:acE c l=0
 ·cases hr:rgt c l.length x with
  | false=>exact rpo1 c v l x w hv hs hxs h0 hr
  | true =>
   by_cases h4:x.kd=4
   ·exact rpo2 c v l x w hv hs hxs h0 hr h4
   ·exact rpo3 c v l x w hv hs hxs h0 hr h4
 ·exact rpo0 c v l x w hv hs hxs h0
theorem iV (z:Int) (w:World):Calls Tryz.prog 33 #[vI z] w fun e w'=>e=.returned (.bool (decide (0≤z) && decide (z≤14609)))∧Since w w':=by
 rcases (show z<0∨14609<z∨(0≤z∧z≤14609) by omega) with hy|hy|hy
 ·have HB:(decide (0≤z) && decide (z≤14609))=false:=by rw [decide_eq_false (show ¬ 0≤z by omega)];rfl
  rw [HB];clear HB
  go_enter Tryz.func33,Tryz.ntmps33
  go_upto_region 1 with fail;refine jp ?_;refine jm (vI z) ?_;refine eD z 0 (by omega) ?_;refine jm (.bool false) ?_;refine js ?_;refine js ?_;refine jm (.bool false) ?_;refine jm (.bool false) ?_;refine jz fun X1 hX1=>?_;have hb:Below w.heap.size w X1:=hX1
  go_wp2
  go_ret
  exact ⟨rfl,hb⟩
 ·have HB:(decide (0≤z) && decide (z≤14609))=false:=by rw [decide_eq_false (show ¬ z≤14609 by omega),Bool.and_false]
  rw [HB];clear HB
  go_enter Tryz.func33,Tryz.ntmps33
  go_upto_region 1 with fail;refine jp ?_;refine jm (vI z) ?_;refine fD z 0 (by omega) ?_;refine jm (.bool true) ?_;refine jm (vI z) ?_;refine oP z 14609 (by omega) ?_;refine jm (.bool false) ?_;refine jm (.bool false) ?_;refine jz fun X1 hX1=>?_;have hb:Below w.heap.size w X1:=hX1
  go_wp2
  go_ret
  exact ⟨rfl,hb⟩
 ·have HB:(decide (0≤z) && decide (z≤14609))=true:=by rw [decide_eq_true hy.1,decide_eq_true hy.2];rfl
  rw [HB];clear HB
  go_enter Tryz.func33,Tryz.ntmps33
  go_upto_region 1 with fail;refine jp ?_;refine jm (vI z) ?_;refine fD z 0 (by omega) ?_;refine jm (.bool true) ?_;refine jm (vI z) ?_;refine qI z 14609 (by omega) ?_;refine jm (.bool true) ?_;refine jm (.bool true) ?_;refine jz fun X1 hX1=>?_;have hb:Below w.heap.size w X1:=hX1
  go_wp2
  go_ret
  exact ⟨rfl,hb⟩
end Go.Proofs.YtffgfkcljcollaaGreatDoor

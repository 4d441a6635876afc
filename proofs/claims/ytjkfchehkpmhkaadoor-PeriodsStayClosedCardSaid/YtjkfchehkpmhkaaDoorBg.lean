/- account: Trace. -/
import Derived.WalkSpells
import Derived.Lib.SliceRun
import Derived.Test.YtjkfchehkpmhkaaDoorAw
import Derived.Test.YtjkfchehkpmhkaaDoorBe
import Derived.Test.YtjkfchehkpmhkaaDoorME
import Derived.Test.YtjkfchehkpmhkaaDoorBa
set_option linter.unusedSimpArgs false
set_option linter.unusedVariables false
set_option maxRecDepth 100000
set_option maxHeartbeats 1600000
namespace Go.Proofs.YtjkfchehkpmhkaaDoor
open Go.RowKit
theorem kR:rbv 0=.agg #[.bool false,.string ⟨#[]⟩,.string ⟨#[]⟩]:=by
 have h1:rN 0=false:=by decide +kernel
 have h2:rP 0=[]:=by decide +kernel
 have h3:rD 0=[]:=by decide +kernel
 show Value.agg #[.bool (rN 0),vS (rP 0),vS (rD 0)]=_
 rw [h1,h2,h3]
theorem blc0 (c:Int) (v:Value) (l:List En) (a day:Int) (w:World) (hv:Es l v w) (hs:Hid (∀ k,tz (en l k).am.2.1 (en l k).am.2.2 1000000)) (h0:acE c l≠0):Calls Tryd.prog 12 #[.agg #[vI c,v],vI a,vI day] w fun e w'=>e=.returned (.tuple #[rbv (blV c l a day),vI (blE c l a day)])∧Since w w':=by
 obtain ⟨z,z9⟩:∃ z,acE c l=z:=⟨_,rfl⟩;have HZ:=Lib.hid z9
 have hz0:z≠0:=by rw [← z9];exact h0
 clear z9 h0
 have HE:Hid (blE c l a day=z):=by
  show _=_
  unfold blE
  rw [HZ.out,if_pos hz0]
 obtain ⟨A,n,cp,rfl,hln,hn1,hr⟩:=hv.at;clear hv;have HRX:=cP hr;have HLN:=Lib.hid hln;clear hr;have HES:=dG HLN HRX
 go_enter Tryd.func12,Tryd.ntmps12
 go_upto_region 1 with fail;obtain ⟨W0,hW0,hB0,hB1,hb⟩:=cF w 28 39 [vI c,.slice A n cp] [.bool false,.string ⟨#[]⟩,.string ⟨#[]⟩];rw [← hW0];clear hW0;refine jp ?_;refine ja hB0 Tryd.underlying28 (by rfl) aP ?_;refine jc (vI z) (fun X hX hF=>mo (lN c _ l X (HES.out X (Since.next hb hX)) hs) (by rw [HZ.out])) ?_;refine jm (vI z) ?_;refine jzb hb fun X1 hX1 hb=>?_;obtain ⟨hB0,hB1⟩:=bl2 hX1 hB0 hB1;go_upto_region 2 with fail;refine jp ?_;refine jm (vI z) ?_;refine jv (.bool true) (aL _ _ _ _ (by rfl) .i64 z 0 (by rfl) (by rfl) true (by rw [decide_eq_false (by omega)];rfl)) ?_;refine jzb hb fun X2 hX2 hb=>?_;obtain ⟨hB0,hB1⟩:=bl2 hX2 hB0 hB1
 have HL:Hid (blV c l a day=0):=by
  show _=_
  unfold blV
  rw [HE.out,if_neg hz0]
 go_upto_region 3 with fail;refine jq 2 ?_;refine jn (rz) ?_;refine jm (vI z) ?_;refine jzb hb fun X3 hX3 hb=>?_;obtain ⟨hB0,hB1⟩:=bl2 hX3 hB0 hB1;refine osb 39 6 13 (w.heap.size+1) 39 hB1 [.bool false,.string ⟨#[]⟩,.string ⟨#[]⟩] aF ?_;intro w9 hR9 hO9 hB9 hs9;have hb9:=hB9 _ _ hb (by omega);have hB0:=hO9 _ _ _ (by omega) hB0;clear hO9 hB9
 go_wp2
 refine aU (v:=vI z) rfl rfl (by rfl) (by rfl) Tryd.underlying39 rfl hR9 aF ⟨by rw [HE.out,HL.out,kR],hb9⟩
theorem blc1 (c:Int) (v:Value) (l:List En) (a day:Int) (w:World) (hv:Es l v w) (hs:Hid (∀ k,tz (en l k).am.2.1 (en l k).am.2.2 1000000)) (HC:Hid (acE c l=0)) (h:a<0):Calls Tryd.prog 12 #[.agg #[vI c,v],vI a,vI day] w fun e w'=>e=.returned (.tuple #[rbv (blV c l a day),vI (blE c l a day)])∧Since w w':=by
 obtain ⟨A,n,cp,rfl,hln,hn1,hr⟩:=hv.at;clear hv;have HRX:=cP hr;have HLN:=Lib.hid hln;clear hr;have HES:=dG HLN HRX
 go_enter Tryd.func12,Tryd.ntmps12
 go_upto_region 1 with fail;obtain ⟨W0,hW0,hB0,hB1,hb⟩:=cF w 28 39 [vI c,.slice A n cp] [.bool false,.string ⟨#[]⟩,.string ⟨#[]⟩];rw [← hW0];clear hW0;refine jp ?_;refine ja hB0 Tryd.underlying28 (by rfl) aP ?_;refine jc (vI 0) (fun X hX hF=>mo (lN c _ l X (HES.out X (Since.next hb hX)) hs) (by rw [HC.out])) ?_;refine jm (vI 0) ?_;refine jzb hb fun X1 hX1 hb=>?_;obtain ⟨hB0,hB1⟩:=bl2 hX1 hB0 hB1;go_upto_region 2 with fail;refine jp ?_;refine jm (vI 0) ?_;refine jv (.bool false) (aL _ _ _ _ (by rfl) .i64 0 0 (by rfl) (by rfl) false (by rw [decide_eq_true (by omega)];rfl)) ?_;refine jzb hb fun X2 hX2 hb=>?_;obtain ⟨hB0,hB1⟩:=bl2 hX2 hB0 hB1
 have HE:Hid (blE c l a day=3):=by
  show _=_
  unfold blE
  rw [HC.out,if_neg (by decide),if_pos (by omega)]
 go_upto_region 4 with fail;refine jp ?_;refine jm (vI a) ?_;refine cW a 0 (by omega) ?_;refine jm (.bool true) ?_;refine js ?_;refine js ?_;refine js ?_;refine js ?_;refine jm (.bool true) ?_;refine jm (.bool true) ?_;refine js ?_;refine js ?_;refine js ?_;refine jm (.bool true) ?_;refine jzb hb fun X3 hX3 hb=>?_;obtain ⟨hB0,hB1⟩:=bl2 hX3 hB0 hB1
 have HL:Hid (blV c l a day=0):=by
  show _=_
  unfold blV
  rw [HE.out,if_neg (by decide)]
 go_upto_region 5 with fail;refine jq 1 ?_;refine jn (rz) ?_;refine jzb hb fun X4 hX4 hb=>?_;obtain ⟨hB0,hB1⟩:=bl2 hX4 hB0 hB1;refine osb 39 6 28 (w.heap.size+1) 39 hB1 [.bool false,.string ⟨#[]⟩,.string ⟨#[]⟩] aF ?_;intro w9 hR9 hO9 hB9 hs9;have hb9:=hB9 _ _ hb (by omega);have hB0:=hO9 _ _ _ (by omega) hB0;clear hO9 hB9
 go_wp2
 refine aU (v:=vI 3) rfl rfl (by rfl) (by rfl) Tryd.underlying39 rfl hR9 aF ⟨by rw [HE.out,HL.out,kR],hb9⟩
theorem blc2 (c:Int) (v:Value) (l:List En) (a day:Int) (w:World) (hv:Es l v w) (hs:Hid (∀ k,tz (en l k).am.2.1 (en l k).am.2.2 1000000)) (HC:Hid (acE c l=0)) (h0:0≤a) (h:c≤a):Calls Tryd.prog 12 #[.agg #[vI c,v],vI a,vI day] w fun e w'=>e=.returned (.tuple #[rbv (blV c l a day),vI (blE c l a day)])∧Since w w':=by
 obtain ⟨A,n,cp,rfl,hln,hn1,hr⟩:=hv.at;clear hv;have HRX:=cP hr;have HLN:=Lib.hid hln;clear hr;have HES:=dG HLN HRX
 go_enter Tryd.func12,Tryd.ntmps12
 go_upto_region 1 with fail;obtain ⟨W0,hW0,hB0,hB1,hb⟩:=cF w 28 39 [vI c,.slice A n cp] [.bool false,.string ⟨#[]⟩,.string ⟨#[]⟩];rw [← hW0];clear hW0;refine jp ?_;refine ja hB0 Tryd.underlying28 (by rfl) aP ?_;refine jc (vI 0) (fun X hX hF=>mo (lN c _ l X (HES.out X (Since.next hb hX)) hs) (by rw [HC.out])) ?_;refine jm (vI 0) ?_;refine jzb hb fun X1 hX1 hb=>?_;obtain ⟨hB0,hB1⟩:=bl2 hX1 hB0 hB1;go_upto_region 2 with fail;refine jp ?_;refine jm (vI 0) ?_;refine jv (.bool false) (aL _ _ _ _ (by rfl) .i64 0 0 (by rfl) (by rfl) false (by rw [decide_eq_true (by omega)];rfl)) ?_;refine jzb hb fun X2 hX2 hb=>?_;obtain ⟨hB0,hB1⟩:=bl2 hX2 hB0 hB1
 have HE:Hid (blE c l a day=3):=by
  show _=_
  unfold blE
  rw [HC.out,if_neg (by decide),if_pos (by omega)]
 go_upto_region 4 with fail;refine jp ?_;refine jm (vI a) ?_;refine bR a 0 (by omega) ?_;refine jm (.bool false) ?_;refine jm (vI a) ?_;refine jn (vP w.heap.size 0) ?_;refine jf _ hB0 0 aB ?_;refine kC a c (by omega) ?_;refine jm (.bool true) ?_;refine jm (.bool true) ?_;refine js ?_;refine js ?_;refine js ?_;refine jm (.bool true) ?_;refine jzb hb fun X3 hX3 hb=>?_;obtain ⟨hB0,hB1⟩:=bl2 hX3 hB0 hB1
 have HL:Hid (blV c l a day=0):=by
  show _=_
  unfold blV
  rw [HE.out,if_neg (by decide)]
 go_upto_region 5 with fail;refine jq 1 ?_;refine jn (rz) ?_;refine jzb hb fun X4 hX4 hb=>?_;obtain ⟨hB0,hB1⟩:=bl2 hX4 hB0 hB1;refine osb 39 6 28 (w.heap.size+1) 39 hB1 [.bool false,.string ⟨#[]⟩,.string ⟨#[]⟩] aF ?_;intro w9 hR9 hO9 hB9 hs9;have hb9:=hB9 _ _ hb (by omega);have hB0:=hO9 _ _ _ (by omega) hB0;clear hO9 hB9
 go_wp2
 refine aU (v:=vI 3) rfl rfl (by rfl) (by rfl) Tryd.underlying39 rfl hR9 aF ⟨by rw [HE.out,HL.out,kR],hb9⟩
theorem blc3 (c:Int) (v:Value) (l:List En) (a day:Int) (w:World) (hv:Es l v w) (hs:Hid (∀ k,tz (en l k).am.2.1 (en l k).am.2.2 1000000)) (HC:Hid (acE c l=0)) (h0:0≤a) (h1:a<c) (h:day<0∨14609<day):Calls Tryd.prog 12 #[.agg #[vI c,v],vI a,vI day] w fun e w'=>e=.returned (.tuple #[rbv (blV c l a day),vI (blE c l a day)])∧Since w w':=by
 obtain ⟨A,n,cp,rfl,hln,hn1,hr⟩:=hv.at;clear hv;have HRX:=cP hr;have HLN:=Lib.hid hln;clear hr;have HES:=dG HLN HRX
 go_enter Tryd.func12,Tryd.ntmps12
 go_upto_region 1 with fail;obtain ⟨W0,hW0,hB0,hB1,hb⟩:=cF w 28 39 [vI c,.slice A n cp] [.bool false,.string ⟨#[]⟩,.string ⟨#[]⟩];rw [← hW0];clear hW0;refine jp ?_;refine ja hB0 Tryd.underlying28 (by rfl) aP ?_;refine jc (vI 0) (fun X hX hF=>mo (lN c _ l X (HES.out X (Since.next hb hX)) hs) (by rw [HC.out])) ?_;refine jm (vI 0) ?_;refine jzb hb fun X1 hX1 hb=>?_;obtain ⟨hB0,hB1⟩:=bl2 hX1 hB0 hB1;go_upto_region 2 with fail;refine jp ?_;refine jm (vI 0) ?_;refine jv (.bool false) (aL _ _ _ _ (by rfl) .i64 0 0 (by rfl) (by rfl) false (by rw [decide_eq_true (by omega)];rfl)) ?_;refine jzb hb fun X2 hX2 hb=>?_;obtain ⟨hB0,hB1⟩:=bl2 hX2 hB0 hB1
 have HE:Hid (blE c l a day=3):=by
  show _=_
  unfold blE
  rw [HC.out,if_neg (by decide),if_pos (by omega)]
 have HD:Hid ((decide (0≤day) && decide (day≤14609))=false):=by
  show _=_
  rcases h with h9|h9
  ·rw [decide_eq_false (show ¬ 0≤day by omega)];rfl
  ·rw [decide_eq_false (show ¬ day≤14609 by omega),Bool.and_false]
 go_upto_region 4 with fail;refine jp ?_;refine jm (vI a) ?_;refine bR a 0 (by omega) ?_;refine jm (.bool false) ?_;refine jm (vI a) ?_;refine jn (vP w.heap.size 0) ?_;refine jf _ hB0 0 aB ?_;refine mK a c (by omega) ?_;refine jm (.bool false) ?_;refine jm (.bool false) ?_;refine jm (vI day) ?_;refine jc (.bool false) (fun X hX hF=>mo (wU day X) (by rw [HD.out])) ?_;refine jm (.bool true) ?_;refine jm (.bool true) ?_;refine jzb hb fun X3 hX3 hb=>?_;obtain ⟨hB0,hB1⟩:=bl2 hX3 hB0 hB1
 have HL:Hid (blV c l a day=0):=by
  show _=_
  unfold blV
  rw [HE.out,if_neg (by decide)]
 go_upto_region 5 with fail;refine jq 1 ?_;refine jn (rz) ?_;refine jzb hb fun X4 hX4 hb=>?_;obtain ⟨hB0,hB1⟩:=bl2 hX4 hB0 hB1;refine osb 39 6 28 (w.heap.size+1) 39 hB1 [.bool false,.string ⟨#[]⟩,.string ⟨#[]⟩] aF ?_;intro w9 hR9 hO9 hB9 hs9;have hb9:=hB9 _ _ hb (by omega);have hB0:=hO9 _ _ _ (by omega) hB0;clear hO9 hB9
 go_wp2
 refine aU (v:=vI 3) rfl rfl (by rfl) (by rfl) Tryd.underlying39 rfl hR9 aF ⟨by rw [HE.out,HL.out,kR],hb9⟩
def Rqo (B:Nat) (l:List Rat) (v:Value) (X:World):Prop:=X.ownsRow B 39 3 v l.length (fl trc (l.map tr))
theorem Rqo.mono {B B':Nat} {l:List Rat} {v:Value} {X:World} (h:Rqo B l v X) (hB:B'≤B):Rqo B' l v X:=jC h hB
theorem qYn {f:Operand→Value} {o:Oper} (x i:Operand) (ho:o.op=.index 89 x i) {l:List Rat} (hl:l.length=100) (hx:f x=.agg (fl rc l).toArray) (k:Nat) (hk:k<100) {z:Int} (hi:f i=vI z) (hz:z=(k:Int)) (w:World):(execOp f o).run Tryd.prog w=.ok (.value (rbv (yq l k))) w:=by
 subst hz
 have hix:(Instr.index 89 (.agg (fl rc l).toArray) (vI k)).run Tryd.prog w=.ok (rbv (yq l k)) w:=by
  have h1:=tA (g:=rc) (m:=3) (l:=l) (fun x _=>jV x) (List.drop_eq_getElem_cons (show k<l.length by omega));rw [← tO (by omega)] at h1;have hi9:(Tryd.prog.info? 39).map (·.size)=some 3:=aF
  cases hq:Tryd.prog.info? 39 with
  | none=>rw [hq] at hi9;cases hi9
  | some i9 =>
   have hs:i9.size=3:=by simpa [hq] using hi9
   have hag:(isAgg 39).run Tryd.prog w=.ok true w:=by
    unfold isAgg
    rw [Sem.run_bind,run_underlying Tryd.underlying39 w]
    rfl
   have hex:(fl rc l).toArray.extract (k * 3) (k * 3+3)=(rc (yq l k)).toArray:=by
    rw [List.extract_toArray]
    congr 1
    rw [List.extract_eq_take_drop,Nat.add_sub_cancel_left];exact h1
   simp only [Instr.index,asIntOf,Sem.run_bind,Sem.run_pure,Result.andThen_ok,run_underlying Tryd.underlying89];rw [if_pos (by omega)]
   simp [part,sizeOf,typeInfo,hq,hs,hag,hex,go_sem]
   exact h1
 unfold execOp
 simp only [ho,hx,hi]
 simp [hix,go_sem]
theorem qYo {f:Operand→Value} {o:Oper} (x i:Operand) (ho:o.op=.index 89 x i) {l:List Rat} (hl:l.length=100) (hx:f x=.agg (fl rc l).toArray) (k:Nat) (hk:k<100) {z:Int} (hi:f i=vI z) (hz:z=(k:Int)) {y:Rat} (hy:yq l k=y) (w:World):(execOp f o).run Tryd.prog w=.ok (.value (rbv y)) w:=by
 subst hy;exact qYn x i ho hl hx k hk hi hz w
theorem Rq.open {l:List Rat} {v:Value} {w:World} (h:Rq l v w):∃ A n c,v=.slice A n c∧l.length=n∧Rd w 3 (.slice A n c) n (fl trc (l.map tr)):=by
 have h9:Rd w 3 v (l.map tr).length (fl trc (l.map tr)):=h;have h8:=h9;obtain ⟨hl,A,c,h2,hc,hm,hx⟩:=h9;subst h2;rw [List.length_map] at h8;exact ⟨A,l.length,c,by rw [List.length_map],rfl,h8⟩
theorem blc4 (c:Int) (v:Value) (l:List En) (i:Nat) (day:Int) (w:World) (hv:Es l v w) (hs1:Hid (∀ k,tz (en l k).am.2.1 (en l k).am.2.2 100)) (HC:Hid (acE c l=0)) (h1:(i:Int)<c) (h2:0≤day∧day≤14609):Calls Tryd.prog 12 #[.agg #[vI c,v],vI i,vI day] w fun e w'=>e=.returned (.tuple #[rbv (blV c l (i:Int) day),vI (blE c l (i:Int) day)])∧Since w w':=by
 have hs:Hid (∀ k,tz (en l k).am.2.1 (en l k).am.2.2 1000000):=fun k=>(hs1.out k).mono (by decide)
 have HK:Hid (Ok44 c l):=acE_ok.1 HC.out;have hc100:=HK.out.c100
 have hi9:i<100:=by omega
 have HE:Hid (blE c l (i:Int) day=0):=by
  show _=_
  unfold blE
  rw [HC.out,if_neg (by decide),if_neg (by omega)]
 have HD:Hid ((decide (0≤day) && decide (day≤14609))=true):=by
  show _=_
  rw [decide_eq_true h2.1,decide_eq_true h2.2];rfl
 obtain ⟨A,n,cp,rfl,hln,hn1,hr⟩:=hv.at;clear hv;have HRX:=cP hr;have HLN:=Lib.hid hln;clear hr;have HES:=dG HLN HRX
 go_enter Tryd.func12,Tryd.ntmps12
 go_upto_region 1 with fail;obtain ⟨W0,hW0,hB0,hB1,hb⟩:=cF w 28 39 [vI c,.slice A n cp] [.bool false,.string ⟨#[]⟩,.string ⟨#[]⟩];rw [← hW0];clear hW0;refine jp ?_;refine ja hB0 Tryd.underlying28 (by rfl) aP ?_;refine jc (vI 0) (fun X hX hF=>mo (lN c _ l X (HES.out X (Since.next hb hX)) hs) (by rw [HC.out])) ?_;refine jm (vI 0) ?_;refine jzb hb fun X1 hX1 hb=>?_;obtain ⟨hB0,hB1⟩:=bl2 hX1 hB0 hB1;go_upto_region 2 with fail;refine jp ?_;refine jm (vI 0) ?_;refine jv (.bool false) (aL _ _ _ _ (by rfl) .i64 0 0 (by rfl) (by rfl) false (by rw [decide_eq_true (by omega)];rfl)) ?_;refine jzb hb fun X2 hX2 hb=>?_;obtain ⟨hB0,hB1⟩:=bl2 hX2 hB0 hB1;go_upto_region 4 with fail;refine jp ?_;refine jm (vI i) ?_;refine bR (i:Int) 0 (by omega) ?_;refine jm (.bool false) ?_;refine jm (vI i) ?_;refine jn (vP w.heap.size 0) ?_;refine jf _ hB0 0 aB ?_;refine mK (i:Int) c (by omega) ?_;refine jm (.bool false) ?_;refine jm (.bool false) ?_;refine jm (vI day) ?_;refine jc (.bool true) (fun X hX hF=>mo (wU day X) (by rw [HD.out])) ?_;refine jm (.bool false) ?_;refine jm (.bool false) ?_;refine jzb hb fun X3 hX3 hb=>?_;obtain ⟨hB0,hB1⟩:=bl2 hX3 hB0 hB1
 have HL:Hid (blV c l (i:Int) day=(bal l (i:Int) 0 day 0)):=by
  show _=_
  unfold blV
  rw [HE.out,if_pos rfl]
 have HAT:=Lib.hid (vYy l 0 day 0 hi9);go_upto_region 6 with fail;refine jq 5 ?_;refine ja hB0 Tryd.underlying28 (by rfl) aP ?_;refine jm (vI day) ?_;refine jc (.agg (fl rc (smF l 0 day 0)).toArray) (fun X hX hF=>smsC c _ l 0 day 0 X (HES.out X (Since.next hb hX)) hs1 HK) ?_;refine jm (vI i) ?_;refine jv (rt (rN (bal l (i:Int) 0 day 0)) (rP (bal l (i:Int) 0 day 0)) (rD (bal l (i:Int) 0 day 0))) (qYo _ _ (by rfl) (qZw l 0 day 0) (by rfl) i hi9 (by rfl) rfl HAT.out) ?_;refine jzb hb fun X4 hX4 hb=>?_;obtain ⟨hB0,hB1⟩:=bl2 hX4 hB0 hB1;refine osb 39 6 33 (w.heap.size+1) 39 hB1 [.bool (rN (bal l (i:Int) 0 day 0)),.string ⟨(rP (bal l (i:Int) 0 day 0)).toArray⟩,.string ⟨(rD (bal l (i:Int) 0 day 0)).toArray⟩] aF ?_;intro w9 hR9 hO9 hB9 hs9;have hb9:=hB9 _ _ hb (by omega);have hB0:=hO9 _ _ _ (by omega) hB0;clear hO9 hB9
 go_wp2
 refine aU (v:=vI 0) rfl rfl (by rfl) (by rfl) Tryd.underlying39 rfl hR9 aF ⟨by rw [HE.out,HL.out],hb9⟩
theorem blcC (c:Int) (v:Value) (l:List En) (a day:Int) (w:World) (hv:Es l v w) (hs1:Hid (∀ k,tz (en l k).am.2.1 (en l k).am.2.2 100)):Calls Tryd.prog 12 #[.agg #[vI c,v],vI a,vI day] w fun e w'=>e=.returned (.tuple #[rbv (blV c l a day),vI (blE c l a day)])∧Since w w':=by
 have hs:Hid (∀ k,tz (en l k).am.2.1 (en l k).am.2.2 1000000):=fun k=>(hs1.out k).mono (by decide)
 by_cases h0:acE c l=0
 ·rcases (show a<0∨(0≤a∧c≤a)∨(0≤a∧a<c) by omega) with h|h|h
  ·exact blc1 c v l a day w hv hs h0 h
  ·exact blc2 c v l a day w hv hs h0 h.1 h.2
  ·rcases (show (day<0∨14609<day)∨(0≤day∧day≤14609) by omega) with hy|hy
   ·exact blc3 c v l a day w hv hs h0 h.1 h.2 hy
   ·obtain ⟨i,rfl⟩:∃ i:Nat,a=(i:Int):=⟨a.toNat,by omega⟩
    exact blc4 c v l i day w hv hs1 h0 h.2 hy
 ·exact blc0 c v l a day w hv hs h0
theorem qYh {f:Operand→Value} {o:Oper} (x y:Operand) (ho:o.op=.store 59 x y) (g j:Nat) {A:Option Addr} {n c:Nat} (hx:f x=vP g j) (hy:f y=.slice A n c) (u:Value) (X:World) (hc:X.cell? ⟨g,j,none⟩=some u) (hf:X.frozen? ⟨g,j,none⟩=false) :
  (execOp f o).run Tryd.prog X=.ok .skip (X.setCell ⟨g,j,none⟩ (.slice A n c)):=by
 unfold execOp
 simp only [ho,hx,hy]
 go_simp
theorem qXw:(Tryd.prog.info? 3).map (fun i=>(i.zero,i.size,i.bytes))=some (some (vI 0),1,8):=by kernel_rfl
structure TrI (w:World) (l:List En) (a t:Int) (g10:Nat) (m k:Nat) (X:World):Prop where
 out:∃ A c,Blk X g10 59 [.slice A (plN l a t k).length c]∧X.ownsRow m 3 1 (.slice A (plN l a t k).length c) (plN l a t k).length ((plN l a t k).map I64)
 ac:Blk X (w.heap.size+1) 3 [vI a]
 bel:Below w.heap.size w X
end Go.Proofs.YtjkfchehkpmhkaaDoor

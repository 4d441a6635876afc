/- account: opposite, undone. -/
import Derived.Test.YtffgfkcljcollaaGreatDoorAa
import Derived.Test.YtffgfkcljcollaaGreatDoorLb
set_option linter.unusedSimpArgs false
set_option linter.unusedVariables false
set_option maxRecDepth 100000
set_option maxHeartbeats 1600000
namespace Go.Proofs.YtffgfkcljcollaaGreatDoor
open Go.RowKit
section
variable {P:Program} {ops:Array Oper} {R:World→World→Prop} {w0:World} {Q:Act→World→Prop} {pre:Nat→Nat→Bool} {l:List (Nat×Oper×cB)} {Fs:List (Nat×(World→Prop))} {a:Act} {k:Nat} {o:Oper}
theorem tU {ρ:Operand→Value} {X:World} (f:FuncId) (x:Operand) (xs:List Operand) (ts:Array TypeId) (lb:List Value) (ho:o.op=.call { callee:=.value x,args:=xs.toArray,argTypes:=ts }) (hx:ρ x=.func (.func f) #[] lb.toArray) (args:List Value) (he:xs.toArray.map ρ=args.toArray)
  (hf:(callFunc f (args++lb).toArray).run P X=.ok (.enter f (args++lb).toArray) X):(execOp ρ o).run P X=.ok (.enter f (args++lb).toArray) X:=by
 unfold execOp
 rw [ho]
 go_simp
theorem rT (hw:Region.wanted o (yielded ops a.tmps)=true) (f:FuncId) (x:Operand) (xs:List Operand) (ts:Array TypeId) (lb:List Value) (ho:o.op=.call { callee:=.value x,args:=xs.toArray,argTypes:=ts }) (hx:a.eval x=.func (.func f) #[] lb.toArray) (v:Value) (args:List Value) (he:xs.map a.eval=args)
  (hi:P.inits.idxOf? f=none) (hf:∀ X:World,(callFunc f (args++lb).toArray).run P X=.ok (.enter f (args++lb).toArray) X)
  (hc:∀ X,R w0 X→(∀ p F,(p,F)∈Fs→pre k p=true→F X)→Calls P f (args++lb).toArray X fun e X'=>e=.returned v∧R X X') (h:bT P ops R w0 Q pre l Fs (a.put o.dst v)):bT P ops R w0 Q pre ((k,o,none) :: l) Fs a:=by
 refine ⟨?_⟩
 unfold CertR
 rw [if_pos hw];refine ⟨v,fun X hX hF=>?_,h.out⟩;have hc:=hc X hX hF
 have he2:xs.toArray.map a.eval=args.toArray:=by rw [List.map_toArray,he]
 have hrun:(execOp a.eval o).run P X=.ok (.enter f (args++lb).toArray) X:=tU f x xs ts lb ho hx args he2 (hf X)
 unfold cM
 rw [hrun];exact ⟨rfl,hi,hc⟩
theorem pB {f:Operand→Value} (F0:FuncId) (xs:List Operand) (vs:List Value) (ho:o.op=.makeFunc (.func F0) #[] xs.toArray) (hv:xs.map f=vs) (X:World):(execOp f o).run P X=.ok (.value (.func (.func F0) #[] vs.toArray)) X:=by
 unfold execOp
 simp only [ho,Instr.makeFunc,List.map_toArray,hv,Sem.run_bind,Sem.run_pure,Result.andThen_ok,List.map_nil]
end
def ixk (l:List En) (a:Int):Int:=if und l a=true then ((l.findIdx fun x=>decide (x.kd=4) && decide (x.rf=a):Nat):Int) else -1
theorem vQo {l:List En} {a:Int} {k:Nat} (hk:k<l.length) (h:(decide ((en l k).kd=4) && decide ((en l k).rf=a))=true) (hz:∀ j,j<k→(decide ((en l j).kd=4) && decide ((en l j).rf=a))=false):ixk l a=k:=by
 unfold ixk und
 rw [if_pos (List.any_eq_true.2 ⟨l[k],List.getElem_mem _,by rw [← iQ hk];exact h⟩)]
 congr 1
 refine (List.findIdx_eq hk).2 ⟨by rw [← iQ hk];exact h,fun j hj=>?_⟩;rw [← iQ (by omega)];exact hz j hj
theorem zJ {l:List En} {a:Int} (hz:∀ j,j<l.length→(decide ((en l j).kd=4) && decide ((en l j).rf=a))=false):und l a=false:=by
 refine Bool.eq_false_iff.2 fun h=>?_;obtain ⟨x,hx,h2⟩:=List.any_eq_true.1 h;obtain ⟨j,hj,rfl⟩:=List.mem_iff_getElem.1 hx;have h3:=hz j hj;rw [iQ hj] at h3;rw [h3] at h2
 cases h2
theorem qYl {l:List En} {a:Int} (h:und l a=false):ixk l a=-1:=by
 unfold ixk
 rw [if_neg (by rw [h];decide)]
theorem ixk_t {l:List En} {a:Int} (h:und l a=true):0≤ixk l a∧ixk l a≤l.length:=by
 unfold ixk
 rw [if_pos h];have:=@List.findIdx_le_length En (fun x=>decide (x.kd=4) && decide (x.rf=a)) l
 omega
theorem oppC (v:Value) (l:List En) (k:Nat) (day:Int) (y:En) (w:World) (hv:Es l v w) (hk:k<l.length) (hy:y=en l k):Calls Tryz.prog 38 #[v,vI k,vI day] w fun e w'=>e=.returned (.agg #[vI (opp y (k:Int) day).day,vI (opp y (k:Int) day).deb,vI (opp y (k:Int) day).cre,.bool (opp y (k:Int) day).am.1,vS (opp y (k:Int) day).am.2.1,vS (opp y (k:Int) day).am.2.2,vI (opp y (k:Int) day).kd,vI (opp y (k:Int) day).pd,vI (opp y (k:Int) day).rf,vI (opp y (k:Int) day).w1,vI (opp y (k:Int) day).w2,vI (opp y (k:Int) day).w3,vI (opp y (k:Int) day).w4])∧Since w w':=by
 obtain ⟨A,n,cp,rfl,hln,hn1,hr⟩:=hv.at;clear hv;have HRX:=bV hr;have HLN:=Lib.hid hln;clear hr
 have hlt:k<n:=by rw [← hln];exact hk
 have hb:Below w.heap.size w w:=Below.refl _ _;obtain ⟨b,off,rfl,hbb,hcx⟩:=fI (HRX.out _ hb) HLN.out hlt;obtain ⟨x,x9⟩:∃ x,x=en l k:=⟨_,rfl⟩;have HX:=Lib.hid x9;clear x9;rw [← HX.out] at hcx
 change Cl w b (off+k * 13) (eL x) at hcx
 clear hb
 obtain rfl:y=x:=by rw [hy,HX.out]
 go_enter Tryz.func38,Tryz.ntmps38
 go_upto_region 1 with fail;obtain ⟨W0,hW0,hB0,hb⟩:=aQ w 32 [vI 0,vI 0,vI 0,.bool false,.string ⟨#[]⟩,.string ⟨#[]⟩,vI 0,vI 0,vI 0,vI 0,vI 0,vI 0,vI 0];rw [← hW0];clear hW0;have hcx:=hcx.below hb hbb;replace hbb:=Nat.lt_of_lt_of_le hbb hb.size;refine jq 4 ?_;refine jm (.slice (some ⟨b,off,none⟩) n cp) ?_;refine jm (vI k) ?_;refine jv (vP b (off+k * 13)) (aW Tryz.underlying22 aI _ _ (by rfl) b (off) n cp k (by omega) (by rfl) (by rfl) rfl) ?_;refine jg (.agg #[vI y.day,vI y.deb,vI y.cre,.bool y.am.1,st y.am.2.1,st y.am.2.2,vI y.kd,vI y.pd,vI y.rf,vI y.w1,vI y.w2,vI y.w3,vI y.w4]) (fun X hX hF=>cH 32 _ (by rfl) b (off+k * 13) (by rfl) Tryz.underlying32 rfl (eL y) X (Cl.part (hcx.below hX hbb) 0 _ (by rfl)) aI) ?_;refine jzb hb fun X1 hX1 hb=>?_;replace hB0:=hB0.bel hX1;have hcx:=hcx.below hX1 hbb;replace hbb:=Nat.lt_of_lt_of_le hbb (hX1).size;go_upto_region 2 with (refine osn 32 7 11 #[vI y.day,vI y.deb,vI y.cre,.bool y.am.1,vS y.am.2.1,vS y.am.2.2,vI y.kd,vI y.pd,vI y.rf,vI y.w1,vI y.w2,vI y.w3,vI y.w4] aI ?_)
 obtain ⟨Y1,hY9,hD7,hS9⟩:=aQ X1 32 (eL y);rw [← hY9];clear hY9;have hgs7:=hb.size;have hlt7x0:=hB0.lt;have hcx:=hcx.below hS9 hbb;replace hbb:=Nat.lt_of_lt_of_le hbb (hS9).size;have hB0:=hB0.bel hS9;have hb:=aF hb hS9;clear hS9;generalize X1.heap.size=g7 at *;go_upto_region 2 with fail;refine jq 16 ?_;refine jm (vI day) ?_;refine jn (vP g7 2) ?_;refine jf _ hD7 2 aB ?_;refine jn (vP g7 1) ?_;refine jf _ hD7 1 aB ?_;refine jn (vP g7 3) ?_;refine jg (.agg #[.bool y.am.1,st y.am.2.1,st y.am.2.2]) (fun X hX hF=>aP 26 _ (by rfl) g7 3 [.bool y.am.1,vS y.am.2.1,vS y.am.2.2] (by rfl) Tryz.underlying26 rfl X (hD7.bel hX) (by rfl) aC) ?_;refine jn (vP g7 6) ?_;refine jn (vP g7 7) ?_;refine jf _ hD7 7 aB ?_;refine jm (vI k) ?_;refine jn (vP g7 6) ?_;refine jn (vP g7 9) ?_;refine jg (.agg #[vI y.w1,vI y.w2,vI y.w3,vI y.w4]) (fun X hX hF=>aP 28 _ (by rfl) g7 9 [vI y.w1,vI y.w2,vI y.w3,vI y.w4] (by rfl) Tryz.underlying28 rfl X (hD7.bel hX) (by rfl) dX) ?_
 refine jn (.agg #[vI 4,vI y.pd,vI k,vI y.w1,vI y.w2,vI y.w3,vI y.w4]) ?_;refine jn (.agg #[vI day,vI y.cre,vI y.deb,.bool y.am.1,st y.am.2.1,st y.am.2.2,vI 4,vI y.pd,vI k,vI y.w1,vI y.w2,vI y.w3,vI y.w4]) ?_;refine jzb hb fun X2 hX2 hb=>?_;obtain ⟨hB0,hD7⟩:=bl2 hX2 hB0 hD7;refine osb 32 6 27 w.heap.size 32 hB0 [vI day,vI y.cre,vI y.deb,.bool y.am.1,vS y.am.2.1,vS y.am.2.2,vI 4,vI y.pd,vI k,vI y.w1,vI y.w2,vI y.w3,vI y.w4] aI ?_;intro w9 hR9 hO9 hB9 hs9;have hb9:=hB9 _ _ hb (by omega);clear hO9 hB9
 go_wp2
 refine aL rfl rfl (by rfl) Tryz.underlying32 rfl hR9 aI ⟨rfl,hb9⟩
theorem un1C (x:En) (q:Nat) (a:Int) (w:World) (hq:Blk w q 3 [vI a]):Calls Tryz.prog 57 #[.agg #[vI x.day,vI x.deb,vI x.cre,.bool x.am.1,vS x.am.2.1,vS x.am.2.2,vI x.kd,vI x.pd,vI x.rf,vI x.w1,vI x.w2,vI x.w3,vI x.w4],vP q 0] w fun e w'=>e=.returned (.bool (decide (x.kd=4) && decide (x.rf=a)))∧Since w w':=by
 go_enter Tryz.func57,Tryz.ntmps57
 go_upto_region 1 with fail;obtain ⟨W0,hW0,hB0,hb⟩:=aQ w 32 (eL x);rw [← hW0];clear hW0;have hq:=hq.bel hb
 rcases (show x.kd≠4∨(x.kd=4∧x.rf≠a)∨(x.kd=4∧x.rf=a) by omega) with h4|h4|h4
 ·refine jp ?_
  refine jn (vP w.heap.size 6) ?_;refine jn (vP w.heap.size 6) ?_;refine jf _ hB0 6 aB ?_;refine cC x.kd 4 (by omega) ?_;refine jm (.bool false) ?_;refine js ?_;refine js ?_;refine js ?_;refine js ?_;refine js ?_;refine jm (.bool false) ?_;refine jm (.bool false) ?_;refine jzb hb fun X1 hX1 hb=>?_;replace hB0:=hB0.bel hX1;replace hq:=hq.bel hX1
  have HB:Hid ((decide (x.kd=4) && decide (x.rf=a))=false):=by
   show _=_
   rw [decide_eq_false h4,Bool.false_and]
  go_wp2
  go_ret
  exact ⟨by rw [HB.out];rfl,hb⟩
 ·refine jp ?_
  refine jn (vP w.heap.size 6) ?_;refine jn (vP w.heap.size 6) ?_;refine jf _ hB0 6 aB ?_;refine bZ x.kd 4 (by omega) ?_;refine jm (.bool true) ?_;refine jn (vP w.heap.size 6) ?_;refine jn (vP w.heap.size 8) ?_;refine jf _ hB0 8 aB ?_;refine jf _ hq 0 aB ?_;refine cC x.rf a (by omega) ?_;refine jm (.bool false) ?_;refine jm (.bool false) ?_;refine jzb hb fun X1 hX1 hb=>?_;replace hB0:=hB0.bel hX1;replace hq:=hq.bel hX1
  have HB:Hid ((decide (x.kd=4) && decide (x.rf=a))=false):=by
   show _=_
   rw [decide_eq_false h4.2,Bool.and_false]
  go_wp2
  go_ret
  exact ⟨by rw [HB.out];rfl,hb⟩
 ·refine jp ?_
  refine jn (vP w.heap.size 6) ?_;refine jn (vP w.heap.size 6) ?_;refine jf _ hB0 6 aB ?_;refine bZ x.kd 4 (by omega) ?_;refine jm (.bool true) ?_;refine jn (vP w.heap.size 6) ?_;refine jn (vP w.heap.size 8) ?_;refine jf _ hB0 8 aB ?_;refine jf _ hq 0 aB ?_;refine bZ x.rf a (by omega) ?_;refine jm (.bool true) ?_;refine jm (.bool true) ?_;refine jzb hb fun X1 hX1 hb=>?_;replace hB0:=hB0.bel hX1;replace hq:=hq.bel hX1
  have HB:Hid ((decide (x.kd=4) && decide (x.rf=a))=true):=by
   show _=_
   rw [decide_eq_true h4.1,decide_eq_true h4.2];rfl
  go_wp2
  go_ret
  exact ⟨by rw [HB.out];rfl,hb⟩
theorem ixfC (v:Value) (l:List En) (q:Nat) (a:Int) (w:World) (hv:Es l v w) (hq:Blk w q 3 [vI a]):Calls Tryz.prog 78 #[v,.func (.func 57) #[] #[vP q 0]] w fun e w'=>e=.returned (vI (ixk l a))∧Since w w':=by
 obtain ⟨A,n,cp,rfl,hln,hn1,hr⟩:=hv.at;clear hv;have HRX:=bV hr;have HLN:=Lib.hid hln
 have HQ:Hid (∀ X,Since w X→Blk X q 3 [vI a]):=fun X h=>hq.bel h
 clear hq;clear hr
 go_enter Tryz.func78,Tryz.ntmps78
 go_upto_region 1 with fail;refine jp ?_;refine jm (.slice A n cp) ?_;refine jv (vI n) (aN Tryz.underlying22 _ (by rfl) A n cp (by rfl) _ rfl) ?_;refine jm (vI 0) ?_;refine jz fun X1 hX1=>?_;have hb:Below w.heap.size w X1:=hX1
 go_wp2
 go_loopw [8] (fun kv wr=>∃ k:Nat,k≤n∧kv=vI k∧Hid (∀ j,j<k→(decide ((en l j).kd=4) && decide ((en l j).rf=a))=false)∧Below w.heap.size w wr) (fun kv _=>n-(intOf kv).toNat)
 case atStart=>exact ⟨0,by omega,rfl,(fun j hj=>by omega),hb⟩
 case round =>
  clear hb;obtain ⟨k,hk,rfl,HZ,hb⟩:=hrel
  rcases Nat.lt_or_ge k n with hlt|hlt
  ·obtain ⟨b,off,rfl,hbb,hcx⟩:=fI (HRX.out _ hb) HLN.out hlt
   obtain ⟨x,x9⟩:∃ x,x=en l k:=⟨_,rfl⟩;have HX:=Lib.hid x9;clear x9;rw [← HX.out] at hcx
   change Cl wr b (off+k * 13) (eL x) at hcx
   go_upto_region 2 with fail;refine jp ?_;refine cP (k:Int) (n:Int) (by omega) ?_;refine jzb hb fun X1 hX1 hb=>?_;have hcx:=hcx.below hX1 hbb;replace hbb:=Nat.lt_of_lt_of_le hbb (hX1).size;go_upto_region 3 with fail;refine jp ?_;refine jm (vI k) ?_;refine jm (vI k) ?_;refine jzb hb fun X2 hX2 hb=>?_;have hcx:=hcx.below hX2 hbb;replace hbb:=Nat.lt_of_lt_of_le hbb (hX2).size;obtain ⟨pb,hpb⟩:∃ pb,(decide (x.kd=4) && decide (x.rf=a))=pb:=⟨_,rfl⟩;have HP:=Lib.hid hpb;clear hpb
   rcases pb with _|_
   ·go_upto_region 4 with fail
    refine jp ?_;refine jm (.func (.func 57) #[] #[vP q 0]) ?_;refine jm (.slice (some ⟨b,off,none⟩) n cp) ?_;refine jm (vI k) ?_;refine jv (vP b (off+k * 13)) (aW Tryz.underlying22 aI _ _ (by rfl) b (off) n cp k (by omega) (by rfl) (by rfl) rfl) ?_;refine jg (.agg #[vI x.day,vI x.deb,vI x.cre,.bool x.am.1,st x.am.2.1,st x.am.2.2,vI x.kd,vI x.pd,vI x.rf,vI x.w1,vI x.w2,vI x.w3,vI x.w4]) (fun X hX hF=>cH 32 _ (by rfl) b (off+k * 13) (by rfl) Tryz.underlying32 rfl (eL x) X (Cl.part (hcx.below hX hbb) 0 _ (by rfl)) aI) ?_;refine rT (by rfl) 57 _ _ _ [vP q 0] (by rfl) (by rfl) (.bool false) [.agg #[vI x.day,vI x.deb,vI x.cre,.bool x.am.1,vS x.am.2.1,vS x.am.2.2,vI x.kd,vI x.pd,vI x.rf,vI x.w1,vI x.w2,vI x.w3,vI x.w4]] (by rfl) (by kernel_rfl) (fun _=>by go_simp) (fun X hX hF=>(un1C x q a X (HQ.out X (Since.next hb hX))).mono fun e X' ⟨h1,h2⟩=>⟨by rw [h1,HP.out],h2⟩) ?_;simp only [pX];refine jzb hb fun X3 hX3 hb=>?_;have hcx:=hcx.below hX3 hbb
    replace hbb:=Nat.lt_of_lt_of_le hbb (hX3).size
    have HZ2:Hid (∀ j,j<k+1→(decide ((en l j).kd=4) && decide ((en l j).rf=a))=false):=fun j hj=>by
     rcases Nat.lt_or_ge j k with h9|h9
     ·exact HZ.out j h9
     ·rw [show j=k by omega,← HX.out];exact HP.out
    go_upto_region 6 with fail;refine jp ?_;refine jv (vI ((k+1:Nat):Int)) (aU _ _ _ _ (by rfl) (k:Int) 1 ((k+1:Nat):Int) (by rfl) (by rfl) (by omega) (by omega) (by omega)) ?_;refine jm (vI ((k+1:Nat):Int)) ?_;refine jzb hb fun X4 hX4 hb=>?_
    go_wp2
    go_roundw
    case rel=>exact ⟨k+1,by omega,rfl,HZ2,hb⟩
    case measure=>simp [intOf];omega
   ·go_upto_region 4 with fail
    refine jp ?_;refine jm (.func (.func 57) #[] #[vP q 0]) ?_;refine jm (.slice (some ⟨b,off,none⟩) n cp) ?_;refine jm (vI k) ?_;refine jv (vP b (off+k * 13)) (aW Tryz.underlying22 aI _ _ (by rfl) b (off) n cp k (by omega) (by rfl) (by rfl) rfl) ?_;refine jg (.agg #[vI x.day,vI x.deb,vI x.cre,.bool x.am.1,st x.am.2.1,st x.am.2.2,vI x.kd,vI x.pd,vI x.rf,vI x.w1,vI x.w2,vI x.w3,vI x.w4]) (fun X hX hF=>cH 32 _ (by rfl) b (off+k * 13) (by rfl) Tryz.underlying32 rfl (eL x) X (Cl.part (hcx.below hX hbb) 0 _ (by rfl)) aI) ?_;refine rT (by rfl) 57 _ _ _ [vP q 0] (by rfl) (by rfl) (.bool true) [.agg #[vI x.day,vI x.deb,vI x.cre,.bool x.am.1,vS x.am.2.1,vS x.am.2.2,vI x.kd,vI x.pd,vI x.rf,vI x.w1,vI x.w2,vI x.w3,vI x.w4]] (by rfl) (by kernel_rfl) (fun _=>by go_simp) (fun X hX hF=>(un1C x q a X (HQ.out X (Since.next hb hX))).mono fun e X' ⟨h1,h2⟩=>⟨by rw [h1,HP.out],h2⟩) ?_;simp only [pX];refine jzb hb fun X3 hX3 hb=>?_;have hcx:=hcx.below hX3 hbb
    replace hbb:=Nat.lt_of_lt_of_le hbb (hX3).size;go_upto_region 5 with fail;refine jp ?_;refine jm (vI k) ?_;refine jm (vI k) ?_;refine jzb hb fun X4 hX4 hb=>?_;have HE:Hid (ixk l a=(k:Int)):=vQo (by rw [HLN.out];exact hlt) (by rw [← HX.out];exact HP.out) HZ.out
    go_wp2
    go_ret
    exact ⟨by rw [HE.out];rfl,hb⟩
  ·have HE:Hid (ixk l a=-1):=qYl (zJ (fun j hj=>HZ.out j (by rw [HLN.out] at hj;omega)))
   go_upto_region 2 with fail;refine jp ?_;refine bS (k:Int) (n:Int) (by omega) ?_;refine jzb hb fun X1 hX1 hb=>?_;go_upto_region 7 with fail;refine jp ?_;refine jm (vI (-1)) ?_;refine jzb hb fun X2 hX2 hb=>?_
   go_wp2
   go_ret
   exact ⟨by rw [HE.out];rfl,hb⟩
theorem ctfC (v:Value) (l:List En) (q:Nat) (a:Int) (w:World) (hv:Es l v w) (hq:Blk w q 3 [vI a]):Calls Tryz.prog 56 #[v,.func (.func 57) #[] #[vP q 0]] w fun e w'=>e=.returned (.bool (und l a))∧Since w w':=by
 obtain ⟨z,hz⟩:∃ z,z=ixk l a:=⟨_,rfl⟩;have HZ:=Lib.hid hz;obtain ⟨u,hu⟩:∃ u,und l a=u:=⟨_,rfl⟩;have HU:=Lib.hid hu;clear hz hu;rw [HU.out]
 rcases u with _|_
 ·have hz:z<0:=by rw [HZ.out,qYl HU.out];omega
  go_enter Tryz.func56,Tryz.ntmps56
  have HQ:Hid (∀ X,Since w X→Blk X q 3 [vI a]∧Es l v X):=fun X h=>⟨hq.bel h,Es.lasts l _ _ _ hv h⟩
  clear hq hv;go_upto_region 1 with fail;refine jp ?_;refine jm (v) ?_;refine jm (.func (.func 57) #[] #[vP q 0]) ?_;refine jc (vI z) (fun X hX hF=>mo (ixfC v l q a X (HQ.out X hX).2 (HQ.out X hX).1) (by rw [HZ.out])) ?_;refine eD z 0 (by omega) ?_;refine jm (.bool false) ?_;refine jz fun X1 hX1=>?_;have hb:Below w.heap.size w X1:=hX1
  go_wp2
  go_ret
  exact ⟨rfl,hb⟩
 ·have hz:0≤z:=by rw [HZ.out];exact (ixk_t HU.out).1
  go_enter Tryz.func56,Tryz.ntmps56
  have HQ:Hid (∀ X,Since w X→Blk X q 3 [vI a]∧Es l v X):=fun X h=>⟨hq.bel h,Es.lasts l _ _ _ hv h⟩
  clear hq hv;go_upto_region 1 with fail;refine jp ?_;refine jm (v) ?_;refine jm (.func (.func 57) #[] #[vP q 0]) ?_;refine jc (vI z) (fun X hX hF=>mo (ixfC v l q a X (HQ.out X hX).2 (HQ.out X hX).1) (by rw [HZ.out])) ?_;refine fD z 0 (by omega) ?_;refine jm (.bool true) ?_;refine jz fun X1 hX1=>?_;have hb:Below w.heap.size w X1:=hX1
  go_wp2
  go_ret
  exact ⟨rfl,hb⟩
theorem qVc (v:Value) (l:List En) (a:Int) (w:World) (hv:Es l v w):Calls Tryz.prog 37 #[v,vI a] w fun e w'=>e=.returned (.bool (und l a))∧Since w w':=by
 have HV:Hid (∀ X,Since w X→Es l v X):=fun X h=>Es.lasts l _ _ _ hv h
 obtain ⟨u,hu⟩:∃ u,und l a=u:=⟨_,rfl⟩;have HU:=Lib.hid hu;clear hv hu;rw [HU.out]
 go_enter Tryz.func37,Tryz.ntmps37
 go_upto_region 1 with fail;obtain ⟨W0,hW0,hB0,hb⟩:=aQ w 3 [vI a];rw [← hW0];clear hW0;refine jp ?_;refine jm (v) ?_;refine jv (.func (.func 57) #[] #[vP w.heap.size 0]) (pB 57 [.tmp 3] [vP w.heap.size 0] (by rfl) (by rfl)) ?_;refine jc (.bool u) (fun X hX hF=>mo (ctfC v l w.heap.size a X (HV.out X (Since.next hb hX)) (hB0.bel hX)) (by rw [HU.out])) ?_;refine jm (.bool u) ?_;refine jzb hb fun X1 hX1 hb=>?_;replace hB0:=hB0.bel hX1
 go_wp2
 go_ret
 exact ⟨rfl,hb⟩
end Go.Proofs.YtffgfkcljcollaaGreatDoor

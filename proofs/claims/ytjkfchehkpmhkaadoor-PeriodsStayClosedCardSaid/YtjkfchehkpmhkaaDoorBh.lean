/- account: Adjust. -/
import Derived.Test.YtjkfchehkpmhkaaDoorBa
import Derived.Test.YtjkfchehkpmhkaaDoorLlz
import Derived.Test.YtjkfchehkpmhkaaDoorLm
import Derived.Test.YtjkfchehkpmhkaaDoorKe
set_option linter.unusedSimpArgs false
set_option linter.unusedVariables false
set_option maxRecDepth 100000
set_option maxHeartbeats 1600000
namespace Go.Proofs.YtjkfchehkpmhkaaDoor
open Go.RowKit
theorem int1:(((1:Int)):Rat)=1:=by decide +kernel
theorem vVm {x:Rat} (h:x=0):jO x 0=0:=by
 subst h
 decide +kernel
theorem vVl {x:Rat} (h:x<0):jO x 0=-1:=by
 unfold jO
 first
  | rw [if_neg (Rat.ne_of_lt h),if_pos h]
  | rw [if_pos h,if_neg (Rat.ne_of_lt h)]
theorem vVk {x:Rat} (h0:x≠0) (h:¬ x<0):jO x 0=1:=by
 unfold jO
 first
  | rw [if_neg h0,if_neg h]
  | rw [if_neg h,if_neg h0]
theorem vd_zt {n:Bool} {p q:List UInt8} (hv:vd n p q=true) (h0:rq n p q=0):(n == false && p == [] && q == [])=true:=by
 obtain ⟨h1,h2,h3,_⟩:=oZ hv;rw [h0] at h1 h2 h3
 have e1:rN 0=false:=by decide +kernel
 have e2:rP 0=[]:=by decide +kernel
 have e3:rD 0=[]:=by decide +kernel
 rw [← h1,← h2,← h3,e1,e2,e3]
 rfl
theorem tQ {n:Bool} {p q:List UInt8} (h0:rq n p q≠0):(n == false && p == [] && q == [])=false:=by
 rw [Bool.eq_false_iff];intro h9;simp only [Bool.and_eq_true,beq_iff_eq] at h9;obtain ⟨⟨rfl,rfl⟩,rfl⟩:=h9;exact h0 kP
theorem adj0 (c:Int) (v:Value) (l:List En) (q:Aj) (w:World) (hv:Es l v w) (hs:Hid (∀ k,tz (en l k).am.2.1 (en l k).am.2.2 1000000)) (hqs:tz q.am.2.1 q.am.2.2 1000000) (h0:acE c l≠0):Calls Tryd.prog 37 #[.agg #[vI c,v],.agg #[vI q.day,vI q.ac,vI q.ag,vI q.pd,.bool q.am.1,vS q.am.2.1,vS q.am.2.2,vI q.w1,vI q.w2,vI q.w3,vI q.w4]] w fun e w'=>∃ u,e=.returned u∧Tp (Bks (ifz (ajE c l q) c) (ajL c l q)) (ajE c l q) u w'∧Since w w':=by
 obtain ⟨z,z9⟩:∃ z,acE c l=z:=⟨_,rfl⟩;have HZ:=Lib.hid z9
 have hz0:z≠0:=by rw [← z9];exact h0
 clear z9 h0
 have HE:Hid (ajE c l q=z):=by
  show _=_
  unfold ajE
  rw [HZ.out,if_pos hz0]
 obtain ⟨A,n,cp,rfl,hln,hn1,hr⟩:=hv.at;clear hv;have HRX:=cP hr;have HLN:=Lib.hid hln;clear hr;have HES:=dG HLN HRX
 go_enter Tryd.func37,Tryd.ntmps37
 go_upto_region 1 with fail;obtain ⟨W0,hW0,hB0,hB1,hB2,hb⟩:=bV w 28 101 28 [vI c,.slice A n cp] [vI q.day,vI q.ac,vI q.ag,vI q.pd,.bool q.am.1,vS q.am.2.1,vS q.am.2.2,vI q.w1,vI q.w2,vI q.w3,vI q.w4] [vI 0,.slice none 0 0];rw [← hW0];clear hW0;refine jp ?_;refine ja hB0 Tryd.underlying28 (by rfl) aP ?_;refine jc (vI z) (fun X hX hF=>mo (lN c _ l X (HES.out X (Since.next hb hX)) hs) (by rw [HZ.out])) ?_;refine jm (vI z) ?_;refine jzb hb fun X1 hX1 hb=>?_;obtain ⟨hB0,hB1,hB2⟩:=bl3 hX1 hB0 hB1 hB2;go_upto_region 2 with fail;refine jp ?_;refine jm (vI z) ?_;refine jv (.bool true) (aL _ _ _ _ (by rfl) .i64 z 0 (by rfl) (by rfl) true (by rw [decide_eq_false (by omega)];rfl)) ?_;refine jzb hb fun X2 hX2 hb=>?_;obtain ⟨hB0,hB1,hB2⟩:=bl3 hX2 hB0 hB1 hB2
 have HL:Hid (ajL c l q=[]):=by
  show _=_
  unfold ajL
  rw [HE.out,if_neg hz0]
 go_upto_region 3 with fail;refine jq 2 ?_;refine jn (.agg #[vI 0,.slice none 0 0]) ?_;refine jm (vI z) ?_;refine jzb hb fun X3 hX3 hb=>?_;obtain ⟨hB0,hB1,hB2⟩:=bl3 hX3 hB0 hB1 hB2;refine osb 28 4 14 (w.heap.size+2) 28 hB2 [vI 0,.slice none 0 0] aP ?_;intro w9 hR9 hO9 hB9 hs9;have hb9:=hB9 _ _ hb (by omega);have hB0:=hO9 _ _ _ (by omega) hB0;have hB1:=hO9 _ _ _ (by omega) hB1;clear hO9 hB9
 go_wp2
 refine aU (v:=vI z) rfl rfl (by rfl) (by rfl) Tryd.underlying28 rfl hR9 aP ⟨_,rfl,⟨_,by rw [HE.out],by rw [HE.out,HL.out,show ifz z c=0 from if_neg hz0];exact ⟨_,rfl,cV _⟩⟩,hb9⟩
theorem adjz (c:Int) (v:Value) (l:List En) (q:Aj) (w:World) (hv:Es l v w) (hs:Hid (∀ k,tz (en l k).am.2.1 (en l k).am.2.2 1000000)) (hqs:tz q.am.2.1 q.am.2.2 1000000) (HC:Hid (acE c l=0)) (h:Hid (trq q.am=0)):Calls Tryd.prog 37 #[.agg #[vI c,v],.agg #[vI q.day,vI q.ac,vI q.ag,vI q.pd,.bool q.am.1,vS q.am.2.1,vS q.am.2.2,vI q.w1,vI q.w2,vI q.w3,vI q.w4]] w fun e w'=>∃ u,e=.returned u∧Tp (Bks (ifz (ajE c l q) c) (ajL c l q)) (ajE c l q) u w'∧Since w w':=by
 have HA:Hid (adj q=⟨q.day,q.ac,q.ag,tr 1,3,q.pd,-1,q.w1,q.w2,q.w3,q.w4⟩):=by
  show _=_
  unfold adj
  rw [if_pos h.out]
 have HM:=Lib.hid (vVm h.out);have hxs:tz (⟨q.day,q.ac,q.ag,tr 1,3,q.pd,-1,q.w1,q.w2,q.w3,q.w4⟩:En).am.2.1 (⟨q.day,q.ac,q.ag,tr 1,3,q.pd,-1,q.w1,q.w2,q.w3,q.w4⟩:En).am.2.2 1000000:=⟨by show (rP 1).length≤1000000;exact Nat.le_trans (tzR (lT (n:=1) (by decide)) (Nat.le_refl _)).1 (by decide),by show (rD 1).length≤1000000;exact Nat.le_trans (tzR (lT (n:=1) (by decide)) (Nat.le_refl _)).2 (by decide)⟩;obtain ⟨A,n,cp,rfl,hln,hn1,hr⟩:=hv.at;clear hv;have HRX:=cP hr;have HLN:=Lib.hid hln;clear hr;have HES:=dG HLN HRX
 go_enter Tryd.func37,Tryd.ntmps37
 go_upto_region 1 with fail;obtain ⟨W0,hW0,hB0,hB1,hB2,hb⟩:=bV w 28 101 28 [vI c,.slice A n cp] [vI q.day,vI q.ac,vI q.ag,vI q.pd,.bool q.am.1,vS q.am.2.1,vS q.am.2.2,vI q.w1,vI q.w2,vI q.w3,vI q.w4] [vI 0,.slice none 0 0];rw [← hW0];clear hW0;refine jp ?_;refine ja hB0 Tryd.underlying28 (by rfl) aP ?_;refine jc (vI 0) (fun X hX hF=>mo (lN c _ l X (HES.out X (Since.next hb hX)) hs) (by rw [HC.out])) ?_;refine jm (vI 0) ?_;refine jzb hb fun X1 hX1 hb=>?_;obtain ⟨hB0,hB1,hB2⟩:=bl3 hX1 hB0 hB1 hB2;go_upto_region 2 with fail;refine jp ?_;refine jm (vI 0) ?_;refine jv (.bool false) (aL _ _ _ _ (by rfl) .i64 0 0 (by rfl) (by rfl) false (by rw [decide_eq_true (by omega)];rfl)) ?_;refine jzb hb fun X2 hX2 hb=>?_;obtain ⟨hB0,hB1,hB2⟩:=bl3 hX2 hB0 hB1 hB2;go_upto_region 4 with fail;refine jq 14 ?_;refine jn (vP (w.heap.size+1) 0) ?_;refine jf _ hB1 0 aB ?_;refine jn (vP (w.heap.size+1) 1) ?_;refine jf _ hB1 1 aB ?_;refine jn (vP (w.heap.size+1) 2) ?_;refine jf _ hB1 2 aB ?_;refine jn (vP (w.heap.size+1) 4) ?_;refine jg (.agg #[.bool q.am.1,st q.am.2.1,st q.am.2.2]) (fun X hX hF=>aO 39 _ (by rfl) (w.heap.size+1) 4 [.bool q.am.1,vS q.am.2.1,vS q.am.2.2] (by rfl) Tryd.underlying39 rfl X (hB1.bel hX) (by rfl) aF) ?_
 refine jn (vP (w.heap.size+1) 3) ?_;refine jf _ hB1 3 aB ?_;refine jn (vP (w.heap.size+1) 7) ?_;refine jg (.agg #[vI q.w1,vI q.w2,vI q.w3,vI q.w4]) (fun X hX hF=>aO 41 _ (by rfl) (w.heap.size+1) 7 [vI q.w1,vI q.w2,vI q.w3,vI q.w4] (by rfl) Tryd.underlying41 rfl X (hB1.bel hX) (by rfl) eY) ?_;refine jn (.agg #[vI 3,vI q.pd,vI (-1),vI q.w1,vI q.w2,vI q.w3,vI q.w4]) ?_;refine jn (.agg #[vI q.day,vI q.ac,vI q.ag,.bool q.am.1,st q.am.2.1,st q.am.2.2,vI 3,vI q.pd,vI (-1),vI q.w1,vI q.w2,vI q.w3,vI q.w4]) ?_;refine jzb hb fun X3 hX3 hb=>?_;obtain ⟨hB0,hB1,hB2⟩:=bl3 hX3 hB0 hB1 hB2;go_upto_region 5 with (refine osn 70 7 29 #[vI q.day,vI q.ac,vI q.ag,.bool q.am.1,vS q.am.2.1,vS q.am.2.2,vI 3,vI q.pd,vI (-1),vI q.w1,vI q.w2,vI q.w3,vI q.w4] aR ?_);obtain ⟨Y3,hY9,hD7,hS9⟩:=aT X3 70 [vI q.day,vI q.ac,vI q.ag,.bool q.am.1,vS q.am.2.1,vS q.am.2.2,vI 3,vI q.pd,vI (-1),vI q.w1,vI q.w2,vI q.w3,vI q.w4];rw [← hY9];clear hY9;have hgs7:=hb.size;have hlt7x0:=hB0.lt;have hlt7x1:=hB1.lt;have hlt7x2:=hB2.lt
 obtain ⟨hB0,hB1,hB2⟩:=bl3 hS9 hB0 hB1 hB2;have hb:=aD hb hS9;clear hS9;generalize X3.heap.size=g7 at *;refine jp ?_;refine jn (vP (w.heap.size+1) 4) ?_;refine jg (.agg #[.bool q.am.1,st q.am.2.1,st q.am.2.2]) (fun X hX hF=>aO 39 _ (by rfl) (w.heap.size+1) 4 [.bool q.am.1,vS q.am.2.1,vS q.am.2.2] (by rfl) Tryd.underlying39 rfl X (hB1.bel hX) (by rfl) aF) ?_;refine jn (rz) ?_;refine jc (vI 0) (fun X hX hF=>(xS q.am.1 q.am.2.1 q.am.2.2 false [] [] rfl kP X hqs lI).mono fun e X' ⟨h1,h2⟩=>⟨by rw [h1];show _=_;rw [show rq q.am.1 q.am.2.1 q.am.2.2=trq q.am from rfl,HM.out],h2⟩) ?_;refine jzb hb fun X4 hX4 hb=>?_;obtain ⟨hB0,hB1,hB2,hD7⟩:=bl4 hX4 hB0 hB1 hB2 hD7;go_upto_region 6 with fail;refine jp ?_;refine eG 0 0 (by omega) ?_;refine jm (.bool true) ?_;refine jzb hb fun X5 hX5 hb=>?_;obtain ⟨hB0,hB1,hB2,hD7⟩:=bl4 hX5 hB0 hB1 hB2 hD7;go_upto_region 7 with fail;refine jq 2 ?_;refine jc (rt (rN (1:Rat)) (rP (1:Rat)) (rD (1:Rat))) (fun X hX hF=>mo (pM (1) X (by decide)) (by rw [int1])) ?_;refine jn (vP g7 3) ?_;refine jzb hb fun X6 hX6 hb=>?_;obtain ⟨hB0,hB1,hB2,hD7⟩:=bl4 hX6 hB0 hB1 hB2 hD7;refine cO rfl 39 (.tmp 37) (.tmp 36) rfl g7 70 _ hD7 3 rfl [.bool (rN (1:Rat)),vS (rP (1:Rat)),vS (rD (1:Rat))] rfl (by simp) (by intro u hu;simp only [List.mem_cons,List.not_mem_nil,or_false] at hu;rcases hu with rfl|rfl|rfl <;> rfl) aF ?_
 intro w7 hR9 hG9 hs9
 change Blk w7 g7 70 [vI q.day,vI q.ac,vI q.ag,.bool (rN (1:Rat)),vS (rP (1:Rat)),vS (rD (1:Rat)),vI 3,vI q.pd,vI (-1),vI q.w1,vI q.w2,vI q.w3,vI q.w4] at hR9
 have hb:=aK hG9 hb hb.size (by omega);replace hB0:=aE hG9 hB0 (by omega);replace hB1:=aE hG9 hB1 (by omega);replace hB2:=aE hG9 hB2 (by omega);have hD7:=hR9;clear hR9 hG9 hs9;refine wpList_nil ?_
 obtain hV9|hV9:vd q.am.1 q.am.2.1 q.am.2.2=false∨vd q.am.1 q.am.2.1 q.am.2.2=true:=by cases vd q.am.1 q.am.2.1 q.am.2.2 <;> simp
 ·have HV:=Lib.hid hV9
  clear hV9
  have HE:Hid (ajE c l q=1):=by
   show _=_
   unfold ajE
   rw [HC.out,if_neg (by decide),if_pos (.inl HV.out)]
  go_upto_region 10 with fail;refine jp ?_;refine jn (vP (w.heap.size+1) 4) ?_;refine jg (.agg #[.bool q.am.1,st q.am.2.1,st q.am.2.2]) (fun X hX hF=>aO 39 _ (by rfl) (w.heap.size+1) 4 [.bool q.am.1,vS q.am.2.1,vS q.am.2.2] (by rfl) Tryd.underlying39 rfl X (hB1.bel hX) (by rfl) aF) ?_;refine jc (.bool false) (fun X hX hF=>mo (dT q.am.1 q.am.2.1 q.am.2.2 X hqs) (by rw [HV.out])) ?_;refine jm (.bool true) ?_;refine jm (.bool true) ?_;refine js ?_;refine js ?_;refine js ?_;refine js ?_;refine jm (.bool true) ?_;refine jzb hb fun X7 hX7 hb=>?_;obtain ⟨hB0,hB1,hB2,hD7⟩:=bl4 hX7 hB0 hB1 hB2 hD7
  have HL:Hid (ajL c l q=[]):=by
   show _=_
   unfold ajL
   rw [HE.out,if_neg (by decide)]
  go_upto_region 11 with fail;refine jq 1 ?_;refine jn (.agg #[vI 0,.slice none 0 0]) ?_;refine jzb hb fun X8 hX8 hb=>?_;obtain ⟨hB0,hB1,hB2,hD7⟩:=bl4 hX8 hB0 hB1 hB2 hD7;refine osb 28 4 60 (w.heap.size+2) 28 hB2 [vI 0,.slice none 0 0] aP ?_;intro w9 hR9 hO9 hB9 hs9;have hb9:=hB9 _ _ hb (by omega);have hB0:=hO9 _ _ _ (by omega) hB0;have hB1:=hO9 _ _ _ (by omega) hB1;have hD7:=hO9 _ _ _ (by omega) hD7;clear hO9 hB9
  go_wp2
  refine aU (v:=vI 1) rfl rfl (by rfl) (by rfl) Tryd.underlying28 rfl hR9 aP ⟨_,rfl,⟨_,by rw [HE.out],by rw [HE.out,HL.out];exact ⟨_,rfl,cV _⟩⟩,hb9⟩
 ·have HV:=Lib.hid hV9
  clear hV9
  obtain hR9|hR9:rgt c l.length (adj q)=false∨rgt c l.length (adj q)=true:=by cases rgt c l.length (adj q) <;> simp
  ·have HR:=Lib.hid hR9
   clear hR9
   have HE:Hid (ajE c l q=1):=by
    show _=_
    unfold ajE
    rw [HC.out,if_neg (by decide),if_pos (.inr HR.out)]
   have HR2:Hid (rgt c n (⟨q.day,q.ac,q.ag,tr 1,3,q.pd,-1,q.w1,q.w2,q.w3,q.w4⟩:En)=false):=by
    show _=_
    rw [← HLN.out,← HA.out];exact HR.out
   go_upto_region 10 with fail;refine jp ?_;refine jn (vP (w.heap.size+1) 4) ?_;refine jg (.agg #[.bool q.am.1,st q.am.2.1,st q.am.2.2]) (fun X hX hF=>aO 39 _ (by rfl) (w.heap.size+1) 4 [.bool q.am.1,vS q.am.2.1,vS q.am.2.2] (by rfl) Tryd.underlying39 rfl X (hB1.bel hX) (by rfl) aF) ?_;refine jc (.bool true) (fun X hX hF=>mo (dT q.am.1 q.am.2.1 q.am.2.2 X hqs) (by rw [HV.out])) ?_;refine jm (.bool false) ?_;refine jm (.bool false) ?_;refine ja hB0 Tryd.underlying28 (by rfl) aP ?_;refine ja hD7 Tryd.underlying70 (by rfl) aR ?_;refine jc (.bool false) (fun X hX hF=>mo (oH c A n cp (⟨q.day,q.ac,q.ag,tr 1,3,q.pd,-1,q.w1,q.w2,q.w3,q.w4⟩:En) X hn1 hxs) (by rw [HR2.out])) ?_;refine jm (.bool true) ?_;refine jm (.bool true) ?_;refine jzb hb fun X7 hX7 hb=>?_;obtain ⟨hB0,hB1,hB2,hD7⟩:=bl4 hX7 hB0 hB1 hB2 hD7
   have HL:Hid (ajL c l q=[]):=by
    show _=_
    unfold ajL
    rw [HE.out,if_neg (by decide)]
   go_upto_region 11 with fail;refine jq 1 ?_;refine jn (.agg #[vI 0,.slice none 0 0]) ?_;refine jzb hb fun X8 hX8 hb=>?_;obtain ⟨hB0,hB1,hB2,hD7⟩:=bl4 hX8 hB0 hB1 hB2 hD7;refine osb 28 4 60 (w.heap.size+2) 28 hB2 [vI 0,.slice none 0 0] aP ?_;intro w9 hR9 hO9 hB9 hs9;have hb9:=hB9 _ _ hb (by omega);have hB0:=hO9 _ _ _ (by omega) hB0;have hB1:=hO9 _ _ _ (by omega) hB1;have hD7:=hO9 _ _ _ (by omega) hD7;clear hO9 hB9
   go_wp2
   refine aU (v:=vI 1) rfl rfl (by rfl) (by rfl) Tryd.underlying28 rfl hR9 aP ⟨_,rfl,⟨_,by rw [HE.out],by rw [HE.out,HL.out];exact ⟨_,rfl,cV _⟩⟩,hb9⟩
  ·have HR:=Lib.hid hR9
   clear hR9;obtain ⟨q0,q9⟩:∃ q0,q0=gB l (adj q):=⟨_,rfl⟩;have HQ:=Lib.hid q9;clear q9
   have HE:Hid (ajE c l q=q0):=by
    show _=_
    unfold ajE
    rw [HC.out,if_neg (by decide),if_neg (by rw [HV.out,HR.out];simp),HQ.out]
   have HWL:Hid (wiL l (adj q)=if q0=0 then l++[adj q] else []):=by
    show _=_
    unfold wiL
    rw [← HQ.out]
   have HZQ:Hid ((q.am.1 == false && q.am.2.1 == [] && q.am.2.2 == [])=true):=vd_zt HV.out h.out
   have HR2:Hid (rgt c n (⟨q.day,q.ac,q.ag,tr 1,3,q.pd,-1,q.w1,q.w2,q.w3,q.w4⟩:En)=true):=by
    show _=_
    rw [← HLN.out,← HA.out];exact HR.out
   go_upto_region 10 with fail;refine jp ?_;refine jn (vP (w.heap.size+1) 4) ?_;refine jg (.agg #[.bool q.am.1,st q.am.2.1,st q.am.2.2]) (fun X hX hF=>aO 39 _ (by rfl) (w.heap.size+1) 4 [.bool q.am.1,vS q.am.2.1,vS q.am.2.2] (by rfl) Tryd.underlying39 rfl X (hB1.bel hX) (by rfl) aF) ?_;refine jc (.bool true) (fun X hX hF=>mo (dT q.am.1 q.am.2.1 q.am.2.2 X hqs) (by rw [HV.out])) ?_;refine jm (.bool false) ?_;refine jm (.bool false) ?_;refine ja hB0 Tryd.underlying28 (by rfl) aP ?_;refine ja hD7 Tryd.underlying70 (by rfl) aR ?_;refine jc (.bool true) (fun X hX hF=>mo (oH c A n cp (⟨q.day,q.ac,q.ag,tr 1,3,q.pd,-1,q.w1,q.w2,q.w3,q.w4⟩:En) X hn1 hxs) (by rw [HR2.out])) ?_;refine jm (.bool false) ?_;refine jm (.bool false) ?_;refine jzb hb fun X7 hX7 hb=>?_;obtain ⟨hB0,hB1,hB2,hD7⟩:=bl4 hX7 hB0 hB1 hB2 hD7;go_upto_region 12 with fail;refine bA 6 [none,none,some (Tp (Bks (ifz q0 c) (wiL l (adj q))) q0),none,some (Bks (ifz q0 c) (wiL l (adj q)))] (aA (aA (aC (Tp.lasts (Bks.lasts _ _) _) (aA (aC (Bks.lasts _ _) (aG)))))) ?_;simp only [its,List.take,List.drop,Nat.zero_add,Nat.reduceAdd];refine ja hB0 Tryd.underlying28 (by rfl) aP ?_;refine ja hD7 Tryd.underlying70 (by rfl) aR ?_;refine jk (fun X hX hF=>by rw [HQ.out,HA.out];exact qZp c _ l (⟨q.day,q.ac,q.ag,tr 1,3,q.pd,-1,q.w1,q.w2,q.w3,q.w4⟩:En) X (HES.out X (Since.next hb hX))) ?_
   intro v64;refine jm (v64) ?_;refine bJ (by rfl) (fun X hX hF=>by obtain ⟨u9,h9,h8⟩:=(hF _ _ List.mem_cons_self rfl);subst h9;exact ⟨u9,X,rfl,h8,Below.refl _ _⟩) ?_;intro v65;simp only [pX];refine jg (vI q0) (fun X hX hF=>by obtain ⟨u9,h9,_⟩:=(hF _ _ (List.mem_cons_of_mem _ List.mem_cons_self) rfl);subst h9;rfl) ?_;refine aI ?_;intro X8 hX8 hF;have hv64:=hF _ _ (List.mem_cons_of_mem _ List.mem_cons_self);have hv65:=hF _ _ List.mem_cons_self;obtain ⟨hB0,hB1,hB2,hD7⟩:=bl4 hX8 hB0 hB1 hB2 hD7;have hb:=aD hb hX8;clear hF hX8;obtain ⟨u65,rfl,hu65⟩:=hv65;obtain ⟨A65,c65,rfl⟩:=Es.form hu65;clear hv64;go_upto_region 13 with (refine osn 28 8 65 #[vI (ifz q0 c),.slice A65 (wiL l (adj q)).length c65] aP ?_);obtain ⟨Y8,hY9,hD8,hS9⟩:=aT X8 28 [vI (ifz q0 c),.slice A65 (wiL l (adj q)).length c65];rw [← hY9];clear hY9;have hgs8:=hb.size;have hlt8x0:=hB0.lt;have hlt8x1:=hB1.lt;have hlt8x2:=hB2.lt;have hlt8x3:=hD7.lt;obtain ⟨hB0,hB1,hB2,hD7⟩:=bl4 hS9 hB0 hB1 hB2 hD7;replace hu65:=(Es.lasts _) _ _ _ hu65 hS9;have hb:=aD hb hS9;clear hS9;generalize X8.heap.size=g8 at *
   by_cases hq0:q0=0
   ·have HL:Hid (ajL c l q=l):=by
     show _=_
     unfold ajL
     rw [HE.out,if_pos hq0,if_pos h.out]
    have HQ0:=Lib.hid hq0;clear hq0;have hl4:l.length≤4000:=(acE_ok.1 HC.out).len;go_upto_region 13 with fail;refine jp ?_;refine jm (vI q0) ?_;refine eG q0 0 HQ0.out ?_;refine jm (.bool true) ?_;refine jn (vP (w.heap.size+1) 4) ?_;refine jg (.agg #[.bool q.am.1,st q.am.2.1,st q.am.2.2]) (fun X hX hF=>aO 39 _ (by rfl) (w.heap.size+1) 4 [.bool q.am.1,vS q.am.2.1,vS q.am.2.2] (by rfl) Tryd.underlying39 rfl X (hB1.bel hX) (by rfl) aF) ?_;refine jn (rz) ?_;refine jv (.bool true) (dD _ _ (by rfl) q.am.1 q.am.2.1 q.am.2.2 false [] [] (by rfl) (by rfl) true HZQ.out) ?_;refine jm (.bool true) ?_;refine jzb hb fun X9 hX9 hb=>?_;replace hu65:=(Es.lasts _) _ _ _ hu65 hX9;obtain ⟨hB0,hB1,hB2,hD7,hD8⟩:=bl5 hX9 hB0 hB1 hB2 hD7 hD8
    have HI:Hid (ifz q0 c=c):=by
     show _=_
     unfold ifz
     rw [if_pos HQ0.out]
    go_upto_region 14 with fail;refine bA 4 [none,none,some (Es l)] (aA (aA (aC (Es.lasts _) (aG)))) ?_;simp only [its,List.take,List.drop,Nat.zero_add,Nat.reduceAdd];refine jn (vP w.heap.size 1) ?_;refine jf _ hB0 1 aZ ?_;refine jk (fun X hX hF=>(xQq _ l X (HES.out X (Since.next hb hX)) hl4).mono fun e X' ⟨u,h1,h2,h3⟩=>⟨u,h1,h2.es,h3⟩) ?_;intro v77;refine jn (vP w.heap.size 1) ?_;refine aI ?_;intro X10 hX10 hF;replace hu65:=(Es.lasts _) _ _ _ hu65 hX10;have hv77:=hF _ _ List.mem_cons_self;obtain ⟨hB0,hB1,hB2,hD7,hD8⟩:=bl5 hX10 hB0 hB1 hB2 hD7 hD8;have hb:=aD hb hX10;clear hF hX10;obtain ⟨A77,c77,rfl⟩:=Es.form hv77;refine dA rfl w.heap.size 1 28 _ hB0 (.slice A77 l.length c77) (by simp) (fun X u h1 h2=>qI _ _ (by rfl) _ _ (by rfl) (by rfl) u X h1 h2) ?_;intro w14 hR9 hG9;have hv77:=Es.grown hG9 hv77 hB0;have hb:=aK hG9 hb hb.size (by omega);replace hB2:=aE hG9 hB2 (by omega);have hB0:=hR9;clear hR9 hG9 hB1 hD7 hD8 hu65;refine wpList_nil ?_;go_upto_region 15 with fail;refine jq 1 ?_;refine ja hB0 Tryd.underlying28 (by rfl) aP ?_;refine jzb hb fun X11 hX11 hb=>?_;replace hv77:=(Es.lasts _) _ _ _ hv77 hX11;obtain ⟨hB0,hB2⟩:=bl2 hX11 hB0 hB2;refine aN rfl 28 (.tmp 4) (.tmp 79) rfl (w.heap.size+2) 28 _ hB2 rfl [vI c,.slice A77 l.length c77] rfl (by rfl) (by intro u hu;simp only [List.mem_cons,List.not_mem_nil,or_false] at hu;rcases hu with rfl|rfl <;> rfl) aP ?_
    intro w9s hR9 hG9;have hb:=aK hG9 hb hb.size (by omega);replace hB0:=aE hG9 hB0 (by omega);replace hv77:=Es.grown hG9 hv77 hB2;have hB2:=hR9;clear hG9 hR9
    go_wp2
    refine aU (v:=vI 0) rfl rfl (by rfl) (by rfl) Tryd.underlying28 rfl hB2 aP ⟨_,rfl,⟨_,by rw [HE.out,HQ0.out],by rw [HE.out,HL.out,HI.out];exact ⟨_,rfl,hv77⟩⟩,hb⟩
   ·go_upto_region 13 with fail
    refine jp ?_;refine jm (vI q0) ?_;refine eH q0 0 (by omega) ?_;refine jm (.bool false) ?_;refine js ?_;refine js ?_;refine js ?_;refine js ?_;refine jm (.bool false) ?_;refine jzb hb fun X9 hX9 hb=>?_;replace hu65:=(Es.lasts _) _ _ _ hu65 hX9;obtain ⟨hB0,hB1,hB2,hD7,hD8⟩:=bl5 hX9 hB0 hB1 hB2 hD7 hD8
    have HL:Hid (ajL c l q=wiL l (adj q)):=by
     show _=_
     unfold ajL
     rw [HE.out,HWL.out];rw [if_neg hq0,if_neg hq0]
    go_upto_region 16 with fail;refine jq 2 ?_;refine ja hD8 Tryd.underlying28 (by rfl) aP ?_;refine jm (vI q0) ?_;refine jzb hb fun X10 hX10 hb=>?_;replace hu65:=(Es.lasts _) _ _ _ hu65 hX10;obtain ⟨hB0,hB1,hB2,hD7,hD8⟩:=bl5 hX10 hB0 hB1 hB2 hD7 hD8;refine aN rfl 28 (.tmp 4) (.tmp 80) rfl (w.heap.size+2) 28 _ hB2 rfl [vI (ifz q0 c),.slice A65 (wiL l (adj q)).length c65] rfl (by rfl) (by intro u hu;simp only [List.mem_cons,List.not_mem_nil,or_false] at hu;rcases hu with rfl|rfl <;> rfl) aP ?_;intro w9s hR9 hG9;have hb:=aK hG9 hb hb.size (by omega);replace hB0:=aE hG9 hB0 (by omega);replace hB1:=aE hG9 hB1 (by omega);replace hD7:=aE hG9 hD7 (by omega);replace hD8:=aE hG9 hD8 (by omega);replace hu65:=Es.grown hG9 hu65 hB2;have hB2:=hR9;clear hG9 hR9
    go_wp2
    refine aU (v:=vI q0) rfl rfl (by rfl) (by rfl) Tryd.underlying28 rfl hB2 aP ⟨_,rfl,⟨_,by rw [HE.out],by rw [HE.out,HL.out];exact ⟨_,rfl,hu65⟩⟩,hb⟩
theorem adjn (c:Int) (v:Value) (l:List En) (q:Aj) (w:World) (hv:Es l v w) (hs:Hid (∀ k,tz (en l k).am.2.1 (en l k).am.2.2 1000000)) (hqs:tz q.am.2.1 q.am.2.2 1000000) (HC:Hid (acE c l=0)) (h:Hid (trq q.am<0)):Calls Tryd.prog 37 #[.agg #[vI c,v],.agg #[vI q.day,vI q.ac,vI q.ag,vI q.pd,.bool q.am.1,vS q.am.2.1,vS q.am.2.2,vI q.w1,vI q.w2,vI q.w3,vI q.w4]] w fun e w'=>∃ u,e=.returned u∧Tp (Bks (ifz (ajE c l q) c) (ajL c l q)) (ajE c l q) u w'∧Since w w':=by
 have HA:Hid (adj q=⟨q.day,q.ag,q.ac,tr (-trq q.am),3,q.pd,-1,q.w1,q.w2,q.w3,q.w4⟩):=by
  show _=_
  unfold adj
  rw [if_neg (fun h9=>Rat.ne_of_lt h.out h9),if_pos h.out]
 have HM:=Lib.hid (vVl h.out);have hxs:tz (⟨q.day,q.ag,q.ac,tr (-trq q.am),3,q.pd,-1,q.w1,q.w2,q.w3,q.w4⟩:En).am.2.1 (⟨q.day,q.ag,q.ac,tr (-trq q.am),3,q.pd,-1,q.w1,q.w2,q.w3,q.w4⟩:En).am.2.2 1000000:=tzR (oK (iZ rfl hqs)) (Nat.le_refl _);obtain ⟨A,n,cp,rfl,hln,hn1,hr⟩:=hv.at;clear hv;have HRX:=cP hr;have HLN:=Lib.hid hln;clear hr;have HES:=dG HLN HRX
 go_enter Tryd.func37,Tryd.ntmps37
 go_upto_region 1 with fail;obtain ⟨W0,hW0,hB0,hB1,hB2,hb⟩:=bV w 28 101 28 [vI c,.slice A n cp] [vI q.day,vI q.ac,vI q.ag,vI q.pd,.bool q.am.1,vS q.am.2.1,vS q.am.2.2,vI q.w1,vI q.w2,vI q.w3,vI q.w4] [vI 0,.slice none 0 0];rw [← hW0];clear hW0;refine jp ?_;refine ja hB0 Tryd.underlying28 (by rfl) aP ?_;refine jc (vI 0) (fun X hX hF=>mo (lN c _ l X (HES.out X (Since.next hb hX)) hs) (by rw [HC.out])) ?_;refine jm (vI 0) ?_;refine jzb hb fun X1 hX1 hb=>?_;obtain ⟨hB0,hB1,hB2⟩:=bl3 hX1 hB0 hB1 hB2;go_upto_region 2 with fail;refine jp ?_;refine jm (vI 0) ?_;refine jv (.bool false) (aL _ _ _ _ (by rfl) .i64 0 0 (by rfl) (by rfl) false (by rw [decide_eq_true (by omega)];rfl)) ?_;refine jzb hb fun X2 hX2 hb=>?_;obtain ⟨hB0,hB1,hB2⟩:=bl3 hX2 hB0 hB1 hB2;go_upto_region 4 with fail;refine jq 14 ?_;refine jn (vP (w.heap.size+1) 0) ?_;refine jf _ hB1 0 aB ?_;refine jn (vP (w.heap.size+1) 1) ?_;refine jf _ hB1 1 aB ?_;refine jn (vP (w.heap.size+1) 2) ?_;refine jf _ hB1 2 aB ?_;refine jn (vP (w.heap.size+1) 4) ?_;refine jg (.agg #[.bool q.am.1,st q.am.2.1,st q.am.2.2]) (fun X hX hF=>aO 39 _ (by rfl) (w.heap.size+1) 4 [.bool q.am.1,vS q.am.2.1,vS q.am.2.2] (by rfl) Tryd.underlying39 rfl X (hB1.bel hX) (by rfl) aF) ?_
 refine jn (vP (w.heap.size+1) 3) ?_;refine jf _ hB1 3 aB ?_;refine jn (vP (w.heap.size+1) 7) ?_;refine jg (.agg #[vI q.w1,vI q.w2,vI q.w3,vI q.w4]) (fun X hX hF=>aO 41 _ (by rfl) (w.heap.size+1) 7 [vI q.w1,vI q.w2,vI q.w3,vI q.w4] (by rfl) Tryd.underlying41 rfl X (hB1.bel hX) (by rfl) eY) ?_;refine jn (.agg #[vI 3,vI q.pd,vI (-1),vI q.w1,vI q.w2,vI q.w3,vI q.w4]) ?_;refine jn (.agg #[vI q.day,vI q.ac,vI q.ag,.bool q.am.1,st q.am.2.1,st q.am.2.2,vI 3,vI q.pd,vI (-1),vI q.w1,vI q.w2,vI q.w3,vI q.w4]) ?_;refine jzb hb fun X3 hX3 hb=>?_;obtain ⟨hB0,hB1,hB2⟩:=bl3 hX3 hB0 hB1 hB2;go_upto_region 5 with (refine osn 70 7 29 #[vI q.day,vI q.ac,vI q.ag,.bool q.am.1,vS q.am.2.1,vS q.am.2.2,vI 3,vI q.pd,vI (-1),vI q.w1,vI q.w2,vI q.w3,vI q.w4] aR ?_);obtain ⟨Y3,hY9,hD7,hS9⟩:=aT X3 70 [vI q.day,vI q.ac,vI q.ag,.bool q.am.1,vS q.am.2.1,vS q.am.2.2,vI 3,vI q.pd,vI (-1),vI q.w1,vI q.w2,vI q.w3,vI q.w4];rw [← hY9];clear hY9;have hgs7:=hb.size;have hlt7x0:=hB0.lt;have hlt7x1:=hB1.lt;have hlt7x2:=hB2.lt
 obtain ⟨hB0,hB1,hB2⟩:=bl3 hS9 hB0 hB1 hB2;have hb:=aD hb hS9;clear hS9;generalize X3.heap.size=g7 at *;refine jp ?_;refine jn (vP (w.heap.size+1) 4) ?_;refine jg (.agg #[.bool q.am.1,st q.am.2.1,st q.am.2.2]) (fun X hX hF=>aO 39 _ (by rfl) (w.heap.size+1) 4 [.bool q.am.1,vS q.am.2.1,vS q.am.2.2] (by rfl) Tryd.underlying39 rfl X (hB1.bel hX) (by rfl) aF) ?_;refine jn (rz) ?_;refine jc (vI (-1)) (fun X hX hF=>(xS q.am.1 q.am.2.1 q.am.2.2 false [] [] rfl kP X hqs lI).mono fun e X' ⟨h1,h2⟩=>⟨by rw [h1];show _=_;rw [show rq q.am.1 q.am.2.1 q.am.2.2=trq q.am from rfl,HM.out],h2⟩) ?_;refine jzb hb fun X4 hX4 hb=>?_;obtain ⟨hB0,hB1,hB2,hD7⟩:=bl4 hX4 hB0 hB1 hB2 hD7;go_upto_region 6 with fail;refine jp ?_;refine eH (-1) 0 (by omega) ?_;refine jm (.bool false) ?_;refine jzb hb fun X5 hX5 hb=>?_;obtain ⟨hB0,hB1,hB2,hD7⟩:=bl4 hX5 hB0 hB1 hB2 hD7;go_upto_region 8 with fail;refine jp ?_;refine eG (-1) (-1) (by omega) ?_;refine jm (.bool true) ?_;refine jzb hb fun X6 hX6 hb=>?_;obtain ⟨hB0,hB1,hB2,hD7⟩:=bl4 hX6 hB0 hB1 hB2 hD7;go_upto_region 9 with fail;refine zW g7 70 [vI q.day,vI q.ag,vI q.ac,.bool (rN (-(trq q.am))),.string ⟨(rP (-(trq q.am))).toArray⟩,.string ⟨(rD (-(trq q.am))).toArray⟩,vI 3,vI q.pd,vI (-1),vI q.w1,vI q.w2,vI q.w3,vI q.w4] [none,none,none,none,none,none,none,none,some (fun _ X=>Tq g7 70 [vI q.day,vI q.ag,vI q.ac,.bool (rN (-(trq q.am))),.string ⟨(rP (-(trq q.am))).toArray⟩,.string ⟨(rD (-(trq q.am))).toArray⟩,vI 3,vI q.pd,vI (-1),vI q.w1,vI q.w2,vI q.w3,vI q.w4] 1 2 X),none,some (fun _ X=>Tq g7 70 [vI q.day,vI q.ag,vI q.ac,.bool (rN (-(trq q.am))),.string ⟨(rP (-(trq q.am))).toArray⟩,.string ⟨(rD (-(trq q.am))).toArray⟩,vI 3,vI q.pd,vI (-1),vI q.w1,vI q.w2,vI q.w3,vI q.w4] 2 3 X),none,some (fun _ X=>Tq g7 70 [vI q.day,vI q.ag,vI q.ac,.bool (rN (-(trq q.am))),.string ⟨(rP (-(trq q.am))).toArray⟩,.string ⟨(rD (-(trq q.am))).toArray⟩,vI 3,vI q.pd,vI (-1),vI q.w1,vI q.w2,vI q.w3,vI q.w4] 3 6 X)] (by kernel_rfl) (by kernel_rfl) (fN (fN (fN (fN (fN (fN (fN (fN (rX (fN (rX (fN (rX (vYi)))))))))))))) ?_
 simp only [iX,Nat.reduceAdd];refine jn (vP (w.heap.size+1) 2) ?_;refine jg (vI q.ag) (fun X hX hF=>aY 3 _ (by rfl) (w.heap.size+1) 2 (by rfl) _ X ((Tm.blk hX hB1 (by omega)).cell (j:=2) rfl) (fun X u h=>aB (w.heap.size+1) 2 X u h)) ?_;refine jn (vP (w.heap.size+1) 1) ?_;refine jg (vI q.ac) (fun X hX hF=>aY 3 _ (by rfl) (w.heap.size+1) 1 (by rfl) _ X ((Tm.blk hX hB1 (by omega)).cell (j:=1) rfl) (fun X u h=>aB (w.heap.size+1) 1 X u h)) ?_;refine jn (vP (w.heap.size+1) 4) ?_;refine jg (.agg #[.bool q.am.1,st q.am.2.1,st q.am.2.2]) (fun X hX hF=>aO 39 _ (by rfl) (w.heap.size+1) 4 [.bool q.am.1,vS q.am.2.1,vS q.am.2.2] (by rfl) Tryd.underlying39 rfl X (Tm.blk hX hB1 (by omega)) (by rfl) aF) ?_;refine jc (rt (rN (-(trq q.am))) (rP (-(trq q.am))) (rD (-(trq q.am)))) (fun X hX hF=>(qXb q.am.1 q.am.2.1 q.am.2.2 rfl X hqs).mono fun e X' ⟨h1,h2⟩=>⟨h1,Tm.of_since h2⟩) ?_;refine jn (vP g7 1) ?_;refine uN (by rfl) rfl 1 (vI q.ag) hD7 rfl rfl (fun X u h1 h2=>kE _ _ (by rfl) _ _ (by rfl) (by rfl) u X h1 h2) ?_;refine jn (vP g7 2) ?_;refine uN (by rfl) rfl 2 (vI q.ac) hD7 rfl rfl (fun X u h1 h2=>kE _ _ (by rfl) _ _ (by rfl) (by rfl) u X h1 h2) ?_;refine jn (vP g7 3) ?_;refine zV (by rfl) 39 (.tmp 49) (.tmp 46) (by rfl) rfl 3 3 [.bool (rN (-(trq q.am))),.string ⟨(rP (-(trq q.am))).toArray⟩,.string ⟨(rD (-(trq q.am))).toArray⟩] (by rfl) (by rfl) hD7 rfl rfl (by simp) (fun i hi=>by have h9:i=0∨i=1∨i=2:=(by omega);rcases h9 with rfl|rfl|rfl <;> rfl) (by intro u hu;simp only [List.mem_cons,List.not_mem_nil,or_false] at hu;rcases hu with rfl|rfl|rfl <;> rfl) aF ?_
 refine aI ?_;intro X7 hX7 hF;have hq0:=hF _ _ (List.mem_cons_of_mem _ (List.mem_cons_of_mem _ List.mem_cons_self));have hq1:=hF _ _ (List.mem_cons_of_mem _ List.mem_cons_self);have hq2:=hF _ _ List.mem_cons_self;have hb:=hX7.below hb hb.size (by omega);have hB0:=Tm.blk hX7 hB0 (by omega);have hB1:=Tm.blk hX7 hB1 (by omega);have hB2:=Tm.blk hX7 hB2 (by omega);have hD7:Blk X7 g7 70 [vI q.day,vI q.ag,vI q.ac,.bool (rN (-(trq q.am))),.string ⟨(rP (-(trq q.am))).toArray⟩,.string ⟨(rD (-(trq q.am))).toArray⟩,vI 3,vI q.pd,vI (-1),vI q.w1,vI q.w2,vI q.w3,vI q.w4]:=Tm.done hX7 hD7 rfl [(1,2),(2,3),(3,6)] (by intro p hp;simp only [List.mem_cons,List.not_mem_nil,or_false] at hp;rcases hp with rfl|rfl|rfl;exact hq0;exact hq1;exact hq2) (fun j hj=>match j,hj with|0,_=>.inr rfl|1,_=>.inl ⟨(1,2),List.mem_cons_self,by decide,by decide⟩|2,_=>.inl ⟨(2,3),(List.mem_cons_of_mem _ List.mem_cons_self),by decide,by decide⟩|3,_=>.inl ⟨(3,6),(List.mem_cons_of_mem _ (List.mem_cons_of_mem _ List.mem_cons_self)),by decide,by decide⟩|4,_=>.inl ⟨(3,6),(List.mem_cons_of_mem _ (List.mem_cons_of_mem _ List.mem_cons_self)),by decide,by decide⟩|5,_=>.inl ⟨(3,6),(List.mem_cons_of_mem _ (List.mem_cons_of_mem _ List.mem_cons_self)),by decide,by decide⟩|6,_=>.inr rfl|7,_=>.inr rfl|8,_=>.inr rfl|9,_=>.inr rfl|10,_=>.inr rfl|11,_=>.inr rfl|12,_=>.inr rfl|(n+13),hj=>absurd hj (by simp))
 clear hF hX7 hq0 hq1 hq2
 obtain hV9|hV9:vd q.am.1 q.am.2.1 q.am.2.2=false∨vd q.am.1 q.am.2.1 q.am.2.2=true:=by cases vd q.am.1 q.am.2.1 q.am.2.2 <;> simp
 ·have HV:=Lib.hid hV9
  clear hV9
  have HE:Hid (ajE c l q=1):=by
   show _=_
   unfold ajE
   rw [HC.out,if_neg (by decide),if_pos (.inl HV.out)]
  go_upto_region 10 with fail;refine jp ?_;refine jn (vP (w.heap.size+1) 4) ?_;refine jg (.agg #[.bool q.am.1,st q.am.2.1,st q.am.2.2]) (fun X hX hF=>aO 39 _ (by rfl) (w.heap.size+1) 4 [.bool q.am.1,vS q.am.2.1,vS q.am.2.2] (by rfl) Tryd.underlying39 rfl X (hB1.bel hX) (by rfl) aF) ?_;refine jc (.bool false) (fun X hX hF=>mo (dT q.am.1 q.am.2.1 q.am.2.2 X hqs) (by rw [HV.out])) ?_;refine jm (.bool true) ?_;refine jm (.bool true) ?_;refine js ?_;refine js ?_;refine js ?_;refine js ?_;refine jm (.bool true) ?_;refine jzb hb fun X8 hX8 hb=>?_;obtain ⟨hB0,hB1,hB2,hD7⟩:=bl4 hX8 hB0 hB1 hB2 hD7
  have HL:Hid (ajL c l q=[]):=by
   show _=_
   unfold ajL
   rw [HE.out,if_neg (by decide)]
  go_upto_region 11 with fail;refine jq 1 ?_;refine jn (.agg #[vI 0,.slice none 0 0]) ?_;refine jzb hb fun X9 hX9 hb=>?_;obtain ⟨hB0,hB1,hB2,hD7⟩:=bl4 hX9 hB0 hB1 hB2 hD7;refine osb 28 4 60 (w.heap.size+2) 28 hB2 [vI 0,.slice none 0 0] aP ?_;intro w9 hR9 hO9 hB9 hs9;have hb9:=hB9 _ _ hb (by omega);have hB0:=hO9 _ _ _ (by omega) hB0;have hB1:=hO9 _ _ _ (by omega) hB1;have hD7:=hO9 _ _ _ (by omega) hD7;clear hO9 hB9
  go_wp2
  refine aU (v:=vI 1) rfl rfl (by rfl) (by rfl) Tryd.underlying28 rfl hR9 aP ⟨_,rfl,⟨_,by rw [HE.out],by rw [HE.out,HL.out];exact ⟨_,rfl,cV _⟩⟩,hb9⟩
 ·have HV:=Lib.hid hV9
  clear hV9
  obtain hR9|hR9:rgt c l.length (adj q)=false∨rgt c l.length (adj q)=true:=by cases rgt c l.length (adj q) <;> simp
  ·have HR:=Lib.hid hR9
   clear hR9
   have HE:Hid (ajE c l q=1):=by
    show _=_
    unfold ajE
    rw [HC.out,if_neg (by decide),if_pos (.inr HR.out)]
   have HR2:Hid (rgt c n (⟨q.day,q.ag,q.ac,tr (-trq q.am),3,q.pd,-1,q.w1,q.w2,q.w3,q.w4⟩:En)=false):=by
    show _=_
    rw [← HLN.out,← HA.out];exact HR.out
   go_upto_region 10 with fail;refine jp ?_;refine jn (vP (w.heap.size+1) 4) ?_;refine jg (.agg #[.bool q.am.1,st q.am.2.1,st q.am.2.2]) (fun X hX hF=>aO 39 _ (by rfl) (w.heap.size+1) 4 [.bool q.am.1,vS q.am.2.1,vS q.am.2.2] (by rfl) Tryd.underlying39 rfl X (hB1.bel hX) (by rfl) aF) ?_;refine jc (.bool true) (fun X hX hF=>mo (dT q.am.1 q.am.2.1 q.am.2.2 X hqs) (by rw [HV.out])) ?_;refine jm (.bool false) ?_;refine jm (.bool false) ?_;refine ja hB0 Tryd.underlying28 (by rfl) aP ?_;refine ja hD7 Tryd.underlying70 (by rfl) aR ?_;refine jc (.bool false) (fun X hX hF=>mo (oH c A n cp (⟨q.day,q.ag,q.ac,tr (-trq q.am),3,q.pd,-1,q.w1,q.w2,q.w3,q.w4⟩:En) X hn1 hxs) (by rw [HR2.out])) ?_;refine jm (.bool true) ?_;refine jm (.bool true) ?_;refine jzb hb fun X8 hX8 hb=>?_;obtain ⟨hB0,hB1,hB2,hD7⟩:=bl4 hX8 hB0 hB1 hB2 hD7
   have HL:Hid (ajL c l q=[]):=by
    show _=_
    unfold ajL
    rw [HE.out,if_neg (by decide)]
   go_upto_region 11 with fail;refine jq 1 ?_;refine jn (.agg #[vI 0,.slice none 0 0]) ?_;refine jzb hb fun X9 hX9 hb=>?_;obtain ⟨hB0,hB1,hB2,hD7⟩:=bl4 hX9 hB0 hB1 hB2 hD7;refine osb 28 4 60 (w.heap.size+2) 28 hB2 [vI 0,.slice none 0 0] aP ?_;intro w9 hR9 hO9 hB9 hs9;have hb9:=hB9 _ _ hb (by omega);have hB0:=hO9 _ _ _ (by omega) hB0;have hB1:=hO9 _ _ _ (by omega) hB1;have hD7:=hO9 _ _ _ (by omega) hD7;clear hO9 hB9
   go_wp2
   refine aU (v:=vI 1) rfl rfl (by rfl) (by rfl) Tryd.underlying28 rfl hR9 aP ⟨_,rfl,⟨_,by rw [HE.out],by rw [HE.out,HL.out];exact ⟨_,rfl,cV _⟩⟩,hb9⟩
  ·have HR:=Lib.hid hR9
   clear hR9;obtain ⟨q0,q9⟩:∃ q0,q0=gB l (adj q):=⟨_,rfl⟩;have HQ:=Lib.hid q9;clear q9
   have HE:Hid (ajE c l q=q0):=by
    show _=_
    unfold ajE
    rw [HC.out,if_neg (by decide),if_neg (by rw [HV.out,HR.out];simp),HQ.out]
   have HWL:Hid (wiL l (adj q)=if q0=0 then l++[adj q] else []):=by
    show _=_
    unfold wiL
    rw [← HQ.out]
   have HZQ:Hid ((q.am.1 == false && q.am.2.1 == [] && q.am.2.2 == [])=false):=tQ (Rat.ne_of_lt h.out)
   have HR2:Hid (rgt c n (⟨q.day,q.ag,q.ac,tr (-trq q.am),3,q.pd,-1,q.w1,q.w2,q.w3,q.w4⟩:En)=true):=by
    show _=_
    rw [← HLN.out,← HA.out];exact HR.out
   go_upto_region 10 with fail;refine jp ?_;refine jn (vP (w.heap.size+1) 4) ?_;refine jg (.agg #[.bool q.am.1,st q.am.2.1,st q.am.2.2]) (fun X hX hF=>aO 39 _ (by rfl) (w.heap.size+1) 4 [.bool q.am.1,vS q.am.2.1,vS q.am.2.2] (by rfl) Tryd.underlying39 rfl X (hB1.bel hX) (by rfl) aF) ?_;refine jc (.bool true) (fun X hX hF=>mo (dT q.am.1 q.am.2.1 q.am.2.2 X hqs) (by rw [HV.out])) ?_;refine jm (.bool false) ?_;refine jm (.bool false) ?_;refine ja hB0 Tryd.underlying28 (by rfl) aP ?_;refine ja hD7 Tryd.underlying70 (by rfl) aR ?_;refine jc (.bool true) (fun X hX hF=>mo (oH c A n cp (⟨q.day,q.ag,q.ac,tr (-trq q.am),3,q.pd,-1,q.w1,q.w2,q.w3,q.w4⟩:En) X hn1 hxs) (by rw [HR2.out])) ?_;refine jm (.bool false) ?_;refine jm (.bool false) ?_;refine jzb hb fun X8 hX8 hb=>?_;obtain ⟨hB0,hB1,hB2,hD7⟩:=bl4 hX8 hB0 hB1 hB2 hD7;go_upto_region 12 with fail;refine bA 6 [none,none,some (Tp (Bks (ifz q0 c) (wiL l (adj q))) q0),none,some (Bks (ifz q0 c) (wiL l (adj q)))] (aA (aA (aC (Tp.lasts (Bks.lasts _ _) _) (aA (aC (Bks.lasts _ _) (aG)))))) ?_;simp only [its,List.take,List.drop,Nat.zero_add,Nat.reduceAdd];refine ja hB0 Tryd.underlying28 (by rfl) aP ?_;refine ja hD7 Tryd.underlying70 (by rfl) aR ?_;refine jk (fun X hX hF=>by rw [HQ.out,HA.out];exact qZp c _ l (⟨q.day,q.ag,q.ac,tr (-trq q.am),3,q.pd,-1,q.w1,q.w2,q.w3,q.w4⟩:En) X (HES.out X (Since.next hb hX))) ?_
   intro v64;refine jm (v64) ?_;refine bJ (by rfl) (fun X hX hF=>by obtain ⟨u9,h9,h8⟩:=(hF _ _ List.mem_cons_self rfl);subst h9;exact ⟨u9,X,rfl,h8,Below.refl _ _⟩) ?_;intro v65;simp only [pX];refine jg (vI q0) (fun X hX hF=>by obtain ⟨u9,h9,_⟩:=(hF _ _ (List.mem_cons_of_mem _ List.mem_cons_self) rfl);subst h9;rfl) ?_;refine aI ?_;intro X9 hX9 hF;have hv64:=hF _ _ (List.mem_cons_of_mem _ List.mem_cons_self);have hv65:=hF _ _ List.mem_cons_self;obtain ⟨hB0,hB1,hB2,hD7⟩:=bl4 hX9 hB0 hB1 hB2 hD7;have hb:=aD hb hX9;clear hF hX9;obtain ⟨u65,rfl,hu65⟩:=hv65;obtain ⟨A65,c65,rfl⟩:=Es.form hu65;clear hv64;go_upto_region 13 with (refine osn 28 8 65 #[vI (ifz q0 c),.slice A65 (wiL l (adj q)).length c65] aP ?_);obtain ⟨Y9,hY9,hD8,hS9⟩:=aT X9 28 [vI (ifz q0 c),.slice A65 (wiL l (adj q)).length c65];rw [← hY9];clear hY9;have hgs8:=hb.size;have hlt8x0:=hB0.lt;have hlt8x1:=hB1.lt;have hlt8x2:=hB2.lt;have hlt8x3:=hD7.lt;obtain ⟨hB0,hB1,hB2,hD7⟩:=bl4 hS9 hB0 hB1 hB2 hD7;replace hu65:=(Es.lasts _) _ _ _ hu65 hS9;have hb:=aD hb hS9;clear hS9;generalize X9.heap.size=g8 at *
   by_cases hq0:q0=0
   ·have HQ0:=Lib.hid hq0
    clear hq0;go_upto_region 13 with fail;refine jp ?_;refine jm (vI q0) ?_;refine eG q0 0 HQ0.out ?_;refine jm (.bool true) ?_;refine jn (vP (w.heap.size+1) 4) ?_;refine jg (.agg #[.bool q.am.1,st q.am.2.1,st q.am.2.2]) (fun X hX hF=>aO 39 _ (by rfl) (w.heap.size+1) 4 [.bool q.am.1,vS q.am.2.1,vS q.am.2.2] (by rfl) Tryd.underlying39 rfl X (hB1.bel hX) (by rfl) aF) ?_;refine jn (rz) ?_;refine jv (.bool false) (dD _ _ (by rfl) q.am.1 q.am.2.1 q.am.2.2 false [] [] (by rfl) (by rfl) false HZQ.out) ?_;refine jm (.bool false) ?_;refine jzb hb fun X10 hX10 hb=>?_;replace hu65:=(Es.lasts _) _ _ _ hu65 hX10;obtain ⟨hB0,hB1,hB2,hD7,hD8⟩:=bl5 hX10 hB0 hB1 hB2 hD7 hD8
    have HL:Hid (ajL c l q=wiL l (adj q)):=by
     show _=_
     unfold ajL
     rw [HE.out,HWL.out];rw [if_pos HQ0.out,if_pos HQ0.out,if_neg (Rat.ne_of_lt h.out)]
    go_upto_region 16 with fail;refine jq 2 ?_;refine ja hD8 Tryd.underlying28 (by rfl) aP ?_;refine jm (vI q0) ?_;refine jzb hb fun X11 hX11 hb=>?_;replace hu65:=(Es.lasts _) _ _ _ hu65 hX11;obtain ⟨hB0,hB1,hB2,hD7,hD8⟩:=bl5 hX11 hB0 hB1 hB2 hD7 hD8;refine aN rfl 28 (.tmp 4) (.tmp 80) rfl (w.heap.size+2) 28 _ hB2 rfl [vI (ifz q0 c),.slice A65 (wiL l (adj q)).length c65] rfl (by rfl) (by intro u hu;simp only [List.mem_cons,List.not_mem_nil,or_false] at hu;rcases hu with rfl|rfl <;> rfl) aP ?_;intro w9s hR9 hG9;have hb:=aK hG9 hb hb.size (by omega);replace hB0:=aE hG9 hB0 (by omega);replace hB1:=aE hG9 hB1 (by omega);replace hD7:=aE hG9 hD7 (by omega);replace hD8:=aE hG9 hD8 (by omega);replace hu65:=Es.grown hG9 hu65 hB2;have hB2:=hR9;clear hG9 hR9
    go_wp2
    refine aU (v:=vI q0) rfl rfl (by rfl) (by rfl) Tryd.underlying28 rfl hB2 aP ⟨_,rfl,⟨_,by rw [HE.out],by rw [HE.out,HL.out];exact ⟨_,rfl,hu65⟩⟩,hb⟩
   ·go_upto_region 13 with fail
    refine jp ?_;refine jm (vI q0) ?_;refine eH q0 0 (by omega) ?_;refine jm (.bool false) ?_;refine js ?_;refine js ?_;refine js ?_;refine js ?_;refine jm (.bool false) ?_;refine jzb hb fun X10 hX10 hb=>?_;replace hu65:=(Es.lasts _) _ _ _ hu65 hX10;obtain ⟨hB0,hB1,hB2,hD7,hD8⟩:=bl5 hX10 hB0 hB1 hB2 hD7 hD8
    have HL:Hid (ajL c l q=wiL l (adj q)):=by
     show _=_
     unfold ajL
     rw [HE.out,HWL.out];rw [if_neg hq0,if_neg hq0]
    go_upto_region 16 with fail;refine jq 2 ?_;refine ja hD8 Tryd.underlying28 (by rfl) aP ?_;refine jm (vI q0) ?_;refine jzb hb fun X11 hX11 hb=>?_;replace hu65:=(Es.lasts _) _ _ _ hu65 hX11;obtain ⟨hB0,hB1,hB2,hD7,hD8⟩:=bl5 hX11 hB0 hB1 hB2 hD7 hD8;refine aN rfl 28 (.tmp 4) (.tmp 80) rfl (w.heap.size+2) 28 _ hB2 rfl [vI (ifz q0 c),.slice A65 (wiL l (adj q)).length c65] rfl (by rfl) (by intro u hu;simp only [List.mem_cons,List.not_mem_nil,or_false] at hu;rcases hu with rfl|rfl <;> rfl) aP ?_;intro w9s hR9 hG9;have hb:=aK hG9 hb hb.size (by omega);replace hB0:=aE hG9 hB0 (by omega);replace hB1:=aE hG9 hB1 (by omega);replace hD7:=aE hG9 hD7 (by omega);replace hD8:=aE hG9 hD8 (by omega);replace hu65:=Es.grown hG9 hu65 hB2;have hB2:=hR9;clear hG9 hR9
    go_wp2
    refine aU (v:=vI q0) rfl rfl (by rfl) (by rfl) Tryd.underlying28 rfl hB2 aP ⟨_,rfl,⟨_,by rw [HE.out],by rw [HE.out,HL.out];exact ⟨_,rfl,hu65⟩⟩,hb⟩
theorem adjp (c:Int) (v:Value) (l:List En) (q:Aj) (w:World) (hv:Es l v w) (hs:Hid (∀ k,tz (en l k).am.2.1 (en l k).am.2.2 1000000)) (hqs:tz q.am.2.1 q.am.2.2 1000000) (HC:Hid (acE c l=0)) (h0:Hid (trq q.am≠0)) (h:Hid (¬ trq q.am<0)):Calls Tryd.prog 37 #[.agg #[vI c,v],.agg #[vI q.day,vI q.ac,vI q.ag,vI q.pd,.bool q.am.1,vS q.am.2.1,vS q.am.2.2,vI q.w1,vI q.w2,vI q.w3,vI q.w4]] w fun e w'=>∃ u,e=.returned u∧Tp (Bks (ifz (ajE c l q) c) (ajL c l q)) (ajE c l q) u w'∧Since w w':=by
 have HA:Hid (adj q=⟨q.day,q.ac,q.ag,q.am,3,q.pd,-1,q.w1,q.w2,q.w3,q.w4⟩):=by
  show _=_
  unfold adj
  rw [if_neg h0.out,if_neg h.out]
 have HM:=Lib.hid (vVk h0.out h.out);have hxs:tz (⟨q.day,q.ac,q.ag,q.am,3,q.pd,-1,q.w1,q.w2,q.w3,q.w4⟩:En).am.2.1 (⟨q.day,q.ac,q.ag,q.am,3,q.pd,-1,q.w1,q.w2,q.w3,q.w4⟩:En).am.2.2 1000000:=hqs;obtain ⟨A,n,cp,rfl,hln,hn1,hr⟩:=hv.at;clear hv;have HRX:=cP hr;have HLN:=Lib.hid hln;clear hr;have HES:=dG HLN HRX
 go_enter Tryd.func37,Tryd.ntmps37
 go_upto_region 1 with fail;obtain ⟨W0,hW0,hB0,hB1,hB2,hb⟩:=bV w 28 101 28 [vI c,.slice A n cp] [vI q.day,vI q.ac,vI q.ag,vI q.pd,.bool q.am.1,vS q.am.2.1,vS q.am.2.2,vI q.w1,vI q.w2,vI q.w3,vI q.w4] [vI 0,.slice none 0 0];rw [← hW0];clear hW0;refine jp ?_;refine ja hB0 Tryd.underlying28 (by rfl) aP ?_;refine jc (vI 0) (fun X hX hF=>mo (lN c _ l X (HES.out X (Since.next hb hX)) hs) (by rw [HC.out])) ?_;refine jm (vI 0) ?_;refine jzb hb fun X1 hX1 hb=>?_;obtain ⟨hB0,hB1,hB2⟩:=bl3 hX1 hB0 hB1 hB2;go_upto_region 2 with fail;refine jp ?_;refine jm (vI 0) ?_;refine jv (.bool false) (aL _ _ _ _ (by rfl) .i64 0 0 (by rfl) (by rfl) false (by rw [decide_eq_true (by omega)];rfl)) ?_;refine jzb hb fun X2 hX2 hb=>?_;obtain ⟨hB0,hB1,hB2⟩:=bl3 hX2 hB0 hB1 hB2;go_upto_region 4 with fail;refine jq 14 ?_;refine jn (vP (w.heap.size+1) 0) ?_;refine jf _ hB1 0 aB ?_;refine jn (vP (w.heap.size+1) 1) ?_;refine jf _ hB1 1 aB ?_;refine jn (vP (w.heap.size+1) 2) ?_;refine jf _ hB1 2 aB ?_;refine jn (vP (w.heap.size+1) 4) ?_;refine jg (.agg #[.bool q.am.1,st q.am.2.1,st q.am.2.2]) (fun X hX hF=>aO 39 _ (by rfl) (w.heap.size+1) 4 [.bool q.am.1,vS q.am.2.1,vS q.am.2.2] (by rfl) Tryd.underlying39 rfl X (hB1.bel hX) (by rfl) aF) ?_
 refine jn (vP (w.heap.size+1) 3) ?_;refine jf _ hB1 3 aB ?_;refine jn (vP (w.heap.size+1) 7) ?_;refine jg (.agg #[vI q.w1,vI q.w2,vI q.w3,vI q.w4]) (fun X hX hF=>aO 41 _ (by rfl) (w.heap.size+1) 7 [vI q.w1,vI q.w2,vI q.w3,vI q.w4] (by rfl) Tryd.underlying41 rfl X (hB1.bel hX) (by rfl) eY) ?_;refine jn (.agg #[vI 3,vI q.pd,vI (-1),vI q.w1,vI q.w2,vI q.w3,vI q.w4]) ?_;refine jn (.agg #[vI q.day,vI q.ac,vI q.ag,.bool q.am.1,st q.am.2.1,st q.am.2.2,vI 3,vI q.pd,vI (-1),vI q.w1,vI q.w2,vI q.w3,vI q.w4]) ?_;refine jzb hb fun X3 hX3 hb=>?_;obtain ⟨hB0,hB1,hB2⟩:=bl3 hX3 hB0 hB1 hB2;go_upto_region 5 with (refine osn 70 7 29 #[vI q.day,vI q.ac,vI q.ag,.bool q.am.1,vS q.am.2.1,vS q.am.2.2,vI 3,vI q.pd,vI (-1),vI q.w1,vI q.w2,vI q.w3,vI q.w4] aR ?_);obtain ⟨Y3,hY9,hD7,hS9⟩:=aT X3 70 [vI q.day,vI q.ac,vI q.ag,.bool q.am.1,vS q.am.2.1,vS q.am.2.2,vI 3,vI q.pd,vI (-1),vI q.w1,vI q.w2,vI q.w3,vI q.w4];rw [← hY9];clear hY9;have hgs7:=hb.size;have hlt7x0:=hB0.lt;have hlt7x1:=hB1.lt;have hlt7x2:=hB2.lt
 obtain ⟨hB0,hB1,hB2⟩:=bl3 hS9 hB0 hB1 hB2;have hb:=aD hb hS9;clear hS9;generalize X3.heap.size=g7 at *;refine jp ?_;refine jn (vP (w.heap.size+1) 4) ?_;refine jg (.agg #[.bool q.am.1,st q.am.2.1,st q.am.2.2]) (fun X hX hF=>aO 39 _ (by rfl) (w.heap.size+1) 4 [.bool q.am.1,vS q.am.2.1,vS q.am.2.2] (by rfl) Tryd.underlying39 rfl X (hB1.bel hX) (by rfl) aF) ?_;refine jn (rz) ?_;refine jc (vI 1) (fun X hX hF=>(xS q.am.1 q.am.2.1 q.am.2.2 false [] [] rfl kP X hqs lI).mono fun e X' ⟨h1,h2⟩=>⟨by rw [h1];show _=_;rw [show rq q.am.1 q.am.2.1 q.am.2.2=trq q.am from rfl,HM.out],h2⟩) ?_;refine jzb hb fun X4 hX4 hb=>?_;obtain ⟨hB0,hB1,hB2,hD7⟩:=bl4 hX4 hB0 hB1 hB2 hD7;go_upto_region 6 with fail;refine jp ?_;refine eH 1 0 (by omega) ?_;refine jm (.bool false) ?_;refine jzb hb fun X5 hX5 hb=>?_;obtain ⟨hB0,hB1,hB2,hD7⟩:=bl4 hX5 hB0 hB1 hB2 hD7;go_upto_region 8 with fail;refine jp ?_;refine eH 1 (-1) (by omega) ?_;refine jm (.bool false) ?_;refine jzb hb fun X6 hX6 hb=>?_;obtain ⟨hB0,hB1,hB2,hD7⟩:=bl4 hX6 hB0 hB1 hB2 hD7
 obtain hV9|hV9:vd q.am.1 q.am.2.1 q.am.2.2=false∨vd q.am.1 q.am.2.1 q.am.2.2=true:=by cases vd q.am.1 q.am.2.1 q.am.2.2 <;> simp
 ·have HV:=Lib.hid hV9
  clear hV9
  have HE:Hid (ajE c l q=1):=by
   show _=_
   unfold ajE
   rw [HC.out,if_neg (by decide),if_pos (.inl HV.out)]
  go_upto_region 10 with fail;refine jp ?_;refine jn (vP (w.heap.size+1) 4) ?_;refine jg (.agg #[.bool q.am.1,st q.am.2.1,st q.am.2.2]) (fun X hX hF=>aO 39 _ (by rfl) (w.heap.size+1) 4 [.bool q.am.1,vS q.am.2.1,vS q.am.2.2] (by rfl) Tryd.underlying39 rfl X (hB1.bel hX) (by rfl) aF) ?_;refine jc (.bool false) (fun X hX hF=>mo (dT q.am.1 q.am.2.1 q.am.2.2 X hqs) (by rw [HV.out])) ?_;refine jm (.bool true) ?_;refine jm (.bool true) ?_;refine js ?_;refine js ?_;refine js ?_;refine js ?_;refine jm (.bool true) ?_;refine jzb hb fun X7 hX7 hb=>?_;obtain ⟨hB0,hB1,hB2,hD7⟩:=bl4 hX7 hB0 hB1 hB2 hD7
  have HL:Hid (ajL c l q=[]):=by
   show _=_
   unfold ajL
   rw [HE.out,if_neg (by decide)]
  go_upto_region 11 with fail;refine jq 1 ?_;refine jn (.agg #[vI 0,.slice none 0 0]) ?_;refine jzb hb fun X8 hX8 hb=>?_;obtain ⟨hB0,hB1,hB2,hD7⟩:=bl4 hX8 hB0 hB1 hB2 hD7;refine osb 28 4 60 (w.heap.size+2) 28 hB2 [vI 0,.slice none 0 0] aP ?_;intro w9 hR9 hO9 hB9 hs9;have hb9:=hB9 _ _ hb (by omega);have hB0:=hO9 _ _ _ (by omega) hB0;have hB1:=hO9 _ _ _ (by omega) hB1;have hD7:=hO9 _ _ _ (by omega) hD7;clear hO9 hB9
  go_wp2
  refine aU (v:=vI 1) rfl rfl (by rfl) (by rfl) Tryd.underlying28 rfl hR9 aP ⟨_,rfl,⟨_,by rw [HE.out],by rw [HE.out,HL.out];exact ⟨_,rfl,cV _⟩⟩,hb9⟩
 ·have HV:=Lib.hid hV9
  clear hV9
  obtain hR9|hR9:rgt c l.length (adj q)=false∨rgt c l.length (adj q)=true:=by cases rgt c l.length (adj q) <;> simp
  ·have HR:=Lib.hid hR9
   clear hR9
   have HE:Hid (ajE c l q=1):=by
    show _=_
    unfold ajE
    rw [HC.out,if_neg (by decide),if_pos (.inr HR.out)]
   have HR2:Hid (rgt c n (⟨q.day,q.ac,q.ag,q.am,3,q.pd,-1,q.w1,q.w2,q.w3,q.w4⟩:En)=false):=by
    show _=_
    rw [← HLN.out,← HA.out];exact HR.out
   go_upto_region 10 with fail;refine jp ?_;refine jn (vP (w.heap.size+1) 4) ?_;refine jg (.agg #[.bool q.am.1,st q.am.2.1,st q.am.2.2]) (fun X hX hF=>aO 39 _ (by rfl) (w.heap.size+1) 4 [.bool q.am.1,vS q.am.2.1,vS q.am.2.2] (by rfl) Tryd.underlying39 rfl X (hB1.bel hX) (by rfl) aF) ?_;refine jc (.bool true) (fun X hX hF=>mo (dT q.am.1 q.am.2.1 q.am.2.2 X hqs) (by rw [HV.out])) ?_;refine jm (.bool false) ?_;refine jm (.bool false) ?_;refine ja hB0 Tryd.underlying28 (by rfl) aP ?_;refine ja hD7 Tryd.underlying70 (by rfl) aR ?_;refine jc (.bool false) (fun X hX hF=>mo (oH c A n cp (⟨q.day,q.ac,q.ag,q.am,3,q.pd,-1,q.w1,q.w2,q.w3,q.w4⟩:En) X hn1 hxs) (by rw [HR2.out])) ?_;refine jm (.bool true) ?_;refine jm (.bool true) ?_;refine jzb hb fun X7 hX7 hb=>?_;obtain ⟨hB0,hB1,hB2,hD7⟩:=bl4 hX7 hB0 hB1 hB2 hD7
   have HL:Hid (ajL c l q=[]):=by
    show _=_
    unfold ajL
    rw [HE.out,if_neg (by decide)]
   go_upto_region 11 with fail;refine jq 1 ?_;refine jn (.agg #[vI 0,.slice none 0 0]) ?_;refine jzb hb fun X8 hX8 hb=>?_;obtain ⟨hB0,hB1,hB2,hD7⟩:=bl4 hX8 hB0 hB1 hB2 hD7;refine osb 28 4 60 (w.heap.size+2) 28 hB2 [vI 0,.slice none 0 0] aP ?_;intro w9 hR9 hO9 hB9 hs9;have hb9:=hB9 _ _ hb (by omega);have hB0:=hO9 _ _ _ (by omega) hB0;have hB1:=hO9 _ _ _ (by omega) hB1;have hD7:=hO9 _ _ _ (by omega) hD7;clear hO9 hB9
   go_wp2
   refine aU (v:=vI 1) rfl rfl (by rfl) (by rfl) Tryd.underlying28 rfl hR9 aP ⟨_,rfl,⟨_,by rw [HE.out],by rw [HE.out,HL.out];exact ⟨_,rfl,cV _⟩⟩,hb9⟩
  ·have HR:=Lib.hid hR9
   clear hR9;obtain ⟨q0,q9⟩:∃ q0,q0=gB l (adj q):=⟨_,rfl⟩;have HQ:=Lib.hid q9;clear q9
   have HE:Hid (ajE c l q=q0):=by
    show _=_
    unfold ajE
    rw [HC.out,if_neg (by decide),if_neg (by rw [HV.out,HR.out];simp),HQ.out]
   have HWL:Hid (wiL l (adj q)=if q0=0 then l++[adj q] else []):=by
    show _=_
    unfold wiL
    rw [← HQ.out]
   have HZQ:Hid ((q.am.1 == false && q.am.2.1 == [] && q.am.2.2 == [])=false):=tQ h0.out
   have HR2:Hid (rgt c n (⟨q.day,q.ac,q.ag,q.am,3,q.pd,-1,q.w1,q.w2,q.w3,q.w4⟩:En)=true):=by
    show _=_
    rw [← HLN.out,← HA.out];exact HR.out
   go_upto_region 10 with fail;refine jp ?_;refine jn (vP (w.heap.size+1) 4) ?_;refine jg (.agg #[.bool q.am.1,st q.am.2.1,st q.am.2.2]) (fun X hX hF=>aO 39 _ (by rfl) (w.heap.size+1) 4 [.bool q.am.1,vS q.am.2.1,vS q.am.2.2] (by rfl) Tryd.underlying39 rfl X (hB1.bel hX) (by rfl) aF) ?_;refine jc (.bool true) (fun X hX hF=>mo (dT q.am.1 q.am.2.1 q.am.2.2 X hqs) (by rw [HV.out])) ?_;refine jm (.bool false) ?_;refine jm (.bool false) ?_;refine ja hB0 Tryd.underlying28 (by rfl) aP ?_;refine ja hD7 Tryd.underlying70 (by rfl) aR ?_;refine jc (.bool true) (fun X hX hF=>mo (oH c A n cp (⟨q.day,q.ac,q.ag,q.am,3,q.pd,-1,q.w1,q.w2,q.w3,q.w4⟩:En) X hn1 hxs) (by rw [HR2.out])) ?_;refine jm (.bool false) ?_;refine jm (.bool false) ?_;refine jzb hb fun X7 hX7 hb=>?_;obtain ⟨hB0,hB1,hB2,hD7⟩:=bl4 hX7 hB0 hB1 hB2 hD7;go_upto_region 12 with fail;refine bA 6 [none,none,some (Tp (Bks (ifz q0 c) (wiL l (adj q))) q0),none,some (Bks (ifz q0 c) (wiL l (adj q)))] (aA (aA (aC (Tp.lasts (Bks.lasts _ _) _) (aA (aC (Bks.lasts _ _) (aG)))))) ?_;simp only [its,List.take,List.drop,Nat.zero_add,Nat.reduceAdd];refine ja hB0 Tryd.underlying28 (by rfl) aP ?_;refine ja hD7 Tryd.underlying70 (by rfl) aR ?_;refine jk (fun X hX hF=>by rw [HQ.out,HA.out];exact qZp c _ l (⟨q.day,q.ac,q.ag,q.am,3,q.pd,-1,q.w1,q.w2,q.w3,q.w4⟩:En) X (HES.out X (Since.next hb hX))) ?_
   intro v64;refine jm (v64) ?_;refine bJ (by rfl) (fun X hX hF=>by obtain ⟨u9,h9,h8⟩:=(hF _ _ List.mem_cons_self rfl);subst h9;exact ⟨u9,X,rfl,h8,Below.refl _ _⟩) ?_;intro v65;simp only [pX];refine jg (vI q0) (fun X hX hF=>by obtain ⟨u9,h9,_⟩:=(hF _ _ (List.mem_cons_of_mem _ List.mem_cons_self) rfl);subst h9;rfl) ?_;refine aI ?_;intro X8 hX8 hF;have hv64:=hF _ _ (List.mem_cons_of_mem _ List.mem_cons_self);have hv65:=hF _ _ List.mem_cons_self;obtain ⟨hB0,hB1,hB2,hD7⟩:=bl4 hX8 hB0 hB1 hB2 hD7;have hb:=aD hb hX8;clear hF hX8;obtain ⟨u65,rfl,hu65⟩:=hv65;obtain ⟨A65,c65,rfl⟩:=Es.form hu65;clear hv64;go_upto_region 13 with (refine osn 28 8 65 #[vI (ifz q0 c),.slice A65 (wiL l (adj q)).length c65] aP ?_);obtain ⟨Y8,hY9,hD8,hS9⟩:=aT X8 28 [vI (ifz q0 c),.slice A65 (wiL l (adj q)).length c65];rw [← hY9];clear hY9;have hgs8:=hb.size;have hlt8x0:=hB0.lt;have hlt8x1:=hB1.lt;have hlt8x2:=hB2.lt;have hlt8x3:=hD7.lt;obtain ⟨hB0,hB1,hB2,hD7⟩:=bl4 hS9 hB0 hB1 hB2 hD7;replace hu65:=(Es.lasts _) _ _ _ hu65 hS9;have hb:=aD hb hS9;clear hS9;generalize X8.heap.size=g8 at *
   by_cases hq0:q0=0
   ·have HQ0:=Lib.hid hq0
    clear hq0;go_upto_region 13 with fail;refine jp ?_;refine jm (vI q0) ?_;refine eG q0 0 HQ0.out ?_;refine jm (.bool true) ?_;refine jn (vP (w.heap.size+1) 4) ?_;refine jg (.agg #[.bool q.am.1,st q.am.2.1,st q.am.2.2]) (fun X hX hF=>aO 39 _ (by rfl) (w.heap.size+1) 4 [.bool q.am.1,vS q.am.2.1,vS q.am.2.2] (by rfl) Tryd.underlying39 rfl X (hB1.bel hX) (by rfl) aF) ?_;refine jn (rz) ?_;refine jv (.bool false) (dD _ _ (by rfl) q.am.1 q.am.2.1 q.am.2.2 false [] [] (by rfl) (by rfl) false HZQ.out) ?_;refine jm (.bool false) ?_;refine jzb hb fun X9 hX9 hb=>?_;replace hu65:=(Es.lasts _) _ _ _ hu65 hX9;obtain ⟨hB0,hB1,hB2,hD7,hD8⟩:=bl5 hX9 hB0 hB1 hB2 hD7 hD8
    have HL:Hid (ajL c l q=wiL l (adj q)):=by
     show _=_
     unfold ajL
     rw [HE.out,HWL.out];rw [if_pos HQ0.out,if_pos HQ0.out,if_neg h0.out]
    go_upto_region 16 with fail;refine jq 2 ?_;refine ja hD8 Tryd.underlying28 (by rfl) aP ?_;refine jm (vI q0) ?_;refine jzb hb fun X10 hX10 hb=>?_;replace hu65:=(Es.lasts _) _ _ _ hu65 hX10;obtain ⟨hB0,hB1,hB2,hD7,hD8⟩:=bl5 hX10 hB0 hB1 hB2 hD7 hD8;refine aN rfl 28 (.tmp 4) (.tmp 80) rfl (w.heap.size+2) 28 _ hB2 rfl [vI (ifz q0 c),.slice A65 (wiL l (adj q)).length c65] rfl (by rfl) (by intro u hu;simp only [List.mem_cons,List.not_mem_nil,or_false] at hu;rcases hu with rfl|rfl <;> rfl) aP ?_;intro w9s hR9 hG9;have hb:=aK hG9 hb hb.size (by omega);replace hB0:=aE hG9 hB0 (by omega);replace hB1:=aE hG9 hB1 (by omega);replace hD7:=aE hG9 hD7 (by omega);replace hD8:=aE hG9 hD8 (by omega);replace hu65:=Es.grown hG9 hu65 hB2;have hB2:=hR9;clear hG9 hR9
    go_wp2
    refine aU (v:=vI q0) rfl rfl (by rfl) (by rfl) Tryd.underlying28 rfl hB2 aP ⟨_,rfl,⟨_,by rw [HE.out],by rw [HE.out,HL.out];exact ⟨_,rfl,hu65⟩⟩,hb⟩
   ·go_upto_region 13 with fail
    refine jp ?_;refine jm (vI q0) ?_;refine eH q0 0 (by omega) ?_;refine jm (.bool false) ?_;refine js ?_;refine js ?_;refine js ?_;refine js ?_;refine jm (.bool false) ?_;refine jzb hb fun X9 hX9 hb=>?_;replace hu65:=(Es.lasts _) _ _ _ hu65 hX9;obtain ⟨hB0,hB1,hB2,hD7,hD8⟩:=bl5 hX9 hB0 hB1 hB2 hD7 hD8
    have HL:Hid (ajL c l q=wiL l (adj q)):=by
     show _=_
     unfold ajL
     rw [HE.out,HWL.out];rw [if_neg hq0,if_neg hq0]
    go_upto_region 16 with fail;refine jq 2 ?_;refine ja hD8 Tryd.underlying28 (by rfl) aP ?_;refine jm (vI q0) ?_;refine jzb hb fun X10 hX10 hb=>?_;replace hu65:=(Es.lasts _) _ _ _ hu65 hX10;obtain ⟨hB0,hB1,hB2,hD7,hD8⟩:=bl5 hX10 hB0 hB1 hB2 hD7 hD8;refine aN rfl 28 (.tmp 4) (.tmp 80) rfl (w.heap.size+2) 28 _ hB2 rfl [vI (ifz q0 c),.slice A65 (wiL l (adj q)).length c65] rfl (by rfl) (by intro u hu;simp only [List.mem_cons,List.not_mem_nil,or_false] at hu;rcases hu with rfl|rfl <;> rfl) aP ?_;intro w9s hR9 hG9;have hb:=aK hG9 hb hb.size (by omega);replace hB0:=aE hG9 hB0 (by omega);replace hB1:=aE hG9 hB1 (by omega);replace hD7:=aE hG9 hD7 (by omega);replace hD8:=aE hG9 hD8 (by omega);replace hu65:=Es.grown hG9 hu65 hB2;have hB2:=hR9;clear hG9 hR9
    go_wp2
    refine aU (v:=vI q0) rfl rfl (by rfl) (by rfl) Tryd.underlying28 rfl hB2 aP ⟨_,rfl,⟨_,by rw [HE.out],by rw [HE.out,HL.out];exact ⟨_,rfl,hu65⟩⟩,hb⟩
theorem adjC (c:Int) (v:Value) (l:List En) (q:Aj) (w:World) (hv:Es l v w) (hs:Hid (∀ k,tz (en l k).am.2.1 (en l k).am.2.2 1000000)) (hqs:tz q.am.2.1 q.am.2.2 1000000):Calls Tryd.prog 37 #[.agg #[vI c,v],.agg #[vI q.day,vI q.ac,vI q.ag,vI q.pd,.bool q.am.1,vS q.am.2.1,vS q.am.2.2,vI q.w1,vI q.w2,vI q.w3,vI q.w4]] w fun e w'=>∃ u,e=.returned u∧Tp (Bks (ifz (ajE c l q) c) (ajL c l q)) (ajE c l q) u w'∧Since w w':=by
 by_cases h0:acE c l=0
 ·by_cases h:trq q.am=0
  ·exact adjz c v l q w hv hs hqs h0 h
  ·by_cases hn:trq q.am<0
   ·exact adjn c v l q w hv hs hqs h0 hn
   ·exact adjp c v l q w hv hs hqs h0 h hn
 ·exact adj0 c v l q w hv hs hqs h0
end Go.Proofs.YtjkfchehkpmhkaaDoor

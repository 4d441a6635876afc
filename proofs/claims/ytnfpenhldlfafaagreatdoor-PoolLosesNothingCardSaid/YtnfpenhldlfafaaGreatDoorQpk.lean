/- rat: Make, Int, Neg, Add, Sub, Mul, Div. -/
import Derived.Test.YtnfpenhldlfafaaGreatDoorQop
set_option linter.unusedSimpArgs false
set_option linter.unusedVariables false
set_option maxRecDepth 100000
set_option maxHeartbeats 1600000
namespace Go.Proofs.YtnfpenhldlfafaaGreatDoor
open Go.RowKit
def eA (n:Int):Bool:=decide (-999999999999999≤n∧n≤999999999999999)
theorem pJ {n:Int} (h:eA n=true):-999999999999999≤n∧n≤999999999999999:=by unfold eA at h;exact of_decide_eq_true h
theorem ins0 (n:Int) (w:World) (h:n < -999999999999999):Calls Tryz.prog 73 #[vI n] w fun e w'=>e=.returned (.bool (eA n))∧Since w w':=by
 have HI:Hid (eA n=false):=by unfold eA;exact decide_eq_false (by omega)
 go_enter Tryz.func73,Tryz.ntmps73
 go_upto_region 1 with fail;refine jp ?_;refine jm (vI n) ?_;refine qYq n (-999999999999999) (by omega) ?_;refine jm (.bool false) ?_;refine jss ?_;refine jmm (.bool false) (.bool false) ?_;refine jz fun X1 hX1=>?_;have hb:Below w.heap.size w X1:=hX1
 go_wp2
 go_ret
 exact ⟨by rw [HI.out];rfl,hb⟩
theorem ins1 (n:Int) (w:World) (h:999999999999999<n):Calls Tryz.prog 73 #[vI n] w fun e w'=>e=.returned (.bool (eA n))∧Since w w':=by
 have HI:Hid (eA n=false):=by unfold eA;exact decide_eq_false (by omega)
 go_enter Tryz.func73,Tryz.ntmps73
 go_upto_region 1 with fail;refine jp ?_;refine jm (vI n) ?_;refine zX n (-999999999999999) (by omega) ?_;refine jmm (.bool true) (vI n) ?_;refine vG n 999999999999999 (by omega) ?_;refine jmm (.bool false) (.bool false) ?_;refine jz fun X1 hX1=>?_;have hb:Below w.heap.size w X1:=hX1
 go_wp2
 go_ret
 exact ⟨by rw [HI.out];rfl,hb⟩
theorem ins2 (n:Int) (w:World) (h1:-999999999999999≤n) (h2:n≤999999999999999):Calls Tryz.prog 73 #[vI n] w fun e w'=>e=.returned (.bool (eA n))∧Since w w':=by
 have HI:Hid (eA n=true):=by unfold eA;exact decide_eq_true (by omega)
 go_enter Tryz.func73,Tryz.ntmps73
 go_upto_region 1 with fail;refine jp ?_;refine jm (vI n) ?_;refine zX n (-999999999999999) (by omega) ?_;refine jmm (.bool true) (vI n) ?_;refine vF n 999999999999999 (by omega) ?_;refine jmm (.bool true) (.bool true) ?_;refine jz fun X1 hX1=>?_;have hb:Below w.heap.size w X1:=hX1
 go_wp2
 go_ret
 exact ⟨by rw [HI.out];rfl,hb⟩
theorem qYt (n:Int) (w:World):Calls Tryz.prog 73 #[vI n] w fun e w'=>e=.returned (.bool (eA n))∧Since w w':=by
 by_cases h1:n < -999999999999999
 ·exact ins0 n w h1
 ·by_cases h2:999999999999999<n
  ·exact ins1 n w h2
  ·exact ins2 n w (by omega) (by omega)
theorem xX (n:Int) (w:World) (hn:eA n=true) (h:n<0):Calls Tryz.prog 74 #[vI n] w fun e w'=>e=.returned (.agg #[.bool true,vS (be n.natAbs),vS ([1]:List UInt8)])∧Since w w':=by
 have hnn:=pJ hn
 go_enter Tryz.func74,Tryz.ntmps74
 go_upto_region 1 with fail;obtain ⟨W0,hW0,hB0,hb⟩:=aZ w 93 [.bool false,.string ⟨#[]⟩,.string ⟨#[]⟩];rw [← hW0];clear hW0;refine jp ?_;refine jmm (vI n) (vI n) ?_;refine jv (vI (-n)) (kI _ _ (by rfl) n (-n) (by rfl) rfl (by omega) (by omega)) ?_;refine jv (vI ((n.natAbs:Nat):Int)) (kK _ _ (by rfl) .i64 n (-n) ((n.natAbs:Nat):Int) (by rfl) (by rfl) (by omega)) ?_;refine jc (.tuple #[st (be n.natAbs),vI 0]) (fun X hX hF=>qQx n.natAbs X (by omega)) ?_;refine bY (.tuple #[st (be n.natAbs),vI 0]) (st (be n.natAbs)) (vI 0) ?_;refine jmm (st (be n.natAbs)) (vI 0) ?_;refine bZ hb hB0 fun X1 hX1 hb hB0=>?_;go_upto_region 2 with fail;refine jq 4 ?_;refine jm (vI n) ?_;refine fC n 0 (by omega) ?_;refine jmn (st (be n.natAbs)) (rt true (be n.natAbs) ([1]:List UInt8)) ?_;refine bZ hb hB0 fun X2 hX2 hb hB0=>?_;refine osb 93 2 16 w.heap.size 93 hB0 [.bool true,vS (be n.natAbs),vS ([1]:List UInt8)] bO ?_;intro w9 hR9 hO9 hB9 hs9;have hb9:=hB9 _ _ hb (by omega);clear hO9 hB9
 go_wp2
 refine aX rfl rfl (by rfl) Tryz.underlying93 rfl hR9 bO ⟨rfl,hb9⟩
theorem vJ (n:Int) (w:World) (hn:eA n=true) (h:0≤n):Calls Tryz.prog 74 #[vI n] w fun e w'=>e=.returned (.agg #[.bool false,vS (be n.natAbs),vS ([1]:List UInt8)])∧Since w w':=by
 have hnn:=pJ hn
 go_enter Tryz.func74,Tryz.ntmps74
 go_upto_region 1 with fail;obtain ⟨W0,hW0,hB0,hb⟩:=aZ w 93 [.bool false,.string ⟨#[]⟩,.string ⟨#[]⟩];rw [← hW0];clear hW0;refine jp ?_;refine jmm (vI n) (vI n) ?_;refine jv (vI (-n)) (kI _ _ (by rfl) n (-n) (by rfl) rfl (by omega) (by omega)) ?_;refine jv (vI ((n.natAbs:Nat):Int)) (kK _ _ (by rfl) .i64 n (-n) ((n.natAbs:Nat):Int) (by rfl) (by rfl) (by omega)) ?_;refine jc (.tuple #[st (be n.natAbs),vI 0]) (fun X hX hF=>qQx n.natAbs X (by omega)) ?_;refine bY (.tuple #[st (be n.natAbs),vI 0]) (st (be n.natAbs)) (vI 0) ?_;refine jmm (st (be n.natAbs)) (vI 0) ?_;refine bZ hb hB0 fun X1 hX1 hb hB0=>?_;go_upto_region 2 with fail;refine jq 4 ?_;refine jm (vI n) ?_;refine fD n 0 (by omega) ?_;refine jmn (st (be n.natAbs)) (rt false (be n.natAbs) ([1]:List UInt8)) ?_;refine bZ hb hB0 fun X2 hX2 hb hB0=>?_;refine osb 93 2 16 w.heap.size 93 hB0 [.bool false,vS (be n.natAbs),vS ([1]:List UInt8)] bO ?_;intro w9 hR9 hO9 hB9 hs9;have hb9:=hB9 _ _ hb (by omega);clear hO9 hB9
 go_wp2
 refine aX rfl rfl (by rfl) Tryz.underlying93 rfl hR9 bO ⟨rfl,hb9⟩
theorem qYk (n:Int):mkRat (sg (decide (n<0)) n.natAbs) 1=(n:Rat):=by
 have h:sg (decide (n<0)) n.natAbs=n:=by
  by_cases h:n<0
  ·rw [decide_eq_true h];simp [sg];omega
  ·rw [decide_eq_false h];simp [sg];omega
 rw [h];exact Rat.mkRat_one n
theorem qYs (n:Int) (w:World) (hn:eA n=true):Calls Tryz.prog 74 #[vI n] w fun e w'=>∃ u,e=.returned u∧IsF (n:Rat) 8 u w'∧Since w w':=by
 have hnn:=pJ hn;have hl:(be n.natAbs).length≤8:=nI (by omega);have key:=qYk n
 by_cases h:n<0
 ·rw [decide_eq_true h] at key
  exact (xX n w hn h).mono fun e' w' ⟨h1,h2⟩=>⟨_,h1,⟨true,n.natAbs,1,(yA _ _).symm,by omega,key,hl,by rw [be_one];decide⟩,h2⟩
 ·rw [decide_eq_false h] at key
  exact (vJ n w hn (by omega)).mono fun e' w' ⟨h1,h2⟩=>⟨_,h1,⟨false,n.natAbs,1,(yA _ _).symm,by omega,key,hl,by rw [be_one];decide⟩,h2⟩
theorem makeC (m n:Int) (w:World) (hm:eA m=true) (hn:eA n=true) (h0:n≠0):Calls Tryz.prog 76 #[vI m,vI n] w fun e w'=>e=.returned (.tuple #[.agg #[.bool (rN ((m:Rat) / (n:Rat))),.string ⟨(rP ((m:Rat) / (n:Rat))).toArray⟩,.string ⟨(rD ((m:Rat) / (n:Rat))).toArray⟩],vI 0])∧Since w w':=by
 have HM:Hid (eA m=true):=hm;have HN:Hid (eA n=true):=hn
 have HN0:Hid ((n:Rat)≠0):=fun h9=>h0 (by exact_mod_cast h9)
 have h9:n<0∨0<n:=by omega
 clear hm hn h0
 go_enter Tryz.func76,Tryz.ntmps76
 go_upto_region 1 with fail;obtain ⟨W0,hW0,hB0,hb⟩:=aZ w 23 [.bool false,.string ⟨#[]⟩,.string ⟨#[]⟩];rw [← hW0];clear hW0;refine jp ?_;refine jm (vI m) ?_;refine jc (.bool true) (fun X hX hF=>mo (qYt m X) (by rw [HM.out])) ?_;refine bY (.bool false) (.bool false) (vI n) ?_;refine jc (.bool true) (fun X hX hF=>mo (qYt n X) (by rw [HN.out])) ?_;refine jmm (.bool false) (.bool false) ?_;refine bZ hb hB0 fun X1 hX1 hb hB0=>?_;go_upto_region 3 with fail;refine jp ?_;refine jm (vI n) ?_;refine zW n 0 (by omega) ?_;refine bZ hb hB0 fun X2 hX2 hb hB0=>?_;go_upto_region 5 with fail;refine aV 6 [none,some (IsF (m:Rat) 8),none,some (IsF (n:Rat) 8),some (IsF ((m:Rat) / (n:Rat)) (8+8))] (aA (aD (IsF.lasts _ _) (aA (aD (IsF.lasts _ _) (aD (IsF.lasts _ _) (aF)))))) ?_;simp only [its,List.take,List.drop,Nat.zero_add,Nat.reduceAdd];refine jm (vI m) ?_;refine jk (fun X hX hF=>qYs m X HM.out) ?_;intro v19;refine jm (vI n) ?_;refine jk (fun X hX hF=>qYs n X HN.out) ?_;intro v21;refine jk (fun X hX hF=>qQw _ _ 8 8 _ _ X (hF _ _ (List.mem_cons_of_mem _ List.mem_cons_self) rfl) (hF _ _ List.mem_cons_self rfl) (by omega) HN0.out) ?_;intro v22;refine jc (rt (rN ((m:Rat) / (n:Rat))) (rP ((m:Rat) / (n:Rat))) (rD ((m:Rat) / (n:Rat)))) (fun X hX hF=>sQ _ _ v22 X (hF _ _ List.mem_cons_self rfl) (by omega)) ?_;refine aH ?_;intro X3 hX3 hF;have hv19:=hF _ _ (List.mem_cons_of_mem _ (List.mem_cons_of_mem _ List.mem_cons_self))
 have hv21:=hF _ _ (List.mem_cons_of_mem _ List.mem_cons_self);have hv22:=hF _ _ List.mem_cons_self;have hB0:=hB0.bel hX3;have hb:=aG hb hX3;clear hF hX3;refine osb 23 4 23 w.heap.size 23 hB0 [.bool (rN ((m:Rat) / (n:Rat))),.string ⟨(rP ((m:Rat) / (n:Rat))).toArray⟩,.string ⟨(rD ((m:Rat) / (n:Rat))).toArray⟩] aB ?_;intro w9 hR9 hO9 hB9 hs9;have hb9:=hB9 _ _ hb (by omega);clear hO9 hB9
 go_wp2
 refine bJ (v:=vI 0) rfl rfl (by rfl) (by rfl) Tryz.underlying23 rfl hR9 aB ⟨rfl,hb9⟩
theorem eH (n:Int) (w:World) (hn:eA n=true):Calls Tryz.prog 33 #[vI n] w fun e w'=>e=.returned (rbv (n:Rat))∧Since w w':=by
 have HN:Hid (eA n=true):=hn;clear hn
 go_enter Tryz.func33,Tryz.ntmps33
 go_upto_region 1 with fail;obtain ⟨W0,hW0,hB0,hb⟩:=aZ w 23 [.bool false,.string ⟨#[]⟩,.string ⟨#[]⟩];rw [← hW0];clear hW0;refine jp ?_;refine jm (vI n) ?_;refine jc (.bool true) (fun X hX hF=>mo (qYt n X) (by rw [HN.out])) ?_;refine jm (.bool false) ?_;refine bZ hb hB0 fun X1 hX1 hb hB0=>?_;go_upto_region 3 with fail;refine aV 3 [none,some (IsF (n:Rat) 8)] (aA (aD (IsF.lasts _ _) (aF))) ?_;simp only [its,List.take,List.drop,Nat.zero_add,Nat.reduceAdd];refine jm (vI n) ?_;refine jk (fun X hX hF=>qYs n X HN.out) ?_;intro v8;refine jc (rt (rN (n:Rat)) (rP (n:Rat)) (rD (n:Rat))) (fun X hX hF=>sQ _ _ v8 X (hF _ _ List.mem_cons_self rfl) (by omega)) ?_;refine aH ?_;intro X2 hX2 hF;have hv8:=hF _ _ List.mem_cons_self;have hB0:=hB0.bel hX2;have hb:=aG hb hX2;clear hF hX2;refine osb 23 2 9 w.heap.size 23 hB0 [.bool (rN (n:Rat)),vS (rP (n:Rat)),vS (rD (n:Rat))] aB ?_;intro w9 hR9 hO9 hB9 hs9;have hb9:=hB9 _ _ hb (by omega);clear hO9 hB9
 go_wp2
 refine aX rfl rfl (by rfl) Tryz.underlying23 rfl hR9 aB ⟨rfl,hb9⟩
theorem addQ (n:Bool) (p q:List UInt8) (n':Bool) (p' q':List UInt8) (w:World) (hp:p.length≤1000000) (hq:q.length≤1000000) (hp':p'.length≤1000000) (hq':q'.length≤1000000):Calls Tryz.prog 26 #[.agg #[.bool n,vS p,vS q],.agg #[.bool n',vS p',vS q']] w fun e w'=>e=.returned (rbv ((rq n p q)+(rq n' p' q')))∧Since w w':=by
 go_enter Tryz.func26,Tryz.ntmps26
 go_upto_region 1 with fail;obtain ⟨W0,hW0,hB0,hB1,hB2,hb⟩:=bS w 23 23 23 [.bool n,vS p,vS q] [.bool n',vS p',vS q'] [.bool false,.string ⟨#[]⟩,.string ⟨#[]⟩];rw [← hW0];clear hW0;refine aT [] (by kernel_rfl) (by kernel_rfl) (by kernel_rfl) rfl (aF) ?_;simp only [its,List.dropLast,Nat.zero_add,Nat.reduceAdd];refine ja hB0 Tryz.underlying23 (by rfl) aB ?_;refine jc (rt (rN (rq n p q)) (be (rq n p q).num.natAbs) (be (rq n p q).den)) (fun X hX hF=>ofQ n p q X (by omega) (by omega)) ?_;refine jv (.func (.func 69) #[rt (rN (rq n p q)) (be (rq n p q).num.natAbs) (be (rq n p q).den)] #[]) (kJ _ _ (by rfl) _ (by rfl)) ?_;refine ja hB1 Tryz.underlying23 (by rfl) aB ?_;refine jc (rt (rN ((rq n p q)+(rq n' p' q'))) (rP ((rq n p q)+(rq n' p' q'))) (rD ((rq n p q)+(rq n' p' q')))) (fun X hX hF=>doQ 69 (.agg #[.bool (rN (rq n p q)),vS (be (rq n p q).num.natAbs),vS (be (rq n p q).den)]) n' p' q' ((rq n p q)+(rq n' p' q')) 1000000 2000001 X hp' hq' (by omega) (by omega) (by omega) (fun v X=>by go_simp) (fun v X hv=>qQv _ _ 1000000 1000000 _ v X (dW n p q hp hq (by omega) X) hv (by omega))) ?_;refine bD hb hB0 hB1 hB2 fun X1 hX1 hb hB0 hB1 hB2=>?_;refine osb 23 4 9 (w.heap.size+2) 23 hB2 [.bool (rN ((rq n p q)+(rq n' p' q'))),.string ⟨(rP ((rq n p q)+(rq n' p' q'))).toArray⟩,.string ⟨(rD ((rq n p q)+(rq n' p' q'))).toArray⟩] aB ?_
 intro w9 hR9 hO9 hB9 hs9;have hb9:=hB9 _ _ hb (by omega);clear hO9 hB9
 go_wp2
 refine aX rfl rfl (by rfl) Tryz.underlying23 rfl hR9 aB ⟨rfl,hb9⟩
theorem subQ (n:Bool) (p q:List UInt8) (n':Bool) (p' q':List UInt8) (w:World) (hp:p.length≤1000000) (hq:q.length≤1000000) (hp':p'.length≤1000000) (hq':q'.length≤1000000):Calls Tryz.prog 53 #[.agg #[.bool n,vS p,vS q],.agg #[.bool n',vS p',vS q']] w fun e w'=>e=.returned (rbv ((rq n p q)-(rq n' p' q')))∧Since w w':=by
 go_enter Tryz.func53,Tryz.ntmps53
 go_upto_region 1 with fail;obtain ⟨W0,hW0,hB0,hB1,hB2,hb⟩:=bS w 23 23 23 [.bool n,vS p,vS q] [.bool n',vS p',vS q'] [.bool false,.string ⟨#[]⟩,.string ⟨#[]⟩];rw [← hW0];clear hW0;refine aT [] (by kernel_rfl) (by kernel_rfl) (by kernel_rfl) rfl (aF) ?_;simp only [its,List.dropLast,Nat.zero_add,Nat.reduceAdd];refine ja hB0 Tryz.underlying23 (by rfl) aB ?_;refine jc (rt (rN (rq n p q)) (be (rq n p q).num.natAbs) (be (rq n p q).den)) (fun X hX hF=>ofQ n p q X (by omega) (by omega)) ?_;refine jv (.func (.func 71) #[rt (rN (rq n p q)) (be (rq n p q).num.natAbs) (be (rq n p q).den)] #[]) (kJ _ _ (by rfl) _ (by rfl)) ?_;refine ja hB1 Tryz.underlying23 (by rfl) aB ?_;refine jc (rt (rN ((rq n p q)-(rq n' p' q'))) (rP ((rq n p q)-(rq n' p' q'))) (rD ((rq n p q)-(rq n' p' q')))) (fun X hX hF=>doQ 71 (.agg #[.bool (rN (rq n p q)),vS (be (rq n p q).num.natAbs),vS (be (rq n p q).den)]) n' p' q' ((rq n p q)-(rq n' p' q')) 1000000 2000001 X hp' hq' (by omega) (by omega) (by omega) (fun v X=>by go_simp) (fun v X hv=>tZ _ _ 1000000 1000000 _ v X (dW n p q hp hq (by omega) X) hv (by omega))) ?_;refine bD hb hB0 hB1 hB2 fun X1 hX1 hb hB0 hB1 hB2=>?_;refine osb 23 4 9 (w.heap.size+2) 23 hB2 [.bool (rN ((rq n p q)-(rq n' p' q'))),.string ⟨(rP ((rq n p q)-(rq n' p' q'))).toArray⟩,.string ⟨(rD ((rq n p q)-(rq n' p' q'))).toArray⟩] aB ?_
 intro w9 hR9 hO9 hB9 hs9;have hb9:=hB9 _ _ hb (by omega);clear hO9 hB9
 go_wp2
 refine aX rfl rfl (by rfl) Tryz.underlying23 rfl hR9 aB ⟨rfl,hb9⟩
theorem mulQ (n:Bool) (p q:List UInt8) (n':Bool) (p' q':List UInt8) (w:World) (hp:p.length≤1000000) (hq:q.length≤1000000) (hp':p'.length≤1000000) (hq':q'.length≤1000000):Calls Tryz.prog 52 #[.agg #[.bool n,vS p,vS q],.agg #[.bool n',vS p',vS q']] w fun e w'=>e=.returned (rbv ((rq n p q) * (rq n' p' q')))∧Since w w':=by
 go_enter Tryz.func52,Tryz.ntmps52
 go_upto_region 1 with fail;obtain ⟨W0,hW0,hB0,hB1,hB2,hb⟩:=bS w 23 23 23 [.bool n,vS p,vS q] [.bool n',vS p',vS q'] [.bool false,.string ⟨#[]⟩,.string ⟨#[]⟩];rw [← hW0];clear hW0;refine aT [] (by kernel_rfl) (by kernel_rfl) (by kernel_rfl) rfl (aF) ?_;simp only [its,List.dropLast,Nat.zero_add,Nat.reduceAdd];refine ja hB0 Tryz.underlying23 (by rfl) aB ?_;refine jc (rt (rN (rq n p q)) (be (rq n p q).num.natAbs) (be (rq n p q).den)) (fun X hX hF=>ofQ n p q X (by omega) (by omega)) ?_;refine jv (.func (.func 85) #[rt (rN (rq n p q)) (be (rq n p q).num.natAbs) (be (rq n p q).den)] #[]) (kJ _ _ (by rfl) _ (by rfl)) ?_;refine ja hB1 Tryz.underlying23 (by rfl) aB ?_;refine jc (rt (rN ((rq n p q) * (rq n' p' q'))) (rP ((rq n p q) * (rq n' p' q'))) (rD ((rq n p q) * (rq n' p' q')))) (fun X hX hF=>doQ 85 (.agg #[.bool (rN (rq n p q)),vS (be (rq n p q).num.natAbs),vS (be (rq n p q).den)]) n' p' q' ((rq n p q) * (rq n' p' q')) 1000000 2000000 X hp' hq' (by omega) (by omega) (by omega) (fun v X=>by go_simp) (fun v X hv=>wE _ _ 1000000 1000000 _ v X (dW n p q hp hq (by omega) X) hv (by omega))) ?_;refine bD hb hB0 hB1 hB2 fun X1 hX1 hb hB0 hB1 hB2=>?_;refine osb 23 4 9 (w.heap.size+2) 23 hB2 [.bool (rN ((rq n p q) * (rq n' p' q'))),.string ⟨(rP ((rq n p q) * (rq n' p' q'))).toArray⟩,.string ⟨(rD ((rq n p q) * (rq n' p' q'))).toArray⟩] aB ?_
 intro w9 hR9 hO9 hB9 hs9;have hb9:=hB9 _ _ hb (by omega);clear hO9 hB9
 go_wp2
 refine aX rfl rfl (by rfl) Tryz.underlying23 rfl hR9 aB ⟨rfl,hb9⟩
end Go.Proofs.YtnfpenhldlfafaaGreatDoor

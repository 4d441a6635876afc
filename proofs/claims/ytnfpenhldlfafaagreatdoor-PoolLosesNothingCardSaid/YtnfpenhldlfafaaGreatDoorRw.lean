/- Words for walks over rational numbers: structs of a bool and -/
import Derived.Test.YtnfpenhldlfafaaGreatDoorMH
import Derived.Test.YtnfpenhldlfafaaGreatDoorMC
import Derived.Test.YtnfpenhldlfafaaGreatDoorME
set_option linter.unusedSimpArgs false
set_option linter.unusedVariables false
set_option maxRecDepth 100000
set_option maxHeartbeats 1600000
namespace Go.Proofs.YtnfpenhldlfafaaGreatDoor
def sg (neg:Bool) (p:Nat):Int:=if neg then -(p:Int) else (p:Int)
theorem mL (neg:Bool) (p:Nat):(sg neg p).natAbs=p:=by cases neg <;> simp [sg]
theorem wM (neg:Bool) {p:Nat} (h:0<p):decide (sg neg p<0)=neg:=by
 cases neg
 ·simp [sg]
 ·simp [sg];omega
theorem lT (neg:Bool) {p:Nat}:sg neg p=0↔p=0:=by cases neg <;> simp [sg]
theorem kG (neg:Bool) (p:Nat) {d:Nat} (hd:0<d):(mkRat (sg neg p) d).num=sg neg (p / Nat.gcd p d):=by
 rw [Rat.num_mkRat,if_neg (by omega),mL,Nat.gcd_comm]
 cases neg
 ·simp [sg]
 ·simp only [sg,if_true]
  rw [Int.neg_ediv_of_dvd (Int.natCast_dvd_natCast.2 (Nat.gcd_dvd_left p d))]
  simp
theorem pD (neg:Bool) (p:Nat) {d:Nat} (hd:0<d):(mkRat (sg neg p) d).den=d / Nat.gcd p d:=by
 rw [Rat.den_mkRat,if_neg (by omega),mL,Nat.gcd_comm]
theorem lN {p d:Nat} (hp:0<p):0<p / Nat.gcd p d:=Nat.div_pos (Nat.le_of_dvd hp (Nat.gcd_dvd_left p d)) (Nat.gcd_pos_of_pos_left d hp)
theorem qXw (m n:Bool) (p q:Nat):sg m p * sg n q=sg (m != n) (p * q):=by
 cases m <;> cases n <;> simp [sg,Int.neg_mul,Int.mul_neg]
theorem iK (m:Bool) (p q:Nat):sg m p+sg m q=sg m (p+q):=by
 cases m <;> simp [sg];omega
theorem lA {m n:Bool} (h:m≠n) {p q:Nat} (hq:q≤p):sg m p+sg n q=sg m (p-q):=by
 cases m <;> cases n <;> simp [sg] at * <;> omega
theorem kZ {m n:Bool} (h:m≠n) {p q:Nat} (hq:p<q):sg m p+sg n q=sg n (q-p):=by
 cases m <;> cases n <;> simp [sg] at * <;> omega
theorem qXv (m:Bool) (p:Nat):sg (!m) p=- sg m p:=by cases m <;> simp [sg]
theorem yZ (m n:Bool) (p q:Nat) {d e:Nat} (hd:0<d) (he:0<e):mkRat (sg m p) d+mkRat (sg n q) e=mkRat (sg m (p * e)+sg n (q * d)) (d * e):=by
 rw [Rat.mkRat_add_mkRat _ _ (by omega) (by omega)]
 have h1:sg m p * (e:Int)=sg m (p * e):=by cases m <;> simp [sg,Int.neg_mul]
 have h2:sg n q * (d:Int)=sg n (q * d):=by cases n <;> simp [sg,Int.neg_mul]
 rw [h1,h2]
theorem sJ (m n:Bool) (p q d e:Nat):mkRat (sg m p) d * mkRat (sg n q) e=mkRat (sg (m != n) (p * q)) (d * e):=by
 rw [Rat.mkRat_mul_mkRat,qXw]
theorem qYj (m:Bool) (p d:Nat):- mkRat (sg m p) d=mkRat (sg (!m) p) d:=by rw [Rat.neg_mkRat,qXv]
theorem xW (m:Bool) {p d:Nat} (hp:0<p) (hd:0<d):(mkRat (sg m p) d)⁻¹=mkRat (sg m d) p:=by
 have h0:mkRat (sg m p) d≠0:=by
  intro h;rw [Rat.mkRat_eq_zero (by omega),lT] at h
  omega
 have h1:mkRat (sg m d) p * mkRat (sg m p) d=1:=by
  rw [sJ,show (m != m)=false by cases m <;> rfl]
  show mkRat ((d * p:Nat):Int) (p * d)=1
  rw [Nat.mul_comm p d];have:(d * p)≠0:=Nat.mul_ne_zero (by omega) (by omega);have h9:mkRat ((d * p:Nat):Int) (d * p)=mkRat 1 1:=(Rat.mkRat_eq_iff this (by decide)).2 (by simp);rw [h9]
  rfl
 have h2:=congrArg (· * (mkRat (sg m p) d)⁻¹) h1;simp only [Rat.mul_assoc,Rat.mul_inv_cancel _ h0,Rat.mul_one,Rat.one_mul] at h2;exact h2.symm
def rN (x:Rat):Bool:=decide (x.num<0)
def rP (x:Rat):List UInt8:=be x.num.natAbs
def rD (x:Rat):List UInt8:=if x.num=0 then [] else be x.den
def vd (n:Bool) (p q:List UInt8):Bool:=if p=[]∨q=[] then (!n && p == [] && q == []) else (cn p && cn q && Nat.gcd (val p) (val q) == 1)
def rq (n:Bool) (p q:List UInt8):Rat:=if vd n p q=true then mkRat (sg n (val p)) (val q) else 0
theorem be_one:be 1=[1]:=(by rw [show (1:Nat)=val [1] from rfl];exact qVu (by decide))
theorem pT {p:List UInt8} (h:cn p=true):be (val p)=p:=by
 unfold cn at h
 exact beq_iff_eq.1 h
theorem yS (x:Nat):cn (be x)=true:=by
 unfold cn
 rw [aP];exact beq_self_eq_true _
theorem qYi (x:Rat):x.num=sg (rN x) x.num.natAbs:=by
 unfold rN sg
 by_cases h:x.num<0
 ·rw [decide_eq_true h,if_pos rfl]
  omega
 ·rw [decide_eq_false h,if_neg (by decide)]
  omega
theorem mN (x:Rat):mkRat (sg (rN x) x.num.natAbs) x.den=x:=by
 rw [← qYi];exact Rat.mkRat_self x
theorem zB:vd false [] []=true:=by decide
theorem tT:rq false [] []=0:=by
 unfold rq
 rw [if_pos zB]
 rfl
theorem qQp (x:Rat):vd (rN x) (rP x) (rD x)=true:=by
 unfold vd rN rP rD
 by_cases h:x.num=0
 ·rw [h]
  rfl
 ·have h1:be x.num.natAbs≠[]:=fun h1=>h (by rw [be_nil] at h1;omega)
  have h2:be x.den≠[]:=fun h1=>x.den_nz (by rw [be_nil] at h1;exact h1)
  rw [if_neg h,if_neg (by rintro (h3|h3);exact h1 h3;exact h2 h3),yS,yS,aP,aP];have:=x.reduced
  unfold Nat.Coprime at this
  rw [this]
  rfl
theorem bH (x:Rat):rq (rN x) (rP x) (rD x)=x:=by
 unfold rq
 rw [if_pos (qQp x)]
 unfold rP rD
 by_cases h:x.num=0
 ·rw [if_pos h,h]
  have:x=0:=by
   have:=Rat.mkRat_self x;rw [h] at this;rw [← this]
   simp
  rw [this]
  rfl
 ·rw [if_neg h,aP,aP]
  exact mN x
theorem mC {n:Bool} {p q:List UInt8} (h:vd n p q=true):rN (rq n p q)=n∧rP (rq n p q)=p∧rD (rq n p q)=q∧(p≠[]→be (rq n p q).den=q):=by
 unfold rq
 rw [if_pos h]
 unfold vd at h
 split at h
 ·rename_i h1
  simp only [Bool.and_eq_true,Bool.not_eq_true',beq_iff_eq] at h;obtain ⟨⟨rfl,rfl⟩,rfl⟩:=h;exact ⟨rfl,rfl,rfl,fun h=>absurd rfl h⟩
 ·rename_i h1
  simp only [Bool.and_eq_true,beq_iff_eq] at h;obtain ⟨⟨hp,hq⟩,hg⟩:=h
  have hp0:p≠[]:=fun h=>h1 (.inl h)
  have hq0:q≠[]:=fun h=>h1 (.inr h)
  have vp:0<val p:=Nat.pos_of_ne_zero fun h=>hp0 (by rw [← pT hp,h];rfl)
  have vq:0<val q:=Nat.pos_of_ne_zero fun h=>hq0 (by rw [← pT hq,h];rfl)
  have e1:=kG n (val p) vq;have e2:=pD n (val p) vq;rw [hg,Nat.div_one] at e1 e2
  have hne:(mkRat (sg n (val p)) (val q)).num≠0:=by rw [e1,ne_eq,lT];omega
  unfold rN rP rD
  rw [if_neg hne,e1,e2,wM n vp,mL,pT hp,pT hq];exact ⟨rfl,rfl,rfl,fun _=>rfl⟩
theorem oF {n:Bool} {p q:List UInt8} (h:vd n p q=false):rq n p q=0:=by
 unfold rq
 rw [if_neg (by rw [h];exact Bool.false_ne_true)]
theorem qYb {x y:Rat} (h1:rN x=rN y) (h2:rP x=rP y) (h3:rD x=rD y):x=y:=by
 rw [← bH x,← bH y,h1,h2,h3]
theorem uZ (n:Bool) {p d:Nat} (hp:0<p) (hd:0<d):rN (mkRat (sg n p) d)=n∧rP (mkRat (sg n p) d)=be (p / Nat.gcd p d)∧rD (mkRat (sg n p) d)=be (d / Nat.gcd p d):=by
 have hg:=lN (d:=d) hp
 have hne:(mkRat (sg n p) d).num≠0:=by rw [kG n p hd,ne_eq,lT];omega
 unfold rN rP rD
 rw [if_neg hne,kG n p hd,pD n p hd,wM n hg,mL];exact ⟨rfl,rfl,rfl⟩
theorem kF (n:Bool) (d:Nat):mkRat (sg n 0) d=0:=by
 cases n <;> simp [sg]
theorem sE:rN 0=false∧rP 0=[]∧rD 0=[]:=⟨rfl,rfl,rfl⟩
def cA (x y:Rat):Int:=if x=y then 0 else if x<y then -1 else 1
theorem xD (m:Bool) {p d:Nat} (hp:0<p) (hd:0<d):mkRat (sg m p) d<0↔m=true:=by
 rw [Rat.lt_iff,kG m p hd];have hg:=lN (d:=d) hp;have h0:(0:Rat).num=0:=rfl;have h1:(0:Rat).den=1:=rfl;rw [h0,h1];generalize p / Nat.gcd p d=q at hg
 cases m
 ·simp [sg]
 ·simp [sg];omega
theorem tP {x y:Rat}:x-y<0↔x<y:=by
 rw [Rat.sub_eq_add_neg]
 constructor
 ·intro h
  have:=Rat.add_lt_add_right (c:=y) |>.2 h
  rwa [Rat.add_assoc,Rat.neg_add_cancel,Rat.add_zero,Rat.zero_add] at this
 ·intro h
  have:=Rat.add_lt_add_right (c:=-y) |>.2 h
  rwa [Rat.add_neg_cancel] at this
theorem sub_zero_iff {x y:Rat}:x-y=0↔x=y:=by
 rw [Rat.sub_eq_add_neg]
 constructor
 ·intro h
  have:=congrArg (·+y) h;simp only [Rat.add_assoc,Rat.neg_add_cancel,Rat.add_zero,Rat.zero_add] at this;exact this
 ·intro h
  rw [h,Rat.add_neg_cancel]
open Go.RowKit
theorem aB:(Tryz.prog.info? 23).map (·.size)=some 3:=by kernel_rfl
theorem bO:(Tryz.prog.info? 93).map (·.size)=some 3:=by kernel_rfl
theorem aI (b k:Nat) (X:World) (v:Value) (h:X.cell? ⟨b,k,none⟩=some v):(loadVar 9 ⟨b,k,none⟩).run Tryz.prog X=.ok v X:=by
 go_simp
theorem aQ (b k:Nat) (X:World) (v:Value) (h:X.cell? ⟨b,k,none⟩=some v):(loadVar 4 ⟨b,k,none⟩).run Tryz.prog X=.ok v X:=by
 go_simp
theorem jM (w:World) (o:Obj):(w.alloc o).heap.size=w.heap.size+1:=by simp
theorem aZ (w:World) (T1:TypeId) (x1:List Value):∃ W,W=w.alloc (.cells x1.toArray T1)∧Blk W w.heap.size T1 x1∧Below w.heap.size w W:=⟨_,rfl,Blk.new rfl,bU _ _⟩
theorem cI (w:World) (T1 T2:TypeId) (x1 x2:List Value):∃ W,W=(w.alloc (.cells x1.toArray T1)).alloc (.cells x2.toArray T2)∧Blk W w.heap.size T1 x1∧Blk W (w.heap.size+1) T2 x2∧Below w.heap.size w W:=by
 obtain ⟨W1,e1,h1,b1⟩:=aZ w T1 x1
 have hs:W1.heap.size=w.heap.size+1:=by rw [e1];exact jM _ _
 refine ⟨W1.alloc (.cells x2.toArray T2),by rw [e1],h1.bel (bU _ _),?_,aG b1 (bU _ _)⟩;have h2:Blk (W1.alloc (.cells x2.toArray T2)) W1.heap.size T2 x2:=Blk.new rfl
 rwa [hs] at h2
theorem bS (w:World) (T1 T2 T3:TypeId) (x1 x2 x3:List Value):∃ W,W=((w.alloc (.cells x1.toArray T1)).alloc (.cells x2.toArray T2)).alloc (.cells x3.toArray T3)∧Blk W w.heap.size T1 x1∧Blk W (w.heap.size+1) T2 x2∧Blk W (w.heap.size+2) T3 x3∧Below w.heap.size w W:=by
 obtain ⟨W1,e1,h1,h2,b1⟩:=cI w T1 T2 x1 x2
 have hs:W1.heap.size=w.heap.size+2:=by rw [e1,jM,jM]
 refine ⟨W1.alloc (.cells x3.toArray T3),by rw [e1],h1.bel (bU _ _),h2.bel (bU _ _),?_,aG b1 (bU _ _)⟩;have h3:Blk (W1.alloc (.cells x3.toArray T3)) W1.heap.size T3 x3:=Blk.new rfl
 rwa [hs] at h3
theorem fW {P:Program} {f:Operand→Value} {o:Oper} (T:TypeId) (x:Operand) (ho:o.op=.load T x) (g:Nat) (hx:f x=vP g 0) {d:TypeDesc} (hu:P.underlying T=some d)
  (hag:(match d with|.struct _|.array _ _=>true|_=>false)=true) {t:TypeId} {cs:List Value} (X:World) (hB:Blk X g t cs) (hi:(P.info? T).map (·.size)=some cs.length):(execOp f o).run P X=.ok (.value (.agg cs.toArray)) X:=by
 unfold execOp
 simp only [ho,hx,Instr.loadAt,Instr.sureAddr,Sem.run_bind,Sem.run_pure,Result.andThen_ok,cQ T d g 0 cs hB.cl hu hag hi]
abbrev rtv (n:Bool) (p q:List UInt8):Value:=.agg #[.bool n,vS p,vS q]
abbrev rbv (x:Rat):Value:=rtv (rN x) (rP x) (rD x)
abbrev fv (n:Bool) (p d:Nat):Value:=rtv n (be p) (be d)
theorem wR {x:Rat} {n:Bool} {p q:List UInt8} (h:rN x=n∧rP x=p∧rD x=q):rbv x=.agg #[.bool n,vS p,vS q]:=by
 obtain ⟨rfl,rfl,rfl⟩:=h
 rfl
def IsF (x:Rat) (B:Nat) (v:Value) (_:World):Prop:=∃ n p d,v=fv n p d∧0<d∧mkRat (sg n p) d=x∧(be p).length≤B∧(be d).length≤B
theorem IsF.lasts (x:Rat) (B:Nat):dJ (IsF x B):=fun _ _ _ h _=>h
theorem dL (w:World) (n n':Bool) (p q p' q':List UInt8):(binOp .eql 23 (rtv n p q) (rtv n' p' q')).run Tryz.prog w=.ok (.bool (n == n' && p == p' && q == q')) w:=by
 have h1:(p == p')=decide (p=p'):=by rw [Bool.eq_iff_iff];simp
 have h2:(q == q')=decide (q=q'):=by rw [Bool.eq_iff_iff];simp
 rw [h1,h2]
 go_simp
 by_cases e1:n=n' <;> by_cases e2:p=p' <;> by_cases e3:q=q' <;> simp [e1,e2,e3]
theorem jA {P:Program} {w:World} {ops:Array Oper} {rest:List Oper} {o:Oper} {a:Act} {Q:Exit→Act→World→Prop} (hgd:o.guard=none) (g j:Nat) (t:TypeId) (xs:List Value) (hB:Blk w g t xs) (v:Value) (hj:j<xs.length)
  (hr:∀ (X:World) (u:Value),X.cell? ⟨g,j,none⟩=some u→X.frozen? ⟨g,j,none⟩=false→(execOp a.eval o).run P X=.ok .skip (X.setCell ⟨g,j,none⟩ v))
  (h:∀ w',Blk w' g t (xs.set j v)→(∀ g' t' zs,g'≠g→Blk w g' t' zs→Blk w' g' t' zs)→(∀ B W,Below B W w→B≤g→Below B W w')→wpList P ops Q rest (a.put o.dst undef) w'):wpList P ops Q (o :: rest) a w:=by
 refine wpList_plain hgd fun K hK=>?_
 unfold Oper.wp
 rw [hr w _ (hB.cell (List.getElem?_eq_getElem hj)) (hB.free j)];exact hK _ _ (h _ (hB.set j v) (fun g' t' zs hne hz=>hz.other _ _ hne) (fun B W hb hg=>hb.setCell hg _))
theorem nC {f:Operand→Value} {o:Oper} (x y:Operand) (ho:o.op=.store 4 x y) (g j:Nat) {n:Bool} (hx:f x=vP g j) (hy:f y=.bool n) (u:Value) (X:World) (hc:X.cell? ⟨g,j,none⟩=some u) (hf:X.frozen? ⟨g,j,none⟩=false) :
  (execOp f o).run Tryz.prog X=.ok .skip (X.setCell ⟨g,j,none⟩ (.bool n)):=by
 unfold execOp
 simp only [ho,hx,hy]
 go_simp
section
variable {P:Program} {ops:Array Oper} {R:World→World→Prop} {w0:World} {Q:Act→World→Prop} {pre:Nat→Nat→Bool} {a:Act} {k:Nat} {o:Oper} {l:List (Nat×Oper×cE)} {Fs:List (Nat×(World→Prop))}
theorem xI {S:Value→World→Prop} (hw:Region.wanted o (yielded ops a.tmps)=true) (x:Operand) (xs:List Operand) (ts:Array TypeId) (ho:o.op=.call { callee:=.value x,args:=xs.toArray,argTypes:=ts }) (f:FuncId) (fst:List Value) (hx:a.eval x=.func (.func f) fst.toArray #[]) (args:List Value) (he:xs.map a.eval=args)
  (hf:∀ X:World,(callFunc f (fst++args).toArray).run P X=.ok (.enter f (fst++args).toArray) X)
  (hc:∀ X,R w0 X→(∀ p F,(p,F)∈Fs→pre k p=true→F X)→Calls P f (fst++args).toArray X fun e X'=>∃ v,e=.returned v∧S v X'∧R X X') (h:∀ v,bK P ops R w0 Q pre l ((k,S v) :: Fs) (a.put o.dst v)):bK P ops R w0 Q pre ((k,o,some S) :: l) Fs a:=by
 refine ⟨?_⟩
 unfold CertR
 rw [if_pos hw];refine ⟨fun X hX hF=>?_,fun v=>(h v).out⟩;have hc:=hc X hX hF
 have he2:xs.toArray.map a.eval=args.toArray:=by rw [List.map_toArray,he]
 have hrun:(execOp a.eval o).run P X=.ok (.enter f (fst++args).toArray) X:=by
  unfold execOp
  rw [ho];have hfX:=hf X;simp only [resolve,Sem.run_bind,Sem.run_pure,Result.andThen_ok,hx,he2,Deferred.ofValue,invoke]
  go_simp
 unfold dS
 rw [hrun];exact hc
end
theorem bJ {P:Program} {fn:Func} {R:Ending→World→Prop} {a:Act} {w:World} {s g t':Nat} {T t:TypeId} {cs:List Value} {d:TypeDesc} {v:Value} (hres:fn.results=#[.cell s T,.tmp t']) (hd:a.defers=[]) (hp:a.tmps.getD s undef=vP g 0) (hv:a.tmps.getD t' undef=v) (hu:P.underlying T=some d)
  (hag:(match d with|.struct _|.array _ _=>true|_=>false)=true) (hB:Blk w g t cs) (hi:(P.info? T).map (·.size)=some cs.length) (hR:R (.returned (.tuple #[.agg cs.toArray,v])) w):bodyPost P fn R .ret a w:=by
 refine bodyPost_ret (v:=.tuple #[.agg cs.toArray,v]) ?_ hd hR;have hld:=cQ (P:=P) T d g 0 cs hB.cl hu hag hi
 have hp2:a.tmps[s]?.getD undef=vP g 0:=by rw [← Array.getD_eq_getD_getElem?];exact hp
 have hv2:a.tmps[t']?.getD undef=v:=by rw [← Array.getD_eq_getD_getElem?];exact hv
 simp [results,hres,asAddr,hld,hp2,hv2]
theorem gI {f:Operand→Value} {o:Oper} (ho:o.op=.alloc 93) (X:World) :
  (execOp f o).run Tryz.prog X=.ok (.value (vP X.heap.size 0)) (X.alloc (.cells #[.bool false,.string ⟨#[]⟩,.string ⟨#[]⟩] 93)):=by
 unfold execOp
 simp only [ho]
 go_simp
def NewB (T:TypeId) (B:Nat) (v:Value) (X:World):Prop:=∃ g,v=vP g 0∧B≤g∧Blk X g T [.bool false,.string ⟨#[]⟩,.string ⟨#[]⟩]
theorem NewB.lasts (T:TypeId) (B:Nat):dJ (NewB T B):=by
 rintro v X Y ⟨g,h1,h2,h3⟩ hS
 exact ⟨g,h1,h2,h3.bel hS⟩
theorem kJ {P:Program} {f:Operand→Value} {o:Oper} (F0:FuncId) (x:Operand) (ho:o.op=.makeFunc (.func F0) #[x] #[]) (r:Value) (hx:f x=r) (X:World):(execOp f o).run P X=.ok (.value (.func (.func F0) #[r] #[])) X:=by
 unfold execOp
 simp only [ho,Instr.makeFunc,List.map_toArray,List.map_cons,List.map_nil,hx,Sem.run_bind,Sem.run_pure,Result.andThen_ok]
theorem yA (b:Bool) (p:Nat):fv b p 1=.agg #[.bool b,vS (be p),vS ([1]:List UInt8)]:=by
 show Value.agg #[.bool b,vS (be p),vS (be 1)]=_
 rw [be_one]
end Go.Proofs.YtnfpenhldlfafaaGreatDoor

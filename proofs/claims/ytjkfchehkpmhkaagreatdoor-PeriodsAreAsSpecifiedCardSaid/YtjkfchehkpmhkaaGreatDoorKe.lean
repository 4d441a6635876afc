/- kernel: Route, words. -/
import Derived.Test.YtjkfchehkpmhkaaGreatDoorPl44
import Derived.Test.YtjkfchehkpmhkaaGreatDoorRw
import Derived.Test.YtjkfchehkpmhkaaGreatDoorRf
import Derived.Test.YtjkfchehkpmhkaaGreatDoorL5a
import Derived.Test.YtjkfchehkpmhkaaGreatDoorMI
import Derived.Test.YtjkfchehkpmhkaaGreatDoorQsu
set_option linter.unusedSimpArgs false
set_option linter.unusedVariables false
set_option maxRecDepth 100000
set_option maxHeartbeats 1600000
namespace Go.Proofs.YtjkfchehkpmhkaaGreatDoor
open Go.RowKit
def tz (p q:List UInt8) (B:Nat):Prop:=p.length≤B∧q.length≤B
theorem tz.mono {p q:List UInt8} {B B':Nat} (h:tz p q B) (hb:B≤B'):tz p q B':=⟨Nat.le_trans h.1 hb,Nat.le_trans h.2 hb⟩
theorem mS {B:Nat}:tz [] [] B:=⟨Nat.zero_le _,Nat.zero_le _⟩
theorem tzR {x:Rat} {B:Nat} (h:szR x B) {B':Nat} (hb:B≤B'):tz (rP x) (rD x) B':=⟨Nat.le_trans h.rP hb,Nat.le_trans h.rD hb⟩
theorem gQ {n:Bool} {p q:List UInt8} {x:Rat} {B:Nat} (hx:rq n p q=x) (h:tz p q B) (h1:1≤B:=by omega):szR x B:=hx ▸ vVw n p q h.1 h.2 h1
theorem lQ {x y:Rat} {B B':Nat} (hx:szR x B) (hy:szR y B'):szR (x-y) (B+B'+1):=by
 rw [Rat.sub_eq_add_neg];exact wD hx (lR hy)
theorem qYl {x:Rat} {B:Nat} (hx:szR x B):szR x⁻¹ B:=by
 by_cases h:x=0
 ·subst h
  rw [Rat.inv_zero];exact hx
 ·have hd:=Nat.pos_of_ne_zero x.den_nz
  have hq:0<x.num.natAbs:=Nat.pos_of_ne_zero fun h9=>h ((iP x).1 h9)
  have key:=qVu (rN x) hq hd;rw [lV] at key;rw [key];exact vB (X:=default) ⟨_,_,x.num.natAbs,rfl,hq,rfl,hx.2,hx.1⟩
theorem qYm {x y:Rat} {B B':Nat} (hx:szR x B) (hy:szR y B'):szR (x / y) (B+B'):=by
 rw [Rat.div_def];exact qYk hx (qYl hy)
theorem rE {n:Int} (h:gB n=true):szR (n:Rat) 7:=by
 have:=rX h;refine ⟨?_,?_⟩
 ·rw [Rat.num_intCast]
  exact lJ (by omega)
 ·rw [Rat.den_intCast,be_one]
  decide
theorem vZk (n:Bool) (p q:List UInt8) (n':Bool) (p' q':List UInt8) {x:Rat} (hx:rq n p q=x) {y:Rat} (hy:rq n' p' q'=y) (w:World) (h:tz p q 1000000) (h':tz p' q' 1000000):Calls Tryz.prog 50 #[rtv n p q,rtv n' p' q'] w fun e w'=>e=.returned (rbv (x+y))∧Since w w':=by
 subst hx hy;exact addQ n p q n' p' q' w h.1 h.2 h'.1 h'.2
theorem subG (n:Bool) (p q:List UInt8) (n':Bool) (p' q':List UInt8) {x:Rat} (hx:rq n p q=x) {y:Rat} (hy:rq n' p' q'=y) (w:World) (h:tz p q 1000000) (h':tz p' q' 1000000):Calls Tryz.prog 36 #[rtv n p q,rtv n' p' q'] w fun e w'=>e=.returned (rbv (x-y))∧Since w w':=by
 subst hx hy;exact subQ n p q n' p' q' w h.1 h.2 h'.1 h'.2
theorem qQo (n:Bool) (p q:List UInt8) (n':Bool) (p' q':List UInt8) {x:Rat} (hx:rq n p q=x) {y:Rat} (hy:rq n' p' q'=y) (w:World) (h:tz p q 1000000) (h':tz p' q' 1000000):Calls Tryz.prog 24 #[rtv n p q,rtv n' p' q'] w fun e w'=>e=.returned (vI (kE x y))∧Since w w':=by
 subst hx hy;exact cmpQ n p q n' p' q' w h.1 h.2 h'.1 h'.2
theorem vXv (n:Bool) (p q:List UInt8) {x:Rat} (hx:rq n p q=x) (w:World) (h:tz p q 1000000):Calls Tryz.prog 38 #[rtv n p q] w fun e w'=>e=.returned (rbv (-x))∧Since w w':=by
 subst hx;exact negQ n p q w h.1 h.2
theorem mR (n:Bool) (p q:List UInt8) (w:World) (h:tz p q 1000000):Calls Tryz.prog 32 #[rtv n p q] w fun e w'=>e=.returned (.bool (vd n p q))∧Since w w':=rH n p q w (Nat.le_trans h.1 (by omega)) (Nat.le_trans h.2 (by omega))
def rk (m n:Int):Rat:=(m:Rat) / (n:Rat)
def ri (n:Int):Rat:=(n:Rat)
theorem vVv (m n:Int) (hm:gB m=true) (hn:gB n=true):szR (rk m n) 14:=qYm (rE hm) (rE hn)
def Rl (l:List Tr) (v:Value) (X:World):Prop:=Rd X 3 v l.length (fl trc l)
abbrev tr (x:Rat):Tr:=(rN x,rP x,rD x)
theorem oH (x:Rat):trq (tr x)=x:=eM x
theorem aY {P:Program} {f:Operand→Value} {o:Oper} (T:TypeId) (x:Operand) (ho:o.op=.load T x) (g k:Nat) (xs:List Value) (hx:f x=vP g k) {d:TypeDesc} (hu:P.underlying T=some d)
  (hag:(match d with|.struct _|.array _ _=>true|_=>false)=true) {t:TypeId} {cs:List Value} (X:World) (hB:Blk X g t cs) (hs:(cs.drop k).take xs.length=xs) (hi:(P.info? T).map (·.size)=some xs.length):(execOp f o).run P X=.ok (.value (.agg xs.toArray)) X:=by
 have hc:Cl X g k xs:=fun j u hj=>by
  refine hB.cell ?_;have hl:j<xs.length:=(List.getElem?_eq_some_iff.1 hj).1;rw [← hs,List.getElem?_take_of_lt hl,List.getElem?_drop] at hj;exact hj
 unfold execOp
 simp only [ho,hx,Instr.loadAt,Instr.sureAddr,Sem.run_bind,Sem.run_pure,Result.andThen_ok,cP T d g k xs hc hu hag hi]
structure Aj where
 day:Int
 ac:Int
 ag:Int
 pd:Int
 am:Tr
 w1:Int
 w2:Int
 w3:Int
 w4:Int
def adj (q:Aj):En :=
 if trq q.am=0 then ⟨q.day,q.ac,q.ag,tr 1,3,q.pd,-1,q.w1,q.w2,q.w3,q.w4⟩
 else if trq q.am<0 then ⟨q.day,q.ag,q.ac,tr (-trq q.am),3,q.pd,-1,q.w1,q.w2,q.w3,q.w4⟩
 else ⟨q.day,q.ac,q.ag,q.am,3,q.pd,-1,q.w1,q.w2,q.w3,q.w4⟩
def iM (l:List En) (x:En):Int:=if 0<l.length∧x.day<(en l (l.length-1)).day then 15 else if 4000≤l.length then 2 else 0
def poE (c:Int) (l:List En) (x:En):Int:=if acE c l≠0 then acE c l else if x.kd=4∨rgt c l.length x=false then 1 else iM l x
def ajE (c:Int) (l:List En) (q:Aj):Int:=if acE c l≠0 then acE c l else if vd q.am.1 q.am.2.1 q.am.2.2=false∨rgt c l.length (adj q)=false then 1 else iM l (adj q)
def ifz (e c:Int):Int:=if e=0 then c else 0
def poL (c:Int) (l:List En) (x:En):List En:=if poE c l x=0 then l++[x] else []
def ajL (c:Int) (l:List En) (q:Aj):List En:=if ajE c l q=0 then (if trq q.am=0 then l else l++[adj q]) else []
def plN (l:List En) (a t:Int):Nat→List Int
 | 0=>[]
 | n+1=>if (en l n).day≤t∧((en l n).deb=a∨(en l n).cre=a) then plN l a t n++[(n:Int)] else plN l a t n
theorem kB {x:En} {B:Nat} (h1:1≤B) (hx:tz x.am.2.1 x.am.2.2 B) (a:Int):szR (ent x a) (2 * B+1):=by
 have h:szR (trq x.am) B:=gQ rfl hx h1
 unfold ent
 have hz:szR (0:Rat) B:=szR_zero.mono h1
 have e1:szR (if x.deb=a then trq x.am else 0) B:=by split <;> assumption
 have e2:szR (if x.cre=a then trq x.am else 0) B:=by split <;> assumption
 exact (lQ e1 e2).mono (by omega)
def clN (l:List En) (d:Int):Nat→Nat
 | 0=>0
 | n+1=>if (en l n).day<d then n+1 else clN l d n
def cl (l:List En) (d:Int):Nat:=clN l d l.length
theorem rZ:(Tryz.prog.info? 3).map (·.size)=some 1:=by kernel_rfl
theorem qP (b k:Nat) (X:World) (v:Value) (h:X.cell? ⟨b,k,none⟩=some v):(loadVar 61 ⟨b,k,none⟩).run Tryz.prog X=.ok v X:=by
 go_simp
abbrev I64:Int→Value:=Value.int .i64
theorem vVj {w:World} {A:Option Addr} {n c:Nat} {l:List Int} (h:Rd w 1 (.slice A n c) n (l.map I64)) (hl:l.length=n) {k:Nat} (hk:k<n):∃ b off,A=some ⟨b,off,none⟩∧b<w.heap.size∧Cl w b (off+k * 1) [vI (wt l k)]:=by
 obtain ⟨b,off,hA,hb,hx⟩:=h.cellAt (by omega);refine ⟨b,off,hA,hb,fun j u hj=>?_⟩
 have hj0:j=0:=by
  have:=(List.getElem?_eq_some_iff.1 hj).1
  simp at this
  omega
 subst hj0
 have h9:(l.map I64)[k]?=some (vI (wt l k)):=by
  rw [List.getElem?_map,List.getElem?_eq_getElem (by omega),wt_in (by omega)]
  rfl
 have h8:=hx k _ h9
 have h7:u=vI (wt l k):=by simpa using hj.symm
 subst h7;rw [Nat.mul_one,Nat.add_zero];exact h8
def Ks (l:List Int) (v:Value) (X:World):Prop:=∃ A c,v=.slice A l.length c∧Rd X 1 (.slice A l.length c) l.length (l.map I64)
theorem Ks.lasts (l:List Int):eJ (Ks l):=by
 rintro v X Y ⟨A,c,hv,hr⟩ hS
 exact ⟨A,c,hv,hr.below hS⟩
theorem Ks.at {l:List Int} {v:Value} {w:World} (h:Ks l v w):∃ A n c,v=.slice A n c∧l.length=n∧n≤9223372036854775807∧Rd w 1 (.slice A n c) n (l.map I64):=by
 obtain ⟨A,c,hv,hr⟩:=h;have hr9:=hr;obtain ⟨hl,A2,c2,h2,hc,hm,hx⟩:=hr9;refine ⟨A,l.length,c,hv,rfl,?_,hr⟩
 injection h2 with _ _ h3
 subst h3
 unfold maxLen at hm
 omega
theorem Kok.all {l:List Int} (h:Kok l):∀ k,k<l.length→okk l k:=fun k _=>⟨h.pos k,Int.le_trans (h.wle k) h.le⟩
def Km (l:List Int) (B:Nat) (v:Value) (X:World):Prop:=∃ g,v=.slice (some ⟨g,0,none⟩) l.length l.length∧B≤g∧l.length≤1073741824∧Blk X g 3 (l.map I64)
theorem Km.low {l:List Int} {B C:Nat} {v:Value} {X:World} (h:Km l B v X) (hC:C≤B):Km l C v X:=by
 obtain ⟨g,h1,h2,h4,h3⟩:=h;exact ⟨g,h1,by omega,h4,h3⟩
theorem Ks.of_blk {l:List Int} {g:Nat} {X:World} (h3:Blk X g 3 (l.map I64)) (h4:l.length≤1073741824):Ks l (.slice (some ⟨g,0,none⟩) l.length l.length) X :=
 ⟨_,_,rfl,Rd.of_cl h3.cl h3.lt (by rw [List.length_map]) (Nat.le_refl _) (by unfold maxLen;omega)⟩
theorem Km.ks {l:List Int} {B:Nat} {v:Value} {X:World} (h:Km l B v X):Ks l v X:=by
 obtain ⟨g,rfl,h2,h4,h3⟩:=h;exact Ks.of_blk h3 h4
theorem eX {f:Operand→Value} {o:Oper} (x y:Operand) (ho:o.op=.store 3 x y) (g j:Nat) {n:Int} (hx:f x=vP g j) (hy:f y=vI n) (u:Value) (X:World) (hc:X.cell? ⟨g,j,none⟩=some u) (hf:X.frozen? ⟨g,j,none⟩=false) :
  (execOp f o).run Tryz.prog X=.ok .skip (X.setCell ⟨g,j,none⟩ (vI n)):=by
 unfold execOp
 simp only [ho,hx,hy]
 go_simp
def mk (l:List Int) (k:Nat):Rat:=sm k fun i=>((i:Int):Rat) * rk (wt l i) (tot l)
def rc (x:Rat):List Value:=trc (tr x)
theorem vXn (x:Rat):(rc x).length=3:=rfl
theorem xD {α:Type} {g:α→List Value} {m:Nat}:∀ {l:List α},(∀ x∈l,(g x).length=m)→∀ k,(fl g l).take (k * m)=fl g (l.take k)
 | [],_,k=>by simp [fl]
 | x :: l,h,0=>by simp [fl]
 | x :: l,h,k+1=>by
  have hx:=h x List.mem_cons_self;have ih:=xD (l:=l) (fun y hy=>h y (List.mem_cons_of_mem _ hy)) k
  show (g x++fl g l).take ((k+1) * m)=g x++fl g (l.take k)
  rw [← ih,Nat.succ_mul,Nat.add_comm (k * m) m,List.take_append,hx,List.take_of_length_le (by omega),Nat.add_sub_cancel_left]
theorem qZb (l:List Rat):(fl rc l).length=l.length * 3:=nD (fun x _=>vXn x)
theorem Cl.part {w:World} {b off:Nat} {cs:List Value} (h:Cl w b off cs) (d:Nat) (xs:List Value) (hs:(cs.drop d).take xs.length=xs):Cl w b (off+d) xs:=fun j u hj=>by
 have hl:j<xs.length:=(List.getElem?_eq_some_iff.1 hj).1;rw [← hs,List.getElem?_take_of_lt hl,List.getElem?_drop] at hj;rw [Nat.add_assoc];exact h (d+j) u hj
theorem cL {P:Program} {w:World} {ops:Array Oper} {rest:List Oper} {o:Oper} {a:Act} {Q:Exit→Act→World→Prop} (hgd:o.guard=none) (ty:TypeId) (p x:Operand) (ho:o.op=.store ty p x) (g:Nat) (t:TypeId) (xs:List Value) (hB:Blk w g t xs) (k:Nat)
  (hp:a.eval p=vP g k) (ys:List Value) (hx:a.eval x=.agg ys.toArray) (hl:k+ys.length≤xs.length) (h1:∀ v∈ys,v.oneCell'=true) (hi:(P.info? ty).map (·.size)=some ys.length)
  (h:∀ w',Blk w' g t (xs.take k++ys++xs.drop (k+ys.length))→w.grownBy w' (some g)→w'.heap.size=w.heap.size→wpList P ops Q rest (a.put o.dst undef) w'):wpList P ops Q (o :: rest) a w:=by
 refine wpList_plain hgd fun K hK=>?_;have hst:=run_storeCells_at P g k t ys 0 xs.toArray w hB (by simpa using hl) h1
 have hr:(storeVar ty ⟨g,k,none⟩ (.agg ys.toArray)).run P w=.ok () (w.setRow g (xs.take k++ys++xs.drop (k+ys.length)).toArray):=by
  cases hq:P.info? ty with
  | none=>simp [hq] at hi
  | some i =>
   have hsz:i.size=ys.length:=by simpa [hq] using hi
   simp only [Nat.add_zero] at hst
   simp [storeVar,Value.cells,Sem.run_bind,sizeOf,typeInfo,hq,hsz,hst]
 unfold Oper.wp execOp
 simp only [ho,hp,hx,Instr.storeAt,Instr.sureAddr,Sem.run_bind,Sem.run_pure,Result.andThen_ok,hr];exact hK _ _ (h _ (setRow_heap w g xs.toArray _ t (0,0) hB) (eT w g _) (by simp))
theorem Rl.at {xs:List Tr} {v:Value} {w:World} (h:Rl xs v w):∃ A n c,v=.slice A n c∧xs.length=n∧n≤9223372036854775807∧Rd w 3 (.slice A n c) n (fl trc xs):=by
 have h9:Rd w 3 v xs.length (fl trc xs):=h;have h8:=h9;obtain ⟨hl,A,c,h2,hc,hm,hx⟩:=h9;subst h2;refine ⟨A,xs.length,c,rfl,rfl,?_,h8⟩
 unfold maxLen at hm
 omega
end Go.Proofs.YtjkfchehkpmhkaaGreatDoor

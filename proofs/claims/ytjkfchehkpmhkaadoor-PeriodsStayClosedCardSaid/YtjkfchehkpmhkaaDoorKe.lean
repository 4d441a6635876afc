/- kernel: Route, words. -/
import Derived.Test.YtjkfchehkpmhkaaDoorRw
import Derived.Test.YtjkfchehkpmhkaaDoorRf
import Derived.Test.YtjkfchehkpmhkaaDoorMA
import Derived.Test.YtjkfchehkpmhkaaDoorMI
import Derived.Test.YtjkfchehkpmhkaaDoorQsu
import Derived.Test.YtjkfchehkpmhkaaDoorMH
set_option linter.unusedSimpArgs false
set_option linter.unusedVariables false
set_option maxRecDepth 100000
set_option maxHeartbeats 1600000
namespace Go.Proofs.YtjkfchehkpmhkaaDoor
open Go.RowKit
def tz (p q:List UInt8) (B:Nat):Prop:=p.length≤B∧q.length≤B
theorem tz.mono {p q:List UInt8} {B B':Nat} (h:tz p q B) (hb:B≤B'):tz p q B':=⟨Nat.le_trans h.1 hb,Nat.le_trans h.2 hb⟩
theorem lI {B:Nat}:tz [] [] B:=⟨Nat.zero_le _,Nat.zero_le _⟩
theorem tzR {x:Rat} {B:Nat} (h:szR x B) {B':Nat} (hb:B≤B'):tz (rP x) (rD x) B':=⟨Nat.le_trans h.rP hb,Nat.le_trans h.rD hb⟩
theorem iZ {n:Bool} {p q:List UInt8} {x:Rat} {B:Nat} (hx:rq n p q=x) (h:tz p q B) (h1:1≤B:=by omega):szR x B:=hx ▸ vYm n p q h.1 h.2 h1
theorem jA {x y:Rat} {B B':Nat} (hx:szR x B) (hy:szR y B'):szR (x-y) (B+B'+1):=by
 rw [Rat.sub_eq_add_neg];exact sA hx (oK hy)
theorem qZt {x:Rat} {B:Nat} (hx:szR x B):szR x⁻¹ B:=by
 by_cases h:x=0
 ·subst h
  rw [Rat.inv_zero];exact hx
 ·have hd:=Nat.pos_of_ne_zero x.den_nz
  have hq:0<x.num.natAbs:=Nat.pos_of_ne_zero fun h9=>h ((qVy x).1 h9)
  have key:=qXu (rN x) hq hd;rw [pN] at key;rw [key];exact wM (X:=default) ⟨_,_,x.num.natAbs,rfl,hq,rfl,hx.2,hx.1⟩
theorem qZu {x y:Rat} {B B':Nat} (hx:szR x B) (hy:szR y B'):szR (x / y) (B+B'):=by
 rw [Rat.div_def];exact qZs hx (qZt hy)
theorem lT {n:Int} (h:fX n=true):szR (n:Rat) 7:=by
 have:=sX h;refine ⟨?_,?_⟩
 ·rw [Rat.num_intCast]
  exact qQ (by omega)
 ·rw [Rat.den_intCast,be_one]
  decide
theorem rC (n:Bool) (p q:List UInt8) (n':Bool) (p' q':List UInt8) {x:Rat} (hx:rq n p q=x) {y:Rat} (hy:rq n' p' q'=y) (w:World) (h:tz p q 1000000) (h':tz p' q' 1000000):Calls Tryd.prog 11 #[rtv n p q,rtv n' p' q'] w fun e w'=>e=.returned (rbv (x+y))∧Since w w':=by
 subst hx hy;exact addQ n p q n' p' q' w h.1 h.2 h'.1 h'.2
theorem tU (n:Bool) (p q:List UInt8) (n':Bool) (p' q':List UInt8) {x:Rat} (hx:rq n p q=x) {y:Rat} (hy:rq n' p' q'=y) (w:World) (h:tz p q 1000000) (h':tz p' q' 1000000):Calls Tryd.prog 17 #[rtv n p q,rtv n' p' q'] w fun e w'=>e=.returned (rbv (x-y))∧Since w w':=by
 subst hx hy;exact subQ n p q n' p' q' w h.1 h.2 h'.1 h'.2
theorem xS (n:Bool) (p q:List UInt8) (n':Bool) (p' q':List UInt8) {x:Rat} (hx:rq n p q=x) {y:Rat} (hy:rq n' p' q'=y) (w:World) (h:tz p q 1000000) (h':tz p' q' 1000000):Calls Tryd.prog 22 #[rtv n p q,rtv n' p' q'] w fun e w'=>e=.returned (vI (jO x y))∧Since w w':=by
 subst hx hy;exact cmpQ n p q n' p' q' w h.1 h.2 h'.1 h'.2
theorem qXb (n:Bool) (p q:List UInt8) {x:Rat} (hx:rq n p q=x) (w:World) (h:tz p q 1000000):Calls Tryd.prog 14 #[rtv n p q] w fun e w'=>e=.returned (rbv (-x))∧Since w w':=by
 subst hx;exact negQ n p q w h.1 h.2
theorem dT (n:Bool) (p q:List UInt8) (w:World) (h:tz p q 1000000):Calls Tryd.prog 36 #[rtv n p q] w fun e w'=>e=.returned (.bool (vd n p q))∧Since w w':=sG n p q w (Nat.le_trans h.1 (by omega)) (Nat.le_trans h.2 (by omega))
theorem vW (w:World) (n n':Bool) (p q p' q':List UInt8):(binOp .neq 39 (rtv n p q) (rtv n' p' q')).run Tryd.prog w=.ok (.bool (!(n == n' && p == p' && q == q'))) w:=by
 have h1:(p == p')=decide (p=p'):=by rw [Bool.eq_iff_iff];simp
 have h2:(q == q')=decide (q=q'):=by rw [Bool.eq_iff_iff];simp
 rw [h1,h2]
 go_simp
 by_cases e1:n=n' <;> by_cases e2:p=p' <;> by_cases e3:q=q' <;> simp [e1,e2,e3]
theorem dD {f:Operand→Value} {o:Oper} (x y:Operand) (ho:o.op=.binOp .eql 39 x y 39) (n:Bool) (p q:List UInt8) (n':Bool) (p' q':List UInt8) (hx:f x=rtv n p q) (hy:f y=rtv n' p' q') (b:Bool) (hb:(n == n' && p == p' && q == q')=b) (X:World):(execOp f o).run Tryd.prog X=.ok (.value (.bool b)) X :=
 bW .eql _ _ x y ho _ _ hx hy gE _ X ((eC X n n' p q p' q').trans (by rw [hb]))
theorem gP {f:Operand→Value} {o:Oper} (x y:Operand) (ho:o.op=.binOp .neq 39 x y 39) (n:Bool) (p q:List UInt8) (n':Bool) (p' q':List UInt8) (hx:f x=rtv n p q) (hy:f y=rtv n' p' q') (b:Bool) (hb:(n == n' && p == p' && q == q')=!b) (X:World):(execOp f o).run Tryd.prog X=.ok (.value (.bool b)) X :=
 bW .neq _ _ x y ho _ _ hx hy gE _ X ((vW X n n' p q p' q').trans (by rw [hb,Bool.not_not]))
theorem vXd {x y:Rat} (b:Bool) (h:x=y↔b=true):(rN x == rN y && rP x == rP y && rD x == rD y)=b:=by
 rw [Bool.eq_iff_iff,← h];simp only [Bool.and_eq_true,beq_iff_eq];exact ⟨fun ⟨⟨h1,h2⟩,h3⟩=>pO h1 h2 h3,fun h=>by rw [h];exact ⟨⟨rfl,rfl⟩,rfl⟩⟩
theorem wA {x y:Rat} (h:x=y):(rN x == rN y && rP x == rP y && rD x == rD y)=true:=vXd true ⟨fun _=>rfl,fun _=>h⟩
theorem vZk {x y:Rat} (h:x≠y):(rN x == rN y && rP x == rP y && rD x == rD y)=false:=vXd false ⟨fun h9=>absurd h9 h,fun h9=>by cases h9⟩
theorem vXc {x:Rat} (h:x≠0):(rN x == false && rP x == [] && rD x == [])=false:=vZk (y:=0) h
def few (p q:List UInt8) (m:Nat):Bool:=decide (p.length≤m) && decide (q.length≤m)
def rk (m n:Int):Rat:=(m:Rat) / (n:Rat)
def ri (n:Int):Rat:=(n:Rat)
theorem vYl (m n:Int) (hm:fX m=true) (hn:fX n=true):szR (rk m n) 14:=qZu (lT hm) (lT hn)
def Rl (l:List Tr) (v:Value) (X:World):Prop:=Rd X 3 v l.length (fl trc l)
abbrev tr (x:Rat):Tr:=(rN x,rP x,rD x)
theorem rW (x:Rat):trq (tr x)=x:=cH x
theorem vZj {x:Rat} {n:Bool} {p q:List UInt8} (hv:vd n p q=true) (hx:rq n p q=x):(rN x == n && rP x == p && rD x == q)=true:=by
 obtain ⟨h1,h2,h3,_⟩:=oZ hv;rw [← hx,h1,h2,h3]
 simp
theorem aO {P:Program} {f:Operand→Value} {o:Oper} (T:TypeId) (x:Operand) (ho:o.op=.load T x) (g k:Nat) (xs:List Value) (hx:f x=vP g k) {d:TypeDesc} (hu:P.underlying T=some d)
  (hag:(match d with|.struct _|.array _ _=>true|_=>false)=true) {t:TypeId} {cs:List Value} (X:World) (hB:Blk X g t cs) (hs:(cs.drop k).take xs.length=xs) (hi:(P.info? T).map (·.size)=some xs.length):(execOp f o).run P X=.ok (.value (.agg xs.toArray)) X:=by
 have hc:Cl X g k xs:=fun j u hj=>by
  refine hB.cell ?_;have hl:j<xs.length:=(List.getElem?_eq_some_iff.1 hj).1;rw [← hs,List.getElem?_take_of_lt hl,List.getElem?_drop] at hj;exact hj
 unfold execOp
 simp only [ho,hx,Instr.loadAt,Instr.sureAddr,Sem.run_bind,Sem.run_pure,Result.andThen_ok,cG T d g k xs hc hu hag hi]
def sm:Nat→(Nat→Rat)→Rat
 | 0,_=>0
 | n+1,f=>sm n f+f n
theorem lU (f:Nat→Rat):sm 0 f=0:=rfl
theorem cT (n:Nat) (f:Nat→Rat):sm (n+1) f=sm n f+f n:=rfl
theorem cL {f g:Nat→Rat}:∀ {n:Nat},(∀ i,i<n→f i=g i)→sm n f=sm n g
 | 0,_=>rfl
 | n+1,h=>by rw [cT,cT,cL (n:=n) (fun i hi=>h i (by omega)),h n (by omega)]
theorem vT:∀ (n:Nat),sm n (fun _=>0)=0
 | 0=>rfl
 | n+1=>by rw [cT,vT n,Rat.add_zero]
theorem fO {f:Nat→Rat} {n:Nat} (h:∀ i,i<n→f i=0):sm n f=0:=(cL (g:=fun _=>0) h).trans (vT n)
theorem sD (f g:Nat→Rat):∀ (n:Nat),sm n (fun i=>f i+g i)=sm n f+sm n g
 | 0=>by rw [lU,lU,lU,Rat.add_zero]
 | n+1=>by
  rw [cT,cT,cT,sD f g n]
  grind
theorem sC (f:Nat→Nat→Rat) (m:Nat):∀ (n:Nat),sm n (fun i=>sm m (fun j=>f i j))=sm m (fun j=>sm n (fun i=>f i j))
 | 0=>by
  rw [lU]
  symm
  exact fO fun i _=>rfl
 | n+1=>by
  rw [cT,sC f m n,← sD]
  rfl
theorem lV (f:Nat→Rat) (n:Nat):∀ (m:Nat),sm (n+m) f=sm n f+sm m (fun i=>f (n+i))
 | 0=>by rw [lU,Rat.add_zero];rfl
 | m+1=>by
  rw [← Nat.add_assoc,cT,lV f n m,cT]
  grind
theorem vYx {f:Nat→Rat} {n k:Nat} (hk:k<n) (h:∀ i,i<n→i≠k→f i=0):sm n f=f k:=by
 induction n with
 | zero=>omega
 | succ n ih =>
  rw [cT]
  rcases Nat.lt_or_ge k n with h1|h1
  ·rw [ih h1 (fun i hi hne=>h i (by omega) hne),h n (by omega) (by omega),Rat.add_zero]
  ·rw [show k=n by omega,fO (fun i hi=>h i (by omega) (by omega)),Rat.zero_add]
def cv (a b:Nat→Rat) (t:Nat):Rat:=sm (t+1) fun i=>a i * b (t-i)
abbrev far:Int:=999999999999999
def wt (l:List Int) (k:Nat):Int:=l.getD k 0
theorem vXx {l:List Int} {k:Nat} (h:l.length≤k):wt l k=0:=by
 unfold wt
 rw [List.getD_eq_getElem?_getD,List.getElem?_eq_none h]
 rfl
theorem wt_in {l:List Int} {k:Nat} (h:k<l.length):wt l k=l[k]:=by
 unfold wt
 rw [List.getD_eq_getElem?_getD,List.getElem?_eq_getElem h]
 rfl
def smI:Nat→(Nat→Int)→Int
 | 0,_=>0
 | n+1,f=>smI n f+f n
theorem pF {f:Nat→Int}:∀ {n:Nat},(∀ i,i<n→0≤f i)→0≤smI n f
 | 0,_=>Int.le_refl 0
 | n+1,h=>by
  have h1:=pF (n:=n) (fun i hi=>h i (by omega));have h2:=h n (by omega)
  show 0≤smI n f+f n
  omega
theorem pE {f:Nat→Int}:∀ {n k:Nat},(∀ i,i<n→0≤f i)→k<n→f k≤smI n f
 | n+1,k,h,hk=>by
  have h1:=pF (n:=n) (fun i hi=>h i (by omega));have h2:=h n (by omega)
  show f k≤smI n f+f n
  rcases Nat.lt_or_ge k n with h3|h3
  ·have:=pE (n:=n) (k:=k) (fun i hi=>h i (by omega)) h3
   omega
  ·rw [show k=n by omega]
   omega
theorem xM {f:Nat→Int}:∀ {n:Nat},(∀ i,i<n→0≤f i)→0<smI n f→∃ k,k<n∧0<f k
 | 0,_,h=>by cases h
 | n+1,h,hp=>by
  rcases Int.lt_or_le 0 (f n) with h1|h1
  ·exact ⟨n,by omega,h1⟩
  ·have h2:0<smI n f:=by
    have:0<smI n f+f n:=hp
    omega
   obtain ⟨k,hk,h3⟩:=xM (n:=n) (fun i hi=>h i (by omega)) h2;exact ⟨k,by omega,h3⟩
def tk (l:List Int) (k:Nat):Int:=smI k (wt l)
def tot (l:List Int):Int:=tk l l.length
abbrev okk (l:List Int) (k:Nat):Prop:=0≤wt l k∧wt l k≤far
structure Kok (l:List Int):Prop where
 len1:1≤l.length
 len2:l.length≤400
 pos:∀ k,0≤wt l k
 le:tot l≤far
 tpos:0<tot l
theorem Kok.wle {l:List Int} (h:Kok l) (k:Nat):wt l k≤tot l:=by
 rcases Nat.lt_or_ge k l.length with h1|h1
 ·exact pE (fun i _=>h.pos i) h1
 ·rw [vXx h1]
  have:=h.tpos
  omega
def gf (f:Nat→Nat):Nat→Nat
 | 0=>0
 | k+1=>Nat.gcd (gf f k) (f k)
theorem Kok.one {l:List Int} (h:Kok l):∃ k,k<l.length∧0<wt l k:=xM (fun i _=>h.pos i) h.tpos
def qw (l:List Int) (k:Nat):Rat:=(wt l k:Rat)
theorem sY:(Tryd.prog.info? 3).map (·.size)=some 1:=by kernel_rfl
theorem rM (b k:Nat) (X:World) (v:Value) (h:X.cell? ⟨b,k,none⟩=some v):(loadVar 59 ⟨b,k,none⟩).run Tryd.prog X=.ok v X:=by
 go_simp
abbrev I64:Int→Value:=Value.int .i64
theorem vXy {w:World} {A:Option Addr} {n c:Nat} {l:List Int} (h:Rd w 1 (.slice A n c) n (l.map I64)) (hl:l.length=n) {k:Nat} (hk:k<n):∃ b off,A=some ⟨b,off,none⟩∧b<w.heap.size∧Cl w b (off+k * 1) [vI (wt l k)]:=by
 obtain ⟨b,off,hA,hb,hx⟩:=h.cellAt (by omega);refine ⟨b,off,hA,hb,fun j u hj=>?_⟩
 have hj0:j=0:=by
  have:=(List.getElem?_eq_some_iff.1 hj).1
  simp at this
  omega
 subst hj0
 have h9:(l.map I64)[k]?=some (vI (wt l k)):=by
  rw [List.getElem?_map,List.getElem?_eq_getElem (by omega),wt_in (by omega)]
  rfl
 have h8:=hx k _ h9
 have h7:u=vI (wt l k):=by simpa using hj.symm
 subst h7;rw [Nat.mul_one,Nat.add_zero];exact h8
def Ks (l:List Int) (v:Value) (X:World):Prop:=∃ A c,v=.slice A l.length c∧Rd X 1 (.slice A l.length c) l.length (l.map I64)
theorem Ks.lasts (l:List Int):dM (Ks l):=by
 rintro v X Y ⟨A,c,hv,hr⟩ hS
 exact ⟨A,c,hv,hr.below hS⟩
theorem Ks.at {l:List Int} {v:Value} {w:World} (h:Ks l v w):∃ A n c,v=.slice A n c∧l.length=n∧n≤9223372036854775807∧Rd w 1 (.slice A n c) n (l.map I64):=by
 obtain ⟨A,c,hv,hr⟩:=h;have hr9:=hr;obtain ⟨hl,A2,c2,h2,hc,hm,hx⟩:=hr9;refine ⟨A,l.length,c,hv,rfl,?_,hr⟩
 injection h2 with _ _ h3
 subst h3
 unfold maxLen at hm
 omega
theorem Kok.all {l:List Int} (h:Kok l):∀ k,k<l.length→okk l k:=fun k _=>⟨h.pos k,Int.le_trans (h.wle k) h.le⟩
def Km (l:List Int) (B:Nat) (v:Value) (X:World):Prop:=∃ g,v=.slice (some ⟨g,0,none⟩) l.length l.length∧B≤g∧l.length≤1073741824∧Blk X g 3 (l.map I64)
theorem Km.low {l:List Int} {B C:Nat} {v:Value} {X:World} (h:Km l B v X) (hC:C≤B):Km l C v X:=by
 obtain ⟨g,h1,h2,h4,h3⟩:=h;exact ⟨g,h1,by omega,h4,h3⟩
theorem Ks.of_blk {l:List Int} {g:Nat} {X:World} (h3:Blk X g 3 (l.map I64)) (h4:l.length≤1073741824):Ks l (.slice (some ⟨g,0,none⟩) l.length l.length) X :=
 ⟨_,_,rfl,Rd.of_cl h3.cl h3.lt (by rw [List.length_map]) (Nat.le_refl _) (by unfold maxLen;omega)⟩
theorem kE {f:Operand→Value} {o:Oper} (x y:Operand) (ho:o.op=.store 3 x y) (g j:Nat) {n:Int} (hx:f x=vP g j) (hy:f y=vI n) (u:Value) (X:World) (hc:X.cell? ⟨g,j,none⟩=some u) (hf:X.frozen? ⟨g,j,none⟩=false) :
  (execOp f o).run Tryd.prog X=.ok .skip (X.setCell ⟨g,j,none⟩ (vI n)):=by
 unfold execOp
 simp only [ho,hx,hy]
 go_simp
def mk (l:List Int) (k:Nat):Rat:=sm k fun i=>((i:Int):Rat) * rk (wt l i) (tot l)
def rc (x:Rat):List Value:=trc (tr x)
theorem jV (x:Rat):(rc x).length=3:=rfl
def yq (l:List Rat) (k:Nat):Rat:=l.getD k 0
theorem tO {l:List Rat} {k:Nat} (h:k<l.length):yq l k=l[k]:=by
 unfold yq
 rw [List.getD_eq_getElem?_getD,List.getElem?_eq_getElem h]
 rfl
theorem vXw {a b:List Rat} (hl:a.length=b.length) (h:∀ k,k<a.length→yq a k=yq b k):a=b:=by
 refine List.ext_getElem hl fun k h1 h2=>?_;rw [← tO h1,← tO h2];exact h k h1
theorem tN {n k:Nat} (f:Nat→Rat) (h:k<n):yq ((List.range n).map f) k=f k:=by
 rw [tO (by simpa using h)]
 simp
theorem vM {l:List Rat} {k j:Nat} {x:Rat} (hk:k<l.length):yq (l.set k x) j=if j=k then x else yq l j:=by
 unfold yq
 rw [List.getD_eq_getElem?_getD,List.getD_eq_getElem?_getD,List.getElem?_set]
 by_cases h:k=j
 ·subst h
  rw [if_pos rfl,if_pos rfl,if_pos hk]
  rfl
 ·rw [if_neg h,if_neg (fun h9=>h h9.symm)]
theorem yJ {α:Type} {g:α→List Value} {m:Nat}:∀ {l:List α},(∀ x∈l,(g x).length=m)→∀ k,(fl g l).drop (k * m)=fl g (l.drop k)
 | [],_,k=>by simp [fl]
 | x :: l,h,0=>by simp
 | x :: l,h,k+1=>by
  have hx:=h x List.mem_cons_self;have ih:=yJ (l:=l) (fun y hy=>h y (List.mem_cons_of_mem _ hy)) k
  show (g x++fl g l).drop ((k+1) * m)=fl g (l.drop k)
  rw [← ih,Nat.succ_mul,Nat.add_comm (k * m) m,← List.drop_drop,show (g x++fl g l).drop m=fl g l by rw [← hx];exact List.drop_left]
theorem yI {α:Type} {g:α→List Value} {m:Nat}:∀ {l:List α},(∀ x∈l,(g x).length=m)→∀ k,(fl g l).take (k * m)=fl g (l.take k)
 | [],_,k=>by simp [fl]
 | x :: l,h,0=>by simp [fl]
 | x :: l,h,k+1=>by
  have hx:=h x List.mem_cons_self;have ih:=yI (l:=l) (fun y hy=>h y (List.mem_cons_of_mem _ hy)) k
  show (g x++fl g l).take ((k+1) * m)=g x++fl g (l.take k)
  rw [← ih,Nat.succ_mul,Nat.add_comm (k * m) m,List.take_append,hx,List.take_of_length_le (by omega),Nat.add_sub_cancel_left]
theorem qYd {α:Type} {g:α→List Value} (a b:List α):fl g (a++b)=fl g a++fl g b:=by
 unfold fl
 rw [List.map_append,List.flatten_append]
theorem vQz {α:Type} {g:α→List Value} {m:Nat} (hm:∀ x,(g x).length=m) {l:List α} {k:Nat} (hk:k<l.length) (x:α):(fl g l).take (k * m)++g x++(fl g l).drop (k * m+m)=fl g (l.set k x):=by
 have h1:l.set k x=l.take k++([x]++l.drop (k+1)):=by
  rw [List.set_eq_take_append_cons_drop,if_pos hk]
  rfl
 rw [h1,qYd,qYd,yI (fun y _=>hm y),show k * m+m=(k+1) * m by rw [Nat.succ_mul],yJ (fun y _=>hm y),List.append_assoc]
 congr 1
 congr 1
 simp [fl]
theorem oQ (l:List Rat):(fl rc l).length=l.length * 3:=nR (fun x _=>jV x)
theorem Cl.part {w:World} {b off:Nat} {cs:List Value} (h:Cl w b off cs) (d:Nat) (xs:List Value) (hs:(cs.drop d).take xs.length=xs):Cl w b (off+d) xs:=fun j u hj=>by
 have hl:j<xs.length:=(List.getElem?_eq_some_iff.1 hj).1;rw [← hs,List.getElem?_take_of_lt hl,List.getElem?_drop] at hj;rw [Nat.add_assoc];exact h (d+j) u hj
theorem cO {P:Program} {w:World} {ops:Array Oper} {rest:List Oper} {o:Oper} {a:Act} {Q:Exit→Act→World→Prop} (hgd:o.guard=none) (ty:TypeId) (p x:Operand) (ho:o.op=.store ty p x) (g:Nat) (t:TypeId) (xs:List Value) (hB:Blk w g t xs) (k:Nat)
  (hp:a.eval p=vP g k) (ys:List Value) (hx:a.eval x=.agg ys.toArray) (hl:k+ys.length≤xs.length) (h1:∀ v∈ys,v.oneCell'=true) (hi:(P.info? ty).map (·.size)=some ys.length)
  (h:∀ w',Blk w' g t (xs.take k++ys++xs.drop (k+ys.length))→w.grownBy w' (some g)→w'.heap.size=w.heap.size→wpList P ops Q rest (a.put o.dst undef) w'):wpList P ops Q (o :: rest) a w:=by
 refine wpList_plain hgd fun K hK=>?_;have hst:=run_storeCells_at P g k t ys 0 xs.toArray w hB (by simpa using hl) h1
 have hr:(storeVar ty ⟨g,k,none⟩ (.agg ys.toArray)).run P w=.ok () (w.setRow g (xs.take k++ys++xs.drop (k+ys.length)).toArray):=by
  cases hq:P.info? ty with
  | none=>simp [hq] at hi
  | some i =>
   have hsz:i.size=ys.length:=by simpa [hq] using hi
   simp only [Nat.add_zero] at hst
   simp [storeVar,Value.cells,Sem.run_bind,sizeOf,typeInfo,hq,hsz,hst]
 unfold Oper.wp execOp
 simp only [ho,hp,hx,Instr.storeAt,Instr.sureAddr,Sem.run_bind,Sem.run_pure,Result.andThen_ok,hr];exact hK _ _ (h _ (setRow_heap w g xs.toArray _ t (0,0) hB) (dU w g _) (by simp))
theorem Rl.at {xs:List Tr} {v:Value} {w:World} (h:Rl xs v w):∃ A n c,v=.slice A n c∧xs.length=n∧n≤9223372036854775807∧Rd w 3 (.slice A n c) n (fl trc xs):=by
 have h9:Rd w 3 v xs.length (fl trc xs):=h;have h8:=h9;obtain ⟨hl,A,c,h2,hc,hm,hx⟩:=h9;subst h2;refine ⟨A,xs.length,c,rfl,rfl,?_,h8⟩
 unfold maxLen at hm
 omega
end Go.Proofs.YtjkfchehkpmhkaaDoor

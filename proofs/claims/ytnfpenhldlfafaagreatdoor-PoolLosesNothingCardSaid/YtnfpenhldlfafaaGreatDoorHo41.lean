/- Layer 41: stores into rows of the call's own; the measure of -/
import Derived.Test.YtnfpenhldlfafaaGreatDoorProg
import Derived.Maps.Own
import Derived.Maps.Views
import Derived.Test.YtnfpenhldlfafaaGreatDoorLar
import Derived.Test.YtnfpenhldlfafaaGreatDoorPl41e
import Derived.Test.YtnfpenhldlfafaaGreatDoorRf
import Derived.Test.YtnfpenhldlfafaaGreatDoorLcw
import Derived.Test.YtnfpenhldlfafaaGreatDoorLa
import Derived.Test.YtnfpenhldlfafaaGreatDoorKe
import Derived.Test.YtnfpenhldlfafaaGreatDoorPl31b
set_option linter.unusedSimpArgs false
set_option linter.unusedVariables false
set_option maxRecDepth 100000
set_option maxHeartbeats 1600000
namespace Go.Proofs.YtnfpenhldlfafaaGreatDoor
def aw (l:List Int) (f u tick:Nat):Int:=tk l (min l.length (u-tick))-tk l (min l.length (f-tick))
abbrev Wp:=Nat×Nat×Int
instance:Inhabited Wp:=⟨(0,0,0)⟩
def pw (P:List Wp) (k:Nat):Wp:=P.getD k default
def arJ (P:List Wp) (last:Int) (tick:Nat) (w:Int):Prop:=0<P.length∧(pw P (P.length-1)).2.1=tick∧last=w
instance (P:List Wp) (last:Int) (tick:Nat) (w:Int):Decidable (arJ P last tick w):=by unfold arJ;exact inferInstance
open Go.RowKit
def wdc (t:Int) (p:Wp):List Value:=[vI (p.1:Int),vI (p.2.1:Int),.bool (rN (rk p.2.2 t)),vS (rP (rk p.2.2 t)),vS (rD (rk p.2.2 t))]
def Tp (L:Value→World→Prop) (e:Int) (v:Value) (X:World):Prop:=∃ u,v=.tuple #[u,vI e]∧L u X
theorem Tp.lasts {L:Value→World→Prop} (hL:dJ L) (e:Int):dJ (Tp L e):=by
 rintro v X Y ⟨u,h1,h2⟩ hS
 exact ⟨u,h1,hL _ _ _ h2 hS⟩
def Rq (l:List Rat) (v:Value) (X:World):Prop:=Rl (l.map tr) v X
theorem Rq.lasts (l:List Rat):dJ (Rq l):=fun _ _ _ h hS=>Rl.lasts _ _ _ _ h hS
theorem Rq.of_blk {l:List Rat} {g:Nat} {X:World} (h:Blk X g 23 (fl rc l)) (hl:l.length≤1000000):Rq l (.slice (some ⟨g,0,none⟩) l.length l.length) X:=by
 have h1:fl trc (l.map tr)=fl rc l:=by
  unfold fl
  rw [List.map_map]
  rfl
 show Rd X 3 _ (l.map tr).length (fl trc (l.map tr))
 rw [h1,List.length_map];exact ⟨by rw [iZ],_,_,rfl,Nat.le_refl _,(by unfold maxLen;omega),(fun h=>by cases h),fun _=>⟨g,0,rfl,h.lt,fun j u hj=>by rw [Nat.zero_add];exact h.cell hj⟩⟩
def Pl (P:List Wp) (t:Int) (v:Value) (X:World):Prop:=Rd X 5 v P.length (fl (wdc t) P)
def Av (T:TypeId) (z:List Value) (B:Nat) (v:Value) (X:World):Prop:=∃ g,v=vP g 0∧B≤g∧Blk X g T z
theorem Av.lasts (T:TypeId) (z:List Value) (B:Nat):dJ (Av T z B):=by
 rintro v X Y ⟨g,h1,h2,h3⟩ hS
 exact ⟨g,h1,h2,h3.bel hS⟩
theorem Av.mk {P:Program} {f:Operand→Value} {o:Oper} (T:TypeId) (z:List Value) (B:Nat) {X:World} (hB:B≤X.heap.size) (hr:(execOp f o).run P X=.ok (.value (vP X.heap.size 0)) (X.alloc (.cells z.toArray T))):∃ v X',(execOp f o).run P X=.ok (.value v) X'∧Av T z B v X'∧Since X X' :=
 ⟨_,_,hr,⟨_,rfl,hB,Blk.new rfl⟩,bU X _⟩
theorem Ks.mk {P:Program} {f:Operand→Value} {o:Oper} (l:List Int) (n:Nat) (hn:l.length=n) (hm:n≤1073741824) {X:World} (hr:(execOp f o).run P X=.ok (.value (.slice (some ⟨X.heap.size,0,none⟩) n n)) (X.alloc (.cells (l.map I64).toArray 3))):∃ v X',(execOp f o).run P X=.ok (.value v) X'∧Ks l v X'∧Since X X':=by
 subst hn;exact ⟨_,_,hr,Ks.of_blk (Blk.new rfl) hm,bU X _⟩
theorem Rq.mk {P:Program} {f:Operand→Value} {o:Oper} (l:List Rat) (n:Nat) (hn:l.length=n) (hm:n≤1000000) {X:World} (hr:(execOp f o).run P X=.ok (.value (.slice (some ⟨X.heap.size,0,none⟩) n n)) (X.alloc (.cells (fl rc l).toArray 23))):∃ v X',(execOp f o).run P X=.ok (.value v) X'∧Rq l v X'∧Since X X':=by
 subst hn;exact ⟨_,_,hr,Rq.of_blk (Blk.new rfl) hm,bU X _⟩
theorem vX {ys:List Rat} {k:Nat}:xt (ys.map tr) k=tr (yq ys k):=by
 unfold xt yq
 rw [List.getD_eq_getElem?_getD,List.getD_eq_getElem?_getD,List.getElem?_map]
 cases ys[k]? <;> rfl
theorem lY:Go.Maps.Keyed Tryz.prog 3:=Go.Maps.int_keyed Tryz.underlying3
def Mpb (n:Nat) (F:Int→Bool) (v:Value) (X:World):Prop:=∃ b,v=.map (some b)∧∃ D:DataW Unit,X.ownsMap Tryz.prog 3 (plainElem Tryz.prog 4) b n D∧∀ k:Int,(Lit.int .i64 k).wf=true→D.atKey (.int .i64 k) (.lit (.bool false))=.lit (.bool (F k))
theorem Mpb.lasts (n:Nat) (F:Int→Bool):dJ (Mpb n F):=by
 rintro v X Y ⟨b,hv,D,h1,h2⟩ hS
 exact ⟨b,hv,D,h1.kept (row:=none) ⟨hS.os,hS.tape,hS.output,hS.size,fun k hk _=>hS.block k hk⟩ (by simp),h2⟩
theorem Mpb.grown {X Y:World} {n:Nat} {F:Int→Bool} {b:Nat} {row:Option Nat} (h:Mpb n F (.map (some b)) X) (hG:X.grownBy Y row) (hne:row≠some b):Mpb n F (.map (some b)) Y:=by
 obtain ⟨b',hv,D,h1,h2⟩:=h
 injection hv with hv
 injection hv with hv
 subst hv;exact ⟨b,rfl,D,h1.kept hG (fun h9=>hne h9.symm),h2⟩
theorem Mpb.lt {X:World} {n:Nat} {F:Int→Bool} {b:Nat} (h:Mpb n F (.map (some b)) X):b<X.heap.size:=by
 obtain ⟨b',hv,D,h1,_⟩:=h
 injection hv with hv
 injection hv with hv
 subst hv;exact h1.lt
theorem Mpb.mono {X:World} {n m:Nat} {F:Int→Bool} {v:Value} (h:Mpb n F v X) (hm:n≤m):Mpb m F v X:=by
 obtain ⟨b,hv,D,h1,h2⟩:=h;exact ⟨b,hv,D,h1.mono hm,h2⟩
theorem Mpb.made (X:World):Mpb 0 (fun _=>false) (.map (some X.heap.size)) (X.alloc (.map #[] 0)) :=
 ⟨_,rfl,.map [],World.ownsMap_made X _ _ _,fun k hk=>rfl⟩
theorem jO {P:Program} {e:TypeId} (he:P.underlying e=some .bool) {v:Value} {z:DataW Unit×List MemPlace} (h:plainElem P e v=some z):∃ x,v=.bool x∧z=(.lit (.bool x),[]):=by
 unfold plainElem at h
 rw [he] at h
 cases v <;> simp at h
 exact ⟨_,rfl,h.symm⟩
theorem fV {f:Operand→Value} {o:Oper} (x y:Operand) (ho:o.op=.lookup 103 x y false) {m:Value} {k:Int} (hx:f x=m) (hy:f y=.int .i64 k) (hk:(Lit.int .i64 k).wf=true) {n:Nat} {F:Int→Bool} (X:World) (h:Mpb n F m X) :
  (execOp f o).run Tryz.prog X=.ok (.value (.bool (F k))) X:=by
 obtain ⟨b,hv,D,h1,h2⟩:=h;subst hv;obtain ⟨v,ps,hrun,hR⟩:=h1.lookup (z:=.bool false) (zd:=.lit (.bool false)) (zp:=[]) lY Tryz.underlying103 (by kernel_rfl) (plainElem_bool Tryz.underlying4 false) (Go.Maps.keyOf_int_mk Tryz.underlying3 hk);rw [h2 k hk] at hR;obtain ⟨x',rfl,h9⟩:=jO Tryz.underlying4 hR;simp only [Prod.mk.injEq] at h9
 have h8:F k=x':=by
  have:=h9.1
  injection this with this
  injection this
 subst h8
 unfold execOp
 simp [ho,hx,hy,hrun]
theorem sI {w:World} {ops:Array Oper} {rest:List Oper} {o:Oper} {a:Act} {Q:Exit→Act→World→Prop} (hgd:o.guard=none) (m x v:Operand) (ho:o.op=.mapUpdate 103 m x v) {b:Nat} {k:Int} {y:Bool}
  (hm:a.eval m=.map (some b)) (hx:a.eval x=.int .i64 k) (hv:a.eval v=.bool y) (hk:(Lit.int .i64 k).wf=true) {n:Nat} {F:Int→Bool} (h:Mpb n F (.map (some b)) w) (hn:n<maxLen)
  (hK:∀ w',Mpb (n+1) (fun j=>if j=k then y else F j) (.map (some b)) w'→w.grownBy w' (some b)→wpList Tryz.prog ops Q rest (a.put o.dst undef) w'):wpList Tryz.prog ops Q (o :: rest) a w:=by
 obtain ⟨b',hb,D,h1,h2⟩:=h
 injection hb with hb
 injection hb with hb
 subst hb
 refine wpList_mapUpdate_own w hgd m x v 103 ho 3 4 lY Tryz.underlying103 _ b n D hm h1 hn _ _ _ hx hv (Go.Maps.keyOf_int_mk Tryz.underlying3 hk) _ _ (plainElem_bool Tryz.underlying4 y) fun w' r1 r2=>hK w' ⟨b,rfl,_,r1,fun j hj=>?_⟩ r2
 show _=DataW.lit (Lit.bool (if j=k then y else F j))
 by_cases h9:j=k
 ·subst h9
  rw [if_pos rfl];exact Go.Maps.atKey_put_same (by obtain ⟨_,_,_,_,_,hD⟩:=h1;exact ⟨_,hD⟩) (by trivial) _ _
 ·rw [if_neg h9,Go.Maps.atKey_put_other (fun h8=>h9 (by injection h8))]
  exact h2 j hj
theorem xU {P:Program} {w:World} {a:Act} {id:Nat} {L:List Oper} {Q':Exit→Act→World→Prop} (A:Ar) (ap:Nat) (ss:List (eC Bool)) (hst:∀ S,some S∈ss→∀ v X Y,S v X→Ga A X Y→S v Y)
  (h:fA P L.toArray A ap w (wpList P L.toArray Q' []) (fun _ _=>true) (itg 0 L ss) [] a):(Code.region id L.toArray false).wp P Q' a w :=
 rM (g0:=false) ss (Ga.since (X:=(w,false)) (Below.refl w.heap.size w)) (fun _ _=>rfl) (fun _ _ h h'=>h.trans h') hst h.out
theorem rA {P:Program} {w:World} {a:Act} {id:Nat} {L:List Oper} {Q':Exit→Act→World→Prop} (n:Nat) (A:Ar) (ap:Nat) (ss:List (eC Bool)) (hst:∀ S,some S∈ss→∀ v X Y,S v X→Ga A X Y→S v Y)
  (h:fA P L.toArray A ap w (wpList P L.toArray Q' (L.drop n)) (fun _ _=>true) (itg 0 (L.take n) ss) [] a):(Code.region id L.toArray false).wp P Q' a w:=by
 refine wp_region_lit ?_
 have hq:=eG (N:=fun k σ=>k=ap→σ=false) (tail:=L.drop n) (fun _ _ h h'=>Ga.trans h h') (itg 0 (L.take n) ss) [] a (w,false) (fun it hit S hS=>by
  rcases ((jD 0 (L.take n) ss).2.1 it hit).2.2 with h'|h'
  ·rw [hS] at h'
   cases h'
  ·rw [hS] at h'
   exact hst S h') (fun p F hp=>by cases hp) (Ga.since (X:=(w,false)) (Below.refl w.heap.size w)) (fun it _ _=>rfl) (jD 0 (L.take n) ss).1 h.out
 rw [lZ,List.take_append_drop] at hq;exact hq
theorem wX {X Y:World} {base m n:Nat} {e:TypeId} {v:Value} {xs:List Value} (h:X.ownsRow base e m v n xs) (hk:∀ g t zs,v.ownBlock=some g→Blk X g t zs→Blk Y g t zs):Y.ownsRow base e m v n xs:=by
 obtain ⟨hl,hr⟩:=h;refine ⟨hl,hr.imp id ?_⟩
 rintro ⟨g,cap,cur,rfl,hb,hg,rest⟩
 have h9:Blk X g e cur.toList:=by
  show X.heap[g]?=some (.cells cur.toList.toArray e (0,0))
  rw [Array.toArray_toList];exact hg
 have h8:=hk g e _ rfl h9;refine ⟨g,cap,cur,rfl,hb,?_,rest⟩;have h7:Y.heap[g]?=some (.cells cur.toList.toArray e (0,0)):=h8;rw [Array.toArray_toList] at h7;exact h7
theorem bF:(Tryz.prog.info? 66).map (·.size)=some 9:=by kernel_rfl
theorem aL:(Tryz.prog.info? 26).map (·.size)=some 4:=by kernel_rfl
theorem aM:(Tryz.prog.info? 41).map (·.size)=some 8:=by kernel_rfl
theorem iA:(Tryz.prog.info? 29).map (·.size)=some 7:=by kernel_rfl
theorem eL:(Tryz.prog.info? 50).map (·.size)=some 13:=by kernel_rfl
theorem xY:(Tryz.prog.info? 66).map (fun i=>(i.zero,i.size,i.bytes))=some (some (.agg #[.bool false,.string ⟨#[]⟩,.string ⟨#[]⟩,.bool false,.string ⟨#[]⟩,.string ⟨#[]⟩,.bool false,.string ⟨#[]⟩,.string ⟨#[]⟩]),9,120):=by kernel_rfl
theorem aR (b k:Nat) (X:World) (v:Value) (h:X.cell? ⟨b,k,none⟩=some v):(loadVar 24 ⟨b,k,none⟩).run Tryz.prog X=.ok v X:=by
 go_simp
theorem bA (b k:Nat) (X:World) (v:Value) (h:X.cell? ⟨b,k,none⟩=some v):(loadVar 27 ⟨b,k,none⟩).run Tryz.prog X=.ok v X:=by
 go_simp
def hoc (x:Ho):List Value:=[.bool x.c.1,vS x.c.2.1,vS x.c.2.2,.bool x.m.1,vS x.m.2.1,vS x.m.2.2,.bool x.s.1,vS x.s.2.1,vS x.s.2.2]
theorem iC (x:Ho):(hoc x).length=9:=rfl
theorem pK (l:List Ho):(fl hoc l).length=l.length * 9:=jR (fun x _=>iC x)
def Hl (l:List Ho) (v:Value) (X:World):Prop:=Rd X 9 v l.length (fl hoc l)
theorem Hl.lasts (l:List Ho):dJ (Hl l):=fun _ _ _ h hS=>Rd.below h hS
theorem Hl.at {l:List Ho} {v:Value} {w:World} (h:Hl l v w):∃ A n c,v=.slice A n c∧l.length=n∧n≤9223372036854775807∧Rd w 9 (.slice A n c) n (fl hoc l):=by
 have h9:Rd w 9 v l.length (fl hoc l):=h;have h8:=h9;obtain ⟨hl,A,c,h2,hc,hm,hx⟩:=h9;subst h2;refine ⟨A,l.length,c,rfl,rfl,?_,h8⟩
 unfold maxLen at hm
 omega
theorem iR {w:World} {A:Option Addr} {n c:Nat} {l:List Ho} (h:Rd w 9 (.slice A n c) n (fl hoc l)) (hl:l.length=n) {k:Nat} (hk:k<n):∃ b off,A=some ⟨b,off,none⟩∧b<w.heap.size∧Cl w b (off+k * 9) (hoc (ho l k)):=by
 obtain ⟨b,off,x,hA,hb,hc,_,hd⟩:=h.atF (m:=9) (fun x _=>iC x) (by omega) (k:=k) (by omega);have h1:=congrArg (·[0]?) hd.out;rw [gS (by omega)]
 have h2:l[k]=x:=by
  have h3:l[k]?=some x:=by simpa [List.getElem?_drop] using h1
  rw [List.getElem?_eq_getElem (by omega)] at h3
  injection h3
 rw [h2];exact ⟨b,off,hA,hb,hc⟩
theorem qYv (X:World):Hl [] (.slice none 0 0) X:=Rd.nil_ _ _
theorem qXz (X:World):Rl [] (.slice none 0 0) X:=Rd.nil_ _ _
theorem Rl.mk {P:Program} {f:Operand→Value} {o:Oper} (l:List Tr) (n:Nat) (hn:l.length=n) (hm:n≤1073741824) {X:World} (hr:(execOp f o).run P X=.ok (.value (.slice (some ⟨X.heap.size,0,none⟩) n n)) (X.alloc (.cells (fl trc l).toArray 23))):∃ v X',(execOp f o).run P X=.ok (.value v) X'∧Rl l v X'∧Since X X':=by
 subst hn;refine ⟨_,_,hr,?_,bU X _⟩;have hB:Blk (X.alloc (.cells (fl trc l).toArray 23)) X.heap.size 23 (fl trc l):=Blk.new rfl;refine ⟨jR (fun _ _=>rfl),some ⟨X.heap.size,0,none⟩,l.length,rfl,Nat.le_refl _,by unfold maxLen;omega,(fun h9=>by cases h9),fun _=>⟨X.heap.size,0,rfl,hB.lt,fun j u hj=>?_⟩⟩;rw [Nat.zero_add];exact hB.cell hj
theorem qVx {xs:List Tr} {k:Nat} (h:xs.length≤k):xt xs k=(false,[],[]):=by
 unfold xt
 rw [List.getD_eq_getElem?_getD,List.getElem?_eq_none h]
 rfl
def fnL (xs:List Tr):Bool:=xs.all fnT
theorem fnL_t {xs:List Tr}:fnL xs=true↔∀ k,k<xs.length→fnT (xt xs k)=true:=by
 unfold fnL
 rw [List.all_eq_true]
 constructor
 ·intro h k hk
  rw [mB hk];exact h _ (List.getElem_mem _)
 ·intro h x hx
  obtain ⟨k,hk,rfl⟩:=List.mem_iff_getElem.1 hx;rw [← mB hk];exact h k hk
theorem fnL_f {xs:List Tr} {k:Nat} (hk:k<xs.length) (h:fnT (xt xs k)=false):fnL xs=false:=by
 refine Bool.eq_false_iff.2 fun h9=>?_;rw [fnL_t.1 h9 k hk] at h
 cases h
def ixN (xs:List Tr):Int:=if fnL xs=true then -1 else ((xs.findIdx fun t=>!fnT t:Nat):Int)
theorem qYr {xs:List Tr} {k:Nat} (hk:k<xs.length) (h:fnT (xt xs k)=false) (hz:∀ j,j<k→fnT (xt xs j)=true):ixN xs=k:=by
 unfold ixN
 rw [if_neg (by rw [fnL_f hk h];decide)]
 congr 1
 refine (List.findIdx_eq hk).2 ⟨by rw [← mB hk,h];rfl,fun j hj=>?_⟩;rw [← mB (by omega),hz j hj]
 rfl
theorem qVg {xs:List Tr} (h:fnL xs=true):ixN xs=-1:=if_pos h
theorem ixN_f {xs:List Tr} (h:fnL xs=false):0≤ixN xs∧ixN xs≤xs.length:=by
 unfold ixN
 rw [if_neg (by rw [h];decide)];have:=@List.findIdx_le_length Tr (fun t=>!fnT t) xs
 omega
def Pv (d:Pd) (v:Value) (X:World):Prop:=∃ u z,v=.agg #[.bool d.p.1,vS d.p.2.1,vS d.p.2.2,u,z,.bool (rN d.r),vS (rP d.r),vS (rD d.r)]∧Hl d.l u X∧Rl (d.q.map tr) z X
theorem Pv.z (X:World):Pv pd0 (.agg #[.bool false,.string ⟨#[]⟩,.string ⟨#[]⟩,.slice none 0 0,.slice none 0 0,.bool false,.string ⟨#[]⟩,.string ⟨#[]⟩]) X :=
 ⟨_,_,rfl,qYv X,qXz X⟩
theorem yE {f:Operand→Value} {o:Oper} (x y:Operand) (ho:o.op=.store 24 x y) (g j:Nat) {A:Option Addr} {n c:Nat} (hx:f x=vP g j) (hy:f y=.slice A n c) (u:Value) (X:World) (hc:X.cell? ⟨g,j,none⟩=some u) (hf:X.frozen? ⟨g,j,none⟩=false) :
  (execOp f o).run Tryz.prog X=.ok .skip (X.setCell ⟨g,j,none⟩ (.slice A n c)):=by
 unfold execOp
 simp only [ho,hx,hy]
 go_simp
open Go Go.RowKit
theorem gF {P:Program} {w:World} {ops:Array Oper} {rest:List Oper} {o:Oper} {a:Act} {Q:Exit→Act→World→Prop} (hgd:o.guard=none) (ty:TypeId) (p x:Operand) (ho:o.op=.store ty p x) {base m n:Nat} {e:TypeId} {g c:Nat} {xs:List Value} (hO:w.ownsRow base e m (.slice (some ⟨g,0,none⟩) n c) n xs)
  (k:Nat) (hp:a.eval p=vP g k) (ys:List Value) (hx:a.eval x=.agg ys.toArray) (hl:k+ys.length≤xs.length) (h1:∀ v∈ys,v.oneCell'=true) (hi:(P.info? ty).map (·.size)=some ys.length)
  (h:∀ w',w'.ownsRow base e m (.slice (some ⟨g,0,none⟩) n c) n (xs.take k++ys++xs.drop (k+ys.length))→w.grownBy w' (some g)→wpList P ops Q rest (a.put o.dst undef) w'):wpList P ops Q (o :: rest) a w:=by
 obtain ⟨hlen,hr9⟩:=hO
 rcases hr9 with ⟨h9,_⟩|⟨g',cap,cur,hv,hb,hg,hn,hm,hs,ht⟩
 ·cases h9
 ·injection hv with hv1 _ hv3
  injection hv1 with hv1
  injection hv1 with hv1 _ _
  subst hv1 hv3;have hB:Blk w g e cur.toList:=hg
  have hcl:k+ys.length≤cur.toList.length:=by
   rw [← ht,List.length_take] at hl
   omega
  refine cZ hgd ty p x ho g e cur.toList hB k hp ys hx hcl h1 hi fun w' hB' hG _=>h w' ⟨?_,.inr ⟨g,c,(cur.toList.take k++ys++cur.toList.drop (k+ys.length)).toArray,rfl,hb,hB',hn,hm,?_,?_⟩⟩ hG
  ·rw [List.length_append,List.length_append,List.length_take,List.length_drop]
   omega
  ·have h8:cur.toList.length=cur.size:=Array.length_toList
   rw [List.size_toArray,List.length_append,List.length_append,List.length_take,List.length_drop]
   omega
  ·show (cur.toList.take k++ys++cur.toList.drop (k+ys.length)).take (n * m)=_
   have hkn:k+ys.length≤n * m:=by
    rw [← ht,List.length_take] at hl
    omega
   have hA:(cur.toList.take k++ys).length=k+ys.length:=by
    rw [List.length_append,List.length_take]
    omega
   rw [← ht,List.take_append,hA,List.take_of_length_le (by omega),List.take_take,List.drop_take,Nat.min_eq_left (by omega)]
def cno (op:Nat→Bool):Nat→Nat
 | 0=>0
 | n+1=>cno op n+if op n=true then 1 else 0
theorem yR (op:Nat→Bool):∀ n,cno op n≤n
 | 0=>Nat.le_refl 0
 | n+1=>by
  have h:=yR op n
  show cno op n+_≤n+1
  split <;> omega
theorem kN {op op':Nat→Bool}:∀ {n:Nat},(∀ k,k<n→op' k=true→op k=true)→cno op' n≤cno op n
 | 0,_=>Nat.le_refl 0
 | n+1,h=>by
  have h1:=kN (n:=n) fun k hk=>h k (by omega)
  show cno op' n+_≤cno op n+_
  by_cases h2:op' n=true
  ·rw [if_pos h2,if_pos (h n (by omega) h2)]
   omega
  ·rw [if_neg h2]
   omega
theorem tH {op op':Nat→Bool}:∀ {n i:Nat},(∀ k,k<n→op' k=true→op k=true)→i<n→op i=true→op' i=false→cno op' n<cno op n
 | 0,_,_,h1,_,_=>absurd h1 (Nat.not_lt_zero _)
 | n+1,i,h,h1,h2,h3=>by
  show cno op' n+_<cno op n+_
  rcases Nat.lt_or_ge i n with h4|h4
  ·have h5:=tH (n:=n) (fun k hk=>h k (by omega)) h4 h2 h3
   by_cases h6:op' n=true
   ·rw [if_pos h6,if_pos (h n (by omega) h6)]
    omega
   ·rw [if_neg h6]
    omega
  ·obtain rfl:i=n:=by omega
   have h5:=kN (n:=i) fun k hk=>h k (by omega)
   rw [if_pos h2,if_neg (by rw [h3];decide)]
   omega
theorem vQ {op op':Nat→Bool} {n:Nat} (h:∀ k,k<n→op k=op' k):cno op n=cno op' n :=
 Nat.le_antisymm (kN fun k hk h9=>by rw [← h k hk];exact h9) (kN fun k hk h9=>by rw [h k hk];exact h9)
theorem Mpb.uniq {n m:Nat} {F G:Int→Bool} {v:Value} {X:World} (h:Mpb n F v X) (h':Mpb m G v X) {k:Int} (hk:(Lit.int .i64 k).wf=true):F k=G k:=by
 obtain ⟨b,hv,D,h1,h2⟩:=h;obtain ⟨b',hv',D',h1',h2'⟩:=h';subst hv
 injection hv' with hv'
 injection hv' with hv'
 subst hv';obtain ⟨x,ps,hrun,hR⟩:=h1.lookup (z:=.bool false) (zd:=.lit (.bool false)) (zp:=[]) lY Tryz.underlying103 (by kernel_rfl) (plainElem_bool Tryz.underlying4 false) (Go.Maps.keyOf_int_mk Tryz.underlying3 hk);obtain ⟨x',ps',hrun',hR'⟩:=h1'.lookup (z:=.bool false) (zd:=.lit (.bool false)) (zp:=[]) lY Tryz.underlying103 (by kernel_rfl) (plainElem_bool Tryz.underlying4 false) (Go.Maps.keyOf_int_mk Tryz.underlying3 hk);rw [hrun] at hrun'
 injection hrun' with e1
 subst e1;rw [h2 k hk] at hR;rw [h2' k hk,hR] at hR'
 have h9:F k=G k∧ps=ps':=by simpa using hR'
 exact h9.1
open Classical in
noncomputable def mpn (v:Value) (n:Nat) (X:World):Nat :=
 if h:∃ F:Int→Bool,∃ N,Mpb N F v X then cno (fun j=>Classical.choose h (j:Int)) n else 0
theorem xC {v:Value} {n N:Nat} {X:World} {F:Int→Bool} (h:Mpb N F v X) (hn:n≤1000):mpn v n X=cno (fun j=>F (j:Int)) n:=by
 have h2:∃ F:Int→Bool,∃ N,Mpb N F v X:=⟨F,N,h⟩
 unfold mpn
 rw [dif_pos h2];obtain ⟨M,h3⟩:=Classical.choose_spec h2
 exact vQ fun k hk=>h3.uniq h (by
  unfold Lit.wf
  simp only [Bool.and_eq_true,decide_eq_true_eq]
  exact ⟨Int.le_trans (show _≤(0:Int) by decide) (by omega),Int.le_trans (show (k:Int)≤1000 by omega) (by decide)⟩)
end Go.Proofs.YtnfpenhldlfafaaGreatDoor

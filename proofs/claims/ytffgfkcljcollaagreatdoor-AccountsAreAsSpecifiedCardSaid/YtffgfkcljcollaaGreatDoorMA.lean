/- Words of this seat's own texts: a slice that reads as a list -/
import Derived.WalkKit
import Derived.Lib.AppendStr
import Derived.Lib.Hide
import Derived.Deep.AppendLies
import Derived.Deep.Draws
import Derived.Laws.OwnMore
import Derived.Laws.AppendOwnNone
import Derived.Handy
import Derived.Laws.BytesString
import Derived.Laws.BytesArg
import Derived.Laws.CopyRow
import Derived.Great.BuildSlice
import Derived.Great.FillDense
import Derived.Stop.BytesEq
import Derived.Deep.QuietTactic
import Derived.BigQuiet
import Derived.OneCell
import Derived.Deep.Heap
import Derived.Lib.SmallJoins
import Derived.Lib.ConvBytes
set_option linter.unusedSimpArgs false
set_option linter.unusedVariables false
namespace Go.Proofs.YtffgfkcljcollaaGreatDoor
open Go.RowKit
abbrev vI (k:Int):Value:=.int .i64 k
abbrev vP (g o:Nat):Value:=.pointer (some ⟨g,o,none⟩)
abbrev vS (l:List UInt8):Value:=.string ⟨l.toArray⟩
def Rd (w:World) (size:Nat) (v:Value) (n:Nat) (xs:List Value):Prop :=
 xs.length=n * size∧∃ A c,v=.slice A n c∧n≤c∧c≤maxLen∧(A=none→c=0)∧(0<n→∃ b off,A=some ⟨b,off,none⟩∧b<w.heap.size∧∀ j u,xs[j]?=some u→w.cell? ⟨b,off+j,none⟩=some u)
theorem Rd.keep {w w':World} {size n:Nat} {v:Value} {xs:List Value} (h:Rd w size v n xs) (hs:w.heap.size≤w'.heap.size)
  (hk:∀ p:Addr,p.block<w.heap.size→w'.cell? p=w.cell? p):Rd w' size v n xs:=by
 obtain ⟨hl,A,c,hv,hc,hm,hz,hr⟩:=h;refine ⟨hl,A,c,hv,hc,hm,hz,fun hn=>?_⟩;obtain ⟨b,off,hA,hb,hx⟩:=hr hn;exact ⟨b,off,hA,Nat.lt_of_lt_of_le hb hs,fun j u hj=>(hk _ hb).trans (hx j u hj)⟩
theorem Rd.below {w w':World} {size n:Nat} {v:Value} {xs:List Value} (h:Rd w size v n xs) (hb:Below w.heap.size w w'):Rd w' size v n xs :=
 h.keep hb.size fun _ hp=>hb.cell hp
theorem Rd.nil_ (w:World) (size:Nat):Rd w size (.slice none 0 0) 0 []:=⟨by simp,none,0,rfl,Nat.le_refl _,by unfold maxLen;omega,fun _=>rfl,fun h=>absurd h (by omega)⟩
theorem Rd.alloc {w:World} {size n:Nat} {v:Value} {xs:List Value} (h:Rd w size v n xs) (o:Obj):Rd (w.alloc o) size v n xs :=
 h.keep (by simp) fun p hp=>World.cell?_alloc_lt w o p hp
theorem Rd.len {w:World} {size n:Nat} {v:Value} {xs:List Value} (h:Rd w size v n xs):xs.length=n * size:=h.1
theorem gN (g j:Nat):(⟨g,0,none⟩:Addr).add j=⟨g,0+j,none⟩:=by
 unfold Addr.add
 split <;> simp_all
theorem Rd.of_own {w:World} {base size n:Nat} {e:TypeId} {v:Value} {xs:List Value} (h:w.ownsRow base e size v n xs):Rd w size v n xs:=by
 obtain ⟨hl,hr⟩:=h
 rcases hr with ⟨rfl,rfl⟩|⟨g,cap,cur,rfl,hb,hg,hn,hm,hs,ht⟩
 ·have:xs=[]:=List.eq_nil_of_length_eq_zero (by simpa using hl)
  subst this;exact Rd.nil_ w size
 ·have ho:w.ownsRow base e size (.slice (some ⟨g,0,none⟩) n cap) n xs:=⟨hl,.inr ⟨g,cap,cur,rfl,hb,hg,hn,hm,hs,ht⟩⟩
  refine ⟨hl,some ⟨g,0,none⟩,cap,rfl,hn,hm,(fun h=>by cases h),fun _=>⟨g,0,rfl,(Array.getElem?_eq_some_iff.1 hg).1,fun j u hj=>?_⟩⟩;rw [← gN];exact ho.cells (g:=g) rfl j u hj
theorem Rd.cellAt {w:World} {size n:Nat} {A:Option Addr} {c:Nat} {xs:List Value} (h:Rd w size (.slice A n c) n xs) (hn:0<n) :
  ∃ b off,A=some ⟨b,off,none⟩∧b<w.heap.size∧∀ j u,xs[j]?=some u→w.cell? ⟨b,off+j,none⟩=some u:=by
 obtain ⟨_,A',c',hv,_,_,_,hr⟩:=h
 injection hv with h1 h2 h3
 subst h1;exact hr hn
theorem Rd.form {w:World} {size n:Nat} {v:Value} {xs:List Value} (h:Rd w size v n xs):∃ A c,v=.slice A n c∧n≤c∧c≤maxLen:=by
 obtain ⟨_,A,c,hv,hc,hm,_,_⟩:=h;exact ⟨A,c,hv,hc,hm⟩
theorem fL {w:World} {base base' size n:Nat} {e:TypeId} {v:Value} {xs:List Value} (h:w.ownsRow base e size v n xs) (hb:base'≤base):w.ownsRow base' e size v n xs:=by
 obtain ⟨hl,hr⟩:=h;refine ⟨hl,?_⟩
 rcases hr with hn|⟨g,cap,cur,hv,hg,rest⟩
 ·exact .inl hn
 ·exact .inr ⟨g,cap,cur,hv,Nat.le_trans hb hg,rest⟩
theorem iC {P:Program} {w:World} {ops:Array Oper} {rest:List Oper} {o:Oper} {a:Act} {Q:Exit→Act→World→Prop} (hgd:o.guard=none) (s x:Operand) (t:TypeId)
  (ho:o.op=.call { callee:=.builtin .append,args:=#[s,x],argTypes:=#[t,t] })
  (base:Nat) (e:TypeId) (z:Value) (size bytes:Nat) (ht:P.underlying t=some (.slice e)) (hi:(P.info? e).map (fun i=>(i.zero,i.size,i.bytes))=some (some z,size,bytes))
  (hz1:z.cells.size=size) (hsz0:0<size) (v:Value) (n:Nat) (xs:List Value) (hs:a.eval s=v) (hown:w.ownsRow base e size v n xs)
  (vx:Value) (m:Nat) (news:List Value) (hx:a.eval x=vx) (hr:Rd w size vx m news) (h1:∀ u∈news,u.oneCell'=true)
  (hbytes:(n+m) * bytes≤140737488355328) (h63:n+m≤maxLen) (hbase:base≤w.heap.size)
  (h:∀ v' w',w'.ownsRow base e size v' (n+m) (xs++news)→w.grownBy w' v.ownBlock→Below base w w'→wpList P ops Q rest (a.put o.dst v') w') :
  wpList P ops Q (o :: rest) a w:=by
 obtain ⟨i,hi',hz0,hsz,hby⟩:=info_parts hi
 have hbel:∀ w',w.grownBy w' v.ownBlock→Below base w w':=fun w' h3=>(Below.refl base w).grown h3 hbase fun k hk=>(hown.lt k hk).1
 obtain ⟨hl,A,c,rfl,hc,hm,hz,hcell⟩:=hr
 rcases Nat.eq_zero_or_pos m with h0|h0
 ·subst h0
  have hn:news=[]:=List.eq_nil_of_length_eq_zero (by simpa using hl);subst hn
  rcases A with _|ad
  ·have hc0:=hz rfl
   subst hc0;refine wpList_append_own_none hgd s x t ho base e i size ht hi' v n xs hs hown hx ?_;exact h v w (by simpa using hown) (World.grownBy.refl _ _) (Below.refl _ _)
  ·refine wpList_append_own _ hgd s x t ho base e i z size bytes ht hi' hz0 hsz hby hz1 hsz0 v n xs hs hown ad 0 c [] hx (by simp) (by simp) (by simp) h63 hbytes hbase ?_
   intro v' w' h2 h3 _;exact h v' w' h2 h3 (hbel _ h3)
 ·obtain ⟨b,off,rfl,hb,hcs⟩:=hcell h0
  refine wpList_append_own _ hgd s x t ho base e i z size bytes ht hi' hz0 hsz hby hz1 hsz0 v n xs hs hown ⟨b,off,none⟩ m c news hx hl ?_ h1 h63 hbytes hbase ?_
  ·intro j u hj
   have e:(⟨b,off,none⟩:Addr).add j=⟨b,off+j,none⟩:=by
    unfold Addr.add
    split <;> simp_all
   rw [e];exact hcs j u hj
  ·intro v' w' h2 h3 _
   exact h v' w' h2 h3 (hbel _ h3)
def B8 (b:UInt8):Value:=.int .u8 (b.toNat:Int)
theorem qXz (l:List UInt8):∀ u∈l.map B8,u.oneCell'=true:=by
 intro u hu;obtain ⟨b,_,rfl⟩:=List.mem_map.1 hu
 rfl
theorem uN {P:Program} {w:World} (src dst e:TypeId) (hs:P.underlying src=some (.slice e)) (he:P.underlying e=some (.int .u8)) (hd:P.underlying dst=some .string)
  {v:Value} {n:Nat} {bs:List UInt8} (hr:Rd w 1 v n (bs.map B8)):(convert src dst v).run P w=.ok (vS bs) w:=by
 obtain ⟨hl,A,c,rfl,hc,hm,hz,hcell⟩:=hr
 have hl':bs.length=n:=by simpa using hl
 rcases Nat.eq_zero_or_pos n with h0|h0
 ·subst h0
  have hb:bs=[]:=List.eq_nil_of_length_eq_zero hl';subst hb;rw [run_convert_bytes_string w src dst e _ 0 c hs he hd]
  rcases A with _|ad
  ·simp [Conv.bytesToString];rfl
  ·have hl0:(loadCells ad 0).run P w=.ok (([]:List Int).map (Value.int .u8)).toArray w:=by
    have:=run_loadCells_list (P:=P) w ad [] (fun j v hj=>by simp at hj)
    simpa using this
   rw [run_bytesToString w ad 0 c [] hl0]
   rfl
 ·obtain ⟨b,off,rfl,hb,hcs⟩:=hcell h0
  have hq:=run_convert_bytes_arg (P:=P) w src e hs he b off n c (bs.map fun x=>(x.toNat:Int)) (by simpa using hl') (fun i hi=>by
   have h1:(bs.map B8)[i]?=some (B8 (bs[i]'(by omega))):=by simp [List.getElem?_eq_getElem (show i<bs.length by omega)]
   rw [hcs i _ h1]
   simp [B8,List.getD,List.getElem?_eq_getElem (show i<bs.length by omega)]) dst hd
  rw [hq]
  congr 2
  simp only [strOfNums,List.map_map]
  congr 2
  rw [List.map_congr_left (g:=id) (fun x _=>by simp),List.map_id]
theorem bR {w w':World} {base size n:Nat} {e:TypeId} {v:Value} {xs:List Value} (h:w.ownsRow base e size v n xs) (hb:Below w.heap.size w w'):w'.ownsRow base e size v n xs:=by
 obtain ⟨hl,hr⟩:=h;refine ⟨hl,?_⟩
 rcases hr with hn|⟨g,cap,cur,hv,hg,hh,rest⟩
 ·exact .inl hn
 ·exact .inr ⟨g,cap,cur,hv,hg,(hb.block g (Array.getElem?_eq_some_iff.1 hh).1).trans hh,rest⟩
theorem Rd.cap {w:World} {size n c:Nat} {A:Option Addr} {xs:List Value} (h:Rd w size (.slice A n c) n xs):n≤c∧c≤maxLen:=by
 obtain ⟨_,A',c',hv,hc,hm,_⟩:=h
 injection hv with h1 h2 h3
 subst h3;exact ⟨hc,hm⟩
def Cl (w:World) (b off:Nat) (xs:List Value):Prop:=∀ j u,xs[j]?=some u→w.cell? ⟨b,off+j,none⟩=some u
theorem Cl.keep {w w':World} {b off:Nat} {xs:List Value} (h:Cl w b off xs) (hk:∀ o,w'.cell? ⟨b,o,none⟩=w.cell? ⟨b,o,none⟩):Cl w' b off xs :=
 fun j u hj=>(hk _).trans (h j u hj)
theorem Cl.below {w w':World} {B b off:Nat} {xs:List Value} (h:Cl w b off xs) (hb:Below B w w') (hB:b<B):Cl w' b off xs :=
 h.keep fun _=>hb.cell hB
theorem Rd.elt {w:World} {m n c:Nat} {A:Option Addr} {xs:List Value} (h:Rd w m (.slice A n c) n xs) {k:Nat} (hk:k<n) :
  ∃ b off,A=some ⟨b,off,none⟩∧b<w.heap.size∧Cl w b (off+k * m) ((xs.drop (k * m)).take m):=by
 obtain ⟨b,off,hA,hb,hc⟩:=h.cellAt (by omega);refine ⟨b,off,hA,hb,fun j u hj=>?_⟩;rw [List.getElem?_take] at hj
 split at hj
 ·rw [List.getElem?_drop] at hj
  rw [Nat.add_assoc];exact hc _ u hj
 ·cases hj
section
variable {P:Program} {w:World} {ops:Array Oper} {rest:List Oper} {o:Oper} {a:Act} {Q:Exit→Act→World→Prop}
theorem cW (ty:TypeId) (d:TypeDesc) (b off:Nat) (xs:List Value) (hc:Cl w b off xs) (hu:P.underlying ty=some d)
  (hd:(match d with|.struct _|.array _ _=>true|_=>false)=true) (hi:(P.info? ty).map (·.size)=some xs.length) :
  (loadVar ty ⟨b,off,none⟩).run P w=.ok (.agg xs.toArray) w:=by
 have hl:(loadCells ⟨b,off,none⟩ xs.length).run P w=.ok xs.toArray w :=
  run_loadCells_list (P:=P) w ⟨b,off,none⟩ xs (fun j v hv=>by
   have hadd:(⟨b,off,none⟩:Addr).add j=⟨b,off+j,none⟩:=by unfold Addr.add;split <;> simp_all
   rw [hadd]
   exact hc j v hv)
 cases hq:P.info? ty with
 | none=>simp [hq] at hi
 | some i =>
  have hs:i.size=xs.length:=by simpa [hq] using hi
  have hagg:(isAgg ty).run P w=.ok true w:=by
   unfold isAgg
   rw [Sem.run_bind,run_underlying hu w]
   cases d <;> simp_all
  simp [loadVar,Sem.run_bind,hagg,sizeOf,typeInfo,hq,hs,hl]
theorem qW (w:World) (old cs:Array Value) (t:TypeId):(w.alloc (.cells old t)).setRow w.heap.size cs=w.alloc (.cells cs t):=by
 simp only [World.setRow,World.alloc]
 congr 1
 apply Array.ext_getElem?
 intro i;rw [Array.getElem?_modify]
 rcases Nat.lt_trichotomy i w.heap.size with h|h|h
 ·rw [if_neg (by omega)]
  simp [Array.getElem?_push,Nat.ne_of_lt h]
 ·subst h
  simp
 ·rw [if_neg (by omega)]
  simp [Array.getElem?_push,Nat.ne_of_gt h]
theorem eE (w:World) (g:Nat) (cs:Array Value):w.grownBy (w.setRow g cs) (some g):=by
 refine ⟨rfl,rfl,rfl,by simp,fun k hk hne=>?_⟩;simp only [World.setRow,Array.getElem?_modify];rw [if_neg (by intro e;exact hne (by rw [e]))]
theorem gR (ty:TypeId) (g:Nat) (t:TypeId) (old cs:Array Value) (hg:w.heap[g]?=some (.cells old t (0,0))) (hs:cs.size=old.size) (h1:∀ v∈cs.toList,v.oneCell'=true)
  (hi:(P.info? ty).map (·.size)=some cs.size):(storeVar ty ⟨g,0,none⟩ (.agg cs)).run P w=.ok () (w.setRow g cs):=by
 have hst:=run_storeCells_at P g 0 t cs.toList 0 old w hg (by simp;omega) h1;have hdrop:old.toList.drop (0+0+cs.toList.length)=[]:=List.drop_eq_nil_of_le (by simp;omega);rw [hdrop] at hst;simp only [Nat.add_zero,List.take_zero,List.nil_append,List.append_nil,Array.toArray_toList] at hst
 cases hq:P.info? ty with
 | none=>simp [hq] at hi
 | some i =>
  have hsz:i.size=cs.size:=by simpa [hq] using hi
  simp [storeVar,Value.cells,Sem.run_bind,sizeOf,typeInfo,hq,hsz,hst]
theorem iH (w0:World) (old:Array Value) (t:TypeId) (hgd:o.guard=none) (ty:TypeId) (p x:Operand) (ho:o.op=.store ty p x) (hp:a.eval p=vP w0.heap.size 0) (cs:Array Value)
  (hx:a.eval x=.agg cs) (hs:cs.size=old.size) (h1:∀ v∈cs.toList,v.oneCell'=true) (hi:(P.info? ty).map (·.size)=some cs.size)
  (h:wpList P ops Q rest (a.put o.dst undef) (w0.alloc (.cells cs t))):wpList P ops Q (o :: rest) a (w0.alloc (.cells old t)):=by
 refine wpList_plain hgd fun K hK=>?_;have hg:(w0.alloc (.cells old t)).heap[w0.heap.size]?=some (.cells old t (0,0)):=heap_alloc_new w0 _;have hr:=gR (P:=P) (w:=w0.alloc (.cells old t)) ty w0.heap.size t old cs hg hs h1 hi;rw [qW] at hr
 unfold Oper.wp execOp
 simp only [ho,hp,hx,Instr.storeAt,Instr.sureAddr,Sem.run_bind,Sem.run_pure,Result.andThen_ok,hr];exact hK _ _ h
theorem kV (hgd:o.guard=none) (ty:TypeId) (p x:Operand) (ho:o.op=.store ty p x) (g:Nat) (t:TypeId) (old:Array Value) (hg:w.heap[g]?=some (.cells old t (0,0)))
  (hp:a.eval p=vP g 0) (cs:Array Value)
  (hx:a.eval x=.agg cs) (hs:cs.size=old.size) (h1:∀ v∈cs.toList,v.oneCell'=true) (hi:(P.info? ty).map (·.size)=some cs.size)
  (h:∀ w',w'.heap[g]?=some (.cells cs t (0,0))→w.grownBy w' (some g)→w'.heap.size=w.heap.size→wpList P ops Q rest (a.put o.dst undef) w'):wpList P ops Q (o :: rest) a w:=by
 refine wpList_plain hgd fun K hK=>?_;have hr:=gR (P:=P) ty g t old cs hg hs h1 hi
 unfold Oper.wp execOp
 simp only [ho,hp,hx,Instr.storeAt,Instr.sureAddr,Sem.run_bind,Sem.run_pure,Result.andThen_ok,hr];exact hK _ _ (h _ (setRow_heap w g old cs t (0,0) hg) (eE w g cs) (by simp))
end
def fl {α:Type} (g:α→List Value) (l:List α):List Value:=(l.map g).flatten
theorem qL {α:Type} {g:α→List Value} {m:Nat}:∀ {l:List α},(∀ x∈l,(g x).length=m)→∀ {k:Nat} {x:α} {r:List α},l.drop k=x :: r→((fl g l).drop (k * m)).take m=g x
 | [],_,k,x,r,h=>by simp at h
 | y :: l,hm,k,x,r,h=>by
  have hy:=hm y (by simp)
  unfold fl
  cases k with
  | zero =>
   simp at h
   obtain ⟨rfl,_⟩:=h;simp only [List.map_cons,List.flatten_cons,Nat.zero_mul,List.drop_zero];rw [List.take_append_of_le_length (by omega),List.take_of_length_le (by omega)]
  | succ k =>
   simp only [List.drop_succ_cons] at h;have:=qL (l:=l) (fun z hz=>hm z (by simp [hz])) h;simp only [List.map_cons,List.flatten_cons];rw [Nat.succ_mul,List.drop_append,List.drop_of_length_le (by omega),List.nil_append,hy,Nat.add_sub_cancel];exact this
theorem nT {α:Type} {g:α→List Value} {m:Nat}:∀ {l:List α},(∀ x∈l,(g x).length=m)→(fl g l).length=l.length * m
 | [],_=>by simp [fl]
 | y :: l,hm=>by
  have:=nT (l:=l) (fun z hz=>hm z (by simp [hz]));have hy:=hm y (by simp)
  unfold fl at *
  simp only [List.map_cons,List.flatten_cons,List.length_append,List.length_cons,this,hy,Nat.succ_mul]
  omega
theorem Rd.atF {α:Type} {g:α→List Value} {w:World} {A:Option Addr} {c n m:Nat} {l:List α} (h:Rd w m (.slice A n c) n (fl g l)) (hm:∀ x∈l,(g x).length=m) (hm0:0<m) {k:Nat} (hk:k<l.length) :
  ∃ b off,∃ x:α,A=some ⟨b,off,none⟩∧b<w.heap.size∧Cl w b (off+k * m) (g x)∧x∈l∧Hid (l.drop k=x :: l.drop (k+1)):=by
 have hl:=h.1;rw [nT hm] at hl;have hn:l.length=n:=Nat.eq_of_mul_eq_mul_right hm0 hl;obtain ⟨b,off,hA,hb,hc⟩:=h.elt (k:=k) (by omega);have hd:=List.drop_eq_getElem_cons hk;rw [qL hm hd] at hc;exact ⟨b,off,l[k],hA,hb,hc,List.getElem_mem hk,hd⟩
theorem Rd.of_cl {w:World} {b off n c:Nat} {xs:List Value} (h:Cl w b off xs) (hb:b<w.heap.size) (hn:xs.length=n) (hc:n≤c) (hm:c≤maxLen):Rd w 1 (.slice (some ⟨b,off,none⟩) n c) n xs :=
 ⟨by omega,some ⟨b,off,none⟩,c,rfl,hc,hm,(fun h=>by cases h),fun _=>⟨b,off,rfl,hb,h⟩⟩
theorem cL {P:Program} {f:Operand→Value} {o:Oper} (op:BinOp) (t t':TypeId) (x y:Operand) (ho:o.op=.binOp op t x y t') (cs ds:Array Value) (hx:f x=.agg cs) (hy:f y=.agg ds)
  (hm:P.eqGuardType P.depth t=false) (v:Value) (w:World) (hr:(binOp op t (.agg cs) (.agg ds)).run P w=.ok v w):(execOp f o).run P w=.ok (.value v) w:=by
 unfold execOp
 simp only [ho,hx,hy,Sem.run_bind,run_eqGuard_agg (w:=w) op t x y cs ds hm,Result.andThen_ok,hr,Sem.run_pure]
theorem yI {P:Program} {w:World} {ops:Array Oper} {rest:List Oper} {o:Oper} {a:Act} {Q:Exit→Act→World→Prop} (hgd:o.guard=none) (v:Value) (hq:(execOp a.eval o).run P w=.ok (.value v) w)
  (h:wpList P ops Q rest (a.put o.dst v) w):wpList P ops Q (o :: rest) a w:=by
 refine wpList_plain hgd fun K hK=>?_
 unfold Oper.wp
 rw [hq];exact hK _ _ h
def Blk (w:World) (g:Nat) (t:TypeId) (xs:List Value):Prop:=w.heap[g]?=some (.cells xs.toArray t (0,0))
section
variable {w w':World} {g:Nat} {t:TypeId} {xs:List Value}
theorem Blk.lt (h:Blk w g t xs):g<w.heap.size:=(Array.getElem?_eq_some_iff.1 h).1
theorem Blk.cell (h:Blk w g t xs) {j:Nat} {u:Value} (hj:xs[j]?=some u):w.cell? ⟨g,j,none⟩=some u:=by
 rw [cell_of_row _ _ _ _ _ _ h]
 simpa using hj
theorem Blk.free (h:Blk w g t xs) (j:Nat):w.frozen? ⟨g,j,none⟩=false:=by simp [World.frozen?,show w.heap[g]?=_ from h]
theorem Blk.cl (h:Blk w g t xs):Cl w g 0 xs:=fun j u hj=>by rw [Nat.zero_add];exact h.cell hj
theorem Blk.set (h:Blk w g t xs) (j:Nat) (v:Value):Blk (w.setCell ⟨g,j,none⟩ v) g t (xs.set j v):=by
 unfold Blk
 rw [Go.Joins.block_setCell (i:=j) h v]
 simp
theorem Blk.other (h:Blk w g t xs) (a:Addr) (v:Value) (hne:g≠a.block):Blk (w.setCell a v) g t xs:=by
 unfold Blk
 rw [Go.Deep.blk_setCell_other w a v g hne];exact h
theorem Blk.below {B:Nat} (h:Blk w g t xs) (hb:Below B w w') (hg:g<B):Blk w' g t xs:=(hb.block g hg).trans h
theorem Blk.drew (h:Blk w g t xs):Blk w.drew g t xs:=h
theorem Blk.new {cs:Array Value} (h:cs=xs.toArray):Blk (w.alloc (.cells cs t)) w.heap.size t xs:=by
 subst h;exact heap_alloc_new w _
end
theorem jC {w w':World} {g k:Nat} (h:w.grownBy w' (some g)) (hk:k<w.heap.size) (hne:k≠g):w'.heap[k]?=w.heap[k]?:=by
 obtain ⟨_,_,_,_,h5⟩:=h;exact h5 k hk (by simpa using hne)
theorem qB {P:Program} {w:World} {ops:Array Oper} {rest:List Oper} {o:Oper} {a:Act} {Q:Exit→Act→World→Prop} (hgd:o.guard=none) (ty:TypeId) (p x:Operand) (ho:o.op=.store ty p x) (g:Nat) (t:TypeId) (xs:List Value) (hB:Blk w g t xs)
  (hp:a.eval p=vP g 0) (ys:List Value) (hx:a.eval x=.agg ys.toArray) (hl:ys.length=xs.length) (h1:∀ v∈ys,v.oneCell'=true) (hi:(P.info? ty).map (·.size)=some ys.length)
  (h:∀ w',Blk w' g t ys→(∀ g' t' zs,g'≠g→Blk w g' t' zs→Blk w' g' t' zs)→(∀ B W,Below B W w→B≤g→Below B W w')→w'.heap.size=w.heap.size→wpList P ops Q rest (a.put o.dst undef) w') :
  wpList P ops Q (o :: rest) a w:=by
 refine kV hgd ty p x ho g t xs.toArray hB hp ys.toArray hx (by simpa using hl) (by simpa using h1) (by simpa using hi) ?_;intro w' h2 h3 h4;refine h w' h2 (fun g' t' zs hne hz=>?_) (fun B W hb hg=>?_) h4
 ·exact (jC h3 hz.lt hne).trans hz
 ·exact hb.grown h3 (by have:=hB.lt;omega) (fun k hk=>by simp at hk;omega)
def Since (w w':World):Prop:=Below w.heap.size w w'
theorem Since.next {w X w':World} (h:Since w X) (hb:Below X.heap.size X w'):Since w w':=Below.trans h (Below.mono hb h.size)
section
variable {P:Program} {ops:Array Oper} {w:World} {Q:Act→Prop} {a:Act} {o:Oper} {rest:List Oper}
end
theorem tZ {P:Program} (w:World) (src dst e:TypeId) (hs:P.underlying src=some .string) (hd:P.underlying dst=some (.slice e)) (he:P.underlying e=some (.int .u8)) (l:List UInt8) (hl:l.length≤140737488355328) :
  ∃ c w1,(convert src dst (vS l)).run P w=.ok (.slice (some ⟨w.heap.size,0,none⟩) l.length c) w1∧Rd w1 1 (.slice (some ⟨w.heap.size,0,none⟩) l.length c) l.length (l.map B8)∧Below w.heap.size w w1:=by
 have hsz:(⟨l.toArray⟩:ByteArray).size=l.length:=by simp [ByteArray.size]
 have hr:=Lib.run_convert_string_bytes (P:=P) w src dst e ⟨l.toArray⟩ hs hd he;rw [hsz] at hr;refine ⟨_,_,hr,⟨by simp,_,_,rfl,grownCap_ge _ _ _ _,grownCap_le_maxLen _ _ _ _ (by unfold maxLen;omega),(fun h=>by cases h),fun hn=>⟨w.heap.size,0,rfl,by rw [Lib.bytesWorld_size];omega,fun j u hj=>?_⟩⟩,?_⟩
 ·rw [List.getElem?_map] at hj
  obtain ⟨b,hb,rfl⟩:=Option.map_eq_some_iff.1 hj;have hjl:j<l.length:=(List.getElem?_eq_some_iff.1 hb).1;rw [Nat.zero_add,Lib.bytesWorld_cell w e ⟨l.toArray⟩ j (by rw [hsz];exact hjl)]
  simp [List.getD,hb,B8]
 ·exact ⟨rfl,rfl,rfl,by rw [Lib.bytesWorld_size];omega,fun k hk=>Lib.bytesWorld_at_old w e _ k hk⟩
theorem Rd.pre {w:World} {n c:Nat} {A:Option Addr} {xs:List Value} (h:Rd w 1 (.slice A n c) n xs) {k:Nat} (hk:k≤n):Rd w 1 (.slice A k c) k (xs.take k):=by
 obtain ⟨hl,A',c',hv,hc,hm,hz,hr⟩:=h
 injection hv with h1 h2 h3
 subst h1 h3;refine ⟨by simp;omega,A,c,rfl,by omega,hm,hz,fun hn=>?_⟩;obtain ⟨b,off,hA,hb,hx⟩:=hr (by omega);refine ⟨b,off,hA,hb,fun j u hj=>?_⟩;rw [List.getElem?_take] at hj
 split at hj
 ·exact hx j u hj
 ·cases hj
end Go.Proofs.YtffgfkcljcollaaGreatDoor

/- kernel: Route, words. -/
import Derived.Test.YtnfpenhldlfafaaGreatDoorRk
import Derived.Test.YtnfpenhldlfafaaGreatDoorPl31b
import Derived.Test.YtnfpenhldlfafaaGreatDoorRw
import Derived.Test.YtnfpenhldlfafaaGreatDoorRf
set_option linter.unusedSimpArgs false
set_option linter.unusedVariables false
set_option maxRecDepth 100000
set_option maxHeartbeats 1600000
namespace Go.Proofs.YtnfpenhldlfafaaGreatDoor
open Go.RowKit
theorem zZ:(Tryz.prog.info? 3).map (·.size)=some 1:=by kernel_rfl
abbrev I64:Int→Value:=Value.int .i64
theorem wtIn {w:World} {A:Option Addr} {n c:Nat} {l:List Int} (h:Rd w 1 (.slice A n c) n (l.map I64)) (hl:l.length=n) {k:Nat} (hk:k<n):∃ b off,A=some ⟨b,off,none⟩∧b<w.heap.size∧Cl w b (off+k * 1) [vI (wt l k)]:=by
 obtain ⟨b,off,hA,hb,hx⟩:=h.cellAt (by omega);refine ⟨b,off,hA,hb,fun j u hj=>?_⟩
 have hj0:j=0:=by
  have:=(List.getElem?_eq_some_iff.1 hj).1
  simp at this
  omega
 subst hj0
 have h9:(l.map I64)[k]?=some (vI (wt l k)):=by
  rw [List.getElem?_map,List.getElem?_eq_getElem (by omega),vY (by omega)]
  rfl
 have h8:=hx k _ h9
 have h7:u=vI (wt l k):=by simpa using hj.symm
 subst h7;rw [Nat.mul_one,Nat.add_zero];exact h8
def Ks (l:List Int) (v:Value) (X:World):Prop:=∃ A c,v=.slice A l.length c∧Rd X 1 (.slice A l.length c) l.length (l.map I64)
theorem Ks.lasts (l:List Int):dJ (Ks l):=by
 rintro v X Y ⟨A,c,hv,hr⟩ hS
 exact ⟨A,c,hv,hr.below hS⟩
theorem Ks.at {l:List Int} {v:Value} {w:World} (h:Ks l v w):∃ A n c,v=.slice A n c∧l.length=n∧n≤9223372036854775807∧Rd w 1 (.slice A n c) n (l.map I64):=by
 obtain ⟨A,c,hv,hr⟩:=h;have hr9:=hr;obtain ⟨hl,A2,c2,h2,hc,hm,hx⟩:=hr9;refine ⟨A,l.length,c,hv,rfl,?_,hr⟩
 injection h2 with _ _ h3
 subst h3
 unfold maxLen at hm
 omega
theorem Kok.all {l:List Int} (h:Kok l):∀ k,k<l.length→okk l k:=fun k _=>⟨h.pos k,Int.le_trans (h.wle k) h.le⟩
def Km (l:List Int) (B:Nat) (v:Value) (X:World):Prop:=∃ g,v=.slice (some ⟨g,0,none⟩) l.length l.length∧B≤g∧l.length≤1073741824∧Blk X g 3 (l.map I64)
theorem Km.low {l:List Int} {B C:Nat} {v:Value} {X:World} (h:Km l B v X) (hC:C≤B):Km l C v X:=by
 obtain ⟨g,h1,h2,h4,h3⟩:=h;exact ⟨g,h1,by omega,h4,h3⟩
theorem Ks.of_blk {l:List Int} {g:Nat} {X:World} (h3:Blk X g 3 (l.map I64)) (h4:l.length≤1073741824):Ks l (.slice (some ⟨g,0,none⟩) l.length l.length) X :=
 ⟨_,_,rfl,Rd.of_cl h3.cl h3.lt (by rw [List.length_map]) (Nat.le_refl _) (by unfold maxLen;omega)⟩
def mk (l:List Int) (k:Nat):Rat:=sm k fun i=>((i:Int):Rat) * rk (wt l i) (tot l)
def rc (x:Rat):List Value:=trc (tr x)
theorem eD (x:Rat):(rc x).length=3:=rfl
def yq (l:List Rat) (k:Nat):Rat:=l.getD k 0
theorem qVw {l:List Rat} {k:Nat} (h:l.length≤k):yq l k=0:=by
 unfold yq
 rw [List.getD_eq_getElem?_getD,List.getElem?_eq_none h]
 rfl
theorem qC {l:List Rat} {k:Nat} (h:k<l.length):yq l k=l[k]:=by
 unfold yq
 rw [List.getD_eq_getElem?_getD,List.getElem?_eq_getElem h]
 rfl
theorem vW {a b:List Rat} (hl:a.length=b.length) (h:∀ k,k<a.length→yq a k=yq b k):a=b:=by
 refine List.ext_getElem hl fun k h1 h2=>?_;rw [← qC h1,← qC h2];exact h k h1
theorem vV {n k:Nat} (f:Nat→Rat) (h:k<n):yq ((List.range n).map f) k=f k:=by
 rw [qC (by simpa using h)]
 simp
theorem qVv {l:List Rat} {k j:Nat} {x:Rat} (hk:k<l.length):yq (l.set k x) j=if j=k then x else yq l j:=by
 unfold yq
 rw [List.getD_eq_getElem?_getD,List.getD_eq_getElem?_getD,List.getElem?_set]
 by_cases h:k=j
 ·subst h
  rw [if_pos rfl,if_pos rfl,if_pos hk]
  rfl
 ·rw [if_neg h,if_neg (fun h9=>h h9.symm)]
theorem uE {α:Type} {g:α→List Value} {m:Nat}:∀ {l:List α},(∀ x∈l,(g x).length=m)→∀ k,(fl g l).drop (k * m)=fl g (l.drop k)
 | [],_,k=>by simp [fl]
 | x :: l,h,0=>by simp
 | x :: l,h,k+1=>by
  have hx:=h x List.mem_cons_self;have ih:=uE (l:=l) (fun y hy=>h y (List.mem_cons_of_mem _ hy)) k
  show (g x++fl g l).drop ((k+1) * m)=fl g (l.drop k)
  rw [← ih,Nat.succ_mul,Nat.add_comm (k * m) m,← List.drop_drop,show (g x++fl g l).drop m=fl g l by rw [← hx];exact List.drop_left]
theorem uC {α:Type} {g:α→List Value} {m:Nat}:∀ {l:List α},(∀ x∈l,(g x).length=m)→∀ k,(fl g l).take (k * m)=fl g (l.take k)
 | [],_,k=>by simp [fl]
 | x :: l,h,0=>by simp [fl]
 | x :: l,h,k+1=>by
  have hx:=h x List.mem_cons_self;have ih:=uC (l:=l) (fun y hy=>h y (List.mem_cons_of_mem _ hy)) k
  show (g x++fl g l).take ((k+1) * m)=g x++fl g (l.take k)
  rw [← ih,Nat.succ_mul,Nat.add_comm (k * m) m,List.take_append,hx,List.take_of_length_le (by omega),Nat.add_sub_cancel_left]
theorem pP {α:Type} {g:α→List Value} (a b:List α):fl g (a++b)=fl g a++fl g b:=by
 unfold fl
 rw [List.map_append,List.flatten_append]
theorem pO {α:Type} {g:α→List Value} {m:Nat} (hm:∀ x,(g x).length=m) {l:List α} {k:Nat} (hk:k<l.length) (x:α):(fl g l).take (k * m)++g x++(fl g l).drop (k * m+m)=fl g (l.set k x):=by
 have h1:l.set k x=l.take k++([x]++l.drop (k+1)):=by
  rw [List.set_eq_take_append_cons_drop,if_pos hk]
  rfl
 rw [h1,pP,pP,uC (fun y _=>hm y),show k * m+m=(k+1) * m by rw [Nat.succ_mul],uE (fun y _=>hm y),List.append_assoc]
 congr 1
 congr 1
 simp [fl]
theorem yB {α:Type} {g:α→List Value} {m:Nat} {x:α} (hx:(g x).length=m) (hm:0<m):∀ (n j:Nat),j<n * m→(fl g (List.replicate n x))[j]?=(g x)[j % m]?
 | 0,j,h=>by omega
 | n+1,j,h=>by
  show (g x++fl g (List.replicate n x))[j]?=_
  rcases Nat.lt_or_ge j m with h1|h1
  ·rw [List.getElem?_append_left (by omega),Nat.mod_eq_of_lt h1]
  ·rw [List.getElem?_append_right (by omega),hx,yB hx hm n (j-m) (by rw [Nat.succ_mul] at h;omega)]
   congr 1
   rw [Nat.mod_eq_sub_mod h1]
theorem iZ (l:List Rat):(fl rc l).length=l.length * 3:=jR (fun x _=>eD x)
theorem Cl.part {w:World} {b off:Nat} {cs:List Value} (h:Cl w b off cs) (d:Nat) (xs:List Value) (hs:(cs.drop d).take xs.length=xs):Cl w b (off+d) xs:=fun j u hj=>by
 have hl:j<xs.length:=(List.getElem?_eq_some_iff.1 hj).1;rw [← hs,List.getElem?_take_of_lt hl,List.getElem?_drop] at hj;rw [Nat.add_assoc];exact h (d+j) u hj
theorem qZi {l:List Rat} {g k:Nat} {X:World} (h:Blk X g 23 (fl rc l)) (hk:k<l.length):Cl X g (0+k * 3) (rc (yq l k)):=by
 have h1:=lE (g:=rc) (m:=3) (l:=l) (fun x _=>eD x) (List.drop_eq_getElem_cons hk);rw [← qC hk] at h1;exact Cl.part h.cl (k * 3) _ (by rw [eD];exact h1)
theorem cZ {P:Program} {w:World} {ops:Array Oper} {rest:List Oper} {o:Oper} {a:Act} {Q:Exit→Act→World→Prop} (hgd:o.guard=none) (ty:TypeId) (p x:Operand) (ho:o.op=.store ty p x) (g:Nat) (t:TypeId) (xs:List Value) (hB:Blk w g t xs) (k:Nat)
  (hp:a.eval p=vP g k) (ys:List Value) (hx:a.eval x=.agg ys.toArray) (hl:k+ys.length≤xs.length) (h1:∀ v∈ys,v.oneCell'=true) (hi:(P.info? ty).map (·.size)=some ys.length)
  (h:∀ w',Blk w' g t (xs.take k++ys++xs.drop (k+ys.length))→w.grownBy w' (some g)→w'.heap.size=w.heap.size→wpList P ops Q rest (a.put o.dst undef) w'):wpList P ops Q (o :: rest) a w:=by
 refine wpList_plain hgd fun K hK=>?_;have hst:=run_storeCells_at P g k t ys 0 xs.toArray w hB (by simpa using hl) h1
 have hr:(storeVar ty ⟨g,k,none⟩ (.agg ys.toArray)).run P w=.ok () (w.setRow g (xs.take k++ys++xs.drop (k+ys.length)).toArray):=by
  cases hq:P.info? ty with
  | none=>simp [hq] at hi
  | some i =>
   have hsz:i.size=ys.length:=by simpa [hq] using hi
   simp only [Nat.add_zero] at hst
   simp [storeVar,Value.cells,Sem.run_bind,sizeOf,typeInfo,hq,hsz,hst]
 unfold Oper.wp execOp
 simp only [ho,hp,hx,Instr.storeAt,Instr.sureAddr,Sem.run_bind,Sem.run_pure,Result.andThen_ok,hr];exact hK _ _ (h _ (setRow_heap w g xs.toArray _ t (0,0) hB) (dQ w g _) (by simp))
theorem lL {w:World} {ops:Array Oper} {rest:List Oper} {o:Oper} {a:Act} {Q:Exit→Act→World→Prop} (hgd:o.guard=none) (p x:Operand) (ho:o.op=.store 23 p x) (g:Nat) (l:List Rat) (hB:Blk w g 23 (fl rc l)) (k:Nat) (hk:k<l.length)
  (hp:a.eval p=vP g (0+k * 3)) (y:Rat) (hx:a.eval x=rbv y)
  (h:∀ w',Blk w' g 23 (fl rc (l.set k y))→w.grownBy w' (some g)→wpList Tryz.prog ops Q rest (a.put o.dst undef) w'):wpList Tryz.prog ops Q (o :: rest) a w:=by
 refine cZ hgd 23 p x ho g 23 (fl rc l) hB (k * 3) (by rw [hp,Nat.zero_add]) (rc y) hx (by rw [iZ,eD];omega) (by
  intro u hu;simp only [rc,trc,List.mem_cons,List.not_mem_nil,or_false] at hu
  rcases hu with rfl|rfl|rfl <;> rfl) (by rw [eD];exact aB) fun w' h2 h3 _=>h w' ?_ h3
 have h4:=pO eD hk y;rw [eD] at h2
 rwa [h4] at h2
def Rm (l:List Rat) (B:Nat) (v:Value) (X:World):Prop:=∃ g,v=.slice (some ⟨g,0,none⟩) l.length l.length∧B≤g∧l.length≤1000000∧Blk X g 23 (fl rc l)
theorem Rm.lasts (l:List Rat) (B:Nat):dJ (Rm l B):=by
 rintro v X Y ⟨g,h1,h2,h4,h3⟩ hS
 exact ⟨g,h1,h2,h4,h3.bel hS⟩
theorem sX {f:Operand→Value} {o:Oper} (x y:Operand) (ho:o.op=.makeSlice 27 x y) (n B:Nat) {z:Int} (hx:f x=vI z) (hy:f y=vI z) (hz:z=(n:Int)) (hn:n≤1000000) (X:World) (hB:B≤X.heap.size) :
  ∃ v X',(execOp f o).run Tryz.prog X=.ok (.value v) X'∧Rm (List.replicate n 0) B v X'∧Since X X':=by
 subst hz;obtain ⟨i,hi,hz0,hsz,hby⟩:=info_parts (show (Tryz.prog.info? 23).map (fun i=>(i.zero,i.size,i.bytes))=some (some (.agg #[.bool false,.string ⟨#[]⟩,.string ⟨#[]⟩]),3,40) by kernel_rfl);have hr:=run_make (P:=Tryz.prog) X 27 23 i (.agg #[.bool false,.string ⟨#[]⟩,.string ⟨#[]⟩]) Tryz.underlying27 hi hz0 .i64 .i64 n n (by omega) (by omega) (by rw [hby];omega) (by omega);simp only [Int.toNat_natCast,hsz] at hr;refine ⟨_,X.alloc (.cells (madeCells (Value.agg #[.bool false,.string ⟨#[]⟩,.string ⟨#[]⟩]).cells (n * 3)) 23),?_,⟨X.heap.size,by rw [List.length_replicate],hB,by rw [List.length_replicate];exact hn,?_⟩,(Below.refl X.heap.size X).alloc (Nat.le_refl _) _⟩
 ·unfold execOp
  simp only [ho,hx,hy,Sem.run_bind,hr,Result.andThen_ok,Sem.run_pure]
 ·refine Blk.new ?_
  refine Array.ext' ?_;refine List.ext_getElem? fun j=>?_;have h0:rc 0=[.bool false,.string ⟨#[]⟩,.string ⟨#[]⟩]:=rfl
  rcases Nat.lt_or_ge j (n * 3) with h1|h1
  ·show _=(fl rc (List.replicate n 0))[j]?
   rw [yB (eD 0) (by decide) n j h1,h0];have h2:j % 3<3:=Nat.mod_lt _ (by decide)
   simp [madeCells,Value.cells,h1]
   rcases (show j % 3=0∨j % 3=1∨j % 3=2 by omega) with h3|h3|h3 <;> simp [h3]
  ·rw [List.getElem?_eq_none (by simpa [size_madeCells] using h1),List.getElem?_eq_none (by rw [iZ,List.length_replicate];exact h1)]
def xt (xs:List Tr) (k:Nat):Tr:=xs.getD k (false,[],[])
theorem mB {xs:List Tr} {k:Nat} (h:k<xs.length):xt xs k=xs[k]:=by
 unfold xt
 rw [List.getD_eq_getElem?_getD,List.getElem?_eq_getElem h]
 rfl
theorem Rl.at {xs:List Tr} {v:Value} {w:World} (h:Rl xs v w):∃ A n c,v=.slice A n c∧xs.length=n∧n≤9223372036854775807∧Rd w 3 (.slice A n c) n (fl trc xs):=by
 have h9:Rd w 3 v xs.length (fl trc xs):=h;have h8:=h9;obtain ⟨hl,A,c,h2,hc,hm,hx⟩:=h9;subst h2;refine ⟨A,xs.length,c,rfl,rfl,?_,h8⟩
 unfold maxLen at hm
 omega
end Go.Proofs.YtnfpenhldlfafaaGreatDoor

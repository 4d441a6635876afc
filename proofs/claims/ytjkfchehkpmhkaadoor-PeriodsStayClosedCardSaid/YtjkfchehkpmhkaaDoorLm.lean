/- Drawn regions with several stores into one block of the call -/
import Derived.Test.YtjkfchehkpmhkaaDoorRw2
import Derived.Test.YtjkfchehkpmhkaaDoorKe
set_option linter.unusedSimpArgs false
set_option linter.unusedVariables false
set_option maxRecDepth 100000
set_option maxHeartbeats 1600000
namespace Go.Proofs.YtjkfchehkpmhkaaDoor
open Go.RowKit
def Tm (g:Nat) (t:TypeId) (ys:List Value) (X Y:World):Prop :=
 X.grownBy Y (some g)∧∀ zs,Blk X g t zs→zs.length=ys.length→∃ us,Blk Y g t us∧us.length=ys.length∧∀ j:Nat,us[j]?=zs[j]?∨us[j]?=ys[j]?
def Tq (g:Nat) (t:TypeId) (ys:List Value) (a b:Nat) (X:World):Prop:=∃ zs,Blk X g t zs∧zs.length=ys.length∧∀ j:Nat,a≤j→j<b→zs[j]?=ys[j]?
theorem Tm.trans {g:Nat} {t:TypeId} {ys:List Value} {X Y Z:World} (h:Tm g t ys X Y) (h':Tm g t ys Y Z):Tm g t ys X Z:=by
 obtain ⟨a1,a2⟩:=h;obtain ⟨b1,b2⟩:=h';refine ⟨⟨b1.os.trans a1.os,b1.tape.trans a1.tape,b1.output.trans a1.output,Nat.le_trans a1.size b1.size,fun k hk hne=>(b1.block k (Nat.lt_of_lt_of_le hk a1.size) hne).trans (a1.block k hk hne)⟩,fun zs hz hl=>?_⟩;obtain ⟨us,hu,hul,hc⟩:=a2 zs hz hl;obtain ⟨vs,hv,hvl,hd⟩:=b2 us hu hul;refine ⟨vs,hv,hvl,fun j=>?_⟩
 rcases hd j with h9|h9
 ·rw [h9]
  exact hc j
 ·exact .inr h9
theorem Tm.drew (g:Nat) (t:TypeId) (ys:List Value) (X:World):Tm g t ys X X.drew:=⟨⟨rfl,rfl,rfl,Nat.le_refl _,fun _ _ _=>rfl⟩,fun zs hz hl=>⟨zs,hz,hl,fun _=>.inl rfl⟩⟩
theorem Tm.of_since {g:Nat} {t:TypeId} {ys:List Value} {X Y:World} (h:Since X Y):Tm g t ys X Y :=
 ⟨⟨h.os,h.tape,h.output,h.size,fun k hk _=>h.block k hk⟩,fun zs hz hl=>⟨zs,hz.bel h,hl,fun _=>.inl rfl⟩⟩
theorem Tm.below {g:Nat} {t:TypeId} {ys:List Value} {B:Nat} {W X Y:World} (h:Tm g t ys X Y) (hb:Below B W X) (hB:B≤X.heap.size) (hg:B≤g):Below B W Y :=
 hb.grown h.1 hB (fun k hk=>by simp at hk;omega)
theorem Tm.blk {g g':Nat} {t t':TypeId} {ys zs:List Value} {X Y:World} (h:Tm g t ys X Y) (hz:Blk X g' t' zs) (hne:g'≠g):Blk Y g' t' zs:=(eQ h.1 hz.lt hne).trans hz
theorem tI {X:World} {g:Nat} {t:TypeId} {us vs:List Value} (h:Blk X g t us) (h':Blk X g t vs):us=vs:=by
 have h9:some (Obj.cells us.toArray t (0,0))=some (Obj.cells vs.toArray t (0,0)):=Eq.trans (Eq.symm h) h'
 injection h9 with h9
 injection h9 with h9
 simpa using h9
theorem Tq.lasts {g:Nat} {t:TypeId} {ys:List Value} {a b:Nat} {X Y:World} (h:Tq g t ys a b X) (hT:Tm g t ys X Y):Tq g t ys a b Y:=by
 obtain ⟨zs,hz,hl,hc⟩:=h;obtain ⟨us,hu,hul,hd⟩:=hT.2 zs hz hl;refine ⟨us,hu,hul,fun j h1 h2=>?_⟩
 rcases hd j with h9|h9
 ·rw [h9]
  exact hc j h1 h2
 ·exact h9
def Tls (g:Nat) (t:TypeId) (ys:List Value) (ss:List cB):Prop:=∀ S,some S∈ss→∀ v X Y,S v X→Tm g t ys X Y→S v Y
theorem vYi {g:Nat} {t:TypeId} {ys:List Value}:Tls g t ys []:=fun _ h=>by cases h
theorem fN {g:Nat} {t:TypeId} {ys:List Value} {ss:List cB} (h:Tls g t ys ss):Tls g t ys (none :: ss):=fun S hS=>by
 rcases List.mem_cons.1 hS with h9|h9
 ·cases h9
 ·exact h S h9
theorem rX {g:Nat} {t:TypeId} {ys:List Value} {a b:Nat} {ss:List cB} (h:Tls g t ys ss):Tls g t ys (some (fun _ X=>Tq g t ys a b X) :: ss):=fun S hS=>by
 rcases List.mem_cons.1 hS with h9|h9
 ·injection h9 with h9
  subst h9
  exact fun _ _ _ h h'=>h.lasts h'
 ·exact h S h9
theorem Tm.done {g:Nat} {t:TypeId} {xs ys:List Value} {w X:World} (h:Tm g t ys w X) (hB:Blk w g t xs) (hl:xs.length=ys.length) (L:List (Nat×Nat)) (hL:∀ p∈L,Tq g t ys p.1 p.2 X) (ho:∀ j:Nat,j<ys.length→(∃ p∈L,p.1≤j∧j<p.2)∨xs[j]?=ys[j]?):Blk X g t ys:=by
 obtain ⟨us,hu,hul,hd⟩:=h.2 xs hB hl
 have he:us=ys:=by
  refine List.ext_getElem? fun j=>?_
  rcases Nat.lt_or_ge j ys.length with h9|h9
  ·rcases ho j h9 with ⟨p,hp,h1,h2⟩|h1
   ·obtain ⟨zs,hz,hzl,hc⟩:=hL p hp
    rw [tI hu hz];exact hc j h1 h2
   ·rcases hd j with h2|h2
    ·rw [h2,h1]
    ·exact h2
  ·rw [List.getElem?_eq_none (by omega),List.getElem?_eq_none h9]
 rw [← he];exact hu
section
variable {P:Program} {l:List Oper} {ops:Array Oper} {w:World} {Q:Act→World→Prop} {pre:Nat→Nat→Bool} {a:Act} {k:Nat} {o:Oper} {rest:List (Nat×Oper×cB)} {Fs:List (Nat×(World→Prop))}
theorem zW {id:Nat} {Q':Exit→Act→World→Prop} (g:Nat) (t:TypeId) (ys:List Value) (ss:List cB) (hm:P.follows .mixedOrders=true) (hB:lxB l=true)
  (hst:Tls g t ys ss) (h:bQ P l.toArray (Tm g t ys) w (wpList P l.toArray Q' []) (inB (clo l)) (its 0 l ss) [] a):(Code.region id l.toArray true).wp P Q' a w :=
 kO ss hm hB (Tm.drew g t ys w) (fun _ _ h h'=>h.trans h') hst h.out
theorem uN {g:Nat} {t:TypeId} {xs ys:List Value} (hw:Region.wanted o (yielded ops a.tmps)=true) (hdst:o.dst=none) (j:Nat) (v:Value) (hB:Blk w g t xs) (hl:xs.length=ys.length) (hv:ys[j]?=some v)
  (hr:∀ (X:World) (u:Value),X.cell? ⟨g,j,none⟩=some u→X.frozen? ⟨g,j,none⟩=false→(execOp a.eval o).run P X=.ok .skip (X.setCell ⟨g,j,none⟩ v))
  (h:bQ P ops (Tm g t ys) w Q pre rest ((k,fun X=>Tq g t ys j (j+1) X) :: Fs) a):bQ P ops (Tm g t ys) w Q pre ((k,o,some (fun _ X=>Tq g t ys j (j+1) X)) :: rest) Fs a:=by
 refine ⟨?_⟩
 unfold CertR
 rw [if_pos hw];refine ⟨fun X hX _=>?_,fun _=>by rw [hdst];exact h.out⟩;obtain ⟨us,hu,hul,_⟩:=hX.2 xs hB hl
 have hj:j<us.length:=by rw [hul];exact (List.getElem?_eq_some_iff.1 hv).1
 unfold dH
 rw [hr X _ (hu.cell (List.getElem?_eq_getElem hj)) (hu.free j)];have h9:=hu.set j v;refine ⟨⟨us.set j v,h9,by rw [List.length_set,hul],fun i h1 h2=>?_⟩,iH X g j v,fun zs hz hzl=>⟨us.set j v,h9,by rw [List.length_set,hul],fun i=>?_⟩⟩
 ·obtain rfl:i=j:=by omega
  rw [List.getElem?_set_self hj,hv]
 ·rw [tI hz hu]
  by_cases hi:j=i
  ·subst hi
   rw [List.getElem?_set_self hj];exact .inr hv.symm
  ·rw [List.getElem?_set_ne hi]
   exact .inl rfl
theorem zV {g:Nat} {t:TypeId} {xs ys:List Value} (hw:Region.wanted o (yielded ops a.tmps)=true) (ty:TypeId) (x y:Operand) (ho:o.op=.store ty x y) (hdst:o.dst=none) (j m:Nat) (vs:List Value) (hx:a.eval x=vP g j) (hy:a.eval y=.agg vs.toArray)
  (hB:Blk w g t xs) (hl:xs.length=ys.length) (hm:vs.length=m) (hjm:j+m≤ys.length) (hv:∀ i:Nat,i<m→ys[j+i]?=vs[i]?) (h1:∀ v∈vs,v.oneCell'=true) (hi:(P.info? ty).map (·.size)=some vs.length)
  (h:bQ P ops (Tm g t ys) w Q pre rest ((k,fun X=>Tq g t ys j (j+m) X) :: Fs) a):bQ P ops (Tm g t ys) w Q pre ((k,o,some (fun _ X=>Tq g t ys j (j+m) X)) :: rest) Fs a:=by
 refine ⟨?_⟩
 unfold CertR
 rw [if_pos hw];refine ⟨fun X hX _=>?_,fun _=>by rw [hdst];exact h.out⟩;obtain ⟨us,hu,hul,_⟩:=hX.2 xs hB hl;have hst:=run_storeCells_at P g j t vs 0 us.toArray X hu (by simpa using (by omega:j+vs.length≤us.length)) h1
 have hr:(storeVar ty ⟨g,j,none⟩ (.agg vs.toArray)).run P X=.ok () (X.setRow g (us.take j++vs++us.drop (j+vs.length)).toArray):=by
  cases hq:P.info? ty with
  | none=>simp [hq] at hi
  | some i =>
   have hsz:i.size=vs.length:=by simpa [hq] using hi
   simp only [Nat.add_zero] at hst
   simp [storeVar,Value.cells,Sem.run_bind,sizeOf,typeInfo,hq,hsz,hst]
 obtain ⟨R,hR⟩:∃ R,R=us.take j++vs++us.drop (j+vs.length):=⟨_,rfl⟩;rw [← hR] at hr;have h9:Blk (X.setRow g R.toArray) g t R:=setRow_heap X g us.toArray R.toArray t (0,0) hu
 have htl:(us.take j).length=j:=by rw [List.length_take];omega
 have hRl:R.length=ys.length:=by rw [hR,List.length_append,List.length_append,htl,List.length_drop];omega
 have hin:∀ i:Nat,j≤i→i<j+m→R[i]?=ys[i]?:=fun i h1 h2=>by
  rw [hR,List.getElem?_append_left (by rw [List.length_append,htl];omega),List.getElem?_append_right (by omega),htl,← hv (i-j) (by omega),show j+(i-j)=i by omega]
 have hout:∀ i:Nat,(i<j∨j+m≤i)→R[i]?=us[i]?:=fun i h1=>by
  rw [hR]
  rcases h1 with h1|h1
  ·rw [List.getElem?_append_left (by rw [List.length_append,htl];omega),List.getElem?_append_left (by omega),List.getElem?_take_of_lt h1]
  ·rw [List.getElem?_append_right (by rw [List.length_append,htl];omega),List.length_append,htl,List.getElem?_drop,show j+vs.length+(i-(j+vs.length))=i by omega]
 unfold dH execOp
 simp only [ho,hx,hy,Instr.storeAt,Instr.sureAddr,Sem.run_bind,Sem.run_pure,Result.andThen_ok,hr];refine ⟨⟨R,h9,hRl,hin⟩,dU X g _,fun zs hz hzl=>⟨R,h9,hRl,fun i=>?_⟩⟩;rw [tI hz hu]
 by_cases hc:j≤i∧i<j+m
 ·exact .inr (hin i hc.1 hc.2)
 ·exact .inl (hout i (by omega))
end
end Go.Proofs.YtjkfchehkpmhkaaDoor

/- account: Trace. -/
import Derived.WalkSpells
import Derived.Lib.SliceRun
import Derived.Test.YtjkfchehkpmhkaaGreatDoorLp
import Derived.Test.YtjkfchehkpmhkaaGreatDoorME
import Derived.Test.YtjkfchehkpmhkaaGreatDoorKe
import Derived.Test.YtjkfchehkpmhkaaGreatDoorLlz
import Derived.Test.YtjkfchehkpmhkaaGreatDoorAe
import Derived.Test.YtjkfchehkpmhkaaGreatDoorRf
import Derived.Test.YtjkfchehkpmhkaaGreatDoorRw2
set_option linter.unusedSimpArgs false
set_option linter.unusedVariables false
set_option maxRecDepth 100000
set_option maxHeartbeats 1600000
namespace Go.Proofs.YtjkfchehkpmhkaaGreatDoor
open Go.RowKit
def Tm (g:Nat) (t:TypeId) (ys:List Value) (X Y:World):Prop :=
 X.grownBy Y (some g)∧∀ zs,Blk X g t zs→zs.length=ys.length→∃ us,Blk Y g t us∧us.length=ys.length∧∀ j:Nat,us[j]?=zs[j]?∨us[j]?=ys[j]?
def Tq (g:Nat) (t:TypeId) (ys:List Value) (a b:Nat) (X:World):Prop:=∃ zs,Blk X g t zs∧zs.length=ys.length∧∀ j:Nat,a≤j→j<b→zs[j]?=ys[j]?
theorem Tm.trans {g:Nat} {t:TypeId} {ys:List Value} {X Y Z:World} (h:Tm g t ys X Y) (h':Tm g t ys Y Z):Tm g t ys X Z:=by
 obtain ⟨a1,a2⟩:=h;obtain ⟨b1,b2⟩:=h';refine ⟨⟨b1.os.trans a1.os,b1.tape.trans a1.tape,b1.output.trans a1.output,Nat.le_trans a1.size b1.size,fun k hk hne=>(b1.block k (Nat.lt_of_lt_of_le hk a1.size) hne).trans (a1.block k hk hne)⟩,fun zs hz hl=>?_⟩;obtain ⟨us,hu,hul,hc⟩:=a2 zs hz hl;obtain ⟨vs,hv,hvl,hd⟩:=b2 us hu hul;refine ⟨vs,hv,hvl,fun j=>?_⟩
 rcases hd j with h9|h9
 ·rw [h9]
  exact hc j
 ·exact .inr h9
theorem Tm.drew (g:Nat) (t:TypeId) (ys:List Value) (X:World):Tm g t ys X X.drew:=⟨⟨rfl,rfl,rfl,Nat.le_refl _,fun _ _ _=>rfl⟩,fun zs hz hl=>⟨zs,hz,hl,fun _=>.inl rfl⟩⟩
theorem Tm.of_since {g:Nat} {t:TypeId} {ys:List Value} {X Y:World} (h:Since X Y):Tm g t ys X Y :=
 ⟨⟨h.os,h.tape,h.output,h.size,fun k hk _=>h.block k hk⟩,fun zs hz hl=>⟨zs,hz.bel h,hl,fun _=>.inl rfl⟩⟩
theorem Tm.below {g:Nat} {t:TypeId} {ys:List Value} {B:Nat} {W X Y:World} (h:Tm g t ys X Y) (hb:Below B W X) (hB:B≤X.heap.size) (hg:B≤g):Below B W Y :=
 hb.grown h.1 hB (fun k hk=>by simp at hk;omega)
theorem Tm.blk {g g':Nat} {t t':TypeId} {ys zs:List Value} {X Y:World} (h:Tm g t ys X Y) (hz:Blk X g' t' zs) (hne:g'≠g):Blk Y g' t' zs:=(iA h.1 hz.lt hne).trans hz
theorem sL {X:World} {g:Nat} {t:TypeId} {us vs:List Value} (h:Blk X g t us) (h':Blk X g t vs):us=vs:=by
 have h9:some (Obj.cells us.toArray t (0,0))=some (Obj.cells vs.toArray t (0,0)):=Eq.trans (Eq.symm h) h'
 injection h9 with h9
 injection h9 with h9
 simpa using h9
theorem Tq.lasts {g:Nat} {t:TypeId} {ys:List Value} {a b:Nat} {X Y:World} (h:Tq g t ys a b X) (hT:Tm g t ys X Y):Tq g t ys a b Y:=by
 obtain ⟨zs,hz,hl,hc⟩:=h;obtain ⟨us,hu,hul,hd⟩:=hT.2 zs hz hl;refine ⟨us,hu,hul,fun j h1 h2=>?_⟩
 rcases hd j with h9|h9
 ·rw [h9]
  exact hc j h1 h2
 ·exact h9
def Tls (g:Nat) (t:TypeId) (ys:List Value) (ss:List cJ):Prop:=∀ S,some S∈ss→∀ v X Y,S v X→Tm g t ys X Y→S v Y
theorem vVt {g:Nat} {t:TypeId} {ys:List Value}:Tls g t ys []:=fun _ h=>by cases h
theorem fO {g:Nat} {t:TypeId} {ys:List Value} {ss:List cJ} (h:Tls g t ys ss):Tls g t ys (none :: ss):=fun S hS=>by
 rcases List.mem_cons.1 hS with h9|h9
 ·cases h9
 ·exact h S h9
theorem rA {g:Nat} {t:TypeId} {ys:List Value} {a b:Nat} {ss:List cJ} (h:Tls g t ys ss):Tls g t ys (some (fun _ X=>Tq g t ys a b X) :: ss):=fun S hS=>by
 rcases List.mem_cons.1 hS with h9|h9
 ·injection h9 with h9
  subst h9
  exact fun _ _ _ h h'=>h.lasts h'
 ·exact h S h9
theorem Tm.done {g:Nat} {t:TypeId} {xs ys:List Value} {w X:World} (h:Tm g t ys w X) (hB:Blk w g t xs) (hl:xs.length=ys.length) (L:List (Nat×Nat)) (hL:∀ p∈L,Tq g t ys p.1 p.2 X) (ho:∀ j:Nat,j<ys.length→(∃ p∈L,p.1≤j∧j<p.2)∨xs[j]?=ys[j]?):Blk X g t ys:=by
 obtain ⟨us,hu,hul,hd⟩:=h.2 xs hB hl
 have he:us=ys:=by
  refine List.ext_getElem? fun j=>?_
  rcases Nat.lt_or_ge j ys.length with h9|h9
  ·rcases ho j h9 with ⟨p,hp,h1,h2⟩|h1
   ·obtain ⟨zs,hz,hzl,hc⟩:=hL p hp
    rw [sL hu hz];exact hc j h1 h2
   ·rcases hd j with h2|h2
    ·rw [h2,h1]
    ·exact h2
  ·rw [List.getElem?_eq_none (by omega),List.getElem?_eq_none h9]
 rw [← he];exact hu
section
variable {P:Program} {l:List Oper} {ops:Array Oper} {w:World} {Q:Act→World→Prop} {pre:Nat→Nat→Bool} {a:Act} {k:Nat} {o:Oper} {rest:List (Nat×Oper×cJ)} {Fs:List (Nat×(World→Prop))}
theorem yP {id:Nat} {Q':Exit→Act→World→Prop} (g:Nat) (t:TypeId) (ys:List Value) (ss:List cJ) (hm:P.follows .mixedOrders=true) (hB:lxB l=true)
  (hst:Tls g t ys ss) (h:bO P l.toArray (Tm g t ys) w (wpList P l.toArray Q' []) (inB (clo l)) (its 0 l ss) [] a):(Code.region id l.toArray true).wp P Q' a w :=
 kF ss hm hB (Tm.drew g t ys w) (fun _ _ h h'=>h.trans h') hst h.out
theorem tI {g:Nat} {t:TypeId} {xs ys:List Value} (hw:Region.wanted o (yielded ops a.tmps)=true) (hdst:o.dst=none) (j:Nat) (v:Value) (hB:Blk w g t xs) (hl:xs.length=ys.length) (hv:ys[j]?=some v)
  (hr:∀ (X:World) (u:Value),X.cell? ⟨g,j,none⟩=some u→X.frozen? ⟨g,j,none⟩=false→(execOp a.eval o).run P X=.ok .skip (X.setCell ⟨g,j,none⟩ v))
  (h:bO P ops (Tm g t ys) w Q pre rest ((k,fun X=>Tq g t ys j (j+1) X) :: Fs) a):bO P ops (Tm g t ys) w Q pre ((k,o,some (fun _ X=>Tq g t ys j (j+1) X)) :: rest) Fs a:=by
 refine ⟨?_⟩
 unfold CertR
 rw [if_pos hw];refine ⟨fun X hX _=>?_,fun _=>by rw [hdst];exact h.out⟩;obtain ⟨us,hu,hul,_⟩:=hX.2 xs hB hl
 have hj:j<us.length:=by rw [hul];exact (List.getElem?_eq_some_iff.1 hv).1
 unfold eN
 rw [hr X _ (hu.cell (List.getElem?_eq_getElem hj)) (hu.free j)];have h9:=hu.set j v;refine ⟨⟨us.set j v,h9,by rw [List.length_set,hul],fun i h1 h2=>?_⟩,iJ X g j v,fun zs hz hzl=>⟨us.set j v,h9,by rw [List.length_set,hul],fun i=>?_⟩⟩
 ·obtain rfl:i=j:=by omega
  rw [List.getElem?_set_self hj,hv]
 ·rw [sL hz hu]
  by_cases hi:j=i
  ·subst hi
   rw [List.getElem?_set_self hj];exact .inr hv.symm
  ·rw [List.getElem?_set_ne hi]
   exact .inl rfl
theorem yO {g:Nat} {t:TypeId} {xs ys:List Value} (hw:Region.wanted o (yielded ops a.tmps)=true) (ty:TypeId) (x y:Operand) (ho:o.op=.store ty x y) (hdst:o.dst=none) (j m:Nat) (vs:List Value) (hx:a.eval x=vP g j) (hy:a.eval y=.agg vs.toArray)
  (hB:Blk w g t xs) (hl:xs.length=ys.length) (hm:vs.length=m) (hjm:j+m≤ys.length) (hv:∀ i:Nat,i<m→ys[j+i]?=vs[i]?) (h1:∀ v∈vs,v.oneCell'=true) (hi:(P.info? ty).map (·.size)=some vs.length)
  (h:bO P ops (Tm g t ys) w Q pre rest ((k,fun X=>Tq g t ys j (j+m) X) :: Fs) a):bO P ops (Tm g t ys) w Q pre ((k,o,some (fun _ X=>Tq g t ys j (j+m) X)) :: rest) Fs a:=by
 refine ⟨?_⟩
 unfold CertR
 rw [if_pos hw];refine ⟨fun X hX _=>?_,fun _=>by rw [hdst];exact h.out⟩;obtain ⟨us,hu,hul,_⟩:=hX.2 xs hB hl;have hst:=run_storeCells_at P g j t vs 0 us.toArray X hu (by simpa using (by omega:j+vs.length≤us.length)) h1
 have hr:(storeVar ty ⟨g,j,none⟩ (.agg vs.toArray)).run P X=.ok () (X.setRow g (us.take j++vs++us.drop (j+vs.length)).toArray):=by
  cases hq:P.info? ty with
  | none=>simp [hq] at hi
  | some i =>
   have hsz:i.size=vs.length:=by simpa [hq] using hi
   simp only [Nat.add_zero] at hst
   simp [storeVar,Value.cells,Sem.run_bind,sizeOf,typeInfo,hq,hsz,hst]
 obtain ⟨R,hR⟩:∃ R,R=us.take j++vs++us.drop (j+vs.length):=⟨_,rfl⟩;rw [← hR] at hr;have h9:Blk (X.setRow g R.toArray) g t R:=setRow_heap X g us.toArray R.toArray t (0,0) hu
 have htl:(us.take j).length=j:=by rw [List.length_take];omega
 have hRl:R.length=ys.length:=by rw [hR,List.length_append,List.length_append,htl,List.length_drop];omega
 have hin:∀ i:Nat,j≤i→i<j+m→R[i]?=ys[i]?:=fun i h1 h2=>by
  rw [hR,List.getElem?_append_left (by rw [List.length_append,htl];omega),List.getElem?_append_right (by omega),htl,← hv (i-j) (by omega),show j+(i-j)=i by omega]
 have hout:∀ i:Nat,(i<j∨j+m≤i)→R[i]?=us[i]?:=fun i h1=>by
  rw [hR]
  rcases h1 with h1|h1
  ·rw [List.getElem?_append_left (by rw [List.length_append,htl];omega),List.getElem?_append_left (by omega),List.getElem?_take_of_lt h1]
  ·rw [List.getElem?_append_right (by rw [List.length_append,htl];omega),List.length_append,htl,List.getElem?_drop,show j+vs.length+(i-(j+vs.length))=i by omega]
 unfold eN execOp
 simp only [ho,hx,hy,Instr.storeAt,Instr.sureAddr,Sem.run_bind,Sem.run_pure,Result.andThen_ok,hr];refine ⟨⟨R,h9,hRl,hin⟩,eT X g _,fun zs hz hzl=>⟨R,h9,hRl,fun i=>?_⟩⟩;rw [sL hz hu]
 by_cases hc:j≤i∧i<j+m
 ·exact .inr (hin i hc.1 hc.2)
 ·exact .inl (hout i (by omega))
end
section
variable {P:Program} {ops:Array Oper} {Q:Exit→Act→World→Prop} {a:Act} {w:World} {n:Nat}
def Qt (n:Nat) (P:Program) (ops:Array Oper) (Q:Exit→Act→World→Prop) (tail:List Oper) (e:Exit) (a:Act) (w:World):Prop :=
 match e with
 | .normal=>wpListIn Fence.wide n P ops Q tail a w
 | e=>Q e a w
theorem nB (hL:¬ LetsOut Q) (tail:List Oper):∀ (l:List Oper) (a:Act) (w:World),wpList P ops (Qt n P ops Q tail) l a w→wpListIn Fence.wide n P ops Q (l++tail) a w
 | [],a,w,h=>h
 | o :: l,a,w,h=>by
  rw [List.cons_append]
  unfold wpListIn
  unfold wpList at h
  split
  ·rename_i hw
   rw [if_pos hw] at h
   rcases h with h|h
   ·refine ⟨fun _ _=>trivial,?_⟩
    rw [show Fence.wide.round=none from rfl,Oper.semAt_none];have h:=Oper.wp_mono (fun a w h=>nB hL tail l a w h) h
    unfold Oper.wp at h
    generalize (execOp a.eval o).run P w=res at h ⊢
    cases res with
    | ok x w' =>
     cases x <;> simp only [Oper.upon,Oper.uponIn] at h ⊢
     case value v=>exact h
     case skip=>exact h
     case defer d=>exact h
     case enter f args=>exact ⟨fun h9=>(by cases h9),CallsIn.mono (callsIn_wide.2 h) fun e w'' he=>by cases e <;> exact he⟩
     case row row args =>
      exact ⟨fun h9=>(by cases h9),fun c cs _=>by
       obtain ⟨v,w'',hR,hs⟩:=h c cs
       exact ⟨v,w'',hR,stepsIn_wide.2 hs⟩⟩
    | halt x w' =>
     cases x <;> simp only [Oper.upon,Oper.uponIn] at h ⊢
     case panic v=>exact h
   ·exact (hL h.2).elim
  ·rename_i hw
   rw [if_neg hw] at h;exact ⟨fun _ _=>trivial,nB hL tail l _ _ h⟩
theorem nP {l:List Oper} {id:Nat} {Q':Exit→Act→World→Prop} {a:Act} {w:World} (k:Nat) (ss:List cJ) (hL:¬ LetsOut Q') (hst:∀ S,some S∈ss→∀ v X Y,S v X→Since X Y→S v Y)
  (h:bO P l.toArray Since w (wpListIn Fence.wide n P l.toArray Q' (l.drop k)) (fun _ _=>true) (its 0 (l.take k) ss) [] a):(Code.region id l.toArray false).wpIn Fence.wide n P Q' a w:=by
 refine wpIn_region_lit ?_
 have hq:=fB (Q':=Qt n P l.toArray Q' (l.drop k)) (tail:=[]) (fun _ _ h h'=>Since.next h h') (its 0 (l.take k) ss) [] a w (fun it hit S hS=>by
  rcases ((fQ 0 (l.take k) ss).2.1 it hit).2.2 with h'|h'
  ·rw [hS] at h'
   cases h'
  ·rw [hS] at h'
   exact hst S h') (fun p F hp=>by cases hp) (show Since w w from Below.refl w.heap.size w) h.out
 rw [mB,List.append_nil] at hq;have:=nB hL (l.drop k) (l.take k) a w hq
 rwa [List.take_append_drop] at this
end
theorem Rd.but {X Y:World} {m sz n k c:Nat} {T:Nat→Prop} {A:Option Addr} {xs:List Value} (h:Rd X sz (.slice A n c) k xs) (hB:But m T X Y) (hA:∀ b off,A=some ⟨b,off,none⟩→b<m∧¬ T b):Rd Y sz (.slice A n c) k xs:=by
 obtain ⟨hl,A2,c2,hv,hc,hm,hz,hx⟩:=h;refine ⟨hl,A2,c2,hv,hc,hm,hz,fun hn=>?_⟩;obtain ⟨b,off,hA2,hb,hcell⟩:=hx hn
 injection hv with e1 e2 e3
 have h9:=hA b off (e1.trans hA2);refine ⟨b,off,hA2,Nat.lt_of_lt_of_le hb hB.size,fun j u hj=>?_⟩;exact (World.cell?_of_block (w:=X) (a:=⟨b,off+j,none⟩) (hB.block b h9.1 h9.2)).trans (hcell j u hj)
theorem vQe {x:Rat} (h:x<0):kE x 0=-1:=by
 unfold kE
 first
  | rw [if_neg (Rat.ne_of_lt h),if_pos h]
  | rw [if_pos h,if_neg (Rat.ne_of_lt h)]
theorem vQd {x:Rat} (h0:x≠0) (h:¬ x<0):kE x 0=1:=by
 unfold kE
 first
  | rw [if_neg h0,if_neg h]
  | rw [if_neg h,if_neg h0]
theorem vZ {n:Bool} {p q:List UInt8} (h0:rq n p q≠0):(n == false && p == [] && q == [])=false:=by
 rw [Bool.eq_false_iff];intro h9;simp only [Bool.and_eq_true,beq_iff_eq] at h9;obtain ⟨⟨rfl,rfl⟩,rfl⟩:=h9;exact h0 lU
theorem wO {P:Program} {w:World} {ops:Array Oper} {rest:List Oper} {o o2:Oper} {a:Act} {Q:Exit→Act→World→Prop} (hgd:o.guard=none) (hgd2:o2.guard=none) (T:TypeId) (z ys:List Value) (p x:Operand) (ho:o2.op=.store T p x)
  (hr1:∀ X:World,(execOp a.eval o).run P X=.ok (.value (vP X.heap.size 0)) (X.alloc (.cells z.toArray T)))
  (hp:∀ g,(a.put o.dst (vP g 0)).eval p=vP g 0) (hx:∀ g,(a.put o.dst (vP g 0)).eval x=.agg ys.toArray) (hl:ys.length=z.length) (h1:∀ v∈ys,v.oneCell'=true) (hi:(P.info? T).map (·.size)=some ys.length)
  (h:∀ (g:Nat) (w':World),g=w.heap.size→Blk w' g T ys→Since w w'→wpList P ops Q rest ((a.put o.dst (vP g 0)).put o2.dst undef) w'):wpList P ops Q (o :: o2 :: rest) a w:=by
 refine wpList_plain hgd fun K hK=>?_
 unfold Oper.wp
 rw [hr1];exact hK _ _ (lX w z.toArray T hgd2 T p x ho (hp _) ys.toArray (hx _) (by simpa using hl) (by simpa using h1) (by simpa using hi) (h _ _ rfl (Blk.new rfl) (bL w _)))
theorem qQm {P:Program} {fn:Func} {a:Act} {w:World} {s g:Nat} {T t:TypeId} {cs:List Value} {d:TypeDesc} (hres:fn.results=#[.cell s T]) (hp:a.tmps.getD s undef=vP g 0) (hu:P.underlying T=some d)
  (hag:(match d with|.struct _|.array _ _=>true|_=>false)=true) (hB:Blk w g t cs) (hi:(P.info? T).map (·.size)=some cs.length):(results fn a.tmps).run P w=.ok (.agg cs.toArray) w:=by
 have hld:=cP (P:=P) T d g 0 cs hB.cl hu hag hi
 have hp2:a.tmps[s]?.getD undef=vP g 0:=by rw [← Array.getD_eq_getD_getElem?];exact hp
 simp [results,hres,asAddr,hld,hp2]
theorem qQl {P:Program} {a:Act} {w:World} {n:Nat} {fn:Func} {R:Ending→World→Prop} {v:Value} {D:Nat} (hK:w.heap[D]?=some (.deferred (some []))) (hr:(results fn a.tmps).run P (w.putObj D (.deferred none))=.ok v (w.putObj D (.deferred none))) (hd:a.defers=[{ target:=.collected D,args:=#[] }]) (hR:R (.returned v) (w.putObj D (.deferred none))):bodyPostM Fence.wide n P fn R .ret a w:=by
 show LeavesInM _ _ _ _ _ _ a.defers .returning w
 rw [hd];exact ⟨by simp,.inl ⟨_,_,rfl,run_takeDeferred hK,v,hr,hR⟩⟩
theorem qG {P:Program} {g:Operand} {ps:Array Tmp} {assign body:Code} {Q:Exit→Act→World→Prop} {a:Act} {w:World} {gf:Nat} {lb:Array Value} (a1:Nat→Nat→Act) (Bx:Nat→Nat→World→Prop)
  (hg:a.eval g=.func (.func gf) #[] lb) (eg:∀ args w,(callFunc gf args).run P w=.ok (.enter gf args) w) {encs:Nat→Array Value} {N:Nat} {T:Nat→Prop} (hT:∀ k,T k→k<w.heap.size)
  (hseq:vZn P gf lb encs N T w) (hps:∀ k,(encs k).size=ps.size)
  (I:Nat→Nat→World→Prop) (hI:∀ m k X Y,I m k X→Kept w.heap.size X Y→I m k Y) (h0:∀ m,w.heap.size+2≤m→I m 0 w)
  (hBx:∀ k g X Y,Bx k g X→Kept w.heap.size X Y→Bx k g Y)
  (hassign:∀ (l k:Nat) (W:World) (K:Act→World→Prop),w.heap.size+2≤W.heap.size→k<N→(∀ g W',Since W W'→Bx k g W'→K (a1 k g) W') →
   assign.wpIn (Fence.wide.inRound l) 0 P (Exit.then K (fun _ _ _=>False)) { tmps:=(ps.zip (encs k)).foldl (fun t (p,v)=>t.setIfInBounds p v) a.tmps,defers:=[] } W)
  (hbody:∀ (l m k g:Nat) (W:World),w.heap.size+2≤m→m≤W.heap.size→k<N→I m k W→Bx k g W →
   body.wpIn (Fence.wide.inRound l) 0 P (fun e _ W'=>e=.normal∧But m T W W'∧I m (k+1) W') (a1 k g) W)
  (hdone:∀ (D m:Nat) (W:World),w.heap.size≤D→w.heap.size+2≤m→I m N W→W.heap[D]?=some (.deferred (some []))→Q .normal { a with defers:={ target:=.collected D,args:=#[] } :: a.defers } W) :
  (Code.rangeFunc g ps assign body).wp P Q a w :=
 zN hg eg hT hseq hps I hI h0 (fun k a' X=>∃ g,a'=a1 k g∧Bx k g X) (fun _ _ _ _ ⟨g,h1,h2⟩ hK=>⟨g,h1,hBx _ _ _ _ h2 hK⟩) (fun l _ k W K h1 h2 h3 _ hK=>hassign l k W K (Nat.le_trans h1 h2) h3 fun g W' hS hb=>hK _ W' hS ⟨g,rfl,hb⟩) (fun l m k a' W h1 h2 h3 h4 ⟨g,h5,h6⟩=>by subst h5;exact hbody l m k g W h1 h2 h3 h4 h6) hdone
def Rqo (B:Nat) (l:List Rat) (v:Value) (X:World):Prop:=X.ownsRow B 40 3 v l.length (fl trc (l.map tr))
theorem Rqo.mono {B B':Nat} {l:List Rat} {v:Value} {X:World} (h:Rqo B l v X) (hB:B'≤B):Rqo B' l v X:=fC h hB
theorem Rq.open {l:List Rat} {v:Value} {w:World} (h:Rq l v w):∃ A n c,v=.slice A n c∧l.length=n∧Rd w 3 (.slice A n c) n (fl trc (l.map tr)):=by
 have h9:Rd w 3 v (l.map tr).length (fl trc (l.map tr)):=h;have h8:=h9;obtain ⟨hl,A,c,h2,hc,hm,hx⟩:=h9;subst h2;rw [List.length_map] at h8;exact ⟨A,l.length,c,by rw [List.length_map],rfl,h8⟩
theorem qXd {f:Operand→Value} {o:Oper} (x y:Operand) (ho:o.op=.store 61 x y) (g j:Nat) {A:Option Addr} {n c:Nat} (hx:f x=vP g j) (hy:f y=.slice A n c) (u:Value) (X:World) (hc:X.cell? ⟨g,j,none⟩=some u) (hf:X.frozen? ⟨g,j,none⟩=false) :
  (execOp f o).run Tryz.prog X=.ok .skip (X.setCell ⟨g,j,none⟩ (.slice A n c)):=by
 unfold execOp
 simp only [ho,hx,hy]
 go_simp
theorem qVw:(Tryz.prog.info? 3).map (fun i=>(i.zero,i.size,i.bytes))=some (some (vI 0),1,8):=by kernel_rfl
structure TrI (w:World) (l:List En) (a t:Int) (g10:Nat) (m k:Nat) (X:World):Prop where
 out:∃ A c,Blk X g10 61 [.slice A (plN l a t k).length c]∧X.ownsRow m 3 1 (.slice A (plN l a t k).length c) (plN l a t k).length ((plN l a t k).map I64)
 ac:Blk X (w.heap.size+1) 3 [vI a]
 bel:Below w.heap.size w X
end Go.Proofs.YtjkfchehkpmhkaaGreatDoor

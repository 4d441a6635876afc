/- Ranges over a function: one law for a loop that does not lea -/
import Derived.RangeFuncNested
import Derived.Sort.CutIn
import Derived.OrdersIn
import Derived.Test.YtjkfchehkpmhkaaGreatDoorLb
set_option linter.unusedSimpArgs false
set_option linter.unusedVariables false
set_option maxRecDepth 100000
set_option maxHeartbeats 1600000
namespace Go.Proofs.YtjkfchehkpmhkaaGreatDoor
open Go Go.RowKit
structure But (m:Nat) (T:Nat→Prop) (X Y:World):Prop where
 os:Y.os=X.os
 tape:Y.tape=X.tape
 output:Y.output=X.output
 size:X.heap.size≤Y.heap.size
 block:∀ k,k<m→¬ T k→Y.heap[k]?=X.heap[k]?
theorem But.refl (m:Nat) (T:Nat→Prop) (X:World):But m T X X:=⟨rfl,rfl,rfl,Nat.le_refl _,fun _ _ _=>rfl⟩
theorem But.trans {m:Nat} {T:Nat→Prop} {X Y Z:World} (h:But m T X Y) (k:But m T Y Z):But m T X Z :=
 ⟨k.os.trans h.os,k.tape.trans h.tape,k.output.trans h.output,Nat.le_trans h.size k.size,fun i hi ht=>(k.block i hi ht).trans (h.block i hi ht)⟩
theorem But.of_since {m:Nat} {T:Nat→Prop} {X Y:World} (h:Since X Y) (hm:m≤X.heap.size):But m T X Y :=
 ⟨h.os,h.tape,h.output,h.size,fun k hk _=>h.block k (Nat.lt_of_lt_of_le hk hm)⟩
theorem But.of_grown {m:Nat} {T:Nat→Prop} {X Y:World} {row:Option Nat} (h:X.grownBy Y row) (hm:m≤X.heap.size) (hr:∀ k,row=some k→m≤k∨T k):But m T X Y :=
 ⟨h.os,h.tape,h.output,h.size,fun k hk ht=>h.block k (Nat.lt_of_lt_of_le hk hm) fun e=>by
  rcases hr k e.symm with h'|h'
  ·omega
  ·exact ht h'⟩
theorem But.below {m B:Nat} {T:Nat→Prop} {W X Y:World} (h:But m T X Y) (hb:Below B W X) (hB:B≤m) (hT:∀ k,T k→B≤k):Below B W Y :=
 ⟨h.os.trans hb.os,h.tape.trans hb.tape,h.output.trans hb.output,Nat.le_trans hb.size h.size,fun k hk=>(h.block k (by omega) fun ht=>by have:=hT k ht;omega).trans (hb.block k hk)⟩
theorem But.blk {m g:Nat} {T:Nat→Prop} {t:TypeId} {xs:List Value} {X Y:World} (h:But m T X Y) (hz:Blk X g t xs) (hg:g<m) (ht:¬ T g):Blk Y g t xs:=(h.block g hg ht).trans hz
structure Kept (B:Nat) (X Y:World):Prop where
 os:Y.os=X.os
 tape:Y.tape=X.tape
 output:Y.output=X.output
 size:X.heap.size≤Y.heap.size
 low:∀ k,k<B→Y.heap[k]?=X.heap[k]?
 cells:∀ (k:Nat) (o:Obj),X.heap[k]?=some o→o.isCells=true→Y.heap[k]?=some o
theorem Kept.refl (B:Nat) (X:World):Kept B X X:=⟨rfl,rfl,rfl,Nat.le_refl _,fun _ _=>rfl,fun _ _ h _=>h⟩
theorem Kept.trans {B:Nat} {X Y Z:World} (h:Kept B X Y) (k:Kept B Y Z):Kept B X Z :=
 ⟨k.os.trans h.os,k.tape.trans h.tape,k.output.trans h.output,Nat.le_trans h.size k.size,fun i hi=>(k.low i hi).trans (h.low i hi),fun i o hi ho=>k.cells i o (h.cells i o hi ho) ho⟩
theorem Kept.of_since {B:Nat} {X Y:World} (h:Since X Y) (hB:B≤X.heap.size):Kept B X Y :=
 ⟨h.os,h.tape,h.output,h.size,fun k hk=>h.block k (by omega),fun k o hk _=>(h.block k (Array.getElem?_eq_some_iff.1 hk).1).trans hk⟩
theorem Kept.putObj {B l:Nat} {X:World} {o o':Obj} (hl:X.heap[l]?=some o) (hc:o.isCells=false) (hB:B≤l):Kept B X (X.putObj l o') :=
 ⟨rfl,rfl,rfl,by simp,fun k hk=>World.putObj_heap_other (by omega),fun k o9 hk ho=>by
  rw [World.putObj_heap_other]
  ·exact hk
  ·intro e
   subst e;rw [hl] at hk
   cases hk
   rw [hc] at ho
   cases ho⟩
theorem Kept.blk {B g:Nat} {t:TypeId} {xs:List Value} {X Y:World} (h:Kept B X Y) (hz:Blk X g t xs):Blk Y g t xs:=h.cells g _ hz rfl
theorem Kept.below {B C:Nat} {W X Y:World} (h:Kept B X Y) (hb:Below C W X) (hC:C≤B):Below C W Y :=
 ⟨h.os.trans hb.os,h.tape.trans hb.tape,h.output.trans hb.output,Nat.le_trans hb.size h.size,fun k hk=>(h.low k (by omega)).trans (hb.block k hk)⟩
theorem Kept.owns {B base m n:Nat} {e:TypeId} {v:Value} {xs:List Value} {X Y:World} (h:Kept B X Y) (ho:X.ownsRow base e m v n xs):Y.ownsRow base e m v n xs:=by
 obtain ⟨hl,hr⟩:=ho;refine ⟨hl,hr.imp id ?_⟩
 rintro ⟨g,cap,cur,rfl,hb,hg,rest⟩
 exact ⟨g,cap,cur,rfl,hb,h.cells g _ hg rfl,rest⟩
/-! ### Regions inside a round -/
def vQg (l:List Oper):Bool:=l.all fun o=>match o.op with|.defer _=>false|_=>true
theorem zD {l:List Oper} (h:vQg l=true):∀ o∈l,∀ c,o.op≠.defer c:=fun o ho c e=>by
 have:=List.all_eq_true.1 h o ho;rw [e] at this
 cases this
section
variable {P:Program} {ops:Array Oper} {Q:Exit→Act→World→Prop} {a:Act} {w:World} {r n:Nat}
theorem zM {o:Oper} {K:Act→World→Prop} (hd:∀ c,o.op≠.defer c) (h:o.wp P a w K Q):o.wpIn (Fence.wide.inRound r) n P a w K Q:=by
 refine ⟨fun _ _=>trivial,?_⟩;rw [show (Fence.wide.inRound r).round=some r from rfl,Oper.semAt_some _ _ _ hd]
 unfold Oper.wp at h
 generalize (execOp a.eval o).run P w=res at h ⊢
 cases res with
 | ok x w' =>
  cases x <;> simp only [Oper.upon,Oper.uponIn] at h ⊢
  case value v=>exact h
  case skip=>exact h
  case defer d=>exact h
  case enter f args=>exact ⟨fun h9=>(by cases h9),CallsIn.mono (CallsIn.inRound r (callsIn_wide.2 h)) fun e w'' he=>by cases e <;> exact he⟩
  case row row args =>
   exact ⟨fun h9=>(by cases h9),fun c cs _=>by
    obtain ⟨v,w'',hR,hs⟩:=h c cs
    exact ⟨v,w'',hR,stepsIn_wide.2 hs⟩⟩
 | halt x w' =>
  cases x <;> simp only [Oper.upon,Oper.uponIn] at h ⊢
  case panic v=>exact h
theorem lG (hL:¬ LetsOut Q):∀ (l:List Oper) (a:Act) (w:World),(∀ o∈l,∀ c,o.op≠.defer c)→wpList P ops Q l a w→wpListIn (Fence.wide.inRound r) n P ops Q l a w
 | [],a,w,_,h=>h
 | o :: l,a,w,hd,h=>by
  have hd':∀ o∈l,∀ c,o.op≠.defer c:=fun o ho=>hd o (List.mem_cons_of_mem _ ho)
  unfold wpListIn
  unfold wpList at h
  split
  ·rename_i hw
   rw [if_pos hw] at h
   rcases h with h|h
   ·exact zM (hd o List.mem_cons_self) (Oper.wp_mono (fun a w h=>lG hL l a w hd' h) h)
   ·exact (hL h.2).elim
  ·rename_i hw
   rw [if_neg hw] at h;exact ⟨fun _ _=>trivial,lG hL l _ _ hd' h⟩
theorem rK {id:Nat} {l:List Oper} (hd:vQg l=true) (hL:¬ LetsOut Q) (h:wpList P l.toArray Q l a w):(Code.region id l.toArray false).wpIn (Fence.wide.inRound r) n P Q a w :=
 wpIn_region_lit (lG hL l a w (zD hd) h)
end
section
variable {P:Program} {l:List Oper} {w:World} {a:Act} {r n:Nat}
theorem fA {id:Nat} {Q':Exit→Act→World→Prop} (k:Nat) (ss:List cJ) (hd:vQg l=true) (hL:¬ LetsOut Q') (hst:∀ S,some S∈ss→∀ v X Y,S v X→Since X Y→S v Y)
  (h:bO P l.toArray Since w (wpList P l.toArray Q' (l.drop k)) (fun _ _=>true) (its 0 (l.take k) ss) [] a):(Code.region id l.toArray false).wpIn (Fence.wide.inRound r) n P Q' a w:=by
 refine rK hd hL ?_
 have hq:=fB (tail:=l.drop k) (fun _ _ h h'=>Since.next h h') (its 0 (l.take k) ss) [] a w (fun it hit S hS=>by
  rcases ((fQ 0 (l.take k) ss).2.1 it hit).2.2 with h'|h'
  ·rw [hS] at h'
   cases h'
  ·rw [hS] at h'
   exact hst S h') (fun p F hp=>by cases hp) (show Since w w from Below.refl w.heap.size w) h.out
 rw [mB,List.take_append_drop] at hq;exact hq
theorem eW {id:Nat} {Q':Exit→Act→World→Prop} (ss:List cJ) (hd:vQg l=true) (hL:¬ LetsOut Q') (hst:∀ S,some S∈ss→∀ v X Y,S v X→Since X Y→S v Y)
  (h:bO P l.toArray Since w (wpList P l.toArray Q' []) (fun _ _=>true) (its 0 l ss) [] a):(Code.region id l.toArray false).wpIn (Fence.wide.inRound r) n P Q' a w:=by
 refine fA l.length ss hd hL hst ?_;rw [List.take_length,List.drop_length];exact h
end
/-! ### Regions of an iterator -/
section
variable {P:Program} {l:List Oper} {w:World}
end
/-! ### Calls of yield; the return behind a loop -/
section
variable {P:Program} {ops:Array Oper} {Q:Exit→Act→World→Prop} {a:Act} {w:World} {n:Nat}
theorem kK (hL:¬ LetsOut Q):∀ (l:List Oper) (a:Act) (w:World),wpList P ops Q l a w→wpListIn Fence.wide n P ops Q l a w
 | [],a,w,h=>h
 | o :: l,a,w,h=>by
  unfold wpListIn
  unfold wpList at h
  split
  ·rename_i hw
   rw [if_pos hw] at h
   rcases h with h|h
   ·refine ⟨fun _ _=>trivial,?_⟩
    rw [show Fence.wide.round=none from rfl,Oper.semAt_none];have h:=Oper.wp_mono (fun a w h=>kK hL l a w h) h
    unfold Oper.wp at h
    generalize (execOp a.eval o).run P w=res at h ⊢
    cases res with
    | ok x w' =>
     cases x <;> simp only [Oper.upon,Oper.uponIn] at h ⊢
     case value v=>exact h
     case skip=>exact h
     case defer d=>exact h
     case enter f args=>exact ⟨fun h9=>(by cases h9),CallsIn.mono (callsIn_wide.2 h) fun e w'' he=>by cases e <;> exact he⟩
     case row row args =>
      exact ⟨fun h9=>(by cases h9),fun c cs _=>by
       obtain ⟨v,w'',hR,hs⟩:=h c cs
       exact ⟨v,w'',hR,stepsIn_wide.2 hs⟩⟩
    | halt x w' =>
     cases x <;> simp only [Oper.upon,Oper.uponIn] at h ⊢
     case panic v=>exact h
   ·exact (hL h.2).elim
  ·rename_i hw
   rw [if_neg hw] at h;exact ⟨fun _ _=>trivial,kK hL l _ _ h⟩
theorem tC {o:Oper} {rest:List Oper} (hw:Region.wanted o (yielded ops a.tmps)=true) (x:Operand) (xs:List Operand) (ts:Array TypeId) (ho:o.op=.call { callee:=.value x,args:=xs.toArray,argTypes:=ts }) (l:Nat) (hx:a.eval x=.func (.yield l) #[] #[])
  (args:List Value) (he:xs.map a.eval=args) {S:World→Prop} (hY:YieldAt Fence.wide 0 P l args.toArray w fun e Y=>e=.returned (.bool true)∧S Y) (h:∀ Y,S Y→wpListIn Fence.wide 0 P ops Q rest (a.put o.dst (.bool true)) Y) :
  wpListIn Fence.wide 0 P ops Q (o :: rest) a w:=by
 unfold wpListIn
 rw [if_pos hw];refine ⟨fun _ _=>trivial,?_⟩;rw [show Fence.wide.round=none from rfl,Oper.semAt_none];obtain ⟨fn,tmps,assign,body,hy,hR⟩:=hY
 have he2:xs.toArray.map a.eval=args.toArray:=by rw [List.map_toArray,he]
 have hrun:(execOp a.eval o).run P w=.ok (.round l fn tmps assign body) w:=by
  unfold execOp
  rw [ho];simp only [resolve,Sem.run_bind,Sem.run_pure,Result.andThen_ok,hx,he2,Deferred.ofValue,invoke]
  have h9:(args++[]).toArray=args.toArray:=by rw [List.append_nil]
  go_simp
  try simp only [hy,Sem.run_bind,Sem.run_pure,Result.andThen_ok,List.append_nil]
 rw [hrun,Oper.uponIn_round];exact ⟨fun h9=>(by cases h9),hR.mono fun e Y ⟨h1,h2⟩=>by subst h1;exact h Y h2⟩
theorem qW {f : FuncId} {fn : Func} {c : Code} (hf : P.funcs[f]? = some fn) (hname : (fn.name == "runtime.NumGoroutine") = false) (hb : fn.body = some c) : ∀ (args : Array Value) (w : World), (callFunc f args).run P w = .ok (.enter f args) w := by
 intro args w
 have h1 : fn.name ≠ "runtime.NumGoroutine" := by simpa using hname
 simp [callFunc,hf,h1,hb,mark]
theorem fY {f:FuncId} {fn:Func} {c:Code} {args:Array Value} {R:Ending→World→Prop} (hf:P.funcs[f]?=some fn) (hb:fn.body=some c) (h:c.wp P (bodyPostM Fence.wide 0 P fn R) { tmps:=args++Array.replicate (fn.ntmps-args.size) undef,defers:=[] } w):Calls P f args w R :=
 callsIn_wide.1 (callsIn_of_wp_marks (n:=0) hf hb trivial (wpIn_wide.2 h) rfl)
theorem vV {f:FuncId} {fn:Func} {c:Code} {args:Array Value} {R:Ending→World→Prop} (hf:P.funcs[f]?=some fn) (hb:fn.body=some c) (h:c.wp P (bodyPost P fn R) { tmps:=args++Array.replicate (fn.ntmps-args.size) undef,defers:=[] } w):CallsIn Fence.wide 0 P f args w R :=
 callsIn_of_wp hf hb trivial (wpIn_wide.2 h) rfl
end
/-! ### The loop -/
def vZn (P:Program) (g:Nat) (lb:Array Value) (encs:Nat→Array Value) (N:Nat) (T:Nat→Prop) (w:World):Prop :=
 ∀ (l:Nat) (J:Nat→Nat→World→Prop) (W:World),Since w W→(∀ m k X Y,J m k X→Since X Y→J m k Y)→(∀ m X,W.heap.size≤m→Since W X→J m 0 X) →
  (∀ m k X,W.heap.size≤m→m≤X.heap.size→k<N→J m k X→YieldAt Fence.wide 0 P l (encs k) X fun e Y=>e=.returned (.bool true)∧J m (k+1) Y∧But m T X Y) →
  CallsIn Fence.wide 0 P g (#[.func (.yield l) #[] #[]]++lb) W fun e Y=>(∃ v,e=.returned v)∧∃ m,W.heap.size≤m∧J m N Y
theorem zN {P:Program} {g:Operand} {ps:Array Tmp} {assign body:Code} {Q:Exit→Act→World→Prop} {a:Act} {w:World} {gf:Nat} {lb:Array Value}
  (hg:a.eval g=.func (.func gf) #[] lb) (eg:∀ args w,(callFunc gf args).run P w=.ok (.enter gf args) w) {encs:Nat→Array Value} {N:Nat} {T:Nat→Prop} (hT:∀ k,T k→k<w.heap.size)
  (hseq:vZn P gf lb encs N T w) (hps:∀ k,(encs k).size=ps.size)
  (I:Nat→Nat→World→Prop) (hI:∀ m k X Y,I m k X→Kept w.heap.size X Y→I m k Y) (h0:∀ m,w.heap.size+2≤m→I m 0 w)
  (Ax:Nat→Act→World→Prop) (hAx:∀ k a' X Y,Ax k a' X→Kept w.heap.size X Y→Ax k a' Y)
  (hassign:∀ (l m k:Nat) (W:World) (K:Act→World→Prop),w.heap.size+2≤m→m≤W.heap.size→k<N→I m k W→(∀ a' W',Since W W'→Ax k a' W'→K a' W') →
   assign.wpIn (Fence.wide.inRound l) 0 P (Exit.then K (fun _ _ _=>False)) { tmps:=(ps.zip (encs k)).foldl (fun t (p,v)=>t.setIfInBounds p v) a.tmps,defers:=[] } W)
  (hbody:∀ (l m k:Nat) (a':Act) (W:World),w.heap.size+2≤m→m≤W.heap.size→k<N→I m k W→Ax k a' W →
   body.wpIn (Fence.wide.inRound l) 0 P (fun e _ W'=>e=.normal∧But m T W W'∧I m (k+1) W') a' W)
  (hdone:∀ (D m:Nat) (W:World),w.heap.size≤D→w.heap.size+2≤m→I m N W→W.heap[D]?=some (.deferred (some []))→Q .normal { a with defers:={ target:=.collected D,args:=#[] } :: a.defers } W) :
  (Code.rangeFunc g ps assign body).wp P Q a w:=by
 refine (wpIn_wide (n:=1)).1 (wpIn_rangeFunc ?_);intro fn hfn
 obtain ⟨rec,hrec⟩:∃ rec:LoopState→Option Code→Loop,rec=fun st pe=>{ state:=st,pending:=pe,fn,tmps:=a.tmps,params:=ps,assign,body,defers:=w.heap.size }:=⟨_,rfl⟩
 obtain ⟨W1,hW1⟩:∃ W1,(w.alloc (.deferred (some []))).alloc (.loop (rec .ready none))=W1:=⟨_,rfl⟩
 have hS1:Since w W1:=by
  rw [← hW1];exact ((Below.refl w.heap.size w).alloc (Nat.le_refl _) _).alloc (by simp) _
 have hz1:W1.heap.size=w.heap.size+2:=by
  rw [← hW1]
  simp
 have hL1:W1.heap[w.heap.size+1]?=some (.loop (rec .ready none)):=by
  rw [← hW1];have:=World.alloc_heap_new (w.alloc (.deferred (some []))) (.loop (rec .ready none))
  rwa [World.size_alloc] at this
 have hK1:W1.heap[w.heap.size]?=some (.deferred (some [])):=by
  rw [← hW1];exact (Below.heap_alloc _ _ _ (by simp)).trans (World.alloc_heap_new w _)
 refine ⟨w.heap.size+1,[{ target:=.collected w.heap.size,args:=#[] }],W1,{ target:=.fn (.func gf) lb,args:=#[.func (.yield (w.heap.size+1)) #[] #[]] },W1,gf,
  #[.func (.yield (w.heap.size+1)) #[] #[]]++lb,W1,?_,?_,fun _ _=>trivial,?_,fun h=>(by cases h),?_⟩
 ·rw [← hW1,hrec]
  exact run_enterLoop_outer _ _ _ _ _
 ·simp only [resolve,hg]
  simp [go_sem]
 ·simp [invoke,go_sem,eg]
 ·refine (hseq (w.heap.size+1) (fun m k W=>I m k W∧W.heap[w.heap.size+1]?=some (.loop (rec .ready none))∧W.heap[w.heap.size]?=some (.deferred (some [])))
   W1 hS1 (fun m k X Y hJ hXY=>?_) (fun m X hm hX=>?_) ?_).mono ?_
  ·obtain ⟨hi,hl,hk⟩:=hJ
   have h1:=(Array.getElem?_eq_some_iff.1 hl).1;exact ⟨hI m k X Y hi (Kept.of_since hXY (by omega)),(hXY.block _ h1).trans hl,(hXY.block _ (by omega)).trans hk⟩
  ·exact ⟨hI m 0 w X (h0 m (by omega)) (Kept.of_since (Since.next hS1 hX) (Nat.le_refl _)),(hX.block _ (by omega)).trans hL1,(hX.block _ (by omega)).trans hK1⟩
  ·rintro m k W hm hms hkN ⟨hi,hl,hk⟩
   rw [hz1] at hm;have hlt:w.heap.size+1<W.heap.size:=(Array.getElem?_eq_some_iff.1 hl).1;have hy:=run_yield (P:=P) (args:=encs k) hl (by rw [hrec];exact hps k);rw [hrec] at hy;refine ⟨fn,_,assign,body,hy,roundIn_of_wpIn trivial (hassign _ m k W _ hm hms hkN hi ?_)⟩;clear hy;intro a' Wa hsa hax;have hla:Wa.heap[w.heap.size+1]?=some (.loop (rec .ready none)):=(hsa.block _ hlt).trans hl;have hka:Wa.heap[w.heap.size]?=some (.deferred (some [])):=(hsa.block _ (by omega)).trans hk;have hlta:w.heap.size+1<Wa.heap.size:=(Array.getElem?_eq_some_iff.1 hla).1;refine ⟨_,run_beginRound hla (by rw [hrec]),?_⟩;obtain ⟨Wb,hWb⟩:∃ Wb,Wa.putObj (w.heap.size+1) (.loop { rec .ready none with state:=.busy })=Wb:=⟨_,rfl⟩;rw [hWb]
   have hlb:Wb.heap[w.heap.size+1]?=some (.loop { rec .ready none with state:=.busy }):=by rw [← hWb];exact World.putObj_heap_same hlta
   have hkb:Wb.heap[w.heap.size]?=some (.deferred (some [])):=by rw [← hWb];exact (World.putObj_heap_other (by omega)).trans hka
   have hab:Kept w.heap.size Wa Wb:=by rw [← hWb];exact Kept.putObj hla rfl (by omega)
   have hib:=hI m k _ _ (hI m k _ _ hi (Kept.of_since hsa (by omega))) hab
   have hsb:Wb.heap.size=Wa.heap.size:=by rw [← hWb];simp
   refine wpIn_mono (hbody _ m k a' Wb hm (by have:=hsa.size;omega) hkN hib (hAx _ _ _ _ hax hab)) ?_
   rintro e a3 W3 ⟨rfl,hbut,hi3⟩
   have hl3:W3.heap[w.heap.size+1]?=some (.loop { rec .ready none with state:=.busy }):=(hbut.block _ (by omega) (fun ht=>by have:=hT _ ht;omega)).trans hlb;have hk3:W3.heap[w.heap.size]?=some (.deferred (some [])):=(hbut.block _ (by omega) (fun ht=>by have:=hT _ ht;omega)).trans hkb;have hr:=run_endRound (P:=P) none hl3;rw [hrec] at hr;have hlt3:=(Array.getElem?_eq_some_iff.1 hl3).1;have hl3':W3.heap[w.heap.size+1]?=some (.loop { rec .ready none with state:=.busy }):=hl3;rw [hrec] at hl3;refine ⟨_,_,hr,rfl,⟨hI m (k+1) _ _ hi3 (Kept.putObj hl3 rfl (by omega)),?_,(World.putObj_heap_other (by omega)).trans hk3⟩,?_⟩
   ·rw [hrec]
    exact World.putObj_heap_same hlt3
   ·refine ⟨?_,?_,?_,?_,fun i him hti=>?_⟩
    ·exact hbut.os.trans (hab.os.trans hsa.os)
    ·exact hbut.tape.trans (hab.tape.trans hsa.tape)
    ·exact hbut.output.trans (hab.output.trans hsa.output)
    ·exact Nat.le_trans (Nat.le_trans hsa.size hab.size) (Nat.le_trans hbut.size (by simp))
    ·by_cases hne:i=w.heap.size+1
     ·subst hne
      rw [World.putObj_heap_same hlt3,hl,hrec]
      rfl
     ·rw [World.putObj_heap_other hne,hbut.block i him hti,← hWb,World.putObj_heap_other hne]
      exact hsa.block i (by omega)
  ·rintro e W2 ⟨⟨v,rfl⟩,m,hm,hi,hl,hk⟩
   rw [hz1] at hm;have hr:=run_endLoop (P:=P) hl (by rw [hrec];simp);rw [hrec] at hr;exact ⟨none,_,hr,hdone _ m _ (Nat.le_refl _) hm (hI m N _ _ hi (Kept.putObj hl rfl (by omega))) ((World.putObj_heap_other (by omega)).trans hk)⟩
end Go.Proofs.YtjkfchehkpmhkaaGreatDoor

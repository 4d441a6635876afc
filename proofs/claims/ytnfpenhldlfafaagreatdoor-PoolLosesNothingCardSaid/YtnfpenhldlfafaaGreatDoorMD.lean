/- Words for natural numbers as slices of 32-bit digits. Digits -/
import Derived.Test.YtnfpenhldlfafaaGreatDoorProg
import Derived.Deep.Cut
import Derived.Deep.DeepCutAuto
import Derived.BigRegion
import Derived.RegionTactic
import Derived.Test.YtnfpenhldlfafaaGreatDoorMC
import Derived.Test.YtnfpenhldlfafaaGreatDoorMA
import Derived.Test.YtnfpenhldlfafaaGreatDoorMB
set_option linter.unusedSimpArgs false
set_option linter.unusedVariables false
set_option maxRecDepth 100000
set_option maxHeartbeats 1600000
namespace Go.Proofs.YtnfpenhldlfafaaGreatDoor
open Go.RowKit
theorem Blk.bel {w w':World} {g:Nat} {t:TypeId} {xs:List Value} (h:Blk w g t xs) (hb:Below w.heap.size w w'):Blk w' g t xs:=h.below hb h.lt
theorem bl2 {X Y:World} (hX:Since X Y) {g0 t0:Nat} {v0:List Value} (h0:Blk X g0 t0 v0) {g1 t1:Nat} {v1:List Value} (h1:Blk X g1 t1 v1):Blk Y g0 t0 v0∧Blk Y g1 t1 v1:=⟨h0.bel hX,h1.bel hX⟩
theorem bl3 {X Y:World} (hX:Since X Y) {g0 t0:Nat} {v0:List Value} (h0:Blk X g0 t0 v0) {g1 t1:Nat} {v1:List Value} (h1:Blk X g1 t1 v1) {g2 t2:Nat} {v2:List Value} (h2:Blk X g2 t2 v2):Blk Y g0 t0 v0∧Blk Y g1 t1 v1∧Blk Y g2 t2 v2:=⟨h0.bel hX,h1.bel hX,h2.bel hX⟩
theorem bl4 {X Y:World} (hX:Since X Y) {g0 t0:Nat} {v0:List Value} (h0:Blk X g0 t0 v0) {g1 t1:Nat} {v1:List Value} (h1:Blk X g1 t1 v1) {g2 t2:Nat} {v2:List Value} (h2:Blk X g2 t2 v2) {g3 t3:Nat} {v3:List Value} (h3:Blk X g3 t3 v3):Blk Y g0 t0 v0∧Blk Y g1 t1 v1∧Blk Y g2 t2 v2∧Blk Y g3 t3 v3:=⟨h0.bel hX,h1.bel hX,h2.bel hX,h3.bel hX⟩
theorem bl5 {X Y:World} (hX:Since X Y) {g0 t0:Nat} {v0:List Value} (h0:Blk X g0 t0 v0) {g1 t1:Nat} {v1:List Value} (h1:Blk X g1 t1 v1) {g2 t2:Nat} {v2:List Value} (h2:Blk X g2 t2 v2) {g3 t3:Nat} {v3:List Value} (h3:Blk X g3 t3 v3) {g4 t4:Nat} {v4:List Value} (h4:Blk X g4 t4 v4):Blk Y g0 t0 v0∧Blk Y g1 t1 v1∧Blk Y g2 t2 v2∧Blk Y g3 t3 v3∧Blk Y g4 t4 v4:=⟨h0.bel hX,h1.bel hX,h2.bel hX,h3.bel hX,h4.bel hX⟩
theorem bl6 {X Y:World} (hX:Since X Y) {g0 t0:Nat} {v0:List Value} (h0:Blk X g0 t0 v0) {g1 t1:Nat} {v1:List Value} (h1:Blk X g1 t1 v1) {g2 t2:Nat} {v2:List Value} (h2:Blk X g2 t2 v2) {g3 t3:Nat} {v3:List Value} (h3:Blk X g3 t3 v3) {g4 t4:Nat} {v4:List Value} (h4:Blk X g4 t4 v4) {g5 t5:Nat} {v5:List Value} (h5:Blk X g5 t5 v5):Blk Y g0 t0 v0∧Blk Y g1 t1 v1∧Blk Y g2 t2 v2∧Blk Y g3 t3 v3∧Blk Y g4 t4 v4∧Blk Y g5 t5 v5:=⟨h0.bel hX,h1.bel hX,h2.bel hX,h3.bel hX,h4.bel hX,h5.bel hX⟩
section
variable {P:Program} {ops:Array Oper} {Q:Act→World→Prop} {pre:Nat→Nat→Bool} {a:Act} {Fs:List (Nat×(World→Prop))}
theorem bZ {W w1:World} (hb:Below w1.heap.size w1 W) {g0 t0:Nat} {v0:List Value} (h0:Blk W g0 t0 v0) (h:∀ X,Since W X→Below w1.heap.size w1 X→Blk X g0 t0 v0→Q a X):bK P ops Since W Q pre [] Fs a:=jzb hb fun X hX hb=>h X hX hb (h0.bel hX)
theorem bV {W w1:World} (hb:Below w1.heap.size w1 W) {g0 t0:Nat} {v0:List Value} (h0:Blk W g0 t0 v0) {g1 t1:Nat} {v1:List Value} (h1:Blk W g1 t1 v1) (h:∀ X,Since W X→Below w1.heap.size w1 X→Blk X g0 t0 v0→Blk X g1 t1 v1→Q a X):bK P ops Since W Q pre [] Fs a:=jzb hb fun X hX hb=>h X hX hb (h0.bel hX) (h1.bel hX)
theorem bD {W w1:World} (hb:Below w1.heap.size w1 W) {g0 t0:Nat} {v0:List Value} (h0:Blk W g0 t0 v0) {g1 t1:Nat} {v1:List Value} (h1:Blk W g1 t1 v1) {g2 t2:Nat} {v2:List Value} (h2:Blk W g2 t2 v2) (h:∀ X,Since W X→Below w1.heap.size w1 X→Blk X g0 t0 v0→Blk X g1 t1 v1→Blk X g2 t2 v2→Q a X):bK P ops Since W Q pre [] Fs a:=jzb hb fun X hX hb=>h X hX hb (h0.bel hX) (h1.bel hX) (h2.bel hX)
theorem hH {W w1:World} (hb:Below w1.heap.size w1 W) {g0 t0:Nat} {v0:List Value} (h0:Blk W g0 t0 v0) {g1 t1:Nat} {v1:List Value} (h1:Blk W g1 t1 v1) {g2 t2:Nat} {v2:List Value} (h2:Blk W g2 t2 v2) {g3 t3:Nat} {v3:List Value} (h3:Blk W g3 t3 v3) (h:∀ X,Since W X→Below w1.heap.size w1 X→Blk X g0 t0 v0→Blk X g1 t1 v1→Blk X g2 t2 v2→Blk X g3 t3 v3→Q a X):bK P ops Since W Q pre [] Fs a:=jzb hb fun X hX hb=>h X hX hb (h0.bel hX) (h1.bel hX) (h2.bel hX) (h3.bel hX)
theorem cC {W w1:World} (hb:Below w1.heap.size w1 W) {g0 t0:Nat} {v0:List Value} (h0:Blk W g0 t0 v0) {g1 t1:Nat} {v1:List Value} (h1:Blk W g1 t1 v1) {g2 t2:Nat} {v2:List Value} (h2:Blk W g2 t2 v2) {g3 t3:Nat} {v3:List Value} (h3:Blk W g3 t3 v3) {g4 t4:Nat} {v4:List Value} (h4:Blk W g4 t4 v4) (h:∀ X,Since W X→Below w1.heap.size w1 X→Blk X g0 t0 v0→Blk X g1 t1 v1→Blk X g2 t2 v2→Blk X g3 t3 v3→Blk X g4 t4 v4→Q a X):bK P ops Since W Q pre [] Fs a:=jzb hb fun X hX hb=>h X hX hb (h0.bel hX) (h1.bel hX) (h2.bel hX) (h3.bel hX) (h4.bel hX)
theorem lP {W w1:World} (hb:Below w1.heap.size w1 W) {g0 t0:Nat} {v0:List Value} (h0:Blk W g0 t0 v0) {g1 t1:Nat} {v1:List Value} (h1:Blk W g1 t1 v1) {g2 t2:Nat} {v2:List Value} (h2:Blk W g2 t2 v2) {g3 t3:Nat} {v3:List Value} (h3:Blk W g3 t3 v3) {g4 t4:Nat} {v4:List Value} (h4:Blk W g4 t4 v4) {g5 t5:Nat} {v5:List Value} (h5:Blk W g5 t5 v5) (h:∀ X,Since W X→Below w1.heap.size w1 X→Blk X g0 t0 v0→Blk X g1 t1 v1→Blk X g2 t2 v2→Blk X g3 t3 v3→Blk X g4 t4 v4→Blk X g5 t5 v5→Q a X):bK P ops Since W Q pre [] Fs a:=jzb hb fun X hX hb=>h X hX hb (h0.bel hX) (h1.bel hX) (h2.bel hX) (h3.bel hX) (h4.bel hX) (h5.bel hX)
end
theorem aG {w X w':World} (h:Below w.heap.size w X) (hb:Below X.heap.size X w'):Below w.heap.size w w':=h.trans (hb.mono h.size)
theorem jZ (w:World) (B:Nat) (e:TypeId):w.ownsRow B e 1 (.slice none 0 0) 0 []:=⟨rfl,.inl ⟨rfl,rfl⟩⟩
theorem gK {α:Type} {l:List α} {k:Nat} (h:k<l.length):l.take (k+1)=l.take k++[l[k]]:=(List.take_append_getElem h).symm
def W32 (x:UInt32):Value:=.int .u32 (x.toNat:Int)
theorem nJ (l:List UInt32):∀ u∈l.map W32,u.oneCell'=true:=by
 intro u hu;obtain ⟨x,_,rfl⟩:=List.mem_map.1 hu
 rfl
theorem dI (x:UInt32):x.toNat<4294967296:=x.toNat_lt
theorem u8_lt (x:UInt8):x.toNat<256:=x.toNat_lt
def Dg (l:List UInt32) (v:Value) (w:World):Prop:=∃ A c,v=.slice A l.length c∧Rd w 1 (.slice A l.length c) l.length (l.map W32)
theorem Dg.lasts (l:List UInt32):dJ (Dg l):=by
 rintro v X Y ⟨A,c,hv,hr⟩ hS
 exact ⟨A,c,hv,hr.below hS⟩
theorem Dg.bel {l:List UInt32} {v:Value} {X Y:World} (h:Dg l v X) (hS:Below X.heap.size X Y):Dg l v Y:=Dg.lasts l v X Y h hS
abbrev Lm (z:Nat) (v:Value) (w:World):Prop:=Dg (ld z) v w
theorem Rd.digit {w:World} {A:Option Addr} {n c:Nat} {l:List UInt32} (h:Rd w 1 (.slice A n c) n (l.map W32)) {k:Nat} (hk:k<n) :
  ∃ b off,A=some ⟨b,off,none⟩∧b<w.heap.size∧w.cell? ⟨b,off+k,none⟩=some (.int .u32 ((l.getD k 0).toNat:Int)):=by
 have hl:l.length=n:=by have:=h.1;simpa using this
 obtain ⟨b,off,hA,hb,hc⟩:=h.cellAt (by omega);refine ⟨b,off,hA,hb,?_⟩
 have hkl:k<l.length:=by omega
 have:=hc k (W32 l[k]) (by simp [hkl]);rw [this]
 simp [W32,List.getD,hkl]
theorem Rd.n_dg {w:World} {A:Option Addr} {n c:Nat} {l:List UInt32} (h:Rd w 1 (.slice A n c) n (l.map W32)):l.length=n:=by have:=h.1;simpa using this
theorem gR:(Tryz.prog.info? 141).map (fun i=>(i.zero,i.size,i.bytes))=some (some (.int .u32 0),1,4):=by kernel_rfl
theorem bT:(Tryz.prog.info? 141).map (·.size)=some 1:=by kernel_rfl
theorem zI:(Tryz.prog.info? 5).map (·.size)=some 1:=by kernel_rfl
theorem zY:(Tryz.prog.info? 5).map (fun i=>(i.zero,i.size,i.bytes))=some (some (.int .u8 0),1,1):=by kernel_rfl
theorem cG (b k:Nat) (X:World) (v:Value) (h:X.cell? ⟨b,k,none⟩=some v):(loadVar 141 ⟨b,k,none⟩).run Tryz.prog X=.ok v X:=by
 go_simp
theorem zR (b k:Nat) (X:World) (v:Value) (h:X.cell? ⟨b,k,none⟩=some v):(loadVar 5 ⟨b,k,none⟩).run Tryz.prog X=.ok v X:=by
 go_simp
theorem kR {P:Program} {w:World} {ops:Array Oper} {rest:List Oper} {o:Oper} {a:Act} {Q:Exit→Act→World→Prop} {cs:Array Value} {tb:TypeId} (hgd:o.guard=none) {s x:Operand} {t:TypeId}
  (ho:o.op=.call { callee:=.builtin .append,args:=#[s,x],argTypes:=#[t,t] }) {e:TypeId} {z:Value} {bytes:Nat} (ht:P.underlying t=some (.slice e)) (hi:(P.info? e).map (fun i=>(i.zero,i.size,i.bytes))=some (some z,1,bytes)) (hz1:z.cells.size=1)
  (base:Nat) (v:Value) (n:Nat) (xs us:List Value) (hcs:cs=us.toArray) (hs:a.eval s=v) (hown:w.ownsRow base e 1 v n xs) {m:Nat} (hm:us.length=m)
  (hx:a.eval x=.slice (some ⟨w.heap.size,0,none⟩) m m) (h1:∀ u∈us,u.oneCell'=true) (hn:(n+m) * bytes≤140737488355328) (hn2:n+m≤140737488355328) (hbase:base≤w.heap.size)
  (h:∀ A' c' w',w'.ownsRow base e 1 (.slice A' (n+m) c') (n+m) (xs++us)→n+m≤c'→c'≤maxLen→Below base w w'→wpList P ops Q rest (a.put o.dst (.slice A' (n+m) c')) w') :
  wpList P ops Q (o :: rest) a (w.alloc (.cells cs tb)):=by
 subst hcs;obtain ⟨i,hi',hz0,hsz,hby⟩:=info_parts hi;refine wpList_append_own _ hgd s x t ho base e i z 1 bytes ht hi' hz0 hsz hby hz1 (by decide) v n xs hs (hown.alloc _) ⟨w.heap.size,0,none⟩ m m us hx (by omega) ?_ h1 (by unfold maxLen;omega) hn (by simp;omega) ?_
 ·intro j u hj
  have hb:Blk (w.alloc (.cells us.toArray tb)) w.heap.size tb us:=Blk.new rfl;have:=hb.cell hj;rw [kS,Nat.zero_add];exact this
 ·intro v' w' h2 h3 _
  have h4:Below base w w':=((Below.refl base w).alloc hbase _).grown h3 (by simp;omega) (by intro k hk;exact (hown.lt k hk).1);have hR:=Rd.of_own h2;obtain ⟨A',c',rfl,h5,h6⟩:=hR.form;exact h A' c' w' h2 h5 h6 h4
theorem Rd.pre1 {w:World} {A:Option Addr} {n c k:Nat} {l:List UInt32} (h:Rd w 1 (.slice A n c) n (l.map W32)) (hk:k≤n):Rd w 1 (.slice A k c) k ((l.take k).map W32):=by
 have:=h.pre (k:=k) hk
 rwa [← List.map_take] at this
theorem Rd.byte {w:World} {A:Option Addr} {n c:Nat} {l:List UInt8} (h:Rd w 1 (.slice A n c) n (l.map B8)) {k:Nat} (hk:k<n) :
  ∃ b off,A=some ⟨b,off,none⟩∧b<w.heap.size∧w.cell? ⟨b,off+k,none⟩=some (.int .u8 ((l.getD k 0).toNat:Int)):=by
 have hl:l.length=n:=by have:=h.1;simpa using this
 obtain ⟨b,off,hA,hb,hc⟩:=h.cellAt (by omega);refine ⟨b,off,hA,hb,?_⟩
 have hkl:k<l.length:=by omega
 have:=hc k (B8 l[k]) (by simp [hkl]);rw [this]
 simp [B8,List.getD,hkl]
theorem nK (l:List UInt8) {k:Nat} (h:k<l.length):val (l.take (k+1))=val (l.take k) * 256+(l.getD k 0).toNat:=by
 rw [gK h,vZ]
 simp [List.getD,h]
theorem qE (l:List UInt8) (k:Nat):val (l.take k)<256 ^ k:=by
 have h1:=rR (l.take k);have h2:(l.take k).length≤k:=List.length_take_le _ _;exact Nat.lt_of_lt_of_le h1 (Nat.pow_le_pow_right (by omega) h2)
theorem eX {k:IntKind} {a b:Int} (h:a=b):Value.int k a=Value.int k b:=by rw [h]
theorem xE (l:List UInt8) (p q:Nat):(⟨l.toArray⟩:ByteArray).extract p q=⟨((l.drop p).take (q-p)).toArray⟩:=by
 apply ByteArray.ext
 rw [ByteArray.data_extract]
 simp [List.extract_eq_take_drop]
theorem yK {P:Program} {f:Operand→Value} {o:Oper} (t:TypeId) (hu:P.underlying t=some .string) (x lo hi:Operand) (ho:o.op=.slice t x (some lo) (some hi) none) (l:List UInt8) (p q:Nat) (hx:f x=vS l) (hlo:f lo=vI p) {z:Int} (hh:f hi=vI z) (hz:z=(q:Int)) (hpq:p≤q) (hk:q≤l.length) (w:World) :
  (execOp f o).run P w=.ok (.value (vS ((l.drop p).take (q-p)))) w:=by
 have h:=xE l p q;subst hz
 have h2:(⟨l.toArray⟩:ByteArray).size=l.length:=by simp [ByteArray.size]
 unfold execOp
 simp only [ho,hx,hlo,hh,Option.map]
 go_simp
theorem gT {P:Program} {f:Operand→Value} {o:Oper} (t:TypeId) (hu:P.underlying t=some .string) (x i:Operand) (ho:o.op=.index t x i) (l:List UInt8) (k:Nat) (hx:f x=vS l) {z:Int} (hi:f i=vI z) (hz:z=(k:Int)) (hk:k<l.length) (w:World) :
  (execOp f o).run P w=.ok (.value (.int .u8 ((l.getD k 0).toNat:Int))) w:=by
 subst hz
 have h2:(⟨l.toArray⟩:ByteArray).size=l.length:=by simp [ByteArray.size]
 have h3:(⟨l.toArray⟩:ByteArray)[k]'(by rw [h2];exact hk)=l.getD k 0:=by
  show l.toArray[k]=_
  simp [List.getD,hk]
 have h1:(0:Int)≤(k:Int)∧(k:Int)<(l.length:Int):=⟨by omega,by omega⟩
 unfold execOp
 simp only [ho,hx,hi]
 go_simp
def MadeB (n B:Nat) (v:Value) (X:World):Prop:=∃ g,v=.slice (some ⟨g,0,none⟩) n n∧B≤g∧Blk X g 141 ((List.replicate n (0:UInt32)).map W32)
theorem MadeB.lasts (n B:Nat):dJ (MadeB n B):=by
 rintro v X Y ⟨g,h1,h2,h3⟩ hS
 exact ⟨g,h1,h2,h3.bel hS⟩
theorem lG {f:Operand→Value} {o:Oper} (x y:Operand) (ho:o.op=.makeSlice 133 x y) (n B:Nat) {z:Int} (hx:f x=vI z) (hy:f y=vI z) (hz:z=(n:Int)) (hn:n≤1073741824) (X:World) (hB:B≤X.heap.size) :
  ∃ v X',(execOp f o).run Tryz.prog X=.ok (.value v) X'∧MadeB n B v X'∧Since X X':=by
 subst hz;obtain ⟨i,hi,hz0,hsz,hby⟩:=info_parts gR;have hr:=run_make (P:=Tryz.prog) X 133 141 i (.int .u32 0) Tryz.underlying133 hi hz0 .i64 .i64 n n (by omega) (by omega) (by rw [hby];omega) (by omega);simp only [Int.toNat_natCast,hsz,Nat.mul_one] at hr;refine ⟨_,X.alloc (.cells (madeCells (Value.int IntKind.u32 0).cells n) 141),?_,⟨X.heap.size,rfl,hB,?_⟩,(Below.refl X.heap.size X).alloc (Nat.le_refl _) _⟩
 ·unfold execOp
  simp only [ho,hx,hy,Sem.run_bind,hr,Result.andThen_ok,Sem.run_pure]
 ·refine Blk.new ?_
  apply Array.ext
  ·simp [size_madeCells,Value.cells]
  ·intro j h1 h2
   simp [madeCells,Value.cells,W32,Nat.mod_one]
theorem vL {f:Operand→Value} {o:Oper} (x y:Operand) (ho:o.op=.store 141 x y) (g j:Nat) {n:Int} (hx:f x=vP g j) (hy:f y=.int .u32 n) (u:Value) (X:World) (hc:X.cell? ⟨g,j,none⟩=some u) (hf:X.frozen? ⟨g,j,none⟩=false) :
  (execOp f o).run Tryz.prog X=.ok .skip (X.setCell ⟨g,j,none⟩ (.int .u32 n)):=by
 unfold execOp
 simp only [ho,hx,hy]
 go_simp
set_option maxHeartbeats 800000 in
theorem atC (A:Option Addr) (n c:Nat) (l:List UInt32) (k:Nat) (w:World) (hr:Rd w 1 (.slice A n c) n (l.map W32)) :
  Calls Tryz.prog 130 #[.slice A n c,vI k] w fun e w'=>e=.returned (.int .u64 ((l.getD k 0).toNat:Int))∧w=w':=by
 by_cases hk:k<n
 ·obtain ⟨b,off,rfl,hb,hc⟩:=hr.digit hk
  have hx:=dI (l.getD k 0);have hw:IntKind.u64.wrap ((l.getD k 0).toNat:Int)=((l.getD k 0).toNat:Int):=w64 (by omega) (by omega);generalize (l.getD k 0).toNat=d at hc hx hw ⊢
  go_enter Tryz.func130,Tryz.ntmps130
  go_wp2
  go_ret
  exact ⟨rfl,rfl⟩
 ·have h0:l.getD k 0=0:=by
   have:=hr.n_dg
   simp [List.getD,List.getElem?_eq_none (by omega:l.length≤k)]
  have H0:=Lib.hid h0;clear h0
  go_enter Tryz.func130,Tryz.ntmps130
  go_wp2
  go_ret
  exact ⟨by rw [H0.out];rfl,rfl⟩
theorem qH {l:List UInt32} {m:Nat} (h:lw (l.take m)=lw l) (hm:m≤l.length) (ht:(l.take m).getLast?≠some 0):l.take m=ld (lw l)∧(ld (lw l)).length=m:=by
 have h1:=qVe ht;rw [h] at h1;refine ⟨h1.symm,?_⟩;rw [h1,List.length_take]
 omega
set_option maxHeartbeats 800000 in
theorem nR (A:Option Addr) (n c:Nat) (l:List UInt32) (w:World) (hr:Rd w 1 (.slice A n c) n (l.map W32)) (hn:n≤140737488355328) :
  Calls Tryz.prog 123 #[.slice A n c] w fun e w'=>e=.returned (.slice A (ld (lw l)).length c)∧l.take (ld (lw l)).length=ld (lw l)∧w=w':=by
 have hcap:=hr.cap
 unfold maxLen at hcap
 have hl:=hr.n_dg;have HL:=Lib.hid hl;clear hl
 go_enter Tryz.func123,Tryz.ntmps123
 go_wp2
 go_loop [0] (fun v=>∃ m:Nat,m≤n∧v=.slice A m c∧lw (l.take m)=lw l) (fun v=>match v with|.slice _ m _=>m|_=>0)
 case atStart=>exact ⟨n,by omega,rfl,by rw [List.take_of_length_le (by rw [HL.out];omega)]⟩
 case round =>
  obtain ⟨m,hm,rfl,hlw⟩:=hrel;have HW:=Lib.hid hlw;clear hlw
  by_cases h0:m=0
  ·subst h0
   have ht:=qH HW.out (by omega) (by simp);have HT:=Lib.hid ht;clear ht
   go_wp2
   go_ret
   exact ⟨by rw [HT.out.2];rfl,by rw [HT.out.2];exact HT.out.1,rfl⟩
  ·have hmp:0<m:=by omega
   obtain ⟨b,off,rfl,hb,hc⟩:=hr.digit (k:=m-1) (by omega)
   have hts:l.take m=l.take (m-1)++[l.getD (m-1) 0]:=by
    have h1:m-1<l.length:=by rw [HL.out];omega
    have:=gK h1;rw [Nat.sub_add_cancel hmp] at this;rw [this]
    simp [List.getD,h1]
   have e1:((m:Int)-1)=((m-1:Nat):Int):=by omega
   have HTS:=Lib.hid hts;have hx:=dI (l.getD (m-1) 0);clear hts
   by_cases hz:l.getD (m-1) 0=0
   ·have HW2:Hid (lw (l.take (m-1))=lw l):=by
     show _=_
     rw [← HW.out,HTS.out,hz,lW]
     simp
    rw [hz] at hc;have hc:w.cell? ⟨b,off+(m-1),none⟩=some (.int .u32 0):=hc;have e2:=e1
    go_wp2
    go_round
    case rel=>exact ⟨m-1,by omega,by simp,HW2.out⟩
    case measure=>simp;omega
   ·have hlast:(l.take m).getLast?≠some 0:=by
     rw [HTS.out];simp only [List.getLast?_append,List.getLast?_singleton,Option.some_or,ne_eq,Option.some.injEq];exact hz
    have ht:=qH HW.out (by rw [HL.out];omega) hlast;have HT:=Lib.hid ht
    have hne:¬ ((l.getD (m-1) 0).toNat:Int)=0:=by
     intro h
     apply hz
     apply UInt32.toNat_inj.1
     have:(l.getD (m-1) 0).toNat=0:=by omega
     rw [this]
     rfl
    clear ht hlast hz;generalize (l.getD (m-1) 0).toNat=d at hc hx hne
    go_wp2
    go_ret
    exact ⟨by rw [HT.out.2];rfl,by rw [HT.out.2];exact HT.out.1,rfl⟩
theorem vA (a:List UInt8) {k:Nat} {l:List UInt32} (hk:l.length=k) (hlt:4 * k<a.length) (hlw:lw l=val (a.drop (a.length-4 * k))) {p q:Nat} (hp:p=a.length-4 * (k+1)) (hq:q=a.length-4 * k) :
  lw (l++[UInt32.ofNat (val ((a.drop p).take (q-p)))])=val (a.drop p)∧val ((a.drop p).take (q-p))<4294967296:=by
 have hlen:((a.drop p).take (q-p)).length≤4:=by rw [List.length_take];omega
 have hv:val ((a.drop p).take (q-p))<4294967296:=by
  have h1:=rR ((a.drop p).take (q-p));have h2:256 ^ ((a.drop p).take (q-p)).length≤256 ^ 4:=Nat.pow_le_pow_right (by omega) hlen
  have h3:(256:Nat) ^ 4=4294967296:=by decide
  omega
 refine ⟨?_,hv⟩
 have hsplit:a.drop p=(a.drop p).take (q-p)++a.drop q:=by
  have h:=(List.take_append_drop (q-p) (a.drop p)).symm;rw [List.drop_drop] at h;rw [show p+(q-p)=q by omega] at h;exact h
 rw [lW,hlw,hk,← hq]
 conv=>rhs;rw [hsplit,gV]
 have e1:(UInt32.ofNat (val ((a.drop p).take (q-p)))).toNat=val ((a.drop p).take (q-p)):=by
  rw [UInt32.toNat_ofNat'];exact Nat.mod_eq_of_lt hv
 have e2:(a.drop q).length=4 * k:=by rw [List.length_drop];omega
 have e3:256 ^ (4 * k)=4294967296 ^ k:=by rw [Nat.pow_mul]
 rw [e1,e2,e3,Nat.add_comm,Nat.mul_comm]
theorem iG (a:List UInt8) (w:World) (ha:a.length≤16777216) :
  Calls Tryz.prog 115 #[vS a] w fun e w'=>∃ v,e=.returned v∧Lm (val a) v w'∧Below w.heap.size w w':=by
 go_enter Tryz.func115,Tryz.ntmps115
 go_wp2
 go_loopw [3,4] (fun x e wr=>∃ l:List UInt32,4 * l.length<a.length+4∧e=vI ((a.length:Int)-4 * (l.length:Int))∧lw l=val (a.drop (a.length-4 * l.length))∧wr.ownsRow w.heap.size 141 1 x l.length (l.map W32)∧Below w.heap.size w wr) (fun _ e _=>(intOf e).toNat)
 case atStart=>exact ⟨[],by simp,by simp,by simp [fR,tL],jZ _ _ _,Below.refl _ _⟩
 case round =>
  obtain ⟨l,hl4,rfl,hlw,hown,hb⟩:=hrel;have hR:=Rd.of_own hown;obtain ⟨A1,c1,rfl,hc1,hc2⟩:=hR.form
  unfold maxLen at hc2
  by_cases hlt:4 * l.length<a.length
  ·obtain ⟨p,hp⟩:∃ p,p=a.length-4 * (l.length+1):=⟨_,rfl⟩
   obtain ⟨q,hq⟩:∃ q,q=a.length-4 * l.length:=⟨_,rfl⟩;obtain ⟨ch,hch⟩:∃ ch,ch=(a.drop p).take (q-p):=⟨_,rfl⟩;have hst:=vA a rfl hlt hlw hp hq;rw [← hch] at hst
   have hchl:ch.length=q-p:=by rw [hch,List.length_take,List.length_drop];omega
   have hch4:ch.length≤4:=by omega
   have hp1:a.length≤p+4 * l.length+4:=by omega
   have hp2:p+4 * l.length≤a.length:=by omega
   have hp3:p=0∨p+4 * l.length+4=a.length:=by omega
   have HCH:Hid ((a.drop p).take (q-p)=ch):=hch.symm;have hvl:=hst.2;have HST:=Lib.hid hst.1;have HP:=Lib.hid hp;clear hst hch hlw hR;go_upto_region 6 with fail;refine bC [none,none,none,none,none,none,some (Bts ch)] (aA (aA (aA (aA (aA (aA (aD (Bts.lasts _) (aF)))))))) ?_;simp only [iX,Nat.reduceAdd];refine jg (st a) (fun X _ _=>by rfl) ?_;refine jg (vI ((a.length:Int)-4 * (l.length:Int))) (fun X _ _=>by rfl) ?_;refine jv (vI ((a.length:Int)-4 * (l.length:Int)-4)) (cM _ _ _ _ (by rfl) ((a.length:Int)-4 * (l.length:Int)) 4 ((a.length:Int)-4 * (l.length:Int)-4) (by rfl) (by rfl) (by omega) (by omega) (by omega)) ?_;refine jv (vI p) (kK _ _ (by rfl) .i64 0 ((a.length:Int)-4 * (l.length:Int)-4) (p:Int) (by rfl) (by rfl) (by omega)) ?_;refine jg (vI ((a.length:Int)-4 * (l.length:Int))) (fun X _ _=>by rfl) ?_;refine jv (st ch) (fun X=>(fun X=>(yK _ Tryz.underlying9 _ _ _ (by rfl) a p q (by rfl) (by rfl) (by rfl) (by omega) (by omega) (by omega) X).trans (by rw [HCH.out])) X) ?_;refine xK (by rfl) 9 144 5 _ (by rfl) ch (by rfl) Tryz.underlying9 Tryz.underlying144 Tryz.underlying5 (by omega) ?_;intro v20;simp only [pX];refine jg (vI (ch.length:Int)) (fun X hX hF=>by obtain ⟨A9,c9,h9,_⟩:=hF _ _ List.mem_cons_self rfl;subst h9;exact aJ Tryz.underlying144 _ (by rfl) A9 _ c9 (by rfl) _ rfl X) ?_
   refine jg (vI ((0:Nat):Int)) (fun X _ _=>by rfl) ?_;refine aH ?_;intro X hX hF;obtain ⟨A2,c2,rfl,hR2⟩:=hF _ _ List.mem_cons_self;have hown:=lB hown hX;have hb:=aG hb hX;clear hX hF hp hq hchl
   go_wp2
   go_loop [5,22] (fun d i=>∃ j:Nat,j≤ch.length∧i=vI j∧d=.int .u32 ((val (ch.take j):Nat):Int)) (fun _ i=>ch.length-(intOf i).toNat)
   case atStart=>exact ⟨0,by omega,rfl,rfl⟩
   case round =>
    obtain ⟨j,hj,rfl,rfl⟩:=hrel
    by_cases hjl:j<ch.length
    ·obtain ⟨b,off,rfl,hbb,hc⟩:=hR2.byte hjl
     have hy:=u8_lt (ch.getD j 0);have HV:=Lib.hid (nK ch hjl)
     have hd:val (ch.take j)<16777216:=by
      have h1:=qE ch j;have h2:256 ^ j≤256 ^ 3:=Nat.pow_le_pow_right (by omega) (by omega)
      have h3:(256:Nat) ^ 3=16777216:=by decide
      omega
     generalize (ch.getD j 0).toNat=y at hc hy HV;generalize val (ch.take j)=d at hd HV ⊢;go_upto_region 8 with fail;refine aU ?_;simp only [iX,Nat.reduceAdd];refine je (vP b (off+j)) (cS Tryz.underlying144 zI _ _ (by rfl) b (off) ch.length c2 j (by omega) (by rfl) (by rfl) (by omega) _) ?_;refine je (.int .u8 (y:Int)) (bN 5 _ (by rfl) b (off+j) (by rfl) _ _ (hc) (fun X u h=>zR b (off+j) X u h)) ?_;refine je (.int .u8 (y:Int)) (by rfl) ?_;refine aH ?_
     rintro _ rfl _
     go_upto_region 9 with fail;refine aU ?_;simp only [iX,Nat.reduceAdd];refine je (.int .u32 (d:Int)) (by rfl) ?_;refine je (.int .u32 ((d * 2 ^ 8:Nat):Int)) (eM _ _ _ _ (by rfl) .u32 .u64 (d:Int) ((d * 2 ^ 8:Nat):Int) 8 (by rfl) (by rfl) rfl (by decide) (by rw [w32 (by omega) (by omega)];push_cast;rfl) _) ?_;refine je (.int .u8 (y:Int)) (by rfl) ?_;refine je (.int .u32 (y:Int)) (bQ _ _ .u8 .u32 Tryz.underlying5 Tryz.underlying141 _ (by rfl) (y:Int) (y:Int) (by rfl) (by rw [w32 (by omega) (by omega)]) _) ?_;refine je (.int .u32 ((d * 2 ^ 8+y:Nat):Int)) (kH _ _ _ _ (by rfl) .u32 ((d * 2 ^ 8:Nat):Int) (y:Int) ((d * 2 ^ 8+y:Nat):Int) (by rfl) (by rfl) (or32n d y 8 (by omega) (by omega)) _) ?_;refine je (.int .u32 ((d * 2 ^ 8+y:Nat):Int)) (by rfl) ?_;refine aH ?_
     rintro _ rfl _
     go_wp2
     go_round
     case rel=>exact ⟨j+1,by omega,by go_num,by rw [HV.out]⟩
     case measure=>simp [intOf];omega
    ·obtain rfl:j=ch.length:=by omega
     have hcl:ch.take ch.length=ch:=List.take_of_length_le (Nat.le_refl _);rw [hcl]
     have hD:Value.int .u32 ((val ch:Nat):Int)=W32 (UInt32.ofNat (val ch)):=by
      unfold W32
      rw [UInt32.toNat_ofNat',Nat.mod_eq_of_lt hvl]
     have HD:Hid (#[Value.int .u32 ((val ch:Nat):Int)]=[W32 (UInt32.ofNat (val ch))].toArray):=by show _=_;rw [hD]
     clear hcl hD
     go_wp2_with (at_builtin;refine kR rfl rfl Tryz.underlying133 gR rfl (w.heap.size) _ (l.length) _ [W32 (UInt32.ofNat (val ch))] HD.out rfl hown (m:=1) rfl rfl (fun u hu=>by rw [List.mem_singleton.1 hu];rfl) (by omega) (by omega) hb.size ?_;intro A3 c3 w3 hown3 hc3 hc4 hb3)
     go_roundw
     case rel =>
      refine ⟨l++[UInt32.ofNat (val ch)],by rw [List.length_append,List.length_singleton];omega,eX (by rw [List.length_append,List.length_singleton];omega),?_,?_,hb.trans hb3⟩
      ·rw [HST.out,List.length_append,List.length_singleton,← HP.out]
      ·rw [List.length_append,List.length_singleton,List.map_append]
       exact hown3
     case measure=>simp [intOf];omega
  ·have hz:lw l=val a:=by rw [hlw,show a.length-4 * l.length=0 by omega];rfl
   have HZ:=Lib.hid hz;clear hz hlw hown
   go_wp2_with fail
   refine (nR A1 l.length c1 l _ hR (by omega)).mono ?_
   rintro e w' ⟨rfl,ht,rfl⟩
   rw [HZ.out] at ht;rw [HZ.out];have hpre:=hR.pre1 (k:=(ld (val a)).length) (by have:=congrArg List.length ht;rw [List.length_take] at this;omega);rw [ht] at hpre;have HT:=Lib.hid ht;clear ht
   go_wp2
   go_ret
   exact ⟨_,rfl,⟨A1,c1,rfl,hpre⟩,hb⟩
def cD (m n:Int):Int:=if m<n then -1 else if n<m then 1 else 0
theorem eQ {m n:Int} (h:m<n):cD m n=-1:=by unfold cD;rw [if_pos h]
theorem jF {m n:Int} (h:n<m):cD m n=1:=by unfold cD;rw [if_neg (by omega),if_pos h]
theorem kO (m:Int):cD m m=0:=by unfold cD;rw [if_neg (by omega),if_neg (by omega)]
theorem qZc (m n:Int) (w:World):Calls Tryz.prog 131 #[vI m,vI n] w fun e w'=>e=.returned (vI (cD m n))∧w=w':=by
 rcases Int.lt_trichotomy m n with h|h|h
 ·have H:=Lib.hid (eQ h)
  go_enter Tryz.func131,Tryz.ntmps131
  go_wp2
  go_ret
  exact ⟨by rw [H.out];rfl,rfl⟩
 ·subst h
  have H:=Lib.hid (kO m)
  go_enter Tryz.func131,Tryz.ntmps131
  go_wp2
  go_ret
  exact ⟨by rw [H.out];rfl,rfl⟩
 ·have H:=Lib.hid (jF h)
  have h2:¬ m<n:=by omega
  go_enter Tryz.func131,Tryz.ntmps131
  go_wp2
  go_ret
  exact ⟨by rw [H.out];rfl,rfl⟩
theorem qZd (m n:Int) (w:World):Calls Tryz.prog 132 #[.int .u32 m,.int .u32 n] w fun e w'=>e=.returned (vI (cD m n))∧w=w':=by
 rcases Int.lt_trichotomy m n with h|h|h
 ·have H:=Lib.hid (eQ h)
  go_enter Tryz.func132,Tryz.ntmps132
  go_wp2
  go_ret
  exact ⟨by rw [H.out];rfl,rfl⟩
 ·subst h
  have H:=Lib.hid (kO m)
  go_enter Tryz.func132,Tryz.ntmps132
  go_wp2
  go_ret
  exact ⟨by rw [H.out];rfl,rfl⟩
 ·have H:=Lib.hid (jF h)
  have h2:¬ m<n:=by omega
  go_enter Tryz.func132,Tryz.ntmps132
  go_wp2
  go_ret
  exact ⟨by rw [H.out];rfl,rfl⟩
theorem dG {X Y:World} (h:X=Y):Since X Y:=h ▸ Below.refl _ _
theorem gZ {a b:Nat} (h:a≤b):(ld a).length≤(ld b).length:=by
 refine gH ?_;have:=fF (ld b);rw [dT] at this
 omega
theorem mT (l:List UInt32) (k:Nat):lw l=lw (l.take k)+4294967296 ^ (l.take k).length * lw (l.drop k):=by
 rw [← eI,List.take_append_drop]
theorem xM {l m:List UInt32} {k:Nat} (hl:l.length=m.length) (hk:k<l.length) (hd:l.drop (k+1)=m.drop (k+1)) (hlt:(l.getD k 0).toNat<(m.getD k 0).toNat):lw l<lw m:=by
 have h1:=mT l (k+1);have h2:=mT m (k+1)
 have e1:(l.take (k+1)).length=k+1:=by rw [List.length_take];omega
 have e2:(m.take (k+1)).length=k+1:=by rw [List.length_take];omega
 rw [e1,hd,cO] at h1;rw [e2,cO] at h2;have h3:=fF (l.take k)
 have e3:(l.take k).length=k:=by rw [List.length_take];omega
 rw [e3] at h3;have h4:4294967296 ^ k * ((l.getD k 0).toNat+1)≤4294967296 ^ k * (m.getD k 0).toNat:=Nat.mul_le_mul_left _ hlt;rw [Nat.mul_add,Nat.mul_one] at h4
 omega
theorem tC {l m:List UInt32} {k:Nat} (hl:l.length=m.length) (hk:k<l.length) (hd:l.drop (k+1)=m.drop (k+1)) (he:(l.getD k 0).toNat=(m.getD k 0).toNat):l.drop k=m.drop k:=by
 have hm:k<m.length:=by omega
 rw [List.drop_eq_getElem_cons hk,List.drop_eq_getElem_cons hm,hd]
 have:l[k]=m[k]:=by
  apply UInt32.toNat_inj.1
  simpa [List.getD,hk,hm] using he
 rw [this]
theorem yQ (A A':Option Addr) (n c c':Nat) (l m:List UInt32) (w:World) (hr:Rd w 1 (.slice A n c) n (l.map W32)) (hr':Rd w 1 (.slice A' n c') n (m.map W32)) (hn:n≤140737488355328) :
  Calls Tryz.prog 121 #[.slice A n c,.slice A' n c'] w fun e w'=>e=.returned (vI (cD (lw l) (lw m)))∧Below w.heap.size w w':=by
 have hl:=hr.n_dg;have hm:=hr'.n_dg
 have hlm:l.length=m.length:=by omega
 have H0:=Lib.hid (kO (n:Int));have HL:=Lib.hid hl;have HM:=Lib.hid hm;have HLM:=Lib.hid hlm;clear hl hm hlm
 go_enter Tryz.func121,Tryz.ntmps121
 go_wp2_with fail
 refine (qZc (n:Int) (n:Int) _).mono ?_
 rintro e w1 ⟨rfl,rfl⟩
 rw [H0.out]
 go_wp2
 go_loopw [6] (fun v wr=>∃ j:Nat,j≤n∧v=vI ((j:Int)-1)∧l.drop j=m.drop j∧Below w.heap.size w wr) (fun v _=>(intOf v+1).toNat)
 case atStart=>exact ⟨n,by omega,rfl,by rw [List.drop_eq_nil_of_le (by rw [HL.out];omega),List.drop_eq_nil_of_le (by rw [HM.out];omega)],Below.refl _ _⟩
 case round =>
  obtain ⟨j1,hj,rfl,hd,hb⟩:=hrel;have HD:=Lib.hid hd;clear hd
  by_cases h0:j1=0
  ·subst h0
   have he:lw l=lw m:=by
    have:=HD.out
    simp at this
    rw [this]
   have HE:Hid (cD (lw l) (lw m)=0):=by show _=_;rw [he];exact kO _
   clear he
   go_wp2
   go_ret
   exact ⟨by rw [HE.out];rfl,hb⟩
  ·obtain ⟨j,rfl⟩:∃ j,j1=j+1:=⟨j1-1,by omega⟩
   rw [show (((j+1:Nat):Int)-1)=(j:Int) by omega];obtain ⟨b1,o1,rfl,hb1,hc1⟩:=(hr.below hb).digit (k:=j) (by omega);obtain ⟨b2,o2,rfl,hb2,hc2⟩:=(hr'.below hb).digit (k:=j) (by omega)
   have HX:Hid ((l.getD j 0).toNat<(m.getD j 0).toNat→cD (lw l) (lw m)=-1):=fun h=>eQ (by have:=xM HLM.out (by rw [HL.out];omega) HD.out h;omega)
   have HY:Hid ((m.getD j 0).toNat<(l.getD j 0).toNat→cD (lw l) (lw m)=1):=fun h=>jF (by have:=xM HLM.out.symm (by rw [HM.out];omega) HD.out.symm h;omega)
   have HZ:Hid ((l.getD j 0).toNat=(m.getD j 0).toNat→l.drop j=m.drop j):=fun h=>tC HLM.out (by rw [HL.out];omega) HD.out h
   generalize (l.getD j 0).toNat=x at hc1 HX HY HZ;generalize (m.getD j 0).toNat=y at hc2 HX HY HZ;go_upto_region 7 with fail;refine jd ?_;refine jg (.slice (some ⟨b1,o1,none⟩) n c) (fun X _ _=>by rfl) ?_;refine jg (vI j) (fun X _ _=>by rfl) ?_;refine jv (vP b1 (o1+j)) (cS Tryz.underlying133 bT _ _ (by rfl) b1 (o1) n c j (by omega) (by rfl) (by rfl) (by omega)) ?_;refine jg (.int .u32 (x:Int)) (fun X hX hF=>bN 141 _ (by rfl) b1 (o1+j) (by rfl) _ X ((Below.cell hX (p:=⟨b1,o1+j,none⟩) hb1).trans hc1) (fun X u h=>cG b1 (o1+j) X u h)) ?_;refine jg (.slice (some ⟨b2,o2,none⟩) n c') (fun X _ _=>by rfl) ?_;refine jg (vI j) (fun X _ _=>by rfl) ?_;refine jv (vP b2 (o2+j)) (cS Tryz.underlying133 bT _ _ (by rfl) b2 (o2) n c' j (by omega) (by rfl) (by rfl) (by omega)) ?_;refine jg (.int .u32 (y:Int)) (fun X hX hF=>bN 141 _ (by rfl) b2 (o2+j) (by rfl) _ X ((Below.cell hX (p:=⟨b2,o2+j,none⟩) hb2).trans hc2) (fun X u h=>cG b2 (o2+j) X u h)) ?_;refine jc (vI (cD x y)) (fun X hX hF=>(qZd x y X).mono fun e X' ⟨h1,h2⟩=>⟨h1,dG h2⟩) ?_;refine jg (vI (cD x y)) (fun X _ _=>by rfl) ?_;refine aH ?_;intro X hX _;have hb:=aG hb hX;clear hX
   rcases Nat.lt_trichotomy x y with h|h|h
   ·have H1:Hid (cD (lw l) (lw m)=-1):=HX.out h
    rw [show cD (x:Int) (y:Int)=-1 from eQ (by omega)]
    go_wp2
    go_ret
    exact ⟨by rw [H1.out];rfl,hb⟩
   ·have H1:=Lib.hid (HZ.out h)
    subst h;rw [show cD (x:Int) (x:Int)=0 from kO _]
    go_wp2
    go_roundw
    case rel=>exact ⟨j,by omega,rfl,H1.out,hb⟩
    case measure=>simp [intOf]
   ·have H1:Hid (cD (lw l) (lw m)=1):=HY.out h
    rw [show cD (x:Int) (y:Int)=1 from jF (by omega)]
    go_wp2
    go_ret
    exact ⟨by rw [H1.out];rfl,hb⟩
theorem eP (v v':Value) (x y:Nat) (w:World) (hr:Lm x v w) (hr':Lm y v' w) (hx:(ld x).length≤140737488355328) (hy:(ld y).length≤140737488355328) :
  Calls Tryz.prog 121 #[v,v'] w fun e w'=>e=.returned (vI (cD x y))∧Below w.heap.size w w':=by
 obtain ⟨A,c,rfl,hr⟩:=hr;obtain ⟨A',c',rfl,hr'⟩:=hr';have h1:=dT x;have h2:=dT y
 rcases Nat.lt_trichotomy (ld x).length (ld y).length with h|h|h
 ·have hlt:x<y:=by
   rcases Nat.lt_or_ge x y with h'|h'
   ·exact h'
   ·have:=gZ h'
    omega
  have H:=Lib.hid (eQ (show (x:Int)<y by omega));have H2:=Lib.hid (eQ (show ((ld x).length:Int)<(ld y).length by omega));clear h1 h2
  go_enter Tryz.func121,Tryz.ntmps121
  go_wp2_with fail
  refine (qZc _ _ _).mono ?_
  rintro e w1 ⟨rfl,rfl⟩
  rw [H2.out]
  go_wp2
  go_ret
  exact ⟨by rw [H.out];rfl,Below.refl _ _⟩
 ·rw [← h] at hr' ⊢
  have hc:=yQ A A' (ld x).length c c' (ld x) (ld y) w hr hr' hx;rw [h1,h2] at hc;exact hc
 ·have hlt:y<x:=by
   rcases Nat.lt_or_ge y x with h'|h'
   ·exact h'
   ·have:=gZ h'
    omega
  have H:=Lib.hid (jF (show (y:Int)<x by omega));have H2:=Lib.hid (jF (show ((ld y).length:Int)<(ld x).length by omega));clear h1 h2
  go_enter Tryz.func121,Tryz.ntmps121
  go_wp2_with fail
  refine (qZc _ _ _).mono ?_
  rintro e w1 ⟨rfl,rfl⟩
  rw [H2.out]
  go_wp2
  go_ret
  exact ⟨by rw [H.out];rfl,Below.refl _ _⟩
theorem iH (s:Nat):(UInt32.ofNat s).toNat=s % 4294967296:=UInt32.toNat_ofNat'
theorem dM {l:List UInt32} {k:Nat} (h:l.length≤k):lw (l.take k)=lw l:=by rw [List.take_of_length_le h]
theorem uW (l m o:List UInt32) {k c:Nat} (hk:o.length=k) (h:lw o+4294967296 ^ k * c=lw (l.take k)+lw (m.take k)) (s:Nat) (hs:s=(l.getD k 0).toNat+(m.getD k 0).toNat+c) :
  lw (o++[UInt32.ofNat s])+4294967296 ^ (k+1) * (s / 4294967296)=lw (l.take (k+1))+lw (m.take (k+1)):=by
 rw [lW,cO,cO,hk,iH,Nat.pow_succ];have e:s % 4294967296+4294967296 * (s / 4294967296)=s:=Nat.mod_add_div _ _
 have e2:4294967296 ^ k * (s % 4294967296)+4294967296 ^ k * 4294967296 * (s / 4294967296)=4294967296 ^ k * s:=by
  rw [Nat.mul_assoc,← Nat.mul_add,e]
 rw [hs] at e2;rw [hs];rw [Nat.mul_add,Nat.mul_add] at e2
 omega
theorem sL (l m o:List UInt32) {k c:Nat} (hk:o.length=k) (hc:c≤1) (h:lw (l.take k)+4294967296 ^ k * c=lw o+lw (m.take k)) (d c':Nat) (hd:(l.getD k 0).toNat+4294967296 * c'=d+(m.getD k 0).toNat+c) (hd2:d<4294967296) :
  lw (l.take (k+1))+4294967296 ^ (k+1) * c'=lw (o++[UInt32.ofNat d])+lw (m.take (k+1)):=by
 rw [lW,cO,cO,hk,iH,Nat.mod_eq_of_lt hd2,Nat.pow_succ]
 have e2:4294967296 ^ k * (l.getD k 0).toNat+4294967296 ^ k * 4294967296 * c'=4294967296 ^ k * d+4294967296 ^ k * (m.getD k 0).toNat+4294967296 ^ k * c:=by
  rw [Nat.mul_assoc,← Nat.mul_add,hd,Nat.mul_add,Nat.mul_add]
 omega
theorem pZ {s:Nat}:Value.int .u32 ((s % 4294967296:Nat):Int)=W32 (UInt32.ofNat s):=by
 unfold W32
 rw [iH]
theorem plusC (v v':Value) (x0 y0:Nat) (w:World) (hr:Lm x0 v w) (hr':Lm y0 v' w) (hx:(ld x0).length≤16777216) (hy:(ld y0).length≤16777216) :
  Calls Tryz.prog 120 #[v,v'] w fun e w'=>∃ u,e=.returned u∧Lm (x0+y0) u w'∧Below w.heap.size w w':=by
 obtain ⟨A,c0,rfl,hr⟩:=hr;obtain ⟨A',c1,rfl,hr'⟩:=hr';have hL:=dT x0;have hM:=dT y0;generalize ld x0=l at hr hx hL ⊢;generalize ld y0=m' at hr' hy hM ⊢;obtain ⟨n,hn⟩:∃ n,n=l.length:=⟨_,rfl⟩;obtain ⟨m,hm⟩:∃ m,m=m'.length:=⟨_,rfl⟩;rw [← hn] at hr hx ⊢;rw [← hm] at hr' hy ⊢;have HLL:=Lib.hid hn;have HMM:=Lib.hid hm
 have HSUM:Hid (lw l+lw m'=x0+y0):=by show _=_;rw [hL,hM]
 clear hn hm hL hM;obtain ⟨N,hN⟩:∃ N,N=max n m:=⟨_,rfl⟩
 have hNn:n≤N:=by omega
 have hNm:m≤N:=by omega
 have hNb:N≤16777216:=by omega
 have hrX:∀ X,Below w.heap.size w X→Rd X 1 (.slice A n c0) n (l.map W32):=fun X h=>hr.below h
 have hr'X:∀ X,Below w.heap.size w X→Rd X 1 (.slice A' m c1) m (m'.map W32):=fun X h=>hr'.below h
 have hrX:=Lib.hid hrX;have hr'X:=Lib.hid hr'X
 go_enter Tryz.func120,Tryz.ntmps120
 go_upto_region 3 with fail;refine aU ?_;simp only [iX,Nat.reduceAdd];refine je (.slice A n c0) (by rfl) ?_;refine je (vI n) (aJ Tryz.underlying133 _ (by rfl) A n c0 (by rfl) _ rfl _) ?_;refine je (.slice A' m c1) (by rfl) ?_;refine je (vI m) (aJ Tryz.underlying133 _ (by rfl) A' m c1 (by rfl) _ rfl _) ?_;refine je (vI N) (kK _ _ (by rfl) .i64 (n:Int) (m:Int) (N:Int) (by rfl) (by rfl) (by omega) _) ?_;refine je (vI ((N:Int)+1)) (bB _ _ _ _ (by rfl) (N:Int) 1 ((N:Int)+1) (by rfl) (by rfl) (by omega) (by omega) (by omega) _) ?_;refine je (vI 0) ((by rfl)) ?_;refine aH ?_
 rintro _ rfl _
 clear hN
 go_wp2
 go_loopw [5,6,15] (fun ov cv kv wr=>∃ (o:List UInt32) (c:Nat),o.length≤N+1∧c≤1∧kv=vI (o.length:Int)∧cv=.int .u64 (c:Int)∧lw o+4294967296 ^ o.length * c=lw (l.take o.length)+lw (m'.take o.length)∧wr.ownsRow w.heap.size 141 1 ov o.length (o.map W32)∧Below w.heap.size w wr) (fun _ _ kv _=>N+1-(intOf kv).toNat)
 case atStart=>exact ⟨[],0,by simp,by omega,rfl,rfl,by simp [fR],jZ _ _ _,Below.refl _ _⟩
 case round =>
  obtain ⟨o,c,ho,hc,rfl,rfl,hlw,hown,hb⟩:=hrel;have hR:=Rd.of_own hown;obtain ⟨A1,c2,rfl,hc2,hc3⟩:=hR.form;obtain ⟨k,hk⟩:∃ k,k=o.length:=⟨_,rfl⟩;rw [← hk] at hlw hown hc2 ho hR ⊢;have HK:Hid (o.length=k):=hk.symm
  by_cases hlt:k<N+1
  ·obtain ⟨x,hx2⟩:∃ x,x=(l.getD k 0).toNat:=⟨_,rfl⟩
   obtain ⟨y,hy2⟩:∃ y,y=(m'.getD k 0).toNat:=⟨_,rfl⟩;have hst:=uW l m' o hk.symm hlw (x+y+c) (by rw [hx2,hy2]);have HST:=Lib.hid hst;have bx:x<4294967296:=hx2 ▸ dI _;have by':y<4294967296:=hy2 ▸ dI _;have HX:Hid ((l.getD k 0).toNat=x):=hx2.symm;have HY:Hid ((m'.getD k 0).toNat=y):=hy2.symm;clear hx2 hy2 hst hlw hk hR;go_upto_region 6 with fail;refine jp ?_;refine jg (.slice A n c0) (fun X _ _=>by rfl) ?_;refine jg (vI k) (fun X _ _=>by rfl) ?_;refine jc (.int .u64 (x:Int)) (fun X hX hF=>(atC A n c0 l k X (hrX.out X (aG hb hX))).mono fun e X' ⟨h1,h2⟩=>⟨by rw [h1,HX.out],dG h2⟩) ?_;refine jg (.slice A' m c1) (fun X _ _=>by rfl) ?_;refine jg (vI k) (fun X _ _=>by rfl) ?_;refine jc (.int .u64 (y:Int)) (fun X hX hF=>(atC A' m c1 m' k X (hr'X.out X (aG hb hX))).mono fun e X' ⟨h1,h2⟩=>⟨by rw [h1,HY.out],dG h2⟩) ?_;refine jv (.int .u64 ((x+y:Nat):Int)) (gU _ _ _ _ (by rfl) .u64 (x:Int) (y:Int) ((x+y:Nat):Int) (by rfl) (by rfl) (by rw [w64 (by omega) (by omega)];omega)) ?_;refine jg (.int .u64 (c:Int)) (fun X _ _=>by rfl) ?_;refine jv (.int .u64 ((x+y+c:Nat):Int)) (gU _ _ _ _ (by rfl) .u64 ((x+y:Nat):Int) (c:Int) ((x+y+c:Nat):Int) (by rfl) (by rfl) (by rw [w64 (by omega) (by omega)];omega)) ?_;refine jg (.int .u64 ((x+y+c:Nat):Int)) (fun X _ _=>by rfl) ?_;refine aH ?_;intro X hX _
   have hown:=lB hown hX;have hb:=aG hb hX;clear hX
   have hs3:x+y+c<8589934592:=by omega
   generalize x+y+c=s at HST hs3 ⊢;clear bx by' HX HY;go_upto_region 7 with fail;refine bW 3 ?_;simp only [its,List.take,List.drop,Nat.zero_add,Nat.reduceAdd];refine je (.slice A1 k c2) (by rfl) ?_;refine je (.int .u64 (s:Int)) (by rfl) ?_;refine je (.int .u32 ((s % 4294967296:Nat):Int)) (bQ _ _ .u64 .u32 Tryz.underlying148 Tryz.underlying141 _ (by rfl) (s:Int) ((s % 4294967296:Nat):Int) (by rfl) (by rw [IntKind.wrap_u32];omega) _) ?_;refine aH ?_
   rintro _ rfl _
   have HD:Hid (#[Value.int .u32 ((s % 4294967296:Nat):Int)]=[W32 (UInt32.ofNat s)].toArray):=by show _=_;rw [pZ]
   go_wp2_with (at_builtin;refine kR rfl rfl Tryz.underlying133 gR rfl (w.heap.size) _ (k) _ [W32 (UInt32.ofNat s)] HD.out rfl hown (m:=1) rfl rfl (fun u hu=>by rw [List.mem_singleton.1 hu];rfl) (by omega) (by omega) hb.size ?_;intro A3 c3 w3 hown3 hc3 hc4 hb3)
   go_roundw
   case rel =>
    refine ⟨o++[UInt32.ofNat s],s / 4294967296,?_,by omega,eX ?_,eX (by omega),?_,?_,hb.trans hb3⟩
    ·rw [List.length_append,HK.out,List.length_singleton];omega
    ·rw [List.length_append,HK.out,List.length_singleton];omega
    ·rw [List.length_append,HK.out,List.length_singleton];exact HST.out
    ·rw [List.length_append,HK.out,List.length_singleton,List.map_append];exact hown3
   case measure=>simp [intOf];omega
  ·have hkk:k=N+1:=by omega
   have h1:lw (l.take k)=lw l:=dM (by rw [← HLL.out];omega);have h2:lw (m'.take k)=lw m':=dM (by rw [← HMM.out];omega)
   have hz:lw o=x0+y0:=by
    rw [h1,h2] at hlw;have b1:=fF l;have b2:=fF m';rw [← HLL.out] at b1;rw [← HMM.out] at b2;have b3:4294967296 ^ n≤4294967296 ^ N:=Nat.pow_le_pow_right (by omega) hNn;have b4:4294967296 ^ m≤4294967296 ^ N:=Nat.pow_le_pow_right (by omega) hNm
    have b5:4294967296 ^ k=4294967296 ^ N * 4294967296:=by rw [hkk,Nat.pow_succ]
    have hs:=HSUM.out
    rcases Nat.eq_zero_or_pos c with h0|h0
    ·subst h0;omega
    ·have:4294967296 ^ k≤4294967296 ^ k * c:=Nat.le_mul_of_pos_right _ h0
     omega
   have HZ:=Lib.hid hz;clear hz hlw hown h1 h2 hkk hk
   go_wp2_with fail
   refine (nR A1 k c2 o _ hR (by omega)).mono ?_
   rintro e w' ⟨rfl,ht,rfl⟩
   rw [HZ.out] at ht;rw [HZ.out];have hpre:=hR.pre1 (k:=(ld (x0+y0)).length) (by have:=congrArg List.length ht;rw [List.length_take,HK.out] at this;omega);rw [ht] at hpre;have HT:=Lib.hid ht;clear ht
   go_wp2
   go_ret
   exact ⟨_,rfl,⟨A1,c2,rfl,hpre⟩,hb⟩
theorem sK {x y c:Nat} (hx:x<4294967296) (hy:y<4294967296) (hc:c≤1):∃ D d c':Nat,IntKind.u64.wrap (IntKind.u64.wrap ((x:Int)-(y:Int))-(c:Int))=(D:Int)∧D % 4294967296=d∧D / 9223372036854775808=c'∧c'≤1∧d<4294967296∧x+4294967296 * c'=d+y+c:=by
 rw [IntKind.wrap_u64,IntKind.wrap_u64]
 by_cases h:y+c≤x
 ·exact ⟨x-y-c,x-y-c,0,by omega,by omega,by omega,by omega,by omega,by omega⟩
 ·exact ⟨18446744073709551616+x-y-c,4294967296+x-y-c,1,by omega,by omega,by omega,by omega,by omega,by omega⟩
def Fr (base:Nat) (v:Value):Prop:=∃ A n c,v=.slice A n c∧(A=none∨∃ g,A=some ⟨g,0,none⟩∧base≤g)
theorem Fr.of_own {w:World} {base n c:Nat} {A:Option Addr} {e:TypeId} {xs:List Value} (h:w.ownsRow base e 1 (.slice A n c) n xs):Fr base (.slice A n c):=by
 obtain ⟨_,hr⟩:=h
 rcases hr with ⟨h1,_⟩|⟨g,cap,cur,hv,hb,_⟩
 ·injection h1 with h1 h2 h3
  exact ⟨A,n,c,rfl,.inl h1⟩
 ·injection hv with h1 h2 h3
  exact ⟨A,n,c,rfl,.inr ⟨g,h1,hb⟩⟩
theorem Fr.len {base n c:Nat} {A:Option Addr} (h:Fr base (.slice A n c)) (m:Nat):Fr base (.slice A m c):=by
 obtain ⟨A',n',c',hv,h⟩:=h
 injection hv with h1 _ _
 subst h1;exact ⟨A,m,c,rfl,h⟩
theorem sM (v v':Value) (x0 y0:Nat) (w:World) (hr:Lm x0 v w) (hr':Lm y0 v' w) (hx:(ld x0).length≤16777216) (hle:y0≤x0) :
  Calls Tryz.prog 122 #[v,v'] w fun e w'=>∃ u,e=.returned u∧Lm (x0-y0) u w'∧Fr w.heap.size u∧Below w.heap.size w w':=by
 have hmono:=gZ hle;obtain ⟨A,c0,rfl,hr⟩:=hr;obtain ⟨A',c1,rfl,hr'⟩:=hr';have hL:=dT x0;have hM:=dT y0;generalize ld x0=l at hr hx hL hmono ⊢;generalize ld y0=m' at hr' hM hmono ⊢;obtain ⟨n,hn⟩:∃ n,n=l.length:=⟨_,rfl⟩;obtain ⟨m,hm⟩:∃ m,m=m'.length:=⟨_,rfl⟩;rw [← hn] at hr hx hmono ⊢;rw [← hm] at hr' hmono ⊢;have HLL:=Lib.hid hn;have HMM:=Lib.hid hm;have HL:=Lib.hid hL;have HM:=Lib.hid hM;clear hn hm hL hM
 have hrX:∀ X,Below w.heap.size w X→Rd X 1 (.slice A n c0) n (l.map W32):=fun X h=>hr.below h
 have hr'X:∀ X,Below w.heap.size w X→Rd X 1 (.slice A' m c1) m (m'.map W32):=fun X h=>hr'.below h
 have hrX:=Lib.hid hrX;have hr'X:=Lib.hid hr'X
 go_enter Tryz.func122,Tryz.ntmps122
 go_wp2
 go_loopw [5,6,11] (fun ov cv kv wr=>∃ (o:List UInt32) (c:Nat),o.length≤n∧c≤1∧kv=vI (o.length:Int)∧cv=.int .u64 (c:Int)∧lw (l.take o.length)+4294967296 ^ o.length * c=lw o+lw (m'.take o.length)∧wr.ownsRow w.heap.size 141 1 ov o.length (o.map W32)∧Below w.heap.size w wr) (fun _ _ kv _=>n-(intOf kv).toNat)
 case atStart=>exact ⟨[],0,by simp,by omega,rfl,rfl,by simp [fR],jZ _ _ _,Below.refl _ _⟩
 case round =>
  obtain ⟨o,c,ho,hc,rfl,rfl,hlw,hown,hb⟩:=hrel;have hR:=Rd.of_own hown;obtain ⟨A1,c2,rfl,hc2,hc3⟩:=hR.form;obtain ⟨k,hk⟩:∃ k,k=o.length:=⟨_,rfl⟩;rw [← hk] at hlw hown hc2 ho hR ⊢;have HK:Hid (o.length=k):=hk.symm
  by_cases hlt:k<n
  ·obtain ⟨b1,o1,rfl,hb1,hc1⟩:=(hrX.out _ hb).digit hlt
   obtain ⟨x,hx2⟩:∃ x,x=(l.getD k 0).toNat:=⟨_,rfl⟩;obtain ⟨y,hy2⟩:∃ y,y=(m'.getD k 0).toNat:=⟨_,rfl⟩;have bx:x<4294967296:=hx2 ▸ dI _;have by':y<4294967296:=hy2 ▸ dI _;obtain ⟨D,d,c',hD,hd,hcc,hc1',hd2,hbal⟩:=sK bx by' hc;have hst:=sL l m' o hk.symm hc hlw d c' (by rw [← hx2,← hy2];exact hbal) hd2;have HST:=Lib.hid hst;have HDD:=Lib.hid hD;rw [← hx2] at hc1;have HY:Hid ((m'.getD k 0).toNat=y):=hy2.symm;clear hx2 hy2 hst hlw hk hR hD hbal;go_upto_region 6 with fail;refine jd ?_;refine jg (.slice (some ⟨b1,o1,none⟩) n c0) (fun X _ _=>by rfl) ?_;refine jg (vI k) (fun X _ _=>by rfl) ?_;refine jv (vP b1 (o1+k)) (cS Tryz.underlying133 bT _ _ (by rfl) b1 (o1) n c0 k (by omega) (by rfl) (by rfl) (by omega)) ?_;refine jg (.int .u32 (x:Int)) (fun X hX hF=>bN 141 _ (by rfl) b1 (o1+k) (by rfl) _ X ((Below.cell hX (p:=⟨b1,o1+k,none⟩) hb1).trans hc1) (fun X u h=>cG b1 (o1+k) X u h)) ?_;refine jv (.int .u64 (x:Int)) (bQ _ _ .u32 .u64 Tryz.underlying141 Tryz.underlying148 _ (by rfl) (x:Int) (x:Int) (by rfl) (by rw [w64 (by omega) (by omega)])) ?_;refine jg (.slice A' m c1) (fun X _ _=>by rfl) ?_;refine jg (vI k) (fun X _ _=>by rfl) ?_;refine jc (.int .u64 (y:Int)) (fun X hX hF=>(atC A' m c1 m' k X (hr'X.out X (aG hb hX))).mono fun e X' ⟨h1,h2⟩=>⟨by rw [h1,HY.out],dG h2⟩) ?_;refine jv (.int .u64 (IntKind.u64.wrap ((x:Int)-(y:Int)))) (fL _ _ _ _ (by rfl) .u64 (x:Int) (y:Int) (IntKind.u64.wrap ((x:Int)-(y:Int))) (by rfl) (by rfl) rfl) ?_
   refine jg (.int .u64 (c:Int)) (fun X _ _=>by rfl) ?_;refine jv (.int .u64 ((D:Nat):Int)) (fL _ _ _ _ (by rfl) .u64 (IntKind.u64.wrap ((x:Int)-(y:Int))) (c:Int) ((D:Nat):Int) (by rfl) (by rfl) HDD.out) ?_;refine jg (.int .u64 ((D:Nat):Int)) (fun X _ _=>by rfl) ?_;refine aH ?_;intro X hX _;have hown:=lB hown hX;have hb:=aG hb hX;clear hX hc1 HDD;go_upto_region 7 with fail;refine bW 3 ?_;simp only [its,List.take,List.drop,Nat.zero_add,Nat.reduceAdd];refine je (.slice A1 k c2) (by rfl) ?_;refine je (.int .u64 ((D:Nat):Int)) (by rfl) ?_;refine je (.int .u32 ((d:Nat):Int)) (bQ _ _ .u64 .u32 Tryz.underlying148 Tryz.underlying141 _ (by rfl) ((D:Nat):Int) ((d:Nat):Int) (by rfl) (by rw [IntKind.wrap_u32];omega) _) ?_;refine aH ?_
   rintro _ rfl _
   have HD:Hid (#[Value.int .u32 ((d:Nat):Int)]=[W32 (UInt32.ofNat d)].toArray):=by show _=_;rw [← pZ,Nat.mod_eq_of_lt hd2]
   have hcc1:D / 9223372036854775808≤c':=by omega
   have hcc2:c'≤D / 9223372036854775808:=by omega
   clear hd hcc
   go_wp2_with (at_builtin;refine kR rfl rfl Tryz.underlying133 gR rfl (w.heap.size) _ (k) _ [W32 (UInt32.ofNat d)] HD.out rfl hown (m:=1) rfl rfl (fun u hu=>by rw [List.mem_singleton.1 hu];rfl) (by omega) (by omega) hb.size ?_;intro A3 c3 w3 hown3 hc3 hc4 hb3)
   go_roundw
   case rel =>
    refine ⟨o++[UInt32.ofNat d],c',?_,by omega,eX ?_,eX (by omega),?_,?_,hb.trans hb3⟩
    ·rw [List.length_append,HK.out,List.length_singleton];omega
    ·rw [List.length_append,HK.out,List.length_singleton];omega
    ·rw [List.length_append,HK.out,List.length_singleton];exact HST.out
    ·rw [List.length_append,HK.out,List.length_singleton,List.map_append];exact hown3
   case measure=>simp [intOf];omega
  ·have hkk:k=n:=by omega
   have h1:lw (l.take k)=lw l:=dM (by rw [← HLL.out];omega);have h2:lw (m'.take k)=lw m':=dM (by rw [← HMM.out];omega)
   have hz:lw o=x0-y0:=by
    rw [h1,h2,HL.out,HM.out] at hlw;have b1:=fF o;rw [HK.out] at b1
    rcases Nat.eq_zero_or_pos c with h0|h0
    ·subst h0;omega
    ·have:4294967296 ^ k≤4294967296 ^ k * c:=Nat.le_mul_of_pos_right _ h0
     omega
   have HZ:=Lib.hid hz;have HFR:=Lib.hid (Fr.of_own hown);clear hz hlw hown h1 h2 hkk hk
   go_wp2_with fail
   refine (nR A1 k c2 o _ hR (by omega)).mono ?_
   rintro e w' ⟨rfl,ht,rfl⟩
   rw [HZ.out] at ht;rw [HZ.out];have hpre:=hR.pre1 (k:=(ld (x0-y0)).length) (by have:=congrArg List.length ht;rw [List.length_take,HK.out] at this;omega);rw [ht] at hpre;have HT:=Lib.hid ht;clear ht
   go_wp2
   go_ret
   exact ⟨_,rfl,⟨A1,c2,rfl,hpre⟩,HFR.out.len _,hb⟩
theorem sN (v v':Value) (x0 y0:Nat) (w:World) (hr:Lm x0 v w) (hr':Lm y0 v' w) (hx:(ld x0).length≤16777216) (hle:y0≤x0) :
  Calls Tryz.prog 122 #[v,v'] w fun e w'=>∃ u,e=.returned u∧Lm (x0-y0) u w'∧Below w.heap.size w w' :=
 (sM v v' x0 y0 w hr hr' hx hle).mono fun _ _ ⟨u,h1,h2,_,h4⟩=>⟨u,h1,h2,h4⟩
theorem qYm {l:List UInt32} {j:Nat} (hj:j<l.length) (d:UInt32):lw (l.set j d)+4294967296 ^ j * (l.getD j 0).toNat=lw l+4294967296 ^ j * d.toNat:=by
 have h1:l=l.take j++l[j] :: l.drop (j+1):=by
  conv=>lhs;rw [← List.take_append_drop j l,List.drop_eq_getElem_cons hj]
 have h2:l.set j d=l.take j++d :: l.drop (j+1):=by
  rw [List.set_eq_take_append_cons_drop,if_pos hj]
 have h3:l.getD j 0=l[j]:=by simp [List.getD,hj]
 have h4:(l.take j).length=j:=by rw [List.length_take];omega
 rw [h3,h2,eI,fH,h4]
 conv=>rhs;rw [h1,eI,fH,h4]
 rw [Nat.mul_add,Nat.mul_add]
 omega
theorem rS {O m':List UInt32} {T0 a i k c s d':Nat} (hj:i+k<O.length) (h:lw O+4294967296 ^ (i+k) * c=T0+4294967296 ^ i * a * lw (m'.take k)) (hs:s=a * (m'.getD k 0).toNat+(O.getD (i+k) 0).toNat+c) (hd:d'=s / 4294967296) :
  lw (O.set (i+k) (UInt32.ofNat s))+4294967296 ^ (i+(k+1)) * d'=T0+4294967296 ^ i * a * lw (m'.take (k+1)):=by
 have h1:=qYm hj (UInt32.ofNat s);rw [iH] at h1;rw [cO,show i+(k+1)=(i+k)+1 by omega,Nat.pow_succ];have e:s % 4294967296+4294967296 * (s / 4294967296)=s:=Nat.mod_add_div _ _
 have e2:4294967296 ^ (i+k) * (s % 4294967296)+4294967296 ^ (i+k) * 4294967296 * d'=4294967296 ^ (i+k) * s:=by
  rw [hd,Nat.mul_assoc,← Nat.mul_add,e]
 have e3:4294967296 ^ (i+k) * s=4294967296 ^ (i+k) * (a * (m'.getD k 0).toNat)+4294967296 ^ (i+k) * (O.getD (i+k) 0).toNat+4294967296 ^ (i+k) * c:=by
  rw [hs,Nat.mul_add,Nat.mul_add]
 have e4:4294967296 ^ i * a * (lw (m'.take k)+4294967296 ^ k * (m'.getD k 0).toNat)=4294967296 ^ i * a * lw (m'.take k)+4294967296 ^ (i+k) * (a * (m'.getD k 0).toNat):=by
  rw [Nat.mul_add,Nat.pow_add,Nat.mul_assoc (4294967296 ^ i) a (4294967296 ^ k * _),Nat.mul_assoc (4294967296 ^ i) (4294967296 ^ k) _,Nat.mul_left_comm a]
 rw [e4]
 omega
theorem wC {O l m':List UInt32} {i k c m:Nat} (hm:m=m'.length) (hi:i<l.length) (h:lw O+4294967296 ^ (i+k) * c=lw (l.take i) * lw m'+4294967296 ^ i * (l.getD i 0).toNat * lw m') (hc:0<c):k≤m:=by
 have h1:lw (l.take i) * lw m'+4294967296 ^ i * (l.getD i 0).toNat * lw m'=lw (l.take (i+1)) * lw m':=by
  rw [cO,Nat.add_mul]
 have h2:=fF (l.take (i+1))
 have h3:(l.take (i+1)).length=i+1:=by rw [List.length_take];omega
 rw [h3] at h2;have h4:=fF m';rw [← hm] at h4
 have h5:lw (l.take (i+1)) * lw m'<4294967296 ^ (i+1) * 4294967296 ^ m:=by
  rcases Nat.eq_zero_or_pos (lw m') with h0|h0
  ·rw [h0,Nat.mul_zero]
   exact Nat.mul_pos (Nat.pow_pos (by omega)) (Nat.pow_pos (by omega))
  ·exact Nat.mul_lt_mul_of_lt_of_le h2 (Nat.le_of_lt h4) (Nat.pow_pos (by omega))
 rw [← Nat.pow_add] at h5;have h6:4294967296 ^ (i+k)≤4294967296 ^ (i+k) * c:=Nat.le_mul_of_pos_right _ hc
 have h7:4294967296 ^ (i+k)<4294967296 ^ (i+1+m):=by omega
 have h8:=(Nat.pow_lt_pow_iff_right (a:=4294967296) (by omega)).1 h7
 omega
theorem lU (l:List UInt32) (j:Nat) (d:UInt32):(l.map W32).set j (W32 d)=(l.set j d).map W32:=by rw [List.map_set]
theorem Blk.digit {w:World} {g:Nat} {t:TypeId} {l:List UInt32} (h:Blk w g t (l.map W32)) {j:Nat} (hj:j<l.length):w.cell? ⟨g,j,none⟩=some (.int .u32 ((l.getD j 0).toNat:Int)):=by
 have:=h.cell (j:=j) (u:=W32 l[j]) (by simp [hj]);rw [this]
 simp [W32,List.getD,hj]
theorem Blk.rd {w:World} {g n:Nat} {t:TypeId} {l:List UInt32} (h:Blk w g t (l.map W32)) (hn:l.length=n) (hm:n≤maxLen):Rd w 1 (.slice (some ⟨g,0,none⟩) n n) n (l.map W32) :=
 Rd.of_cl h.cl h.lt (by rw [List.length_map,hn]) (Nat.le_refl _) hm
theorem mA (n:Nat):lw (List.replicate n (0:UInt32))=0:=xL n
theorem oH (v v':Value) (x0 y0:Nat) (w:World) (hr:Lm x0 v w) (hr':Lm y0 v' w) (hx:(ld x0).length≤16777216) (hy:(ld y0).length≤16777216) :
  Calls Tryz.prog 119 #[v,v'] w fun e w'=>∃ u,e=.returned u∧Lm (x0 * y0) u w'∧Below w.heap.size w w':=by
 obtain ⟨A,c0,rfl,hr⟩:=hr;obtain ⟨A',c1,rfl,hr'⟩:=hr';have hL:=dT x0;have hM:=dT y0;generalize ld x0=l at hr hx hL ⊢;generalize ld y0=m' at hr' hy hM ⊢;obtain ⟨n,hn⟩:∃ n,n=l.length:=⟨_,rfl⟩;obtain ⟨m,hm⟩:∃ m,m=m'.length:=⟨_,rfl⟩;rw [← hn] at hr hx ⊢;rw [← hm] at hr' hy ⊢;have HLL:=Lib.hid hn;have HMM:=Lib.hid hm;have HL:=Lib.hid hL;have HM:=Lib.hid hM;obtain ⟨N,hN⟩:∃ N,N=n+m+1:=⟨_,rfl⟩
 have hN2:N≤n+m+1:=by omega
 have hN3:n+m+1≤N:=by omega
 clear hn hm hL hM hN
 have hrX:∀ X,Below w.heap.size w X→Rd X 1 (.slice A n c0) n (l.map W32):=fun X h=>hr.below h
 have hr'X:∀ X,Below w.heap.size w X→Rd X 1 (.slice A' m c1) m (m'.map W32):=fun X h=>hr'.below h
 have hrX:=Lib.hid hrX;have hr'X:=Lib.hid hr'X
 go_enter Tryz.func119,Tryz.ntmps119
 go_upto_region 1 with fail;refine bC [none,none,none,none,none,none,some (MadeB N w.heap.size)] (aA (aA (aA (aA (aA (aA (aD (MadeB.lasts _ _) (aF)))))))) ?_;simp only [iX,Nat.reduceAdd];refine jg (.slice A n c0) (fun X _ _=>by rfl) ?_;refine jv (vI n) (aJ Tryz.underlying133 _ (by rfl) A n c0 (by rfl) _ rfl) ?_;refine jg (.slice A' m c1) (fun X _ _=>by rfl) ?_;refine jv (vI m) (aJ Tryz.underlying133 _ (by rfl) A' m c1 (by rfl) _ rfl) ?_;refine jv (vI ((n:Int)+(m:Int))) (bB _ _ _ _ (by rfl) (n:Int) (m:Int) ((n:Int)+(m:Int)) (by rfl) (by rfl) (by omega) (by omega) (by omega)) ?_;refine jv (vI ((n:Int)+(m:Int)+1)) (bB _ _ _ _ (by rfl) ((n:Int)+(m:Int)) 1 ((n:Int)+(m:Int)+1) (by rfl) (by rfl) (by omega) (by omega) (by omega)) ?_;refine aW (by rfl) (fun X hX hF=>lG _ _ (by rfl) N w.heap.size (by rfl) (by rfl) (by omega) (by omega) X hX.size) ?_;intro v17;simp only [pX];refine jg (v17) (fun X _ _=>by rfl) ?_;refine aH ?_;intro W0 hW0 hF;obtain ⟨g,rfl,hg,hB0⟩:=hF _ _ List.mem_cons_self;clear hF;have b0:Below w.heap.size w W0:=hW0;clear hW0
 go_wp2
 go_loopw [20] (fun iv wr=>∃ (i:Nat) (O:List UInt32),i≤n∧iv=vI i∧O.length=N∧lw O=lw (l.take i) * lw m'∧Blk wr g 141 (O.map W32)∧Below w.heap.size w wr) (fun iv _=>n-(intOf iv).toNat)
 case atStart=>exact ⟨0,List.replicate N 0,by omega,rfl,List.length_replicate,by rw [mA];simp [fR],hB0,b0⟩
 case round =>
  clear hB0 b0;obtain ⟨i,O,hi,rfl,hO,hlw,hB,hb⟩:=hrel;have HO:=Lib.hid hO;have HLW:=Lib.hid hlw;clear hO hlw
  by_cases hlt:i<n
  ·obtain ⟨b1,o1,rfl,hb1,hc1⟩:=(hrX.out _ hb).digit hlt
   obtain ⟨a,ha⟩:∃ a,a=(l.getD i 0).toNat:=⟨_,rfl⟩;rw [← ha] at hc1;have ba:a<4294967296:=ha ▸ dI _;have HA:=Lib.hid ha;clear ha;go_upto_region 4 with fail;refine aU ?_;simp only [iX,Nat.reduceAdd];refine je (vI i) (by rfl) ?_;refine je (vP b1 (o1+i)) (cS Tryz.underlying133 bT _ _ (by rfl) b1 (o1) n c0 i (by omega) (by rfl) (by rfl) (by omega) _) ?_;refine je (.int .u32 (a:Int)) (bN 141 _ (by rfl) b1 (o1+i) (by rfl) _ _ (hc1) (fun X u h=>cG b1 (o1+i) X u h)) ?_;refine je (vI i) (by rfl) ?_;refine je (.int .u32 (a:Int)) (by rfl) ?_;refine aH ?_
   rintro _ rfl _
   clear hc1
   go_wp2
   go_loopw [8,9] (fun cv kv wr=>∃ (k c:Nat) (O':List UInt32),k≤m+1∧c<4294967296∧kv=vI k∧cv=.int .u64 (c:Int)∧O'.length=N∧lw O'+4294967296 ^ (i+k) * c=lw (l.take i) * lw m'+4294967296 ^ i * a * lw (m'.take k)∧Blk wr g 141 (O'.map W32)∧Below w.heap.size w wr) (fun _ kv _=>m+2-(intOf kv).toNat)
   case atStart=>exact ⟨0,0,O,by omega,by omega,rfl,rfl,HO.out,by rw [HLW.out];simp [fR],hB,hb⟩
   case round =>
    clear hB hb;obtain ⟨k,c,O',hk,hc,rfl,rfl,hO',hlw',hB,hb⟩:=hrel
    have hin:k<m∨(0<c→k≤m):=by
     by_cases h:k<m
     ·exact .inl h
     ·refine .inr fun h0=>?_
      rw [dM (show m'.length≤k by rw [← HMM.out];omega),HA.out] at hlw';exact wC HMM.out (by rw [← HLL.out];exact hlt) hlw' h0
    have HO':=Lib.hid hO';have HLW':=Lib.hid hlw';clear hO' hlw'
    by_cases hgo:k<m∨0<c
    ·have hkm:k≤m:=by rcases hin with h|h <;> rcases hgo with h'|h' <;> first|omega|(have:=h h';omega)
     have hj:i+k<O'.length:=by rw [HO'.out];omega
     obtain ⟨y,hy2⟩:∃ y,y=(m'.getD k 0).toNat:=⟨_,rfl⟩;obtain ⟨x,hx2⟩:∃ x,x=(O'.getD (i+k) 0).toNat:=⟨_,rfl⟩;have by':y<4294967296:=hy2 ▸ dI _;have bx:x<4294967296:=hx2 ▸ dI _;have hay:a * y≤4294967295 * 4294967295:=Nat.mul_le_mul (by omega) (by omega);have hst:=rS (s:=a * y+x+c) (d':=(a * y+x+c) / 4294967296) hj HLW'.out (by rw [hy2,hx2]) rfl;have HY:Hid ((m'.getD k 0).toNat=y):=hy2.symm;have HX:Hid ((O'.getD (i+k) 0).toNat=x):=hx2.symm;have HP0:Hid ((a:Int) * (y:Int)=((a * y:Nat):Int)):=(Int.natCast_mul _ _).symm;clear hy2 hx2;generalize a * y=p at hay hst HP0;have HP:Hid ((a:Int) * (y:Int)=(p:Int)):=HP0.out;have HST:=Lib.hid hst;clear hst HP0
     have hNk:i+k<N:=by have:=HO'.out;omega
     rcases Nat.lt_or_ge k m with hkl|hkl
     all_goals (try (have hc0:0<c:=by omega))
     all_goals
      go_upto_region 9 with fail;refine jd ?_;refine jg (.int .u32 (a:Int)) (fun X _ _=>by rfl) ?_;refine jv (.int .u64 (a:Int)) (bQ _ _ .u32 .u64 Tryz.underlying141 Tryz.underlying148 _ (by rfl) (a:Int) (a:Int) (by rfl) (by rw [w64 (by omega) (by omega)])) ?_;refine jg (.slice A' m c1) (fun X _ _=>by rfl) ?_;refine jg (vI k) (fun X _ _=>by rfl) ?_;refine jc (.int .u64 (y:Int)) (fun X hX hF=>(atC A' m c1 m' k X (hr'X.out X (aG hb hX))).mono fun e X' ⟨h1,h2⟩=>⟨by rw [h1,HY.out],dG h2⟩) ?_;refine jv (.int .u64 (p:Int)) (jE _ _ _ _ (by rfl) .u64 (a:Int) (y:Int) (p:Int) (by rfl) (by rfl) (by rw [HP.out];exact w64 (by omega) (by omega))) ?_;refine jg (.slice (some ⟨g,0,none⟩) N N) (fun X _ _=>by rfl) ?_;refine jg (vI i) (fun X _ _=>by rfl) ?_;refine jg (vI k) (fun X _ _=>by rfl) ?_;refine jv (vI ((i:Int)+(k:Int))) (bB _ _ _ _ (by rfl) (i:Int) (k:Int) ((i:Int)+(k:Int)) (by rfl) (by rfl) (by omega) (by omega) (by omega)) ?_;refine jv (vP g (i+k)) (eN Tryz.underlying133 bT _ _ (by rfl) g N N (i+k) (by omega) (by rfl) (by rfl) (by omega)) ?_;refine jg (.int .u32 (x:Int)) (fun X hX hF=>bN 141 _ (by rfl) g ((i+k)) (by rfl) _ X ((hB.bel hX).digit hj |>.trans (by rw [HX.out])) (fun X u h=>cG g ((i+k)) X u h)) ?_;refine jv (.int .u64 (x:Int)) (bQ _ _ .u32 .u64 Tryz.underlying141 Tryz.underlying148 _ (by rfl) (x:Int) (x:Int) (by rfl) (by rw [w64 (by omega) (by omega)])) ?_
      refine jv (.int .u64 ((p:Int)+(x:Int))) (gU _ _ _ _ (by rfl) .u64 (p:Int) (x:Int) ((p:Int)+(x:Int)) (by rfl) (by rfl) (w64 (by omega) (by omega))) ?_;refine jg (.int .u64 (c:Int)) (fun X _ _=>by rfl) ?_;refine jv (.int .u64 ((p:Int)+(x:Int)+(c:Int))) (gU _ _ _ _ (by rfl) .u64 ((p:Int)+(x:Int)) (c:Int) ((p:Int)+(x:Int)+(c:Int)) (by rfl) (by rfl) (w64 (by omega) (by omega))) ?_;refine jg (.int .u64 ((p:Int)+(x:Int)+(c:Int))) (fun X _ _=>by rfl) ?_;refine aH ?_;intro X hX _;have hB:=hB.bel hX;have hb:=aG hb hX;clear hX
      have hs3:p+x+c<18446744073709551616:=by omega
      rw [show ((p:Int)+(x:Int)+(c:Int))=((p+x+c:Nat):Int) by omega];generalize p+x+c=s at HST hs3 ⊢;clear HY HX HP bx by' hay;go_upto_region 10 with fail;refine bW 9 ?_;simp only [its,List.take,List.drop,Nat.zero_add,Nat.reduceAdd];refine je (.slice (some ⟨g,0,none⟩) N N) (by rfl) ?_;refine je (vI i) (by rfl) ?_;refine je (vI k) (by rfl) ?_;refine je (vI ((i:Int)+(k:Int))) (bB _ _ _ _ (by rfl) (i:Int) (k:Int) ((i:Int)+(k:Int)) (by rfl) (by rfl) (by omega) (by omega) (by omega) _) ?_;refine je (.int .u64 (s:Int)) (by rfl) ?_;refine je (.int .u32 ((s:Int) % 4294967296)) (bQ _ _ .u64 .u32 Tryz.underlying148 Tryz.underlying141 _ (by rfl) (s:Int) ((s:Int) % 4294967296) (by rfl) (by rw [IntKind.wrap_u32]) _) ?_;refine je (.int .u64 (s:Int)) (by rfl) ?_;refine je (.int .u64 ((s:Int) / 4294967296)) (iT _ _ _ _ (by rfl) .u64 .u64 (s:Int) ((s:Int) / 4294967296) 32 (by rfl) (by rfl) rfl (by decide) (by rfl) _) ?_;refine je (vP g (i+k)) (eN Tryz.underlying133 bT _ _ (by rfl) g N N (i+k) (by omega) (by rfl) (by rfl) (by omega) _) ?_;refine aH ?_
      rintro _ rfl _
      have q1:=hB.digit hj;have q2:=hB.free (i+k)
      go_wp2
      go_roundw
      case rel =>
       have h9:=hB.set (i+k) (W32 (UInt32.ofNat s));rw [lU] at h9
       have e9:W32 (UInt32.ofNat s)=Value.int .u32 ((s:Int) % 4294967296):=by rw [← pZ];exact eX (by omega)
       rw [e9] at h9;refine ⟨k+1,s / 4294967296,O'.set (i+k) (UInt32.ofNat s),by omega,by omega,by go_num,eX (by omega),by rw [List.length_set];exact HO'.out,HST.out,h9,hb.setCell (by simp;omega) _⟩
      case measure=>simp [intOf];omega
    ·have hkm:¬ k<m:=fun h=>hgo (.inl h)
     obtain rfl:c=0:=by omega
     have hfin:lw O'=lw (l.take (i+1)) * lw m':=by
      have h:=HLW'.out;rw [dM (show m'.length≤k by rw [← HMM.out];omega),HA.out] at h;rw [cO,Nat.add_mul]
      omega
     have HFIN:=Lib.hid hfin;clear hfin
     go_wp2
     go_roundw
     case rel=>exact ⟨i+1,O',by omega,by go_num,HO'.out,HFIN.out,hB,hb⟩
     case measure=>simp [intOf];omega
  ·have hin:i=n:=by omega
   have hz:lw O=x0 * y0:=by rw [HLW.out,dM (by rw [← HLL.out];omega),HL.out,HM.out]
   have HZ:=Lib.hid hz;have hR:=hB.rd HO.out (by unfold maxLen;omega);clear hz hin
   go_wp2_with fail
   refine (nR _ N N O _ hR (by omega)).mono ?_
   rintro e w' ⟨rfl,ht,rfl⟩
   rw [HZ.out] at ht;rw [HZ.out];have hpre:=hR.pre1 (k:=(ld (x0 * y0)).length) (by have:=congrArg List.length ht;rw [List.length_take,HO.out] at this;omega);rw [ht] at hpre;have HT:=Lib.hid ht;clear ht
   go_wp2
   go_ret
   exact ⟨_,rfl,⟨_,N,rfl,hpre⟩,hb⟩
theorem rT {l O:List UInt32} {k d r x q r' T:Nat} (hl:k<l.length) (hO:O.length=l.length) (hd:0<d) (hr:r=lw (l.drop (k+1)) % d) (hq0:lw (O.drop (k+1))=lw (l.drop (k+1)) / d) (hx:x=(l.getD k 0).toNat) (hx2:x<4294967296) (hd2:d<4294967296)
  (hT:T=r * 2 ^ 32+x) (hq:q=T / d) (hr':r'=T % d):q<4294967296∧r'=lw (l.drop k) % d∧lw ((O.set k (UInt32.ofNat q)).drop k)=lw (l.drop k) / d:=by
 have hrd:r<d:=hr ▸ Nat.mod_lt _ hd
 have hqb:q<4294967296:=by
  rw [hq,Nat.div_lt_iff_lt_mul hd,hT];have:(r+1) * 2 ^ 32≤d * 2 ^ 32:=Nat.mul_le_mul_right _ hrd;rw [Nat.add_mul] at this
  omega
 have hdrop:lw (l.drop k)=x+4294967296 * lw (l.drop (k+1)):=by
  rw [List.drop_eq_getElem_cons hl,fH,hx]
  simp [List.getD,hl]
 have hmd:=Nat.mod_add_div (lw (l.drop (k+1))) d
 have hval:lw (l.drop k)=T+d * (4294967296 * (lw (l.drop (k+1)) / d)):=by
  rw [hdrop,hT,hr]
  have e1:d * (4294967296 * (lw (l.drop (k+1)) / d))=4294967296 * (d * (lw (l.drop (k+1)) / d)):=by rw [Nat.mul_left_comm]
  rw [e1]
  omega
 refine ⟨hqb,?_,?_⟩
 ·rw [hval,Nat.add_mul_mod_self_left]
  exact hr'
 ·rw [hval,Nat.add_mul_div_left _ _ hd,← hq0,← hq]
  have hk:k<(O.set k (UInt32.ofNat q)).length:=by rw [List.length_set];omega
  rw [List.drop_eq_getElem_cons hk,fH,List.getElem_set_self,List.drop_set_of_lt (by omega),iH,Nat.mod_eq_of_lt hqb]
theorem qXr (v:Value) (x0 d:Nat) (w:World) (hr:Lm x0 v w) (hx:(ld x0).length≤16777216) (hd:0<d) (hd2:d<4294967296) :
  Calls Tryz.prog 124 #[v,.int .u32 (d:Int)] w fun e w'=>∃ u,e=.returned (.tuple #[u,.int .u32 ((x0 % d:Nat):Int)])∧Lm (x0 / d) u w'∧Fr w.heap.size u∧Below w.heap.size w w':=by
 obtain ⟨A,c0,rfl,hr⟩:=hr;have hL:=dT x0;generalize ld x0=l at hr hx hL ⊢;obtain ⟨n,hn⟩:∃ n,n=l.length:=⟨_,rfl⟩;rw [← hn] at hr hx ⊢;have HLL:=Lib.hid hn;have HL:=Lib.hid hL
 have hrX:∀ X,Below w.heap.size w X→Rd X 1 (.slice A n c0) n (l.map W32):=fun X h=>hr.below h
 have hrX:=Lib.hid hrX;clear hn hL
 go_enter Tryz.func124,Tryz.ntmps124
 go_upto_region 1 with fail;refine bC [none,none,some (MadeB n w.heap.size)] (aA (aA (aD (MadeB.lasts _ _) (aF)))) ?_;simp only [iX,Nat.reduceAdd];refine jg (.slice A n c0) (fun X _ _=>by rfl) ?_;refine jv (vI n) (aJ Tryz.underlying133 _ (by rfl) A n c0 (by rfl) _ rfl) ?_;refine aW (by rfl) (fun X hX hF=>lG _ _ (by rfl) n w.heap.size (by rfl) (by rfl) rfl (by omega) X hX.size) ?_;intro v11;simp only [pX];refine jg (v11) (fun X _ _=>by rfl) ?_;refine jg (.int .u64 0) (fun X _ _=>by rfl) ?_;refine aH ?_;intro W0 hW0 hF;obtain ⟨g,rfl,hg,hB0⟩:=hF _ _ List.mem_cons_self;clear hF;have b0:Below w.heap.size w W0:=hW0;clear hW0
 go_wp2
 go_loopw [7,8] (fun rv kv wr=>∃ (j r:Nat) (O:List UInt32),j≤n∧kv=vI ((j:Int)-1)∧rv=.int .u64 (r:Int)∧r=lw (l.drop j) % d∧O.length=n∧lw (O.drop j)=lw (l.drop j) / d∧Blk wr g 141 (O.map W32)∧Below w.heap.size w wr) (fun _ kv _=>(intOf kv+1).toNat)
 case atStart=>exact ⟨n,0,List.replicate n 0,by omega,rfl,rfl,by rw [List.drop_eq_nil_of_le (by rw [← HLL.out];omega),fR,Nat.zero_mod],List.length_replicate,by rw [List.drop_eq_nil_of_le (show (List.replicate n (0:UInt32)).length≤n by rw [List.length_replicate];omega),List.drop_eq_nil_of_le (show l.length≤n by rw [← HLL.out];omega),fR,Nat.zero_div],hB0,b0⟩
 case round =>
  clear hB0 b0;obtain ⟨j,r,O,hj,rfl,rfl,hrm,hO,hq0,hB,hb⟩:=hrel
  by_cases h0:j=0
  ·subst h0
   have hz:lw O=x0 / d:=by simpa [HL.out] using hq0
   have hz2:r=x0 % d:=by simpa [HL.out] using hrm
   have hrb:r<4294967296:=by
    have:=Nat.mod_lt x0 hd
    omega
   have HZ:=Lib.hid hz;have HZ2:=Lib.hid hz2;have HO:=Lib.hid hO;have hR:=hB.rd hO (by unfold maxLen;omega);have hwr:IntKind.u32.wrap (r:Int)=(r:Int):=w32 (by omega) (by omega);clear hz hz2 hO hq0 hrm
   go_wp2_with fail
   refine (nR _ n n O _ hR (by omega)).mono ?_
   rintro e w' ⟨rfl,ht,rfl⟩
   rw [HZ.out] at ht;rw [HZ.out];have hpre:=hR.pre1 (k:=(ld (x0 / d)).length) (by have:=congrArg List.length ht;rw [List.length_take,HO.out] at this;omega);rw [ht] at hpre;have HT:=Lib.hid ht;clear ht
   go_wp2
   go_ret2
   exact ⟨_,by rw [← HZ2.out];rfl,⟨_,n,rfl,hpre⟩,⟨_,_,_,rfl,.inr ⟨g,rfl,hg⟩⟩,hb⟩
  ·obtain ⟨k,rfl⟩:∃ k,j=k+1:=⟨j-1,by omega⟩
   rw [show (((k+1:Nat):Int)-1)=(k:Int) by omega];obtain ⟨b1,o1,rfl,hb1,hc1⟩:=(hrX.out _ hb).digit (k:=k) (by omega);obtain ⟨x,hx3⟩:∃ x,x=(l.getD k 0).toNat:=⟨_,rfl⟩;rw [← hx3] at hc1;have bx:x<4294967296:=hx3 ▸ dI _;have hrd:r<d:=hrm ▸ Nat.mod_lt _ hd;obtain ⟨T,hT⟩:∃ T,T=r * 2 ^ 32+x:=⟨_,rfl⟩;obtain ⟨q,hq⟩:∃ q,q=T / d:=⟨_,rfl⟩;obtain ⟨r',hr'⟩:∃ r',r'=T % d:=⟨_,rfl⟩;have hst:=rT (by rw [← HLL.out];omega) (by rw [hO,HLL.out]) hd hrm hq0 hx3 bx hd2 hT hq hr';have hqb:=hst.1;have HST:=Lib.hid hst.2
   have HQ:Hid ((T:Int) / (d:Int)=((q:Nat):Int)):=by show _=_;rw [hq];push_cast;rfl
   have HR':Hid ((T:Int) % (d:Int)=((r':Nat):Int)):=by show _=_;rw [hr'];push_cast;rfl
   have HW:Hid ((Value.int .u32 ((q:Nat):Int))=W32 (UInt32.ofNat q)):=by show _=_;rw [← pZ,Nat.mod_eq_of_lt hqb]
   have hqz:(T:Int) / (d:Int)<4294967296:=by rw [HQ.out];omega
   have hqz2:(T:Int) / (d:Int)<18446744073709551616:=by omega
   go_upto_region 5 with fail;refine aU ?_;simp only [iX,Nat.reduceAdd];refine je (.int .u64 (r:Int)) (by rfl) ?_;refine je (.int .u64 ((r * 2 ^ 32:Nat):Int)) (eM _ _ _ _ (by rfl) .u64 .u64 (r:Int) ((r * 2 ^ 32:Nat):Int) 32 (by rfl) (by rfl) rfl (by decide) (by rw [w64 (by omega) (by omega)];omega) _) ?_;refine je (.slice (some ⟨b1,o1,none⟩) n c0) (by rfl) ?_;refine je (vI k) (by rfl) ?_;refine je (vP b1 (o1+k)) (cS Tryz.underlying133 bT _ _ (by rfl) b1 (o1) n c0 k (by omega) (by rfl) (by rfl) (by omega) _) ?_;refine je (.int .u32 (x:Int)) (bN 141 _ (by rfl) b1 (o1+k) (by rfl) _ _ (hc1) (fun X u h=>cG b1 (o1+k) X u h)) ?_;refine je (.int .u64 (x:Int)) (bQ _ _ .u32 .u64 Tryz.underlying141 Tryz.underlying148 _ (by rfl) (x:Int) (x:Int) (by rfl) (by rw [w64 (by omega) (by omega)]) _) ?_;refine je (.int .u64 ((r * 2 ^ 32+x:Nat):Int)) (kH _ _ _ _ (by rfl) .u64 ((r * 2 ^ 32:Nat):Int) (x:Int) ((r * 2 ^ 32+x:Nat):Int) (by rfl) (by rfl) (zL r x 32 (by omega) (by omega)) _) ?_;refine je (.int .u64 ((r * 2 ^ 32+x:Nat):Int)) (by rfl) ?_;refine aH ?_
   rintro _ rfl _
   rw [← hT];clear hst hq hr' hx3 hrm hq0 hT hc1;go_upto_region 6 with fail;refine kE g 141 (O.map W32) ((O.set k (UInt32.ofNat q)).map W32) (List.replicate 12 none++[some (fun _ X=>Blk X g 141 ((O.set k (UInt32.ofNat q)).map W32))]) (by kernel_rfl) (by kernel_rfl) nQ ?_;simp only [its,List.replicate,List.cons_append,List.nil_append,Nat.zero_add,Nat.reduceAdd];refine jg (.slice (some ⟨g,0,none⟩) n n) (fun X _ _=>by rfl) ?_;refine jg (vI k) (fun X _ _=>by rfl) ?_;refine jg (.int .u64 (T:Int)) (fun X _ _=>by rfl) ?_;refine jg (.int .u32 (d:Int)) (fun X _ _=>by rfl) ?_;refine jv (.int .u64 (d:Int)) (bQ _ _ .u32 .u64 Tryz.underlying141 Tryz.underlying148 _ (by rfl) (d:Int) (d:Int) (by rfl) (by rw [w64 (by omega) (by omega)])) ?_;refine jv (.int .u64 ((T:Int) / (d:Int))) (rH _ _ _ _ (by rfl) .u64 (T:Int) (d:Int) ((T:Int) / (d:Int)) (by rfl) (by rfl) (by omega) (by omega) rfl (w64 (Int.ediv_nonneg (by omega) (by omega)) (by omega))) ?_;refine jv (.int .u32 ((q:Nat):Int)) (bQ _ _ .u64 .u32 Tryz.underlying148 Tryz.underlying141 _ (by rfl) ((T:Int) / (d:Int)) ((q:Nat):Int) (by rfl) (by rw [w32 (Int.ediv_nonneg (by omega) (by omega)) (by omega)];exact HQ.out)) ?_;refine jg (.int .u64 (T:Int)) (fun X _ _=>by rfl) ?_;refine jg (.int .u32 (d:Int)) (fun X _ _=>by rfl) ?_;refine jv (.int .u64 (d:Int)) (bQ _ _ .u32 .u64 Tryz.underlying141 Tryz.underlying148 _ (by rfl) (d:Int) (d:Int) (by rfl) (by rw [w64 (by omega) (by omega)])) ?_
   refine jv (.int .u64 ((r':Nat):Int)) (yF _ _ _ _ (by rfl) .u64 (T:Int) (d:Int) ((r':Nat):Int) (by rfl) (by rfl) (by omega) (by omega) HR'.out) ?_;refine jv (vP g k) (eN Tryz.underlying133 bT _ _ (by rfl) g n n k (by omega) (by rfl) (by rfl) (by omega)) ?_;refine xH (by rfl) 141 (.tmp 38) (.tmp 33) (by rfl) rfl (k) (by rfl) (.int .u32 ((q:Nat):Int)) (by rfl) hB (by rw [show (Value.int .u32 ((q:Nat):Int))=W32 (UInt32.ofNat q) from HW.out,lU]) (by rw [List.length_map];omega) (fun X u h1 h2=>vL _ _ (by rfl) _ _ (by rfl) (by rfl) u X h1 h2) ?_;refine jg (.int .u64 ((r':Nat):Int)) (fun X _ _=>by rfl) ?_;refine aH ?_;intro X hX hF;have hB':=hF _ _ List.mem_cons_self;have hb':=hX.below hb hb.size hg;clear hF hX hB hb hqz hqz2;have HO:=Lib.hid hO;clear hO
   go_wp2
   go_roundw
   case rel=>exact ⟨k,r',O.set k (UInt32.ofNat q),by omega,rfl,rfl,HST.out.1,by rw [List.length_set];exact HO.out,HST.out.2,hB',hb'⟩
   case measure=>simp [intOf]
theorem wL (v:Value) (x0 d:Nat) (w:World) (hr:Lm x0 v w) (hx:(ld x0).length≤16777216) (hd:0<d) (hd2:d<4294967296) :
  Calls Tryz.prog 124 #[v,.int .u32 (d:Int)] w fun e w'=>∃ u,e=.returned (.tuple #[u,.int .u32 ((x0 % d:Nat):Int)])∧Lm (x0 / d) u w'∧Below w.heap.size w w' :=
 (qXr v x0 d w hr hx hd hd2).mono fun _ _ ⟨u,h1,h2,_,h4⟩=>⟨u,h1,h2,h4⟩
theorem rK {f:Operand→Value} {o:Oper} (x:Operand) (ho:o.op=.buildSlice 133 1 #[(0,x)]) (n:Int) (hx:f x=.int .u32 n) (X:World) :
  (execOp f o).run Tryz.prog X=.ok (.value (.slice (some ⟨X.heap.size,0,none⟩) 1 1)) (X.alloc (.cells #[.int .u32 n] 141)):=by
 unfold execOp
 simp only [ho]
 go_simp
theorem yL {f:Operand→Value} {o:Oper} (x y:Operand) (ho:o.op=.buildSlice 133 2 #[(0,x),(1,y)]) (m n:Int) (hx:f x=.int .u32 m) (hy:f y=.int .u32 n) (X:World) :
  (execOp f o).run Tryz.prog X=.ok (.value (.slice (some ⟨X.heap.size,0,none⟩) 2 2)) (X.alloc (.cells #[.int .u32 m,.int .u32 n] 141)):=by
 unfold execOp
 simp only [ho]
 go_simp
theorem iN {d:Nat} (h0:0<d) (h:d<4294967296):ld d=[UInt32.ofNat d]:=by
 have h1:lw [UInt32.ofNat d]=d:=by rw [oZ,iH,Nat.mod_eq_of_lt h]
 have h2:=qVe (l:=[UInt32.ofNat d]) (by
  simp only [List.getLast?_singleton,ne_eq,Option.some.injEq];intro h3;have:=congrArg UInt32.toNat h3;rw [iH,Nat.mod_eq_of_lt h] at this;have h4:(0:UInt32).toNat=0:=rfl
  omega)
 rw [h1] at h2;exact h2
theorem Dg.new1 (X:World) (n:Int) (d:UInt32) (hd:n=(d.toNat:Int)):Dg [d] (.slice (some ⟨X.heap.size,0,none⟩) 1 1) (X.alloc (.cells #[.int .u32 n] 141)):=by
 subst hd;exact ⟨_,1,rfl,(Blk.new (xs:=[d].map W32) rfl).rd rfl (by show 1≤maxLen;unfold maxLen;omega)⟩
theorem Dg.new2 (X:World) (m n:Int) (d e:UInt32) (hd:m=(d.toNat:Int)) (he:n=(e.toNat:Int)):Dg [d,e] (.slice (some ⟨X.heap.size,0,none⟩) 2 2) (X.alloc (.cells #[.int .u32 m,.int .u32 n] 141)):=by
 subst hd he;exact ⟨_,2,rfl,(Blk.new (xs:=[d,e].map W32) rfl).rd rfl (by show 2≤maxLen;unfold maxLen;omega)⟩
theorem bU (X:World) (ob:Obj):Since X (X.alloc ob):=(Below.refl X.heap.size X).alloc (Nat.le_refl _) ob
theorem nD {f:Operand→Value} {o:Oper} (x:Operand) (ho:o.op=.buildSlice 133 1 #[(0,x)]) (d:Nat) (h0:0<d) (h:d<4294967296) {n:Int} (hx:f x=.int .u32 n) (hn:n=(d:Int)) (X:World) :
  ∃ v X',(execOp f o).run Tryz.prog X=.ok (.value v) X'∧Lm d v X'∧Since X X':=by
 refine ⟨_,_,rK x ho n hx X,?_,bU X _⟩
 show Dg (ld d) _ _
 rw [show ld d=[UInt32.ofNat d] from iN h0 h];exact Dg.new1 X n _ (by rw [iH,Nat.mod_eq_of_lt h];exact hn)
theorem kI {P:Program} {f:Operand→Value} {o:Oper} (t:TypeId) (x:Operand) (ho:o.op=.unOp .neg t x) (m r:Int) (hx:f x=vI m) (hr:-m=r) (h1:-9223372036854775808≤r) (h2:r≤9223372036854775807) (w:World):(execOp f o).run P w=.ok (.value (vI r)) w:=by
 have h:IntKind.i64.wrap r=r:=IntWalk.i64_in _ ⟨h1,h2⟩
 unfold execOp
 simp only [ho,hx]
 go_simp
theorem rU (v:Value) (x0 b:Nat) (w:World) (hr:Lm x0 v w) (hx:(ld x0).length≤16777216) (hb:b≤31) :
  Calls Tryz.prog 125 #[v,vI b] w fun e w'=>∃ u,e=.returned u∧Lm (x0 * 2 ^ b) u w'∧Below w.heap.size w w':=by
 have hpos:0<2 ^ b:=Nat.pow_pos (by omega);have hlt2:2 ^ b<4294967296:=Nat.lt_of_le_of_lt (Nat.pow_le_pow_right (by omega) hb) (by decide)
 have HB:Hid (IntKind.u32.wrap (1 * 2 ^ b)=((2 ^ b:Nat):Int)):=by
  show _=_
  have e:(1:Int) * 2 ^ b=((2 ^ b:Nat):Int):=by push_cast;omega
  rw [e];exact w32 (by omega) (by omega)
 go_enter Tryz.func125,Tryz.ntmps125
 go_upto_region 4 with fail;refine bC [none,none,none,some (Lm (2 ^ b)),some (Lm (x0 * 2 ^ b))] (aA (aA (aA (aD (Dg.lasts _) (aD (Dg.lasts _) (aF)))))) ?_;simp only [iX,Nat.reduceAdd];refine jg (v) (fun X _ _=>by rfl) ?_;refine jg (vI b) (fun X _ _=>by rfl) ?_;refine jv (.int .u32 ((2 ^ b:Nat):Int)) (eM _ _ _ _ (by rfl) .u32 .i64 1 ((2 ^ b:Nat):Int) b (by rfl) (by rfl) rfl (by show b≤32;omega) HB.out) ?_;refine aW (by rfl) (fun X hX hF=>nD _ (by rfl) (2 ^ b) hpos hlt2 (by rfl) rfl X) ?_;intro v21;simp only [pX];refine jk (fun X hX hF=>oH v v21 x0 (2 ^ b) X (hr.bel hX) (hF _ _ List.mem_cons_self rfl) hx (by rw [iN hpos hlt2];exact Nat.le_of_ble_eq_true rfl)) ?_;intro v22;refine jg (v22) (fun X _ _=>by rfl) ?_;refine aH ?_;intro X hX hF;have hL:=hF _ _ List.mem_cons_self;clear hF
 go_wp2
 go_ret
 exact ⟨_,rfl,hL,hX⟩
theorem qXt (v:Value) (x0 b:Nat) (w:World) (hr:Lm x0 v w) (hx:(ld x0).length≤16777216) (hb0:0<b) (hb:b≤31) :
  Calls Tryz.prog 125 #[v,vI (-(b:Int))] w fun e w'=>∃ u,e=.returned u∧Lm (x0 / 2 ^ b) u w'∧Below w.heap.size w w':=by
 have hpos:0<2 ^ b:=Nat.pow_pos (by omega);have hlt2:2 ^ b<4294967296:=Nat.lt_of_le_of_lt (Nat.pow_le_pow_right (by omega) hb) (by decide)
 have HB:Hid (IntKind.u32.wrap (1 * 2 ^ b)=((2 ^ b:Nat):Int)):=by
  show _=_
  have e:(1:Int) * 2 ^ b=((2 ^ b:Nat):Int):=by push_cast;omega
  rw [e];exact w32 (by omega) (by omega)
 go_enter Tryz.func125,Tryz.ntmps125
 go_upto_region 2 with fail;refine aV 5 [none,none,none,none,some (fun q Y=>∃ u,q=.tuple #[u,.int .u32 ((x0 % 2 ^ b:Nat):Int)]∧Lm (x0 / 2 ^ b) u Y)] (aA (aA (aA (aA (aD ((by rintro q X Y ⟨u,h1,h2⟩ hS;exact ⟨u,h1,h2.bel hS⟩)) (aF)))))) ?_;simp only [its,List.take,List.drop,Nat.zero_add,Nat.reduceAdd];refine jg (v) (fun X _ _=>by rfl) ?_;refine jg (vI (-(b:Int))) (fun X _ _=>by rfl) ?_;refine jv (vI b) (kI _ _ (by rfl) (-(b:Int)) (b:Int) (by rfl) (by omega) (by omega) (by omega)) ?_;refine jv (.int .u32 ((2 ^ b:Nat):Int)) (eM _ _ _ _ (by rfl) .u32 .i64 1 ((2 ^ b:Nat):Int) b (by rfl) (by rfl) rfl (by show b≤32;omega) HB.out) ?_;refine jk (fun X hX hF=>(wL v x0 (2 ^ b) X (hr.bel hX) hx hpos hlt2).mono fun e X' ⟨u,h1,h2,h3⟩=>⟨_,h1,⟨u,rfl,h2⟩,h3⟩) ?_;intro v14;refine aH ?_;intro X hX hF;obtain ⟨u,hu,hL⟩:=hF _ _ List.mem_cons_self;subst hu;clear hF
 go_wp2
 go_ret
 exact ⟨_,rfl,hL,hX⟩
end Go.Proofs.YtnfpenhldlfafaaGreatDoor

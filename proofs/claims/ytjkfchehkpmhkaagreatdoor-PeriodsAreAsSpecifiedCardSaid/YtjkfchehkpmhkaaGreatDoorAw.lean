/- Layer 44: entries and accounts as values. -/
import Derived.Test.YtjkfchehkpmhkaaGreatDoorProg
import Derived.Maps.Own
import Derived.Maps.Views
import Derived.Test.YtjkfchehkpmhkaaGreatDoorKe
import Derived.Test.YtjkfchehkpmhkaaGreatDoorRf
import Derived.Test.YtjkfchehkpmhkaaGreatDoorLp
import Derived.Test.YtjkfchehkpmhkaaGreatDoorPl44
import Derived.Test.YtjkfchehkpmhkaaGreatDoorLa
set_option linter.unusedSimpArgs false
set_option linter.unusedVariables false
set_option maxRecDepth 100000
set_option maxHeartbeats 1600000
namespace Go.Proofs.YtjkfchehkpmhkaaGreatDoor
open Go.RowKit
theorem tB {X Y:World} {base m n:Nat} {e:TypeId} {v:Value} {xs:List Value} (h:X.ownsRow base e m v n xs) (hk:∀ g t zs,v.ownBlock=some g→Blk X g t zs→Blk Y g t zs):Y.ownsRow base e m v n xs:=by
 obtain ⟨hl,hr⟩:=h;refine ⟨hl,hr.imp id ?_⟩
 rintro ⟨g,cap,cur,rfl,hb,hg,rest⟩
 have h9:Blk X g e cur.toList:=by
  show X.heap[g]?=some (.cells cur.toList.toArray e (0,0))
  rw [Array.toArray_toList];exact hg
 have h8:=hk g e _ rfl h9;refine ⟨g,cap,cur,rfl,hb,?_,rest⟩;have h7:Y.heap[g]?=some (.cells cur.toList.toArray e (0,0)):=h8;rw [Array.toArray_toList] at h7;exact h7
def aw (l:List Int) (f u tick:Nat):Int:=tk l (min l.length (u-tick))-tk l (min l.length (f-tick))
abbrev Wp:=Nat×Nat×Int
instance:Inhabited Wp:=⟨(0,0,0)⟩
def pw (P:List Wp) (k:Nat):Wp:=P.getD k default
def arJ (P:List Wp) (last:Int) (tick:Nat) (w:Int):Prop:=0<P.length∧(pw P (P.length-1)).2.1=tick∧last=w
instance (P:List Wp) (last:Int) (tick:Nat) (w:Int):Decidable (arJ P last tick w):=by unfold arJ;exact inferInstance
def wdc (t:Int) (p:Wp):List Value:=[vI (p.1:Int),vI (p.2.1:Int),.bool (rN (rk p.2.2 t)),vS (rP (rk p.2.2 t)),vS (rD (rk p.2.2 t))]
def Tp (L:Value→World→Prop) (e:Int) (v:Value) (X:World):Prop:=∃ u,v=.tuple #[u,vI e]∧L u X
theorem Tp.lasts {L:Value→World→Prop} (hL:eJ L) (e:Int):eJ (Tp L e):=by
 rintro v X Y ⟨u,h1,h2⟩ hS
 exact ⟨u,h1,hL _ _ _ h2 hS⟩
def Kn (l:List Int) (v:Value) (X:World):Prop:=∃ u,v=.agg #[u]∧Ks l u X
theorem vA (X:World):Ks [] (.slice none 0 0) X:=⟨none,0,rfl,rfl,none,0,rfl,Nat.le_refl _,Nat.zero_le _,fun _=>rfl,fun h=>absurd h (by decide)⟩
def Rq (l:List Rat) (v:Value) (X:World):Prop:=Rl (l.map tr) v X
theorem Rq.of_blk {l:List Rat} {g:Nat} {X:World} (h:Blk X g 40 (fl rc l)) (hl:l.length≤1000000):Rq l (.slice (some ⟨g,0,none⟩) l.length l.length) X:=by
 have h1:fl trc (l.map tr)=fl rc l:=by
  unfold fl
  rw [List.map_map]
  rfl
 show Rd X 3 _ (l.map tr).length (fl trc (l.map tr))
 rw [h1,List.length_map];exact ⟨by rw [qZb],_,_,rfl,Nat.le_refl _,(by unfold maxLen;omega),(fun h=>by cases h),fun _=>⟨g,0,rfl,h.lt,fun j u hj=>by rw [Nat.zero_add];exact h.cell hj⟩⟩
def Pl (P:List Wp) (t:Int) (v:Value) (X:World):Prop:=Rd X 5 v P.length (fl (wdc t) P)
theorem Rd.var {X Y:World} {g m n:Nat} {T:TypeId} {v:Value} {xs:List Value} {A0:Option Addr} {n0 c0:Nat} (h:Rd X m v n xs) (hns:∀ u∈xs,∀ A n c,u≠.slice A n c) (hB:Blk X g T [.slice A0 n0 c0]) (hG:X.grownBy Y (some g)):Rd Y m v n xs:=by
 obtain ⟨hl,A,c,hv,hc,hm,hz,hx⟩:=h;refine ⟨hl,A,c,hv,hc,hm,hz,fun hn=>?_⟩;obtain ⟨b,off,hA,hb,hcell⟩:=hx hn;refine ⟨b,off,hA,Nat.lt_of_lt_of_le hb hG.size,fun j u hj=>?_⟩;have h1:=hcell j u hj
 have hne:b≠g:=fun h9=>by
  subst h9;rw [cell_of_row _ _ _ _ _ _ hB] at h1
  have h2:([Value.slice A0 n0 c0]:List Value)[off+j]?=some u:=by simpa using h1
  rcases Nat.eq_zero_or_pos (off+j) with h3|h3
  ·rw [h3] at h2
   injection h2 with h2
   exact hns u (List.mem_of_getElem? hj) _ _ _ h2.symm
  ·rw [List.getElem?_eq_none (by show 1≤off+j;omega)] at h2
   cases h2
 exact (World.cell?_of_block (w:=X) (a:=⟨b,off+j,none⟩) (hG.block b hb (fun h9=>hne (by injection h9)))).trans h1
theorem Ks.grown {X Y:World} {g:Nat} {T:TypeId} {l:List Int} {v:Value} {A0:Option Addr} {n0 c0:Nat} (hG:X.grownBy Y (some g)) (h:Ks l v X) (hB:Blk X g T [.slice A0 n0 c0]):Ks l v Y:=by
 obtain ⟨A,c,hv,hr⟩:=h;exact ⟨A,c,hv,hr.var (fun u hu A n c h9=>by obtain ⟨x,_,rfl⟩:=List.mem_map.1 hu;cases h9) hB hG⟩
theorem Kn.grown {X Y:World} {g:Nat} {T:TypeId} {l:List Int} {v:Value} {A0:Option Addr} {n0 c0:Nat} (hG:X.grownBy Y (some g)) (h:Kn l v X) (hB:Blk X g T [.slice A0 n0 c0]):Kn l v Y:=by
 obtain ⟨u,hu,hk⟩:=h;exact ⟨u,hu,hk.grown hG hB⟩
theorem Rl.grown {X Y:World} {g:Nat} {T:TypeId} {l:List Tr} {v:Value} {A0:Option Addr} {n0 c0:Nat} (hG:X.grownBy Y (some g)) (h:Rl l v X) (hB:Blk X g T [.slice A0 n0 c0]):Rl l v Y :=
 Rd.var h (fun u hu A n c h9=>by
  subst h9
  unfold fl at hu
  obtain ⟨y,hy,hz⟩:=List.mem_flatten.1 hu;obtain ⟨t,_,rfl⟩:=List.mem_map.1 hy
  unfold trc at hz
  simp at hz) hB hG
theorem Rq.grown {X Y:World} {g:Nat} {T:TypeId} {l:List Rat} {v:Value} {A0:Option Addr} {n0 c0:Nat} (hG:X.grownBy Y (some g)) (h:Rq l v X) (hB:Blk X g T [.slice A0 n0 c0]):Rq l v Y:=Rl.grown hG h hB
theorem Pl.grown {X Y:World} {g:Nat} {T:TypeId} {l:List Wp} {t:Int} {v:Value} {A0:Option Addr} {n0 c0:Nat} (hG:X.grownBy Y (some g)) (h:Pl l t v X) (hB:Blk X g T [.slice A0 n0 c0]):Pl l t v Y :=
 Rd.var h (fun u hu A n c h9=>by
  subst h9
  unfold fl at hu
  obtain ⟨y,hy,hz⟩:=List.mem_flatten.1 hu;obtain ⟨x,_,rfl⟩:=List.mem_map.1 hy
  unfold wdc at hz
  simp at hz) hB hG
def Av (T:TypeId) (z:List Value) (B:Nat) (v:Value) (X:World):Prop:=∃ g,v=vP g 0∧B≤g∧Blk X g T z
theorem Av.lasts (T:TypeId) (z:List Value) (B:Nat):eJ (Av T z B):=by
 rintro v X Y ⟨g,h1,h2,h3⟩ hS
 exact ⟨g,h1,h2,h3.bel hS⟩
theorem Av.mk {P:Program} {f:Operand→Value} {o:Oper} (T:TypeId) (z:List Value) (B:Nat) {X:World} (hB:B≤X.heap.size) (hr:(execOp f o).run P X=.ok (.value (vP X.heap.size 0)) (X.alloc (.cells z.toArray T))):∃ v X',(execOp f o).run P X=.ok (.value v) X'∧Av T z B v X'∧Since X X' :=
 ⟨_,_,hr,⟨_,rfl,hB,Blk.new rfl⟩,bL X _⟩
theorem Ks.mk {P:Program} {f:Operand→Value} {o:Oper} (l:List Int) (n:Nat) (hn:l.length=n) (hm:n≤1073741824) {X:World} (hr:(execOp f o).run P X=.ok (.value (.slice (some ⟨X.heap.size,0,none⟩) n n)) (X.alloc (.cells (l.map I64).toArray 3))):∃ v X',(execOp f o).run P X=.ok (.value v) X'∧Ks l v X'∧Since X X':=by
 subst hn;exact ⟨_,_,hr,Ks.of_blk (Blk.new rfl) hm,bL X _⟩
theorem Rq.mk {P:Program} {f:Operand→Value} {o:Oper} (l:List Rat) (n:Nat) (hn:l.length=n) (hm:n≤1000000) {X:World} (hr:(execOp f o).run P X=.ok (.value (.slice (some ⟨X.heap.size,0,none⟩) n n)) (X.alloc (.cells (fl rc l).toArray 40))):∃ v X',(execOp f o).run P X=.ok (.value v) X'∧Rq l v X'∧Since X X':=by
 subst hn;exact ⟨_,_,hr,Rq.of_blk (Blk.new rfl) hm,bL X _⟩
theorem wV:Go.Maps.Keyed Tryz.prog 3:=Go.Maps.int_keyed Tryz.underlying3
def Mpb (n:Nat) (F:Int→Bool) (v:Value) (X:World):Prop:=∃ b,v=.map (some b)∧∃ D:DataW Unit,X.ownsMap Tryz.prog 3 (plainElem Tryz.prog 4) b n D∧∀ k:Int,(Lit.int .i64 k).wf=true→D.atKey (.int .i64 k) (.lit (.bool false))=.lit (.bool (F k))
theorem Mpb.lasts (n:Nat) (F:Int→Bool):eJ (Mpb n F):=by
 rintro v X Y ⟨b,hv,D,h1,h2⟩ hS
 exact ⟨b,hv,D,h1.kept (row:=none) ⟨hS.os,hS.tape,hS.output,hS.size,fun k hk _=>hS.block k hk⟩ (by simp),h2⟩
theorem Mpb.grown {X Y:World} {n:Nat} {F:Int→Bool} {b:Nat} {row:Option Nat} (h:Mpb n F (.map (some b)) X) (hG:X.grownBy Y row) (hne:row≠some b):Mpb n F (.map (some b)) Y:=by
 obtain ⟨b',hv,D,h1,h2⟩:=h
 injection hv with hv
 injection hv with hv
 subst hv;exact ⟨b,rfl,D,h1.kept hG (fun h9=>hne h9.symm),h2⟩
theorem Mpb.lt {X:World} {n:Nat} {F:Int→Bool} {b:Nat} (h:Mpb n F (.map (some b)) X):b<X.heap.size:=by
 obtain ⟨b',hv,D,h1,_⟩:=h
 injection hv with hv
 injection hv with hv
 subst hv;exact h1.lt
theorem Mpb.mono {X:World} {n m:Nat} {F:Int→Bool} {v:Value} (h:Mpb n F v X) (hm:n≤m):Mpb m F v X:=by
 obtain ⟨b,hv,D,h1,h2⟩:=h;exact ⟨b,hv,D,h1.mono hm,h2⟩
theorem Mpb.made (X:World):Mpb 0 (fun _=>false) (.map (some X.heap.size)) (X.alloc (.map #[] 0)) :=
 ⟨_,rfl,.map [],World.ownsMap_made X _ _ _,fun k hk=>rfl⟩
theorem lD {P:Program} {e:TypeId} (he:P.underlying e=some .bool) {v:Value} {z:DataW Unit×List MemPlace} (h:plainElem P e v=some z):∃ x,v=.bool x∧z=(.lit (.bool x),[]):=by
 unfold plainElem at h
 rw [he] at h
 cases v <;> simp at h
 exact ⟨_,rfl,h.symm⟩
theorem iV {f:Operand→Value} {o:Oper} (x y:Operand) (ho:o.op=.lookup 109 x y false) {m:Value} {k:Int} (hx:f x=m) (hy:f y=.int .i64 k) (hk:(Lit.int .i64 k).wf=true) {n:Nat} {F:Int→Bool} (X:World) (h:Mpb n F m X) :
  (execOp f o).run Tryz.prog X=.ok (.value (.bool (F k))) X:=by
 obtain ⟨b,hv,D,h1,h2⟩:=h;subst hv;obtain ⟨v,ps,hrun,hR⟩:=h1.lookup (z:=.bool false) (zd:=.lit (.bool false)) (zp:=[]) wV Tryz.underlying109 (by kernel_rfl) (plainElem_bool Tryz.underlying4 false) (Go.Maps.keyOf_int_mk Tryz.underlying3 hk);rw [h2 k hk] at hR;obtain ⟨x',rfl,h9⟩:=lD Tryz.underlying4 hR;simp only [Prod.mk.injEq] at h9
 have h8:F k=x':=by
  have:=h9.1
  injection this with this
  injection this
 subst h8
 unfold execOp
 simp [ho,hx,hy,hrun]
theorem qQw {w:World} {ops:Array Oper} {rest:List Oper} {o:Oper} {a:Act} {Q:Exit→Act→World→Prop} (hgd:o.guard=none) (m x v:Operand) (ho:o.op=.mapUpdate 109 m x v) {b:Nat} {k:Int} {y:Bool}
  (hm:a.eval m=.map (some b)) (hx:a.eval x=.int .i64 k) (hv:a.eval v=.bool y) (hk:(Lit.int .i64 k).wf=true) {n:Nat} {F:Int→Bool} (h:Mpb n F (.map (some b)) w) (hn:n<maxLen)
  (hK:∀ w',Mpb (n+1) (fun j=>if j=k then y else F j) (.map (some b)) w'→w.grownBy w' (some b)→wpList Tryz.prog ops Q rest (a.put o.dst undef) w'):wpList Tryz.prog ops Q (o :: rest) a w:=by
 obtain ⟨b',hb,D,h1,h2⟩:=h
 injection hb with hb
 injection hb with hb
 subst hb
 refine wpList_mapUpdate_own w hgd m x v 109 ho 3 4 wV Tryz.underlying109 _ b n D hm h1 hn _ _ _ hx hv (Go.Maps.keyOf_int_mk Tryz.underlying3 hk) _ _ (plainElem_bool Tryz.underlying4 y) fun w' r1 r2=>hK w' ⟨b,rfl,_,r1,fun j hj=>?_⟩ r2
 show _=DataW.lit (Lit.bool (if j=k then y else F j))
 by_cases h9:j=k
 ·subst h9
  rw [if_pos rfl];exact Go.Maps.atKey_put_same (by obtain ⟨_,_,_,_,_,hD⟩:=h1;exact ⟨_,hD⟩) (by trivial) _ _
 ·rw [if_neg h9,Go.Maps.atKey_put_other (fun h8=>h9 (by injection h8))]
  exact h2 j hj
theorem rgt_n {c:Int} {n m:Nat} {x:En} (h:x.kd≠4):rgt c n x=rgt c m x:=by
 unfold rgt
 rw [if_neg h,if_neg h]
def ok6 (x:En):Bool:=decide (x.kd≠4) && rgt 6 0 x
structure Bk (l:List En) (day:Int) (m:Nat):Prop where
 ok:Ok44 6 l
 day:∀ k,k<l.length→(en l k).day≤day
 len:l.length≤m
theorem Bk.nil (day:Int):Bk [] day 0:=⟨⟨by omega,by omega,Nat.zero_le _,fun k hk=>absurd hk (Nat.not_lt_zero k)⟩,fun k hk=>absurd hk (Nat.not_lt_zero k),Nat.le_refl _⟩
theorem Bk.mono {l:List En} {d d':Int} {m m':Nat} (h:Bk l d m) (hd:d≤d') (hm:m≤m'):Bk l d' m':=⟨h.ok,fun k hk=>Int.le_trans (h.day k hk) hd,Nat.le_trans h.len hm⟩
theorem Bk.snoc {l:List En} {d:Int} {m:Nat} (h:Bk l d m) (hm:m<4000) {x:En} (hx:ok6 x=true) (hd:x.day=d):Bk (l++[x]) d (m+1):=by
 unfold ok6 at hx
 rw [Bool.and_eq_true,decide_eq_true_eq] at hx;have hl:=h.len;refine ⟨h.ok.snoc (by omega) (rgt_t.1 (by rw [rgt_n (m:=0) hx.1];exact hx.2)) (fun h0=>by rw [hd];exact h.day _ (by omega)) (fun h4=>absurd h4 hx.1),fun k hk=>?_,by rw [List.length_append,List.length_singleton];omega⟩;rw [List.length_append,List.length_singleton] at hk;rw [iD]
 by_cases h1:k<l.length
 ·rw [if_pos h1]
  exact h.day k h1
 ·rw [if_neg h1,if_pos (by omega)]
  omega
theorem dP {c:Int} {n:Nat} {x:En} (h:¬ Rg c n x):rgt c n x=false:=Bool.eq_false_iff.2 fun h9=>h (rgt_t.1 h9)
theorem oA:(Tryz.prog.info? 74).map (·.size)=some 7:=by kernel_rfl
theorem fR:(Tryz.prog.info? 42).map (·.size)=some 4:=by kernel_rfl
theorem aL:(Tryz.prog.info? 76).map (·.size)=some 13:=by kernel_rfl
theorem bT:(Tryz.prog.info? 24).map (·.size)=some 2:=by kernel_rfl
theorem jX:(Tryz.prog.info? 76).map (fun i=>(i.zero,i.size,i.bytes))=some (some (.agg #[vI 0,vI 0,vI 0,.bool false,.string ⟨#[]⟩,.string ⟨#[]⟩,vI 0,vI 0,vI 0,vI 0,vI 0,vI 0,vI 0]),13,120):=by kernel_rfl
theorem aO (b k:Nat) (X:World) (v:Value) (h:X.cell? ⟨b,k,none⟩=some v):(loadVar 22 ⟨b,k,none⟩).run Tryz.prog X=.ok v X:=by
 go_simp
def enc (x:En):List Value:=(eL x)
theorem oB (x:En):(enc x).length=13:=rfl
theorem xG (l:List En):(fl enc l).length=l.length * 13:=nD (fun x _=>oB x)
def Es (l:List En) (v:Value) (X:World):Prop:=Rd X 13 v l.length (fl enc l)
theorem Es.lasts (l:List En):eJ (Es l):=fun _ _ _ h hS=>Rd.below h hS
theorem hrx4 {w:World} {A:Option Addr} {n cp:Nat} {l:List En} (hr:Rd w 13 (.slice A n cp) n (fl enc l)):Hid (∀ X,Since w X→Rd X 13 (.slice A n cp) n (fl enc l)):=fun X h=>hr.below h
theorem hes4 {w:World} {A:Option Addr} {n cp:Nat} {l:List En} (h1:Hid (l.length=n)) (h2:Hid (∀ X,Since w X→Rd X 13 (.slice A n cp) n (fl enc l))):Hid (∀ X,Since w X→Es l (.slice A n cp) X):=fun X h=>by show Rd X 13 _ l.length _;rw [h1.out];exact h2.out X h
theorem Es.at {l:List En} {v:Value} {w:World} (h:Es l v w):∃ A n c,v=.slice A n c∧l.length=n∧n≤9223372036854775807∧Rd w 13 (.slice A n c) n (fl enc l):=by
 have h9:Rd w 13 v l.length (fl enc l):=h;have h8:=h9;obtain ⟨hl,A,c,h2,hc,hm,hx⟩:=h9;subst h2;refine ⟨A,l.length,c,rfl,rfl,?_,h8⟩
 unfold maxLen at hm
 omega
theorem hv19 {l:List En} {v:Value} {w:World} (hv:Es l v w):∃ (A:Option Addr) (n cp:Nat),v=.slice A n cp∧l.length=n∧n≤9223372036854775807∧Hid (∀ X,Since w X→Rd X 13 (.slice A n cp) n (fl enc l))∧Hid (l.length=n):=by
 obtain ⟨A,n,cp,rfl,hln,hn1,hr⟩:=hv.at;exact ⟨A,n,cp,rfl,hln,hn1,fun X h=>Rd.below hr h,hln⟩
theorem sA {l:List En} {v:Value} {w:World} (hv:Es l v w):∃ (A:Option Addr) (n cp:Nat),v=.slice A n cp∧l.length=n∧n≤9223372036854775807∧Hid (∀ X,Since w X→Rd X 13 (.slice A n cp) n (fl enc l))∧Hid (l.length=n)∧Hid (∀ X,Since w X→Es l (.slice A n cp) X):=by
 obtain ⟨A,n,cp,rfl,hln,hn1,hr⟩:=hv.at;exact ⟨A,n,cp,rfl,hln,hn1,fun X h=>Rd.below hr h,hln,fun X h=>Es.lasts l _ _ _ hv h⟩
theorem fL {w:World} {A:Option Addr} {n c:Nat} {l:List En} (h:Rd w 13 (.slice A n c) n (fl enc l)) (hl:l.length=n) {k:Nat} (hk:k<n):∃ b off,A=some ⟨b,off,none⟩∧b<w.heap.size∧Cl w b (off+k * 13) (enc (en l k)):=by
 obtain ⟨b,off,x,hA,hb,hc,_,hd⟩:=h.atF (m:=13) (fun x _=>oB x) (by omega) (k:=k) (by omega);have h1:=congrArg (·[0]?) hd.out;rw [mN (by omega)]
 have h2:l[k]=x:=by
  have h3:l[k]?=some x:=by simpa [List.getElem?_drop] using h1
  rw [List.getElem?_eq_getElem (by omega)] at h3
  injection h3
 rw [h2];exact ⟨b,off,hA,hb,hc⟩
theorem dV (X:World):Es [] (.slice none 0 0) X:=Rd.nil_ _ _
def Bks (c:Int) (l:List En) (v:Value) (X:World):Prop:=∃ u,v=.agg #[vI c,u]∧Es l u X
theorem Bks.lasts (c:Int) (l:List En):eJ (Bks c l):=by
 rintro v X Y ⟨u,h1,h2⟩ hS
 exact ⟨u,h1,Es.lasts l _ _ _ h2 hS⟩
theorem vK {X:World} {base k:Nat} {v:Value} {l:List En} (h:X.ownsRow base 76 13 v k (fl enc l)) (hk:l.length=k):Es l v X:=by
 show Rd X 13 v l.length (fl enc l)
 rw [hk];exact Rd.of_own h
theorem xY (x y:En) (w:World):(binOp .neq 76 (.agg (enc x).toArray) (.agg (enc y).toArray)).run Tryz.prog w=.ok (.bool (!decide (x=y))) w:=by
 by_cases h:x=y
 ·subst h
  unfold enc
  go_simp
 ·have h1:(!decide (x=y))=true:=by simp [h]
  rw [h1];obtain ⟨a1,a2,a3,⟨b1,b2,b3⟩,a5,a6,a7,a8,a9,a10,a11⟩:=x;obtain ⟨c1,c2,c3,⟨d1,d2,d3⟩,c5,c6,c7,c8,c9,c10,c11⟩:=y
  unfold enc
  go_simp
  rintro rfl rfl rfl rfl rfl rfl rfl rfl rfl rfl rfl rfl rfl
  exact h rfl
end Go.Proofs.YtjkfchehkpmhkaaGreatDoor

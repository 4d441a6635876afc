/- Numbers of examples, slices of numbers. -/
import Derived.Test.YtnfpenhldlfafaaDoorL5a
import Derived.Test.YtnfpenhldlfafaaDoorMI
import Derived.Test.YtnfpenhldlfafaaDoorQsu
set_option linter.unusedSimpArgs false
set_option linter.unusedVariables false
set_option maxRecDepth 100000
set_option maxHeartbeats 1600000
namespace Go.Proofs.YtnfpenhldlfafaaDoor
open Go.RowKit
def tz (p q:List UInt8) (B:Nat):Prop:=p.length≤B∧q.length≤B
theorem tz.mono {p q:List UInt8} {B B':Nat} (h:tz p q B) (hb:B≤B'):tz p q B':=⟨Nat.le_trans h.1 hb,Nat.le_trans h.2 hb⟩
theorem dO {B:Nat}:tz [] [] B:=⟨Nat.zero_le _,Nat.zero_le _⟩
theorem tzR {x:Rat} {B:Nat} (h:szR x B) {B':Nat} (hb:B≤B'):tz (rP x) (rD x) B':=⟨Nat.le_trans h.rP hb,Nat.le_trans h.rD hb⟩
theorem eA {n:Bool} {p q:List UInt8} {x:Rat} {B:Nat} (hx:rq n p q=x) (h:tz p q B) (h1:1≤B:=by omega):szR x B:=hx ▸ vQ n p q h.1 h.2 h1
theorem dK {x y:Rat} {B B':Nat} (hx:szR x B) (hy:szR y B'):szR (x-y) (B+B'+1):=by
 rw [Rat.sub_eq_add_neg];exact iU hx (yX hy)
theorem yY {x:Rat} {B:Nat} (hx:szR x B):szR x⁻¹ B:=by
 by_cases h:x=0
 ·subst h
  rw [Rat.inv_zero];exact hx
 ·have hd:=Nat.pos_of_ne_zero x.den_nz
  have hq:0<x.num.natAbs:=Nat.pos_of_ne_zero fun h9=>h ((mM x).1 h9)
  have key:=xN (rN x) hq hd;rw [mH] at key;rw [key];exact sH (X:=default) ⟨_,_,x.num.natAbs,rfl,hq,rfl,hx.2,hx.1⟩
theorem lM {x y:Rat} {B B':Nat} (hx:szR x B) (hy:szR y B'):szR (x / y) (B+B'):=by
 rw [Rat.div_def];exact gI hx (yY hy)
theorem tA {n:Int} (h:eF n=true):szR (n:Rat) 7:=by
 have:=oY h;refine ⟨?_,?_⟩
 ·rw [Rat.num_intCast]
  exact nD (by omega)
 ·rw [Rat.den_intCast,be_one]
  decide
theorem gT {x y:Rat} {B B' C:Nat} (hx:szR x B) (hy:szR y B') (h1:B≤C) (h2:B'≤C):szR (bT x y) C:=by
 unfold bT
 split
 ·exact hx.mono h1
 ·exact hy.mono h2
theorem vR {x y:Rat} {B B' C:Nat} (hx:szR x B) (hy:szR y B') (h1:B≤C) (h2:B'≤C):szR (gO x y) C:=by
 unfold gO
 split
 ·exact hx.mono h1
 ·exact hy.mono h2
theorem sS (n:Bool) (p q:List UInt8) (n':Bool) (p' q':List UInt8) {x:Rat} (hx:rq n p q=x) {y:Rat} (hy:rq n' p' q'=y) (w:World) (h:tz p q 1000000) (h':tz p' q' 1000000):Calls Tryd.prog 14 #[rtv n p q,rtv n' p' q'] w fun e w'=>e=.returned (rbv (x+y))∧Since w w':=by
 subst hx hy;exact addQ n p q n' p' q' w h.1 h.2 h'.1 h'.2
theorem oF (n:Bool) (p q:List UInt8) (n':Bool) (p' q':List UInt8) {x:Rat} (hx:rq n p q=x) {y:Rat} (hy:rq n' p' q'=y) (w:World) (h:tz p q 1000000) (h':tz p' q' 1000000):Calls Tryd.prog 42 #[rtv n p q,rtv n' p' q'] w fun e w'=>e=.returned (rbv (x-y))∧Since w w':=by
 subst hx hy;exact subQ n p q n' p' q' w h.1 h.2 h'.1 h'.2
theorem oQ (n:Bool) (p q:List UInt8) (n':Bool) (p' q':List UInt8) {x:Rat} (hx:rq n p q=x) {y:Rat} (hy:rq n' p' q'=y) (w:World) (h:tz p q 1000000) (h':tz p' q' 1000000):Calls Tryd.prog 13 #[rtv n p q,rtv n' p' q'] w fun e w'=>e=.returned (rbv (x * y))∧Since w w':=by
 subst hx hy;exact mulQ n p q n' p' q' w h.1 h.2 h'.1 h'.2
theorem qYe (n:Bool) (p q:List UInt8) (n':Bool) (p' q':List UInt8) {x:Rat} (hx:rq n p q=x) {y:Rat} (hy:rq n' p' q'=y) (w:World) (h:tz p q 1000000) (h':tz p' q' 1000000):Calls Tryd.prog 38 #[rtv n p q,rtv n' p' q'] w fun e w'=>e=.returned (rbv (bT x y))∧Since w w':=by
 subst hx hy;exact minQ n p q n' p' q' w h.1 h.2 h'.1 h'.2
theorem maxG (n:Bool) (p q:List UInt8) (n':Bool) (p' q':List UInt8) {x:Rat} (hx:rq n p q=x) {y:Rat} (hy:rq n' p' q'=y) (w:World) (h:tz p q 1000000) (h':tz p' q' 1000000):Calls Tryd.prog 51 #[rtv n p q,rtv n' p' q'] w fun e w'=>e=.returned (rbv (gO x y))∧Since w w':=by
 subst hx hy;exact maxQ n p q n' p' q' w h.1 h.2 h'.1 h'.2
theorem gU (n:Bool) (p q:List UInt8) (n':Bool) (p' q':List UInt8) {x:Rat} (hx:rq n p q=x) {y:Rat} (hy:rq n' p' q'=y) (w:World) (h:tz p q 1000000) (h':tz p' q' 1000000):Calls Tryd.prog 12 #[rtv n p q,rtv n' p' q'] w fun e w'=>e=.returned (vI (cB x y))∧Since w w':=by
 subst hx hy;exact yL n p q n' p' q' w h.1 h.2 h'.1 h'.2
theorem divG (n:Bool) (p q:List UInt8) (n':Bool) (p' q':List UInt8) {x:Rat} (hx:rq n p q=x) {y:Rat} (hy:rq n' p' q'=y) (w:World) (h:tz p q 1000000) (h':tz p' q' 1000000) (h0:y≠0):Calls Tryd.prog 39 #[rtv n p q,rtv n' p' q'] w fun e w'=>e=.returned (.tuple #[rbv (x / y),vI 0])∧Since w w':=by
 subst hx hy;exact divQ n p q n' p' q' w h.1 h.2 h'.1 h'.2 h0
theorem qVm (n:Bool) (p q:List UInt8) (n':Bool) (p' q':List UInt8) {x:Rat} (hx:rq n p q=x) {y:Rat} (hy:rq n' p' q'=y) (w:World) (h:tz p q 1000000) (h':tz p' q' 1000000) (h0:y=0):Calls Tryd.prog 39 #[rtv n p q,rtv n' p' q'] w fun e w'=>e=.returned (.tuple #[.agg #[.bool false,.string ⟨#[]⟩,.string ⟨#[]⟩],vI 1])∧Since w w':=by
 subst hx hy;exact divZ n p q n' p' q' w h.1 h.2 h'.1 h'.2 h0
theorem kP (n:Bool) (p q:List UInt8) (w:World) (h:tz p q 1000000):Calls Tryd.prog 49 #[rtv n p q] w fun e w'=>e=.returned (.bool (vd n p q))∧Since w w':=oJ n p q w (Nat.le_trans h.1 (by omega)) (Nat.le_trans h.2 (by omega))
theorem zZ {x y:Rat}:cB x y=-1↔x<y:=by
 unfold cB
 split
 ·rename_i h
  subst h
  simp [Rat.lt_irrefl]
 ·split
  ·rename_i h
   simp [h]
  ·rename_i h
   simp [h]
theorem qQa {x y:Rat}:cB x y=1↔y<x:=by
 unfold cB
 split
 ·rename_i h
  subst h
  simp [Rat.lt_irrefl]
 ·split
  ·rename_i h
   simp
   grind
  ·rename_i h1 h2
   simp
   grind
theorem tX (x y:Rat):-1≤cB x y∧cB x y≤1:=by
 unfold cB
 split
 ·omega
 ·split <;> omega
theorem cmpR_le {x y:Rat}:cB x y≤0↔x≤y:=by
 have h1:=qQa (x:=x) (y:=y);have h2:=tX x y;rw [← Rat.not_lt,← h1]
 omega
theorem cmpR_ge {x y:Rat}:0≤cB x y↔y≤x:=by
 have h1:=zZ (x:=x) (y:=y);have h2:=tX x y;rw [← Rat.not_lt,← h1]
 omega
def rk (m n:Int):Rat:=(m:Rat) / (n:Rat)
def ri (n:Int):Rat:=(n:Rat)
def Rl (l:List Tr) (v:Value) (X:World):Prop:=Rd X 3 v l.length (fl trc l)
theorem Rl.lasts (l:List Tr):dM (Rl l):=fun _ _ _ h hS=>Rd.below h hS
theorem sumG (v:Value) (l:List Tr) (B:Nat) (w:World) (h:Rl l v w) (h1:1≤B) (hlb:∀ t∈l,t.2.1.length≤B∧t.2.2.length≤B) (hn:l.length * (B+1)+1≤1000000) (hB:B≤1000000):Calls Tryd.prog 19 #[v] w fun e w'=>e=.returned (rbv (dS l))∧Since w w':=by
 obtain ⟨A,c,rfl,_⟩:=Rd.form h;exact sumQ A _ c l B w h h1 hlb hn hB
abbrev tr (x:Rat):Tr:=(rN x,rP x,rD x)
theorem cS (x:Rat):trq (tr x)=x:=bG x
theorem aL {P:Program} {f:Operand→Value} {o:Oper} (T:TypeId) (x:Operand) (ho:o.op=.load T x) (g k:Nat) (xs:List Value) (hx:f x=vP g k) {d:TypeDesc} (hu:P.underlying T=some d)
  (hag:(match d with|.struct _|.array _ _=>true|_=>false)=true) {t:TypeId} {cs:List Value} (X:World) (hB:Blk X g t cs) (hs:(cs.drop k).take xs.length=xs) (hi:(P.info? T).map (·.size)=some xs.length):(execOp f o).run P X=.ok (.value (.agg xs.toArray)) X:=by
 have hc:Cl X g k xs:=fun j u hj=>by
  refine hB.cell ?_;have hl:j<xs.length:=(List.getElem?_eq_some_iff.1 hj).1;rw [← hs,List.getElem?_take_of_lt hl,List.getElem?_drop] at hj;exact hj
 unfold execOp
 simp only [ho,hx,Instr.loadAt,Instr.sureAddr,Sem.run_bind,Sem.run_pure,Result.andThen_ok,cZ T d g k xs hc hu hag hi]
end Go.Proofs.YtnfpenhldlfafaaDoor

/- Numbers of examples, slices of numbers. -/
import Derived.Test.YtnfpenhldlfafaaGreatDoorL5a
import Derived.Test.YtnfpenhldlfafaaGreatDoorMI
import Derived.Test.YtnfpenhldlfafaaGreatDoorQsu
set_option linter.unusedSimpArgs false
set_option linter.unusedVariables false
set_option maxRecDepth 100000
set_option maxHeartbeats 1600000
namespace Go.Proofs.YtnfpenhldlfafaaGreatDoor
open Go.RowKit
def tz (p q:List UInt8) (B:Nat):Prop:=p.length≤B∧q.length≤B
theorem tz.mono {p q:List UInt8} {B B':Nat} (h:tz p q B) (hb:B≤B'):tz p q B':=⟨Nat.le_trans h.1 hb,Nat.le_trans h.2 hb⟩
theorem dK {B:Nat}:tz [] [] B:=⟨Nat.zero_le _,Nat.zero_le _⟩
theorem tzR {x:Rat} {B:Nat} (h:szR x B) {B':Nat} (hb:B≤B'):tz (rP x) (rD x) B':=⟨Nat.le_trans h.rP hb,Nat.le_trans h.rD hb⟩
theorem cV {n:Bool} {p q:List UInt8} {x:Rat} {B:Nat} (hx:rq n p q=x) (h:tz p q B) (h1:1≤B:=by omega):szR x B:=hx ▸ wG n p q h.1 h.2 h1
theorem cX {x y:Rat} {B B':Nat} (hx:szR x B) (hy:szR y B'):szR (x-y) (B+B'+1):=by
 rw [Rat.sub_eq_add_neg];exact lS hx (zE hy)
theorem zF {x:Rat} {B:Nat} (hx:szR x B):szR x⁻¹ B:=by
 by_cases h:x=0
 ·subst h
  rw [Rat.inv_zero];exact hx
 ·have hd:=Nat.pos_of_ne_zero x.den_nz
  have hq:0<x.num.natAbs:=Nat.pos_of_ne_zero fun h9=>h ((mR x).1 h9)
  have key:=xW (rN x) hq hd;rw [mN] at key;rw [key];exact sT (X:=default) ⟨_,_,x.num.natAbs,rfl,hq,rfl,hx.2,hx.1⟩
theorem lR {x y:Rat} {B B':Nat} (hx:szR x B) (hy:szR y B'):szR (x / y) (B+B'):=by
 rw [Rat.div_def];exact gX hx (zF hy)
theorem oL {n:Int} (h:eA n=true):szR (n:Rat) 7:=by
 have:=pJ h;refine ⟨?_,?_⟩
 ·rw [Rat.num_intCast]
  exact nI (by omega)
 ·rw [Rat.den_intCast,be_one]
  decide
theorem gL {x y:Rat} {B B' C:Nat} (hx:szR x B) (hy:szR y B') (h1:B≤C) (h2:B'≤C):szR (bP x y) C:=by
 unfold bP
 split
 ·exact hx.mono h1
 ·exact hy.mono h2
theorem wH {x y:Rat} {B B' C:Nat} (hx:szR x B) (hy:szR y B') (h1:B≤C) (h2:B'≤C):szR (gG x y) C:=by
 unfold gG
 split
 ·exact hx.mono h1
 ·exact hy.mono h2
theorem pY (n:Bool) (p q:List UInt8) (n':Bool) (p' q':List UInt8) {x:Rat} (hx:rq n p q=x) {y:Rat} (hy:rq n' p' q'=y) (w:World) (h:tz p q 1000000) (h':tz p' q' 1000000):Calls Tryz.prog 26 #[rtv n p q,rtv n' p' q'] w fun e w'=>e=.returned (rbv (x+y))∧Since w w':=by
 subst hx hy;exact addQ n p q n' p' q' w h.1 h.2 h'.1 h'.2
theorem oM (n:Bool) (p q:List UInt8) (n':Bool) (p' q':List UInt8) {x:Rat} (hx:rq n p q=x) {y:Rat} (hy:rq n' p' q'=y) (w:World) (h:tz p q 1000000) (h':tz p' q' 1000000):Calls Tryz.prog 53 #[rtv n p q,rtv n' p' q'] w fun e w'=>e=.returned (rbv (x-y))∧Since w w':=by
 subst hx hy;exact subQ n p q n' p' q' w h.1 h.2 h'.1 h'.2
theorem uX (n:Bool) (p q:List UInt8) (n':Bool) (p' q':List UInt8) {x:Rat} (hx:rq n p q=x) {y:Rat} (hy:rq n' p' q'=y) (w:World) (h:tz p q 1000000) (h':tz p' q' 1000000):Calls Tryz.prog 52 #[rtv n p q,rtv n' p' q'] w fun e w'=>e=.returned (rbv (x * y))∧Since w w':=by
 subst hx hy;exact mulQ n p q n' p' q' w h.1 h.2 h'.1 h'.2
theorem qYl (n:Bool) (p q:List UInt8) (n':Bool) (p' q':List UInt8) {x:Rat} (hx:rq n p q=x) {y:Rat} (hy:rq n' p' q'=y) (w:World) (h:tz p q 1000000) (h':tz p' q' 1000000):Calls Tryz.prog 46 #[rtv n p q,rtv n' p' q'] w fun e w'=>e=.returned (rbv (bP x y))∧Since w w':=by
 subst hx hy;exact minQ n p q n' p' q' w h.1 h.2 h'.1 h'.2
theorem maxG (n:Bool) (p q:List UInt8) (n':Bool) (p' q':List UInt8) {x:Rat} (hx:rq n p q=x) {y:Rat} (hy:rq n' p' q'=y) (w:World) (h:tz p q 1000000) (h':tz p' q' 1000000):Calls Tryz.prog 59 #[rtv n p q,rtv n' p' q'] w fun e w'=>e=.returned (rbv (gG x y))∧Since w w':=by
 subst hx hy;exact maxQ n p q n' p' q' w h.1 h.2 h'.1 h'.2
theorem iE (n:Bool) (p q:List UInt8) (n':Bool) (p' q':List UInt8) {x:Rat} (hx:rq n p q=x) {y:Rat} (hy:rq n' p' q'=y) (w:World) (h:tz p q 1000000) (h':tz p' q' 1000000):Calls Tryz.prog 29 #[rtv n p q,rtv n' p' q'] w fun e w'=>e=.returned (vI (cA x y))∧Since w w':=by
 subst hx hy;exact yV n p q n' p' q' w h.1 h.2 h'.1 h'.2
theorem divG (n:Bool) (p q:List UInt8) (n':Bool) (p' q':List UInt8) {x:Rat} (hx:rq n p q=x) {y:Rat} (hy:rq n' p' q'=y) (w:World) (h:tz p q 1000000) (h':tz p' q' 1000000) (h0:y≠0):Calls Tryz.prog 50 #[rtv n p q,rtv n' p' q'] w fun e w'=>e=.returned (.tuple #[rbv (x / y),vI 0])∧Since w w':=by
 subst hx hy;exact divQ n p q n' p' q' w h.1 h.2 h'.1 h'.2 h0
theorem qVr (n:Bool) (p q:List UInt8) (n':Bool) (p' q':List UInt8) {x:Rat} (hx:rq n p q=x) {y:Rat} (hy:rq n' p' q'=y) (w:World) (h:tz p q 1000000) (h':tz p' q' 1000000) (h0:y=0):Calls Tryz.prog 50 #[rtv n p q,rtv n' p' q'] w fun e w'=>e=.returned (.tuple #[.agg #[.bool false,.string ⟨#[]⟩,.string ⟨#[]⟩],vI 1])∧Since w w':=by
 subst hx hy;exact divZ n p q n' p' q' w h.1 h.2 h'.1 h'.2 h0
theorem kT (n:Bool) (p q:List UInt8) (w:World) (h:tz p q 1000000):Calls Tryz.prog 57 #[rtv n p q] w fun e w'=>e=.returned (.bool (vd n p q))∧Since w w':=oR n p q w (Nat.le_trans h.1 (by omega)) (Nat.le_trans h.2 (by omega))
theorem qQh {x y:Rat}:cA x y=-1↔x<y:=by
 unfold cA
 split
 ·rename_i h
  subst h
  simp [Rat.lt_irrefl]
 ·split
  ·rename_i h
   simp [h]
  ·rename_i h
   simp [h]
theorem qQi {x y:Rat}:cA x y=1↔y<x:=by
 unfold cA
 split
 ·rename_i h
  subst h
  simp [Rat.lt_irrefl]
 ·split
  ·rename_i h
   simp
   grind
  ·rename_i h1 h2
   simp
   grind
theorem uK (x y:Rat):-1≤cA x y∧cA x y≤1:=by
 unfold cA
 split
 ·omega
 ·split <;> omega
theorem cmpR_le {x y:Rat}:cA x y≤0↔x≤y:=by
 have h1:=qQi (x:=x) (y:=y);have h2:=uK x y;rw [← Rat.not_lt,← h1]
 omega
theorem cmpR_ge {x y:Rat}:0≤cA x y↔y≤x:=by
 have h1:=qQh (x:=x) (y:=y);have h2:=uK x y;rw [← Rat.not_lt,← h1]
 omega
def rk (m n:Int):Rat:=(m:Rat) / (n:Rat)
def ri (n:Int):Rat:=(n:Rat)
def Rl (l:List Tr) (v:Value) (X:World):Prop:=Rd X 3 v l.length (fl trc l)
theorem Rl.lasts (l:List Tr):dJ (Rl l):=fun _ _ _ h hS=>Rd.below h hS
theorem uR (v:Value) (l:List Tr) (B:Nat) (w:World) (h:Rl l v w) (h1:1≤B) (hlb:∀ t∈l,t.2.1.length≤B∧t.2.2.length≤B) (hn:l.length * (B+1)+1≤1000000) (hB:B≤1000000):Calls Tryz.prog 28 #[v] w fun e w'=>e=.returned (rbv (cK l))∧Since w w':=by
 obtain ⟨A,c,rfl,_⟩:=Rd.form h;exact sumQ A _ c l B w h h1 hlb hn hB
abbrev tr (x:Rat):Tr:=(rN x,rP x,rD x)
theorem cF (x:Rat):trq (tr x)=x:=bH x
theorem aK {P:Program} {f:Operand→Value} {o:Oper} (T:TypeId) (x:Operand) (ho:o.op=.load T x) (g k:Nat) (xs:List Value) (hx:f x=vP g k) {d:TypeDesc} (hu:P.underlying T=some d)
  (hag:(match d with|.struct _|.array _ _=>true|_=>false)=true) {t:TypeId} {cs:List Value} (X:World) (hB:Blk X g t cs) (hs:(cs.drop k).take xs.length=xs) (hi:(P.info? T).map (·.size)=some xs.length):(execOp f o).run P X=.ok (.value (.agg xs.toArray)) X:=by
 have hc:Cl X g k xs:=fun j u hj=>by
  refine hB.cell ?_;have hl:j<xs.length:=(List.getElem?_eq_some_iff.1 hj).1;rw [← hs,List.getElem?_take_of_lt hl,List.getElem?_drop] at hj;exact hj
 unfold execOp
 simp only [ho,hx,Instr.loadAt,Instr.sureAddr,Sem.run_bind,Sem.run_pure,Result.andThen_ok,cQ T d g k xs hc hu hag hi]
end Go.Proofs.YtnfpenhldlfafaaGreatDoor

/- Numbers of examples, slices of numbers. -/
import Derived.Test.YtffgfkcljcollaaGreatDoorL5a
import Derived.Test.YtffgfkcljcollaaGreatDoorMI
import Derived.Test.YtffgfkcljcollaaGreatDoorQsu
set_option linter.unusedSimpArgs false
set_option linter.unusedVariables false
set_option maxRecDepth 100000
set_option maxHeartbeats 1600000
namespace Go.Proofs.YtffgfkcljcollaaGreatDoor
open Go.RowKit
def tz (p q:List UInt8) (B:Nat):Prop:=p.length≤B∧q.length≤B
theorem tz.mono {p q:List UInt8} {B B':Nat} (h:tz p q B) (hb:B≤B'):tz p q B':=⟨Nat.le_trans h.1 hb,Nat.le_trans h.2 hb⟩
theorem mZ {B:Nat}:tz [] [] B:=⟨Nat.zero_le _,Nat.zero_le _⟩
theorem tzR {x:Rat} {B:Nat} (h:szR x B) {B':Nat} (hb:B≤B'):tz (rP x) (rD x) B':=⟨Nat.le_trans h.rP hb,Nat.le_trans h.rD hb⟩
theorem lM {n:Bool} {p q:List UInt8} {x:Rat} {B:Nat} (hx:rq n p q=x) (h:tz p q B) (h1:1≤B:=by omega):szR x B:=hx ▸ qZd n p q h.1 h.2 h1
theorem qVg {x y:Rat} {B B':Nat} (hx:szR x B) (hy:szR y B'):szR (x-y) (B+B'+1):=by
 rw [Rat.sub_eq_add_neg];exact mM hx (pP hy)
theorem pQ {n:Int} (h:cU n=true):szR (n:Rat) 7:=by
 have:=jA h;refine ⟨?_,?_⟩
 ·rw [Rat.num_intCast]
  exact gM (by omega)
 ·rw [Rat.den_intCast,be_one]
  decide
theorem addG (n:Bool) (p q:List UInt8) (n':Bool) (p' q':List UInt8) {x:Rat} (hx:rq n p q=x) {y:Rat} (hy:rq n' p' q'=y) (w:World) (h:tz p q 1000000) (h':tz p' q' 1000000):Calls Tryz.prog 51 #[rtv n p q,rtv n' p' q'] w fun e w'=>e=.returned (rbv (x+y))∧Since w w':=by
 subst hx hy;exact addQ n p q n' p' q' w h.1 h.2 h'.1 h'.2
theorem subG (n:Bool) (p q:List UInt8) (n':Bool) (p' q':List UInt8) {x:Rat} (hx:rq n p q=x) {y:Rat} (hy:rq n' p' q'=y) (w:World) (h:tz p q 1000000) (h':tz p' q' 1000000):Calls Tryz.prog 52 #[rtv n p q,rtv n' p' q'] w fun e w'=>e=.returned (rbv (x-y))∧Since w w':=by
 subst hx hy;exact subQ n p q n' p' q' w h.1 h.2 h'.1 h'.2
theorem yA (n:Bool) (p q:List UInt8) (n':Bool) (p' q':List UInt8) {x:Rat} (hx:rq n p q=x) {y:Rat} (hy:rq n' p' q'=y) (w:World) (h:tz p q 1000000) (h':tz p' q' 1000000):Calls Tryz.prog 40 #[rtv n p q,rtv n' p' q'] w fun e w'=>e=.returned (vI (jS x y))∧Since w w':=by
 subst hx hy;exact cmpQ n p q n' p' q' w h.1 h.2 h'.1 h'.2
theorem negG (n:Bool) (p q:List UInt8) {x:Rat} (hx:rq n p q=x) (w:World) (h:tz p q 1000000):Calls Tryz.prog 41 #[rtv n p q] w fun e w'=>e=.returned (rbv (-x))∧Since w w':=by
 subst hx;exact negQ n p q w h.1 h.2
theorem fT (n:Bool) (p q:List UInt8) (w:World) (h:tz p q 1000000):Calls Tryz.prog 42 #[rtv n p q] w fun e w'=>e=.returned (.bool (vd n p q))∧Since w w':=pU n p q w (Nat.le_trans h.1 (by omega)) (Nat.le_trans h.2 (by omega))
def rk (m n:Int):Rat:=(m:Rat) / (n:Rat)
def ri (n:Int):Rat:=(n:Rat)
def Rl (l:List Tr) (v:Value) (X:World):Prop:=Rd X 3 v l.length (fl trc l)
theorem Rl.lasts (l:List Tr):dF (Rl l):=fun _ _ _ h hS=>Rd.below h hS
abbrev tr (x:Rat):Tr:=(rN x,rP x,rD x)
theorem aP {P:Program} {f:Operand→Value} {o:Oper} (T:TypeId) (x:Operand) (ho:o.op=.load T x) (g k:Nat) (xs:List Value) (hx:f x=vP g k) {d:TypeDesc} (hu:P.underlying T=some d)
  (hag:(match d with|.struct _|.array _ _=>true|_=>false)=true) {t:TypeId} {cs:List Value} (X:World) (hB:Blk X g t cs) (hs:(cs.drop k).take xs.length=xs) (hi:(P.info? T).map (·.size)=some xs.length):(execOp f o).run P X=.ok (.value (.agg xs.toArray)) X:=by
 have hc:Cl X g k xs:=fun j u hj=>by
  refine hB.cell ?_;have hl:j<xs.length:=(List.getElem?_eq_some_iff.1 hj).1;rw [← hs,List.getElem?_take_of_lt hl,List.getElem?_drop] at hj;exact hj
 unfold execOp
 simp only [ho,hx,Instr.loadAt,Instr.sureAddr,Sem.run_bind,Sem.run_pure,Result.andThen_ok,cW T d g k xs hc hu hag hi]
end Go.Proofs.YtffgfkcljcollaaGreatDoor

/- law 05: words. -/
import Derived.Test.YtnfpenhldlfafaaGreatDoorQsu
import Derived.Test.YtnfpenhldlfafaaGreatDoorMH
set_option linter.unusedSimpArgs false
set_option linter.unusedVariables false
set_option maxRecDepth 100000
set_option maxHeartbeats 1600000
namespace Go.Proofs.YtnfpenhldlfafaaGreatDoor
open Go.RowKit
theorem rX (w:World) (n n':Bool) (p q p' q':List UInt8):(binOp .neq 23 (rtv n p q) (rtv n' p' q')).run Tryz.prog w=.ok (.bool (!(n == n' && p == p' && q == q'))) w:=by
 have h1:(p == p')=decide (p=p'):=by rw [Bool.eq_iff_iff];simp
 have h2:(q == q')=decide (q=q'):=by rw [Bool.eq_iff_iff];simp
 rw [h1,h2]
 go_simp
 by_cases e1:n=n' <;> by_cases e2:p=p' <;> by_cases e3:q=q' <;> simp [e1,e2,e3]
theorem eZ {f:Operand→Value} {o:Oper} (x y:Operand) (ho:o.op=.binOp .eql 23 x y 23) (n:Bool) (p q:List UInt8) (n':Bool) (p' q':List UInt8) (hx:f x=rtv n p q) (hy:f y=rtv n' p' q') (b:Bool) (hb:(n == n' && p == p' && q == q')=b) (X:World):(execOp f o).run Tryz.prog X=.ok (.value (.bool b)) X :=
 cH .eql _ _ x y ho _ _ hx hy fJ _ X ((dL X n n' p q p' q').trans (by rw [hb]))
theorem cJ {f:Operand→Value} {o:Oper} (x y:Operand) (ho:o.op=.binOp .neq 23 x y 23) (n:Bool) (p q:List UInt8) (n':Bool) (p' q':List UInt8) (hx:f x=rtv n p q) (hy:f y=rtv n' p' q') (b:Bool) (hb:(n == n' && p == p' && q == q')=!b) (X:World):(execOp f o).run Tryz.prog X=.ok (.value (.bool b)) X :=
 cH .neq _ _ x y ho _ _ hx hy fJ _ X ((rX X n n' p q p' q').trans (by rw [hb,Bool.not_not]))
theorem qQt {x y:Rat} (b:Bool) (h:x=y↔b=true):(rN x == rN y && rP x == rP y && rD x == rD y)=b:=by
 rw [Bool.eq_iff_iff,← h];simp only [Bool.and_eq_true,beq_iff_eq];exact ⟨fun ⟨⟨h1,h2⟩,h3⟩=>qYb h1 h2 h3,fun h=>by rw [h];exact ⟨⟨rfl,rfl⟩,rfl⟩⟩
theorem dU {x y:Rat} (h:x=y):(rN x == rN y && rP x == rP y && rD x == rD y)=true:=qQt true ⟨fun _=>rfl,fun _=>h⟩
theorem qYc {x y:Rat} (h:x≠y):(rN x == rN y && rP x == rP y && rD x == rD y)=false:=qQt false ⟨fun h9=>absurd h9 h,fun h9=>by cases h9⟩
theorem nU {x:Rat} (h:x=0):(rN x == false && rP x == [] && rD x == [])=true:=dU h
theorem qQs {x:Rat} (h:x≠0):(rN x == false && rP x == [] && rD x == [])=false:=qYc (y:=0) h
def few (p q:List UInt8) (m:Nat):Bool:=decide (p.length≤m) && decide (q.length≤m)
end Go.Proofs.YtnfpenhldlfafaaGreatDoor

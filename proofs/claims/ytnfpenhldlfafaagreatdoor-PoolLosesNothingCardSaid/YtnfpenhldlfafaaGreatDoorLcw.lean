/- Calls of a closure that lies in a slot. -/
import Derived.Test.YtnfpenhldlfafaaGreatDoorLb
set_option linter.unusedSimpArgs false
set_option linter.unusedVariables false
set_option maxRecDepth 100000
set_option maxHeartbeats 1600000
namespace Go.Proofs.YtnfpenhldlfafaaGreatDoor
open Go.RowKit
section
variable {P:Program} {ops:Array Oper} {R:World→World→Prop} {w0:World} {Q:Act→World→Prop} {pre:Nat→Nat→Bool} {l:List (Nat×Oper×cE)} {Fs:List (Nat×(World→Prop))} {a:Act} {k:Nat} {o:Oper}
theorem sY {ρ:Operand→Value} {X:World} (f:FuncId) (x:Operand) (xs:List Operand) (ts:Array TypeId) (lb:List Value) (ho:o.op=.call { callee:=.value x,args:=xs.toArray,argTypes:=ts }) (hx:ρ x=.func (.func f) #[] lb.toArray) (args:List Value) (he:xs.toArray.map ρ=args.toArray)
  (hf:(callFunc f (args++lb).toArray).run P X=.ok (.enter f (args++lb).toArray) X):(execOp ρ o).run P X=.ok (.enter f (args++lb).toArray) X:=by
 unfold execOp
 rw [ho]
 go_simp
theorem xJ (hw:Region.wanted o (yielded ops a.tmps)=true) (f:FuncId) (x:Operand) (xs:List Operand) (ts:Array TypeId) (lb:List Value) (ho:o.op=.call { callee:=.value x,args:=xs.toArray,argTypes:=ts }) (hx:a.eval x=.func (.func f) #[] lb.toArray) (v:Value) (args:List Value) (he:xs.map a.eval=args)
  (hi:P.inits.idxOf? f=none) (hf:∀ X:World,(callFunc f (args++lb).toArray).run P X=.ok (.enter f (args++lb).toArray) X)
  (hc:∀ X,R w0 X→(∀ p F,(p,F)∈Fs→pre k p=true→F X)→Calls P f (args++lb).toArray X fun e X'=>e=.returned v∧R X X') (h:bK P ops R w0 Q pre l Fs (a.put o.dst v)):bK P ops R w0 Q pre ((k,o,none) :: l) Fs a:=by
 refine ⟨?_⟩
 unfold CertR
 rw [if_pos hw];refine ⟨v,fun X hX hF=>?_,h.out⟩;have hc:=hc X hX hF
 have he2:xs.toArray.map a.eval=args.toArray:=by rw [List.map_toArray,he]
 have hrun:(execOp a.eval o).run P X=.ok (.enter f (args++lb).toArray) X:=sY f x xs ts lb ho hx args he2 (hf X)
 unfold cL
 rw [hrun];exact ⟨rfl,hi,hc⟩
theorem eY {f:Operand→Value} (F0:FuncId) (xs:List Operand) (vs:List Value) (ho:o.op=.makeFunc (.func F0) #[] xs.toArray) (hv:xs.map f=vs) (X:World):(execOp f o).run P X=.ok (.value (.func (.func F0) #[] vs.toArray)) X:=by
 unfold execOp
 simp only [ho,Instr.makeFunc,List.map_toArray,hv,Sem.run_bind,Sem.run_pure,Result.andThen_ok,List.map_nil]
end
end Go.Proofs.YtnfpenhldlfafaaGreatDoor

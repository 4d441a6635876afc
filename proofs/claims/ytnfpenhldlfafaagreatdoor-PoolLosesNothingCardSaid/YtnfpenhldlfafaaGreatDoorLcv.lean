/- Calls of a function that lies in a slot. -/
import Derived.Test.YtnfpenhldlfafaaGreatDoorLb
set_option linter.unusedSimpArgs false
set_option linter.unusedVariables false
set_option maxRecDepth 100000
set_option maxHeartbeats 1600000
namespace Go.Proofs.YtnfpenhldlfafaaGreatDoor
open Go.RowKit
section
variable {P:Program} {ops:Array Oper} {R:World→World→Prop} {w0:World} {Q:Act→World→Prop} {pre:Nat→Nat→Bool} {l:List (Nat×Oper×cE)} {Fs:List (Nat×(World→Prop))} {a:Act} {k:Nat} {o:Oper}
theorem sZ {ρ:Operand→Value} {X:World} (f:FuncId) (x:Operand) (xs:List Operand) (ts:Array TypeId) (ho:o.op=.call { callee:=.value x,args:=xs.toArray,argTypes:=ts }) (hx:ρ x=.func (.func f) #[] #[]) (args:List Value) (he:xs.toArray.map ρ=args.toArray)
  (hf:(callFunc f args.toArray).run P X=.ok (.enter f args.toArray) X):(execOp ρ o).run P X=.ok (.enter f args.toArray) X:=by
 unfold execOp
 rw [ho]
 go_simp
theorem gP (hw:Region.wanted o (yielded ops a.tmps)=true) (f:FuncId) (x:Operand) (xs:List Operand) (ts:Array TypeId) (ho:o.op=.call { callee:=.value x,args:=xs.toArray,argTypes:=ts }) (hx:a.eval x=.func (.func f) #[] #[]) (v:Value) (args:List Value) (he:xs.map a.eval=args)
  (hi:P.inits.idxOf? f=none) (hf:∀ X:World,(callFunc f args.toArray).run P X=.ok (.enter f args.toArray) X)
  (hc:∀ X,R w0 X→(∀ p F,(p,F)∈Fs→pre k p=true→F X)→Calls P f args.toArray X fun e X'=>e=.returned v∧R X X') (h:bK P ops R w0 Q pre l Fs (a.put o.dst v)):bK P ops R w0 Q pre ((k,o,none) :: l) Fs a:=by
 refine ⟨?_⟩
 unfold CertR
 rw [if_pos hw];refine ⟨v,fun X hX hF=>?_,h.out⟩;have hc:=hc X hX hF
 have he2:xs.toArray.map a.eval=args.toArray:=by rw [List.map_toArray,he]
 have hrun:(execOp a.eval o).run P X=.ok (.enter f args.toArray) X:=sZ f x xs ts ho hx args he2 (hf X)
 unfold cL
 rw [hrun];exact ⟨rfl,hi,hc⟩
end
end Go.Proofs.YtnfpenhldlfafaaGreatDoor

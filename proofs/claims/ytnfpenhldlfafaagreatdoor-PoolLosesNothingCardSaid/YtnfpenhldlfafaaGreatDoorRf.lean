/- Ranges over a function: one law for a loop that does not lea -/
import Derived.RangeFuncNested
import Derived.Sort.CutIn
import Derived.OrdersIn
import Derived.Test.YtnfpenhldlfafaaGreatDoorLb
set_option linter.unusedSimpArgs false
set_option linter.unusedVariables false
set_option maxRecDepth 100000
set_option maxHeartbeats 1600000
namespace Go.Proofs.YtnfpenhldlfafaaGreatDoor
open Go Go.RowKit
structure But (m:Nat) (T:Nat→Prop) (X Y:World):Prop where
 os:Y.os=X.os
 tape:Y.tape=X.tape
 output:Y.output=X.output
 size:X.heap.size≤Y.heap.size
 block:∀ k,k<m→¬ T k→Y.heap[k]?=X.heap[k]?
theorem But.trans {m:Nat} {T:Nat→Prop} {X Y Z:World} (h:But m T X Y) (k:But m T Y Z):But m T X Z :=
 ⟨k.os.trans h.os,k.tape.trans h.tape,k.output.trans h.output,Nat.le_trans h.size k.size,fun i hi ht=>(k.block i hi ht).trans (h.block i hi ht)⟩
theorem But.below {m B:Nat} {T:Nat→Prop} {W X Y:World} (h:But m T X Y) (hb:Below B W X) (hB:B≤m) (hT:∀ k,T k→B≤k):Below B W Y :=
 ⟨h.os.trans hb.os,h.tape.trans hb.tape,h.output.trans hb.output,Nat.le_trans hb.size h.size,fun k hk=>(h.block k (by omega) fun ht=>by have:=hT k ht;omega).trans (hb.block k hk)⟩
structure Kept (B:Nat) (X Y:World):Prop where
 os:Y.os=X.os
 tape:Y.tape=X.tape
 output:Y.output=X.output
 size:X.heap.size≤Y.heap.size
 low:∀ k,k<B→Y.heap[k]?=X.heap[k]?
 cells:∀ (k:Nat) (o:Obj),X.heap[k]?=some o→o.isCells=true→Y.heap[k]?=some o
theorem Kept.trans {B:Nat} {X Y Z:World} (h:Kept B X Y) (k:Kept B Y Z):Kept B X Z :=
 ⟨k.os.trans h.os,k.tape.trans h.tape,k.output.trans h.output,Nat.le_trans h.size k.size,fun i hi=>(k.low i hi).trans (h.low i hi),fun i o hi ho=>k.cells i o (h.cells i o hi ho) ho⟩
theorem Kept.below {B C:Nat} {W X Y:World} (h:Kept B X Y) (hb:Below C W X) (hC:C≤B):Below C W Y :=
 ⟨h.os.trans hb.os,h.tape.trans hb.tape,h.output.trans hb.output,Nat.le_trans hb.size h.size,fun k hk=>(h.low k (by omega)).trans (hb.block k hk)⟩
section
variable {P:Program} {ops:Array Oper} {Q:Exit→Act→World→Prop} {a:Act} {w:World} {r n:Nat}
end
section
variable {P:Program} {l:List Oper} {w:World} {a:Act} {r n:Nat}
end
/-! ### Regions of an iterator -/
section
variable {P:Program} {l:List Oper} {w:World}
end
/-! ### Calls of yield; the return behind a loop -/
section
variable {P:Program} {ops:Array Oper} {Q:Exit→Act→World→Prop} {a:Act} {w:World} {n:Nat}
end
end Go.Proofs.YtnfpenhldlfafaaGreatDoor

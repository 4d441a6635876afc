/- account: the array of sums. -/
import Derived.Test.YtffgfkcljcollaaGreatDoorAf
set_option linter.unusedSimpArgs false
set_option linter.unusedVariables false
set_option maxRecDepth 100000
set_option maxHeartbeats 1600000
namespace Go.Proofs.YtffgfkcljcollaaGreatDoor
open Go.RowKit
theorem qVt:rc 0=[.bool false,.string ⟨#[]⟩,.string ⟨#[]⟩]:=by
 have h1:rN 0=false:=by decide +kernel
 have h2:rP 0=[]:=by decide +kernel
 have h3:rD 0=[]:=by decide +kernel
 unfold rc trc tr
 rw [h1,h2,h3]
theorem xB:Tryz.zeroCells79=(List.replicate 100 [Value.bool false,.string ⟨#[]⟩,.string ⟨#[]⟩]).flatten.toArray:=by kernel_rfl
theorem pL:Tryz.zeroCells79=(fl rc (List.replicate 100 0)).toArray:=by
 have h:fl rc (List.replicate 100 0)=(List.replicate 100 [Value.bool false,.string ⟨#[]⟩,.string ⟨#[]⟩]).flatten:=by
  unfold fl
  rw [List.map_replicate,qVt]
 rw [h];exact xB
theorem fE {f:Operand→Value} {o:Oper} (x i:Operand) (ho:o.op=.indexAddr 79 x i) (g k:Nat) (hk:k<100) (hx:f x=vP g 0) {z:Int} (hi:f i=vI z) (hz:z=(k:Int)) (w:World):(execOp f o).run Tryz.prog w=.ok (.value (vP g (0+k * 3))) w:=by
 subst hz
 unfold execOp
 simp only [ho,hx,hi]
 go_simp
 intro h9;exact absurd h9 (by omega)
theorem mU {T:TypeId} {l:List Rat} {g k:Nat} {X:World} (h:Blk X g T (fl rc l)) (hk:k<l.length):Cl X g (0+k * 3) (rc (yq l k)):=by
 have h1:=qL (g:=rc) (m:=3) (l:=l) (fun x _=>iG x) (List.drop_eq_getElem_cons hk);rw [← qZ hk] at h1;exact Cl.part h.cl (k * 3) _ (by rw [iG];exact h1)
theorem fM {T:TypeId} {w:World} {ops:Array Oper} {rest:List Oper} {o:Oper} {a:Act} {Q:Exit→Act→World→Prop} (hgd:o.guard=none) (p x:Operand) (ho:o.op=.store 26 p x) (g:Nat) (l:List Rat) (hB:Blk w g T (fl rc l)) (k:Nat) (hk:k<l.length)
  (hp:a.eval p=vP g (0+k * 3)) (y:Rat) (hx:a.eval x=rbv y)
  (h:∀ w',Blk w' g T (fl rc (l.set k y))→w.grownBy w' (some g)→wpList Tryz.prog ops Q rest (a.put o.dst undef) w'):wpList Tryz.prog ops Q (o :: rest) a w:=by
 refine fC hgd 26 p x ho g T (fl rc l) hB (k * 3) (by rw [hp,Nat.zero_add]) (rc y) hx (by rw [iF,iG];omega) (by
  intro u hu;simp only [rc,trc,List.mem_cons,List.not_mem_nil,or_false] at hu
  rcases hu with rfl|rfl|rfl <;> rfl) (by rw [iG];exact aC) fun w' h2 h3 _=>h w' ?_ h3
 have h4:=qXj iG hk y;rw [iG] at h2
 rwa [h4] at h2
theorem lB:(Tryz.prog.info? 79).map (·.size)=some 300:=by kernel_rfl
end Go.Proofs.YtffgfkcljcollaaGreatDoor

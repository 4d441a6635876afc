/- An append in a drawn region inside a round; rows of the call -/
import Derived.Test.YtjkfchehkpmhkaaGreatDoorLa
import Derived.Test.YtjkfchehkpmhkaaGreatDoorRf
set_option linter.unusedSimpArgs false
set_option linter.unusedVariables false
set_option maxRecDepth 100000
set_option maxHeartbeats 1600000
namespace Go.Proofs.YtjkfchehkpmhkaaGreatDoor
open Go Go.RowKit
theorem dT {X Y:World} {row:Option Nat} {base m n:Nat} {e:TypeId} {v:Value} {xs:List Value} (h:X.ownsRow base e m v n xs) (hg:X.grownBy Y row) (hr:∀ g,row=some g→v.ownBlock≠some g):Y.ownsRow base e m v n xs :=
 sY h fun g hv hl=>hg.block g hl fun e=>hr g e.symm hv
theorem cX {P:Program} {w:World} {ops:Array Oper} {rest:List Oper} {o:Oper} {a:Act} {Q:Exit→Act→World→Prop} (hgd:o.guard=none) (g j:Nat) (t:TypeId) (xs:List Value) (hB:Blk w g t xs) (v:Value) (hj:j<xs.length)
  (hr:∀ (X:World) (u:Value),X.cell? ⟨g,j,none⟩=some u→X.frozen? ⟨g,j,none⟩=false→(execOp a.eval o).run P X=.ok .skip (X.setCell ⟨g,j,none⟩ v))
  (h:∀ w',Blk w' g t (xs.set j v)→w.grownBy w' (some g)→wpList P ops Q rest (a.put o.dst undef) w'):wpList P ops Q (o :: rest) a w:=by
 refine wpList_plain hgd fun K hK=>?_
 unfold Oper.wp
 rw [hr w _ (hB.cell (List.getElem?_eq_getElem hj)) (hB.free j)];exact hK _ _ (h _ (hB.set j v) ⟨rfl,rfl,rfl,by simp [World.setCell],fun i _ hne=>Below.heap_setCell w ⟨g,j,none⟩ v i (fun h9=>hne (by rw [h9]))⟩)
theorem bM {P:Program} {w:World} {ops:Array Oper} {rest:List Oper} {o:Oper} {a:Act} {Q:Exit→Act→World→Prop} (hgd:o.guard=none) (ty:TypeId) (p x:Operand) (ho:o.op=.store ty p x) (g:Nat) (t:TypeId) (xs:List Value) (hB:Blk w g t xs)
  (hp:a.eval p=vP g 0) (ys:List Value) (hx:a.eval x=.agg ys.toArray) (hl:ys.length=xs.length) (h1:∀ v∈ys,v.oneCell'=true) (hi:(P.info? ty).map (·.size)=some ys.length)
  (h:∀ w',Blk w' g t ys→w.grownBy w' (some g)→wpList P ops Q rest (a.put o.dst undef) w'):wpList P ops Q (o :: rest) a w :=
 mD hgd ty p x ho g t xs.toArray hB hp ys.toArray hx (by simpa using hl) (by simpa using h1) (by simpa using hi) fun w' h2 h3 _=>h w' h2 h3
theorem aJ {w w':World} {g g':Nat} {t:TypeId} {zs:List Value} (h:w.grownBy w' (some g)) (hz:Blk w g' t zs) (hne:g'≠g):Blk w' g' t zs:=(iC h hz.lt hne).trans hz
theorem bA {W w w':World} {B g:Nat} (h:w.grownBy w' (some g)) (hb:Below B W w) (hB:B≤w.heap.size) (hg:B≤g):Below B W w':=hb.grown h hB (fun k hk=>by simp at hk;omega)
theorem qZf {P:Program} {w:World} {ops:Array Oper} {rest:List Oper} {o o2:Oper} {a:Act} {Q:Exit→Act→World→Prop} (hgd:o.guard=none) (hgd2:o2.guard=none) (T:TypeId) (z v:Value)
  (hr1:∀ X:World,(execOp a.eval o).run P X=.ok (.value (vP X.heap.size 0)) (X.alloc (.cells #[z] T)))
  (hr2:∀ (X:World) (g:Nat) (u:Value),X.cell? ⟨g,0,none⟩=some u→X.frozen? ⟨g,0,none⟩=false→(execOp (a.put o.dst (vP g 0)).eval o2).run P X=.ok .skip (X.setCell ⟨g,0,none⟩ v))
  (h:∀ (g:Nat) (w':World),g=w.heap.size→Blk w' g T [v]→Since w w'→wpList P ops Q rest ((a.put o.dst (vP g 0)).put o2.dst undef) w'):wpList P ops Q (o :: o2 :: rest) a w:=by
 refine wpList_plain hgd fun K hK=>?_
 unfold Oper.wp
 rw [hr1];refine hK _ _ (wpList_plain hgd2 fun K2 hK2=>?_);have hB:Blk (w.alloc (.cells #[z] T)) w.heap.size T [z]:=Blk.new rfl
 unfold Oper.wp
 rw [hr2 _ w.heap.size _ (hB.cell (j:=0) rfl) (hB.free 0)];exact hK2 _ _ (h _ _ rfl (hB.set 0 v) (((Below.refl w.heap.size w).alloc (Nat.le_refl _) _).setCell (p:=⟨w.heap.size,0,none⟩) (Nat.le_refl _) _))
end Go.Proofs.YtjkfchehkpmhkaaGreatDoor

/- An append in a drawn region inside a round; rows of the call -/
import Derived.Test.YtnfpenhldlfafaaGreatDoorLa
import Derived.Test.YtnfpenhldlfafaaGreatDoorRf
set_option linter.unusedSimpArgs false
set_option linter.unusedVariables false
set_option maxRecDepth 100000
set_option maxHeartbeats 1600000
namespace Go.Proofs.YtnfpenhldlfafaaGreatDoor
open Go Go.RowKit
theorem aO {X Y:World} {row:Option Nat} {base m n:Nat} {e:TypeId} {v:Value} {xs:List Value} (h:X.ownsRow base e m v n xs) (hg:X.grownBy Y row) (hr:∀ g,row=some g→v.ownBlock≠some g):Y.ownsRow base e m v n xs :=
 mQ h fun g hv hl=>hg.block g hl fun e=>hr g e.symm hv
theorem sH {P:Program} {w:World} {ops:Array Oper} {rest:List Oper} {o:Oper} {a:Act} {Q:Exit→Act→World→Prop} (hgd:o.guard=none) (g j:Nat) (t:TypeId) (xs:List Value) (hB:Blk w g t xs) (v:Value) (hj:j<xs.length)
  (hr:∀ (X:World) (u:Value),X.cell? ⟨g,j,none⟩=some u→X.frozen? ⟨g,j,none⟩=false→(execOp a.eval o).run P X=.ok .skip (X.setCell ⟨g,j,none⟩ v))
  (h:∀ w',Blk w' g t (xs.set j v)→w.grownBy w' (some g)→wpList P ops Q rest (a.put o.dst undef) w'):wpList P ops Q (o :: rest) a w:=by
 refine wpList_plain hgd fun K hK=>?_
 unfold Oper.wp
 rw [hr w _ (hB.cell (List.getElem?_eq_getElem hj)) (hB.free j)];exact hK _ _ (h _ (hB.set j v) ⟨rfl,rfl,rfl,by simp [World.setCell],fun i _ hne=>Below.heap_setCell w ⟨g,j,none⟩ v i (fun h9=>hne (by rw [h9]))⟩)
theorem aS {P:Program} {w:World} {ops:Array Oper} {rest:List Oper} {o:Oper} {a:Act} {Q:Exit→Act→World→Prop} (hgd:o.guard=none) (ty:TypeId) (p x:Operand) (ho:o.op=.store ty p x) (g:Nat) (t:TypeId) (xs:List Value) (hB:Blk w g t xs)
  (hp:a.eval p=vP g 0) (ys:List Value) (hx:a.eval x=.agg ys.toArray) (hl:ys.length=xs.length) (h1:∀ v∈ys,v.oneCell'=true) (hi:(P.info? ty).map (·.size)=some ys.length)
  (h:∀ w',Blk w' g t ys→w.grownBy w' (some g)→wpList P ops Q rest (a.put o.dst undef) w'):wpList P ops Q (o :: rest) a w :=
 kA hgd ty p x ho g t xs.toArray hB hp ys.toArray hx (by simpa using hl) (by simpa using h1) (by simpa using hi) fun w' h2 h3 _=>h w' h2 h3
theorem aE {w w':World} {g g':Nat} {t:TypeId} {zs:List Value} (h:w.grownBy w' (some g)) (hz:Blk w g' t zs) (hne:g'≠g):Blk w' g' t zs:=(iS h hz.lt hne).trans hz
theorem aN {W w w':World} {B g:Nat} (h:w.grownBy w' (some g)) (hb:Below B W w) (hB:B≤w.heap.size) (hg:B≤g):Below B W w':=hb.grown h hB (fun k hk=>by simp at hk;omega)
theorem jY {w:World} {base m n:Nat} {e:TypeId} {A:Option Addr} {c:Nat} {xs:List Value} (hO:w.ownsRow base e m (.slice A n c) n xs) (hn:0<n):∃ g,A=some ⟨g,0,none⟩:=by
 rcases hO.2 with ⟨_,h9⟩|⟨g,cap,cur,hv,_⟩
 ·omega
 ·injection hv with hv1 _ _
  exact ⟨g,hv1⟩
theorem wW {w:World} {base m n:Nat} {e:TypeId} {g c:Nat} {xs:List Value} (hO:w.ownsRow base e m (.slice (some ⟨g,0,none⟩) n c) n xs):Cl w g 0 xs∧g<w.heap.size∧base≤g∧n≤c:=by
 obtain ⟨hl,hr9⟩:=hO
 rcases hr9 with ⟨h9,_⟩|⟨g',cap,cur,hv,hb,hg,hn,hm,hs,ht⟩
 ·cases h9
 ·injection hv with hv1 _ hv3
  injection hv1 with hv1
  injection hv1 with hv1 _ _
  subst hv1 hv3;have hB:Blk w g e cur.toList:=hg;refine ⟨fun j u hj=>?_,hB.lt,hb,hn⟩;rw [Nat.zero_add];refine hB.cell ?_;rw [← ht] at hj;exact (List.getElem?_take_of_lt (by have:=(List.getElem?_eq_some_iff.1 hj).1;rw [List.length_take] at this;omega)).symm.trans hj
end Go.Proofs.YtnfpenhldlfafaaGreatDoor

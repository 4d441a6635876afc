/- Drawn regions with 'append(append([]T{}, l...), x)'. -/
import Derived.Test.YtjkfchehkpmhkaaGreatDoorLa
import Derived.Test.YtjkfchehkpmhkaaGreatDoorRf
set_option linter.unusedSimpArgs false
set_option linter.unusedVariables false
set_option maxRecDepth 100000
set_option maxHeartbeats 1600000
namespace Go.Proofs.YtjkfchehkpmhkaaGreatDoor
open Go Go.RowKit
theorem eD {X Y:World} {row:Option Nat} {base m n:Nat} {e:TypeId} {v:Value} {xs:List Value} (h:X.ownsRow base e m v n xs) (hg:X.grownBy Y row) (hr:∀ g,row=some g→v.ownBlock≠some g):Y.ownsRow base e m v n xs :=
 tA h fun g hv hl=>hg.block g hl fun e=>hr g e.symm hv
theorem cB {P:Program} {w:World} {ops:Array Oper} {rest:List Oper} {o:Oper} {a:Act} {Q:Exit→Act→World→Prop} (hgd:o.guard=none) (g j:Nat) (t:TypeId) (xs:List Value) (hB:Blk w g t xs) (v:Value) (hj:j<xs.length)
  (hr:∀ (X:World) (u:Value),X.cell? ⟨g,j,none⟩=some u→X.frozen? ⟨g,j,none⟩=false→(execOp a.eval o).run P X=.ok .skip (X.setCell ⟨g,j,none⟩ v))
  (h:∀ w',Blk w' g t (xs.set j v)→w.grownBy w' (some g)→wpList P ops Q rest (a.put o.dst undef) w'):wpList P ops Q (o :: rest) a w:=by
 refine wpList_plain hgd fun K hK=>?_
 unfold Oper.wp
 rw [hr w _ (hB.cell (List.getElem?_eq_getElem hj)) (hB.free j)];exact hK _ _ (h _ (hB.set j v) ⟨rfl,rfl,rfl,by simp [World.setCell],fun i _ hne=>Below.heap_setCell w ⟨g,j,none⟩ v i (fun h9=>hne (by rw [h9]))⟩)
theorem bG {P:Program} {w:World} {ops:Array Oper} {rest:List Oper} {o:Oper} {a:Act} {Q:Exit→Act→World→Prop} (hgd:o.guard=none) (ty:TypeId) (p x:Operand) (ho:o.op=.store ty p x) (g:Nat) (t:TypeId) (xs:List Value) (hB:Blk w g t xs)
  (hp:a.eval p=vP g 0) (ys:List Value) (hx:a.eval x=.agg ys.toArray) (hl:ys.length=xs.length) (h1:∀ v∈ys,v.oneCell'=true) (hi:(P.info? ty).map (·.size)=some ys.length)
  (h:∀ w',Blk w' g t ys→w.grownBy w' (some g)→wpList P ops Q rest (a.put o.dst undef) w'):wpList P ops Q (o :: rest) a w :=
 lW hgd ty p x ho g t xs.toArray hB hp ys.toArray hx (by simpa using hl) (by simpa using h1) (by simpa using hi) fun w' h2 h3 _=>h w' h2 h3
theorem aE {w w':World} {g g':Nat} {t:TypeId} {zs:List Value} (h:w.grownBy w' (some g)) (hz:Blk w g' t zs) (hne:g'≠g):Blk w' g' t zs:=(iA h hz.lt hne).trans hz
theorem aV {W w w':World} {B g:Nat} (h:w.grownBy w' (some g)) (hb:Below B W w) (hB:B≤w.heap.size) (hg:B≤g):Below B W w':=hb.grown h hB (fun k hk=>by simp at hk;omega)
theorem qZg {P:Program} {w:World} {ops:Array Oper} {rest:List Oper} {o o2:Oper} {a:Act} {Q:Exit→Act→World→Prop} (hgd:o.guard=none) (hgd2:o2.guard=none) (T:TypeId) (z v:Value)
  (hr1:∀ X:World,(execOp a.eval o).run P X=.ok (.value (vP X.heap.size 0)) (X.alloc (.cells #[z] T)))
  (hr2:∀ (X:World) (g:Nat) (u:Value),X.cell? ⟨g,0,none⟩=some u→X.frozen? ⟨g,0,none⟩=false→(execOp (a.put o.dst (vP g 0)).eval o2).run P X=.ok .skip (X.setCell ⟨g,0,none⟩ v))
  (h:∀ (g:Nat) (w':World),g=w.heap.size→Blk w' g T [v]→Since w w'→wpList P ops Q rest ((a.put o.dst (vP g 0)).put o2.dst undef) w'):wpList P ops Q (o :: o2 :: rest) a w:=by
 refine wpList_plain hgd fun K hK=>?_
 unfold Oper.wp
 rw [hr1];refine hK _ _ (wpList_plain hgd2 fun K2 hK2=>?_);have hB:Blk (w.alloc (.cells #[z] T)) w.heap.size T [z]:=Blk.new rfl
 unfold Oper.wp
 rw [hr2 _ w.heap.size _ (hB.cell (j:=0) rfl) (hB.free 0)];exact hK2 _ _ (h _ _ rfl (hB.set 0 v) (((Below.refl w.heap.size w).alloc (Nat.le_refl _) _).setCell (p:=⟨w.heap.size,0,none⟩) (Nat.le_refl _) _))
open Go.RowKit
theorem jR {P:Program} (X:World) (t ty e:TypeId) (z:Value) (size bytes:Nat) (ht:P.underlying t=some (.slice e)) (hi:(P.info? e).map (fun i=>(i.zero,i.size,i.bytes))=some (some z,size,bytes)) (hz1:z.cells.size=size) (hsz0:0<size)
  (g:Nat) (vx:Value) (m:Nat) (news:List Value) (hr:Rd X size vx m news) (hbytes:m * bytes≤140737488355328) (h63:m≤maxLen) :
  ∃ v' X',(Builtin.append_ #[t,t] ty #[.slice (some ⟨g,0,none⟩) 0 0,vx]).run P X=.ok v' X'∧((m=0∧v'=.slice (some ⟨g,0,none⟩) 0 0)∨X'.ownsRow X.heap.size e size v' m news)∧Since X X':=by
 obtain ⟨i,hi',hz0,hsz,hby⟩:=info_parts hi;obtain ⟨hl,A',c,rfl,hc,hm,hz,hcell⟩:=hr
 rcases Nat.eq_zero_or_pos m with h0|h0
 ·subst h0
  refine ⟨_,X,?_,.inl ⟨rfl,rfl⟩,Below.refl _ _⟩
  cases A' <;> simp [Builtin.append_,run_underlying ht,sizeOf,typeInfo,hi',Builtin.lenOf,Builtin.firstCells,storeCells,loadCells,loadCellsFrom]
 ·obtain ⟨b,off,rfl,hb,hcs⟩:=hcell h0
  obtain ⟨v',w',hrun,r1,r2⟩:=run_append_arg_grows (P:=P) X t ty e i z size bytes ht hi' hz0 hsz hby hz1 hsz0 ⟨g,0,none⟩ 0 0 [] (by simp) (fun j u hj=>by simp at hj) ⟨b,off,none⟩ m c news hl (fun j u hj=>by
   have e9:(⟨b,off,none⟩:Addr).add j=⟨b,off+j,none⟩:=by unfold Addr.add;split <;> simp_all
   rw [e9]
   exact hcs j u hj) (by omega) (by omega) (by rw [Nat.zero_add];exact hbytes)
  rw [Nat.zero_add,List.nil_append] at r1;exact ⟨v',w',hrun,.inr r1,(Below.refl _ _).grown r2 (Nat.le_refl _) (fun k hk=>by cases hk)⟩
theorem vXr {P:Program} {f:Operand→Value} {o:Oper} (T:TypeId) {X:World} (hr:(execOp f o).run P X=.ok (.value (.slice (some ⟨X.heap.size,0,none⟩) 0 0)) (X.alloc (.cells #[] T))):(execOp f o).run P X=.ok (.value (.slice (some ⟨X.heap.size,0,none⟩) 0 0)) (X.alloc (.cells #[] T)):=hr
theorem vXq {P:Program} {f:Operand→Value} {o:Oper} (T:TypeId) (cs:List Value) {X:World} (hr:(execOp f o).run P X=.ok (.value (.slice (some ⟨X.heap.size,0,none⟩) 1 1)) (X.alloc (.cells cs.toArray T))):(execOp f o).run P X=.ok (.value (.slice (some ⟨X.heap.size,0,none⟩) 1 1)) (X.alloc (.cells cs.toArray T)):=hr
theorem gN {P:Program} {f:Operand→Value} {o:Oper} (s x:Operand) (t:TypeId) (ho:o.op=.call { callee:=.builtin .append,args:=#[s,x],argTypes:=#[t,t] }) {vs vx:Value} (hs:f s=vs) (hx:f x=vx) {v':Value} {X X':World} (hr:(Builtin.append_ #[t,t] o.type #[vs,vx]).run P X=.ok v' X'):(execOp f o).run P X=.ok (.value v') X':=by
 unfold execOp
 simp only [ho,resolve,invoke,builtin,Sem.run_bind,Sem.run_pure,Result.andThen_ok,List.map_toArray,List.map_cons,List.map_nil,hs,hx,hr]
def Pcp (B:Nat) (e:TypeId) (m N:Nat) (xs:List Value) (v:Value) (X:World):Prop:=(N=0∧∃ g,v=.slice (some ⟨g,0,none⟩) 0 0)∨X.ownsRow B e m v N xs
theorem Pcp.lasts (B:Nat) (e:TypeId) (m N:Nat) (xs:List Value):eJ (Pcp B e m N xs):=fun _ _ _ h hS=>h.imp id fun h9=>cH h9 hS
theorem jQ {P:Program} (X:World) (B:Nat) (t ty e:TypeId) (z:Value) (size bytes:Nat) (ht:P.underlying t=some (.slice e)) (hi:(P.info? e).map (fun i=>(i.zero,i.size,i.bytes))=some (some z,size,bytes)) (hz1:z.cells.size=size) (hsz0:0<size)
  {N:Nat} {xs cs:List Value} {v:Value} (hp:Pcp B e size N xs v X) (hxs:xs.length=N * size) {g T:Nat} (hB:Blk X g T cs) (hcs:cs.length=size) (h1:∀ u∈cs,u.oneCell'=true) (hbytes:(N+1) * bytes≤140737488355328) (h63:N+1≤maxLen) (hb:B≤X.heap.size) :
  ∃ v' X',(Builtin.append_ #[t,t] ty #[v,.slice (some ⟨g,0,none⟩) 1 1]).run P X=.ok v' X'∧X'.ownsRow B e size v' (N+1) (xs++cs)∧Below B X X':=by
 obtain ⟨i,hi',hz0,hsz,hby⟩:=info_parts hi
 have hcell:∀ j u,cs[j]?=some u→X.cell? ((⟨g,0,none⟩:Addr).add j)=some u:=fun j u hj=>by
  rw [kZ,Nat.zero_add];exact hB.cell hj
 rcases hp with ⟨rfl,g2,rfl⟩|hown
 ·obtain rfl:xs=[]:=List.eq_nil_of_length_eq_zero (by simpa using hxs)
  obtain ⟨v',w',hrun,r1,r2⟩:=run_append_arg_grows (P:=P) X t ty e i z size bytes ht hi' hz0 hsz hby hz1 hsz0 ⟨g2,0,none⟩ 0 0 [] (by simp) (fun j u hj=>by simp at hj) ⟨g,0,none⟩ 1 1 cs (by rw [hcs,Nat.one_mul]) hcell (by omega) h63 hbytes;exact ⟨v',w',hrun,fC r1 hb,(Below.refl _ _).grown r2 hb (fun k hk=>by cases hk)⟩
 ·obtain ⟨v',w',hr,h2,h3,h4⟩:=run_append_own (P:=P) X B t ty e i z size bytes ht hi' hz0 hsz hby hz1 hsz0 v N xs hown ⟨g,0,none⟩ 1 1 cs (by rw [hcs,Nat.one_mul]) hcell h1 h63 hbytes hb
  exact ⟨v',w',hr,h2,(Below.refl B X).grown h3 hb (fun k hk=>(dG hown k hk).1)⟩
structure Gp (B:Nat) (X Y:World×Bool):Prop where
 bel:Below B X.1 Y.1
 low:Y.2=false→X.2=false∧Since X.1 Y.1
 high:X.2=true→Y.2=true∧Since X.1 Y.1
theorem Gp.trans {B:Nat} {X Y Z:World×Bool} (h:Gp B X Y) (k:Gp B Y Z):Gp B X Z :=
 ⟨h.bel.trans k.bel,fun hz=>⟨(h.low (k.low hz).1).1,Since.next (h.low (k.low hz).1).2 (k.low hz).2⟩,fun hx=>⟨(k.high (h.high hx).1).1,Since.next (h.high hx).2 (k.high (h.high hx).1).2⟩⟩
theorem Gp.since {B:Nat} {X:World×Bool} {Y:World} (hB:B≤X.1.heap.size) (hS:Since X.1 Y):Gp B X (Y,X.2):=⟨hS.mono hB,fun h=>⟨h,hS⟩,fun h=>⟨h,hS⟩⟩
def lM (S:Value→World→Prop) (v:Value) (X:World×Bool):Prop:=X.2=false→S v X.1
def zI (S:Value→World→Prop) (v:Value) (X:World×Bool):Prop:=X.2=true∧S v X.1
def Pst (B:Nat) (ss:List (dL Bool)):Prop:=∀ S,some S∈ss→∀ v X Y,S v X→Gp B X Y→S v Y
theorem uY {B:Nat}:Pst B []:=fun _ h=>by cases h
theorem dD {B:Nat} {ss:List (dL Bool)} (h:Pst B ss):Pst B (none :: ss):=fun S hS=>by
 rcases List.mem_cons.1 hS with h9|h9
 ·cases h9
 ·exact h S h9
theorem mZ {B:Nat} {S0:Value→World→Prop} (h0:eJ S0) {ss:List (dL Bool)} (h:Pst B ss):Pst B (some (lM S0) :: ss):=fun S hS=>by
 rcases List.mem_cons.1 hS with h9|h9
 ·injection h9 with h9
  subst h9
  exact fun v X Y h1 hR hy=>h0 v _ _ (h1 (hR.low hy).1) (hR.low hy).2
 ·exact h S h9
theorem uZ {B:Nat} {S0:Value→World→Prop} (h0:eJ S0) {ss:List (dL Bool)} (h:Pst B ss):Pst B (some (zI S0) :: ss):=fun S hS=>by
 rcases List.mem_cons.1 hS with h9|h9
 ·injection h9 with h9
  subst h9
  exact fun v X Y h1 hR=>⟨(hR.high h1.1).1,h0 v _ _ h1.2 (hR.high h1.1).2⟩
 ·exact h S h9
theorem uX {B:Nat} {S0:Value→Prop} {ss:List (dL Bool)} (h:Pst B ss):Pst B (some (fun v _=>S0 v) :: ss):=fun S hS=>by
 rcases List.mem_cons.1 hS with h9|h9
 ·injection h9 with h9
  subst h9
  exact fun v X Y h1 hR=>h1
 ·exact h S h9
structure lA (P:Program) (ops:Array Oper) (B ap:Nat) (w:World) (Q:Act→World→Prop) (pre:Nat→Nat→Bool) (l:List (Nat×Oper×dL Bool)) (Fs:List (Nat×(World×Bool→Prop))) (a:Act):Prop where
 out:CertG P ops (Gp B) (w,false) (fun a X=>Q a X.1) pre (fun k σ=>k=ap→σ=false) l Fs a
section
variable {P:Program} {ops:Array Oper} {B ap:Nat} {w:World} {Q:Act→World→Prop} {pre:Nat→Nat→Bool} {a a':Act} {k:Nat} {o:Oper} {l:List (Nat×Oper×dL Bool)} {Fs:List (Nat×(World×Bool→Prop))}
theorem rU {id:Nat} {L:List Oper} {Q':Exit→Act→World→Prop} {z:Oper} (ap:Nat) (ss:List (dL Bool)) (hm:P.follows .mixedOrders=true) (hB:lxB L=true) (hT:nL L=true) (hz:L.drop (L.length-1)=[z]) (hst:Pst w.heap.size ss)
  (h:lA P L.toArray w.heap.size ap w (wpList P L.toArray Q' [z]) (inB (clo L)) (itg 0 L.dropLast ss) [] a):(Code.region id L.toArray true).wp P Q' a w :=
 mP (g0:=false) ss hm hB hT hz (Gp.since (X:=(w,false)) (Nat.le_refl _) ((Below.refl w.heap.size w).drew)) (fun _ _=>rfl) (fun _ _ h h'=>h.trans h') hst h.out
theorem pg (v:Value) (hq:∀ X:World,Below B w X→(∀ p F,(p,F)∈Fs→pre k p=true→∃ σ,F (X,σ))→(execOp a.eval o).run P X=.ok (.value v) X) (h:lA P ops B ap w Q pre l Fs (a.put o.dst v)) (hw:Region.wanted o (yielded ops a.tmps)=true:=by rfl):lA P ops B ap w Q pre ((k,o,none) :: l) Fs a:=by
 refine ⟨?_⟩
 unfold CertG
 rw [if_pos hw];refine ⟨v,fun X hX hF=>?_,h.out⟩
 unfold dF
 rw [hq X.1 hX.bel fun p F h1 h2=>⟨X.2,hF p F h1 h2⟩];exact ⟨rfl,rfl⟩
theorem yG (S:Value→World→Prop) (hr:∀ X:World,Below B w X→(∀ p F,(p,F)∈Fs→pre k p=true→∃ σ,F (X,σ))→∃ v X',(execOp a.eval o).run P X=.ok (.value v) X'∧S v X'∧Since X X') (hB:B≤w.heap.size) (h:∀ v,lA P ops B ap w Q pre l ((k,lM S v) :: Fs) (a.put o.dst v)) (hw:Region.wanted o (yielded ops a.tmps)=true:=by rfl):lA P ops B ap w Q pre ((k,o,some (lM S)) :: l) Fs a:=by
 refine ⟨?_⟩
 unfold CertG
 rw [if_pos hw];refine ⟨fun X hX hN hF=>?_,fun v=>(h v).out⟩
 obtain ⟨v,X',h1,h2,h3⟩:=hr X.1 hX.bel fun p F h1 h2=>⟨X.2,hF p F h1 h2⟩
 unfold eN
 rw [h1];exact ⟨X.2,fun _=>h2,Gp.since (Nat.le_trans hB hX.bel.size) h3,fun _ _ h=>h⟩
theorem qQp (S:Value→Prop) (hr:∀ X:World,Below B w X→(∀ p F,(p,F)∈Fs→pre k p=true→∃ σ,F (X,σ))→∃ v X',(execOp a.eval o).run P X=.ok (.value v) X'∧S v∧Since X X') (hB:B≤w.heap.size) (h:∀ v,lA P ops B ap w Q pre l ((k,fun _=>S v) :: Fs) (a.put o.dst v)) (hw:Region.wanted o (yielded ops a.tmps)=true:=by rfl):lA P ops B ap w Q pre ((k,o,some (fun v _=>S v)) :: l) Fs a:=by
 refine ⟨?_⟩
 unfold CertG
 rw [if_pos hw];refine ⟨fun X hX hN hF=>?_,fun v=>(h v).out⟩
 obtain ⟨v,X',h1,h2,h3⟩:=hr X.1 hX.bel fun p F h1 h2=>⟨X.2,hF p F h1 h2⟩
 unfold eN
 rw [h1];exact ⟨X.2,h2,Gp.since (Nat.le_trans hB hX.bel.size) h3,fun _ _ h=>h⟩
theorem pap (S:Value→World→Prop) (hr:∀ X:World,Below B w X→(∀ p F,(p,F)∈Fs→pre ap p=true→F (X,false))→∃ v X',(execOp a.eval o).run P X=.ok (.value v) X'∧S v X'∧Below B X X') (h:∀ v,lA P ops B ap w Q pre l ((ap,zI S v) :: Fs) (a.put o.dst v)) (hw:Region.wanted o (yielded ops a.tmps)=true:=by rfl):lA P ops B ap w Q pre ((ap,o,some (zI S)) :: l) Fs a:=by
 refine ⟨?_⟩
 unfold CertG
 rw [if_pos hw];refine ⟨fun X hX hN hF=>?_,fun v=>(h v).out⟩;have hfl:X.2=false:=hN rfl
 obtain ⟨v,X',h1,h2,h3⟩:=hr X.1 hX.bel fun p F h1 h2=>by
  have h9:=hF p F h1 h2
  rwa [show X=(X.1,false) from Prod.ext rfl hfl] at h9
 unfold eN
 rw [h1];exact ⟨true,⟨rfl,h2⟩,⟨h3,(fun h9=>by cases h9),(fun h9=>by rw [hfl] at h9;cases h9)⟩,fun m hm _ h9=>absurd h9 hm⟩
theorem pz (h:∀ X:World,Below B w X→(∀ p F,(p,F)∈Fs→∃ σ,F (X,σ))→Q a X):lA P ops B ap w Q pre [] Fs a:=⟨fun X hX hF=>h X.1 hX.bel fun p F hp=>⟨X.2,hF p F hp⟩⟩
end
end Go.Proofs.YtjkfchehkpmhkaaGreatDoor

/- period: Figure, Close. -/
import Derived.Test.YtjkfchehkpmhkaaGreatDoorPe45
import Derived.Test.YtjkfchehkpmhkaaGreatDoorLa
import Derived.Test.YtjkfchehkpmhkaaGreatDoorLar
set_option linter.unusedSimpArgs false
set_option linter.unusedVariables false
set_option maxRecDepth 100000
set_option maxHeartbeats 1600000
namespace Go.Proofs.YtjkfchehkpmhkaaGreatDoor
open Go.RowKit
theorem sU {P:Program} (X:World) (t ty e:TypeId) (z:Value) (size bytes:Nat) (ht:P.underlying t=some (.slice e)) (hi:(P.info? e).map (fun i=>(i.zero,i.size,i.bytes))=some (some z,size,bytes)) (hz1:z.cells.size=size) (hsz0:0<size)
  (g:Nat) (vx:Value) (m:Nat) (news:List Value) (hr:Rd X size vx m news) (hbytes:m * bytes≤140737488355328) (h63:m≤maxLen) :
  ∃ v' X',(Builtin.append_ #[t,t] ty #[.slice (some ⟨g,0,none⟩) 0 0,vx]).run P X=.ok v' X'∧((m=0∧v'=.slice (some ⟨g,0,none⟩) 0 0)∨X'.ownsRow X.heap.size e size v' m news)∧Since X X':=by
 obtain ⟨i,hi',hz0,hsz,hby⟩:=info_parts hi;obtain ⟨hl,A',c,rfl,hc,hm,hz,hcell⟩:=hr
 rcases Nat.eq_zero_or_pos m with h0|h0
 ·subst h0
  refine ⟨_,X,?_,.inl ⟨rfl,rfl⟩,Below.refl _ _⟩
  cases A' <;> simp [Builtin.append_,run_underlying ht,sizeOf,typeInfo,hi',Builtin.lenOf,Builtin.firstCells,storeCells,loadCells,loadCellsFrom]
 ·obtain ⟨b,off,rfl,hb,hcs⟩:=hcell h0
  obtain ⟨v',w',hrun,r1,r2⟩:=run_append_arg_grows (P:=P) X t ty e i z size bytes ht hi' hz0 hsz hby hz1 hsz0 ⟨g,0,none⟩ 0 0 [] (by simp) (fun j u hj=>by simp at hj) ⟨b,off,none⟩ m c news hl (fun j u hj=>by
   have e9:(⟨b,off,none⟩:Addr).add j=⟨b,off+j,none⟩:=by unfold Addr.add;split <;> simp_all
   rw [e9]
   exact hcs j u hj) (by omega) (by omega) (by rw [Nat.zero_add];exact hbytes)
  rw [Nat.zero_add,List.nil_append] at r1;exact ⟨v',w',hrun,.inr r1,(Below.refl _ _).grown r2 (Nat.le_refl _) (fun k hk=>by cases hk)⟩
theorem pmk0 {P:Program} {f:Operand→Value} {o:Oper} (T:TypeId) {X:World} (hr:(execOp f o).run P X=.ok (.value (.slice (some ⟨X.heap.size,0,none⟩) 0 0)) (X.alloc (.cells #[] T))):(execOp f o).run P X=.ok (.value (.slice (some ⟨X.heap.size,0,none⟩) 0 0)) (X.alloc (.cells #[] T)):=hr
theorem pmk1 {P:Program} {f:Operand→Value} {o:Oper} (T:TypeId) (cs:List Value) {X:World} (hr:(execOp f o).run P X=.ok (.value (.slice (some ⟨X.heap.size,0,none⟩) 1 1)) (X.alloc (.cells cs.toArray T))):(execOp f o).run P X=.ok (.value (.slice (some ⟨X.heap.size,0,none⟩) 1 1)) (X.alloc (.cells cs.toArray T)):=hr
theorem qW {P:Program} {f:Operand→Value} {o:Oper} (s x:Operand) (t:TypeId) (ho:o.op=.call { callee:=.builtin .append,args:=#[s,x],argTypes:=#[t,t] }) {vs vx:Value} (hs:f s=vs) (hx:f x=vx) {v':Value} {X X':World} (hr:(Builtin.append_ #[t,t] o.type #[vs,vx]).run P X=.ok v' X'):(execOp f o).run P X=.ok (.value v') X':=by
 unfold execOp
 simp only [ho,resolve,invoke,builtin,Sem.run_bind,Sem.run_pure,Result.andThen_ok,List.map_toArray,List.map_cons,List.map_nil,hs,hx,hr]
def Pcp (B:Nat) (e:TypeId) (m N:Nat) (xs:List Value) (v:Value) (X:World):Prop:=(N=0∧∃ g,v=.slice (some ⟨g,0,none⟩) 0 0)∨X.ownsRow B e m v N xs
theorem Pcp.lasts (B:Nat) (e:TypeId) (m N:Nat) (xs:List Value):dB (Pcp B e m N xs):=fun _ _ _ h hS=>h.imp id fun h9=>bL h9 hS
theorem sT {P:Program} (X:World) (B:Nat) (t ty e:TypeId) (z:Value) (size bytes:Nat) (ht:P.underlying t=some (.slice e)) (hi:(P.info? e).map (fun i=>(i.zero,i.size,i.bytes))=some (some z,size,bytes)) (hz1:z.cells.size=size) (hsz0:0<size)
  {N:Nat} {xs cs:List Value} {v:Value} (hp:Pcp B e size N xs v X) (hxs:xs.length=N * size) {g T:Nat} (hB:Blk X g T cs) (hcs:cs.length=size) (h1:∀ u∈cs,u.oneCell'=true) (hbytes:(N+1) * bytes≤140737488355328) (h63:N+1≤maxLen) (hb:B≤X.heap.size) :
  ∃ v' X',(Builtin.append_ #[t,t] ty #[v,.slice (some ⟨g,0,none⟩) 1 1]).run P X=.ok v' X'∧X'.ownsRow B e size v' (N+1) (xs++cs)∧Below B X X':=by
 obtain ⟨i,hi',hz0,hsz,hby⟩:=info_parts hi
 have hcell:∀ j u,cs[j]?=some u→X.cell? ((⟨g,0,none⟩:Addr).add j)=some u:=fun j u hj=>by
  rw [iQ,Nat.zero_add];exact hB.cell hj
 rcases hp with ⟨rfl,g2,rfl⟩|hown
 ·obtain rfl:xs=[]:=List.eq_nil_of_length_eq_zero (by simpa using hxs)
  obtain ⟨v',w',hrun,r1,r2⟩:=run_append_arg_grows (P:=P) X t ty e i z size bytes ht hi' hz0 hsz hby hz1 hsz0 ⟨g2,0,none⟩ 0 0 [] (by simp) (fun j u hj=>by simp at hj) ⟨g,0,none⟩ 1 1 cs (by rw [hcs,Nat.one_mul]) hcell (by omega) h63 hbytes;exact ⟨v',w',hrun,jJ r1 hb,(Below.refl _ _).grown r2 hb (fun k hk=>by cases hk)⟩
 ·obtain ⟨v',w',hr,h2,h3,h4⟩:=run_append_own (P:=P) X B t ty e i z size bytes ht hi' hz0 hsz hby hz1 hsz0 v N xs hown ⟨g,0,none⟩ 1 1 cs (by rw [hcs,Nat.one_mul]) hcell h1 h63 hbytes hb
  exact ⟨v',w',hr,h2,(Below.refl B X).grown h3 hb (fun k hk=>(cD hown k hk).1)⟩
structure Gp (B:Nat) (X Y:World×Bool):Prop where
 bel:Below B X.1 Y.1
 low:Y.2=false→X.2=false∧Since X.1 Y.1
 high:X.2=true→Y.2=true∧Since X.1 Y.1
theorem Gp.trans {B:Nat} {X Y Z:World×Bool} (h:Gp B X Y) (k:Gp B Y Z):Gp B X Z :=
 ⟨h.bel.trans k.bel,fun hz=>⟨(h.low (k.low hz).1).1,Since.next (h.low (k.low hz).1).2 (k.low hz).2⟩,fun hx=>⟨(k.high (h.high hx).1).1,Since.next (h.high hx).2 (k.high (h.high hx).1).2⟩⟩
theorem Gp.since {B:Nat} {X:World×Bool} {Y:World} (hB:B≤X.1.heap.size) (hS:Since X.1 Y):Gp B X (Y,X.2):=⟨hS.mono hB,fun h=>⟨h,hS⟩,fun h=>⟨h,hS⟩⟩
def vR (S:Value→World→Prop) (v:Value) (X:World×Bool):Prop:=X.2=false→S v X.1
def vQm (S:Value→World→Prop) (v:Value) (X:World×Bool):Prop:=X.2=true∧S v X.1
def Pst (B:Nat) (ss:List (cV Bool)):Prop:=∀ S,some S∈ss→∀ v X Y,S v X→Gp B X Y→S v Y
theorem vXw {B:Nat}:Pst B []:=fun _ h=>by cases h
theorem hU {B:Nat} {ss:List (cV Bool)} (h:Pst B ss):Pst B (none :: ss):=fun S hS=>by
 rcases List.mem_cons.1 hS with h9|h9
 ·cases h9
 ·exact h S h9
theorem qVf {B:Nat} {S0:Value→World→Prop} (h0:dB S0) {ss:List (cV Bool)} (h:Pst B ss):Pst B (some (vR S0) :: ss):=fun S hS=>by
 rcases List.mem_cons.1 hS with h9|h9
 ·injection h9 with h9
  subst h9
  exact fun v X Y h1 hR hy=>h0 v _ _ (h1 (hR.low hy).1) (hR.low hy).2
 ·exact h S h9
theorem vXx {B:Nat} {S0:Value→World→Prop} (h0:dB S0) {ss:List (cV Bool)} (h:Pst B ss):Pst B (some (vQm S0) :: ss):=fun S hS=>by
 rcases List.mem_cons.1 hS with h9|h9
 ·injection h9 with h9
  subst h9
  exact fun v X Y h1 hR=>⟨(hR.high h1.1).1,h0 v _ _ h1.2 (hR.high h1.1).2⟩
 ·exact h S h9
theorem vXv {B:Nat} {S0:Value→Prop} {ss:List (cV Bool)} (h:Pst B ss):Pst B (some (fun v _=>S0 v) :: ss):=fun S hS=>by
 rcases List.mem_cons.1 hS with h9|h9
 ·injection h9 with h9
  subst h9
  exact fun v X Y h1 hR=>h1
 ·exact h S h9
structure lA (P:Program) (ops:Array Oper) (B ap:Nat) (w:World) (Q:Act→World→Prop) (pre:Nat→Nat→Bool) (l:List (Nat×Oper×cV Bool)) (Fs:List (Nat×(World×Bool→Prop))) (a:Act):Prop where
 out:CertG P ops (Gp B) (w,false) (fun a X=>Q a X.1) pre (fun k σ=>k=ap→σ=false) l Fs a
section
variable {P:Program} {ops:Array Oper} {B ap:Nat} {w:World} {Q:Act→World→Prop} {pre:Nat→Nat→Bool} {a a':Act} {k:Nat} {o:Oper} {l:List (Nat×Oper×cV Bool)} {Fs:List (Nat×(World×Bool→Prop))}
theorem qZm {id:Nat} {L:List Oper} {Q':Exit→Act→World→Prop} {z:Oper} (ap:Nat) (ss:List (cV Bool)) (hm:P.follows .mixedOrders=true) (hB:lxB L=true) (hT:nR L=true) (hz:L.drop (L.length-1)=[z]) (hst:Pst w.heap.size ss)
  (h:lA P L.toArray w.heap.size ap w (wpList P L.toArray Q' [z]) (inB (clo L)) (itg 0 L.dropLast ss) [] a):(Code.region id L.toArray true).wp P Q' a w :=
 mX (g0:=false) ss hm hB hT hz (Gp.since (X:=(w,false)) (Nat.le_refl _) ((Below.refl w.heap.size w).drew)) (fun _ _=>rfl) (fun _ _ h h'=>h.trans h') hst h.out
theorem pg (v:Value) (hq:∀ X:World,Below B w X→(∀ p F,(p,F)∈Fs→pre k p=true→∃ σ,F (X,σ))→(execOp a.eval o).run P X=.ok (.value v) X) (h:lA P ops B ap w Q pre l Fs (a.put o.dst v)) (hw:Region.wanted o (yielded ops a.tmps)=true:=by rfl):lA P ops B ap w Q pre ((k,o,none) :: l) Fs a:=by
 refine ⟨?_⟩
 unfold CertG
 rw [if_pos hw];refine ⟨v,fun X hX hF=>?_,h.out⟩
 unfold dA
 rw [hq X.1 hX.bel fun p F h1 h2=>⟨X.2,hF p F h1 h2⟩];exact ⟨rfl,rfl⟩
theorem pnew (S:Value→World→Prop) (hr:∀ X:World,Below B w X→(∀ p F,(p,F)∈Fs→pre k p=true→∃ σ,F (X,σ))→∃ v X',(execOp a.eval o).run P X=.ok (.value v) X'∧S v X'∧Since X X') (hB:B≤w.heap.size) (h:∀ v,lA P ops B ap w Q pre l ((k,vR S v) :: Fs) (a.put o.dst v)) (hw:Region.wanted o (yielded ops a.tmps)=true:=by rfl):lA P ops B ap w Q pre ((k,o,some (vR S)) :: l) Fs a:=by
 refine ⟨?_⟩
 unfold CertG
 rw [if_pos hw];refine ⟨fun X hX hN hF=>?_,fun v=>(h v).out⟩
 obtain ⟨v,X',h1,h2,h3⟩:=hr X.1 hX.bel fun p F h1 h2=>⟨X.2,hF p F h1 h2⟩
 unfold eB
 rw [h1];exact ⟨X.2,fun _=>h2,Gp.since (Nat.le_trans hB hX.bel.size) h3,fun _ _ h=>h⟩
theorem pnewP (S:Value→Prop) (hr:∀ X:World,Below B w X→(∀ p F,(p,F)∈Fs→pre k p=true→∃ σ,F (X,σ))→∃ v X',(execOp a.eval o).run P X=.ok (.value v) X'∧S v∧Since X X') (hB:B≤w.heap.size) (h:∀ v,lA P ops B ap w Q pre l ((k,fun _=>S v) :: Fs) (a.put o.dst v)) (hw:Region.wanted o (yielded ops a.tmps)=true:=by rfl):lA P ops B ap w Q pre ((k,o,some (fun v _=>S v)) :: l) Fs a:=by
 refine ⟨?_⟩
 unfold CertG
 rw [if_pos hw];refine ⟨fun X hX hN hF=>?_,fun v=>(h v).out⟩
 obtain ⟨v,X',h1,h2,h3⟩:=hr X.1 hX.bel fun p F h1 h2=>⟨X.2,hF p F h1 h2⟩
 unfold eB
 rw [h1];exact ⟨X.2,h2,Gp.since (Nat.le_trans hB hX.bel.size) h3,fun _ _ h=>h⟩
theorem pap (S:Value→World→Prop) (hr:∀ X:World,Below B w X→(∀ p F,(p,F)∈Fs→pre ap p=true→F (X,false))→∃ v X',(execOp a.eval o).run P X=.ok (.value v) X'∧S v X'∧Below B X X') (h:∀ v,lA P ops B ap w Q pre l ((ap,vQm S v) :: Fs) (a.put o.dst v)) (hw:Region.wanted o (yielded ops a.tmps)=true:=by rfl):lA P ops B ap w Q pre ((ap,o,some (vQm S)) :: l) Fs a:=by
 refine ⟨?_⟩
 unfold CertG
 rw [if_pos hw];refine ⟨fun X hX hN hF=>?_,fun v=>(h v).out⟩;have hfl:X.2=false:=hN rfl
 obtain ⟨v,X',h1,h2,h3⟩:=hr X.1 hX.bel fun p F h1 h2=>by
  have h9:=hF p F h1 h2
  rwa [show X=(X.1,false) from Prod.ext rfl hfl] at h9
 unfold eB
 rw [h1];exact ⟨true,⟨rfl,h2⟩,⟨h3,(fun h9=>by cases h9),(fun h9=>by rw [hfl] at h9;cases h9)⟩,fun m hm _ h9=>absurd h9 hm⟩
theorem pz (h:∀ X:World,Below B w X→(∀ p F,(p,F)∈Fs→∃ σ,F (X,σ))→Q a X):lA P ops B ap w Q pre [] Fs a:=⟨fun X hX hF=>h X.1 hX.bel fun p F hp=>⟨X.2,hF p F hp⟩⟩
end
theorem qVz {f:Operand→Value} {o:Oper} (x y:Operand) (ho:o.op=.store 25 x y) (g j:Nat) {A:Option Addr} {n c:Nat} (hx:f x=vP g j) (hy:f y=.slice A n c) (u:Value) (X:World) (hc:X.cell? ⟨g,j,none⟩=some u) (hf:X.frozen? ⟨g,j,none⟩=false) :
  (execOp f o).run Tryz.prog X=.ok .skip (X.setCell ⟨g,j,none⟩ (.slice A n c)):=by
 unfold execOp
 simp only [ho,hx,hy]
 go_simp
theorem tM:(Tryz.prog.info? 72).map (fun i=>(i.zero,i.size,i.bytes))=some (some (.agg #[vI 0,vI 0]),2,16):=by kernel_rfl
theorem qVt (l:List Cg) (x:Cg):fl clc l++clc x=fl clc (l++[x]):=by simp [fl]
theorem rZ {c:Int} {l:List En} {cs:List Cg} {p a d:Int} (h:fJ c l cs p a d≠0):gF c l cs p a d=0∧gG c l cs p a d=0∧lK c l cs p a d=false:=by
 unfold gF gG lK
 rw [if_neg h,if_neg h,if_neg h];exact ⟨rfl,rfl,rfl⟩
theorem qVx {c:Int} {l:List En} {cs:List Cg} {p a d:Int} (h:fJ c l cs p a d=0):gF c l cs p a d=knw l p a d∧gG c l cs p a d=dN (gW cs p d) (frz l p a d)∧lK c l cs p a d=gW cs p d:=by
 unfold gF gG lK dN
 rw [if_pos h,if_pos h,if_pos h];exact ⟨rfl,rfl,rfl⟩
set_option maxHeartbeats 8000000 in
theorem fgrC (B:Nat) (c:Int) (v z:Value) (l:List En) (cs:List Cg) (p a d:Int) (w:World) (hv:Es l v w) (hz:Cs B cs z w) (hs1:Hid (Sz45 l)):Calls Tryz.prog 16 #[.agg #[vI c,v,z],vI p,vI a,vI d] w fun e w'=>e=.returned (.tuple #[.agg #[.bool (rN (gF c l cs p a d)),vS (rP (gF c l cs p a d)),vS (rD (gF c l cs p a d)),.bool (rN (gG c l cs p a d)),vS (rP (gG c l cs p a d)),vS (rD (gG c l cs p a d)),.bool (lK c l cs p a d)],vI (fJ c l cs p a d)])∧Since w w':=by
 have hs:Hid (∀ k,tz (en l k).am.2.1 (en l k).am.2.2 1000000):=fun k=>(hs1.out.1 k).mono (by decide)
 obtain ⟨A,n,cp,A2,m,cp2,rfl,rfl,hln,hn1,hlm,hm1,HRX,HLN,HES,HCS,HRC,HLM⟩:=eR hv hz;clear hv hz;obtain ⟨z0,z09⟩:∃ z,peE c l cs=z:=⟨_,rfl⟩;have HZ:=Lib.hid z09;clear z09
 go_enter Tryz.func16,Tryz.ntmps16
 go_upto_region 1 with fail;obtain ⟨W0,hW0,hB0,hB1,hb⟩:=cK w 27 55 [vI c,.slice A n cp,.slice A2 m cp2] [.bool false,.string ⟨#[]⟩,.string ⟨#[]⟩,.bool false,.string ⟨#[]⟩,.string ⟨#[]⟩,.bool false];rw [← hW0];clear hW0;refine jp ?_;refine ja hB0 Tryz.underlying27 (by rfl) aM ?_;refine jc (vI z0) (fun X hX hF=>mo (sX B c _ _ l cs X (HES.out X (Since.next hb hX)) (HCS.out X (Since.next hb hX)) hs) (by rw [HZ.out])) ?_;refine jm (vI z0) ?_;refine aN hb hB0 hB1 fun X1 hX1 hb hB0 hB1=>?_
 by_cases hz0:z0=0
 ·have HC:Hid (peE c l cs=0):=HZ.out.trans hz0
  have HZ0:=Lib.hid hz0;clear hz0;go_upto_region 2 with fail;refine jp ?_;refine jm (vI z0) ?_;refine jv (.bool false) (aZ _ _ _ _ (by rfl) .i64 z0 0 (by rfl) (by rfl) false (by rw [HZ0.out];rfl)) ?_;refine aN hb hB0 hB1 fun X2 hX2 hb hB0 hB1=>?_;obtain ⟨k0,k09⟩:∃ z,dK c p a d=z:=⟨_,rfl⟩;have HK9:=Lib.hid k09;clear k09;go_upto_region 4 with fail;refine jp ?_;refine ja hB0 Tryz.underlying27 (by rfl) aM ?_;refine aU (vI p) (vI a) (vI d) ?_;refine jc (vI k0) (fun X hX hF=>mo (qXy c _ _ p a d X) (by rw [HK9.out])) ?_;refine jm (vI k0) ?_;refine aN hb hB0 hB1 fun X3 hX3 hb hB0 hB1=>?_
  by_cases hk0:k0=0
  ·have HA:Hid (dK c p a d=0):=HK9.out.trans hk0
   have HKZ:=Lib.hid hk0;clear hk0
   have HE:Hid (fJ c l cs p a d=0):=by
    show _=_
    unfold fJ
    rw [HC.out,if_neg (by decide),HA.out]
   have hp0:0≤p:=(gQ HA.out).1;have HK:Hid (Ok44 c l):=(peE_ok.1 HC.out).ac;obtain ⟨q1,q2,q3⟩:=qVx HE.out;have HQ1:=Lib.hid q1;have HQ2:=Lib.hid q2;have HQ3:=Lib.hid q3;clear q1 q2 q3;obtain ⟨K0,hK0⟩:∃ z,knw l p a d=z:=⟨_,rfl⟩;obtain ⟨F0,hF0⟩:∃ z,dN (gW cs p d) (frz l p a d)=z:=⟨_,rfl⟩;obtain ⟨C0,hC0⟩:∃ z,gW cs p d=z:=⟨_,rfl⟩;have HK0:=Lib.hid hK0;have HF0:=Lib.hid hF0;have HC0:=Lib.hid hC0;clear hK0 hF0 hC0;go_upto_region 5 with fail;refine jp ?_;refine jm (vI k0) ?_;refine jv (.bool false) (aZ _ _ _ _ (by rfl) .i64 k0 0 (by rfl) (by rfl) false (by rw [HKZ.out];rfl)) ?_;refine aN hb hB0 hB1 fun X4 hX4 hb hB0 hB1=>?_;go_upto_region 7 with fail;refine jq 5 ?_;refine ja hB0 Tryz.underlying27 (by rfl) aM ?_;refine aU (vI p) (vI a) (vI d) ?_;refine jc (.agg #[.bool (rN K0),st (rP K0),st (rD K0),.bool (rN F0),st (rP F0),st (rD F0),.bool C0]) (fun X hX hF=>mo (vVa B c _ _ l cs p a d X (HES.out X (Since.next hb hX)) (HCS.out X (Since.next hb hX)) hs1 HK hp0) (by rw [HF0.out,HK0.out,HC0.out])) ?_;refine aN hb hB0 hB1 fun X5 hX5 hb hB0 hB1=>?_;refine osb 55 8 31 (w.heap.size+1) 55 hB1 [.bool (rN K0),vS (rP K0),vS (rD K0),.bool (rN F0),vS (rP F0),vS (rD F0),.bool C0] dD ?_;intro w9 hR9 hO9 hB9 hs9;have hb9:=hB9 _ _ hb (by omega);have hB0:=hO9 _ _ _ (by omega) hB0;clear hO9 hB9
   go_wp2
   refine bR (v:=vI 0) rfl rfl (by rfl) (by rfl) Tryz.underlying55 rfl hR9 dD ⟨by rw [HE.out,HQ1.out,HQ2.out,HQ3.out,HF0.out,HK0.out,HC0.out],hb9⟩
  ·have HA:=HK9
   have HE:Hid (fJ c l cs p a d=k0):=by
    show _=_
    unfold fJ
    rw [HC.out,if_neg (by decide),HA.out]
   go_upto_region 5 with fail;refine jp ?_;refine jm (vI k0) ?_;refine jv (.bool true) (aZ _ _ _ _ (by rfl) .i64 k0 0 (by rfl) (by rfl) true (by rw [decide_eq_false (by omega)];rfl)) ?_;refine aN hb hB0 hB1 fun X4 hX4 hb hB0 hB1=>?_;obtain ⟨q1,q2,q3⟩:=rZ (c:=c) (l:=l) (cs:=cs) (p:=p) (a:=a) (d:=d) (by rw [HE.out];exact hk0);have HQ1:=Lib.hid q1;have HQ2:=Lib.hid q2;have HQ3:=Lib.hid q3;clear q1 q2 q3;go_upto_region 6 with fail;refine jq 2 ?_;refine jn (.agg #[.bool false,.string ⟨#[]⟩,.string ⟨#[]⟩,.bool false,.string ⟨#[]⟩,.string ⟨#[]⟩,.bool false]) ?_;refine jm (vI k0) ?_;refine aN hb hB0 hB1 fun X5 hX5 hb hB0 hB1=>?_;refine osb 55 8 25 (w.heap.size+1) 55 hB1 [.bool false,.string ⟨#[]⟩,.string ⟨#[]⟩,.bool false,.string ⟨#[]⟩,.string ⟨#[]⟩,.bool false] dD ?_;intro w9 hR9 hO9 hB9 hs9;have hb9:=hB9 _ _ hb (by omega);have hB0:=hO9 _ _ _ (by omega) hB0;clear hO9 hB9
   go_wp2
   refine bR (v:=vI k0) rfl rfl (by rfl) (by rfl) Tryz.underlying55 rfl hR9 dD ⟨by rw [HE.out,HQ1.out,HQ2.out,HQ3.out];rfl,hb9⟩
 ·have HE:Hid (fJ c l cs p a d=z0):=by
   show _=_
   unfold fJ
   rw [HZ.out,if_pos hz0]
  go_upto_region 2 with fail;refine jp ?_;refine jm (vI z0) ?_;refine jv (.bool true) (aZ _ _ _ _ (by rfl) .i64 z0 0 (by rfl) (by rfl) true (by rw [decide_eq_false (by omega)];rfl)) ?_;refine aN hb hB0 hB1 fun X2 hX2 hb hB0 hB1=>?_;obtain ⟨q1,q2,q3⟩:=rZ (c:=c) (l:=l) (cs:=cs) (p:=p) (a:=a) (d:=d) (by rw [HE.out];exact hz0);have HQ1:=Lib.hid q1;have HQ2:=Lib.hid q2;have HQ3:=Lib.hid q3;clear q1 q2 q3;go_upto_region 3 with fail;refine jq 2 ?_;refine jn (.agg #[.bool false,.string ⟨#[]⟩,.string ⟨#[]⟩,.bool false,.string ⟨#[]⟩,.string ⟨#[]⟩,.bool false]) ?_;refine jm (vI z0) ?_;refine aN hb hB0 hB1 fun X3 hX3 hb hB0 hB1=>?_;refine osb 55 8 16 (w.heap.size+1) 55 hB1 [.bool false,.string ⟨#[]⟩,.string ⟨#[]⟩,.bool false,.string ⟨#[]⟩,.string ⟨#[]⟩,.bool false] dD ?_;intro w9 hR9 hO9 hB9 hs9;have hb9:=hB9 _ _ hb (by omega);have hB0:=hO9 _ _ _ (by omega) hB0;clear hO9 hB9
  go_wp2
  refine bR (v:=vI z0) rfl rfl (by rfl) (by rfl) Tryz.underlying55 rfl hR9 dD ⟨by rw [HE.out,HQ1.out,HQ2.out,HQ3.out];rfl,hb9⟩
def fX {α:Type} (e:Int) (l:List α):List α:=if e=0 then l else []
set_option maxHeartbeats 8000000 in
theorem clsC (B:Nat) (c:Int) (v z:Value) (l:List En) (cs:List Cg) (d:Int) (w:World) (hv:Es l v w) (hz:Cs B cs z w) (hs:Hid (∀ k,tz (en l k).am.2.1 (en l k).am.2.2 1000000)):Calls Tryz.prog 14 #[.agg #[vI c,v,z],vI d] w fun e w'=>∃ u,e=.returned u∧Tp (Prs B (ifz (eV c l cs d) c) (fX (eV c l cs d) l) (jE c l cs d)) (eV c l cs d) u w'∧Since w w':=by
 obtain ⟨A,n,cp,A2,m,cp2,rfl,rfl,hln,hn1,hlm,hm1,HRX,HLN,HES,HCS,HRC,HLM⟩:=eR hv hz;clear hv hz;obtain ⟨z0,z09⟩:∃ z,peE c l cs=z:=⟨_,rfl⟩;have HZ:=Lib.hid z09;clear z09
 go_enter Tryz.func14,Tryz.ntmps14
 go_upto_region 1 with fail;obtain ⟨W0,hW0,hB0,hB1,hb⟩:=cK w 27 27 [vI c,.slice A n cp,.slice A2 m cp2] [vI 0,.slice none 0 0,.slice none 0 0];rw [← hW0];clear hW0;refine jp ?_;refine ja hB0 Tryz.underlying27 (by rfl) aM ?_;refine jc (vI z0) (fun X hX hF=>mo (sX B c _ _ l cs X (HES.out X (Since.next hb hX)) (HCS.out X (Since.next hb hX)) hs) (by rw [HZ.out])) ?_;refine jm (vI z0) ?_;refine aN hb hB0 hB1 fun X1 hX1 hb hB0 hB1=>?_
 by_cases hz0:z0=0
 ·have HC:Hid (peE c l cs=0):=HZ.out.trans hz0
  have HZ0:=Lib.hid hz0;clear hz0;go_upto_region 2 with fail;refine jp ?_;refine jm (vI z0) ?_;refine jv (.bool false) (aZ _ _ _ _ (by rfl) .i64 z0 0 (by rfl) (by rfl) false (by rw [HZ0.out];rfl)) ?_;refine aN hb hB0 hB1 fun X2 hX2 hb hB0 hB1=>?_
  rcases (show (d<0∨14609<d)∨(0≤d∧d≤14609) by omega) with h|h
  ·have HD:Hid ((decide (0≤d) && decide (d≤14609))=false):=by
    show _=_
    rcases h with h9|h9
    ·rw [decide_eq_false (show ¬ 0≤d by omega)];rfl
    ·rw [decide_eq_false (show ¬ d≤14609 by omega),Bool.and_false]
   have HE:Hid (eV c l cs d=3):=by
    show _=_
    unfold eV
    rw [HC.out,if_neg (by decide),if_pos h]
   go_upto_region 4 with fail;refine jp ?_;refine jm (vI d) ?_;refine jc (.bool false) (fun X hX hF=>mo (xZ d X) (by rw [HD.out])) ?_;refine jmm (.bool true) (.bool true) ?_;refine aN hb hB0 hB1 fun X3 hX3 hb hB0 hB1=>?_
   have HL:Hid (jE c l cs d=[]):=by
    show _=_
    unfold jE
    rw [HE.out,if_neg (by decide)]
   have HI:Hid (fX (eV c l cs d) l=[]):=by
    show _=_
    unfold fX
    rw [HE.out,if_neg (by decide)]
   have HJ:Hid (ifz (eV c l cs d) c=0):=by
    show _=_
    unfold ifz
    rw [HE.out,if_neg (by decide)]
   go_upto_region 5 with fail;refine jq 1 ?_;refine jn (.agg #[vI 0,.slice none 0 0,.slice none 0 0]) ?_;refine aN hb hB0 hB1 fun X4 hX4 hb hB0 hB1=>?_;refine osb 27 4 17 (w.heap.size+1) 27 hB1 [vI 0,.slice none 0 0,.slice none 0 0] aM ?_;intro w9 hR9 hO9 hB9 hs9;have hb9:=hB9 _ _ hb (by omega);have hB0:=hO9 _ _ _ (by omega) hB0;clear hO9 hB9
   go_wp2
   refine bR (v:=vI 3) rfl rfl (by rfl) (by rfl) Tryz.underlying27 rfl hR9 aM ⟨_,rfl,⟨_,by rw [HE.out],by rw [HJ.out,HI.out,HL.out];exact ⟨_,_,rfl,iM _,iO _ _⟩⟩,hb9⟩
  ·have hd:=h
   clear h
   have HD:Hid ((decide (0≤d) && decide (d≤14609))=true):=by
    show _=_
    rw [decide_eq_true hd.1,decide_eq_true hd.2];rfl
   obtain ⟨st9,st99⟩:∃ z,stl l cs d=z:=⟨_,rfl⟩;have HST:=Lib.hid st99;clear st99;go_upto_region 4 with fail;refine jp ?_;refine jm (vI d) ?_;refine jc (.bool true) (fun X hX hF=>mo (xZ d X) (by rw [HD.out])) ?_;refine jmm (.bool false) (.bool false) ?_;refine aN hb hB0 hB1 fun X3 hX3 hb hB0 hB1=>?_;go_upto_region 6 with fail
   rcases st9 with _|_
   ·skip
    refine jp ?_;refine ja hB0 Tryz.underlying27 (by rfl) aM ?_;refine jm (vI d) ?_;refine jc (.bool false) (fun X hX hF=>mo (qYn B c _ _ l cs d X (HES.out X (Since.next hb hX)) (HCS.out X (Since.next hb hX))) (by rw [HST.out])) ?_;refine jm (.bool false) ?_;refine aN hb hB0 hB1 fun X4 hX4 hb hB0 hB1=>?_
    by_cases hn:cs.length=4000
    ·have HE:Hid (eV c l cs d=2):=by
      show _=_
      unfold eV
      rw [HC.out,if_neg (by decide),if_neg (by omega),if_neg (by rw [HST.out];decide),if_pos hn]
     have HM4:Hid (m=4000):=by show _=_;rw [← HLM.out];exact hn
     clear hn;go_upto_region 8 with fail;refine jp ?_;refine jn (vP w.heap.size 2) ?_;refine jf _ hB0 2 bD ?_;refine jv (vI m) (aH Tryz.underlying25 _ (by rfl) A2 m cp2 (by rfl) _ rfl) ?_;refine cP (m:Int) 4000 (by rw [HM4.out];rfl) ?_;refine jm (.bool true) ?_;refine aN hb hB0 hB1 fun X5 hX5 hb hB0 hB1=>?_
     have HL:Hid (jE c l cs d=[]):=by
      show _=_
      unfold jE
      rw [HE.out,if_neg (by decide)]
     have HI:Hid (fX (eV c l cs d) l=[]):=by
      show _=_
      unfold fX
      rw [HE.out,if_neg (by decide)]
     have HJ:Hid (ifz (eV c l cs d) c=0):=by
      show _=_
      unfold ifz
      rw [HE.out,if_neg (by decide)]
     go_upto_region 9 with fail;refine jq 1 ?_;refine jn (.agg #[vI 0,.slice none 0 0,.slice none 0 0]) ?_;refine aN hb hB0 hB1 fun X6 hX6 hb hB0 hB1=>?_;refine osb 27 4 28 (w.heap.size+1) 27 hB1 [vI 0,.slice none 0 0,.slice none 0 0] aM ?_;intro w9 hR9 hO9 hB9 hs9;have hb9:=hB9 _ _ hb (by omega);have hB0:=hO9 _ _ _ (by omega) hB0;clear hO9 hB9
     go_wp2
     refine bR (v:=vI 2) rfl rfl (by rfl) (by rfl) Tryz.underlying27 rfl hR9 aM ⟨_,rfl,⟨_,by rw [HE.out],by rw [HJ.out,HI.out,HL.out];exact ⟨_,_,rfl,iM _,iO _ _⟩⟩,hb9⟩
    ·have HE:Hid (eV c l cs d=0):=by
      show _=_
      unfold eV
      rw [HC.out,if_neg (by decide),if_neg (by omega),if_neg (by rw [HST.out];decide),if_neg hn]
     have HL:Hid (jE c l cs d=cs++[⟨d,(l.length:Int)⟩]):=by
      show _=_
      unfold jE
      rw [if_pos HE.out]
     have HI:Hid (fX (eV c l cs d) l=l):=by
      show _=_
      unfold fX
      rw [if_pos HE.out]
     have HJ:Hid (ifz (eV c l cs d) c=c):=by
      show _=_
      unfold ifz
      rw [if_pos HE.out]
     have hf4:=(peE_ok.1 HC.out).few;rw [HLM.out] at hn hf4;go_upto_region 8 with fail;refine jp ?_;refine jn (vP w.heap.size 2) ?_;refine jf _ hB0 2 bD ?_;refine jv (vI m) (aH Tryz.underlying25 _ (by rfl) A2 m cp2 (by rfl) _ rfl) ?_;refine dF (m:Int) 4000 (by omega) ?_;refine jm (.bool false) ?_;refine aN hb hB0 hB1 fun X5 hX5 hb hB0 hB1=>?_
     have hlX:(fl clc cs).length=m * 2:=by rw [vQf,HLM.out]
     have hgw2:=hB1.lt;go_upto_region 10 with fail;refine qZm 11 [some (fun v _=>(fun v=>∃ g,v=.slice (some ⟨g,0,none⟩) 0 0) v),none,none,some (vR (Pcp X5.heap.size 72 2 m (fl clc cs))),none,none,none,none,none,none,some (vR (fun v X=>∃ g,v=.slice (some ⟨g,0,none⟩) 1 1∧Blk X g 72 [vI d,vI n])),some (vQm (fun v X=>X.ownsRow X5.heap.size 72 2 v (m+1) ((fl clc cs)++[vI d,vI n])))] (by kernel_rfl) (by kernel_rfl) (by kernel_rfl) rfl (vXv (hU (hU (qVf (Pcp.lasts _ _ _ _ _) (hU (hU (hU (hU (hU (hU (qVf (fun _ _ _ ⟨g,h1,h2⟩ hS=>⟨g,h1,h2.bel hS⟩) (vXx (S0:=fun v X=>X.ownsRow X5.heap.size 72 2 v (m+1) ((fl clc cs)++[vI d,vI n])) (fun _ _ _ h hS=>bL h hS) (vXw))))))))))))) ?_;simp only [iB,List.dropLast,Nat.reduceAdd];refine pnewP (fun v=>∃ g,v=.slice (some ⟨g,0,none⟩) 0 0) (fun X hX hF=>⟨_,_,pmk0 72 (by unfold execOp;go_simp),⟨_,rfl⟩,bP X _⟩) (Nat.le_refl _) fun v29=>?_;simp only [pX];refine pg (vP w.heap.size 2) (fun X hX hF=>by (unfold execOp;go_simp)) ?_;simp only [pX];refine pg (.slice A2 m cp2) (fun X hX hF=>aR 25 _ (by rfl) w.heap.size 2 (by rfl) _ X ((hB0.bel hX).cell (j:=2) rfl) (fun X u h=>bD w.heap.size 2 X u h)) ?_;simp only [pX]
     refine pnew (Pcp X5.heap.size 72 2 m (fl clc cs)) (fun X hX hF=>by
      obtain ⟨_,g9,h9⟩:=hF _ _ List.mem_cons_self rfl;obtain ⟨v',X',h1,h2,h3⟩:=sU (P:=Tryz.prog) X _ _ 72 _ 2 16 Tryz.underlying25 tM rfl (by decide) g9 _ m (fl clc cs) (HRC.out X (Since.next hb hX)) (by omega) (by unfold maxLen;omega);refine ⟨v',X',qW _ _ _ (by rfl) (show _=.slice (some ⟨g9,0,none⟩) 0 0 from h9) (by rfl) h1,?_,h3⟩
      rcases h2 with ⟨h4,h5⟩|h4
      ·exact .inl ⟨h4,g9,h5⟩
      ·exact .inr (jJ h4 hX.size)) (Nat.le_refl _) fun v32=>?_
     simp only [pX];refine pg (vI d) (fun X hX hF=>by rfl) ?_;simp only [pX];refine pg (vP w.heap.size 0) (fun X hX hF=>by (unfold execOp;go_simp)) ?_;simp only [pX];refine pg (vP w.heap.size 1) (fun X hX hF=>by (unfold execOp;go_simp)) ?_;simp only [pX];refine pg (.slice A n cp) (fun X hX hF=>aR 22 _ (by rfl) w.heap.size 1 (by rfl) _ X ((hB0.bel hX).cell (j:=1) rfl) (fun X u h=>aS w.heap.size 1 X u h)) ?_;simp only [pX];refine pg (vI n) (fun X hX hF=>aH Tryz.underlying22 _ (by rfl) A n cp (by rfl) _ rfl X) ?_;simp only [pX];refine pg (.agg #[vI d,vI n]) (fun X hX hF=>by (unfold execOp;go_simp)) ?_;simp only [pX];refine pnew (fun v X=>∃ g,v=.slice (some ⟨g,0,none⟩) 1 1∧Blk X g 72 [vI d,vI n]) (fun X hX hF=>⟨_,_,pmk1 72 [vI d,vI n] (by unfold execOp;go_simp),⟨_,rfl,Blk.new rfl⟩,bP X _⟩) (Nat.le_refl _) fun v39=>?_;simp only [pX];refine pap (hw:=?hw9) (fun v X=>X.ownsRow X5.heap.size 72 2 v (m+1) ((fl clc cs)++[vI d,vI n])) ?hr9 ?_
     case hw9=>rfl
     case hr9 =>
      intro X hX hF;have h8:=hF _ (vR (Pcp X5.heap.size 72 2 m (fl clc cs)) v32) (List.mem_cons_of_mem _ List.mem_cons_self) rfl rfl;obtain ⟨g9,h9,h7⟩:=hF _ (vR (fun v X=>∃ g,v=.slice (some ⟨g,0,none⟩) 1 1∧Blk X g 72 [vI d,vI n]) v39) List.mem_cons_self rfl rfl;obtain ⟨v',X',h1,h2,h3⟩:=sT (P:=Tryz.prog) X X5.heap.size _ _ 72 _ 2 16 Tryz.underlying25 tM rfl (by decide) h8 (hlX) h7 rfl (al2 rfl rfl) (by omega) (by unfold maxLen;omega) hX.size;exact ⟨v',X',qW _ _ _ (by rfl) (by rfl) (show _=.slice (some ⟨g9,0,none⟩) 1 1 from h9) h1,h2,h3⟩
     intro v40;simp only [pX];refine pg (vP w.heap.size 2) (fun X hX hF=>by (unfold execOp;go_simp)) ?_;simp only [pX];refine pz ?_;intro X6 hX hF;obtain ⟨_,_,hO40⟩:=hF _ _ List.mem_cons_self;replace hO40:X6.ownsRow X5.heap.size 72 2 v40 (m+1) ((fl clc cs)++[vI d,vI n]):=hO40;obtain ⟨hB0,hB1⟩:=bl2 hX hB0 hB1;have hb:=aF hb hX;clear hF hX;obtain ⟨A6,c6,rfl,_,_⟩:=(Rd.of_own hO40).form;have hOw:=hO40;clear hO40;refine cX rfl w.heap.size 2 27 _ hB0 (.slice A6 (m+1) c6) (by simp) (fun X u h1 h2=>qVz _ _ (by rfl) _ _ (by rfl) (by rfl) u X h1 h2) ?_;intro w10 hR9 hG9;have hb:=bA hG9 hb hb.size (by omega);replace hB1:=aJ hG9 hB1 (by omega);have hOw:=dT hOw hG9 (fun g h h9=>by injection h with h;have h8:=(cD hOw _ h9).1;omega);have hB0:=hR9;clear hR9 hG9;refine wpList_nil ?_;go_upto_region 11 with fail;refine jq 1 ?_;refine ja hB0 Tryz.underlying27 (by rfl) aM ?_;refine aN hb hB0 hB1 fun X7 hX7 hb hB0 hB1=>?_;replace hOw:=bL hOw hX7;refine bM rfl 27 (.tmp 4) (.tmp 42) rfl (w.heap.size+1) 27 _ hB1 rfl [vI c,.slice A n cp,.slice A6 (m+1) c6] rfl (by rfl) (al3 rfl rfl rfl) aM ?_;intro w9 hR9 hG9;have hb:=bA hG9 hb hb.size (by omega);have hOw:=dT hOw hG9 (fun g h h9=>by injection h with h;have h8:=(cD hOw _ h9).1;omega);have hES9:=HES.out _ hb
     go_wp2
     refine bR (v:=vI 0) rfl rfl (by rfl) (by rfl) Tryz.underlying27 rfl hR9 aM ⟨_,rfl,⟨_,by rw [HE.out],by rw [HJ.out,HI.out,HL.out];exact ⟨_,_,rfl,hES9,vYy (by rw [← qVt];show World.ownsRow _ _ _ _ _ _ (fl clc cs++[vI d,vI (l.length:Int)]);rw [HLN.out];exact hOw) (by rw [List.length_append,HLM.out];rfl)⟩⟩,hb⟩
   ·skip
    refine jp ?_;refine ja hB0 Tryz.underlying27 (by rfl) aM ?_;refine jm (vI d) ?_;refine jc (.bool true) (fun X hX hF=>mo (qYn B c _ _ l cs d X (HES.out X (Since.next hb hX)) (HCS.out X (Since.next hb hX))) (by rw [HST.out])) ?_;refine jm (.bool true) ?_;refine aN hb hB0 hB1 fun X4 hX4 hb hB0 hB1=>?_
    have HE:Hid (eV c l cs d=15):=by
     show _=_
     unfold eV
     rw [HC.out,if_neg (by decide),if_neg (by omega),if_pos HST.out]
    have HL:Hid (jE c l cs d=[]):=by
     show _=_
     unfold jE
     rw [HE.out,if_neg (by decide)]
    have HI:Hid (fX (eV c l cs d) l=[]):=by
     show _=_
     unfold fX
     rw [HE.out,if_neg (by decide)]
    have HJ:Hid (ifz (eV c l cs d) c=0):=by
     show _=_
     unfold ifz
     rw [HE.out,if_neg (by decide)]
    go_upto_region 7 with fail;refine jq 1 ?_;refine jn (.agg #[vI 0,.slice none 0 0,.slice none 0 0]) ?_;refine aN hb hB0 hB1 fun X5 hX5 hb hB0 hB1=>?_;refine osb 27 4 22 (w.heap.size+1) 27 hB1 [vI 0,.slice none 0 0,.slice none 0 0] aM ?_;intro w9 hR9 hO9 hB9 hs9;have hb9:=hB9 _ _ hb (by omega);have hB0:=hO9 _ _ _ (by omega) hB0;clear hO9 hB9
    go_wp2
    refine bR (v:=vI 15) rfl rfl (by rfl) (by rfl) Tryz.underlying27 rfl hR9 aM ⟨_,rfl,⟨_,by rw [HE.out],by rw [HJ.out,HI.out,HL.out];exact ⟨_,_,rfl,iM _,iO _ _⟩⟩,hb9⟩
 ·have HE:Hid (eV c l cs d=z0):=by
   show _=_
   unfold eV
   rw [HZ.out,if_pos hz0]
  go_upto_region 2 with fail;refine jp ?_;refine jm (vI z0) ?_;refine jv (.bool true) (aZ _ _ _ _ (by rfl) .i64 z0 0 (by rfl) (by rfl) true (by rw [decide_eq_false (by omega)];rfl)) ?_;refine aN hb hB0 hB1 fun X2 hX2 hb hB0 hB1=>?_
  have HL:Hid (jE c l cs d=[]):=by
   show _=_
   unfold jE
   rw [HE.out,if_neg hz0]
  have HI:Hid (fX (eV c l cs d) l=[]):=by
   show _=_
   unfold fX
   rw [HE.out,if_neg hz0]
  have HJ:Hid (ifz (eV c l cs d) c=0):=by
   show _=_
   unfold ifz
   rw [HE.out,if_neg hz0]
  go_upto_region 3 with fail;refine jq 2 ?_;refine jn (.agg #[vI 0,.slice none 0 0,.slice none 0 0]) ?_;refine jm (vI z0) ?_;refine aN hb hB0 hB1 fun X3 hX3 hb hB0 hB1=>?_;refine osb 27 4 11 (w.heap.size+1) 27 hB1 [vI 0,.slice none 0 0,.slice none 0 0] aM ?_;intro w9 hR9 hO9 hB9 hs9;have hb9:=hB9 _ _ hb (by omega);have hB0:=hO9 _ _ _ (by omega) hB0;clear hO9 hB9
  go_wp2
  refine bR (v:=vI z0) rfl rfl (by rfl) (by rfl) Tryz.underlying27 rfl hR9 aM ⟨_,rfl,⟨_,by rw [HE.out],by rw [HJ.out,HI.out,HL.out];exact ⟨_,_,rfl,iM _,iO _ _⟩⟩,hb9⟩
end Go.Proofs.YtjkfchehkpmhkaaGreatDoor

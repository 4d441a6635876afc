/- law 45: words of the laws. -/
import Derived.Test.YtjkfchehkpmhkaaDoorProg
import Derived.Maps.Own
import Derived.Maps.Views
import Derived.Maps.RangeWalk
import Derived.DeepKeys4
import Derived.Test.YtjkfchehkpmhkaaDoorS45
import Derived.Test.YtjkfchehkpmhkaaDoorPl45c
import Derived.Test.YtjkfchehkpmhkaaDoorPw45
import Derived.Test.YtjkfchehkpmhkaaDoorAw
import Derived.Test.YtjkfchehkpmhkaaDoorLa
set_option linter.unusedSimpArgs false
set_option linter.unusedVariables false
set_option maxRecDepth 100000
set_option maxHeartbeats 1600000
namespace Go.Proofs.YtjkfchehkpmhkaaDoor
open Go.RowKit
abbrev G2:=Bool×Bool
structure Gc (m:Nat) (X Y:World×G2):Prop where
 below:Below m X.1 Y.1
 m1:X.2.1=true→Y.2.1=true
 m2:X.2.2=true→Y.2.2=true
 i:Y.2.2=true→Y.2.1=true
 s0:Y.2.1=false→Since X.1 Y.1
 s1:X.2.1=true→Y.2.2=false→Since X.1 Y.1
 s2:X.2.2=true→Since X.1 Y.1
theorem Gc.trans {w:World} {X Y:World×G2} (h:Gc w.heap.size (w,(false,false)) X) (h':Gc w.heap.size X Y):Gc w.heap.size (w,(false,false)) Y where
 below:=h.below.trans h'.below
 m1:=fun h9=>by cases h9
 m2:=fun h9=>by cases h9
 i:=h'.i
 s0:=fun h9=>by
  have h1:X.2.1=false:=by
   cases hx:X.2.1 with
   | false=>rfl
   | true=>rw [h'.m1 hx] at h9;cases h9
  exact Since.next (h.s0 h1) (h'.s0 h9)
 s1:=fun h9=>by cases h9
 s2:=fun h9=>by cases h9
theorem Gc.since {m:Nat} {X:World×G2} (hi:X.2.2=true→X.2.1=true) (hm:m≤X.1.heap.size) {Y:World} (hS:Since X.1 Y):Gc m X (Y,X.2) :=
 ⟨Below.mono hS hm,id,id,hi,fun _=>hS,fun _ _=>hS,fun _=>hS⟩
theorem pL {P:Program} {w:World} (t ty:TypeId) (base:Nat) (e:TypeId) (z:Value) (size bytes:Nat) (ht:P.underlying t=some (.slice e)) (hi:(P.info? e).map (fun i=>(i.zero,i.size,i.bytes))=some (some z,size,bytes))
  (hz1:z.cells.size=size) (hsz0:0<size) (v:Value) (n:Nat) (xs:List Value) (hown:w.ownsRow base e size v n xs)
  (vx:Value) (m:Nat) (news:List Value) (hr:Rd w size vx m news) (h1:∀ u∈news,u.oneCell'=true)
  (hbytes:(n+m) * bytes≤140737488355328) (h63:n+m≤maxLen) (hbase:base≤w.heap.size) :
  ∃ v' w',(Builtin.append_ #[t,t] ty #[v,vx]).run P w=.ok v' w'∧w'.ownsRow base e size v' (n+m) (xs++news)∧w.grownBy w' v.ownBlock:=by
 obtain ⟨i,hi',hz0,hsz,hby⟩:=info_parts hi;obtain ⟨hl,A,c,rfl,hc,hm,hz,hcell⟩:=hr
 rcases Nat.eq_zero_or_pos m with h0|h0
 ·subst h0
  have hn:news=[]:=List.eq_nil_of_length_eq_zero (by simpa using hl);subst hn
  rcases A with _|ad
  ·have hc0:=hz rfl
   subst hc0;exact ⟨v,w,run_append_owned_none w base t ty e i size ht hi' v n xs hown,by simpa using hown,World.grownBy.refl _ _⟩
  ·obtain ⟨v',w',hr,h2,h3,_⟩:=run_append_own (P:=P) w base t ty e i z size bytes ht hi' hz0 hsz hby hz1 hsz0 v n xs hown ad 0 c [] (by simp) (by simp) (by simp) h63 hbytes hbase
   exact ⟨v',w',hr,h2,h3⟩
 ·obtain ⟨b,off,rfl,hb,hcs⟩:=hcell h0
  obtain ⟨v',w',hr,h2,h3,_⟩:=run_append_own (P:=P) w base t ty e i z size bytes ht hi' hz0 hsz hby hz1 hsz0 v n xs hown ⟨b,off,none⟩ m c news hl (fun j u hj=>by
   have e:(⟨b,off,none⟩:Addr).add j=⟨b,off+j,none⟩:=by
    unfold Addr.add
    split <;> simp_all
   rw [e]
   exact hcs j u hj) h1 h63 hbytes hbase
  exact ⟨v',w',hr,h2,h3⟩
structure lG (P:Program) (ops:Array Oper) (ka kb:Nat) (w:World) (Q:Act→World→Prop) (pre:Nat→Nat→Bool) (l:List (Nat×Oper×bU G2)) (Fs:List (Nat×(World×G2→Prop))) (a:Act):Prop where
 out:CertG P ops (Gc w.heap.size) (w,(false,false)) (fun a X=>Q a X.1) pre (fun k σ=>(k=ka→σ.1=false)∧(k=kb→σ.2=false)) l Fs a
theorem iC2:(∀ (k:Nat) (ss:List (bU G2)),itg k [] ss=[])∧(∀ (k:Nat) (o:Oper) (l:List Oper),itg (G:=G2) k (o :: l) []=(k,o,none) :: itg (k+1) l [])∧(∀ (k:Nat) (o:Oper) (l:List Oper) (s:bU G2) (ss:List (bU G2)),itg k (o :: l) (s :: ss)=(k,o,s) :: itg (k+1) l ss)∧(∀ n:Nat,0+n=n) :=
 ⟨fun k ss=>by cases ss <;> rfl,fun _ _ _=>rfl,fun _ _ _ _ _=>rfl,Nat.zero_add⟩
def Sc0 (m:Nat) (e:TypeId) (sz:Nat) (v:Value) (X:World×G2):Prop:=X.2.1=true∨X.1.ownsRow m e sz v 0 []
def Sc1 (m:Nat) (e:TypeId) (sz n:Nat) (xs:List Value) (v:Value) (X:World×G2):Prop:=X.2.1=true∧(X.2.2=true∨X.1.ownsRow m e sz v n xs)
def Sc2 (m:Nat) (e:TypeId) (sz n:Nat) (xs:List Value) (v:Value) (X:World×G2):Prop:=X.2.2=true∧X.1.ownsRow m e sz v n xs
theorem Sc0.lasts {m:Nat} {e:TypeId} {sz:Nat} {v:Value} {X Y:World×G2} (h:Sc0 m e sz v X) (hR:Gc m X Y):Sc0 m e sz v Y:=by
 rcases h with h|h
 ·exact .inl (hR.m1 h)
 ·cases hy:Y.2.1 with
  | true=>exact .inl hy
  | false=>exact .inr (cA h (hR.s0 hy))
theorem Sc1.lasts {m:Nat} {e:TypeId} {sz n:Nat} {xs:List Value} {v:Value} {X Y:World×G2} (h:Sc1 m e sz n xs v X) (hR:Gc m X Y):Sc1 m e sz n xs v Y:=by
 obtain ⟨h1,h2⟩:=h;refine ⟨hR.m1 h1,?_⟩
 rcases h2 with h2|h2
 ·exact .inl (hR.m2 h2)
 ·by_cases hy:Y.2.2=true
  ·exact .inl hy
  ·exact .inr (cA h2 (hR.s1 h1 (Bool.eq_false_iff.2 hy)))
theorem Sc2.lasts {m:Nat} {e:TypeId} {sz n:Nat} {xs:List Value} {v:Value} {X Y:World×G2} (h:Sc2 m e sz n xs v X) (hR:Gc m X Y):Sc2 m e sz n xs v Y:=⟨hR.m2 h.1,cA h.2 (hR.s2 h.1)⟩
theorem vZz {m:Nat}:∀ S,some S∈([]:List (bU G2))→∀ v X Y,S v X→Gc m X Y→S v Y:=fun _ h=>by cases h
theorem oU {m:Nat} {ss:List (bU G2)} (h:∀ S,some S∈ss→∀ v X Y,S v X→Gc m X Y→S v Y):∀ S,some S∈none :: ss→∀ v X Y,S v X→Gc m X Y→S v Y:=fun S hS=>by
 rcases List.mem_cons.1 hS with h9|h9
 ·cases h9
 ·exact h S h9
theorem sU {m:Nat} {ss:List (bU G2)} {S0:Value→World×G2→Prop} (h0:∀ v X Y,S0 v X→Gc m X Y→S0 v Y) (h:∀ S,some S∈ss→∀ v X Y,S v X→Gc m X Y→S v Y):∀ S,some S∈some S0 :: ss→∀ v X Y,S v X→Gc m X Y→S v Y:=fun S hS=>by
 rcases List.mem_cons.1 hS with h9|h9
 ·injection h9 with h9
  exact h9 ▸ h0
 ·exact h S h9
section
variable {P:Program} {ops:Array Oper} {ka kb:Nat} {w:World} {Q:Act→World→Prop} {pre:Nat→Nat→Bool} {a a':Act} {k:Nat} {o:Oper} {l:List (Nat×Oper×bU G2)} {Fs:List (Nat×(World×G2→Prop))}
theorem zZ {id:Nat} {L:List Oper} {Q':Exit→Act→World→Prop} (ka kb:Nat) (ss:List (bU G2)) (hm:P.follows .mixedOrders=true) (hB:lxB L=true) (hst:∀ S,some S∈ss→∀ v X Y,S v X→Gc w.heap.size X Y→S v Y)
  (h:lG P L.toArray ka kb w (wpList P L.toArray Q' []) (inB (clo L)) (itg 0 L ss) [] a):(Code.region id L.toArray true).wp P Q' a w :=
 tG (g0:=(false,false)) ss hm hB (Gc.since (X:=(w,(false,false))) (fun h=>by cases h) (Nat.le_refl _) ((Below.refl w.heap.size w).drew)) (fun _=>⟨fun _=>rfl,fun _=>rfl⟩) (fun _ _ h h'=>h.trans h') hst h.out
theorem cq (v:Value) (hq:∀ (X:World) (σ:G2),Since w X→(∀ p F,(p,F)∈Fs→pre k p=true→F (X,σ))→(execOp a.eval o).run P X=.ok (.value v) X) (h:lG P ops ka kb w Q pre l Fs a') (hw:Region.wanted o (yielded ops a.tmps)=true:=by rfl)
  (hp:a.put o.dst v=a':=by simp only [pX,st,rt,rz];rfl):lG P ops ka kb w Q pre ((k,o,none) :: l) Fs a:=by
 refine ⟨?_⟩
 unfold CertG
 rw [if_pos hw];refine ⟨v,fun X hX hF=>?_,hp ▸ h.out⟩
 unfold cJ
 rw [hq X.1 X.2 hX.below hF];exact ⟨rfl,rfl⟩
theorem c0 (e:TypeId) (sz:Nat) (hr:∀ X:World,(execOp a.eval o).run P X=.ok (.value (.slice (some ⟨X.heap.size,0,none⟩) 0 0)) (X.alloc (.cells #[] e))) {b:Value→Act} (h:∀ v,lG P ops ka kb w Q pre l ((k,Sc0 w.heap.size e sz v) :: Fs) (b v)) (hw:Region.wanted o (yielded ops a.tmps)=true:=by rfl)
  (hp:∀ v,a.put o.dst v=b v:=by intro _;simp only [pX,st,rt,rz];rfl):lG P ops ka kb w Q pre ((k,o,some (Sc0 w.heap.size e sz)) :: l) Fs a:=by
 refine ⟨?_⟩
 unfold CertG
 rw [if_pos hw];refine ⟨fun X hX hN hF=>?_,fun v=>hp v ▸ (h v).out⟩
 unfold dH
 rw [hr];exact ⟨X.2,.inr (World.ownsRow_made X.1 #[] 0 hX.below.size (by unfold maxLen;omega) (by simp)),Gc.since hX.i hX.below.size ((Below.refl X.1.heap.size X.1).alloc (Nat.le_refl _) _),fun _ _ h=>h⟩
theorem c1 (e:TypeId) (sz:Nat) (p:Nat) (u:Value) (hmem:(p,Sc0 w.heap.size e sz u)∈Fs) {t:TypeId} {z:Value} {bytes n:Nat} {xs:List Value} {vx:Value} (hkb:ka≠kb) (ht:P.underlying t=some (.slice e)) (hi:(P.info? e).map (fun i=>(i.zero,i.size,i.bytes))=some (some z,sz,bytes))
  (hz1:z.cells.size=sz) (hm:0<sz) (h1:∀ u∈xs,u.oneCell'=true) (hrd:Rd w sz vx n xs) (h63:n≤maxLen) (hbytes:n * bytes≤140737488355328) {b:Value→Act} (h:∀ v,lG P ops ka kb w Q pre l ((ka,Sc1 w.heap.size e sz n xs v) :: Fs) (b v)) (hpre:pre ka p=true:=by rfl) (hw:Region.wanted o (yielded ops a.tmps)=true:=by rfl)
  {s x:Operand} (ho:o.op=.call { callee:=.builtin .append,args:=#[s,x],argTypes:=#[t,t] }:=by rfl) (hs:a.eval s=u:=by rfl) (hx:a.eval x=vx:=by rfl) (hp:∀ v,a.put o.dst v=b v:=by intro _;simp only [pX,st,rt,rz];rfl):lG P ops ka kb w Q pre ((ka,o,some (Sc1 w.heap.size e sz n xs)) :: l) Fs a:=by
 refine ⟨?_⟩
 unfold CertG
 rw [if_pos hw];refine ⟨fun X hX hN hF=>?_,fun v=>hp v ▸ (h v).out⟩;have h0:X.2.1=false:=hN.1 rfl
 have hown:X.1.ownsRow w.heap.size e sz u 0 []:=by
  rcases hF _ _ hmem hpre with h9|h9
  ·rw [h0] at h9
   cases h9
  ·exact h9
 have h22:X.2.2=false:=by
  cases h9:X.2.2 with
  | false=>rfl
  | true=>rw [hX.i h9] at h0;cases h0
 obtain ⟨v',w',hr,h2,h3⟩:=pL (P:=P) t o.type w.heap.size e z sz bytes ht hi hz1 hm u 0 [] hown vx n xs (hrd.below hX.below) h1 (by rw [Nat.zero_add];exact hbytes) (by rw [Nat.zero_add];exact h63) hX.below.size;rw [Nat.zero_add,List.nil_append] at h2
 have hrun:(execOp a.eval o).run P X.1=.ok (.value v') w':=by
  unfold execOp
  simp only [ho,resolve,invoke,builtin,Sem.run_bind,Sem.run_pure,Result.andThen_ok,List.map_toArray,List.map_cons,List.map_nil,hs,hx,hr]
 unfold dH
 rw [hrun];refine ⟨(true,X.2.2),⟨rfl,.inr h2⟩,⟨(Below.refl w.heap.size X.1).grown h3 hX.below.size (fun g hg=>(cM hown g hg).1),fun _=>rfl,id,fun _=>rfl,(fun h9=>by cases h9),(fun h9=>by rw [h0] at h9;cases h9),(fun h9=>by rw [h22] at h9;cases h9)⟩,fun m hm h9=>⟨fun h8=>absurd h8 hm,h9.2⟩⟩
theorem c2 (e:TypeId) (sz:Nat) (p:Nat) (u:Value) {n:Nat} {xs:List Value} (hmem:(p,Sc1 w.heap.size e sz n xs u)∈Fs) {t:TypeId} {z:Value} {bytes n2:Nat} {ys:List Value} {vx:Value} (ht:P.underlying t=some (.slice e)) (hi:(P.info? e).map (fun i=>(i.zero,i.size,i.bytes))=some (some z,sz,bytes))
  (hz1:z.cells.size=sz) (hm:0<sz) (h1:∀ u∈ys,u.oneCell'=true) (hrd:Rd w sz vx n2 ys) (h63:n+n2≤maxLen) (hbytes:(n+n2) * bytes≤140737488355328) {b:Value→Act} (h:∀ v,lG P ops ka kb w Q pre l ((kb,Sc2 w.heap.size e sz (n+n2) (xs++ys) v) :: Fs) (b v)) (hpre:pre kb p=true:=by rfl) (hw:Region.wanted o (yielded ops a.tmps)=true:=by rfl)
  {s x:Operand} (ho:o.op=.call { callee:=.builtin .append,args:=#[s,x],argTypes:=#[t,t] }:=by rfl) (hs:a.eval s=u:=by rfl) (hx:a.eval x=vx:=by rfl) (hp:∀ v,a.put o.dst v=b v:=by intro _;simp only [pX,st,rt,rz];rfl):lG P ops ka kb w Q pre ((kb,o,some (Sc2 w.heap.size e sz (n+n2) (xs++ys))) :: l) Fs a:=by
 refine ⟨?_⟩
 unfold CertG
 rw [if_pos hw];refine ⟨fun X hX hN hF=>?_,fun v=>hp v ▸ (h v).out⟩;have h22:X.2.2=false:=hN.2 rfl;obtain ⟨h0,hor⟩:=hF _ _ hmem hpre
 have hown:X.1.ownsRow w.heap.size e sz u n xs:=by
  rcases hor with h9|h9
  ·rw [h22] at h9
   cases h9
  ·exact h9
 obtain ⟨v',w',hr,h2,h3⟩:=pL (P:=P) t o.type w.heap.size e z sz bytes ht hi hz1 hm u n xs hown vx n2 ys (hrd.below hX.below) h1 hbytes h63 hX.below.size
 have hrun:(execOp a.eval o).run P X.1=.ok (.value v') w':=by
  unfold execOp
  simp only [ho,resolve,invoke,builtin,Sem.run_bind,Sem.run_pure,Result.andThen_ok,List.map_toArray,List.map_cons,List.map_nil,hs,hx,hr]
 unfold dH
 rw [hrun];refine ⟨(X.2.1,true),⟨rfl,h2⟩,⟨(Below.refl w.heap.size X.1).grown h3 hX.below.size (fun g hg=>(cM hown g hg).1),id,fun _=>rfl,fun _=>h0,(fun h9=>by rw [h0] at h9;cases h9),(fun _ h9=>by cases h9),(fun h9=>by rw [h22] at h9;cases h9)⟩,fun m hm h9=>⟨h9.1,fun h8=>absurd h8 hm⟩⟩
theorem cz (h:∀ (X:World) (σ:G2),Since w X→(∀ p F,(p,F)∈Fs→F (X,σ))→Q a X):lG P ops ka kb w Q pre [] Fs a:=⟨fun X hX hF=>h X.1 X.2 hX.below hF⟩
end
def rdv (v:Value):Option (DataW Value×List MemPlace):=some (.held v,[])
structure Kx (P:Program) (K:TypeId) (α:Type) where
 kv:α→Value
 ok:α→Prop
 kd:Go.Maps.Keyed P K
 key:∀ a,ok a→∃ l,keyOf P K (kv a)=some l
 inv:∀ v l,keyOf P K v=some l→∃ a,ok a∧v=kv a
 inj:∀ a b,kv a=kv b→a=b
def atV (u:Option Value) (z:DataW Value):DataW Value:=match u with
 | some v=>.held v
 | none=>z
section
variable {P:Program} {K:TypeId} {α:Type} (κ:Kx P K α)
def Vw (D:DataW Value) (F:α→Option Value):Prop:=∀ a l,keyOf P K (κ.kv a)=some l→∀ z,D.atKey l z=atV (F a) z
def Mv (n:Nat) (F:α→Option Value) (v:Value) (X:World):Prop:=∃ b,v=.map (some b)∧∃ D,X.ownsMap P K rdv b n D∧Vw κ D F
variable {κ}
theorem Mv.grown {X Y:World} {n:Nat} {F:α→Option Value} {b:Nat} {row:Option Nat} (h:Mv κ n F (.map (some b)) X) (hG:X.grownBy Y row) (hne:row≠some b):Mv κ n F (.map (some b)) Y:=by
 obtain ⟨b',hv,D,h1,h2⟩:=h
 injection hv with hv
 injection hv with hv
 subst hv;exact ⟨b,rfl,D,h1.kept hG (fun h9=>hne h9.symm),h2⟩
theorem dJ {X Y:World} (hS:Since X Y):X.grownBy Y none:=⟨hS.os,hS.tape,hS.output,hS.size,fun k hk _=>hS.block k hk⟩
theorem Mv.lasts (n:Nat) (F:α→Option Value):dM (Mv κ n F):=by
 rintro v X Y ⟨b,hv,D,h1,h2⟩ hS
 exact ⟨b,hv,D,h1.kept (dJ hS) (by simp),h2⟩
theorem Mv.lt {X:World} {n:Nat} {F:α→Option Value} {b:Nat} (h:Mv κ n F (.map (some b)) X):b<X.heap.size:=by
 obtain ⟨b',hv,D,h1,_⟩:=h
 injection hv with hv
 injection hv with hv
 subst hv;exact h1.lt
theorem Mv.mono {X:World} {n m:Nat} {F:α→Option Value} {v:Value} (h:Mv κ n F v X) (hm:n≤m):Mv κ m F v X:=by
 obtain ⟨b,hv,D,h1,h2⟩:=h;exact ⟨b,hv,D,h1.mono hm,h2⟩
theorem Mv.congr {X:World} {n:Nat} {F G:α→Option Value} {v:Value} (h:Mv κ n F v X) (hG:∀ a,κ.ok a→G a=F a):Mv κ n G v X:=by
 obtain ⟨b,hv,D,h1,h2⟩:=h;refine ⟨b,hv,D,h1,fun a l hl=>?_⟩;obtain ⟨a',h3,h4⟩:=κ.inv _ _ hl;rw [κ.inj _ _ h4,hG a' h3];exact h2 a' l (by rw [← κ.inj _ _ h4];exact hl)
theorem Mv.made (X:World):Mv κ 0 (fun _=>none) (.map (some X.heap.size)) (X.alloc (.map #[] 0)) :=
 ⟨_,rfl,.map [],World.ownsMap_made X _ _ _,fun a l hl z=>rfl⟩
theorem Mv.look {X:World} {n:Nat} {F:α→Option Value} {m:Value} (h:Mv κ n F m X) {t E:TypeId} (ht:P.underlying t=some (.map K E)) {z:Value} (hz:(zeroValue E).run P X=.ok z X) {a:α} (ha:κ.ok a):(Instr.lookup t m (κ.kv a) false).run P X=.ok ((F a).getD z) X:=by
 obtain ⟨b,rfl,D,h1,h2⟩:=h;obtain ⟨l,hl⟩:=κ.key a ha;obtain ⟨v,ps,hrun,hR⟩:=h1.lookup (z:=z) (zd:=.held z) (zp:=[]) κ.kd ht hz rfl hl;rw [h2 a l hl] at hR
 unfold rdv at hR
 simp only [Option.some.injEq,Prod.mk.injEq] at hR
 have h9:v=(F a).getD z:=by
  have h8:=hR.1
  unfold atV at h8
  cases hF:F a with
  | none =>
   rw [hF] at h8
   injection h8
  | some u =>
   rw [hF] at h8
   injection h8
 rw [← h9];exact hrun
theorem gR {f:Operand→Value} {o:Oper} {t E:TypeId} (x y:Operand) (ho:o.op=.lookup t x y false) (ht:P.underlying t=some (.map K E)) {z:Value} (hz:∀ X:World,(zeroValue E).run P X=.ok z X) {m:Value} {a:α} (hx:f x=m) (hy:f y=κ.kv a) (ha:κ.ok a) {n:Nat} {F:α→Option Value} (X:World) (h:Mv κ n F m X) :
  (execOp f o).run P X=.ok (.value ((F a).getD z)) X:=by
 have hrun:=h.look ht (hz X) ha
 unfold execOp
 simp [ho,hx,hy,hrun]
theorem Vw.put {D:DataW Value} {F:α→Option Value} (h:Vw κ D F) (hD:Go.Maps.IsMap D) [DecidableEq α] {k:α} {l:Lit} (hl:keyOf P K (κ.kv k)=some l) (u:Value):Vw κ (D.put l (.held u)) (fun j=>if j=k then some u else F j):=by
 intro a l' hl' z
 show (D.put l (.held u)).atKey l' z=atV (if a=k then some u else F a) z
 by_cases h9:a=k
 ·subst h9
  rw [if_pos rfl];rw [hl] at hl'
  injection hl' with hl'
  subst hl';exact Go.Maps.atKey_put_same hD (κ.kd.key hl) _ _
 ·rw [if_neg h9,Go.Maps.atKey_put_other (fun h8=>h9 (by subst h8;exact κ.inj _ _ (κ.kd.inj hl' hl)))]
  exact h a l' hl' z
theorem pU [DecidableEq α] {w:World} {ops:Array Oper} {rest:List Oper} {o:Oper} {a:Act} {Q:Exit→Act→World→Prop} (hgd:o.guard=none) {t E:TypeId} (m x v:Operand) (ho:o.op=.mapUpdate t m x v) (ht:P.underlying t=some (.map K E)) {b:Nat} (k:α) {y:Value}
  (hm:a.eval m=.map (some b)) (hx:a.eval x=κ.kv k) (hv:a.eval v=y) (hk:κ.ok k) {n:Nat} {F:α→Option Value} (h:Mv κ n F (.map (some b)) w) (hn:n<maxLen)
  (hK:∀ w',Mv κ (n+1) (fun j=>if j=k then some y else F j) (.map (some b)) w'→w.grownBy w' (some b)→wpList P ops Q rest (a.put o.dst undef) w'):wpList P ops Q (o :: rest) a w:=by
 obtain ⟨b',hb,D,h1,h2⟩:=h
 injection hb with hb
 injection hb with hb
 subst hb;obtain ⟨l,hl⟩:=κ.key k hk
 refine wpList_mapUpdate_own w hgd m x v t ho K E κ.kd ht _ b n D hm h1 hn _ _ _ hx hv hl (.held y) [] rfl fun w' r1 r2=>hK w' ⟨b,rfl,_,r1,h2.put ?_ hl y⟩ r2
 obtain ⟨_,_,_,_,_,hD⟩:=h1;exact ⟨_,hD⟩
def Mr (κ:Kx P K α) (b r n:Nat) (F:α→Option Value) (L:α→Bool) (cnt:Nat) (X:World):Prop:=∃ D left,X.ranges P K rdv b r n D left cnt∧Vw κ D F∧∀ a l,keyOf P K (κ.kv a)=some l→left l=L a
theorem Mr.grown {b r n:Nat} {F:α→Option Value} {L:α→Bool} {cnt:Nat} {X Y:World} {row:Option Nat} (h:Mr κ b r n F L cnt X) (hG:X.grownBy Y row) (h1:row≠some b) (h2:row≠some r):Mr κ b r n F L cnt Y:=by
 obtain ⟨D,left,a1,a2,a3⟩:=h;exact ⟨D,left,a1.kept hG (fun h9=>h1 h9.symm) (fun h9=>h2 h9.symm),a2,a3⟩
theorem Mr.bel {b r n:Nat} {F:α→Option Value} {L:α→Bool} {cnt:Nat} {X Y:World} (h:Mr κ b r n F L cnt X) (hS:Since X Y):Mr κ b r n F L cnt Y:=h.grown (dJ hS) (by simp) (by simp)
theorem Mr.left {b r n:Nat} {F:α→Option Value} {L:α→Bool} {cnt:Nat} {X:World} (h:Mr κ b r n F L cnt X):X.rangeLeft b r=cnt:=by
 obtain ⟨D,left,a1,_⟩:=h;exact a1.left_eq
theorem Mr.lt {b r n:Nat} {F:α→Option Value} {L:α→Bool} {cnt:Nat} {X:World} (h:Mr κ b r n F L cnt X):r<X.heap.size:=by
 obtain ⟨D,left,a1,_⟩:=h;exact a1.lt
theorem Mr.congr {b r n:Nat} {F:α→Option Value} {L L':α→Bool} {cnt:Nat} {X:World} (h:Mr κ b r n F L cnt X) (hL:∀ a,κ.ok a→L' a=L a):Mr κ b r n F L' cnt X:=by
 obtain ⟨D,left,a1,a2,a3⟩:=h;refine ⟨D,left,a1,a2,fun a l hl=>?_⟩;obtain ⟨a',h3,h4⟩:=κ.inv _ _ hl;rw [κ.inj _ _ h4,hL a' h3];exact a3 a' l (by rw [← κ.inj _ _ h4];exact hl)
theorem Vw.has {D:DataW Value} {F:α→Option Value} (h:Vw κ D F) {a:α} {l:Lit} (hl:keyOf P K (κ.kv a)=some l):Go.Maps.has D l=(F a).isSome:=by
 cases hF:F a with
 | none=>exact Go.Maps.has_false_of_atKey fun z=>by rw [h a l hl z,hF];rfl
 | some u=>exact Go.Maps.has_true_of_atKey (y:=.held u) fun z=>by rw [h a l hl z,hF];rfl
theorem kT {w:World} {ops:Array Oper} {rest:List Oper} {o:Oper} {a:Act} {Q:Exit→Act→World→Prop} (hgd:o.guard=none) {t E:TypeId} (m:Operand) (ho:o.op=.range t m) (ht:P.underlying t=some (.map K E)) {b:Nat} (hm:a.eval m=.map (some b)) {n:Nat} {F:α→Option Value} (h:Mv κ n F (.map (some b)) w)
  (hK:∀ w' cnt,Mr κ b w.heap.size n F (fun j=>(F j).isSome) cnt w'→w.grownBy w' none→wpList P ops Q rest (a.put o.dst (vP w.heap.size 0)) w'):wpList P ops Q (o :: rest) a w:=by
 obtain ⟨b',hb,D,h1,h2⟩:=h
 injection hb with hb
 injection hb with hb
 subst hb
 exact wpList_range_own w hgd m t ho K E κ.kd ht rdv b n D hm h1 fun w' r1 r2 _=>hK w' _ ⟨D,_,r1,h2,fun a l hl=>h2.has hl⟩ r2
theorem mC [DecidableEq α] {w:World} {ops:Array Oper} {rest:List Oper} {o:Oper} {a:Act} {Q:Exit→Act→World→Prop} (hgd:o.guard=none) (it:Operand) (ho:o.op=.next it false) {b r n:Nat} {F:α→Option Value} {L:α→Bool} {cnt:Nat} (hit:a.eval it=vP r 0) (h:Mr κ b r n F L cnt w)
  (hDone:(∀ j,κ.ok j→L j=false)→wpList P ops Q rest (a.put o.dst (.tuple #[.bool false])) w)
  (hMore:∀ (k:α) (u:Value) (w':World) (cnt':Nat),κ.ok k→L k=true→F k=some u→Mr κ b r n F (fun j=>L j && !decide (j=k)) cnt' w'→cnt'<cnt→w.grownBy w' (some r)→w'.heap.size=w.heap.size→(Instr.entry (vP r 0)).run P w'=.ok (.tuple #[κ.kv k,u]) w'→wpList P ops Q rest (a.put o.dst (.tuple #[.bool true,κ.kv k,u])) w'):wpList P ops Q (o :: rest) a w:=by
 obtain ⟨D,left,h1,h2,h3⟩:=h;refine wpList_plain hgd fun K' hK'=>?_
 unfold Oper.wp
 rcases h1.next κ.kd o.type with ⟨h0,hl,hrun⟩|⟨key,v,kl,y,w',cnt',hkey,hlk,hv,hat,hrun,hrg,hlt,hgr,hsz,hen⟩
 ·simp [execOp,ho,hit,hrun,Result.andThen]
  exact hK' _ _ (hDone fun j hj=>by
   obtain ⟨l,hl2⟩:=κ.key j hj;rw [← h3 j l hl2]
   exact hl l)
 ·obtain ⟨k,hok,rfl⟩:=κ.inv key kl hkey
  unfold rdv at hv
  injection hv with hv
  subst hv
  have hF:F k=some v:=by
   have h9:=(h2 k kl hkey .nil).symm.trans (hat .nil)
   unfold atV at h9
   cases hFk:F k with
   | none =>
    rw [hFk] at h9
    cases h9
   | some u =>
    rw [hFk] at h9
    injection h9 with h9
    rw [h9]
  simp [execOp,ho,hit,hrun,Result.andThen]
  refine hK' _ _ (hMore k v w' cnt' hok (by rw [← h3 k kl hkey];exact hlk) hF ⟨D,_,hrg,h2,fun a l hl=>?_⟩ hlt hgr hsz hen)
  show (left l && !l.sameKey kl)=_
  rw [h3 a l hl]
  congr 2
  by_cases h9:a=k
  ·subst h9
   rw [hl] at hkey
   injection hkey with hkey
   subst hkey;rw [decide_eq_true rfl];exact WideAt.sameKey_self (κ.kd.key hl)
  ·rw [decide_eq_false h9]
   exact Go.Maps.sameKey_ne fun h8=>h9 (by subst h8;exact κ.inj _ _ (κ.kd.inj hl hkey))
end
def bX:Kx Tryd.prog 3 Int where
 kv:=fun a=>vI a
 ok:=fun a=>(Lit.int .i64 a).wf=true
 kd:=Go.Maps.int_keyed Tryd.underlying3
 key:=fun a ha=>⟨_,Go.Maps.keyOf_int_mk Tryd.underlying3 ha⟩
 inv:=fun v l h=>by
  obtain ⟨x,h1,_,h3⟩:=Go.Maps.keyOf_int_inv Tryd.underlying3 h;exact ⟨x,h3,h1⟩
 inj:=fun a b h=>by injection h
theorem xQa:laidOutB Tryd.prog=true:=by kernel_rfl
theorem xZ (d:Nat) (cs:List Value):Tryd.prog.keyLits (d+2) 52 cs=if cs.length=2 then (match Tryd.prog.keyLits (d+1) 3 ((cs.drop 0).take 1),Tryd.prog.keyLits (d+1) 3 ((cs.drop 1).take 1) with|some x,some y=>some (x++y)|_,_=>none) else none:=by
 conv=>lhs;unfold Program.keyLits
 rw [Tryd.underlying52]
 have h1:Tryd.prog.cellsOf 52=2:=by kernel_rfl
 have h2:Tryd.prog.cellsOf 3=1:=by kernel_rfl
 by_cases h:cs.length=2
 ·simp [h,h1,h2]
  cases Tryd.prog.keyLits (d+1) 3 (cs.take 1) <;> cases Tryd.prog.keyLits (d+1) 3 (cs.tail.take 1) <;> simp
 ·simp [h,h1]
theorem oV (d:Nat) (v:Value):Tryd.prog.keyLits (d+1) 3 [v]=(match v with|.int .i64 n=>if (Lit.int .i64 n).wf=true then some [.int .i64 n] else none|_=>none):=by
 unfold Program.keyLits
 rw [Tryd.underlying3]
 cases v <;> simp
 rename_i k n
 cases k <;> simp
def aQ:Kx Tryd.prog 52 (Int×Int) where
 kv:=fun a=>.agg #[vI a.1,vI a.2]
 ok:=fun a=>(Lit.int .i64 a.1).wf=true∧(Lit.int .i64 a.2).wf=true
 kd:=Go.Maps.Keyed.of_law (deep_law_laid xQa (m:=3) (by decide) (of_decide_eq_true (by kernel_rfl)) (by kernel_rfl) (by kernel_rfl))
 key:=fun a ha=>by
  have e:keyOf Tryd.prog 52 (.agg #[vI a.1,vI a.2])=(Tryd.prog.keyLits (Tryd.prog.types.size-1+2) 52 [vI a.1,vI a.2]).map fun ls=>.string (keyBytes ls):=by kernel_rfl
  rw [e,xZ];simp only [List.length_cons,List.length_nil,if_true,List.drop_zero,List.take_succ_cons,List.take_zero,List.drop_succ_cons];rw [oV,oV];simp only [ha.1,ha.2,if_true];exact ⟨_,rfl⟩
 inv:=fun v l h=>by
  have e:keyOf Tryd.prog 52 v=if (true && v.formed Tryd.prog 52)=true then (Tryd.prog.keyLits (Tryd.prog.types.size-1+2) 52 v.cells.toList).map fun ls=>.string (keyBytes ls) else none:=by
   unfold keyOf
   rw [Tryd.underlying52,show Tryd.prog.keyType 52=true by kernel_rfl,show Tryd.prog.types.size+1=Tryd.prog.types.size-1+2 by kernel_rfl]
  rw [e] at h
  split at h
  ·rename_i hf
   rw [Bool.true_and] at hf
   cases v with
   | agg cs =>
    have h2:cs.size=2:=by
     unfold Value.formed at hf
     rw [Tryd.underlying52] at hf
     have h1:Tryd.prog.cellsOf 52=2:=by kernel_rfl
     simpa [h1] using hf
    obtain ⟨xs⟩:=cs
    obtain ⟨x,y,rfl⟩:∃ x y,xs=[x,y]:=by
     match xs,h2 with
     | [x,y],_=>exact ⟨x,y,rfl⟩
    rw [show (Value.agg #[x,y]).cells.toList=[x,y] from rfl,xZ] at h;simp only [List.length_cons,List.length_nil,if_true,List.drop_zero,List.take_succ_cons,List.take_zero,List.drop_succ_cons] at h;rw [oV,oV] at h
    cases x with
    | int k n =>
     cases y with
     | int k' n' =>
      cases k <;> (try (simp at h;done))
      cases k' <;> (try (simp at h;done))
      by_cases h1:(Lit.int .i64 n).wf=true
      ·by_cases h3:(Lit.int .i64 n').wf=true
       ·exact ⟨(n,n'),⟨h1,h3⟩,rfl⟩
       ·simp [h1,h3] at h
      ·simp [h1] at h
     | _=>cases k <;> simp at h
    | _=>simp at h
   | _=>unfold Value.formed at hf;rw [Tryd.underlying52] at hf;cases hf
  ·cases h
 inj:=fun a b h=>by
  injection h with h
  injection h with h
  injection h with h1 h
  injection h with h2 _
  injection h1 with _ h1
  injection h2 with _ h2
  exact Prod.ext h1 h2
theorem dW:(Tryd.prog.info? 52).map (·.size)=some 2:=by kernel_rfl
theorem mM:(Tryd.prog.info? 45).map (fun i=>(i.zero,i.size,i.bytes))=some (some (.agg #[vI 0,vI 0,vI 0,.bool false,.string ⟨#[]⟩,.string ⟨#[]⟩,vI 0,vI 0,vI 0,vI 0,.bool false]),11,104):=by kernel_rfl
theorem eF (b k:Nat) (X:World) (v:Value) (h:X.cell? ⟨b,k,none⟩=some v):(loadVar 22 ⟨b,k,none⟩).run Tryd.prog X=.ok v X:=by
 go_simp
def Ows (B:Nat) (l:List Stp) (v:Value) (X:World):Prop:=X.ownsRow B 45 11 v l.length (fl spc l)
theorem Ows.lasts (B:Nat) (l:List Stp):dM (Ows B l):=fun v X Y h hS=>World.ownsRow.kept h (dJ hS) (by cases v.ownBlock <;> simp)
theorem Ows.rd {B:Nat} {l:List Stp} {v:Value} {X:World} (h:Ows B l v X):Sts l v X:=Rd.of_own h
theorem oM (l:List Stp):∀ u∈fl spc l,u.oneCell'=true:=by
 intro u hu
 unfold fl at hu
 obtain ⟨y,hy,hs⟩:=List.mem_flatten.1 hu;obtain ⟨s,_,rfl⟩:=List.mem_map.1 hy
 unfold spc at hs
 simp only [List.mem_cons,List.not_mem_nil,or_false] at hs
 rcases hs with rfl|rfl|rfl|rfl|rfl|rfl|rfl|rfl|rfl|rfl|rfl <;> rfl
theorem tB (l m:List Stp):fl spc (l++m)=fl spc l++fl spc m:=by
 unfold fl
 simp
theorem Sts.one {f:Operand→Value} {o:Oper} (s:Stp) {X:World} (hr:(execOp f o).run Tryd.prog X=.ok (.value (.slice (some ⟨X.heap.size,0,none⟩) 1 1)) (X.alloc (.cells (spc s).toArray 45))):∃ v X',(execOp f o).run Tryd.prog X=.ok (.value v) X'∧Sts [s] v X'∧Since X X':=by
 refine ⟨_,_,hr,?_,bE X _⟩;have hB:Blk (X.alloc (.cells (spc s).toArray 45)) X.heap.size 45 (spc s):=Blk.new rfl;refine ⟨by simp [fl];rfl,some ⟨X.heap.size,0,none⟩,1,rfl,Nat.le_refl _,by unfold maxLen;omega,(fun h9=>by cases h9),fun _=>⟨X.heap.size,0,rfl,hB.lt,fun j u hj=>?_⟩⟩
 have hj2:(spc s)[j]?=some u:=by simpa [fl] using hj
 have:=hB.cell (j:=j) hj2
 rwa [Nat.zero_add]
theorem Ows.new (B:Nat) {f:Operand→Value} {o:Oper} {X:World} (hB:B≤X.heap.size) (hr:(execOp f o).run Tryd.prog X=.ok (.value (.slice (some ⟨X.heap.size,0,none⟩) 0 0)) (X.alloc (.cells #[] 45))):∃ v X',(execOp f o).run Tryd.prog X=.ok (.value v) X'∧Ows B [] v X'∧Since X X' :=
 ⟨_,_,hr,World.ownsRow_made X #[] 0 hB (by unfold maxLen;omega) rfl,bE X _⟩
def Mvn {P:Program} {K:TypeId} {α:Type} (κ:Kx P K α) (B:Nat) (v:Value) (X:World):Prop:=∃ m,v=.map (some m)∧B≤m∧Mv κ 0 (fun _=>none) (.map (some m)) X
theorem Mvn.lasts {P:Program} {K:TypeId} {α:Type} (κ:Kx P K α) (B:Nat):dM (Mvn κ B):=by
 rintro v X Y ⟨m,h1,h2,h3⟩ hS
 exact ⟨m,h1,h2,Mv.lasts _ _ _ _ _ h3 hS⟩
theorem mV {K:TypeId} {α:Type} (κ:Kx Tryd.prog K α) {f:Operand→Value} {o:Oper} (t:TypeId) (ho:o.op=.makeMap t none) (hm:∀ X:World,(Instr.makeMap t none).run Tryd.prog X=.ok (.map (some X.heap.size)) (X.alloc (.map #[] 0)):=by intro X;rfl) {X:World} {B:Nat} (hB:B≤X.heap.size):∃ v X',(execOp f o).run Tryd.prog X=.ok (.value v) X'∧Mvn κ B v X'∧Since X X':=by
 refine ⟨.map (some X.heap.size),X.alloc (.map #[] 0),?_,⟨X.heap.size,rfl,hB,Mv.made X⟩,(Below.refl X.heap.size X).alloc (Nat.le_refl _) _⟩;have hm:=hm X
 unfold execOp
 simp only [ho,Option.map,Sem.run_bind,Sem.run_pure,Result.andThen_ok,hm]
def FK9 (l:List Stp) (d:Int) (k:Nat):Int×Int→Option Value:=(fun j:Int×Int=>if kin (onc l d k) j.1 j.2=true then some (.bool true) else none)
theorem zB (l:List Stp) (d:Int) (k:Nat) (a:Int×Int):(FK9 l d k a).getD (.bool false)=.bool (kin (onc l d k) a.1 a.2):=by
 unfold FK9
 cases kin (onc l d k) a.1 a.2 <;> rfl
theorem vVw {l:List Stp} {d:Int} {k:Nat} (h:onc l d (k+1)=onc l d k++[atD (sp l k) d]) (j:Int×Int):FK9 l d (k+1) j=if j=((sp l k).q.pd,(sp l k).q.ac) then some (.bool true) else FK9 l d k j:=by
 unfold FK9
 rw [h,qXr]
 by_cases hj:j=((sp l k).q.pd,(sp l k).q.ac)
 ·subst hj
  rw [if_pos rfl]
  simp [atD]
 ·rw [if_neg hj]
  have h9:(decide ((atD (sp l k) d).q.pd=j.1) && decide ((atD (sp l k) d).q.ac=j.2))=false:=by
   rw [Bool.and_eq_false_iff,decide_eq_false_iff_not,decide_eq_false_iff_not]
   by_cases h1:(sp l k).q.pd=j.1
   ·exact .inr fun h2=>hj (Prod.ext h1.symm h2.symm)
   ·exact .inl h1
  rw [h9,Bool.or_false]
theorem uJ {l:List Stp} {d:Int} {k:Nat} (h:(sp l k).cl=true∨kin (onc l d k) (sp l k).q.pd (sp l k).q.ac=true):onc l d (k+1)=onc l d k:=by
 rw [mD,if_pos h]
theorem vQl {l:List Stp} {d:Int} {k:Nat} (h1:(sp l k).cl=false) (h2:kin (onc l d k) (sp l k).q.pd (sp l k).q.ac=false):onc l d (k+1)=onc l d k++[atD (sp l k) d]:=by
 rw [mD,if_neg]
 rintro (h|h)
 ·rw [h1] at h;cases h
 ·rw [h2] at h;cases h
theorem vL {l:List Stp} {d:Int} {k:Nat} (h:onc l d (k+1)=onc l d k):FK9 l d (k+1)=FK9 l d k:=by
 unfold FK9
 rw [h]
theorem qVs {l:List Stp} {k:Nat} (h:k<l.length):l.reverse.take (k+1)=l.reverse.take k++[sp l (l.length-1-k)]:=by
 rw [List.take_succ_eq_append_getElem (by rw [List.length_reverse];exact h),List.getElem_reverse,iL (by omega)]
theorem vXp (B:Nat) (c:Int) (l:List En) (cs:List Cg) (p a d:Int) (r:Value) (w:World) (hp:Prs B c l cs r w) (hs1:Hid (∀ k,tz (en l k).am.2.1 (en l k).am.2.2 100)) {E:Int} (hE:fA c l cs p a d=E) {K:Rat} (hK:dY c l cs p a d=K) {F:Rat} (hF:dR c l cs p a d=F) {C:Bool} (hC:eN c l cs p a d=C):Calls Tryd.prog 10 #[r,vI p,vI a,vI d] w fun e w'=>e=.returned (.tuple #[.agg #[.bool (rN K),vS (rP K),vS (rD K),.bool (rN F),vS (rP F),vS (rD F),.bool C],vI E])∧Since w w':=by
 obtain ⟨u,z,rfl,hu,hz⟩:=hp;exact mQ B c u z l cs p a d w hu hz hs1 hE hK hF hC
theorem uB (B:Nat) (c:Int) (v z:Value) (l:List En) (cs:List Cg) (ss:List Stp) (m9:Nat) (u:Value) (w:World) (hv:Es l v w) (hz:Cs B cs z w) (hu:Sts ss u w) (hBw:B≤w.heap.size) (hI:In45 c (l,cs) m9) (hm9:m9+ss.length≤4000) (hss:∀ s∈ss,tz s.q.am.2.1 s.q.am.2.2 12) {L:List En} {D:List Cg} (hS:rn c (l,cs) ss=(L,D)):Calls Tryd.prog 9 #[.agg #[vI c,v,z],u] w fun e w'=>∃ r,e=.returned r∧Prs B c L D r w'∧Since w w':=by
 have h9:=runC B c v z l cs ss m9 u w hv hz hu hBw hI hm9 hss;rw [hS] at h9;exact h9
theorem xQg {c:Int} (hI:In45 c ([],[]) 0) {l:List Stp} (h:eB l=true) {L:List En} {D:List Cg} (hS:rn c ([],[]) l=(L,D)):In45 c (L,D) 24:=by
 have h1:=(dO h).1;have h9:=hI.rn (ss:=l) (by omega) (dO h).2;rw [hS] at h9;exact h9.mono (by omega)
theorem fn_b {c:Int} {L:List En} {D:List Cg} (hI:In45 c (L,D) 24) {l:List Stp} (h:eB l=true) {L':List En} {D':List Cg} (hS:rn c (L,D) l=(L',D')):In45 c (L',D') 48:=by
 have h1:=(dO h).1;have h9:=hI.rn (ss:=l) (by omega) (dO h).2;rw [hS] at h9;exact h9.mono (by omega)
theorem fn_c {c:Int} {L:List En} {D:List Cg} (hI:In45 c (L,D) 24) {l:List Stp} (h:eB l=true) {L':List En} {D':List Cg} (hS:rn c (L,D) l=(L',D')) {p a d:Int} (hd:d<eZ l):dY c L' D' p a d=dY c L D p a d∧dR c L' D' p a d=dR c L D p a d∧eN c L' D' p a d=eN c L D p a d:=by
 have h1:=(dO h).1;have h9:=qYe hI (ss:=l) (by omega) (dO h).2 (p:=p) (a:=a) hd;rw [hS] at h9;exact h9
theorem fn_o {l0 l1:List Stp} (h1:eB l1=true) {d:Int} {o:List Stp} (ho:onc l1 d l1.length=o):o.length≤24∧∀ s∈o,tz s.q.am.2.1 s.q.am.2.2 12:=by
 have h2:=(dO h1).1;have h3:=oR l1 d l1.length;rw [ho] at h3;refine ⟨by omega,fun s hs=>?_⟩;have h4:=(sO l1 d l1.length).1 s (by rw [ho];exact hs);obtain ⟨_,k,hk⟩:=h4;rw [hk];exact qVf (dO h1).2 k
theorem fn_r {c:Int} {l0 l1:List Stp} (hIz:In45 c ([],[]) 0) (h0:eB l0=true) (h1:eB l1=true) {L:List En} {D:List Cg} (hS:rn c ([],[]) l0=(L,D)) {d:Int} (hd:fZ (l0++l1)=d) {o:List Stp} (ho:onc l1 d l1.length=o) {L1:List En} {D1:List Cg} (hS1:rn c (L,D) o=(L1,D1)) {L2:List En} {D2:List Cg} (hS2:rn c (L,D) o.reverse=(L2,D2)) (p a:Int) :
  dY c L2 D2 p a 14609=dY c L1 D1 p a 14609∧dR c L2 D2 p a 14609=dR c L1 D1 p a 14609∧eN c L2 D2 p a 14609=eN c L1 D1 p a 14609:=by
 have hI:=xQg hIz h0 hS;have hl:=(dO h0).1
 have hD:Dy (L,D) d:=by
  have h9:=Dy.rn (c:=c) (d:=d) hIz (Dy.new d) (ss:=l0) (by omega) (dO h0).2 fun s hs h8=>by rw [← hd];exact vZq (List.mem_append_left _ hs) h8
  rw [hS] at h9;exact h9
 obtain ⟨h2,h3⟩:=fn_o (l0:=l0) h1 ho;obtain ⟨h4,h5⟩:=sO l1 d l1.length;rw [ho] at h4 h5;have h9:=vVb hI (by rw [← hd];exact lst_0 _) (by rw [← hd];exact lst_1 _) hD (ss:=o) (by omega) h3 (fun s hs=>(h4 s hs).1) h5 p a;rw [hS1,hS2] at h9;exact h9
end Go.Proofs.YtjkfchehkpmhkaaDoor

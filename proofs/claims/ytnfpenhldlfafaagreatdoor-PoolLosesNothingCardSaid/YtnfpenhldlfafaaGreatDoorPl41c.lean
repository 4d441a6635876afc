/- Layer 41: pools as they lie; what each function hands back. -/
import Derived.Test.YtnfpenhldlfafaaGreatDoorPl41b
import Derived.Test.YtnfpenhldlfafaaGreatDoorKe
set_option linter.unusedSimpArgs false
set_option linter.unusedVariables false
set_option maxRecDepth 100000
set_option maxHeartbeats 1600000
namespace Go.Proofs.YtnfpenhldlfafaaGreatDoor
open Go.RowKit
theorem kD (a b:Rat):bP a b=mn a b:=by
 unfold bP mn
 by_cases h:a≤b
 ·rw [if_pos (cmpR_le.2 h),if_pos h]
 ·rw [if_neg (fun h9=>h (cmpR_le.1 h9)),if_neg h]
theorem gN {x:Rat} (h:0≤x):rN x=false:=by
 unfold rN
 have h2:=Rat.num_nonneg.2 h;exact decide_eq_false (by omega)
theorem qQu {x:Rat} (h:rN x=false):0≤x:=by
 unfold rN at h
 have h2:=of_decide_eq_false h;exact Rat.num_nonneg.1 (by omega)
structure Ho where
 c:Tr
 m:Tr
 s:Tr
deriving DecidableEq
instance:Inhabited Ho:=⟨⟨(false,[],[]),(false,[],[]),(false,[],[])⟩⟩
def ho (l:List Ho) (k:Nat):Ho:=l.getD k default
theorem gS {l:List Ho} {k:Nat} (h:k<l.length):ho l k=l[k]:=by
 unfold ho
 rw [List.getD_eq_getElem?_getD,List.getElem?_eq_getElem h]
 rfl
theorem mZ {l:List Ho} {k:Nat} (h:l.length≤k):ho l k=default:=by
 unfold ho
 rw [List.getD_eq_getElem?_getD,List.getElem?_eq_none h]
 rfl
theorem sU {a b:List Ho} (hl:a.length=b.length) (h:∀ k,k<a.length→ho a k=ho b k):a=b:=by
 refine List.ext_getElem hl fun k h1 h2=>?_;have:=h k h1
 rwa [gS h1,gS h2] at this
def ct (l:List Ho) (k:Nat):Rat:=trq (ho l k).c
def mx (l:List Ho) (k:Nat):Rat:=trq (ho l k).m
def sr (l:List Ho) (k:Nat):Rat:=trq (ho l k).s
def rmh (l:List Ho) (k:Nat):Rat:=mx l k-ct l k
def thr (l:List Ho):Rat:=sm l.length (ct l)
def fnT (t:Tr):Bool:=!t.1 && vd t.1 t.2.1 t.2.2
def fnH (x:Ho):Bool:=fnT x.c && fnT x.m && fnT x.s
theorem fnT_t {t:Tr}:fnT t=true↔t.1=false∧vd t.1 t.2.1 t.2.2=true:=by
 unfold fnT
 rw [Bool.and_eq_true,Bool.not_eq_true']
theorem fT {t:Tr} (h:fnT t=true):0≤trq t:=by
 obtain ⟨h1,h2⟩:=fnT_t.1 h;refine qQu ?_;rw [show rN (trq t)=t.1 from (mC h2).1,h1]
theorem sV {x:Rat} (h:0≤x):fnT (tr x)=true:=fnT_t.2 ⟨gN h,qQp x⟩
theorem gW {t:Tr} (h:vd t.1 t.2.1 t.2.2=true):tr (trq t)=t:=by
 obtain ⟨h1,h2,h3,_⟩:=mC h;obtain ⟨a,b,c⟩:=t
 show (rN (rq a b c),rP (rq a b c),rD (rq a b c))=(a,b,c)
 rw [h1,h2,h3]
theorem fnH_t {x:Ho}:fnH x=true↔fnT x.c=true∧fnT x.m=true∧fnT x.s=true:=by
 unfold fnH
 rw [Bool.and_eq_true,Bool.and_eq_true,and_assoc]
def chE (p:Tr) (l:List Ho):Int :=
 if 20<l.length then 2
 else if fnT p=false∨¬ ∀ k,k<l.length→fnH (ho l k)=true then 1
 else if (¬ ∀ k,k<l.length→ct l k≤mx l k)∨trq p<thr l then 30 else 0
structure Okp (p:Tr) (l:List Ho):Prop where
 few:l.length≤20
 cap:fnT p=true
 hs:∀ k,k<l.length→fnH (ho l k)=true
 le:∀ k,k<l.length→ct l k≤mx l k
 sum:thr l≤trq p
theorem chE_ok {p:Tr} {l:List Ho}:chE p l=0↔Okp p l:=by
 unfold chE
 constructor
 ·intro h
  split at h
  ·cases h
  ·split at h
   ·cases h
   ·split at h
    ·cases h
    ·rename_i h1 h2 h3
     refine ⟨by omega,?_,?_,?_,?_⟩
     ·rcases hp:fnT p with _|_
      ·exact absurd (.inl hp) h2
      ·rfl
     ·exact Decidable.of_not_not fun h9=>h2 (.inr h9)
     ·exact Decidable.of_not_not fun h9=>h3 (.inl h9)
     ·exact Rat.not_lt.1 fun h9=>h3 (.inr h9)
 ·intro h
  rw [if_neg (by have:=h.few;omega),if_neg,if_neg]
  ·rintro (h9|h9)
   ·exact h9 h.le
   ·exact Rat.not_lt.2 h.sum h9
  ·rintro (h9|h9)
   ·rw [h.cap] at h9
    cases h9
   ·exact h9 h.hs
theorem qQj {p:Tr} {l:List Ho} (h:20<l.length):chE p l=2:=if_pos h
theorem qQk {p:Tr} {l:List Ho} (h:l.length≤20) (h1:fnT p=false∨¬ ∀ k,k<l.length→fnH (ho l k)=true):chE p l=1:=by
 unfold chE
 rw [if_neg (by omega),if_pos h1]
theorem uL {p:Tr} {l:List Ho} (h:l.length≤20) (h1:fnT p=true) (h2:∀ k,k<l.length→fnH (ho l k)=true) (h3:(¬ ∀ k,k<l.length→ct l k≤mx l k)∨trq p<thr l):chE p l=30:=by
 unfold chE
 rw [if_neg (by omega),if_neg,if_pos h3]
 rintro (h9|h9)
 ·rw [h1] at h9
  cases h9
 ·exact h9 h2
section
variable {p:Tr} {l:List Ho}
theorem Okp.c0 (h:Okp p l) {k:Nat} (hk:k<l.length):0≤ct l k:=fT (fnH_t.1 (h.hs k hk)).1
theorem Okp.s0 (h:Okp p l) {k:Nat} (hk:k<l.length):0≤sr l k:=fT (fnH_t.1 (h.hs k hk)).2.2
theorem Okp.holds (h:Okp p l):Hs l.length (rmh l) (sr l):=⟨fun k hk=>by
 have:=h.le k hk
 unfold rmh
 grind,fun k hk=>h.s0 hk⟩
theorem Okp.t0 (h:Okp p l):0≤thr l:=qM fun k hk=>h.c0 hk
theorem Okp.p0 (h:Okp p l):0≤trq p:=fT h.cap
end
def stc (l:List Ho) (f:Nat→Rat):List Ho:=(List.range l.length).map fun k=>{ ho l k with c:=tr (f k) }
theorem dP (l:List Ho) (f:Nat→Rat):(stc l f).length=l.length:=by
 unfold stc
 rw [List.length_map,List.length_range]
theorem iQ (l:List Ho) (f:Nat→Rat) {k:Nat} (h:k<l.length):ho (stc l f) k={ ho l k with c:=tr (f k) }:=by
 rw [gS (by rw [dP];exact h)]
 unfold stc
 rw [List.getElem_map,List.getElem_range]
theorem pS (l:List Ho) (f:Nat→Rat) {k:Nat} (h:k<l.length):ct (stc l f) k=f k:=by
 unfold ct
 rw [iQ l f h];exact cF _
theorem xB (l:List Ho) (f:Nat→Rat) {k:Nat} (h:k<l.length):mx (stc l f) k=mx l k:=by
 unfold mx
 rw [iQ l f h]
theorem qXq (l:List Ho) (f:Nat→Rat) {k:Nat} (h:k<l.length):sr (stc l f) k=sr l k:=by
 unfold sr
 rw [iQ l f h]
theorem oJ (l:List Ho) (f:Nat→Rat):thr (stc l f)=sm l.length f:=by
 unfold thr
 rw [dP]
 exact cP fun k hk=>pS l f hk
theorem kX {l:List Ho} {f g:Nat→Rat} (h:∀ k,k<l.length→f k=g k):stc l f=stc l g:=by
 unfold stc
 refine List.map_congr_left fun k hk=>?_;rw [h k (List.mem_range.1 hk)]
theorem Okp.stc {p:Tr} {l:List Ho} (h:Okp p l) {f:Nat→Rat} (h0:∀ k,k<l.length→0≤f k) (h1:∀ k,k<l.length→f k≤mx l k) (h2:sm l.length f≤trq p):Okp p (stc l f):=by
 refine ⟨by rw [dP];exact h.few,h.cap,fun k hk=>?_,fun k hk=>?_,by rw [oJ];exact h2⟩
 ·rw [dP] at hk
  rw [iQ l f hk];have:=fnH_t.1 (h.hs k hk);exact fnH_t.2 ⟨sV (h0 k hk),this.2⟩
 ·rw [dP] at hk
  rw [pS l f hk,xB l f hk];exact h1 k hk
def ptl (n:Nat) (f:Nat→Rat):List Rat:=(List.range n).map f
theorem bX (n:Nat) (f:Nat→Rat):(ptl n f).length=n:=by
 unfold ptl
 rw [List.length_map,List.length_range]
theorem eE {n:Nat} (f:Nat→Rat) {k:Nat} (h:k<n):yq (ptl n f) k=f k:=vV f h
theorem eV {n:Nat} {f g:Nat→Rat} (h:∀ k,k<n→f k=g k):ptl n f=ptl n g:=by
 unfold ptl
 exact List.map_congr_left fun k hk=>h k (List.mem_range.1 hk)
structure Pd where
 p:Tr
 l:List Ho
 q:List Rat
 r:Rat
def pd0:Pd:=⟨(false,[],[]),[],[],0⟩
def gn (p:Tr) (l:List Ho) (a:Rat):Rat:=mn a (trq p-thr l)
open Classical in
noncomputable def pou (l:List Ho) (M:Rat):Nat→Rat :=
 if h:∃ P,Pur l.length (rmh l) (sr l) M P (M-sm l.length P) then fun k=>if k<l.length then Classical.choose h k else 0 else fun _=>0
theorem Pur.congr {n:Nat} {rm sh:Nat→Rat} {M:Rat} {P P':Nat→Rat} {left left':Rat} (h:Pur n rm sh M P left) (hP:∀ k,k<n→P' k=P k) (hl:left'=left):Pur n rm sh M P' left':=by
 subst hl;obtain ⟨u,hu,h1⟩:=h.lev;exact ⟨⟨u,hu,fun k hk=>(hP k hk).trans (h1 k hk)⟩,h.pos,by rw [cP hP];exact h.sum,fun h0 k hk hs=>(hP k hk).trans (h.full h0 k hk hs)⟩
theorem Pur.left {n:Nat} {rm sh:Nat→Rat} {M:Rat} {P:Nat→Rat} {left:Rat} (h:Pur n rm sh M P left):left=M-sm n P:=by
 have:=h.sum
 grind
theorem oT {l:List Ho} (hs:Hs l.length (rmh l) (sr l)) {M:Rat} {P:Nat→Rat} {left:Rat} (h:Pur l.length (rmh l) (sr l) M P left):∀ k,k<l.length→P k=pou l M k:=by
 have h1:Pur l.length (rmh l) (sr l) M P (M-sm l.length P):=h.congr (fun _ _=>rfl) h.left.symm;have h2:∃ P,Pur l.length (rmh l) (sr l) M P (M-sm l.length P):=⟨P,h1⟩;intro k hk
 unfold pou
 rw [dif_pos h2];simp only [if_pos hk];exact (h1.uniq hs (Classical.choose_spec h2)).2 k hk
theorem qYe {l:List Ho} (hs:Hs l.length (rmh l) (sr l)) {M:Rat} {P:Nat→Rat} {left:Rat} (h:Pur l.length (rmh l) (sr l) M P left):Pur l.length (rmh l) (sr l) M (pou l M) (M-sm l.length (pou l M)):=by
 have h1:=oT hs h;refine h.congr (fun k hk=>(h1 k hk).symm) ?_;rw [← cP h1];exact h.left.symm
noncomputable def fiD (p:Tr) (l:List Ho) (a:Rat):Pd :=
 ⟨p,stc l fun k=>ct l k+pou l (gn p l a) k,ptl l.length (pou l (gn p l a)),a-sm l.length (pou l (gn p l a))⟩
def fiE (p:Tr) (l:List Ho) (a:Tr):Int:=if chE p l≠0 then chE p l else if fnT a=false then 1 else 0
noncomputable def fiR (p:Tr) (l:List Ho) (a:Tr):Pd:=if fiE p l a=0 then fiD p l (trq a) else pd0
def taD (p:Tr) (l:List Ho) (f:Nat→Rat) (r:Rat):Pd:=⟨p,stc l fun k=>ct l k-f k,ptl l.length f,r⟩
def reE (p:Tr) (l:List Ho) (ws:List Tr):Int:=if chE p l≠0 then chE p l else if ws.length≠l.length∨¬ ∀ k,k<ws.length→fnT (xt ws k)=true then 1 else 0
def reF (l:List Ho) (ws:List Tr) (k:Nat):Rat:=bP (trq (xt ws k)) (ct l k)
def reR (p:Tr) (l:List Ho) (ws:List Tr):Pd:=if reE p l ws=0 then taD p l (reF l ws) 0 else pd0
def loF (l:List Ho) (a:Rat) (k:Nat):Rat:=ct l k * (bP a (thr l) / thr l)
def loR (p:Tr) (l:List Ho) (a:Tr):Pd:=if fiE p l a=0 then taD p l (loF l (trq a)) (trq a-bP (trq a) (thr l)) else pd0
def caE (p:Tr) (l:List Ho) (t:Tr):Int:=if chE p l≠0 then chE p l else if vd t.1 t.2.1 t.2.2=false then 1 else if t.1=true∨1<trq t then 3 else 0
def caF (l:List Ho) (t:Rat) (k:Nat):Rat:=gG 0 (ct l k-t * mx l k)
def caL (l:List Ho) (t:Rat):List Ho:=stc l fun k=>ct l k-caF l t k
noncomputable def caD (p:Tr) (l:List Ho) (t:Rat):Pd :=
 ⟨p,(fiD p (caL l t) (sm l.length (caF l t))).l,ptl l.length fun k=>pou (caL l t) (gn p (caL l t) (sm l.length (caF l t))) k-caF l t k,(fiD p (caL l t) (sm l.length (caF l t))).r⟩
noncomputable def caR (p:Tr) (l:List Ho) (t:Tr):Pd:=if caE p l t=0 then caD p l (trq t) else pd0
structure Ng where
 p:Tr
 l:List Ho
 got:List Rat
 giv:List Rat
 los:List Rat
 spi:Rat
 dry:Rat
def ng0:Ng:=⟨(false,[],[]),[],[],[],[],0,0⟩
noncomputable def dyA (p:Tr) (l:List Ho) (i:Tr):Pd:=fiR p l i
noncomputable def dyB (p:Tr) (l:List Ho) (i:Tr) (ws:List Tr):Pd:=reR (dyA p l i).p (dyA p l i).l ws
noncomputable def dyC (p:Tr) (l:List Ho) (i:Tr) (ws:List Tr) (o:Tr):Pd:=loR (dyB p l i ws).p (dyB p l i ws).l o
noncomputable def dyE (p:Tr) (l:List Ho) (i:Tr) (ws:List Tr) (o:Tr):Int :=
 if fiE p l i≠0 then fiE p l i else if reE (dyA p l i).p (dyA p l i).l ws≠0 then reE (dyA p l i).p (dyA p l i).l ws else fiE (dyB p l i ws).p (dyB p l i ws).l o
noncomputable def dyR (p:Tr) (l:List Ho) (i:Tr) (ws:List Tr) (o:Tr):Ng :=
 if dyE p l i ws o=0 then ⟨(dyC p l i ws o).p,(dyC p l i ws o).l,(dyA p l i).q,(dyB p l i ws).q,(dyC p l i ws o).q,(dyA p l i).r,(dyC p l i ws o).r⟩ else ng0
/-! ### sizes -/
theorem iJ {f:Nat→Rat} {B:Nat}:∀ {n:Nat},(∀ k,k<n→szR (f k) B)→szR (sm n f) (n * (B+1)+1)
 | 0,_=>szR_zero.mono (by omega)
 | n+1,h=>by
  rw [cB];refine (lS (iJ fun k hk=>h k (by omega)) (h n (by omega))).mono ?_;rw [Nat.succ_mul]
  omega
structure Szp (l:List Ho) (B:Nat):Prop where
 c:∀ k,tz (ho l k).c.2.1 (ho l k).c.2.2 B
 m:∀ k,tz (ho l k).m.2.1 (ho l k).m.2.2 B
 s:∀ k,tz (ho l k).s.2.1 (ho l k).s.2.2 B
theorem Szp.mono {l:List Ho} {B C:Nat} (h:Szp l B) (hB:B≤C):Szp l C:=⟨fun k=>(h.c k).mono hB,fun k=>(h.m k).mono hB,fun k=>(h.s k).mono hB⟩
theorem Szp.ct {l:List Ho} {B:Nat} (h:Szp l B) (h1:1≤B) (k:Nat):szR (ct l k) B:=cV rfl (h.c k) h1
theorem Szp.mx {l:List Ho} {B:Nat} (h:Szp l B) (h1:1≤B) (k:Nat):szR (mx l k) B:=cV rfl (h.m k) h1
theorem Szp.sr {l:List Ho} {B:Nat} (h:Szp l B) (h1:1≤B) (k:Nat):szR (sr l k) B:=cV rfl (h.s k) h1
theorem Szp.rm {l:List Ho} {B:Nat} (h:Szp l B) (h1:1≤B) (k:Nat):szR (rmh l k) (2 * B+1):=(cX (h.mx h1 k) (h.ct h1 k)).mono (by omega)
theorem Szp.thr {l:List Ho} {B:Nat} (h:Szp l B) (h1:1≤B) {n:Nat} (hn:n≤8):szR (sm n (Go.Proofs.YtnfpenhldlfafaaGreatDoor.ct l)) (8 * B+9):=by
 refine (iJ fun k _=>h.ct h1 k).mono ?_;have:=Nat.mul_le_mul_right (B+1) hn
 omega
theorem Szp.stc {l:List Ho} {B C:Nat} (h:Szp l B) (hB:B≤C) {f:Nat→Rat} (hf:∀ k,k<l.length→szR (f k) C):Szp (stc l f) C:=by
 have key:∀ k,(k<l.length∧ho (Go.Proofs.YtnfpenhldlfafaaGreatDoor.stc l f) k={ ho l k with c:=tr (f k) })∨ho (Go.Proofs.YtnfpenhldlfafaaGreatDoor.stc l f) k=default:=fun k=>by
  rcases Nat.lt_or_ge k l.length with hk|hk
  ·exact .inl ⟨hk,iQ l f hk⟩
  ·exact .inr (mZ (by rw [dP];exact hk))
 refine ⟨fun k=>?_,fun k=>?_,fun k=>?_⟩ <;> rcases key k with ⟨hk,h9⟩|h9 <;> rw [h9]
 ·exact tzR (hf k hk) (Nat.le_refl _)
 ·exact dK
 ·exact (h.m k).mono hB
 ·exact dK
 ·exact (h.s k).mono hB
 ·exact dK
theorem mn_sz {a b:Rat} {B:Nat} (ha:szR a B) (hb:szR b B):szR (mn a b) B:=by
 unfold mn
 split <;> assumption
theorem Pur.sz {n:Nat} {rm sh:Nat→Rat} (hs:Hs n rm sh) {M:Rat} {P:Nat→Rat} {left:Rat} (h:Pur n rm sh M P left) (hn:n≤8) {B C:Nat} (hr:∀ k,k<n→szR (rm k) (2 * B+1)) (hsh:∀ k,k<n→szR (sh k) B) (hM:szR M C) (h1:1≤B) {k:Nat} (hk:k<n):szR (P k) (C+26 * B+30):=by
 obtain ⟨u,hu,h2⟩:=h.lev
 by_cases hp:P k=rm k
 ·rw [hp]
  exact (hr k hk).mono (by omega)
 by_cases hz:sh k=0
 ·rw [h.none hs hk hz]
  exact szR_zero.mono (by omega)
 have hl:left=0:=Decidable.of_not_not fun h9=>hp (h.full h9 k hk hz)
 have e1:sm n P=sm n (fun i=>if rm i≤u * sh i then rm i else 0)+u * sm n (fun i=>if rm i≤u * sh i then 0 else sh i):=by
  rw [← kY,← jL];refine cP fun i hi=>?_;rw [h2 i hi]
  unfold lv
  split
  ·grind
  ·grind
 have hc:¬ rm k≤u * sh k:=fun h9=>hp (by rw [h2 k hk];exact if_pos h9)
 have e2:sm n (fun i=>if rm i≤u * sh i then 0 else sh i)≠0:=fun h9=>by
  have h8:=sm_z (fun i hi=>by
   show 0≤if rm i≤u * sh i then 0 else sh i
   split
   ·exact Rat.le_refl
   ·exact hs.sh i hi) h9 k hk
  rw [if_neg hc] at h8;exact hz h8
 have e3:=h.sum;rw [hl,Rat.zero_add,e1] at e3
 have e4:u=(M-sm n (fun i=>if rm i≤u * sh i then rm i else 0)) / sm n (fun i=>if rm i≤u * sh i then 0 else sh i):=by
  rw [← e3,Rat.div_def,show sm n (fun i=>if rm i≤u * sh i then rm i else 0)+u * sm n (fun i=>if rm i≤u * sh i then 0 else sh i)-sm n (fun i=>if rm i≤u * sh i then rm i else 0)=u * sm n (fun i=>if rm i≤u * sh i then 0 else sh i) by grind,Rat.mul_assoc,Rat.mul_inv_cancel _ e2,Rat.mul_one]
 have z1:szR (sm n (fun i=>if rm i≤u * sh i then rm i else 0)) (16 * B+17):=by
  refine (iJ (B:=2 * B+1) fun i hi=>?_).mono ?_
  ·split
   ·exact hr i hi
   ·exact szR_zero.mono (by omega)
  ·have:=Nat.mul_le_mul_right (2 * B+1+1) hn
   omega
 have z2:szR (sm n (fun i=>if rm i≤u * sh i then 0 else sh i)) (8 * B+9):=by
  refine (iJ (B:=B) fun i hi=>?_).mono ?_
  ·split
   ·exact szR_zero.mono (by omega)
   ·exact hsh i hi
  ·have:=Nat.mul_le_mul_right (B+1) hn
   omega
 have z3:szR u (C+(16 * B+17)+1+(8 * B+9)):=by
  rw [e4];exact lR (cX hM z1) z2
 rw [h2 k hk]
 unfold lv
 rw [if_neg hc];exact (gX z3 (hsh k hk)).mono (by omega)
end Go.Proofs.YtnfpenhldlfafaaGreatDoor

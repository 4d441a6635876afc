/- Layer 45: plain words of the periods: balances. -/
import Derived.Test.YtjkfchehkpmhkaaDoorPl45c
set_option linter.unusedSimpArgs false
set_option linter.unusedVariables false
set_option maxRecDepth 100000
set_option maxHeartbeats 1600000
namespace Go.Proofs.YtjkfchehkpmhkaaDoor
def jJ (l:List En) (a d:Int) (D:Int→Bool):Rat:=sm l.length fun i=>if (en l i).day≤d∧D (en l i).pd=true then ent (en l i) a else 0
theorem qQu {l:List En} {a d:Int} {D:Int→Bool} (h:∀ i,i<l.length→D (en l i).pd=false):jJ l a d D=0 :=
 fO fun i hi=>if_neg fun h9=>by rw [h i hi] at h9;exact absurd h9.2 (by decide)
theorem qQt (l:List En) (a d:Int) {L:Int→Bool} {k:Int} (hk:L k=true):jJ l a d (fun p=>!(L p && !decide (p=k)))=jJ l a d (fun p=>!L p)+knw l k a d:=by
 unfold jJ knw wL
 rw [← sD];refine cL fun i _=>?_
 unfold kD
 by_cases h1:(en l i).pd=k
 ·subst h1
  by_cases h2:(en l i).day≤d
  ·simp [h2,hk] <;> grind
  ·simp [h2] <;> grind
 ·by_cases h2:(en l i).day≤d
  ·by_cases hL:L (en l i).pd=true
   ·simp [h1,h2,hL] <;> grind
   ·simp [h1,h2,hL] <;> grind
  ·simp [h2] <;> grind
theorem qR {c:Int} {l:List En} (h:Ok44 c l) (a:Int) {d:Int} {D:Int→Bool} (hD:∀ i,i<l.length→D (en l i).pd=true):jJ l a d D=bal l a 0 d 0:=by
 unfold jJ bal qZi
 refine cL fun i hi=>?_;have h0:=(h.rg hi).y0
 unfold itm sel
 rw [hD i hi,decide_eq_true h0]
 by_cases h2:(en l i).day≤d <;> simp [h2]
def jU (ss:List Stp) (p:Int):Bool:=ss.any fun s=>decide (0≤s.q.pd) && decide (s.q.pd≤4000) && decide (s.q.pd=p)
theorem rH (ss:List Stp) (s:Stp) (p:Int):jU (ss++[s]) p=(jU ss p || (decide (0≤s.q.pd) && decide (s.q.pd≤4000) && decide (s.q.pd=p))):=by
 unfold jU
 rw [List.any_append]
 simp
theorem qVo {ss:List Stp} {s:Stp} (hs:s∈ss) (h0:0≤s.q.pd) (h1:s.q.pd≤4000):jU ss s.q.pd=true :=
 List.any_eq_true.2 ⟨s,hs,by rw [decide_eq_true h0,decide_eq_true h1,decide_eq_true rfl];rfl⟩
theorem qVn {ss:List Stp} {p:Int} (h:jU ss p=true):0≤p∧p≤4000:=by
 obtain ⟨s,_,h1⟩:=List.any_eq_true.1 h;rw [Bool.and_eq_true,Bool.and_eq_true,decide_eq_true_eq,decide_eq_true_eq,decide_eq_true_eq] at h1
 omega
theorem xQ {c:Int} {T:List Stp}:∀ {ss:List Stp} {S:List En×List Cg} {m:Nat},In45 c S m→m+ss.length≤4000→(∀ s∈ss,tz s.q.am.2.1 s.q.am.2.2 12)→(∀ s∈ss,s∈T)→(∀ i,i<S.1.length→jU T (en S.1 i).pd=true)→∀ i,i<(rn c S ss).1.length→jU T (en (rn c S ss).1 i).pd=true
 | [],_,_,_,_,_,_,h=>h
 | s :: r,S,m,hI,hm,hs,hT,h=>by
  rw [List.length_cons] at hm;rw [lY];refine xQ (hI.stp (by omega) (hs s List.mem_cons_self)) (by omega) (fun t ht=>hs t (List.mem_cons_of_mem _ ht)) (fun t ht=>hT t (List.mem_cons_of_mem _ ht)) fun i hi=>?_
  unfold stp at hi ⊢
  split at hi
  ·rename_i hc
   rw [if_pos hc]
   split at hi
   ·rename_i hE
    rw [if_pos hE];exact h i hi
   ·rename_i hE
    rw [if_neg hE];exact h i hi
  ·rename_i hc
   rw [if_neg hc]
   split at hi
   ·rename_i hE
    rw [if_pos hE];obtain ⟨_,h2,_,_⟩:=(eT hI.ok).1 hE;obtain ⟨p0,p1,_⟩:=cK h2
    show jU T (en (bT c S.1 S.2 s.q) i).pd=true
    have hi2:i<(bT c S.1 S.2 s.q).length:=hi
    unfold bT at hi2 ⊢
    rw [if_pos hE] at hi2 ⊢
    split at hi2
    ·rename_i hz
     rw [if_pos hz];exact h i hi2
    ·rename_i hz
     rw [if_neg hz];rw [eX] at hi2
     rcases Nat.lt_or_ge i S.1.length with h3|h3
     ·rw [kL h3]
      exact h i h3
     ·rw [show i=S.1.length by omega,kK,lW]
      exact qVo (hT s List.mem_cons_self) p0 p1
   ·rename_i hE
    rw [if_neg hE];exact h i hi
def awS (l:List En) (d:Int) (k:Nat):Rat:=sm k fun i=>bal l ((i:Int)+2) 0 d 0
def cw (l:List En) (d:Int) (k:Nat):Rat:=sm k fun i=>mZ l ((i:Int)+2) 0 d l.length
theorem qZj (l:List En) (d:Int) (k:Nat):awS l d (k+1)=awS l d k+bal l ((k:Int)+2) 0 d 0:=rfl
theorem vVi (l:List En) (d:Int) (k:Nat):cw l d (k+1)=cw l d k+mZ l ((k:Int)+2) 0 d l.length:=rfl
theorem qVh (f:Nat→Rat) (n:Nat):sm (n+2) f=f 0+f 1+sm n (fun i=>f (i+2)):=by
 rw [show n+2=2+n by omega,lV]
 have e1:sm 2 f=f 0+f 1:=by
  rw [show (2:Nat)=0+1+1 by rfl,cT,cT]
  show (0:Rat)+_+_=_
  grind
 rw [e1]
 congr 1
 exact cL fun i _=>by rw [Nat.add_comm]
theorem qZg {c:Int} {l:List En} (h:Ok44 c l) {N:Nat} (hc:c=(N:Int)+2) (d:Int):bal l 0 0 d 0+bal l 1 0 d 0=-(awS l d N):=by
 have h1:=vVr h (N:=N+2) (by omega) 0 d 0;rw [qVh] at h1
 unfold awS
 have e:sm N (fun i=>bal l (((i+2:Nat):Int)) 0 d 0)=sm N (fun i=>bal l ((i:Int)+2) 0 d 0):=cL fun i _=>by rw [show ((i+2:Nat):Int)=(i:Int)+2 by omega]
 rw [e] at h1;have e0:bal l ((0:Nat):Int) 0 d 0=bal l 0 0 d 0:=rfl;have e1:bal l ((1:Nat):Int) 0 d 0=bal l 1 0 d 0:=rfl;rw [e0,e1] at h1
 grind
theorem vXr {x:En} {o:Int} (h:btw x o=true):(x.deb=o∧1<x.cre)∨(x.cre=o∧1<x.deb):=by
 unfold btw at h
 rw [Bool.or_eq_true,Bool.and_eq_true,Bool.and_eq_true,decide_eq_true_eq,decide_eq_true_eq,decide_eq_true_eq,decide_eq_true_eq] at h;exact h
theorem yN {cs:List Cg} {x:En} {k:Nat} (h:cN cs x k=true):x.rf=-1∧((x.kd=3∧btw x 1=true∧gU cs x.pd≤k)∨(x.kd=1∧btw x 0=true∧¬ gU cs x.pd≤k)):=by
 unfold cN at h
 rw [Bool.and_eq_true,decide_eq_true_eq] at h;obtain ⟨h1,h2⟩:=h;refine ⟨h1,?_⟩
 split at h2
 ·rename_i h3
  rw [Bool.and_eq_true,decide_eq_true_eq] at h2;exact .inl ⟨h3,h2⟩
 ·rw [Bool.and_eq_true,Bool.and_eq_true,decide_eq_true_eq] at h2
  exact .inr ⟨h2.1.2,h2.1.1,by simpa using h2.2⟩
theorem rR {x:En} {a:Int} (h1:x.deb≠a) (h2:x.cre≠a):ent x a=0:=by
 unfold ent
 rw [if_neg h1,if_neg h2]
 grind
theorem wZ {c:Int} {l:List En} {cs:List Cg} (h:Ok45 c l cs) {N:Nat} (hc:c=(N:Int)+2) (d:Int):bal l 1 0 d 0=-(cw l d N):=by
 unfold bal qZi cw mZ
 rw [← sC (fun i j=>if fU (en l i) ((j:Int)+2) 0 d=true then ent (en l i) ((j:Int)+2) else 0)]
 have key:∀ i,i<l.length→itm (en l i) 1 0 d 0=-(sm N fun j=>if fU (en l i) ((j:Int)+2) 0 d=true then ent (en l i) ((j:Int)+2) else 0):=fun i hi=>by
  have hr:=h.ac.rg hi;have y0:=hr.y0;generalize hx:en l i=x at *;obtain ⟨_,h1⟩:=yN (by have:=h.ent i hi;rwa [hx] at this)
  unfold itm sel
  rw [decide_eq_true y0]
  by_cases hd:x.day≤d
  ·rw [decide_eq_true hd]
   rcases h1 with ⟨k3,hb,_⟩|⟨k1,hb,_⟩
   ·have hb2:=vXr hb
    have e:∀ j:Nat,(if fU x ((j:Int)+2) 0 d=true then ent x ((j:Int)+2) else 0)=ent x ((j:Int)+2):=fun j=>by
     unfold fU
     rw [decide_eq_true k3,decide_eq_true y0,decide_eq_true hd]
     by_cases h9:x.deb=(j:Int)+2∨x.cre=(j:Int)+2
     ·rw [if_pos (by simpa using h9)]
     ·rw [if_neg (by simpa using h9),rR (fun h8=>h9 (.inl h8)) (fun h8=>h9 (.inr h8))]
    rw [cL fun j _=>e j];have h5:=yM hr (N:=N+2) (by omega);rw [qVh] at h5
    have e2:sm N (fun j=>ent x (((j+2:Nat):Int)))=sm N (fun j=>ent x ((j:Int)+2)):=cL fun j _=>by rw [show ((j+2:Nat):Int)=(j:Int)+2 by omega]
    have e0:ent x ((0:Nat):Int)=0:=rR (show x.deb≠0 by omega) (show x.cre≠0 by omega);have e1:ent x ((1:Nat):Int)=ent x 1:=rfl;rw [e2,e0,e1] at h5;simp only [Bool.true_and,decide_true,Bool.true_or,if_true]
    grind
   ·have hb2:=vXr hb
    have e:∀ j:Nat,(if fU x ((j:Int)+2) 0 d=true then ent x ((j:Int)+2) else 0)=0:=fun j=>if_neg (by
     unfold fU
     rw [decide_eq_false (show ¬ x.kd=3 by omega)]
     simp)
    rw [fO fun j _=>e j,rR (show x.deb≠1 by omega) (show x.cre≠1 by omega)]
    simp <;> grind
  ·rw [decide_eq_false hd]
   have e:∀ j:Nat,(if fU x ((j:Int)+2) 0 d=true then ent x ((j:Int)+2) else 0)=0:=fun j=>if_neg (by
    unfold fU
    rw [decide_eq_false hd]
    simp)
   rw [fO fun j _=>e j]
   simp <;> grind
 rw [cL key];clear key;generalize hn:l.length=n;clear hn
 induction n with
 | zero =>
  show (0:Rat)=-0
  grind
 | succ n ih =>
  rw [cT,cT,ih]
  grind
theorem qD {p:Prop} [Decidable p] {x:Rat} {B:Nat} (h:szR x B) (h1:1≤B):szR (if p then x else 0) B:=by
 split
 ·exact h
 ·exact szR_zero.mono h1
theorem iA {f:Nat→Rat} {B:Nat}:∀ {n:Nat},(∀ i,i<n→szR (f i) B)→szR (sm n f) (n * (B+1)+1)
 | 0,_=>szR_zero.mono (by omega)
 | n+1,h=>by
  rw [cT];refine (sA (iA fun i hi=>h i (by omega)) (h n (by omega))).mono ?_;rw [Nat.succ_mul]
  omega
theorem yY {l:List En} {B:Nat} (h1:1≤B) (hx:∀ k,tz (en l k).am.2.1 (en l k).am.2.2 B) (a d:Int) (D:Int→Bool):szR (jJ l a d D) (l.length * (2 * B+2)+1) :=
 iA fun i _=>qD (iJ h1 (hx i) a) (by omega)
theorem yV {l:List En} {B:Nat} (h1:1≤B) (hx:∀ k,tz (en l k).am.2.1 (en l k).am.2.2 B) (a f t:Int) (n:Nat):szR (mZ l a f t n) (n * (2 * B+2)+1) :=
 iA fun i _=>qD (iJ h1 (hx i) a) (by omega)
theorem mJ {l:List En} {B:Nat} (h1:1≤B) (hx:∀ k,tz (en l k).am.2.1 (en l k).am.2.2 B) (p a d:Int) (n:Nat):szR (wL l p a d n) (n * (2 * B+2)+1) :=
 iA fun i _=>qD (iJ h1 (hx i) a) (by omega)
end Go.Proofs.YtjkfchehkpmhkaaDoor

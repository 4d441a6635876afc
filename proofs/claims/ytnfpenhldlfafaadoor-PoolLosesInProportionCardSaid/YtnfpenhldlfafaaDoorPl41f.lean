/- Layer 41: the plain laws of pools. -/
import Derived.Test.YtnfpenhldlfafaaDoorPl41e
set_option linter.unusedSimpArgs false
set_option linter.unusedVariables false
set_option maxRecDepth 100000
set_option maxHeartbeats 1600000
namespace Go.Proofs.YtnfpenhldlfafaaDoor
open Go.RowKit
section
variable {p:Tr} {l:List Ho} {a b:Rat}
theorem Okp.cap_tr (h:Okp p l):p=tr (trq p):=(fT (fnT_t.1 h.cap).2).symm
theorem Okp.ho_tr (h:Okp p l) {k:Nat} (hk:k<l.length):ho l k=⟨tr (ct l k),tr (mx l k),tr (sr l k)⟩:=by
 obtain ⟨h1,h2,h3⟩:=fnH_t.1 (h.hs k hk);have e1:tr (ct l k)=(ho l k).c:=fT (fnT_t.1 h1).2;have e2:tr (mx l k)=(ho l k).m:=fT (fnT_t.1 h2).2;have e3:tr (sr l k)=(ho l k).s:=fT (fnT_t.1 h3).2;rw [e1,e2,e3]
/-! ### fairness -/
theorem fair1 (h:Okp p l) (ha:0≤a) {k:Nat} (hk:k<l.length) (h1:a-sm l.length (pou l (gn p l a))≠0) (h2:thr (fiD p l a).l≠trq p) (h3:sr l k≠0):ct l k+pou l (gn p l a) k=mx l k:=by
 have hp:=h.pur ha
 have key:pou l (gn p l a) k=mx l k-ct l k:=by
  by_cases hl:gn p l a-sm l.length (pou l (gn p l a))=0
  ·exfalso
   rw [vO] at h2;have h6:gn p l a=mn a (trq p-thr l):=rfl
   rcases tL a (trq p-thr l) with h5|h5
   ·rw [← h6] at h5
    exact h1 (by grind)
   ·rw [← h6] at h5
    exact h2 (by grind)
  ·exact hp.full hl k hk h3
 grind
theorem fair2 (h:Okp p l) (ha:0≤a) {k:Nat} (hk:k<l.length) (h0:sr l k=0):pou l (gn p l a) k=0:=(h.pur ha).none h.holds hk h0
theorem fair3 (h:Okp p l) (ha:0≤a) {k i:Nat} (hk:k<l.length) (hi:i<l.length) (hr:ct l k+pou l (gn p l a) k<mx l k):pou l (gn p l a) i * sr l k≤pou l (gn p l a) k * sr l i :=
 (h.pur ha).fair h.holds hk hi (by
  show _<mx l k-ct l k
  grind)
/-! ### two amounts -/
theorem Pur.rms {n:Nat} {rm rm' sh sh':Nat→Rat} {M M':Rat} {P:Nat→Rat} {left:Rat} (h:Pur n rm sh M P left) (hr:∀ k,k<n→rm' k=rm k) (hs:∀ k,k<n→sh' k=sh k) (hM:M'=M):Pur n rm' sh' M' P left:=by
 subst hM;obtain ⟨u,hu,h1⟩:=h.lev
 exact ⟨⟨u,hu,fun k hk=>by
  rw [h1 k hk]
  unfold lv
  rw [hr k hk,hs k hk]⟩,h.pos,h.sum,fun h0 k hk h2=>by
  rw [hr k hk]
  exact h.full h0 k hk (by rwa [← hs k hk])⟩
theorem fD (p:Tr) (l:List Ho) (a:Rat):(fiD p l a).l.length=l.length:=dL _ _
theorem rC (h:Okp p l) (ha:0≤a) (hb:0≤b) {k:Nat} (hk:k<l.length):pou l (gn p l (a+b)) k=pou l (gn p l a) k+pou (fiD p l a).l (gn p (fiD p l a).l b) k:=by
 have h2:=(h.fi ha).pur hb;rw [fD] at h2
 have h3:=h2.rms (rm':=fun i=>rmh l i-pou l (gn p l a) i) (sh':=sr l) (M':=mn b (trq p-thr l-sm l.length (pou l (gn p l a)))) (fun k hk=>by
  show mx l k-ct l k-_=mx (stc l _) k-ct (stc l _) k
  rw [wQ l _ hk,pJ l _ hk]
  grind) (fun k hk=>(qXl l _ hk).symm) (by
  show _=mn b (trq p-thr (fiD p l a).l)
  rw [vO]
  congr 1
  grind)
 have hM:0≤trq p-thr l:=by
  have:=h.sum
  grind
 have h4:=Pur.two h.holds ha hb hM (h.pur ha) h3;have h5:=h.pur (a:=a+b) (by grind);exact (h5.uniq h.holds h4).2 k hk
theorem qQn (h:Okp p l) (ha:0≤a) (hb:0≤b):(fiD p l (a+b)).l=(fiD p (fiD p l a).l b).l:=by
 refine pD (by rw [fD,fD,fD]) fun k hk=>?_;rw [fD] at hk
 show ho (stc l _) k=ho (stc (stc l _) _) k
 rw [gA l _ hk,gA _ _ (by rw [dL];exact hk),gA l _ hk];have e1:ct (stc l fun k=>ct l k+pou l (gn p l a) k) k=ct l k+pou l (gn p l a) k:=pJ l _ hk
 show Ho.mk (tr (ct l k+pou l (gn p l (a+b)) k)) _ _=Ho.mk (tr (ct (stc l fun k=>ct l k+pou l (gn p l a) k) k+pou (fiD p l a).l (gn p (fiD p l a).l b) k)) _ _
 rw [e1,rC h ha hb hk]
 congr 2
 grind
theorem vK (h:Okp p l) (ha:0≤a) (hb:0≤b):sm l.length (pou l (gn p l (a+b)))=sm l.length (pou l (gn p l a))+sm (fiD p l a).l.length (pou (fiD p l a).l (gn p (fiD p l a).l b)):=by
 rw [fD,← hU]
 exact cT fun k hk=>rC h ha hb hk
theorem qQm (h:Okp p l) (ha:0≤a) (hb:0≤b):(fiD p l a).r+(fiD p (fiD p l a).l b).r=(fiD p l (a+b)).r:=by
 show (a-_)+(b-_)=a+b-_
 rw [vK h ha hb]
 grind
theorem yT (h:Okp p l) (ha:0≤a) (hb:0≤b):(fiD p l a).r≤(fiD p l (a+b)).r:=by
 show a-_≤a+b-_
 rw [vK h ha hb];have:=(h.fi ha).psa hb
 grind
theorem yU (h:Okp p l) (ha:0≤a) (hb:0≤b) {k:Nat} (hk:k<l.length):pou l (gn p l a) k≤pou l (gn p l (a+b)) k:=by
 rw [rC h ha hb hk];have:=(h.fi ha).pnn hb (k:=k) (by rw [fD];exact hk)
 grind
/-! ### losses -/
theorem uL (l:List Ho) (a:Rat) (k i:Nat):ct l k * (ct l i-loF l a i)=ct l i * (ct l k-loF l a k):=by
 unfold loF
 grind
/-! ### nothing is lost -/
theorem ho_fi (h:Okp p l) {k:Nat} (hk:k<l.length):ho (fiD p l a).l k=⟨tr (ct l k+pou l (gn p l a) k),tr (mx l k),tr (sr l k)⟩:=by
 show ho (stc l _) k=_
 rw [gA l _ hk,h.ho_tr hk]
theorem ho_ta (h:Okp p l) (f:Nat→Rat) (r:Rat) {k:Nat} (hk:k<l.length):ho (taD p l f r).l k=⟨tr (ct l k-f k),tr (mx l k),tr (sr l k)⟩:=by
 show ho (stc l _) k=_
 rw [gA l _ hk,h.ho_tr hk]
theorem rF (p:Tr) (l:List Ho) (f:Nat→Rat) (r:Rat):(taD p l f r).l.length=l.length:=dL _ _
theorem qQd (h:Okp p l) {t:Rat} (ht:0≤t):0≤sm l.length (caF l t):=nO fun k hk=>(sR h ht hk).1
theorem sD (x y:Rat):(x≤y∧bT x y=x)∨(y<x∧bT x y=y):=by
 rw [lR]
 unfold mn
 by_cases h:x≤y
 ·exact .inl ⟨h,if_pos h⟩
 ·exact .inr ⟨Rat.not_le.1 h,if_neg h⟩
end
end Go.Proofs.YtnfpenhldlfafaaDoor

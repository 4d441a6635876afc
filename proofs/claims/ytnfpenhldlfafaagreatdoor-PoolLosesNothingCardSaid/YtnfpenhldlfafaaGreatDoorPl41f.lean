/- Layer 41: the plain laws of pools. -/
import Derived.Test.YtnfpenhldlfafaaGreatDoorPl41e
set_option linter.unusedSimpArgs false
set_option linter.unusedVariables false
set_option maxRecDepth 100000
set_option maxHeartbeats 1600000
namespace Go.Proofs.YtnfpenhldlfafaaGreatDoor
open Go.RowKit
section
variable {p:Tr} {l:List Ho} {a b:Rat}
theorem Okp.cap_tr (h:Okp p l):p=tr (trq p):=(gW (fnT_t.1 h.cap).2).symm
theorem Okp.ho_tr (h:Okp p l) {k:Nat} (hk:k<l.length):ho l k=⟨tr (ct l k),tr (mx l k),tr (sr l k)⟩:=by
 obtain ⟨h1,h2,h3⟩:=fnH_t.1 (h.hs k hk);have e1:tr (ct l k)=(ho l k).c:=gW (fnT_t.1 h1).2;have e2:tr (mx l k)=(ho l k).m:=gW (fnT_t.1 h2).2;have e3:tr (sr l k)=(ho l k).s:=gW (fnT_t.1 h3).2;rw [e1,e2,e3]
theorem fU (p:Tr) (l:List Ho) (a:Rat):(fiD p l a).l.length=l.length:=dP _ _
/-! ### nothing is lost -/
theorem qVj (h:Okp p l) {k:Nat} (hk:k<l.length):ho (fiD p l a).l k=⟨tr (ct l k+pou l (gn p l a) k),tr (mx l k),tr (sr l k)⟩:=by
 show ho (stc l _) k=_
 rw [iQ l _ hk,h.ho_tr hk]
theorem qVi (h:Okp p l) (f:Nat→Rat) (r:Rat) {k:Nat} (hk:k<l.length):ho (taD p l f r).l k=⟨tr (ct l k-f k),tr (mx l k),tr (sr l k)⟩:=by
 show ho (stc l _) k=_
 rw [iQ l _ hk,h.ho_tr hk]
theorem ho_ca (h:Okp p l) {t:Rat} (ht:0≤t) {k:Nat} (hk:k<l.length):ho (caD p l t).l k=⟨tr (ct l k+(pou (caL l t) (gn p (caL l t) (sm l.length (caF l t))) k-caF l t k)),tr (mx l k),tr (sr l k)⟩:=by
 have hk2:k<(caL l t).length:=by rw [eR];exact hk
 show ho (fiD p (caL l t) _).l k=_
 rw [qVj (h.ca ht) hk2,show ct (caL l t) k=ct l k-caF l t k from pS l _ hk,show mx (caL l t) k=mx l k from xB l _ hk,show sr (caL l t) k=sr l k from qXq l _ hk,show ct l k-caF l t k+pou (caL l t) (gn p (caL l t) (sm l.length (caF l t))) k=ct l k+(pou (caL l t) (gn p (caL l t) (sm l.length (caF l t))) k-caF l t k) by grind]
theorem mF (p:Tr) (l:List Ho) (f:Nat→Rat) (r:Rat):(taD p l f r).l.length=l.length:=dP _ _
theorem kQ (h:Okp p l) {t:Rat} (ht:0≤t):0≤sm l.length (caF l t):=qM fun k hk=>(tJ h ht hk).1
theorem Okp.caD (h:Okp p l) {t:Rat} (ht:0≤t):Okp p (caD p l t).l:=(h.ca ht).fi (kQ h ht)
theorem qZg (h:Okp p l) {t:Rat} (ht:0≤t):thr (caD p l t).l+(Go.Proofs.YtnfpenhldlfafaaGreatDoor.caD p l t).r=thr l:=by
 show thr (fiD p (caL l t) _).l+(sm l.length (caF l t)-_)=_
 rw [wF,show thr (caL l t)=thr l-sm l.length (caF l t) from oI p l _ 0]
 grind
theorem qZh (h:Okp p l) {t:Rat} (ht:0≤t):0≤(caD p l t).r:=by
 show 0≤sm l.length (caF l t)-_
 have:=(h.ca ht).psa (kQ h ht)
 grind
theorem mS (x y:Rat):(x≤y∧bP x y=x)∨(y<x∧bP x y=y):=by
 rw [kD]
 unfold mn
 by_cases h:x≤y
 ·exact .inl ⟨h,if_pos h⟩
 ·exact .inr ⟨Rat.not_le.1 h,if_neg h⟩
theorem xO (h:Okp p l) (ha:0≤a) (h1:a-bP a (thr l)≠0):thr (taD p l (loF l a) (a-bP a (thr l))).l=0:=by
 rw [oI,tY h ha]
 rcases mS a (thr l) with ⟨_,h2⟩|⟨_,h2⟩
 ·rw [h2] at h1
  exact absurd (by grind) h1
 ·rw [h2]
  grind
theorem qYa {l:List Ho} {ws:List Tr} {k:Nat} (h1:reF l ws k<trq (xt ws k)):ct l k-reF l ws k=0:=by
 unfold reF at h1 ⊢
 rcases mS (trq (xt ws k)) (ct l k) with ⟨_,h2⟩|⟨_,h2⟩
 ·rw [h2] at h1
  exact absurd h1 Rat.lt_irrefl
 ·rw [h2]
  grind
theorem qQm (h:Okp p l) (ws:List Tr) (a o:Rat) (r s:Rat):thr (taD p (taD p (fiD p l a).l (reF (fiD p l a).l ws) r).l (loF (taD p (fiD p l a).l (reF (fiD p l a).l ws) r).l o) s).l+sm l.length (reF (fiD p l a).l ws)+sm l.length (loF (taD p (fiD p l a).l (reF (fiD p l a).l ws) r).l o)+(fiD p l a).r=thr l+a:=by
 have e2:(taD p (fiD p l a).l (reF (fiD p l a).l ws) r).l.length=l.length:=by rw [mF,fU]
 rw [oI,e2,oI,fU,wF]
 show _+(a-_)=_
 grind
end
end Go.Proofs.YtnfpenhldlfafaaGreatDoor

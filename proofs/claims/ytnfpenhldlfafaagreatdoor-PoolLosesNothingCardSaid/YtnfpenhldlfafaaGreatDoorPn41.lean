/- Layer 41: the three steps of a day, and a carry-over: nothin -/
import Derived.Test.YtnfpenhldlfafaaGreatDoorHf41
set_option linter.unusedSimpArgs false
set_option linter.unusedVariables false
set_option maxRecDepth 100000
set_option maxHeartbeats 1600000
namespace Go.Proofs.YtnfpenhldlfafaaGreatDoor
theorem fE {p:Tr} {l:List Ho} {i:Tr} (h:fiE p l i=0):fiR p l i=fiD p l (trq i):=if_pos h
theorem iL {p:Tr} {l:List Ho} {ws:List Tr} (h:reE p l ws=0):reR p l ws=taD p l (reF l ws) 0:=if_pos h
theorem pE {p:Tr} {l:List Ho} {o:Tr} (h:fiE p l o=0):loR p l o=taD p l (loF l (trq o)) (trq o-bP (trq o) (thr l)):=if_pos h
theorem lH {p:Tr} {l:List Ho} {ws:List Tr} {i o:Tr} (hE:dyE p l i ws o=0):fiE p l i=0∧reE p (fiR p l i).l ws=0∧fiE p (reR p (fiR p l i).l ws).l o=0:=by
 have e1:fiE p l i=0:=by
  by_cases h:fiE p l i=0
  ·exact h
  ·unfold dyE at hE
   rw [if_pos h] at hE;exact absurd hE h
 have hp:(fiR p l i).p=p:=by rw [fE e1];rfl
 have e2:reE p (fiR p l i).l ws=0:=by
  by_cases h:reE p (fiR p l i).l ws=0
  ·exact h
  ·unfold dyE dyA at hE
   rw [if_neg (by rw [e1];decide),hp,if_pos h] at hE;exact absurd hE h
 have hp2:(reR p (fiR p l i).l ws).p=p:=by rw [iL e2];rfl
 refine ⟨e1,e2,?_⟩
 unfold dyE dyB dyA at hE
 rw [if_neg (by rw [e1];decide),hp,if_neg (by rw [e2];decide),hp2] at hE;exact hE
theorem uJ {p:Tr} {l:List Ho} {ws:List Tr} {i o:Tr} (hE:dyE p l i ws o=0):dyR p l i ws o=⟨(loR p (reR p (fiR p l i).l ws).l o).p,(loR p (reR p (fiR p l i).l ws).l o).l,(fiR p l i).q,(reR p (fiR p l i).l ws).q,(loR p (reR p (fiR p l i).l ws).l o).q,(fiR p l i).r,(loR p (reR p (fiR p l i).l ws).l o).r⟩:=by
 obtain ⟨e1,e2,_⟩:=lH hE
 have hp:(fiR p l i).p=p:=by rw [fE e1];rfl
 have hp2:(reR p (fiR p l i).l ws).p=p:=by rw [iL e2];rfl
 unfold dyR
 rw [if_pos hE]
 unfold dyC dyB dyA
 rw [hp,hp2]
theorem fi01 {p:Tr} {l:List Ho} {t:Tr} (h:chE p l=0):fiE p l t=0∨fiE p l t=1:=by
 unfold fiE
 rw [if_neg (by rw [h];decide)]
 split
 ·exact .inr rfl
 ·exact .inl rfl
theorem re01z {p:Tr} {l:List Ho} {ws:List Tr} (h:chE p l=0):reE p l ws=0∨reE p l ws=1:=by
 unfold reE
 rw [if_neg (by rw [h];decide)]
 split
 ·exact .inr rfl
 ·exact .inl rfl
theorem qQe {p:Tr} {l:List Ho} {ws:List Tr} {i o:Tr} (h0:chE p l=0):dyE p l i ws o=0∨dyE p l i ws o=1:=by
 rcases fi01 (t:=i) h0 with e1|e1
 ·have hp:(fiR p l i).p=p:=by rw [fE e1];rfl
  have o1:chE p (fiR p l i).l=0:=by
   rw [fE e1];exact chE_ok.2 ((chE_ok.1 h0).fi (fT (lF e1).2))
  rcases re01z (ws:=ws) o1 with e2|e2
  ·have hp2:(reR p (fiR p l i).l ws).p=p:=by rw [iL e2];rfl
   have o2:chE p (reR p (fiR p l i).l ws).l=0:=by
    obtain ⟨h1,h2,h3⟩:=gE e2;rw [iL e2];exact chE_ok.2 (h1.ta (fun k hk=>(mM h1 h3 h2 hk).1) (fun k hk=>(mM h1 h3 h2 hk).2) 0)
   have h9:dyE p l i ws o=fiE p (reR p (fiR p l i).l ws).l o:=by
    unfold dyE dyB dyA
    rw [if_neg (by rw [e1];decide),hp,if_neg (by rw [e2];decide),hp2]
   rw [h9];exact fi01 o2
  ·refine .inr ?_
   unfold dyE dyA
   rw [if_neg (by rw [e1];decide),hp,if_pos (by rw [e2];decide),e2]
 ·refine .inr ?_
  unfold dyE
  rw [if_pos (by rw [e1];decide),e1]
theorem wO (x:Rat):ri 1 * x=x:=by
 rw [show ri 1=1 by decide +kernel,Rat.one_mul]
theorem wP (c x:Rat):c+ri (-1) * x=c-x:=by
 rw [show ri (-1)=-1 by decide +kernel]
 grind
theorem oD {n:Nat} {f:Nat→Rat} {B:Nat} (h:∀ k,k<n→szR (f k) B) (hB:1≤B) (k:Nat):szR (yq (ptl n f) k) B:=by
 rcases Nat.lt_or_ge k n with hk|hk
 ·rw [eE _ hk]
  exact h k hk
 ·rw [qVw (by rw [bX];exact hk)]
  exact szR_zero.mono (by omega)
theorem sm8 {n:Nat} {f:Nat→Rat} {B D:Nat} (hf:∀ k,k<n→szR (f k) B) (hn:n≤8) (hD:8 * (B+1)+1≤D):szR (sm n f) D:=by
 refine (iJ hf).mono ?_;have:=Nat.mul_le_mul_right (B+1) hn
 omega
structure St3 (P:Rat) (l:List Ho) (ws:List Tr) (a b:Rat) (da db dc:Pd):Prop where
 o0:Okp (tr P) l
 na:0≤a
 nb:0≤b
 n8:l.length≤8
 s0:Szp l 12
 p0:tz (tr P).2.1 (tr P).2.2 12
 az:szR a 12
 bz:szR b 12
 wz:∀ k,tz (xt ws k).2.1 (xt ws k).2.2 12
 wf:∀ k,k<ws.length→fnT (xt ws k)=true
 wl:ws.length=l.length
 ea:da=fiD (tr P) l a
 eb:db=taD (tr P) da.l (reF da.l ws) 0
 ec:dc=taD (tr P) db.l (loF db.l b) (b-bP b (thr db.l))
section
variable {P a b:Rat} {l:List Ho} {ws:List Tr} {da db dc:Pd} (h:St3 P l ws a b da db dc) {k:Nat}
include h
theorem St3.la:da.l.length=l.length:=by rw [h.ea];exact fU _ _ _
theorem St3.lb:db.l.length=l.length:=by rw [h.eb,mF,h.la]
theorem St3.lc:dc.l.length=l.length:=by rw [h.ec,mF,h.lb]
theorem St3.pa:da.p=tr P:=by rw [h.ea];rfl
theorem St3.pb:db.p=tr P:=by rw [h.eb];rfl
theorem St3.pc:dc.p=tr P:=by rw [h.ec];rfl
theorem St3.oa:Okp (tr P) da.l:=by rw [h.ea];exact h.o0.fi h.na
theorem St3.rb (hk:k<da.l.length):0≤reF da.l ws k∧reF da.l ws k≤ct da.l k:=mM h.oa h.wf (by rw [h.wl,h.la]) hk
theorem St3.ob:Okp (tr P) db.l:=by rw [h.eb];exact h.oa.ta (fun k hk=>(h.rb hk).1) (fun k hk=>(h.rb hk).2) 0
theorem St3.oc:Okp (tr P) dc.l:=by rw [h.ec];exact h.ob.ta (fun k hk=>(sS h.ob h.nb hk).1) (fun k hk=>(sS h.ob h.nb hk).2) _
theorem St3.qa:da.q=ptl l.length (pou l (gn (tr P) l a)):=by rw [h.ea];rfl
theorem St3.qb:db.q=ptl l.length (reF da.l ws):=by rw [h.eb,← h.la];rfl
theorem St3.qc:dc.q=ptl l.length (loF db.l b):=by rw [h.ec,← h.lb];rfl
theorem St3.qal:da.q.length=l.length:=by rw [h.qa,bX]
theorem St3.qbl:db.q.length=l.length:=by rw [h.qb,bX]
theorem St3.qcl:dc.q.length=l.length:=by rw [h.qc,bX]
theorem St3.pz (hk:k<l.length):szR (pou l (gn (tr P) l a) k) 460:=h.o0.psz h.na h.n8 h.s0 h.p0 (by decide) (C:=118) (h.az.mono (by decide)) (by decide) hk
theorem St3.za:Szp da.l 473:=by
 rw [h.ea];exact (h.o0.fsz h.na h.n8 h.s0 h.p0 (by decide) (C:=118) (h.az.mono (by decide)) (by decide)).mono (by decide)
theorem St3.rz (k:Nat):szR (reF da.l ws k) 473:=sA h.za (by decide) (fun k=>(h.wz k).mono (by decide)) k
theorem St3.zb:Szp db.l 947:=by
 rw [h.eb];exact (qJ 0 h.za (by decide) (C:=473) (fun k _=>h.rz k)).mono (by decide)
theorem St3.lz (k:Nat):szR (loF db.l b k) 16117:=(sR h.zb (by decide) (by rw [h.lb];exact h.n8) (h.bz.mono (by decide)) k).mono (by decide)
theorem St3.zc:Szp dc.l 17065:=by
 rw [h.ec];exact (qJ _ h.zb (by decide) (C:=16117) (fun k _=>h.lz k)).mono (by decide)
theorem St3.ya (k:Nat):szR (yq da.q k) 460:=by rw [h.qa];exact oD (fun k hk=>h.pz hk) (by decide) k
theorem St3.yb (k:Nat):szR (yq db.q k) 473:=by rw [h.qb];exact oD (fun k _=>h.rz k) (by decide) k
theorem St3.yc (k:Nat):szR (yq dc.q k) 16117:=by rw [h.qc];exact oD (fun k _=>h.lz k) (by decide) k
theorem St3.ma (hk:k<l.length):ho da.l k=⟨tr (ct l k+ri 1 * yq da.q k),tr (mx l k),tr (sr l k)⟩:=by
 rw [h.qa,eE _ hk,wO,h.ea,qVj h.o0 hk]
theorem St3.mb (hk:k<da.l.length):ho db.l k=⟨tr (ct da.l k+ri (-1) * yq db.q k),tr (mx da.l k),tr (sr da.l k)⟩:=by
 rw [h.qb,eE _ (by rw [← h.la];exact hk),wP,h.eb,qVi h.oa _ _ hk]
theorem St3.mc (hk:k<db.l.length):ho dc.l k=⟨tr (ct db.l k+ri (-1) * yq dc.q k),tr (mx db.l k),tr (sr db.l k)⟩:=by
 rw [h.qc,eE _ (by rw [← h.lb];exact hk),wP,h.ec,qVi h.ob _ _ hk]
theorem St3.sum:thr l+a=cK [tr (thr dc.l),tr (cK (db.q.map tr)),tr (cK (dc.q.map tr)),tr da.r]:=by
 have e:=qQm h.o0 ws a b 0 (b-bP b (thr db.l));rw [← h.ea,← h.eb,← h.ec] at e;rw [h.qb,h.qc,iW,iW]
 show _=0+trq (tr _)+trq (tr _)+trq (tr _)+trq (tr _)
 rw [cF,cF,cF,cF,Rat.zero_add];exact e.symm
theorem St3.rc:dc.r=b-bP b (thr db.l):=by rw [h.ec];rfl
theorem St3.los:cK (dc.q.map tr)+dc.r=b:=by
 rw [h.qc,iW,← h.lb,tY h.ob h.nb,h.rc]
 grind
theorem St3.dry (h0:dc.r≠0):thr dc.l=0:=by
 rw [h.rc] at h0;rw [h.ec];exact xO h.ob h.nb h0
theorem St3.ra:da.r=a-sm l.length (pou l (gn (tr P) l a)):=by rw [h.ea];rfl
theorem St3.ran:0≤da.r:=by
 have h1:=h.o0.psa h.na;rw [h.ra]
 grind
theorem St3.rcn:0≤dc.r:=by
 have h1:=xF b (thr db.l);rw [h.rc]
 grind
theorem St3.rbz:db.r=0:=by rw [h.eb];rfl
theorem St3.na' (hk:k<l.length):0≤yq da.q k:=by rw [h.qa,eE _ hk];exact h.o0.pnn h.na hk
theorem St3.nb' (hk:k<l.length):0≤yq db.q k:=by rw [h.qb,eE _ hk];exact (h.rb (by rw [h.la];exact hk)).1
theorem St3.nc' (hk:k<l.length):0≤yq dc.q k:=by rw [h.qc,eE _ hk];exact (sS h.ob h.nb (by rw [h.lb];exact hk)).1
theorem St3.le (hk:k<l.length):yq db.q k≤trq (xt ws k):=by rw [h.qb,eE _ hk];exact xF _ _
theorem St3.dr (hk:k<l.length) (h1:yq db.q k<trq (xt ws k)):ct db.l k=0:=by
 rw [h.qb,eE _ hk] at h1;rw [h.eb,show ct (taD (tr P) da.l (reF da.l ws) 0).l k=ct da.l k-reF da.l ws k from pS da.l _ (by rw [h.la];exact hk)];exact qYa h1
theorem St3.tz:szR (thr l) 200:=(h.s0.thr (by decide) h.n8).mono (by decide)
theorem St3.tcz:szR (thr dc.l) 140000:=(h.zc.thr (by decide) (by rw [h.lc];exact h.n8)).mono (by decide)
theorem St3.sbz:szR (cK (db.q.map tr)) 4000:=by rw [h.qb,iW];exact sm8 (fun k _=>h.rz k) h.n8 (by decide)
theorem St3.scz:szR (cK (dc.q.map tr)) 140000:=by rw [h.qc,iW];exact sm8 (fun k _=>h.lz k) h.n8 (by decide)
theorem St3.raz:szR da.r 5000:=by rw [h.ra];exact (cX h.az (sm8 (D:=3700) (fun k hk=>h.pz hk) h.n8 (by decide))).mono (by decide)
theorem St3.rcz:szR dc.r 8000:=by rw [h.rc];exact (cX h.bz (gL (C:=7585) h.bz (h.zb.thr (by decide) (by rw [h.lb];exact h.n8)) (by decide) (by decide))).mono (by decide)
theorem St3.toL:toV (tr P) l=thr l:=by
 unfold toV
 rw [if_pos (chE_ok.2 h.o0)]
theorem St3.toC:toV (tr P) dc.l=thr dc.l:=by
 unfold toV
 rw [if_pos (chE_ok.2 h.oc)]
end
structure Cao (P:Rat) (l:List Ho) (y:Rat) (dx:Pd):Prop where
 o0:Okp (tr P) l
 ny:0≤y
 n8:l.length≤8
 s0:Szp l 12
 p0:tz (tr P).2.1 (tr P).2.2 12
 yz:szR y 12
 ex:dx=caD (tr P) l y
section
variable {P y:Rat} {l:List Ho} {dx:Pd} (h:Cao P l y dx) {k:Nat}
include h
theorem Cao.px:dx.p=tr P:=by rw [h.ex];rfl
theorem Cao.lx:dx.l.length=l.length:=by
 rw [h.ex];exact (fU _ _ _).trans (eR _ _)
theorem Cao.qx:dx.q=ptl l.length fun k=>pou (caL l y) (gn (tr P) (caL l y) (sm l.length (caF l y))) k-caF l y k:=by rw [h.ex];rfl
theorem Cao.qxl:dx.q.length=l.length:=by rw [h.qx,bX]
theorem Cao.ox:Okp (tr P) dx.l:=by rw [h.ex];exact h.o0.caD h.ny
theorem Cao.mx (hk:k<l.length):ho dx.l k=⟨tr (ct l k+ri 1 * yq dx.q k),tr (Go.Proofs.YtnfpenhldlfafaaGreatDoor.mx l k),tr (sr l k)⟩:=by
 rw [h.qx,eE _ hk,wO,h.ex,ho_ca h.o0 h.ny hk]
theorem Cao.fz (k:Nat):szR (caF l y k) 37:=(tI h.s0 (by decide) h.yz k).mono (by decide)
theorem Cao.cz:Szp (caL l y) 50:=(qJ (p:=tr P) 0 h.s0 (by decide) (C:=37) (fun k _=>h.fz k)).mono (by decide)
theorem Cao.sz:szR (sm l.length (caF l y)) 460:=sm8 (fun k _=>h.fz k) h.n8 (by decide)
theorem Cao.c8:(caL l y).length≤8:=by rw [eR];exact h.n8
theorem Cao.pz (hk:k<l.length):szR (pou (caL l y) (gn (tr P) (caL l y) (sm l.length (caF l y))) k) 1790:=((h.o0.ca h.ny).psz (kQ h.o0 h.ny) h.c8 h.cz (h.p0.mono (by decide)) (by decide) (C:=460) h.sz (by decide) (by rw [eR];exact hk)).mono (by decide)
theorem Cao.zx:Szp dx.l 1841:=by
 rw [h.ex];exact ((h.o0.ca h.ny).fsz (kQ h.o0 h.ny) h.c8 h.cz (h.p0.mono (by decide)) (by decide) (C:=460) h.sz (by decide)).mono (by decide)
theorem Cao.yx (k:Nat):szR (yq dx.q k) 1828:=by
 rw [h.qx];exact oD (fun k hk=>(cX (h.pz hk) (h.fz k)).mono (by decide)) (by decide) k
theorem Cao.sum:thr dx.l+dx.r=thr l:=by rw [h.ex];exact qZg h.o0 h.ny
theorem Cao.rn:0≤dx.r:=by rw [h.ex];exact qZh h.o0 h.ny
theorem Cao.tz:szR (thr dx.l) 15000:=(h.zx.thr (by decide) (by rw [h.lx];exact h.n8)).mono (by decide)
theorem Cao.rz:szR dx.r 15200:=by
 rw [h.ex];refine (cX h.sz (sm8 (D:=14400) (fun k hk=>h.pz (by rw [← eR l y];exact hk)) h.c8 (by decide))).mono (by decide)
theorem Cao.toX:toV (tr P) dx.l=thr dx.l:=by
 unfold toV
 rw [if_pos (chE_ok.2 h.ox)]
end
theorem qZf {P:Rat} {l:List Ho} {t:Tr} {dx:Pd} (o0:Okp (tr P) l) (n8:l.length≤8) (s0:Szp l 12) (p0:tz (tr P).2.1 (tr P).2.2 12) (ht:tz t.2.1 t.2.2 12) (hE:caE (tr P) l t=0) (hd:caR (tr P) l t=dx):Cao P l (trq t) dx:=by
 have h9:=hE
 unfold caE at h9
 rw [if_neg (by rw [chE_ok.2 o0];decide)] at h9
 have hv:vd t.1 t.2.1 t.2.2=true:=by
  cases hv:vd t.1 t.2.1 t.2.2 with
  | true=>rfl
  | false =>
   rw [if_pos hv] at h9;exact absurd h9 (by decide)
 rw [if_neg (by rw [hv];decide)] at h9
 have ht0:t.1=false:=by
  cases ht0:t.1 with
  | false=>rfl
  | true =>
   rw [if_pos (.inl ht0)] at h9;exact absurd h9 (by decide)
 exact ⟨o0,fT (fnT_t.2 ⟨ht0,hv⟩),n8,s0,p0,cV rfl ht (by decide),by rw [← hd];unfold caR;rw [if_pos hE]⟩
end Go.Proofs.YtnfpenhldlfafaaGreatDoor

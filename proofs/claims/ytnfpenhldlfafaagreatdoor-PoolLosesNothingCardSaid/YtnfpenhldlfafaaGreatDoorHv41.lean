/- reservoir: contracts over values. -/
import Derived.Test.YtnfpenhldlfafaaGreatDoorHg41
set_option linter.unusedSimpArgs false
set_option linter.unusedVariables false
set_option maxRecDepth 100000
set_option maxHeartbeats 1600000
namespace Go.Proofs.YtnfpenhldlfafaaGreatDoor
open Go.RowKit
theorem sC {l:List Ho} {n:Nat} (hl:l.length=n) (hs:Hs l.length (rmh l) (sr l)) {M u left:Rat} {L:List Rat} (h0:0≤u) (h1:∀ k,k<n→yq L k=lv (rmh l) (sr l) u k) (h2:0≤left) (h3:left+sm n (yq L)=M) (h4:left≠0→∀ k,k<n→sr l k≠0→yq L k=rmh l k):∀ k,k<n→pou l M k=yq L k:=by
 subst hl
 exact fun k hk=>(oT hs ⟨⟨u,h0,h1⟩,h2,h3,h4⟩ k hk).symm
theorem uG {p:Tr} {l:List Ho} {a M:Rat} {L:List Rat} {n:Nat} (hl:l.length=n) (hg:gn p l a=M) (h:∀ k,k<n→pou l M k=yq L k) (hL:L.length=n):fiD p l a=⟨p,stc l fun k=>ct l k+yq L k,L,a-sm n (yq L)⟩:=by
 subst hl hg
 have e1:(stc l fun k=>ct l k+pou l (gn p l a) k)=stc l fun k=>ct l k+yq L k:=kX fun k hk=>by rw [h k hk]
 have e2:ptl l.length (pou l (gn p l a))=L:=vW (by rw [bX,hL]) fun k hk=>by
  rw [bX] at hk;rw [eE _ hk,h k hk]
 have e3:sm l.length (pou l (gn p l a))=sm l.length (yq L):=cP h
 unfold fiD
 rw [e1,e2,e3]
abbrev exP:Tr:=tr (ri 100)
def exB:List Ho:=[⟨tr (ri 21),tr (ri 20),tr (ri 1)⟩,⟨tr (ri 0),tr (ri 50),tr (ri 2)⟩,⟨tr (ri 30),tr (ri 60),tr (ri 1)⟩]
def qA:List Rat:=[ri 5,ri 10,ri 5]
def qB:List Rat:=[ri 10,rk 100 3,rk 50 3]
def qD:List Rat:=[ri 4,ri 0,ri 30]
def qX:List Rat:=[ri 2,ri 0,ri 6]
def qY:List Rat:=[ri 10,ri 0,ri 30]
def qZ:List Rat:=[ri 0,ri 10,ri (-10)]
def qG:List Rat:=[ri 0,ri 10,ri 0]
def wD:List Rat:=[ri 4,ri 4,ri 40]
def nA:List Ho:=[⟨tr (ri 15),tr (ri 20),tr (ri 1)⟩,⟨tr (ri 10),tr (ri 50),tr (ri 2)⟩,⟨tr (ri 35),tr (ri 60),tr (ri 1)⟩]
def nN:List Ho:=[⟨tr (rk 27 2),tr (ri 20),tr (ri 1)⟩,⟨tr (ri 0),tr (ri 50),tr (ri 2)⟩,⟨tr (rk 63 2),tr (ri 60),tr (ri 1)⟩]
theorem tA:chE exP exL=0:=by decide +kernel
theorem qYy:chE exP exB=30:=by decide +kernel
theorem ex_okp:Okp exP exL:=chE_ok.1 tA
theorem qYx:toV exP exL=ri 40:=by decide +kernel
theorem yM:fiE exP exL (tr (ri 20))=0:=by decide +kernel
theorem qVq:fiE exP exL (tr (ri 60))=0:=by decide +kernel
theorem qVp:fiE exP exL (tr (ri 80))=0:=by decide +kernel
theorem ex_pA:∀ k,k<3→pou exL (ri 20) k=yq qA k:=sC rfl ex_okp.holds (u:=ri 5) (left:=0) (by decide +kernel) (by decide +kernel) (by decide) (by decide +kernel) (fun h=>absurd rfl h)
theorem qVm:∀ k,k<3→pou exL (ri 60) k=yq qB k:=sC rfl ex_okp.holds (u:=rk 50 3) (left:=0) (by decide +kernel) (by decide +kernel) (by decide) (by decide +kernel) (fun h=>absurd rfl h)
theorem uH:fiR exP exL (tr (ri 20))=⟨exP,nA,qA,ri 0⟩:=by
 unfold fiR
 rw [if_pos yM,cF,uG rfl (show gn exP exL (ri 20)=ri 20 by decide +kernel) ex_pA rfl,show (stc exL fun k=>ct exL k+yq qA k)=nA by decide +kernel,show ri 20-sm exL.length (yq qA)=ri 0 by decide +kernel]
theorem ex_fB:(fiR exP exL (tr (ri 60))).q=qB∧(fiR exP exL (tr (ri 60))).r=ri 0:=by
 unfold fiR
 rw [if_pos qVq,cF,uG rfl (show gn exP exL (ri 60)=ri 60 by decide +kernel) qVm rfl];exact ⟨rfl,by decide +kernel⟩
theorem ex_fC:(fiR exP exL (tr (ri 80))).q=qB∧(fiR exP exL (tr (ri 80))).r=ri 20:=by
 unfold fiR
 rw [if_pos qVp,cF,uG rfl (show gn exP exL (ri 80)=ri 60 by decide +kernel) qVm rfl];exact ⟨rfl,by decide +kernel⟩
theorem ex_eD:reE exP exL (wD.map tr)=0:=by decide +kernel
theorem ex_fD:(reR exP exL (wD.map tr)).q=qD∧(reR exP exL (wD.map tr)).r=ri 0:=⟨by decide +kernel,by decide +kernel⟩
theorem ex_eX:fiE exP exL (tr (ri 8))=0:=by decide +kernel
theorem ex_fX:(loR exP exL (tr (ri 8))).q=qX∧(loR exP exL (tr (ri 8))).r=ri 0:=⟨by decide +kernel,by decide +kernel⟩
theorem ex_eY:fiE exP exL (tr (ri 50))=0:=by decide +kernel
theorem ex_fY:(loR exP exL (tr (ri 50))).q=qY∧(loR exP exL (tr (ri 50))).r=ri 10:=⟨by decide +kernel,by decide +kernel⟩
theorem qVn:caE exP exL (tr (rk 1 4))=0:=by decide +kernel
theorem ex_oZ:Okp exP (caL exL (rk 1 4)):=ex_okp.ca (by decide +kernel)
theorem qVl:∀ k,k<3→pou (caL exL (rk 1 4)) (ri 20) k=yq qA k:=sC rfl ex_oZ.holds (u:=ri 5) (left:=0) (by decide +kernel) (by decide +kernel) (by decide) (by decide +kernel) (fun h=>absurd rfl h)
theorem ex_fZ:(caR exP exL (tr (rk 1 4))).q=qZ∧(caR exP exL (tr (rk 1 4))).r=ri 0:=by
 have hg:gn exP (caL exL (rk 1 4)) (sm exL.length (caF exL (rk 1 4)))=ri 20:=by decide +kernel
 have hf:=uG (p:=exP) (a:=sm exL.length (caF exL (rk 1 4))) rfl hg qVl rfl
 unfold caR
 rw [if_pos qVn,cF];refine ⟨?_,?_⟩
 ·show ptl exL.length (fun k=>pou (caL exL (rk 1 4)) (gn exP (caL exL (rk 1 4)) (sm exL.length (caF exL (rk 1 4)))) k-caF exL (rk 1 4) k)=qZ
  rw [hg,eV (g:=fun k=>yq qA k-caF exL (rk 1 4) k) (fun k hk=>by rw [qVl k hk])]
  decide +kernel
 ·show (fiD exP (caL exL (rk 1 4)) (sm exL.length (caF exL (rk 1 4)))).r=ri 0
  rw [hf]
  decide +kernel
theorem ex_eV:caE exP exL (tr (rk 5 4))=3:=by decide +kernel
theorem qVo:dyE exP exL (tr (ri 20)) (qG.map tr) (tr (ri 5))=0:=by
 unfold dyE dyB dyA
 rw [uH,yM]
 decide +kernel
theorem ex_fN:(dyR exP exL (tr (ri 20)) (qG.map tr) (tr (ri 5))).l=nN∧(dyR exP exL (tr (ri 20)) (qG.map tr) (tr (ri 5))).giv=qG:=by
 unfold dyR
 rw [if_pos qVo]
 unfold dyC dyB dyA
 rw [uH];exact ⟨by decide +kernel,by decide +kernel⟩
def szB (l:List Ho) (B:Nat):Bool:=l.all fun x=>few x.c.2.1 x.c.2.2 B && (few x.m.2.1 x.m.2.2 B && few x.s.2.1 x.s.2.2 B)
theorem qQq {l:List Ho} {B:Nat} (h:szB l B=true):Szp l B:=by
 have key:∀ k,k<l.length→few (ho l k).c.2.1 (ho l k).c.2.2 B=true∧few (ho l k).m.2.1 (ho l k).m.2.2 B=true∧few (ho l k).s.2.1 (ho l k).s.2.2 B=true:=fun k hk=>by
  rw [gS hk];have h9:=List.all_eq_true.1 h _ (List.getElem_mem hk);simp only [Bool.and_eq_true] at h9;exact ⟨h9.1,h9.2.1,h9.2.2⟩
 refine ⟨fun k=>?_,fun k=>?_,fun k=>?_⟩ <;> rcases Nat.lt_or_ge k l.length with hk|hk
 ·exact pQ (key k hk).1
 ·rw [mZ hk]
  exact dK
 ·exact pQ (key k hk).2.1
 ·rw [mZ hk]
  exact dK
 ·exact pQ (key k hk).2.2
 ·rw [mZ hk]
  exact dK
theorem mG:Szp exL 12:=qQq (by decide +kernel)
theorem szXB:Szp exB 12:=qQq (by decide +kernel)
theorem ckH (p:Tr) (v:Value) (l:List Ho) (w:World) (hv:Hl l v w) (hs:Hid (Szp l 40000)) (hp:tz p.2.1 p.2.2 1000000) {E:Int} (hE:chE p l=E):Calls Tryz.prog 21 #[.agg #[.bool p.1,vS p.2.1,vS p.2.2,v]] w fun e w'=>e=.returned (vI E)∧Since w w':=by
 subst hE;exact iU p v l w hv hs hp
theorem toH (p:Tr) (v:Value) (l:List Ho) (w:World) (hv:Hl l v w) (hs:Hid (Szp l 40000)) (hp:tz p.2.1 p.2.2 1000000) {V:Rat} {E:Int} (hV:toV p l=V) (hE:chE p l=E):Calls Tryz.prog 9 #[.agg #[.bool p.1,vS p.2.1,vS p.2.2,v]] w fun e w'=>e=.returned (.tuple #[rbv V,vI E])∧Since w w':=by
 subst hV hE;exact wB p v l w hv hs hp
theorem ltH (p:Tr) (v:Value) (l:List Ho) (w:World) (hv:Hl l v w) (hs:Hid (Szp l 40000)) (hp:tz p.2.1 p.2.2 1000000) {V:Rat} (hV:toV p l=V):Calls Tryz.prog 27 #[.agg #[.bool p.1,vS p.2.1,vS p.2.2,v]] w fun e w'=>e=.returned (rbv V)∧Since w w':=by
 subst hV;exact ltoC p v l w hv hs hp
theorem fiH (p:Tr) (v:Value) (l:List Ho) (t:Tr) (w:World) (hv:Hl l v w) (hs:Hid (Szp l 1000)) (hp:tz p.2.1 p.2.2 1000) (hn:l.length≤8∨20<l.length) (ht:tz t.2.1 t.2.2 1000) {D:Pd} {E:Int} (hD:fiR p l t=D) (hE:fiE p l t=E):Calls Tryz.prog 11 #[.agg #[.bool p.1,vS p.2.1,vS p.2.2,v],.agg #[.bool t.1,vS t.2.1,vS t.2.2]] w fun e w'=>∃ u,e=.returned u∧Tp (Pow 0 D) E u w'∧Since w w':=by
 subst hD hE
 exact (filC p v l t w hv hs hp hn ht).mono fun e X' ⟨u,h1,h2,h3⟩=>⟨u,h1,Tp.map h2 (fun _ h=>h.low (Nat.zero_le _)),h3⟩
theorem loH (p:Tr) (v:Value) (l:List Ho) (t:Tr) (w:World) (hv:Hl l v w) (hs:Hid (Szp l 1000)) (hp:tz p.2.1 p.2.2 1000) (hn:l.length≤8∨20<l.length) (ht:tz t.2.1 t.2.2 1000) {D:Pd} {E:Int} (hD:loR p l t=D) (hE:fiE p l t=E):Calls Tryz.prog 15 #[.agg #[.bool p.1,vS p.2.1,vS p.2.2,v],.agg #[.bool t.1,vS t.2.1,vS t.2.2]] w fun e w'=>∃ u,e=.returned u∧Tp (Pow 0 D) E u w'∧Since w w':=by
 subst hD hE
 exact (losC p v l t w hv hs hp hn ht).mono fun e X' ⟨u,h1,h2,h3⟩=>⟨u,h1,Tp.map h2 (fun _ h=>h.low (Nat.zero_le _)),h3⟩
theorem caH (p:Tr) (v:Value) (l:List Ho) (t:Tr) (w:World) (hv:Hl l v w) (hs:Hid (Szp l 100)) (hp:tz p.2.1 p.2.2 1000) (hn:l.length≤8∨20<l.length) (ht:tz t.2.1 t.2.2 100) {D:Pd} {E:Int} (hD:caR p l t=D) (hE:caE p l t=E):Calls Tryz.prog 17 #[.agg #[.bool p.1,vS p.2.1,vS p.2.2,v],.agg #[.bool t.1,vS t.2.1,vS t.2.2]] w fun e w'=>∃ u,e=.returned u∧Tp (Pow 0 D) E u w'∧Since w w':=by
 subst hD hE
 exact (carC p v l t w hv hs hp hn ht).mono fun e X' ⟨u,h1,h2,h3⟩=>⟨u,h1,Tp.map h2 (fun _ h=>h.low (Nat.zero_le _)),h3⟩
theorem reH (p:Tr) (v vw:Value) (l:List Ho) (ws:List Tr) (w:World) (hv:Hl l v w) (hw:Rl ws vw w) (hs:Hid (Szp l 1000)) (hp:tz p.2.1 p.2.2 1000) (hn:l.length≤8∨20<l.length) (hws:Hid (∀ k,tz (xt ws k).2.1 (xt ws k).2.2 1000)) {D:Pd} {E:Int} (hD:reR p l ws=D) (hE:reE p l ws=E):Calls Tryz.prog 13 #[.agg #[.bool p.1,vS p.2.1,vS p.2.2,v],vw] w fun e w'=>∃ u,e=.returned u∧Tp (Pow 0 D) E u w'∧Since w w':=by
 subst hD hE
 exact (relC p v vw l ws w hv hs hp hw hws hn).mono fun e X' ⟨u,h1,h2,h3⟩=>⟨u,h1,Tp.map h2 (fun _ h=>h.low (Nat.zero_le _)),h3⟩
theorem daH (p:Tr) (v vw:Value) (l:List Ho) (ws:List Tr) (i o:Tr) (w:World) (hv:Hl l v w) (hw:Rl ws vw w) (hs:Hid (Szp l 12)) (hp:tz p.2.1 p.2.2 12) (hn:l.length≤8∨20<l.length) (hi:tz i.2.1 i.2.2 12) (hws:Hid (∀ k,tz (xt ws k).2.1 (xt ws k).2.2 12)) (ho:tz o.2.1 o.2.2 12) {D:Ng} {E:Int} (hD:dyR p l i ws o=D) (hE:dyE p l i ws o=E):Calls Tryz.prog 19 #[.agg #[.bool p.1,vS p.2.1,vS p.2.2,v],.agg #[.bool i.1,vS i.2.1,vS i.2.2,vw,.bool o.1,vS o.2.1,vS o.2.2]] w fun e w'=>∃ u,e=.returned u∧Tp (Nv D) E u w'∧Since w w':=by
 subst hD hE;exact dayC p v vw l ws i o w hv hw hs hp hn hi hws ho
theorem iP {L:List Int} (h:(L.all eA)=true):Hid (∀ k,eA (wt L k)=true):=fun k=>by
 rcases Nat.lt_or_ge k L.length with hk|hk
 ·rw [vY hk]
  exact List.all_eq_true.1 h _ (List.getElem_mem hk)
 ·unfold wt
  rw [List.getD_eq_getElem?_getD,List.getElem?_eq_none hk]
  decide
theorem qQo {ws:List Tr} {B C:Nat} (h:∀ k,tz (xt ws k).2.1 (xt ws k).2.2 B) (hB:B≤C):Hid (∀ k,tz (xt ws k).2.1 (xt ws k).2.2 C):=fun k=>(h k).mono hB
end Go.Proofs.YtnfpenhldlfafaaGreatDoor

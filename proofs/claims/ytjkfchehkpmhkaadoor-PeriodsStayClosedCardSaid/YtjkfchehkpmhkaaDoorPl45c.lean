/- Layer 45: plain words of the periods: steps one after the ot -/
import Derived.Test.YtjkfchehkpmhkaaDoorPl45b
set_option linter.unusedSimpArgs false
set_option linter.unusedVariables false
set_option maxRecDepth 100000
set_option maxHeartbeats 1600000
namespace Go.Proofs.YtjkfchehkpmhkaaDoor
structure Stp where
 q:Stg
 cl:Bool
instance:Inhabited Stp:=⟨⟨⟨0,0,0,(false,[],[]),0,0,0,0⟩,false⟩⟩
def sp (ss:List Stp) (k:Nat):Stp:=ss.getD k default
theorem iL {ss:List Stp} {k:Nat} (h:k<ss.length):sp ss k=ss[k]:=by
 unfold sp
 rw [List.getD_eq_getElem?_getD,List.getElem?_eq_getElem h]
 rfl
def stp (c:Int) (S:List En×List Cg) (s:Stp):List En×List Cg :=
 if s.cl=true then (if cQ c S.1 S.2 s.q.day=0 then (S.1,dL c S.1 S.2 s.q.day) else S)
 else if bN c S.1 S.2 s.q=0 then (bT c S.1 S.2 s.q,S.2) else S
def rn (c:Int) (S:List En×List Cg) (ss:List Stp):List En×List Cg:=ss.foldl (stp c) S
theorem lY (c:Int) (S:List En×List Cg) (s:Stp) (r:List Stp):rn c S (s :: r)=rn c (stp c S s) r:=rfl
theorem vQg (c:Int) (S:List En×List Cg) (r:List Stp) (s:Stp):rn c S (r++[s])=stp c (rn c S r) s:=by
 unfold rn
 rw [List.foldl_append]
 rfl
theorem xP (c:Int) (S:List En×List Cg) {ss:List Stp} {k:Nat} (h:k<ss.length):rn c S (ss.take (k+1))=stp c (rn c S (ss.take k)) (sp ss k):=by
 rw [← vQg,List.take_add_one,List.getElem?_eq_getElem h,iL h]
 rfl
structure In45 (c:Int) (S:List En×List Cg) (m:Nat):Prop where
 ok:Ok45 c S.1 S.2
 sz:∀ k,tz (en S.1 k).am.2.1 (en S.1 k).am.2.2 40
 kn:∀ p a,1<a→szR (knw S.1 p a 14609) 12
 ln:S.1.length≤m
 cn:S.2.length≤m
theorem In45.mono {c:Int} {S:List En×List Cg} {m m':Nat} (h:In45 c S m) (hm:m≤m'):In45 c S m':=⟨h.ok,h.sz,h.kn,Nat.le_trans h.ln hm,Nat.le_trans h.cn hm⟩
theorem In45.new {c:Int} (h1:3≤c) (h2:c≤100):In45 c ([],[]) 0:=by
 refine ⟨⟨⟨by omega,h2,Nat.zero_le _,fun k hk=>absurd hk (Nat.not_lt_zero k)⟩,h1,Nat.zero_le _,fun k hk=>absurd hk (Nat.not_lt_zero k),fun k hk=>absurd hk (Nat.not_lt_zero k)⟩,fun k=>?_,fun p a _=>?_,Nat.le_refl _,Nat.le_refl _⟩
 ·exact lI
 ·exact szR_zero.mono (by decide)
theorem eT {c:Int} {l:List En} {cs:List Cg} (h:Ok45 c l cs) {q:Stg}:bN c l cs q=0↔vd q.am.1 q.am.2.1 q.am.2.2=true∧cY c q.pd q.ac q.day=0∧stl l cs q.day=false∧l.length≠4000:=by
 unfold bN
 rw [if_neg (fun h9=>h9 (peE_ok.2 h))]
 constructor
 ·intro h1
  split at h1
  ·cases h1
  ·rename_i h2
   split at h1
   ·rename_i h3
    exact absurd h1 h3
   ·rename_i h3
    split at h1
    ·cases h1
    ·rename_i h4
     split at h1
     ·cases h1
     ·rename_i h5
      exact ⟨by simpa using h2,Decidable.of_not_not h3,by simpa using h4,h5⟩
 ·rintro ⟨h1,h2,h3,h4⟩
  rw [if_neg (by rw [h1];decide),if_neg (fun h9=>h9 h2),if_neg (by rw [h3];decide),if_neg h4]
theorem yS {c:Int} {l:List En} {cs:List Cg} (h:Ok45 c l cs) {d:Int}:cQ c l cs d=0↔(0≤d∧d≤14609)∧stl l cs d=false∧cs.length≠4000:=by
 unfold cQ
 rw [if_neg (fun h9=>h9 (peE_ok.2 h))]
 constructor
 ·intro h1
  split at h1
  ·cases h1
  ·rename_i h2
   split at h1
   ·cases h1
   ·rename_i h3
    split at h1
    ·cases h1
    ·rename_i h4
     exact ⟨by omega,by simpa using h3,h4⟩
 ·rintro ⟨h1,h2,h3⟩
  rw [if_neg (by omega),if_neg (by rw [h2];decide),if_neg h3]
theorem vZn {l:List En} {q:Stg} (hq:tz q.am.2.1 q.am.2.2 12) (hk:szR (knw l q.pd q.ac 14609) 12):szR (mor l q) 25:=by
 unfold mor
 exact jA (iZ rfl hq) hk
theorem vQb (l:List En) (cs:List Cg) (q:Stg):(dE l cs q).am=tr (mor l q)∨(dE l cs q).am=tr (-(mor l q)):=by
 unfold dE
 split
 ·exact .inr rfl
 ·exact .inl rfl
theorem qZy {l:List En} {cs:List Cg} {q:Stg} {B:Nat} (h:szR (mor l q) B):tz (dE l cs q).am.2.1 (dE l cs q).am.2.2 B:=by
 rcases vQb l cs q with h1|h1
 ·rw [h1]
  exact tzR h (Nat.le_refl _)
 ·rw [h1]
  exact tzR (oK h) (Nat.le_refl _)
theorem vYk {l:List En} {x:En} {B:Nat} (h:∀ k,tz (en l k).am.2.1 (en l k).am.2.2 B) (hx:tz x.am.2.1 x.am.2.2 B) (k:Nat):tz (en (l++[x]) k).am.2.1 (en (l++[x]) k).am.2.2 B:=by
 rw [jH]
 split
 ·exact h k
 ·split
  ·exact hx
  ·exact lI
structure Stn (c:Int) (l:List En) (cs:List Cg) (q:Stg):Prop where
 v:vd q.am.1 q.am.2.1 q.am.2.2=true
 k:cY c q.pd q.ac q.day=0
 s:stl l cs q.day=false
 n:l.length≠4000
theorem In45.set {c:Int} {S:List En×List Cg} {m:Nat} (h:In45 c S m) (hm:m<4000) {q:Stg} (hq:tz q.am.2.1 q.am.2.2 12) (hE:bN c S.1 S.2 q=0):In45 c (bT c S.1 S.2 q,S.2) (m+1):=by
 obtain ⟨h1,h2,h3,h4⟩:=(eT h.ok).1 hE;obtain ⟨p0,p4,a1,a2,d0,d1⟩:=cK h2
 unfold bT
 rw [if_pos hE]
 by_cases hz:mor S.1 q=0
 ·rw [if_pos hz]
  exact h.mono (Nat.le_succ m)
 ·rw [if_neg hz]
  have hs:=vZn hq (h.kn q.pd q.ac a1);refine ⟨h.ok.set h2 h3 (by have:=h.ln;omega) hz,vYk h.sz ((qZy hs).mono (by decide)),fun p a ha=>?_,by rw [eX];have:=h.ln;omega,Nat.le_trans h.cn (Nat.le_succ m)⟩
  show szR (knw (S.1++[dE S.1 S.2 q]) p a 14609) 12
  by_cases h9:q.pd=p∧q.ac=a
  ·obtain ⟨rfl,rfl⟩:=h9
   rw [sV h2];exact iZ rfl hq
  ·rw [kB,iR _ _ _ _ _ _ ha a1,if_neg (fun h8=>h9 ⟨h8.1,h8.2.2⟩),Rat.add_zero]
   exact h.kn p a ha
theorem In45.close {c:Int} {S:List En×List Cg} {m:Nat} (h:In45 c S m) (hm:m<4000) {d:Int} (hE:cQ c S.1 S.2 d=0):In45 c (S.1,dL c S.1 S.2 d) (m+1):=by
 obtain ⟨h1,h2,h3⟩:=(yS h.ok).1 hE
 unfold dL
 rw [if_pos hE]
 exact ⟨h.ok.close h1 h2 (by have:=h.cn;omega),h.sz,h.kn,Nat.le_trans h.ln (Nat.le_succ m),by
  show (S.2++[_]).length≤m+1
  rw [List.length_append,List.length_singleton];have:=h.cn
  omega⟩
theorem In45.stp {c:Int} {S:List En×List Cg} {m:Nat} (h:In45 c S m) (hm:m<4000) {s:Stp} (hq:tz s.q.am.2.1 s.q.am.2.2 12):In45 c (stp c S s) (m+1):=by
 unfold Go.Proofs.YtjkfchehkpmhkaaDoor.stp
 split
 ·split
  ·rename_i h1
   exact h.close hm h1
  ·exact h.mono (Nat.le_succ m)
 ·split
  ·rename_i h1
   exact h.set hm hq h1
  ·exact h.mono (Nat.le_succ m)
theorem In45.rn {c:Int}:∀ {ss:List Stp} {S:List En×List Cg} {m:Nat},In45 c S m→m+ss.length≤4000→(∀ s∈ss,tz s.q.am.2.1 s.q.am.2.2 12)→In45 c (rn c S ss) (m+ss.length)
 | [],_,_,h,_,_=>h
 | s :: r,S,m,h,hm,hs=>by
  rw [List.length_cons] at hm ⊢;rw [lY,show m+(r.length+1)=m+1+r.length by omega]
  exact (h.stp (by omega) (hs s List.mem_cons_self)).rn (by omega) fun t ht=>hs t (List.mem_cons_of_mem _ ht)
theorem qVf {ss:List Stp} (h:∀ s∈ss,tz s.q.am.2.1 s.q.am.2.2 12) (k:Nat):tz (sp ss k).q.am.2.1 (sp ss k).q.am.2.2 12:=by
 rcases Nat.lt_or_ge k ss.length with h1|h1
 ·rw [iL h1]
  exact h _ (List.getElem_mem h1)
 ·unfold sp
  rw [List.getD_eq_getElem?_getD,List.getElem?_eq_none h1];exact lI
theorem In45.rnT {c:Int} {S:List En×List Cg} {m:Nat} (h:In45 c S m) {ss:List Stp} (hm:m+ss.length≤4000) (hs:∀ s∈ss,tz s.q.am.2.1 s.q.am.2.2 12) (k:Nat):In45 c (Go.Proofs.YtjkfchehkpmhkaaDoor.rn c S (ss.take k)) (m+ss.length) :=
 (h.rn (by rw [List.length_take];omega) fun s h9=>hs s (List.mem_of_mem_take h9)).mono (by rw [List.length_take];omega)
/-! ### what is later does not turn what was -/
theorem qVd {c:Int} {S:List En×List Cg} {m:Nat} (h:In45 c S m) {s:Stp} {p a d:Int} (hp:0≤p) (ha:1<a) (hd:d<s.q.day):knw (stp c S s).1 p a d=knw S.1 p a d∧frz (stp c S s).1 p a d=frz S.1 p a d∧eM (stp c S s).2 p d=eM S.2 p d:=by
 unfold stp
 split
 ·split
  ·rename_i hE
   refine ⟨rfl,rfl,?_⟩
   show eM (dL c S.1 S.2 s.q.day) p d=_
   unfold dL
   rw [if_pos hE]
   unfold eM
   rw [List.length_append,List.length_singleton]
   by_cases h1:p<S.2.length
   ·rw [decide_eq_true h1,decide_eq_true (show p<((S.2.length+1:Nat):Int) by omega),lA (by omega)]
   ·rw [decide_eq_false h1,Bool.false_and]
    by_cases h2:p=S.2.length
    ·rw [h2,Int.toNat_natCast,oW,decide_eq_false (show ¬ s.q.day≤d by omega),Bool.and_false]
    ·rw [decide_eq_false (show ¬ p<((S.2.length+1:Nat):Int) by omega),Bool.false_and]
  ·exact ⟨rfl,rfl,rfl⟩
 ·split
  ·rename_i hE
   obtain ⟨_,h2,_,_⟩:=(eT h.ok).1 hE;obtain ⟨_,_,a1,_,_,_⟩:=cK h2
   show knw (bT c S.1 S.2 s.q) p a d=_∧frz (bT c S.1 S.2 s.q) p a d=_∧_
   unfold bT
   rw [if_pos hE]
   split
   ·exact ⟨rfl,rfl,rfl⟩
   ·refine ⟨?_,?_,rfl⟩
    ·rw [kB,iR _ _ _ _ _ _ ha a1,if_neg (fun h9=>absurd h9.2.1 (by omega)),Rat.add_zero]
    ·rw [qG,nD _ _ _ _ _ _ ha a1,if_neg (fun h9=>absurd h9.2.1 (by omega)),Rat.add_zero]
  ·exact ⟨rfl,rfl,rfl⟩
theorem xR {c:Int} {p a d:Int} (hp:0≤p) (ha:1<a):∀ {ss:List Stp} {S:List En×List Cg} {m:Nat},In45 c S m→m+ss.length≤4000→(∀ s∈ss,tz s.q.am.2.1 s.q.am.2.2 12)→(∀ s∈ss,d<s.q.day)→knw (rn c S ss).1 p a d=knw S.1 p a d∧frz (rn c S ss).1 p a d=frz S.1 p a d∧eM (rn c S ss).2 p d=eM S.2 p d
 | [],_,_,_,_,_,_=>⟨rfl,rfl,rfl⟩
 | s :: r,S,m,h,hm,hs,hd=>by
  rw [List.length_cons] at hm;rw [lY];obtain ⟨e1,e2,e3⟩:=xR hp ha (h.stp (by omega) (hs s List.mem_cons_self)) (by omega) (fun t ht=>hs t (List.mem_cons_of_mem _ ht)) (fun t ht=>hd t (List.mem_cons_of_mem _ ht));obtain ⟨f1,f2,f3⟩:=qVd h hp ha (hd s List.mem_cons_self);exact ⟨e1.trans f1,e2.trans f2,e3.trans f3⟩
def eZ (ss:List Stp):Int:=ss.foldl (fun m s=>min m s.q.day) 14610
theorem qYa (ss:List Stp):∀ m:Int,ss.foldl (fun m s=>min m s.q.day) m≤m∧∀ s∈ss,ss.foldl (fun m s=>min m s.q.day) m≤s.q.day:=by
 induction ss with
 | nil=>exact fun m=>⟨Int.le_refl _,fun s h=>by cases h⟩
 | cons x r ih =>
  intro m;obtain ⟨h1,h2⟩:=ih (min m x.q.day);refine ⟨Int.le_trans h1 (by omega),fun s hs=>?_⟩
  rcases List.mem_cons.1 hs with rfl|h
  ·exact Int.le_trans h1 (by omega)
  ·exact h2 s h
theorem xQf {ss:List Stp} {s:Stp} (h:s∈ss):eZ ss≤s.q.day:=(qYa ss 14610).2 s h
theorem qXy {ss:List Stp} {k:Nat} (h:k<ss.length):eZ (ss.take (k+1))=min (eZ (ss.take k)) (sp ss k).q.day:=by
 unfold eZ
 rw [List.take_add_one,List.getElem?_eq_getElem h,iL h,List.foldl_append]
 rfl
theorem fQ {c:Int} {l:List En} {cs:List Cg} (h:Ok45 c l cs) (p a d:Int):fA c l cs p a d=cY c p a d:=by
 unfold fA
 rw [if_neg (fun h9=>h9 (peE_ok.2 h))]
theorem qYe {c:Int} {S:List En×List Cg} {m:Nat} (h:In45 c S m) {ss:List Stp} (hm:m+ss.length≤4000) (hs:∀ s∈ss,tz s.q.am.2.1 s.q.am.2.2 12) {p a d:Int} (hd:d<eZ ss) :
  dY c (rn c S ss).1 (rn c S ss).2 p a d=dY c S.1 S.2 p a d∧dR c (rn c S ss).1 (rn c S ss).2 p a d=dR c S.1 S.2 p a d∧eN c (rn c S ss).1 (rn c S ss).2 p a d=eN c S.1 S.2 p a d:=by
 unfold dY dR eN
 rw [fQ h.ok,fQ (h.rn hm hs).ok]
 by_cases h1:cY c p a d=0
 ·obtain ⟨p0,_,a1,_,_,_⟩:=cK h1
  obtain ⟨e1,e2,e3⟩:=xR p0 a1 h hm hs fun s h9=>Int.lt_of_lt_of_le hd (xQf h9)
  rw [e1,e2,e3];exact ⟨rfl,rfl,rfl⟩
 ·rw [if_neg h1,if_neg h1,if_neg h1,if_neg h1,if_neg h1,if_neg h1]
  exact ⟨rfl,rfl,rfl⟩
/-! ### the order on one day -/
structure Dy (S:List En×List Cg) (d:Int):Prop where
 e:∀ k,k<S.1.length→(en S.1 k).day≤d
 c:∀ k,k<S.2.length→(cg S.2 k).day≤d
theorem Dy.stl {S:List En×List Cg} {d:Int} (h:Dy S d):stl S.1 S.2 d=false:=by
 unfold Go.Proofs.YtjkfchehkpmhkaaDoor.stl
 rw [Bool.or_eq_false_iff,Bool.and_eq_false_iff,Bool.and_eq_false_iff,decide_eq_false_iff_not,decide_eq_false_iff_not,decide_eq_false_iff_not,decide_eq_false_iff_not]
 constructor
 ·rcases Nat.eq_zero_or_pos S.1.length with h1|h1
  ·exact .inl (by omega)
  ·exact .inr (by have:=h.e (S.1.length-1) (by omega);omega)
 ·rcases Nat.eq_zero_or_pos S.2.length with h1|h1
  ·exact .inl (by omega)
  ·exact .inr (by have:=h.c (S.2.length-1) (by omega);omega)
theorem Dy.stp {c:Int} {S:List En×List Cg} {m:Nat} (hI:In45 c S m) {d:Int} (h:Dy S d) {s:Stp} (hd:s.q.day≤14609→s.q.day≤d):Dy (stp c S s) d:=by
 unfold Go.Proofs.YtjkfchehkpmhkaaDoor.stp
 split
 ·split
  ·rename_i hE
   obtain ⟨h1,_,_⟩:=(yS hI.ok).1 hE;refine ⟨h.e,fun k hk=>?_⟩
   show (cg (dL c S.1 S.2 s.q.day) k).day≤d
   have hk2:k<(dL c S.1 S.2 s.q.day).length:=hk
   unfold dL at hk2 ⊢
   rw [if_pos hE] at hk2 ⊢;rw [List.length_append,List.length_singleton] at hk2
   rcases Nat.lt_or_ge k S.2.length with h3|h3
   ·rw [lA h3]
    exact h.c k h3
   ·rw [show k=S.2.length by omega,oW]
    exact hd h1.2
  ·exact h
 ·split
  ·rename_i hE
   obtain ⟨_,h2,_,_⟩:=(eT hI.ok).1 hE;obtain ⟨_,_,_,_,_,d1⟩:=cK h2;refine ⟨fun k hk=>?_,h.c⟩
   show (en (bT c S.1 S.2 s.q) k).day≤d
   have hk2:k<(bT c S.1 S.2 s.q).length:=hk
   unfold bT at hk2 ⊢
   rw [if_pos hE] at hk2 ⊢
   split
   ·rename_i hz
    rw [if_pos hz] at hk2;exact h.e k hk2
   ·rename_i hz
    rw [if_neg hz,eX] at hk2
    rcases Nat.lt_or_ge k S.1.length with h3|h3
    ·rw [kL h3]
     exact h.e k h3
    ·rw [show k=S.1.length by omega,kK,iM]
     exact hd d1
  ·exact h
theorem Dy.rn {c:Int} {d:Int}:∀ {ss:List Stp} {S:List En×List Cg} {m:Nat},In45 c S m→Dy S d→m+ss.length≤4000→(∀ s∈ss,tz s.q.am.2.1 s.q.am.2.2 12)→(∀ s∈ss,s.q.day≤14609→s.q.day≤d)→Dy (rn c S ss) d
 | [],_,_,_,h,_,_,_=>h
 | s :: r,S,m,hI,h,hm,hs,hd=>by
  rw [List.length_cons] at hm;rw [lY]
  exact Dy.rn (hI.stp (by omega) (hs s List.mem_cons_self)) (h.stp hI (hd s List.mem_cons_self)) (by omega) (fun t ht=>hs t (List.mem_cons_of_mem _ ht)) fun t ht=>hd t (List.mem_cons_of_mem _ ht)
theorem Dy.new (d:Int):Dy ([],[]) d:=⟨fun k hk=>absurd hk (Nat.not_lt_zero k),fun k hk=>absurd hk (Nat.not_lt_zero k)⟩
def fZ (ss:List Stp):Int:=ss.foldl (fun m s=>if s.q.day≤14609 then max m s.q.day else m) 0
theorem qH (ss:List Stp):∀ m:Int,m≤ss.foldl (fun m s=>if s.q.day≤14609 then max m s.q.day else m) m∧(m≤14609→ss.foldl (fun m s=>if s.q.day≤14609 then max m s.q.day else m) m≤14609)∧∀ s∈ss,s.q.day≤14609→s.q.day≤ss.foldl (fun m s=>if s.q.day≤14609 then max m s.q.day else m) m:=by
 induction ss with
 | nil=>exact fun m=>⟨Int.le_refl _,fun h=>h,fun s h=>by cases h⟩
 | cons x r ih =>
  intro m;obtain ⟨h1,h2,h3⟩:=ih (if x.q.day≤14609 then max m x.q.day else m)
  have h4:m≤(if x.q.day≤14609 then max m x.q.day else m):=by split <;> omega
  refine ⟨Int.le_trans h4 h1,fun h5=>h2 (by split <;> omega),fun s hs h6=>?_⟩
  rcases List.mem_cons.1 hs with rfl|h
  ·refine Int.le_trans ?_ h1
   rw [if_pos h6]
   omega
  ·exact h3 s h h6
theorem lst_0 (ss:List Stp):0≤fZ ss:=(qH ss 0).1
theorem lst_1 (ss:List Stp):fZ ss≤14609:=(qH ss 0).2.1 (by decide)
theorem vZq {ss:List Stp} {s:Stp} (h:s∈ss) (h1:s.q.day≤14609):s.q.day≤fZ ss:=(qH ss 0).2.2 s h h1
theorem uM {ss:List Stp} {k:Nat} (h:k<ss.length):fZ (ss.take (k+1))=if (sp ss k).q.day≤14609 then max (fZ (ss.take k)) (sp ss k).q.day else fZ (ss.take k):=by
 unfold fZ
 rw [List.take_add_one,List.getElem?_eq_getElem h,iL h,List.foldl_append]
 rfl
def gd (c:Int) (s:Stp):Bool:=vd s.q.am.1 s.q.am.2.1 s.q.am.2.2 && decide (cY c s.q.pd s.q.ac s.q.day=0)
def fgv (c p a:Int) (x:Rat) (ss:List Stp):Rat:=ss.foldl (fun x s=>if (s.q.pd=p∧s.q.ac=a)∧gd c s=true then trq s.q.am else x) x
theorem vX {c:Int} {d:Int} (hd0:0≤d) (hd1:d≤14609) {p a:Int} (ha:1<a):∀ {ss:List Stp} {S:List En×List Cg} {m:Nat},In45 c S m→Dy S d→m+ss.length≤4000→(∀ s∈ss,tz s.q.am.2.1 s.q.am.2.2 12)→(∀ s∈ss,s.cl=false∧s.q.day=d) →
  (rn c S ss).2=S.2∧knw (rn c S ss).1 p a 14609=fgv c p a (knw S.1 p a 14609) ss∧(p<S.2.length→frz (rn c S ss).1 p a 14609=frz S.1 p a 14609)
 | [],_,_,_,_,_,_,_=>⟨rfl,rfl,fun _=>rfl⟩
 | s :: r,S,m,hI,h,hm,hs,hd=>by
  rw [List.length_cons] at hm;obtain ⟨hc,hday⟩:=hd s List.mem_cons_self;have hI2:=hI.stp (by omega) (hs s List.mem_cons_self);have hD2:Dy (stp c S s) d:=h.stp hI (fun _=>by omega)
  obtain ⟨e1,e2,e3⟩:=vX hd0 hd1 (p:=p) ha hI2 hD2 (by omega) (fun t ht=>hs t (List.mem_cons_of_mem _ ht)) fun t ht=>hd t (List.mem_cons_of_mem _ ht)
  have key:(stp c S s).2=S.2∧knw (stp c S s).1 p a 14609=(if (s.q.pd=p∧s.q.ac=a)∧gd c s=true then trq s.q.am else knw S.1 p a 14609)∧(p<S.2.length→frz (stp c S s).1 p a 14609=frz S.1 p a 14609):=by
   unfold stp
   rw [if_neg (by rw [hc];decide)];have hst:=h.stl;rw [← hday] at hst
   by_cases hg:gd c s=true
   ·have hg2:=hg
    unfold gd at hg2
    rw [Bool.and_eq_true,decide_eq_true_eq] at hg2;have hE:bN c S.1 S.2 s.q=0:=(eT hI.ok).2 ⟨hg2.1,hg2.2,hst,by have:=hI.ln;omega⟩;obtain ⟨_,_,a1,_,_,d1⟩:=cK hg2.2;rw [if_pos hE];refine ⟨rfl,?_,fun hp=>?_⟩
    ·show knw (bT c S.1 S.2 s.q) p a 14609=_
     unfold bT
     rw [if_pos hE]
     by_cases h9:s.q.pd=p∧s.q.ac=a
     ·rw [if_pos (show (s.q.pd=p∧s.q.ac=a)∧gd c s=true from ⟨h9,hg⟩)]
      obtain ⟨rfl,rfl⟩:=h9
      split
      ·rename_i hz
       unfold mor at hz
       grind
      ·exact sV hg2.2
     ·rw [if_neg (show ¬ ((s.q.pd=p∧s.q.ac=a)∧gd c s=true) from fun h8=>h9 h8.1)]
      split
      ·rfl
      ·rw [kB,iR _ _ _ _ _ _ ha a1,if_neg (fun h8=>h9 ⟨h8.1,h8.2.2⟩),Rat.add_zero]
    ·show frz (bT c S.1 S.2 s.q) p a 14609=_
     unfold bT
     rw [if_pos hE]
     split
     ·rfl
     ·rw [qG,nD _ _ _ _ _ _ ha a1,if_neg (fun h8=>h8.2.2.2 (by omega)),Rat.add_zero]
   ·have hE:bN c S.1 S.2 s.q≠0:=fun h9=>by
     obtain ⟨h1,h2,_,_⟩:=(eT hI.ok).1 h9
     apply hg
     unfold gd
     rw [h1,decide_eq_true h2]
     rfl
    rw [if_neg hE,if_neg (fun h9=>hg h9.2)];exact ⟨rfl,rfl,fun _=>rfl⟩
  obtain ⟨k1,k2,k3⟩:=key;rw [lY];refine ⟨e1.trans k1,?_,fun hp=>(e3 (by rw [k1];exact hp)).trans (k3 hp)⟩;rw [e2,k2]
  rfl
def ky (s:Stp):Int×Int:=(s.q.pd,s.q.ac)
theorem mP {c p a:Int}:∀ {ss:List Stp} {x:Rat},(∀ s∈ss,¬ ((s.q.pd=p∧s.q.ac=a)∧gd c s=true))→fgv c p a x ss=x
 | [],_,_=>rfl
 | s :: r,x,h=>by
  show fgv c p a (if (s.q.pd=p∧s.q.ac=a)∧gd c s=true then trq s.q.am else x) r=x
  rw [if_neg (h s List.mem_cons_self)]
  exact mP fun t ht=>h t (List.mem_cons_of_mem _ ht)
theorem vVd (c p a:Int) (x:Rat) (l r:List Stp):fgv c p a x (l++r)=fgv c p a (fgv c p a x l) r:=by
 unfold fgv
 rw [List.foldl_append]
theorem qYg {c p a:Int} {ss:List Stp} (hd:(ss.map ky).Nodup) {s:Stp} (hs:s∈ss) (h:(s.q.pd=p∧s.q.ac=a)∧gd c s=true) (x:Rat):fgv c p a x ss=trq s.q.am:=by
 obtain ⟨l,r,rfl⟩:=List.append_of_mem hs;rw [List.map_append,List.map_cons,List.nodup_append] at hd;rw [vVd]
 show fgv c p a (if (s.q.pd=p∧s.q.ac=a)∧gd c s=true then trq s.q.am else _) r=_
 rw [if_pos h];refine mP fun t ht h9=>?_;have h1:=(List.nodup_cons.1 hd.2.1).1
 exact h1 (by
  rw [show ky s=ky t by unfold ky;rw [h.1.1,h.1.2,h9.1.1,h9.1.2]]
  exact List.mem_map_of_mem ht)
theorem vVc {c p a:Int} {ss:List Stp} (hd:(ss.map ky).Nodup) (x:Rat):fgv c p a x ss.reverse=fgv c p a x ss:=by
 by_cases h:∃ s∈ss,(s.q.pd=p∧s.q.ac=a)∧gd c s=true
 ·obtain ⟨s,hs,h1⟩:=h
  rw [qYg hd hs h1];refine qYg ?_ (List.mem_reverse.2 hs) h1 x;rw [List.map_reverse];exact List.pairwise_reverse.2 (hd.imp fun h h9=>h h9.symm)
 ·have h1:∀ s∈ss,¬ ((s.q.pd=p∧s.q.ac=a)∧gd c s=true):=fun s hs h9=>h ⟨s,hs,h9⟩
  rw [mP h1,mP fun s hs=>h1 s (List.mem_reverse.1 hs)]
theorem yL {c:Int} {l:List En} {cs:List Cg} (h:Ok45 c l cs) {p:Int} (hp:0≤p):eM cs p 14609=decide (p<cs.length):=by
 unfold eM
 by_cases h1:p<cs.length
 ·rw [decide_eq_true (h.clo p.toNat (by omega)).2.1,Bool.and_true]
 ·rw [decide_eq_false h1,Bool.false_and]
theorem vVb {c:Int} {S:List En×List Cg} {m:Nat} (hI:In45 c S m) {d:Int} (hd0:0≤d) (hd1:d≤14609) (hD:Dy S d) {ss:List Stp} (hm:m+ss.length≤4000) (hs:∀ s∈ss,tz s.q.am.2.1 s.q.am.2.2 12) (hc:∀ s∈ss,s.cl=false∧s.q.day=d) (hk:(ss.map ky).Nodup) (p a:Int) :
  dY c (rn c S ss.reverse).1 (rn c S ss.reverse).2 p a 14609=dY c (rn c S ss).1 (rn c S ss).2 p a 14609∧dR c (rn c S ss.reverse).1 (rn c S ss.reverse).2 p a 14609=dR c (rn c S ss).1 (rn c S ss).2 p a 14609∧eN c (rn c S ss.reverse).1 (rn c S ss.reverse).2 p a 14609=eN c (rn c S ss).1 (rn c S ss).2 p a 14609:=by
 have hs':∀ s∈ss.reverse,tz s.q.am.2.1 s.q.am.2.2 12:=fun s h=>hs s (List.mem_reverse.1 h)
 have hc':∀ s∈ss.reverse,s.cl=false∧s.q.day=d:=fun s h=>hc s (List.mem_reverse.1 h)
 have hm':m+ss.reverse.length≤4000:=by rw [List.length_reverse];exact hm
 unfold dY dR eN
 rw [fQ (hI.rn hm hs).ok,fQ (hI.rn hm' hs').ok]
 by_cases h1:cY c p a 14609=0
 ·obtain ⟨p0,_,a1,_,_,_⟩:=cK h1
  obtain ⟨e1,e2,e3⟩:=vX hd0 hd1 (p:=p) a1 hI hD hm hs hc;obtain ⟨f1,f2,f3⟩:=vX hd0 hd1 (p:=p) a1 hI hD hm' hs' hc';rw [if_pos h1,if_pos h1,if_pos h1,if_pos h1,if_pos h1,if_pos h1,e2,f2,vVc hk,e1,f1,yL hI.ok p0];refine ⟨rfl,?_,rfl⟩
  by_cases h2:p<S.2.length
  ·rw [decide_eq_true h2,if_pos rfl,if_pos rfl,e3 h2,f3 h2]
  ·rw [decide_eq_false h2]
   rfl
 ·rw [if_neg h1,if_neg h1,if_neg h1,if_neg h1,if_neg h1,if_neg h1]
  exact ⟨rfl,rfl,rfl⟩
/-! ### each figure once -/
def atD (s:Stp) (d:Int):Stp:=⟨{ s.q with day:=d },s.cl⟩
def kin (l:List Stp) (p a:Int):Bool:=l.any fun s=>decide (s.q.pd=p) && decide (s.q.ac=a)
def onc (ss:List Stp) (d:Int):Nat→List Stp
 | 0=>[]
 | n+1=>if (sp ss n).cl=true∨kin (onc ss d n) (sp ss n).q.pd (sp ss n).q.ac=true then onc ss d n else onc ss d n++[atD (sp ss n) d]
theorem mD (ss:List Stp) (d:Int) (n:Nat):onc ss d (n+1)=if (sp ss n).cl=true∨kin (onc ss d n) (sp ss n).q.pd (sp ss n).q.ac=true then onc ss d n else onc ss d n++[atD (sp ss n) d]:=rfl
theorem qXr (l:List Stp) (s:Stp) (p a:Int):kin (l++[s]) p a=(kin l p a || (decide (s.q.pd=p) && decide (s.q.ac=a))):=by
 unfold kin
 rw [List.any_append]
 simp
theorem kin_f {l:List Stp} {p a:Int} (h:kin l p a=false) {s:Stp} (hs:s∈l):ky s≠(p,a):=fun h9=>by
 unfold kin at h
 rw [List.any_eq_false] at h
 apply h s hs
 unfold ky at h9
 injection h9 with h1 h2
 rw [decide_eq_true h1,decide_eq_true h2]
 rfl
theorem oR (ss:List Stp) (d:Int):∀ n,(onc ss d n).length≤n
 | 0=>Nat.le_refl 0
 | n+1=>by
  have h:=oR ss d n;rw [mD]
  split
  ·omega
  ·rw [List.length_append,List.length_singleton]
   omega
theorem sO (ss:List Stp) (d:Int):∀ n,(∀ s∈onc ss d n,(s.cl=false∧s.q.day=d)∧∃ k,s.q.am=(sp ss k).q.am)∧((onc ss d n).map ky).Nodup
 | 0=>⟨fun s h=>(by cases h),List.nodup_nil⟩
 | n+1=>by
  obtain ⟨h1,h2⟩:=sO ss d n;rw [mD]
  split
  ·exact ⟨h1,h2⟩
  ·rename_i h3
   refine ⟨fun s hs=>?_,?_⟩
   ·rcases List.mem_append.1 hs with h4|h4
    ·exact h1 s h4
    ·rw [List.mem_singleton] at h4
     subst h4;refine ⟨⟨?_,rfl⟩,n,rfl⟩
     show (sp ss n).cl=false
     cases h9:(sp ss n).cl
     ·rfl
     ·exact absurd (.inl h9) h3
   ·rw [List.map_append,List.nodup_append]
    refine ⟨h2,List.nodup_cons.2 ⟨fun h=>(by cases h),List.nodup_nil⟩,fun x hx y hy hxy=>?_⟩;rw [List.map_singleton,List.mem_singleton] at hy;subst hy;obtain ⟨s,hs,rfl⟩:=List.mem_map.1 hx
    have h5:kin (onc ss d n) (sp ss n).q.pd (sp ss n).q.ac=false:=by
     cases h9:kin (onc ss d n) (sp ss n).q.pd (sp ss n).q.ac
     ·rfl
     ·exact absurd (.inr h9) h3
    exact kin_f h5 hs hxy
end Go.Proofs.YtjkfchehkpmhkaaDoor

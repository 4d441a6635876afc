/- Layer 45: plain words of the periods: balances. -/
import Derived.Test.YtjkfchehkpmhkaaGreatDoorPl45b
set_option linter.unusedSimpArgs false
set_option linter.unusedVariables false
set_option maxRecDepth 100000
set_option maxHeartbeats 1600000
namespace Go.Proofs.YtjkfchehkpmhkaaGreatDoor
structure Stp where
 q:Stg
 cl:Bool
instance:Inhabited Stp:=⟨⟨⟨0,0,0,(false,[],[]),0,0,0,0⟩,false⟩⟩
def sp (ss:List Stp) (k:Nat):Stp:=ss.getD k default
theorem sp_in {ss:List Stp} {k:Nat} (h:k<ss.length):sp ss k=ss[k]:=by
 unfold sp
 rw [List.getD_eq_getElem?_getD,List.getElem?_eq_getElem h]
 rfl
def stp (c:Int) (S:List En×List Cg) (s:Stp):List En×List Cg :=
 if s.cl=true then (if cO c S.1 S.2 s.q.day=0 then (S.1,eS c S.1 S.2 s.q.day) else S)
 else if cF c S.1 S.2 s.q=0 then (cX c S.1 S.2 s.q,S.2) else S
def rn (c:Int) (S:List En×List Cg) (ss:List Stp):List En×List Cg:=ss.foldl (stp c) S
theorem wM (c:Int) (S:List En×List Cg) (s:Stp) (r:List Stp):rn c S (s :: r)=rn c (stp c S s) r:=rfl
structure In45 (c:Int) (S:List En×List Cg) (m:Nat):Prop where
 ok:Ok45 c S.1 S.2
 sz:∀ k,tz (en S.1 k).am.2.1 (en S.1 k).am.2.2 40
 kn:∀ p a,1<a→szR (knw S.1 p a 14609) 12
 ln:S.1.length≤m
 cn:S.2.length≤m
theorem In45.mono {c:Int} {S:List En×List Cg} {m m':Nat} (h:In45 c S m) (hm:m≤m'):In45 c S m':=⟨h.ok,h.sz,h.kn,Nat.le_trans h.ln hm,Nat.le_trans h.cn hm⟩
theorem In45.new {c:Int} (h1:3≤c) (h2:c≤100):In45 c ([],[]) 0:=by
 refine ⟨⟨⟨by omega,h2,Nat.zero_le _,fun k hk=>absurd hk (Nat.not_lt_zero k)⟩,h1,Nat.zero_le _,fun k hk=>absurd hk (Nat.not_lt_zero k),fun k hk=>absurd hk (Nat.not_lt_zero k)⟩,fun k=>?_,fun p a _=>?_,Nat.le_refl _,Nat.le_refl _⟩
 ·exact mS
 ·exact szR_zero.mono (by decide)
theorem kI {c:Int} {l:List En} {cs:List Cg} (h:Ok45 c l cs) {q:Stg}:cF c l cs q=0↔vd q.am.1 q.am.2.1 q.am.2.2=true∧eA c q.pd q.ac q.day=0∧stl l cs q.day=false∧l.length≠4000:=by
 unfold cF
 rw [if_neg (fun h9=>h9 (peE_ok.2 h))]
 constructor
 ·intro h1
  split at h1
  ·cases h1
  ·rename_i h2
   split at h1
   ·rename_i h3
    exact absurd h1 h3
   ·rename_i h3
    split at h1
    ·cases h1
    ·rename_i h4
     split at h1
     ·cases h1
     ·rename_i h5
      exact ⟨by simpa using h2,Decidable.of_not_not h3,by simpa using h4,h5⟩
 ·rintro ⟨h1,h2,h3,h4⟩
  rw [if_neg (by rw [h1];decide),if_neg (fun h9=>h9 h2),if_neg (by rw [h3];decide),if_neg h4]
theorem xJ {c:Int} {l:List En} {cs:List Cg} (h:Ok45 c l cs) {d:Int}:cO c l cs d=0↔(0≤d∧d≤14609)∧stl l cs d=false∧cs.length≠4000:=by
 unfold cO
 rw [if_neg (fun h9=>h9 (peE_ok.2 h))]
 constructor
 ·intro h1
  split at h1
  ·cases h1
  ·rename_i h2
   split at h1
   ·cases h1
   ·rename_i h3
    split at h1
    ·cases h1
    ·rename_i h4
     exact ⟨by omega,by simpa using h3,h4⟩
 ·rintro ⟨h1,h2,h3⟩
  rw [if_neg (by omega),if_neg (by rw [h2];decide),if_neg h3]
theorem vXx {l:List En} {q:Stg} (hq:tz q.am.2.1 q.am.2.2 12) (hk:szR (knw l q.pd q.ac 14609) 12):szR (mor l q) 25:=by
 unfold mor
 exact lQ (gQ rfl hq) hk
theorem qYt (l:List En) (cs:List Cg) (q:Stg):(dM l cs q).am=tr (mor l q)∨(dM l cs q).am=tr (-(mor l q)):=by
 unfold dM
 split
 ·exact .inr rfl
 ·exact .inl rfl
theorem wH {l:List En} {cs:List Cg} {q:Stg} {B:Nat} (h:szR (mor l q) B):tz (dM l cs q).am.2.1 (dM l cs q).am.2.2 B:=by
 rcases qYt l cs q with h1|h1
 ·rw [h1]
  exact tzR h (Nat.le_refl _)
 ·rw [h1]
  exact tzR (lR h) (Nat.le_refl _)
theorem zX {l:List En} {x:En} {B:Nat} (h:∀ k,tz (en l k).am.2.1 (en l k).am.2.2 B) (hx:tz x.am.2.1 x.am.2.2 B) (k:Nat):tz (en (l++[x]) k).am.2.1 (en (l++[x]) k).am.2.2 B:=by
 rw [iD]
 split
 ·exact h k
 ·split
  ·exact hx
  ·exact mS
structure Stn (c:Int) (l:List En) (cs:List Cg) (q:Stg):Prop where
 v:vd q.am.1 q.am.2.1 q.am.2.2=true
 k:eA c q.pd q.ac q.day=0
 s:stl l cs q.day=false
 n:l.length≠4000
theorem In45.set {c:Int} {S:List En×List Cg} {m:Nat} (h:In45 c S m) (hm:m<4000) {q:Stg} (hq:tz q.am.2.1 q.am.2.2 12) (hE:cF c S.1 S.2 q=0):In45 c (cX c S.1 S.2 q,S.2) (m+1):=by
 obtain ⟨h1,h2,h3,h4⟩:=(kI h.ok).1 hE;obtain ⟨p0,p4,a1,a2,d0,d1⟩:=fS h2
 unfold cX
 rw [if_pos hE]
 by_cases hz:mor S.1 q=0
 ·rw [if_pos hz]
  exact h.mono (Nat.le_succ m)
 ·rw [if_neg hz]
  have hs:=vXx hq (h.kn q.pd q.ac a1);refine ⟨h.ok.set h2 h3 (by have:=h.ln;omega) hz,zX h.sz ((wH hs).mono (by decide)),fun p a ha=>?_,by rw [gT];have:=h.ln;omega,Nat.le_trans h.cn (Nat.le_succ m)⟩
  show szR (knw (S.1++[dM S.1 S.2 q]) p a 14609) 12
  by_cases h9:q.pd=p∧q.ac=a
  ·obtain ⟨rfl,rfl⟩:=h9
   rw [wU h2];exact gQ rfl hq
  ·rw [oZ,nE _ _ _ _ _ _ ha a1,if_neg (fun h8=>h9 ⟨h8.1,h8.2.2⟩),Rat.add_zero]
   exact h.kn p a ha
theorem In45.close {c:Int} {S:List En×List Cg} {m:Nat} (h:In45 c S m) (hm:m<4000) {d:Int} (hE:cO c S.1 S.2 d=0):In45 c (S.1,eS c S.1 S.2 d) (m+1):=by
 obtain ⟨h1,h2,h3⟩:=(xJ h.ok).1 hE
 unfold eS
 rw [if_pos hE]
 exact ⟨h.ok.close h1 h2 (by have:=h.cn;omega),h.sz,h.kn,Nat.le_trans h.ln (Nat.le_succ m),by
  show (S.2++[_]).length≤m+1
  rw [List.length_append,List.length_singleton];have:=h.cn
  omega⟩
theorem In45.stp {c:Int} {S:List En×List Cg} {m:Nat} (h:In45 c S m) (hm:m<4000) {s:Stp} (hq:tz s.q.am.2.1 s.q.am.2.2 12):In45 c (stp c S s) (m+1):=by
 unfold Go.Proofs.YtjkfchehkpmhkaaGreatDoor.stp
 split
 ·split
  ·rename_i h1
   exact h.close hm h1
  ·exact h.mono (Nat.le_succ m)
 ·split
  ·rename_i h1
   exact h.set hm hq h1
  ·exact h.mono (Nat.le_succ m)
theorem In45.rn {c:Int}:∀ {ss:List Stp} {S:List En×List Cg} {m:Nat},In45 c S m→m+ss.length≤4000→(∀ s∈ss,tz s.q.am.2.1 s.q.am.2.2 12)→In45 c (rn c S ss) (m+ss.length)
 | [],_,_,h,_,_=>h
 | s :: r,S,m,h,hm,hs=>by
  rw [List.length_cons] at hm ⊢;rw [wM,show m+(r.length+1)=m+1+r.length by omega]
  exact (h.stp (by omega) (hs s List.mem_cons_self)).rn (by omega) fun t ht=>hs t (List.mem_cons_of_mem _ ht)
/-! ### the order on one day -/
structure Dy (S:List En×List Cg) (d:Int):Prop where
 e:∀ k,k<S.1.length→(en S.1 k).day≤d
 c:∀ k,k<S.2.length→(cg S.2 k).day≤d
theorem Dy.stl {S:List En×List Cg} {d:Int} (h:Dy S d):stl S.1 S.2 d=false:=by
 unfold Go.Proofs.YtjkfchehkpmhkaaGreatDoor.stl
 rw [Bool.or_eq_false_iff,Bool.and_eq_false_iff,Bool.and_eq_false_iff,decide_eq_false_iff_not,decide_eq_false_iff_not,decide_eq_false_iff_not,decide_eq_false_iff_not]
 constructor
 ·rcases Nat.eq_zero_or_pos S.1.length with h1|h1
  ·exact .inl (by omega)
  ·exact .inr (by have:=h.e (S.1.length-1) (by omega);omega)
 ·rcases Nat.eq_zero_or_pos S.2.length with h1|h1
  ·exact .inl (by omega)
  ·exact .inr (by have:=h.c (S.2.length-1) (by omega);omega)
theorem Dy.stp {c:Int} {S:List En×List Cg} {m:Nat} (hI:In45 c S m) {d:Int} (h:Dy S d) {s:Stp} (hd:s.q.day≤14609→s.q.day≤d):Dy (stp c S s) d:=by
 unfold Go.Proofs.YtjkfchehkpmhkaaGreatDoor.stp
 split
 ·split
  ·rename_i hE
   obtain ⟨h1,_,_⟩:=(xJ hI.ok).1 hE;refine ⟨h.e,fun k hk=>?_⟩
   show (cg (eS c S.1 S.2 s.q.day) k).day≤d
   have hk2:k<(eS c S.1 S.2 s.q.day).length:=hk
   unfold eS at hk2 ⊢
   rw [if_pos hE] at hk2 ⊢;rw [List.length_append,List.length_singleton] at hk2
   rcases Nat.lt_or_ge k S.2.length with h3|h3
   ·rw [mO h3]
    exact h.c k h3
   ·rw [show k=S.2.length by omega,sJ]
    exact hd h1.2
  ·exact h
 ·split
  ·rename_i hE
   obtain ⟨_,h2,_,_⟩:=(kI hI.ok).1 hE;obtain ⟨_,_,_,_,_,d1⟩:=fS h2;refine ⟨fun k hk=>?_,h.c⟩
   show (en (cX c S.1 S.2 s.q) k).day≤d
   have hk2:k<(cX c S.1 S.2 s.q).length:=hk
   unfold cX at hk2 ⊢
   rw [if_pos hE] at hk2 ⊢
   split
   ·rename_i hz
    rw [if_pos hz] at hk2;exact h.e k hk2
   ·rename_i hz
    rw [if_neg hz,gT] at hk2
    rcases Nat.lt_or_ge k S.1.length with h3|h3
    ·rw [pL h3]
     exact h.e k h3
    ·rw [show k=S.1.length by omega,sG,jP]
     exact hd d1
  ·exact h
theorem Dy.rn {c:Int} {d:Int}:∀ {ss:List Stp} {S:List En×List Cg} {m:Nat},In45 c S m→Dy S d→m+ss.length≤4000→(∀ s∈ss,tz s.q.am.2.1 s.q.am.2.2 12)→(∀ s∈ss,s.q.day≤14609→s.q.day≤d)→Dy (rn c S ss) d
 | [],_,_,_,h,_,_,_=>h
 | s :: r,S,m,hI,h,hm,hs,hd=>by
  rw [List.length_cons] at hm;rw [wM]
  exact Dy.rn (hI.stp (by omega) (hs s List.mem_cons_self)) (h.stp hI (hd s List.mem_cons_self)) (by omega) (fun t ht=>hs t (List.mem_cons_of_mem _ ht)) fun t ht=>hd t (List.mem_cons_of_mem _ ht)
theorem Dy.new (d:Int):Dy ([],[]) d:=⟨fun k hk=>absurd hk (Nat.not_lt_zero k),fun k hk=>absurd hk (Nat.not_lt_zero k)⟩
theorem ent_0 {x:En} {a:Int} (h1:x.deb≠a) (h2:x.cre≠a):ent x a=0:=by
 unfold ent
 rw [if_neg h1,if_neg h2]
 grind
theorem tM {p:Prop} [Decidable p] {x:Rat} {B:Nat} (h:szR x B) (h1:1≤B):szR (if p then x else 0) B:=by
 split
 ·exact h
 ·exact szR_zero.mono h1
theorem mW {f:Nat→Rat} {B:Nat}:∀ {n:Nat},(∀ i,i<n→szR (f i) B)→szR (sm n f) (n * (B+1)+1)
 | 0,_=>szR_zero.mono (by omega)
 | n+1,h=>by
  rw [lS];refine (wD (mW fun i hi=>h i (by omega)) (h n (by omega))).mono ?_;rw [Nat.succ_mul]
  omega
theorem nZ {l:List En} {B:Nat} (h1:1≤B) (hx:∀ k,tz (en l k).am.2.1 (en l k).am.2.2 B) (p a d:Int) (n:Nat):szR (jV l p a d n) (n * (2 * B+2)+1) :=
 mW fun i _=>tM (kB h1 (hx i) a) (by omega)
theorem qZw {l:List En} {B:Nat} (h1:1≤B) (hx:∀ k,tz (en l k).am.2.1 (en l k).am.2.2 B) (p a d:Int) (n:Nat):szR (gW l p a d n) (n * (2 * B+2)+1) :=
 mW fun i _=>tM (kB h1 (hx i) a) (by omega)
end Go.Proofs.YtjkfchehkpmhkaaGreatDoor

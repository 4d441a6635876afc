/- Layer 41: what pouring and taking keep. -/
import Derived.Test.YtnfpenhldlfafaaGreatDoorPl41c
set_option linter.unusedSimpArgs false
set_option linter.unusedVariables false
set_option maxRecDepth 100000
set_option maxHeartbeats 1600000
namespace Go.Proofs.YtnfpenhldlfafaaGreatDoor
open Go.RowKit
theorem uA {a b c:Rat} (hc:0<c):a≤b / c↔a * c≤b:=by
 have e:b / c * c=b:=Rat.div_mul_cancel (fun h9=>by rw [h9] at hc;exact Rat.lt_irrefl hc)
 constructor
 ·intro h
  have:=gO h (Rat.le_of_lt hc)
  rwa [e] at this
 ·intro h
  refine Rat.not_lt.1 fun h9=>?_;have h1:=Rat.mul_lt_mul_of_pos_right h9 hc;rw [e] at h1;exact absurd h (Rat.not_le.2 h1)
theorem yN {a b c:Rat} (hc:0<c):b / c≤a↔b≤a * c:=by
 have e:b / c * c=b:=Rat.div_mul_cancel (fun h9=>by rw [h9] at hc;exact Rat.lt_irrefl hc)
 constructor
 ·intro h
  have:=gO h (Rat.le_of_lt hc)
  rwa [e] at this
 ·intro h
  refine Rat.not_lt.1 fun h9=>?_;have h1:=Rat.mul_lt_mul_of_pos_right h9 hc;rw [e] at h1;exact absurd h (Rat.not_le.2 h1)
def gnd (n:Nat) (rm sh:Nat→Rat) (u:Rat):Rat:=sm n (lv rm sh u)
def lat (rm sh:Nat→Rat) (low:Rat) (k:Nat):Bool:=decide (sh k≠0) && decide (low<rm k / sh k)
theorem lat_t {rm sh:Nat→Rat} {low:Rat} {k:Nat}:lat rm sh low k=true↔sh k≠0∧low<rm k / sh k:=by
 unfold lat
 rw [Bool.and_eq_true,decide_eq_true_eq,decide_eq_true_eq]
def cnL (rm sh:Nat→Rat) (low:Rat):Nat→Nat
 | 0=>0
 | n+1=>cnL rm sh low n+if lat rm sh low n=true then 1 else 0
theorem qVt (rm sh:Nat→Rat) (low:Rat):∀ n,cnL rm sh low n≤n
 | 0=>Nat.le_refl 0
 | n+1=>by
  have h:=qVt rm sh low n
  show cnL rm sh low n+_≤n+1
  split <;> omega
theorem yU {rm sh:Nat→Rat} {low high:Rat} (h:∀ k,lat rm sh high k=true→lat rm sh low k=true):∀ n,cnL rm sh high n≤cnL rm sh low n
 | 0=>Nat.le_refl 0
 | n+1=>by
  have h1:=yU h n
  show cnL rm sh high n+_≤cnL rm sh low n+_
  by_cases h2:lat rm sh high n=true
  ·rw [if_pos h2,if_pos (h n h2)]
   omega
  ·rw [if_neg h2]
   omega
theorem yT {rm sh:Nat→Rat} {low high:Rat} (h:∀ k,lat rm sh high k=true→lat rm sh low k=true):∀ {n i:Nat},i<n→lat rm sh low i=true→lat rm sh high i=false→cnL rm sh high n<cnL rm sh low n
 | 0,_,h1,_,_=>absurd h1 (Nat.not_lt_zero _)
 | n+1,i,h1,h2,h3=>by
  show cnL rm sh high n+_<cnL rm sh low n+_
  rcases Nat.lt_or_ge i n with h4|h4
  ·have h5:=yT h h4 h2 h3
   by_cases h6:lat rm sh high n=true
   ·rw [if_pos h6,if_pos (h n h6)]
    omega
   ·rw [if_neg h6]
    omega
  ·obtain rfl:i=n:=by omega
   have h5:=yU h i;rw [if_pos h2,if_neg (by rw [h3];decide)]
   omega
structure Rte (n:Nat) (rm sh:Nat→Rat) (M:Rat) (r:Nat) (low:Rat):Prop where
 u0:0≤low
 le:gnd n rm sh low≤M
 cn:cnL rm sh low n+r≤n
 iz:low=0∨∃ k,k<n∧sh k≠0∧low=rm k / sh k
structure Rhi (rm sh:Nat→Rat) (low:Rat) (k:Nat) (high s:Rat):Prop where
 s:s=sm k fun i=>if lat rm sh low i=true then sh i else 0
 h:(high=low∧∀ i,i<k→lat rm sh low i=false)∨(low<high∧(∃ i,i<k∧lat rm sh low i=true∧rm i / sh i=high)∧∀ i,i<k→lat rm sh low i=true→high≤rm i / sh i)
section
variable {n:Nat} {rm sh:Nat→Rat} {M low high s:Rat} {r k:Nat}
theorem Rte.start (hs:Hs n rm sh) (hM:0≤M):Rte n rm sh M 0 0:=by
 refine ⟨Rat.le_refl,?_,by have:=qVt rm sh 0 n;omega,.inl rfl⟩
 unfold gnd
 rw [oO]
 ·exact hM
 ·intro k hk
  have:=hs.rm k hk
  unfold lv
  rw [Rat.zero_mul]
  split
  ·grind
  ·rfl
theorem Rhi.start:Rhi rm sh low 0 low 0:=⟨rfl,.inl ⟨rfl,fun i hi=>absurd hi (Nat.not_lt_zero i)⟩⟩
theorem Rhi.skip (h:Rhi rm sh low k high s) (hl:lat rm sh low k=false):Rhi rm sh low (k+1) high s:=by
 refine ⟨?_,?_⟩
 ·rw [cB,hl,← h.s]
  simp
  grind
 ·rcases h.h with ⟨h1,h2⟩|⟨h1,⟨i,h2,h3,h4⟩,h5⟩
  ·refine .inl ⟨h1,fun i hi=>?_⟩
   rcases Nat.lt_or_ge i k with h6|h6
   ·exact h2 i h6
   ·rw [show i=k by omega]
    exact hl
  ·refine .inr ⟨h1,⟨i,by omega,h3,h4⟩,fun j hj hj2=>?_⟩
   rcases Nat.lt_or_ge j k with h6|h6
   ·exact h5 j h6 hj2
   ·rw [show j=k by omega,hl] at hj2
    cases hj2
theorem Rhi.sum (h:Rhi rm sh low k high s) (hl:lat rm sh low k=true):s+sh k=sm (k+1) fun i=>if lat rm sh low i=true then sh i else 0:=by
 rw [cB,if_pos hl,← h.s]
theorem Rhi.new (h:Rhi rm sh low k high s) (hl:lat rm sh low k=true) (hh:high=low∨rm k / sh k<high):Rhi rm sh low (k+1) (rm k / sh k) (s+sh k):=by
 refine ⟨h.sum hl,.inr ⟨(lat_t.1 hl).2,⟨k,by omega,hl,rfl⟩,fun i hi hi2=>?_⟩⟩
 rcases Nat.lt_or_ge i k with h6|h6
 ·rcases h.h with ⟨h1,h2⟩|⟨h1,_,h5⟩
  ·rw [h2 i h6] at hi2
   cases hi2
  ·have h7:=h5 i h6 hi2
   rcases hh with h8|h8
   ·rw [h8] at h1
    exact absurd h1 Rat.lt_irrefl
   ·exact Rat.le_trans (Rat.le_of_lt h8) h7
 ·rw [show i=k by omega]
  exact Rat.le_refl
theorem Rhi.keep (h:Rhi rm sh low k high s) (hl:lat rm sh low k=true) (h0:high≠low) (hh:¬ rm k / sh k<high):Rhi rm sh low (k+1) high (s+sh k):=by
 refine ⟨h.sum hl,?_⟩
 rcases h.h with ⟨h1,_⟩|⟨h1,⟨i,h2,h3,h4⟩,h5⟩
 ·exact absurd h1 h0
 ·refine .inr ⟨h1,⟨i,by omega,h3,h4⟩,fun j hj hj2=>?_⟩
  rcases Nat.lt_or_ge j k with h6|h6
  ·exact h5 j h6 hj2
  ·rw [show j=k by omega]
   exact Rat.not_lt.1 hh
theorem rV (hs:Hs n rm sh) (hk:k<n) (h:sh k≠0):0<sh k:=by
 rcases Rat.le_iff_lt_or_eq.1 (hs.sh k hk) with h1|h1
 ·exact h1
 ·exact absurd h1.symm h
theorem pB (hs:Hs n rm sh) (hk:k<n) (h:sh k≠0) (hl:lat rm sh low k=false) {u:Rat} (hu:low≤u):lv rm sh u k=rm k:=by
 have h1:rm k / sh k≤low:=Rat.not_lt.1 fun h9=>by
  rw [lat_t.2 ⟨h,h9⟩] at hl
  cases hl
 have h2:=(yN (rV hs hk h)).1 (Rat.le_trans h1 hu);exact if_pos h2
theorem Rte.pur (h:Rte n rm sh M r low) (hf:M-gnd n rm sh low≠0→∀ k,k<n→sh k≠0→lv rm sh low k=rm k):Pur n rm sh M (lv rm sh low) (M-gnd n rm sh low):=by
 refine ⟨⟨low,h.u0,fun k _=>rfl⟩,?_,?_,hf⟩
 ·have:=h.le
  grind
 ·show M-gnd n rm sh low+gnd n rm sh low=M
  grind
theorem Rte.done1 (h:Rte n rm sh M r low) (hg:M≤gnd n rm sh low):Pur n rm sh M (lv rm sh low) (M-gnd n rm sh low):=h.pur fun h9=>by
 have:=h.le;exact absurd (show M-gnd n rm sh low=0 by grind) h9
theorem Rte.done2 (hs:Hs n rm sh) (h:Rte n rm sh M r low) (hh:Rhi rm sh low n low s):Pur n rm sh M (lv rm sh low) (M-gnd n rm sh low):=h.pur fun _ k hk h0=>by
 rcases hh.h with ⟨_,h1⟩|⟨h1,_⟩
 ·exact pB hs hk h0 (h1 k hk) Rat.le_refl
 ·exact absurd h1 Rat.lt_irrefl
theorem uB (hs:Hs n rm sh) (h0:0≤low) (hh:Rhi rm sh low n high s) (h2:high≠low) {u:Rat} (h3:low≤u) (h4:u≤high):gnd n rm sh u=gnd n rm sh low+(u-low) * s:=by
 unfold gnd
 rw [hh.s,← kY,← jL];refine cP fun k hk=>?_
 rcases hl:lat rm sh low k with _|_
 ·rw [if_neg (by decide),Rat.mul_zero,Rat.add_zero]
  by_cases hz:sh k=0
  ·unfold lv
   rw [hz,Rat.mul_zero,Rat.mul_zero]
  ·rw [pB hs hk hz hl h3,pB hs hk hz hl Rat.le_refl]
 ·rw [if_pos rfl]
  obtain ⟨h5,h6⟩:=lat_t.1 hl;have hp:=rV hs hk h5
  have h7:high≤rm k / sh k:=by
   rcases hh.h with ⟨h9,_⟩|⟨_,_,h9⟩
   ·exact absurd h9 h2
   ·exact h9 k hk hl
  have h8:=(uA hp).1 (Rat.le_trans h4 h7);have h9:=(uA hp).1 (Rat.le_trans h3 (Rat.le_trans h4 h7))
  unfold lv
  split
  ·split
   ·grind
   ·grind
  ·split
   ·grind
   ·grind
theorem Rhi.spos (hs:Hs n rm sh) (hh:Rhi rm sh low n high s) (h2:high≠low):0<s:=by
 rcases hh.h with ⟨h9,_⟩|⟨_,⟨i,h3,h4,_⟩,_⟩
 ·exact absurd h9 h2
 ·have h5:=zG (f:=fun i=>if lat rm sh low i=true then sh i else 0) (n:=n) (k:=i) (fun k hk=>by
   show 0≤if lat rm sh low k=true then sh k else 0
   split
   ·exact hs.sh k hk
   ·exact Rat.le_refl) h3
  have h6:=rV hs h3 (lat_t.1 h4).1;rw [← hh.s] at h5;simp only [h4,if_true] at h5
  grind
theorem Rte.done3 (hs:Hs n rm sh) (h:Rte n rm sh M r low) (hh:Rhi rm sh low n high s) (h2:high≠low) (hg:M≤gnd n rm sh high):Pur n rm sh M (lv rm sh (low+(M-gnd n rm sh low) / s)) 0:=by
 have hp:=hh.spos hs h2
 have h3:low≤high:=by
  rcases hh.h with ⟨h9,_⟩|⟨h9,_⟩
  ·exact absurd h9 h2
  ·exact Rat.le_of_lt h9
 have h4:=uB hs h.u0 hh h2 h3 Rat.le_refl;have h5:=h.le;have h6:0≤(M-gnd n rm sh low) / s:=(uA hp).2 (by grind);have h7:(M-gnd n rm sh low) / s≤high-low:=(yN hp).2 (by grind);have h8:=uB hs h.u0 hh h2 (u:=low+(M-gnd n rm sh low) / s) (by grind) (by grind)
 have h9:gnd n rm sh (low+(M-gnd n rm sh low) / s)=M:=by
  rw [h8,show low+(M-gnd n rm sh low) / s-low=(M-gnd n rm sh low) / s by grind,Rat.div_mul_cancel (fun h9=>by rw [h9] at hp;exact Rat.lt_irrefl hp)]
  grind
 refine ⟨⟨_,?_,fun k _=>rfl⟩,Rat.le_refl,?_,fun h9=>absurd rfl h9⟩
 ·have:=h.u0
  grind
 ·show 0+gnd n rm sh _=M
  rw [h9,Rat.zero_add]
theorem Rte.next (hs:Hs n rm sh) (h:Rte n rm sh M r low) (hh:Rhi rm sh low n high s) (h2:high≠low) (hg:gnd n rm sh high<M):Rte n rm sh M (r+1) high:=by
 rcases hh.h with ⟨h9,_⟩|⟨h3,⟨i,h4,h5,h6⟩,h7⟩
 ·exact absurd h9 h2
 ·refine ⟨Rat.le_trans h.u0 (Rat.le_of_lt h3),Rat.le_of_lt hg,?_,.inr ⟨i,h4,(lat_t.1 h5).1,h6.symm⟩⟩
  have h8:=yT (rm:=rm) (sh:=sh) (low:=low) (high:=high) (fun k hk=>lat_t.2 ⟨(lat_t.1 hk).1,(by have h9:=(lat_t.1 hk).2;grind)⟩) h4 h5 (by
   rcases h9:lat rm sh high i with _|_
   ·rfl
   ·have:=(lat_t.1 h9).2
    rw [h6] at this
    exact absurd this Rat.lt_irrefl)
  have:=h.cn
  omega
end
section
variable {n:Nat} {rm sh:Nat→Rat} {M low:Rat}
theorem rZ (rm sh:Nat→Rat) (low:Rat):∀ k,∃ high s,Rhi rm sh low k high s
 | 0=>⟨_,_,Rhi.start⟩
 | k+1=>by
  obtain ⟨high,s,h⟩:=rZ rm sh low k
  rcases hl:lat rm sh low k with _|_
  ·exact ⟨_,_,h.skip hl⟩
  ·by_cases hh:high=low∨rm k / sh k<high
   ·exact ⟨_,_,h.new hl hh⟩
   ·exact ⟨_,_,h.keep hl (fun h9=>hh (.inl h9)) (fun h9=>hh (.inr h9))⟩
theorem qXy (hs:Hs n rm sh):∀ (m r:Nat) (low:Rat),n-r≤m→Rte n rm sh M r low→∃ P left,Pur n rm sh M P left:=fun m=>by
 induction m with
 | zero =>
  intro r low hm h;obtain ⟨high,s,hh⟩:=rZ rm sh low n
  by_cases h1:M≤gnd n rm sh low
  ·exact ⟨_,_,h.done1 h1⟩
  by_cases h2:high=low
  ·rw [h2] at hh
   exact ⟨_,_,h.done2 hs hh⟩
  by_cases h3:M≤gnd n rm sh high
  ·exact ⟨_,_,h.done3 hs hh h2 h3⟩
  ·have h4:=h.next hs hh h2 (Rat.not_le.1 h3)
   have:=h4.cn
   omega
 | succ m ih =>
  intro r low hm h;obtain ⟨high,s,hh⟩:=rZ rm sh low n
  by_cases h1:M≤gnd n rm sh low
  ·exact ⟨_,_,h.done1 h1⟩
  by_cases h2:high=low
  ·rw [h2] at hh
   exact ⟨_,_,h.done2 hs hh⟩
  by_cases h3:M≤gnd n rm sh high
  ·exact ⟨_,_,h.done3 hs hh h2 h3⟩
  ·have h4:=h.next hs hh h2 (Rat.not_le.1 h3)
   have:=h4.cn;exact ih (r+1) high (by omega) h4
theorem qYd (hs:Hs n rm sh) (hM:0≤M):∃ P left,Pur n rm sh M P left:=qXy hs _ 0 0 (Nat.le_refl _) (Rte.start hs hM)
end
theorem qVb {a b:Rat} (ha:0≤a) (hb:0≤b):0≤mn a b:=by
 unfold mn
 split <;> assumption
section
variable {p:Tr} {l:List Ho} {a:Rat}
theorem Okp.g0 (h:Okp p l) (ha:0≤a):0≤gn p l a:=qVb ha (by have:=h.sum;grind)
theorem Okp.pur (h:Okp p l) (ha:0≤a):Pur l.length (rmh l) (sr l) (gn p l a) (pou l (gn p l a)) (gn p l a-sm l.length (pou l (gn p l a))):=by
 obtain ⟨P,left,h1⟩:=qYd h.holds (h.g0 ha);exact qYe h.holds h1
theorem Okp.pnn (h:Okp p l) (ha:0≤a) {k:Nat} (hk:k<l.length):0≤pou l (gn p l a) k:=(h.pur ha).nn h.holds hk
theorem Okp.prm (h:Okp p l) (ha:0≤a) {k:Nat} (hk:k<l.length):pou l (gn p l a) k≤mx l k-ct l k:=(h.pur ha).le hk
theorem Okp.psum (h:Okp p l) (ha:0≤a):sm l.length (pou l (gn p l a))≤gn p l a:=by
 have:=(h.pur ha).pos
 grind
theorem gn_a (p:Tr) (l:List Ho) (a:Rat):gn p l a≤a:=mn_l _ _
theorem gn_c (p:Tr) (l:List Ho) (a:Rat):gn p l a≤trq p-thr l:=mn_r _ _
theorem Okp.psa (h:Okp p l) (ha:0≤a):sm l.length (pou l (gn p l a))≤a:=Rat.le_trans (h.psum ha) (gn_a p l a)
theorem Okp.fi (h:Okp p l) (ha:0≤a):Okp p (fiD p l a).l:=by
 refine h.stc (fun k hk=>?_) (fun k hk=>?_) ?_
 ·have h1:=h.pnn ha hk
  have h2:=h.c0 hk
  grind
 ·have h1:=h.prm ha hk
  grind
 ·rw [jL]
  have h1:=h.psum ha;have h2:=gn_c p l a
  show thr l+_≤_
  grind
theorem wF (p:Tr) (l:List Ho) (a:Rat):thr (fiD p l a).l=thr l+sm l.length (pou l (gn p l a)):=by
 show thr (stc l _)=_
 rw [oJ,jL]
 rfl
theorem Okp.ta (h:Okp p l) {f:Nat→Rat} (h0:∀ k,k<l.length→0≤f k) (h1:∀ k,k<l.length→f k≤ct l k) (r:Rat):Okp p (taD p l f r).l:=by
 refine h.stc (fun k hk=>?_) (fun k hk=>?_) ?_
 ·have:=h1 k hk
  grind
 ·have:=h0 k hk
  have:=h.le k hk
  grind
 ·rw [oN]
  have:=qM h0;have:=h.sum
  show thr l-_≤_
  grind
theorem oI (p:Tr) (l:List Ho) (f:Nat→Rat) (r:Rat):thr (taD p l f r).l=thr l-sm l.length f:=by
 show thr (stc l _)=_
 rw [oJ,oN]
 rfl
theorem xF (x y:Rat):bP x y≤x:=by
 rw [kD];exact mn_l x y
theorem sO (x y:Rat):bP x y≤y:=by
 rw [kD];exact mn_r x y
theorem oY {x y:Rat} (hx:0≤x) (hy:0≤y):0≤bP x y:=by
 rw [kD];exact qVb hx hy
theorem sP (x y:Rat):(y≤x∧gG x y=x)∨(x<y∧gG x y=y):=by
 unfold gG
 by_cases h:y≤x
 ·exact .inl ⟨h,if_pos (cmpR_ge.2 h)⟩
 ·exact .inr ⟨Rat.not_le.1 h,if_neg (fun h9=>h (cmpR_ge.1 h9))⟩
theorem sS (h:Okp p l) (ha:0≤a) {k:Nat} (hk:k<l.length):0≤loF l a k∧loF l a k≤ct l k:=by
 unfold loF
 have h0:=h.c0 hk;have ht:=h.t0
 by_cases hz:thr l=0
 ·rw [hz,Rat.div_def,Rat.inv_zero,Rat.mul_zero,Rat.mul_zero]
  exact ⟨Rat.le_refl,h0⟩
 ·have hp:0<thr l:=by
   rcases Rat.le_iff_lt_or_eq.1 ht with h1|h1
   ·exact h1
   ·exact absurd h1.symm hz
  have h1:0≤bP a (thr l) / thr l:=(uA hp).2 (by rw [Rat.zero_mul];exact oY ha ht);have h2:bP a (thr l) / thr l≤1:=(yN hp).2 (by rw [Rat.one_mul];exact sO _ _);refine ⟨Rat.mul_nonneg h0 h1,?_⟩;have h3:=Rat.mul_le_mul_of_nonneg_left h2 h0
  rwa [Rat.mul_one] at h3
theorem tY (h:Okp p l) (ha:0≤a):sm l.length (loF l a)=bP a (thr l):=by
 unfold loF
 rw [zH]
 show thr l * _=_
 by_cases hz:thr l=0
 ·rw [hz,Rat.zero_mul]
  have h1:=sO a 0;have h2:=oY ha (Rat.le_refl (a:=0))
  grind
 ·rw [Rat.mul_comm]
  exact Rat.div_mul_cancel hz
theorem mM (h:Okp p l) {ws:List Tr} (hw:∀ k,k<ws.length→fnT (xt ws k)=true) (hl:ws.length=l.length) {k:Nat} (hk:k<l.length):0≤reF l ws k∧reF l ws k≤ct l k :=
 ⟨oY (fT (hw k (by omega))) (h.c0 hk),sO _ _⟩
theorem tJ (h:Okp p l) {t:Rat} (ht:0≤t) {k:Nat} (hk:k<l.length):0≤caF l t k∧caF l t k≤ct l k:=by
 have h0:=h.c0 hk;have h1:0≤mx l k:=Rat.le_trans h0 (h.le k hk);have h2:=Rat.mul_nonneg ht h1
 unfold caF
 rcases sP 0 (ct l k-t * mx l k) with ⟨_,h3⟩|⟨h3,h4⟩
 ·rw [h3]
  exact ⟨Rat.le_refl,h0⟩
 ·rw [h4]
  exact ⟨Rat.le_of_lt h3,by grind⟩
theorem Okp.ca (h:Okp p l) {t:Rat} (ht:0≤t):Okp p (caL l t) :=
 h.ta (fun k hk=>(tJ h ht hk).1) (fun k hk=>(tJ h ht hk).2) 0
theorem eR (l:List Ho) (t:Rat):(caL l t).length=l.length:=dP _ _
end
/-! ### sizes of what is handed back -/
section
variable {p:Tr} {l:List Ho} {a:Rat}
theorem Okp.psz (h:Okp p l) (ha:0≤a) (hn:l.length≤8) {B C:Nat} (hB:Szp l B) (hp:tz p.2.1 p.2.2 B) (h1:1≤B) (hC:szR a C) (h9:9 * B+10≤C) {k:Nat} (hk:k<l.length):szR (pou l (gn p l a) k) (C+26 * B+30):=by
 refine (h.pur ha).sz h.holds hn (fun k _=>hB.rm h1 k) (fun k _=>hB.sr h1 k) ?_ h1 hk;refine mn_sz hC ((cX (cV rfl hp h1) (hB.thr h1 hn)).mono ?_)
 omega
theorem Okp.fsz (h:Okp p l) (ha:0≤a) (hn:l.length≤8) {B C:Nat} (hB:Szp l B) (hp:tz p.2.1 p.2.2 B) (h1:1≤B) (hC:szR a C) (h9:9 * B+10≤C):Szp (fiD p l a).l (C+27 * B+31):=by
 refine hB.stc (by omega) fun k hk=>?_;exact (lS (hB.ct h1 k) (h.psz ha hn hB hp h1 hC h9 hk)).mono (by omega)
theorem qJ {f:Nat→Rat} (r:Rat) {B C:Nat} (hB:Szp l B) (h1:1≤B) (hf:∀ k,k<l.length→szR (f k) C):Szp (taD p l f r).l (B+C+1):=by
 refine hB.stc (by omega) fun k hk=>?_;exact (cX (hB.ct h1 k) (hf k hk)).mono (by omega)
theorem sA {ws:List Tr} {B:Nat} (hB:Szp l B) (h1:1≤B) (hw:∀ k,tz (xt ws k).2.1 (xt ws k).2.2 B) (k:Nat):szR (reF l ws k) B :=
 gL (cV rfl (hw k) h1) (hB.ct h1 k) (Nat.le_refl _) (Nat.le_refl _)
theorem sR {B:Nat} (hB:Szp l B) (h1:1≤B) (hn:l.length≤8) (ha:szR a (8 * B+9)) (k:Nat):szR (loF l a k) (17 * B+18):=by
 have ht:szR (thr l) (8 * B+9):=hB.thr h1 hn;exact (gX (hB.ct h1 k) (lR (gL ha ht (Nat.le_refl _) (Nat.le_refl _)) ht)).mono (by omega)
theorem tI {t:Rat} {B:Nat} (hB:Szp l B) (h1:1≤B) (ht:szR t B) (k:Nat):szR (caF l t k) (3 * B+1) :=
 wH szR_zero ((cX (hB.ct h1 k) (gX ht (hB.mx h1 k))).mono (by omega)) (by omega) (Nat.le_refl _)
end
end Go.Proofs.YtnfpenhldlfafaaGreatDoor

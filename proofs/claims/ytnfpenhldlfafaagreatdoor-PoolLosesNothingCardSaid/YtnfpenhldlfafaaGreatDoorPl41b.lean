/- Layer 41: two amounts, one after the other; losses in propor -/
import Derived.Test.YtnfpenhldlfafaaGreatDoorPl31
set_option linter.unusedSimpArgs false
set_option linter.unusedVariables false
set_option maxRecDepth 100000
set_option maxHeartbeats 1600000
namespace Go.Proofs.YtnfpenhldlfafaaGreatDoor
/-! ### sums and order -/
theorem mH {f g:Nat→Rat}:∀ {n:Nat},(∀ k,k<n→f k≤g k)→sm n f≤sm n g
 | 0,_=>Rat.le_refl
 | n+1,h=>by
  rw [cB,cB]
  have h1:=mH (n:=n) fun k hk=>h k (by omega)
  have h2:=h n (by omega)
  grind
theorem qM {f:Nat→Rat} {n:Nat} (h:∀ k,k<n→0≤f k):0≤sm n f:=by
 have h1:=mH (f:=fun _=>0) (g:=f) h
 rwa [oP] at h1
theorem oN (f g:Nat→Rat):∀ (n:Nat),sm n (fun i=>f i-g i)=sm n f-sm n g
 | 0=>by
  show (0:Rat)=0-0
  grind
 | n+1=>by
  rw [cB,cB,cB,oN f g n]
  grind
theorem oQ {f g:Nat→Rat}:∀ {n:Nat},(∀ k,k<n→f k≤g k)→sm n g≤sm n f→∀ k,k<n→f k=g k
 | 0,_,_=>fun k hk=>absurd hk (Nat.not_lt_zero k)
 | n+1,h,hs=>fun k hk=>by
  rw [cB,cB] at hs
  have h1:=mH (n:=n) fun k hk=>h k (by omega)
  have h2:=h n (by omega)
  rcases Nat.lt_or_ge k n with h3|h3
  ·exact oQ (n:=n) (fun k hk=>h k (by omega)) (by grind) k h3
  ·obtain rfl:k=n:=by omega
   grind
theorem sm_z {f:Nat→Rat} {n:Nat} (h:∀ k,k<n→0≤f k) (hs:sm n f=0) (k:Nat) (hk:k<n):f k=0 :=
 (oQ (f:=fun _=>0) (g:=f) h (by rw [hs,oP];exact Rat.le_refl) k hk).symm
theorem zG {f:Nat→Rat} {n k:Nat} (h:∀ k,k<n→0≤f k) (hk:k<n):f k≤sm n f:=by
 have h1:=mH (n:=n) (f:=fun i=>if i=k then f k else 0) (g:=f) fun i hi=>by
  by_cases h9:i=k
  ·subst h9
   rw [if_pos rfl];exact Rat.le_refl
  ·rw [if_neg h9]
   exact h i hi
 rw [qXs (k:=k) hk (fun i _ hne=>if_neg hne),if_pos rfl] at h1;exact h1
theorem gO {u v s:Rat} (h:u≤v) (hs:0≤s):u * s≤v * s:=Rat.mul_le_mul_of_nonneg_right h hs
/-! ### a level -/
def lv (rm sh:Nat→Rat) (u:Rat) (k:Nat):Rat:=if rm k≤u * sh k then rm k else u * sh k
structure Hs (n:Nat) (rm sh:Nat→Rat):Prop where
 rm:∀ k,k<n→0≤rm k
 sh:∀ k,k<n→0≤sh k
theorem qVd (rm sh:Nat→Rat) (u:Rat) (k:Nat):lv rm sh u k≤rm k:=by
 unfold lv
 split
 ·exact Rat.le_refl
 ·rename_i h
  exact Rat.le_of_lt (Rat.not_le.1 h)
theorem qVc (rm sh:Nat→Rat) (u:Rat) (k:Nat):lv rm sh u k≤u * sh k:=by
 unfold lv
 split
 ·rename_i h
  exact h
 ·exact Rat.le_refl
theorem lv_nn {n:Nat} {rm sh:Nat→Rat} (h:Hs n rm sh) {u:Rat} (hu:0≤u) {k:Nat} (hk:k<n):0≤lv rm sh u k:=by
 unfold lv
 split
 ·exact h.rm k hk
 ·exact Rat.mul_nonneg hu (h.sh k hk)
theorem tW {n:Nat} {rm sh:Nat→Rat} (h:Hs n rm sh) {u v:Rat} (huv:u≤v) {k:Nat} (hk:k<n):lv rm sh u k≤lv rm sh v k:=by
 have h1:=qVd rm sh u k;have h2:=qVc rm sh u k;have h3:=gO huv (h.sh k hk)
 unfold lv at h1 h2 ⊢
 grind
/-! ### what is poured -/
structure Pur (n:Nat) (rm sh:Nat→Rat) (L:Rat) (P:Nat→Rat) (left:Rat):Prop where
 lev:∃ u,0≤u∧∀ k,k<n→P k=lv rm sh u k
 pos:0≤left
 sum:left+sm n P=L
 full:left≠0→∀ k,k<n→sh k≠0→P k=rm k
theorem Pur.le {n:Nat} {rm sh:Nat→Rat} {L:Rat} {P:Nat→Rat} {left:Rat} (h:Pur n rm sh L P left) {k:Nat} (hk:k<n):P k≤rm k:=by
 obtain ⟨u,_,h1⟩:=h.lev;rw [h1 k hk];exact qVd _ _ _ _
theorem Pur.nn {n:Nat} {rm sh:Nat→Rat} (hs:Hs n rm sh) {L:Rat} {P:Nat→Rat} {left:Rat} (h:Pur n rm sh L P left) {k:Nat} (hk:k<n):0≤P k:=by
 obtain ⟨u,hu,h1⟩:=h.lev;rw [h1 k hk];exact lv_nn hs hu hk
theorem Pur.none {n:Nat} {rm sh:Nat→Rat} (hs:Hs n rm sh) {L:Rat} {P:Nat→Rat} {left:Rat} (h:Pur n rm sh L P left) {k:Nat} (hk:k<n) (h0:sh k=0):P k=0:=by
 obtain ⟨u,_,h1⟩:=h.lev;have h2:=qVc rm sh u k;rw [h0,Rat.mul_zero,← h1 k hk] at h2;have h3:=h.nn hs hk
 grind
theorem Pur.max {n:Nat} {rm sh:Nat→Rat} (hs:Hs n rm sh) {L:Rat} {P:Nat→Rat} {left:Rat} (h:Pur n rm sh L P left) (hl:left≠0) {L':Rat} {P':Nat→Rat} {left':Rat} (h':Pur n rm sh L' P' left') {k:Nat} (hk:k<n):P' k≤P k:=by
 by_cases h0:sh k=0
 ·rw [h.none hs hk h0,h'.none hs hk h0]
  exact Rat.le_refl
 ·rw [h.full hl k hk h0]
  exact h'.le hk
theorem Pur.cmp {n:Nat} {rm sh:Nat→Rat} (hs:Hs n rm sh) {L L':Rat} {P P':Nat→Rat} {left left':Rat} (h:Pur n rm sh L P left) (h':Pur n rm sh L' P' left'):(∀ k,k<n→P k≤P' k)∨(∀ k,k<n→P' k≤P k):=by
 obtain ⟨u,_,h1⟩:=h.lev;obtain ⟨v,_,h2⟩:=h'.lev
 rcases Rat.le_total (a:=u) (b:=v) with h3|h3
 ·exact .inl fun k hk=>by
   rw [h1 k hk,h2 k hk];exact tW hs h3 hk
 ·exact .inr fun k hk=>by
   rw [h1 k hk,h2 k hk];exact tW hs h3 hk
theorem Pur.uniq {n:Nat} {rm sh:Nat→Rat} (hs:Hs n rm sh) {L:Rat} {P P':Nat→Rat} {left left':Rat} (h:Pur n rm sh L P left) (h':Pur n rm sh L P' left'):left=left'∧∀ k,k<n→P k=P' k:=by
 have key:∀ {P P':Nat→Rat} {left left':Rat},Pur n rm sh L P left→Pur n rm sh L P' left'→(∀ k,k<n→P k≤P' k)→left=left'∧∀ k,k<n→P k=P' k:=fun {P P' left left'} h h' hle=>by
  have hsum:=mH hle;have e1:=h.sum;have e2:=h'.sum
  by_cases hl:left=0
  ·have h3:=h'.pos
   have h4:left'=0:=by grind
   exact ⟨by rw [hl,h4],oQ hle (by grind)⟩
  ·have h5:=mH fun k hk=>h.max hs hl h' hk
   have h6:=oQ hle h5;have h7:=cP h6;exact ⟨by grind,h6⟩
 rcases h.cmp hs h' with h1|h1
 ·exact key h h' h1
 ·obtain ⟨a,b⟩:=key h' h h1
  exact ⟨a.symm,fun k hk=>(b k hk).symm⟩
/-! ### how it is poured -/
structure Puq (n:Nat) (rm sh:Nat→Rat) (L:Rat) (op:Nat→Bool) (P:Nat→Rat) (left u:Rat):Prop where
 u0:0≤u
 pos:0≤left
 opn:∀ k,k<n→op k=true→sh k≠0∧P k=0
 cls:∀ k,k<n→op k=false→(sh k≠0∧P k=rm k∧rm k≤u * sh k)∨(sh k=0∧P k=0)
 lev:u * sm n (fun k=>if op k=true then sh k else 0)≤left
 sum:left+sm n P=L
theorem Puq.start {n:Nat} {rm sh:Nat→Rat} {L:Rat} (hL:0≤L) {op:Nat→Bool} (hop:∀ k,k<n→(op k=true↔sh k≠0)) {P:Nat→Rat} (hP:∀ k,k<n→P k=0):Puq n rm sh L op P L 0:=by
 refine ⟨Rat.le_refl,hL,fun k hk h=>⟨(hop k hk).1 h,hP k hk⟩,fun k hk h=>.inr ⟨?_,hP k hk⟩,by rw [Rat.zero_mul];exact hL,by rw [oO hP,Rat.add_zero]⟩
 by_cases h0:sh k=0
 ·exact h0
 ·rw [(hop k hk).2 h0] at h
  cases h
section
variable {n:Nat} {rm sh:Nat→Rat} {L:Rat} {op:Nat→Bool} {P:Nat→Rat} {left u:Rat}
theorem Puq.shs (hs:Hs n rm sh):∀ k,k<n→0≤(if op k=true then sh k else 0):=fun k hk=>by
 split
 ·exact hs.sh k hk
 ·exact Rat.le_refl
theorem Puq.done0 (hs:Hs n rm sh) (h:Puq n rm sh L op P left u) (h0:sm n (fun k=>if op k=true then sh k else 0)=0):Pur n rm sh L P left:=by
 have hop:∀ k,k<n→op k=false:=fun k hk=>by
  rcases ho:op k with _|_
  ·rfl
  ·have h1:=sm_z (Puq.shs hs) h0 k hk
   simp only [ho,if_true] at h1;exact absurd h1 (h.opn k hk ho).1
 have hc:∀ k,k<n→P k=lv rm sh u k:=fun k hk=>by
  unfold lv
  rcases h.cls k hk (hop k hk) with ⟨_,h1,h2⟩|⟨h1,h2⟩
  ·rw [if_pos h2,h1]
  ·rw [h1,Rat.mul_zero,h2]
   have:=hs.rm k hk
   split
   ·grind
   ·rfl
 refine ⟨⟨u,h.u0,hc⟩,h.pos,h.sum,fun _ k hk h1=>?_⟩
 rcases h.cls k hk (hop k hk) with ⟨_,h2,_⟩|⟨h2,_⟩
 ·exact h2
 ·exact absurd h2 h1
theorem Puq.by_ (hs:Hs n rm sh) (h:Puq n rm sh L op P left u) (h0:sm n (fun k=>if op k=true then sh k else 0)≠0):u≤left / sm n (fun k=>if op k=true then sh k else 0)∧left / sm n (fun k=>if op k=true then sh k else 0) * sm n (fun k=>if op k=true then sh k else 0)=left:=by
 have hp:0<sm n (fun k=>if op k=true then sh k else 0):=by
  have:=qM (Puq.shs (op:=op) hs)
  rcases Rat.le_iff_lt_or_eq.1 this with h1|h1
  ·exact h1
  ·exact absurd h1.symm h0
 have e:left / sm n (fun k=>if op k=true then sh k else 0) * sm n (fun k=>if op k=true then sh k else 0)=left:=Rat.div_mul_cancel h0;refine ⟨?_,e⟩
 rcases Rat.le_total (a:=u) (b:=left / sm n (fun k=>if op k=true then sh k else 0)) with h1|h1
 ·exact h1
 ·have h2:=h.lev
  have h3:=gO h1 (Rat.le_of_lt hp);rw [e] at h3
  have h4:u * sm n (fun k=>if op k=true then sh k else 0)=left:=by grind
  have h5:u=left / sm n (fun k=>if op k=true then sh k else 0):=by
   rw [← h4,Rat.div_def,Rat.mul_assoc,Rat.mul_inv_cancel _ h0,Rat.mul_one]
  rw [← h5];exact Rat.le_refl
theorem Puq.done1 (hs:Hs n rm sh) (h:Puq n rm sh L op P left u) {b:Rat} (hb:u≤b) (hbs:b * sm n (fun k=>if op k=true then sh k else 0)=left) (hno:∀ k,k<n→op k=true→b * sh k<rm k) {P':Nat→Rat} (hP:∀ k,k<n→P' k=if op k=true then b * sh k else P k):Pur n rm sh L P' 0:=by
 have hb0:0≤b:=Rat.le_trans h.u0 hb;refine ⟨⟨b,hb0,fun k hk=>?_⟩,Rat.le_refl,?_,fun h9=>absurd rfl h9⟩
 ·rw [hP k hk]
  unfold lv
  rcases ho:op k with _|_
  ·rw [if_neg (by simp)]
   rcases h.cls k hk ho with ⟨_,h1,h2⟩|⟨h1,h2⟩
   ·rw [if_pos (Rat.le_trans h2 (gO hb (hs.sh k hk))),h1]
   ·rw [h1,Rat.mul_zero,h2]
    have:=hs.rm k hk
    split
    ·grind
    ·rfl
  ·rw [if_pos rfl,if_neg (Rat.not_le.2 (hno k hk ho))]
 ·have e1:sm n P'=sm n P+sm n (fun k=>b * if op k=true then sh k else 0):=by
   rw [← jL];refine cP fun k hk=>?_;rw [hP k hk]
   rcases ho:op k with _|_
   ·simp [Rat.add_zero,Rat.mul_zero]
   ·rw [if_pos rfl,if_pos rfl,(h.opn k hk ho).2,Rat.zero_add]
  rw [kY,hbs] at e1;have:=h.sum
  grind
theorem Puq.next (hs:Hs n rm sh) (h:Puq n rm sh L op P left u) {b:Rat} (hb:u≤b) (hbs:b * sm n (fun k=>if op k=true then sh k else 0)=left) {hit:Nat→Bool} (hh:∀ k,k<n→hit k=true→op k=true∧rm k≤b * sh k) {op':Nat→Bool} {P':Nat→Rat} (ho':∀ k,k<n→op' k=(op k && !hit k)) (hP:∀ k,k<n→P' k=if hit k=true then rm k else P k) {left':Rat} (hl:left'=left-sm n fun k=>if hit k=true then rm k else 0):Puq n rm sh L op' P' left' b:=by
 have hb0:0≤b:=Rat.le_trans h.u0 hb
 have e1:sm n (fun k=>if op' k=true then sh k else 0)=sm n (fun k=>if op k=true then sh k else 0)-sm n (fun k=>if hit k=true then sh k else 0):=by
  rw [← oN];refine cP fun k hk=>?_;rw [ho' k hk]
  rcases hhk:hit k with _|_
  ·rcases op k <;> simp <;> grind
  ·rw [(hh k hk hhk).1]
   simp
   grind
 have e2:sm n (fun k=>if hit k=true then rm k else 0)≤b * sm n (fun k=>if hit k=true then sh k else 0):=by
  rw [← kY];refine mH fun k hk=>?_
  rcases hhk:hit k with _|_
  ·simp [Rat.mul_zero]
  ·rw [if_pos rfl,if_pos rfl]
   exact (hh k hk hhk).2
 have e3:b * sm n (fun k=>if op' k=true then sh k else 0)≤left':=by
  rw [e1,hl]
  have:b * (sm n (fun k=>if op k=true then sh k else 0)-sm n (fun k=>if hit k=true then sh k else 0))=left-b * sm n (fun k=>if hit k=true then sh k else 0):=by
   rw [← hbs]
   grind
  rw [this]
  grind
 refine ⟨hb0,?_,fun k hk h1=>?_,fun k hk h1=>?_,e3,?_⟩
 ·exact Rat.le_trans (Rat.mul_nonneg hb0 (qM (Puq.shs hs))) e3
 ·rw [ho' k hk] at h1
  simp only [Bool.and_eq_true,Bool.not_eq_true'] at h1;rw [hP k hk,h1.2];exact h.opn k hk h1.1
 ·rw [hP k hk]
  rcases hhk:hit k with _|_
  ·rw [ho' k hk,hhk] at h1
   have h2:op k=false:=by simpa using h1
   rw [if_neg (by simp)]
   rcases h.cls k hk h2 with ⟨a1,a2,a3⟩|h3
   ·exact .inl ⟨a1,a2,Rat.le_trans a3 (gO hb (hs.sh k hk))⟩
   ·exact .inr h3
  ·obtain ⟨h2,h3⟩:=hh k hk hhk
   exact .inl ⟨(h.opn k hk h2).1,by rw [if_pos rfl],h3⟩
 ·have e4:sm n P'=sm n P+sm n (fun k=>if hit k=true then rm k else 0):=by
   rw [← jL];refine cP fun k hk=>?_;rw [hP k hk]
   rcases hhk:hit k with _|_
   ·simp [Rat.add_zero]
   ·rw [if_pos rfl,if_pos rfl,(h.opn k hk (hh k hk hhk).1).2,Rat.zero_add]
  have:=h.sum
  grind
end
def mn (a b:Rat):Rat:=if a≤b then a else b
theorem mn_l (a b:Rat):mn a b≤a:=by
 unfold mn
 grind
theorem mn_r (a b:Rat):mn a b≤b:=by
 unfold mn
 grind
section
variable {n:Nat} {rm sh:Nat→Rat}
end
end Go.Proofs.YtnfpenhldlfafaaGreatDoor

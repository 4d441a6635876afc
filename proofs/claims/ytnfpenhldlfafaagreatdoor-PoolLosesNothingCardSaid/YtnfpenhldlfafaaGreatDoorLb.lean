/- Drawn regions whose last operations each wait for all before -/
import Derived.Test.YtnfpenhldlfafaaGreatDoorMB
set_option linter.unusedSimpArgs false
set_option linter.unusedVariables false
set_option maxRecDepth 100000
set_option maxHeartbeats 1600000
namespace Go.Proofs.YtnfpenhldlfafaaGreatDoor
open Go.RowKit
section
variable {P:Program} {l:List Oper} {w:World}
theorem jU {Q':Exit→Act→World→Prop} (hB:lxB l=true):∀ (T:Nat) (listed:Array Bool) (a:Act) (w:World),T≤l.length→listed.size=l.length→(∀ k,k<l.length-T→listed.getD k true=true)→(∀ k,l.length-T≤k→k<l.length→listed.getD k true=false) →
  (∀ t,l.length-T≤t→t<l.length→∀ p,l.length-T≤p→p<t→inB (clo l) t p=true)→wpList P l.toArray Q' (l.drop (l.length-T)) a w→wpAny P .any l.toArray Q' T listed a w
 | 0,listed,a,w,_,hs,hall,hun,ht,h=>by
  rw [Nat.sub_zero,List.drop_length] at h;refine ⟨?_,h⟩
  apply List.eq_nil_iff_forall_not_mem.2
  intro i hi;obtain ⟨h0,o,ho,_⟩:=mem_ready.1 hi;have hlt:i<l.length:=(List.getElem?_eq_some_iff.1 (show l[i]?=some o by simpa using ho)).1;rw [hall i (by omega)] at h0
  cases h0
 | T+1,listed,a,w,hT,hs,hall,hun,ht,h=>by
  have getD_ft:∀ k,k<l.length→listed.getD k true=listed.getD k false:=fun k hk=>by
   simp only [Array.getD_eq_getD_getElem?,Array.getElem?_eq_getElem (hs ▸ hk),Option.getD_some]
  have hjl:l.length-(T+1)<l.length:=by omega
  obtain ⟨z,hz⟩:∃ z,l[l.length-(T+1)]?=some z:=⟨_,List.getElem?_eq_getElem hjl⟩
  have hdrop:l.drop (l.length-(T+1))=z :: l.drop (l.length-T):=by
   rw [List.drop_eq_getElem_cons hjl];rw [List.getElem?_eq_getElem hjl] at hz
   injection hz with hz
   rw [hz,show l.length-(T+1)+1=l.length-T by omega]
  rw [hdrop] at h;have hzu:=hun (l.length-(T+1)) (by omega) hjl
  have hr:l.length-(T+1)∈Region.ready .any l.toArray listed:=mem_ready.2 ⟨hzu,z,by simpa using hz,fun e he hb=>by
   have:=((fP hB).2 _ z hz).1 e he hb;rw [← getD_ft _ (by omega)]
   exact hall _ (by omega)⟩
  refine ⟨fun hnil=>?_,fun i hi=>?_⟩
  ·rw [hnil] at hr
   cases hr
  ·obtain ⟨hi0,o,ho,hdone⟩:=mem_ready.1 hi
   have ho':l[i]?=some o:=by simpa using ho
   have hil:i<l.length:=(List.getElem?_eq_some_iff.1 ho').1
   have:i=l.length-(T+1):=by
    rcases Nat.lt_trichotomy i (l.length-(T+1)) with h'|h'|h'
    ·rw [hall i h'] at hi0
     cases hi0
    ·exact h'
    ·exfalso
     have hin:=ht i (by omega) hil (l.length-(T+1)) (Nat.le_refl _) h';obtain ⟨hlt,e,he,hb,hor⟩:=((fP hB).2 i o ho').2.1 _ hin;have hon:=((fP hB).2 i o ho').1 e he hb;have hel:=hdone e he hb;rw [← getD_ft _ (by omega)] at hel
     rcases hor with hor|hor
     ·rw [hor,hzu] at hel
      cases hel
     ·rcases Nat.lt_or_ge e.on (l.length-(T+1)) with h9|h9
      ·have hk:=((fP hB).2 e.on _ (List.getElem?_eq_getElem (show e.on<l.length by omega))).2.1 _ hor
       omega
      ·rw [hun e.on h9 (by omega)] at hel
       cases hel
   subst this
   have hoz:o=z:=by
    rw [hz] at ho'
    injection ho' with ho'
    exact ho'.symm
   subst hoz
   have fin:∀ a' w',wpList P l.toArray Q' (l.drop (l.length-T)) a' w'→wpAny P .any l.toArray Q' T (listed.setIfInBounds (l.length-(T+1)) true) a' w':=fun a' w' hq'=>by
    refine jU hB T _ a' w' (by omega) (by simp [hs]) (fun k hk=>?_) (fun k h1 h2=>?_) (fun t h1 h2 p hp0 hp=>ht t (by omega) h2 p (by omega) hp) hq'
    ·by_cases hne:l.length-(T+1)=k
     ·subst hne
      simp [hs,hjl]
     ·rw [getD_set_ne true hne]
      exact hall k (by omega)
    ·rw [getD_set_ne true (by omega)]
     exact hun k (by omega) h2
   unfold wpOp
   simp only [ho]
   unfold wpList at h
   split
   ·rename_i hw
    rw [if_pos hw] at h;exact h.imp (Oper.wp_mono fin) (fun h=>h)
   ·rename_i hw
    rw [if_neg hw] at h;exact fin _ _ h
def oK (l:List Oper) (T:Nat):Bool:=decide (T≤l.length) && (List.range T).all fun i=>(List.range (l.length-T+i)).all fun p=>inB (clo l) (l.length-T+i) p
theorem tN (q:Nat) {Q':Exit→Act→World→Prop} {a:Act} {Z:Act→World→Prop} {A:Nat→Array Bool→Act→World→Prop} (T:Nat) (ss:List cE) (hB:lxB l=true) (hTl:T≤l.length) (ht:∀ t,l.length-T≤t→t<l.length→∀ p,p<l.length-T→p≠q→inB (clo l) t p=true)
  (hA:∀ fuel listed a w,(Region.ready .any l.toArray listed=[]→Q' .normal a w)∧(∀ i∈Region.ready .any l.toArray listed,wpOp P l.toArray Q' i (A fuel (listed.setIfInBounds i true)) a w)→A (fuel+1) listed a w)
  (hZ:∀ listed a w,T≤l.length→listed.size=l.length→(∀ k,k<l.length-T→listed.getD k true=true)→(∀ k,l.length-T≤k→k<l.length→listed.getD k true=false) →
   Z a w→A T listed a w)
  (hlz:∀ (listed:Array Bool) (oq:Oper) (a:Act) (X:World) (j:Nat) (o:Oper),q<l.length-T→l[q]?=some oq→l[j]?=some o→l.length-T≤j→j<l.length→listed.size=l.length→(∀ k,k<l.length-T→k≠q→listed.getD k true=true) →
   listed.getD q true=false→(∀ k,l.length-T≤k→k<l.length→listed.getD k true=false)→(∀ k p,k<l.length→(listed.getD k true=true∨k=j)→inB (clo l) k p=true→listed.getD p true=true) →
   (if Region.wanted oq (yielded l.toArray a.tmps)=true then ∃ v,cL P oq a Since X v∧Z (a.put oq.dst v) X else Z (a.put oq.dst undef) X)→wpOp P l.toArray Q' j (A (0+T) (listed.setIfInBounds j true)) a X)
  (hsq:∀ it∈its 0 (l.take (l.length-T)) ss,it.1=q→it.2.2=none)
  (hst:∀ S,some S∈ss→∀ v X Y,S v X→Since X Y→S v Y) (h:bK P l.toArray Since w Z (inB (clo l)) (its 0 (l.take (l.length-T)) ss) [] a):A l.toArray.size (Array.replicate l.toArray.size false) a { w with drawn:=w.drawn+1 }:=by
 obtain ⟨h1,h2,h3,h4⟩:=gA 0 (l.take (l.length-T)) ss
 have hdl:∀ k,k<l.length-T→(l.take (l.length-T))[k]?=l[k]?:=fun k hk=>by
  rw [List.getElem?_take_of_lt hk]
 have a60:(its 0 (l.take (l.length-T)) ss).length+T=l.length:=by rw [h3,List.length_take];omega
 have hlen:l.toArray.size=(its 0 (l.take (l.length-T)) ss).length+T:=by rw [a60];simp
 rw [hlen];refine lK (T:=T) q hB (fun _ _ h h'=>h.next h') hA ht hlz (fun listed a w hs hall hun hq=>hZ listed a w hTl hs hall hun hq) (its 0 (l.take (l.length-T)) ss).length _ (its 0 (l.take (l.length-T)) ss) [] a _ rfl ⟨h1,fun it hit=>?_,fun k o hkT hk _=>?_,fun k h1 h2=>by simp [a60,h2]⟩ (by simp [a60]) ?_ ?_ hsq (fun p F hp=>(by cases hp)) (show Since w w.drew from (Below.refl w.heap.size w).drew) h.out
 ·obtain ⟨_,a2,_⟩:=h2 it hit
  have a3:it.1<(l.take (l.length-T)).length:=(List.getElem?_eq_some_iff.1 (by simpa using a2)).1
  have a4:it.1<l.length-T:=by rw [List.length_take] at a3;omega
  have a5:it.1<l.length:=by omega
  refine ⟨?_,by simp [a60,a5],a4⟩;rw [← hdl _ a4]
  simpa using a2
 ·obtain ⟨s,hs⟩:=h4 k o (by rw [hdl k hkT];exact hk)
  exact ⟨s,by simpa using hs⟩
 ·intro k o hk hl
  have a5:k<l.length:=(List.getElem?_eq_some_iff.1 hk).1
  simp [a60,a5] at hl
 ·intro it hit S hS
  rcases (h2 it hit).2.2 with h'|h'
  ·rw [hS] at h'
   cases h'
  ·rw [hS] at h'
   exact hst S h'
theorem qI {T:Nat} (hT:oK l T=true):T≤l.length∧∀ t,l.length-T≤t→t<l.length→∀ p,p<t→inB (clo l) t p=true:=by
 unfold oK at hT
 rw [Bool.and_eq_true,decide_eq_true_eq] at hT;obtain ⟨hTl,hT⟩:=hT;refine ⟨hTl,fun t h1 h2 p hp=>?_⟩;have h3:=List.all_eq_true.1 (List.all_eq_true.1 hT (t-(l.length-T)) (List.mem_range.2 (by omega))) p (List.mem_range.2 (by omega))
 rwa [show l.length-T+(t-(l.length-T))=t by omega] at h3
theorem zD {Q':Exit→Act→World→Prop} {a:Act} {Z:Act→World→Prop} {A:Nat→Array Bool→Act→World→Prop} (T:Nat) (ss:List cE) (hB:lxB l=true) (hT:oK l T=true)
  (hA:∀ fuel listed a w,(Region.ready .any l.toArray listed=[]→Q' .normal a w)∧(∀ i∈Region.ready .any l.toArray listed,wpOp P l.toArray Q' i (A fuel (listed.setIfInBounds i true)) a w)→A (fuel+1) listed a w)
  (hZ:∀ listed a w,T≤l.length→listed.size=l.length→(∀ k,k<l.length-T→listed.getD k true=true)→(∀ k,l.length-T≤k→k<l.length→listed.getD k true=false) →
   (∀ t,l.length-T≤t→t<l.length→∀ p,p<t→inB (clo l) t p=true)→Z a w→A T listed a w)
  (hst:∀ S,some S∈ss→∀ v X Y,S v X→Since X Y→S v Y) (h:bK P l.toArray Since w Z (inB (clo l)) (its 0 (l.take (l.length-T)) ss) [] a):A l.toArray.size (Array.replicate l.toArray.size false) a { w with drawn:=w.drawn+1 }:=by
 obtain ⟨hTl,ht⟩:=qI hT
 exact tN l.length T ss hB hTl (fun t h1 h2 p hp _=>ht t h1 h2 p (by omega)) hA (fun listed a w h1 h2 h3 h4 h5=>hZ listed a w h1 h2 h3 h4 ht h5) (fun listed oq a X j o hq=>by omega) (fun it hit hq=>by
  obtain ⟨_,h2,_,_⟩:=gA 0 (l.take (l.length-T)) ss;have h9:=(h2 it hit).2.1;have h8:=(List.getElem?_eq_some_iff.1 (by simpa using h9)).1;rw [List.length_take] at h8
  omega) hst h
theorem xG {id:Nat} {Q':Exit→Act→World→Prop} {a:Act} (T:Nat) (ss:List cE) (hm:P.follows .mixedOrders=true) (hB:lxB l=true) (hT:oK l T=true)
  (hst:∀ S,some S∈ss→∀ v X Y,S v X→Since X Y→S v Y) (h:bK P l.toArray Since w (wpList P l.toArray Q' (l.drop (l.length-T))) (inB (clo l)) (its 0 (l.take (l.length-T)) ss) [] a):(Code.region id l.toArray true).wp P Q' a w :=
 wp_region_any hm (zD (A:=wpAny P .any l.toArray Q') T ss hB hT (fun _ _ _ _ h=>h) (fun listed a w hTl hs hall hun ht hq=>jU hB T listed a w hTl hs hall hun (fun t h1 h2 p _ hp=>ht t h1 h2 p hp) hq) hst h)
end
end Go.Proofs.YtnfpenhldlfafaaGreatDoor

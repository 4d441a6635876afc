/- account: contracts over values. -/
import Derived.Test.YtffgfkcljcollaaGreatDoorBi
set_option linter.unusedSimpArgs false
set_option linter.unusedVariables false
set_option maxRecDepth 100000
set_option maxHeartbeats 1600000
namespace Go.Proofs.YtffgfkcljcollaaGreatDoor
open Go.RowKit
theorem jB {l:List En} (h:Hid (∀ k,tz (en l k).am.2.1 (en l k).am.2.2 100)):Hid (∀ k,tz (en l k).am.2.1 (en l k).am.2.2 1000000):=fun k=>(h.out k).mono (by decide)
theorem szL {l:List En} (h:(l.all fun x=>few x.am.2.1 x.am.2.2 100)=true):Hid (∀ k,tz (en l k).am.2.1 (en l k).am.2.2 100):=fun k=>by
 rcases Nat.lt_or_ge k l.length with h1|h1
 ·have h2:=List.all_eq_true.1 h _ (List.getElem_mem h1)
  rw [iQ h1]
  unfold few at h2
  rw [Bool.and_eq_true] at h2;exact ⟨of_decide_eq_true h2.1,of_decide_eq_true h2.2⟩
 ·unfold en
  rw [List.getD_eq_getElem?_getD,List.getElem?_eq_none h1];exact mZ
theorem ckV (c:Int) (v:Value) (l:List En) (w:World) (hv:Es l v w) (hs:Hid (∀ k,tz (en l k).am.2.1 (en l k).am.2.2 1000000)) {E:Int} (hE:acE c l=E):Calls Tryz.prog 18 #[.agg #[vI c,v]] w fun e w'=>e=.returned (vI E)∧Since w w':=by
 subst hE;exact fR c v l w hv hs
theorem blVV (c:Int) (v:Value) (l:List En) (a day:Int) (w:World) (hv:Es l v w) (hs1:Hid (∀ k,tz (en l k).am.2.1 (en l k).am.2.2 100)) {E:Int} (hE:blE c l a day=E) {y:Rat} (hV:blV c l a day=y):Calls Tryz.prog 8 #[.agg #[vI c,v],vI a,vI day] w fun e w'=>e=.returned (.tuple #[rbv y,vI E])∧Since w w':=by
 subst hE hV;exact qXt c v l a day w hv hs1
theorem suV (c:Int) (v:Value) (l:List En) (f t k:Int) (w:World) (hv:Es l v w) (hs1:Hid (∀ k,tz (en l k).am.2.1 (en l k).am.2.2 100)) {E:Int} (hE:suE c l f t k=E) {N:List Rat} (hL:suL c l f t k=N):Calls Tryz.prog 10 #[.agg #[vI c,v],vI f,vI t,vI k] w fun e w'=>∃ u,e=.returned u∧Tp (Rq N) E u w'∧Since w w':=by
 subst hE hL;exact susC c v l f t k w hv hs1
theorem trV (c:Int) (v:Value) (l:List En) (a day:Int) (w:World) (hv:Es l v w) (hs1:Hid (∀ k,tz (en l k).am.2.1 (en l k).am.2.2 100)) {E:Int} (hE:blE c l a day=E) {N:List Int} (hL:trL c l a day=N):Calls Tryz.prog 12 #[.agg #[vI c,v],vI a,vI day] w fun e w'=>∃ u,e=.returned u∧Tp (Ks N) E u w'∧Since w w':=by
 subst hE hL;exact trcC c v l a day w hv hs1
theorem rvV (c:Int) (v:Value) (l:List En) (a day:Int) (w:World) (hv:Es l v w) (hs:Hid (∀ k,tz (en l k).am.2.1 (en l k).am.2.2 1000000)) {E:Int} (hE:rvE c l a day=E) {C:Int} (hC:ifz E c=C) {N:List En} (hL:rvL c l a day=N):Calls Tryz.prog 14 #[.agg #[vI c,v],vI a,vI day] w fun e w'=>∃ u,e=.returned u∧Tp (Bks C N) E u w'∧Since w w':=by
 subst hE hC hL;exact revC c v l a day w hv hs
theorem poV (c:Int) (v:Value) (l:List En) (x:En) (w:World) (hv:Es l v w) (hs:Hid (∀ k,tz (en l k).am.2.1 (en l k).am.2.2 1000000)) (hx:tz x.am.2.1 x.am.2.2 1000000) {E:Int} (hE:poE c l x=E) {C:Int} (hC:ifz E c=C) {N:List En} (hL:poL c l x=N):Calls Tryz.prog 6 #[.agg #[vI c,v],.agg #[vI x.day,vI x.deb,vI x.cre,.bool x.am.1,vS x.am.2.1,vS x.am.2.2,vI x.kd,vI x.pd,vI x.rf,vI x.w1,vI x.w2,vI x.w3,vI x.w4]] w fun e w'=>∃ u,e=.returned u∧Tp (Bks C N) E u w'∧Since w w':=by
 subst hE hC hL;exact pstC c v l x w hv hs hx
theorem ajV (c:Int) (v:Value) (l:List En) (q:Aj) (w:World) (hv:Es l v w) (hs:Hid (∀ k,tz (en l k).am.2.1 (en l k).am.2.2 1000000)) (hq:tz q.am.2.1 q.am.2.2 1000000) {E:Int} (hE:ajE c l q=E) {C:Int} (hC:ifz E c=C) {N:List En} (hL:ajL c l q=N):Calls Tryz.prog 16 #[.agg #[vI c,v],.agg #[vI q.day,vI q.ac,vI q.ag,vI q.pd,.bool q.am.1,vS q.am.2.1,vS q.am.2.2,vI q.w1,vI q.w2,vI q.w3,vI q.w4]] w fun e w'=>∃ u,e=.returned u∧Tp (Bks C N) E u w'∧Since w w':=by
 subst hE hC hL;exact adjC c v l q w hv hs hq
theorem rgV (c:Int) (v:Value) (l:List En) (x:En) (w:World) (hv:Es l v w) (hx:tz x.am.2.1 x.am.2.2 1000000) {b:Bool} (hb:rgt c l.length x=b):Calls Tryz.prog 20 #[.agg #[vI c,v],.agg #[vI x.day,vI x.deb,vI x.cre,.bool x.am.1,vS x.am.2.1,vS x.am.2.2,vI x.kd,vI x.pd,vI x.rf,vI x.w1,vI x.w2,vI x.w3,vI x.w4]] w fun e w'=>e=.returned (.bool b)∧Since w w':=by
 obtain ⟨A,n,cp,rfl,hln,hn1,_⟩:=hv.at;subst hb;rw [hln];exact lO c A n cp x w hn1 hx
theorem is44z (c:Int) (v:Value) (l:List En) (a day:Int) (w:World) (hv:Es l v w) (hs1:Hid (∀ k,tz (en l k).am.2.1 (en l k).am.2.2 100)) (hE:Hid (blE c l a day=0)) (hV:Hid (blV c l a day=0)):Calls Tryz.prog 28 #[.agg #[vI c,v],vI a,vI day,.agg #[.bool false,.string ⟨#[]⟩,.string ⟨#[]⟩]] w fun e w'=>e=.returned (.bool true)∧Since w w':=by
 rw [← gU];exact tP c v l a day 0 w hv hs1 hE hV
end Go.Proofs.YtffgfkcljcollaaGreatDoor

/- Arguments that are a pool, or a day of a pool. -/
import Derived.Lib.SmallJoins
import Derived.Deep.Strs
import Derived.Test.YtnfpenhldlfafaaGreatDoorOp
import Derived.Test.YtnfpenhldlfafaaGreatDoorHv41
set_option linter.unusedSimpArgs false
set_option linter.unusedVariables false
set_option maxRecDepth 100000
set_option maxHeartbeats 1600000
namespace Go.Proofs.YtnfpenhldlfafaaGreatDoor
open Go.ChangeShapes Go.WideShapes Go.RowKit
theorem nV {H:Type} {enc:TypeId×Value→H} {P:Program} {w:World} {t:TypeId} {base:Nat} {spare:Nat→Bool} {held:Bool} {fuel:Nat} {cs:List Value} {x:DataW H×List MemPlace} {f0 f1 f2:Field}
  (ht:P.underlying t=some (.struct #[f0,f1,f2])) (h0:P.underlying f0.type=some .bool) (h1:P.underlying f1.type=some .string) (h2:P.underlying f2.type=some .string)
  (c0:P.cellsOf f0.type=1) (c1:P.cellsOf f1.type=1) (c2:P.cellsOf f2.type=1) (o0:f0.offset=0) (o1:f1.offset=1) (o2:f2.offset=2) (hC:P.cellsOf t=3) (h:DataW.trod enc P w base spare held fuel t cs=some x) :
  ∃ (n:Bool) (p q:List UInt8),cs=[.bool n,vS p,vS q]∧p.length≤maxLen∧q.length≤maxLen:=by
 obtain ⟨y0,y1,y2,n,_,hl,k0,k1,k2⟩:=Go.Deep.trod_struct3 ht h;rw [hC] at hl;rw [c0,o0] at k0;rw [c1,o1] at k1;rw [c2,o2] at k2
 match cs,hl with
 | [a,b,c],_ =>
  obtain ⟨bv,e0,_⟩:=DataW.trod_bool h0 k0;obtain ⟨s1,e1,_,z1⟩:=DataW.trod_string h1 k1;obtain ⟨s2,e2,_,z2⟩:=DataW.trod_string h2 k2
  simp at e0 e1 e2
  obtain ⟨l1,rfl,w1⟩:=qK s1;obtain ⟨l2,rfl,w2⟩:=qK s2;exact ⟨bv,l1,l2,by rw [e0,e1,e2],by omega,by omega⟩
theorem wS {H:Type} {enc:TypeId×Value→H} {P:Program} {w:World} {t:TypeId} {r:Reach} {b0:Nat} {v:Value} {d:DataW H} {p:List MemPlace} {base:Nat} {spare:Nat→Bool} {held:Bool} {f0 f1 f2:Field}
  (ht:P.underlying t=some (.struct #[f0,f1,f2])) (h0:P.underlying f0.type=some .bool) (h1:P.underlying f1.type=some .string) (h2:P.underlying f2.type=some .string)
  (c0:P.cellsOf f0.type=1) (c1:P.cellsOf f1.type=1) (c2:P.cellsOf f2.type=1) (o0:f0.offset=0) (o1:f1.offset=1) (o2:f2.offset=2) (hC:P.cellsOf t=3)
  (hv:Value.okWide P w r b0 t v) (h:DataW.Trod enc P w base spare held t v d p) :
  ∃ (n:Bool) (p q:List UInt8),v=.agg #[.bool n,vS p,vS q]∧p.length≤maxLen∧q.length≤maxLen:=by
 obtain ⟨cs,rfl,_⟩:=okWide_struct ht hv;obtain ⟨fuel,hf⟩:=h;obtain ⟨n,p,q,e,hp,hq⟩:=nV ht h0 h1 h2 c0 c1 c2 o0 o1 o2 hC hf;refine ⟨n,p,q,?_,hp,hq⟩
 have e9:cs.toList=[.bool n,vS p,vS q]:=by simpa [Value.cells] using e
 rw [← e9]
theorem uN {H:Type} {enc:TypeId×Value→H} {P:Program} {w:World} {t e:TypeId} {a:Option Addr} {len cap:Nat} {d:DataW H} {p:List MemPlace} {α:Type} [Inhabited α] {g:α→List Value} {R:α→Prop} {m:Nat}
  (ht:P.underlying t=some (.slice e)) (hm:P.cellsOf e=m) (hm0:0<m) (hg:∀ y,(g y).length=m)
  (hop:∀ {base:Nat} {spare:Nat→Bool} {held:Bool} {fuel:Nat} {cs:List Value} {x:DataW H×List MemPlace},DataW.trod enc P w base spare held fuel e cs=some x→∃ y,cs=g y∧R y)
  (h:DataW.Trod enc P w 0 (fun _=>true) true t (.slice a len cap) d p):∃ ss:List α,ss.length=len∧Rd w m (.slice a len cap) len (fl g ss)∧∀ s∈ss,R s:=by
 obtain ⟨fuel,hf⟩:=h
 rcases Go.Deep.open_slice ht hf with ⟨hcs,_⟩|⟨x,l,c,k,n,D,Pl,hcs,_,hl,hmx,hk,hx,hel⟩
 ·simp [Value.cells] at hcs
  obtain ⟨rfl,rfl,rfl⟩:=hcs;exact ⟨[],rfl,Rd.nil_ w m,by simp⟩
 ·simp [Value.cells] at hcs
  obtain ⟨rfl,rfl,rfl⟩:=hcs
  have hlk:len≤k:=by rw [hk];split <;> omega
  have key:∀ i,i<len→∃ y:α,R y∧∀ r u,(g y)[r]?=some u→w.cell? (x.add (i * m+r))=some u:=by
   intro i hi;obtain ⟨cs',h1,h2⟩:=hel i (by omega);obtain ⟨y,rfl,hR⟩:=hop h2;refine ⟨y,hR,fun r u hu=>?_⟩;rw [hm] at h1;obtain ⟨_,_,h3⟩:=World.cells?_some h1
   have h4:r<m:=by have:=(List.getElem?_eq_some_iff.1 hu).1;rwa [hg] at this
   have:=h3 r h4;rw [Go.Deep.add_add,hu] at this;exact this
  obtain ⟨f,hf'⟩:=Go.Deep.choose_lt (α:=α) key
  have hall:∀ s∈(List.range len).map f,R s:=by
   intro s hs;obtain ⟨i,hi,rfl⟩:=List.mem_map.1 hs;exact (hf' i (List.mem_range.1 hi)).1
  refine ⟨(List.range len).map f,by simp,Rd.of_addr (by rw [jR (fun y _=>hg y)];simp) hm0 hl hmx (fun j u hj=>?_),hall⟩;obtain ⟨i,r,y,hi,hy,hr,rfl,hu⟩:=yC (fun y _=>hg y) hj
  simp at hi
  simp [hi] at hy
  subst hy;exact (hf' i hi).2 r u hu
theorem jN {H:Type} {enc':TypeId×Value→H} {w:World} {base:Nat} {spare:Nat→Bool} {held:Bool} {fuel:Nat} {cs:List Value} {x:DataW H×List MemPlace} (h:DataW.trod enc' Tryz.prog w base spare held fuel 23 cs=some x):∃ y:Tr,cs=trc y∧True:=by
 obtain ⟨rn,rp,rq,e,_,_⟩:=nV Tryz.underlying23 Tryz.underlying4 Tryz.underlying9 Tryz.underlying9 (by kernel_rfl) (by kernel_rfl) (by kernel_rfl) rfl rfl rfl (by kernel_rfl) h;exact ⟨(rn,rp,rq),e,trivial⟩
theorem pM {H:Type} {enc':TypeId×Value→H} {w:World} {base:Nat} {spare:Nat→Bool} {held:Bool} {fuel:Nat} {cs:List Value} {x:DataW H×List MemPlace} (h:DataW.trod enc' Tryz.prog w base spare held fuel 66 cs=some x):∃ y:Ho,cs=hoc y∧True:=by
 obtain ⟨y0,y1,y2,n,_,hl,k0,k1,k2⟩:=Go.Deep.trod_struct3 Tryz.underlying66 h
 have hC:Tryz.prog.cellsOf 66=9:=by kernel_rfl
 have c0:Tryz.prog.cellsOf 23=3:=by kernel_rfl
 rw [hC] at hl
 have k0:DataW.trod enc' Tryz.prog w base spare held n 23 ((cs.drop 0).take 3)=some y0:=by rw [← c0];exact k0
 have k1:DataW.trod enc' Tryz.prog w base spare held n 23 ((cs.drop 3).take 3)=some y1:=by rw [← c0];exact k1
 have k2:DataW.trod enc' Tryz.prog w base spare held n 23 ((cs.drop 6).take 3)=some y2:=by rw [← c0];exact k2
 match cs,hl with
 | [a,b,c,d,e,f,g,i,j],_ =>
  obtain ⟨⟨a1,a2,a3⟩,e0,_⟩:=jN k0;obtain ⟨⟨b1,b2,b3⟩,e1,_⟩:=jN k1;obtain ⟨⟨c1,c2,c3⟩,e2,_⟩:=jN k2
  simp [trc] at e0 e1 e2
  obtain ⟨rfl,rfl,rfl⟩:=e0;obtain ⟨rfl,rfl,rfl⟩:=e1;obtain ⟨rfl,rfl,rfl⟩:=e2;exact ⟨⟨(a1,a2,a3),(b1,b2,b3),(c1,c2,c3)⟩,rfl,trivial⟩
theorem pL {H:Type} {enc':TypeId×Value→H} {w:World} {A:Option Addr} {m c:Nat} {d:DataW H} {p:List MemPlace} (h:DataW.Trod enc' Tryz.prog w 0 (fun _=>true) true 24 (.slice A m c) d p):∃ l:List Ho,Hl l (.slice A m c) w:=by
 obtain ⟨l,h1,h2,h3⟩:=uN (g:=hoc) (R:=fun _=>True) (m:=9) Tryz.underlying24 (by kernel_rfl) (by omega) iC (fun h=>pM h) h;refine ⟨l,?_⟩
 show Rd _ 9 _ _ _
 rw [h1];exact h2
theorem qP {H:Type} {enc':TypeId×Value→H} {w:World} {A:Option Addr} {m c:Nat} {d:DataW H} {p:List MemPlace} (h:DataW.Trod enc' Tryz.prog w 0 (fun _=>true) true 27 (.slice A m c) d p):∃ l:List Tr,Rl l (.slice A m c) w:=by
 obtain ⟨l,h1,h2,h3⟩:=uN (g:=trc) (R:=fun _=>True) (m:=3) Tryz.underlying27 (by kernel_rfl) (by omega) lQ (fun h=>jN h) h;refine ⟨l,?_⟩
 show Rd _ 3 _ _ _
 rw [h1];exact h2
theorem jX {H:Type} {enc':TypeId×Value→H} {w:World} {t e:TypeId} {n:Nat} {v:Value} {x:DataW H×List MemPlace} (ht:Tryz.prog.underlying t=some (.slice e)) (k:DataW.trod enc' Tryz.prog w 0 (fun _=>true) true n t [v]=some x):∃ A m c,v=.slice A m c:=by
 rcases Go.Deep.open_slice ht k with ⟨h1,_⟩|⟨_,_,_,_,_,_,_,h1,_⟩
 ·simp at h1
  exact ⟨_,_,_,h1⟩
 ·simp at h1
  exact ⟨_,_,_,h1⟩
theorem uU {H:Type} {enc':TypeId×Value→H} {w:World} {r:Reach} {b0:Nat} {v:Value} {d:DataW H} {p:List MemPlace}
  (hv:Value.okWide Tryz.prog w r b0 26 v) (h:DataW.Trod enc' Tryz.prog w 0 (fun _=>true) true 26 v d p):∃ (p:Tr) (u:Value) (l:List Ho),v=.agg #[.bool p.1,vS p.2.1,vS p.2.2,u]∧Hl l u w:=by
 obtain ⟨cs,rfl,_⟩:=okWide_struct Tryz.underlying26 hv;obtain ⟨fuel,hf⟩:=h;obtain ⟨y0,y1,n,_,hl,k0,k1⟩:=trod_struct2 Tryz.underlying26 hf
 have hC:Tryz.prog.cellsOf 26=4:=by kernel_rfl
 have c0:Tryz.prog.cellsOf 23=3:=by kernel_rfl
 have c1:Tryz.prog.cellsOf 24=1:=by kernel_rfl
 rw [hC] at hl
 have k0:DataW.trod enc' Tryz.prog w 0 (fun _=>true) true n 23 (((Value.agg cs).cells.toList.drop 0).take 3)=some y0:=by rw [← c0];exact k0
 have k1:DataW.trod enc' Tryz.prog w 0 (fun _=>true) true n 24 (((Value.agg cs).cells.toList.drop 3).take 1)=some y1:=by rw [← c1];exact k1
 have hcs:(Value.agg cs).cells=cs:=rfl;rw [hcs] at hl k0 k1
 obtain ⟨a,b,c,e,he⟩:∃ a b c e,cs.toList=[a,b,c,e]:=by
  match hc:cs.toList,hl with
  | [a,b,c,e],_=>exact ⟨a,b,c,e,rfl⟩
 rw [he] at k0 k1
 have e9:cs=#[a,b,c,e]:=by
  cases cs
  simp at he
  rw [he]
 have k0:DataW.trod enc' Tryz.prog w 0 (fun _=>true) true n 23 [a,b,c]=some y0:=k0;have k1:DataW.trod enc' Tryz.prog w 0 (fun _=>true) true n 24 [e]=some y1:=k1;obtain ⟨⟨t1,t2,t3⟩,e0,_⟩:=jN k0;obtain ⟨A,m,k,rfl⟩:=jX Tryz.underlying24 k1;obtain ⟨l,h3⟩:=pL (d:=y1.1) (p:=y1.2) ⟨n,k1⟩
 simp [trc] at e0
 obtain ⟨rfl,rfl,rfl⟩:=e0;exact ⟨(t1,t2,t3),_,l,by rw [e9],h3⟩
theorem yP {H:Type} {enc':TypeId×Value→H} {w:World} {r:Reach} {b0:Nat} {v:Value} {d:DataW H} {p:List MemPlace}
  (hv:Value.okWide Tryz.prog w r b0 29 v) (h:DataW.Trod enc' Tryz.prog w 0 (fun _=>true) true 29 v d p):∃ (i o:Tr) (u:Value) (l:List Tr),v=.agg #[.bool i.1,vS i.2.1,vS i.2.2,u,.bool o.1,vS o.2.1,vS o.2.2]∧Rl l u w:=by
 obtain ⟨cs,rfl,_⟩:=okWide_struct Tryz.underlying29 hv;obtain ⟨fuel,hf⟩:=h;obtain ⟨y0,y1,y2,n,_,hl,k0,k1,k2⟩:=Go.Deep.trod_struct3 Tryz.underlying29 hf
 have hC:Tryz.prog.cellsOf 29=7:=by kernel_rfl
 have c0:Tryz.prog.cellsOf 23=3:=by kernel_rfl
 have c1:Tryz.prog.cellsOf 27=1:=by kernel_rfl
 rw [hC] at hl
 have k0:DataW.trod enc' Tryz.prog w 0 (fun _=>true) true n 23 (((Value.agg cs).cells.toList.drop 0).take 3)=some y0:=by rw [← c0];exact k0
 have k1:DataW.trod enc' Tryz.prog w 0 (fun _=>true) true n 27 (((Value.agg cs).cells.toList.drop 3).take 1)=some y1:=by rw [← c1];exact k1
 have k2:DataW.trod enc' Tryz.prog w 0 (fun _=>true) true n 23 (((Value.agg cs).cells.toList.drop 4).take 3)=some y2:=by rw [← c0];exact k2
 have hcs:(Value.agg cs).cells=cs:=rfl;rw [hcs] at hl k0 k1 k2
 obtain ⟨a,b,c,e,f,g,i,he⟩:∃ a b c e f g i,cs.toList=[a,b,c,e,f,g,i]:=by
  match hc:cs.toList,hl with
  | [a,b,c,e,f,g,i],_=>exact ⟨a,b,c,e,f,g,i,rfl⟩
 rw [he] at k0 k1 k2
 have e9:cs=#[a,b,c,e,f,g,i]:=by
  cases cs
  simp at he
  rw [he]
 have k0:DataW.trod enc' Tryz.prog w 0 (fun _=>true) true n 23 [a,b,c]=some y0:=k0;have k1:DataW.trod enc' Tryz.prog w 0 (fun _=>true) true n 27 [e]=some y1:=k1;have k2:DataW.trod enc' Tryz.prog w 0 (fun _=>true) true n 23 [f,g,i]=some y2:=k2;obtain ⟨⟨t1,t2,t3⟩,e0,_⟩:=jN k0;obtain ⟨⟨s1,s2,s3⟩,e2,_⟩:=jN k2;obtain ⟨A,m,k,rfl⟩:=jX Tryz.underlying27 k1;obtain ⟨l,h3⟩:=qP (d:=y1.1) (p:=y1.2) ⟨n,k1⟩
 simp [trc] at e0 e2
 obtain ⟨rfl,rfl,rfl⟩:=e0;obtain ⟨rfl,rfl,rfl⟩:=e2;exact ⟨(t1,t2,t3),(s1,s2,s3),_,l,by rw [e9],h3⟩
end Go.Proofs.YtnfpenhldlfafaaGreatDoor

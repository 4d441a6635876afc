/- Arguments that are two lists of steps, or what is asked. -/
import Derived.ChangeSame
import Derived.Lib.SmallJoins
import Derived.Deep.Strs
import Derived.ProofKit
import Derived.OpenShut
import Derived.ShutString
import Derived.SliceStrings
import Derived.Deep.Slices
import Derived.JoinedCond
import Derived.SizedLaws
import Derived.Test.YtjkfchehkpmhkaaDoorPi45
import Derived.Test.YtjkfchehkpmhkaaDoorMA
set_option linter.unusedSimpArgs false
set_option linter.unusedVariables false
set_option maxRecDepth 100000
set_option maxHeartbeats 1600000
namespace Go.Proofs.YtjkfchehkpmhkaaDoor
open Go.ChangeShapes Go.WideShapes Go.ChangeAt Go.RowKit
theorem Rd.of_addr {w:World} {m n c:Nat} {a:Addr} {xs:List Value} (hl:xs.length=n * m) (hm:0<m) (hc:n≤c) (hmx:c≤maxLen) (h:∀ j u,xs[j]?=some u→w.cell? (a.add j)=some u):Rd w m (.slice (some a) n c) n xs:=by
 refine ⟨hl,some a,c,rfl,hc,hmx,(fun h=>by cases h),fun hn=>?_⟩
 have hpos:0<xs.length:=by rw [hl];exact Nat.mul_pos hn hm
 have h0:=h 0 _ (List.getElem?_eq_getElem hpos);obtain ⟨b,off,spot⟩:=a
 have hs:spot=none:=by simpa [Addr.add] using World.cell?_spot h0
 subst hs;have hb:=World.block_lt_of_cell? w _ h0;refine ⟨b,off,rfl,by simpa [Addr.add] using hb,fun j u hj=>?_⟩;have:=h j u hj
 have e:(⟨b,off,none⟩:Addr).add j=⟨b,off+j,none⟩:=by unfold Addr.add;split <;> simp_all
 rwa [e] at this
section
variable {H:Type} {enc:TypeId×Value→H} {P:Program} {w:World} {t e:TypeId} {a:Option Addr} {len cap:Nat} {d:DataW H} {p:List MemPlace}
theorem qYc {α:Type} {g:α→List Value} {m:Nat}:∀ {l:List α},(∀ x∈l,(g x).length=m)→∀ {j:Nat} {u:Value},(fl g l)[j]?=some u→∃ i r x,i<l.length∧l[i]?=some x∧r<m∧j=i * m+r∧(g x)[r]?=some u
 | [],_,j,u,h=>by simp [fl] at h
 | x :: l,hm,j,u,h=>by
  have hx:=hm x (by simp)
  have e:fl g (x :: l)=g x++fl g l:=by simp [fl]
  rw [e] at h
  by_cases hj:j<m
  ·rw [List.getElem?_append_left (by omega)] at h
   exact ⟨0,j,x,by simp,rfl,hj,by omega,h⟩
  ·rw [List.getElem?_append_right (by omega)] at h
   obtain ⟨i,r,y,hi,hy,hr,hj2,hu⟩:=qYc (fun y hy=>hm y (by simp [hy])) h;exact ⟨i+1,r,y,by simp;omega,by simpa using hy,hr,by rw [Nat.add_mul,Nat.one_mul];omega,hu⟩
end
theorem tV (s:ByteArray):∃ l:List UInt8,s=⟨l.toArray⟩∧l.length=s.size:=⟨s.data.toList,by cases s;rfl,by rw [Array.length_toList];rfl⟩
open Go.ChangeShapes Go.WideShapes Go.RowKit
theorem zN {H:Type} {enc:TypeId×Value→H} {P:Program} {w:World} {t:TypeId} {base:Nat} {spare:Nat→Bool} {held:Bool} {fuel:Nat} {cs:List Value} {x:DataW H×List MemPlace} {f0 f1 f2:Field}
  (ht:P.underlying t=some (.struct #[f0,f1,f2])) (h0:P.underlying f0.type=some .bool) (h1:P.underlying f1.type=some .string) (h2:P.underlying f2.type=some .string)
  (c0:P.cellsOf f0.type=1) (c1:P.cellsOf f1.type=1) (c2:P.cellsOf f2.type=1) (o0:f0.offset=0) (o1:f1.offset=1) (o2:f2.offset=2) (hC:P.cellsOf t=3) (h:DataW.trod enc P w base spare held fuel t cs=some x) :
  ∃ (n:Bool) (p q:List UInt8),cs=[.bool n,vS p,vS q]∧p.length≤maxLen∧q.length≤maxLen:=by
 obtain ⟨y0,y1,y2,n,_,hl,k0,k1,k2⟩:=Go.Deep.trod_struct3 ht h;rw [hC] at hl;rw [c0,o0] at k0;rw [c1,o1] at k1;rw [c2,o2] at k2
 match cs,hl with
 | [a,b,c],_ =>
  obtain ⟨bv,e0,_⟩:=DataW.trod_bool h0 k0;obtain ⟨s1,e1,_,z1⟩:=DataW.trod_string h1 k1;obtain ⟨s2,e2,_,z2⟩:=DataW.trod_string h2 k2
  simp at e0 e1 e2
  obtain ⟨l1,rfl,w1⟩:=tV s1;obtain ⟨l2,rfl,w2⟩:=tV s2;exact ⟨bv,l1,l2,by rw [e0,e1,e2],by omega,by omega⟩
theorem vVs {H:Type} {enc:TypeId×Value→H} {P:Program} {w:World} {t e:TypeId} {a:Option Addr} {len cap:Nat} {d:DataW H} {p:List MemPlace} {α:Type} [Inhabited α] {g:α→List Value} {R:α→Prop} {m:Nat}
  (ht:P.underlying t=some (.slice e)) (hm:P.cellsOf e=m) (hm0:0<m) (hg:∀ y,(g y).length=m)
  (hop:∀ {base:Nat} {spare:Nat→Bool} {held:Bool} {fuel:Nat} {cs:List Value} {x:DataW H×List MemPlace},DataW.trod enc P w base spare held fuel e cs=some x→∃ y,cs=g y∧R y)
  (h:DataW.Trod enc P w 0 (fun _=>true) true t (.slice a len cap) d p):∃ ss:List α,ss.length=len∧Rd w m (.slice a len cap) len (fl g ss)∧∀ s∈ss,R s:=by
 obtain ⟨fuel,hf⟩:=h
 rcases Go.Deep.open_slice ht hf with ⟨hcs,_⟩|⟨x,l,c,k,n,D,Pl,hcs,_,hl,hmx,hk,hx,hel⟩
 ·simp [Value.cells] at hcs
  obtain ⟨rfl,rfl,rfl⟩:=hcs;exact ⟨[],rfl,Rd.nil_ w m,by simp⟩
 ·simp [Value.cells] at hcs
  obtain ⟨rfl,rfl,rfl⟩:=hcs
  have hlk:len≤k:=by rw [hk];split <;> omega
  have key:∀ i,i<len→∃ y:α,R y∧∀ r u,(g y)[r]?=some u→w.cell? (x.add (i * m+r))=some u:=by
   intro i hi;obtain ⟨cs',h1,h2⟩:=hel i (by omega);obtain ⟨y,rfl,hR⟩:=hop h2;refine ⟨y,hR,fun r u hu=>?_⟩;rw [hm] at h1;obtain ⟨_,_,h3⟩:=World.cells?_some h1
   have h4:r<m:=by have:=(List.getElem?_eq_some_iff.1 hu).1;rwa [hg] at this
   have:=h3 r h4;rw [Go.Deep.add_add,hu] at this;exact this
  obtain ⟨f,hf'⟩:=Go.Deep.choose_lt (α:=α) key
  have hall:∀ s∈(List.range len).map f,R s:=by
   intro s hs;obtain ⟨i,hi,rfl⟩:=List.mem_map.1 hs;exact (hf' i (List.mem_range.1 hi)).1
  refine ⟨(List.range len).map f,by simp,Rd.of_addr (by rw [nR (fun y _=>hg y)];simp) hm0 hl hmx (fun j u hj=>?_),hall⟩;obtain ⟨i,r,y,hi,hy,hr,rfl,hu⟩:=qYc (fun y _=>hg y) hj
  simp at hi
  simp [hi] at hy
  subst hy;exact (hf' i hi).2 r u hu
theorem qQn {H:Type} {enc:TypeId×Value→H} {w:World} {base:Nat} {spare:Nat→Bool} {held:Bool} {fuel:Nat} {cs:List Value} {x:DataW H×List MemPlace} (h:DataW.trod enc Tryd.prog w base spare held fuel 41 cs=some x):∃ a b c d:Int,cs=[vI a,vI b,vI c,vI d]:=by
 obtain ⟨xs,n,_,_,hl,hlen,hf⟩:=DataW.trod_struct Tryd.underlying41 h
 have hC:Tryd.prog.cellsOf 41=4:=by kernel_rfl
 have c0:Tryd.prog.cellsOf 3=1:=by kernel_rfl
 rw [hC] at hl
 match xs,hlen with
 | [y0,y1,y2,y3],_ =>
  have k0:DataW.trod enc Tryd.prog w base spare held n 3 ((cs.drop 0).take 1)=some y0:=by rw [← c0];exact hf 0 _ rfl
  have k1:DataW.trod enc Tryd.prog w base spare held n 3 ((cs.drop 1).take 1)=some y1:=by rw [← c0];exact hf 1 _ rfl
  have k2:DataW.trod enc Tryd.prog w base spare held n 3 ((cs.drop 2).take 1)=some y2:=by rw [← c0];exact hf 2 _ rfl
  have k3:DataW.trod enc Tryd.prog w base spare held n 3 ((cs.drop 3).take 1)=some y3:=by rw [← c0];exact hf 3 _ rfl
  match cs,hl with
  | [a,b,c,d],_ =>
   obtain ⟨n0,e0,_,_⟩:=DataW.trod_int Tryd.underlying3 k0;obtain ⟨n1,e1,_,_⟩:=DataW.trod_int Tryd.underlying3 k1;obtain ⟨n2,e2,_,_⟩:=DataW.trod_int Tryd.underlying3 k2;obtain ⟨n3,e3,_,_⟩:=DataW.trod_int Tryd.underlying3 k3
   simp at e0 e1 e2 e3
   exact ⟨n0,n1,n2,n3,by rw [e0,e1,e2,e3]⟩
def SpB (s:Stp):Prop:=(Lit.int .i64 s.q.pd).wf=true∧(Lit.int .i64 s.q.ac).wf=true
theorem zG {H:Type} {enc':TypeId×Value→H} {w:World} {base:Nat} {spare:Nat→Bool} {held:Bool} {fuel:Nat} {cs:List Value} {x:DataW H×List MemPlace} (h:DataW.trod enc' Tryd.prog w base spare held fuel 43 cs=some x):∃ q:Stg,cs=sgc q∧(Lit.int .i64 q.pd).wf=true∧(Lit.int .i64 q.ac).wf=true:=by
 obtain ⟨xs,n,_,_,hl,hlen,hf⟩:=DataW.trod_struct Tryd.underlying43 h
 have hC:Tryd.prog.cellsOf 43=10:=by kernel_rfl
 have c0:Tryd.prog.cellsOf 3=1:=by kernel_rfl
 have c1:Tryd.prog.cellsOf 39=3:=by kernel_rfl
 have c2:Tryd.prog.cellsOf 41=4:=by kernel_rfl
 rw [hC] at hl
 match xs,hlen with
 | [y0,y1,y2,y3,y4],_ =>
  have k0:DataW.trod enc' Tryd.prog w base spare held n 3 ((cs.drop 0).take 1)=some y0:=by rw [← c0];exact hf 0 _ rfl
  have k1:DataW.trod enc' Tryd.prog w base spare held n 3 ((cs.drop 1).take 1)=some y1:=by rw [← c0];exact hf 1 _ rfl
  have k2:DataW.trod enc' Tryd.prog w base spare held n 3 ((cs.drop 2).take 1)=some y2:=by rw [← c0];exact hf 2 _ rfl
  have k3:DataW.trod enc' Tryd.prog w base spare held n 39 ((cs.drop 3).take 3)=some y3:=by rw [← c1];exact hf 3 _ rfl
  have k4:DataW.trod enc' Tryd.prog w base spare held n 41 ((cs.drop 6).take 4)=some y4:=by rw [← c2];exact hf 4 _ rfl
  match cs,hl with
  | [a,b,c,r1,r2,r3,d1,d2,d3,d4],_ =>
   obtain ⟨n0,e0,_,_⟩:=DataW.trod_int Tryd.underlying3 k0;obtain ⟨n1,e1,_,w1⟩:=DataW.trod_int Tryd.underlying3 k1;obtain ⟨n2,e2,_,w2⟩:=DataW.trod_int Tryd.underlying3 k2;obtain ⟨rn,rp,rq,er,_,_⟩:=zN Tryd.underlying39 Tryd.underlying4 Tryd.underlying9 Tryd.underlying9 (by kernel_rfl) (by kernel_rfl) (by kernel_rfl) rfl rfl rfl (by kernel_rfl) k3;obtain ⟨z1,z2,z3,z4,e3⟩:=qQn k4
   simp at e0 e1 e2 er e3
   obtain ⟨g1,g2,g3⟩:=er;obtain ⟨f1,f2,f3,f4⟩:=e3;exact ⟨⟨n0,n1,n2,(rn,rp,rq),z1,z2,z3,z4⟩,by rw [e0,e1,e2,g1,g2,g3,f1,f2,f3,f4];rfl,w1,w2⟩
theorem vQ {H:Type} {enc':TypeId×Value→H} {w:World} {base:Nat} {spare:Nat→Bool} {held:Bool} {fuel:Nat} {cs:List Value} {x:DataW H×List MemPlace} (h:DataW.trod enc' Tryd.prog w base spare held fuel 45 cs=some x):∃ s:Stp,cs=spc s∧SpB s:=by
 obtain ⟨y0,y1,n,_,hl,k0,k1⟩:=trod_struct2 Tryd.underlying45 h
 have hC:Tryd.prog.cellsOf 45=11:=by kernel_rfl
 have c0:Tryd.prog.cellsOf 43=10:=by kernel_rfl
 have c1:Tryd.prog.cellsOf 4=1:=by kernel_rfl
 rw [hC] at hl
 have k0:DataW.trod enc' Tryd.prog w base spare held n 43 ((cs.drop 0).take 10)=some y0:=by rw [← c0];exact k0
 have k1:DataW.trod enc' Tryd.prog w base spare held n 4 ((cs.drop 10).take 1)=some y1:=by rw [← c1];exact k1
 obtain ⟨q,e0,h0,h1⟩:=zG k0;obtain ⟨b,e1,_⟩:=DataW.trod_bool Tryd.underlying4 k1;refine ⟨⟨q,b⟩,?_,h0,h1⟩;have e2:cs=cs.take 10++cs.drop 10:=(List.take_append_drop 10 cs).symm;have e3:(cs.drop 10).take 1=cs.drop 10:=List.take_of_length_le (by rw [List.length_drop,hl];decide);rw [List.drop_zero] at e0;rw [e3] at e1;rw [e2,e0,e1]
 rfl
theorem jB {H:Type} {enc':TypeId×Value→H} {w:World} {A:Option Addr} {m c:Nat} {d:DataW H} {p:List MemPlace} (h:DataW.Trod enc' Tryd.prog w 0 (fun _=>true) true 22 (.slice A m c) d p):∃ l:List Stp,Sts l (.slice A m c) w∧∀ x∈l,SpB x:=by
 obtain ⟨l,h1,h2,h3⟩:=vVs (g:=spc) (R:=SpB) (m:=11) Tryd.underlying22 (by kernel_rfl) (by omega) xK (fun h=>vQ h) h;refine ⟨l,?_,h3⟩
 show Rd w 11 _ l.length _
 rw [h1];exact h2
theorem pG {H:Type} {enc':TypeId×Value→H} {w:World} {n:Nat} {b:Value} {y:DataW H×List MemPlace} (k1:DataW.trod enc' Tryd.prog w 0 (fun _=>true) true n 22 [b]=some y):∃ A m c,b=.slice A m c:=by
 rcases Go.Deep.open_slice Tryd.underlying22 k1 with ⟨h1,_⟩|⟨_,_,_,_,_,_,_,h1,_⟩
 ·simp at h1
  exact ⟨_,_,_,h1⟩
 ·simp at h1
  exact ⟨_,_,_,h1⟩
theorem tW {H:Type} {enc':TypeId×Value→H} {w:World} {r:Reach} {b0:Nat} {v:Value} {d:DataW H} {p:List MemPlace}
  (hv:Value.okWide Tryd.prog w r b0 23 v) (h:DataW.Trod enc' Tryd.prog w 0 (fun _=>true) true 23 v d p) :
  ∃ (u z:Value) (l m:List Stp),v=.agg #[u,z]∧Sts l u w∧Sts m z w∧(∀ x∈l,SpB x)∧∀ x∈m,SpB x:=by
 have hc:Tryd.prog.cellsOf 22=1:=by kernel_rfl
 have hC:Tryd.prog.cellsOf 23=2:=by kernel_rfl
 simp only [Value.okWide,Tryd.underlying23] at hv;obtain ⟨cs,rfl,hsz,_⟩:=hv;rw [hC] at hsz;obtain ⟨c0,c1,rfl⟩:=Go.Joins.array2 hsz;obtain ⟨fuel,hf⟩:=h;obtain ⟨xs,m,_,_,_,hlen,hi⟩:=DataW.trod_array Tryd.underlying23 hf;have h0:=hi 0 (by omega);have h1:=hi 1 (by omega);rw [hc] at h0 h1;have e0:xs[0]?=some (xs[0]'(by omega)):=List.getElem?_eq_getElem (by omega);have e1:xs[1]?=some (xs[1]'(by omega)):=List.getElem?_eq_getElem (by omega);rw [e0] at h0;rw [e1] at h1;have h0:DataW.trod enc' Tryd.prog w 0 (fun _=>true) true m 22 [c0]=some (xs[0]'(by omega)):=h0;have h1:DataW.trod enc' Tryd.prog w 0 (fun _=>true) true m 22 [c1]=some (xs[1]'(by omega)):=h1;obtain ⟨A,n,c,rfl⟩:=pG h0;obtain ⟨A',n',c',rfl⟩:=pG h1;obtain ⟨l,h2,h3⟩:=jB (d:=(xs[0]'(by omega)).1) (p:=(xs[0]'(by omega)).2) ⟨m,h0⟩;obtain ⟨l',h4,h5⟩:=jB (d:=(xs[1]'(by omega)).1) (p:=(xs[1]'(by omega)).2) ⟨m,h1⟩;exact ⟨_,_,l,l',rfl,h2,h4,h3,h5⟩
theorem xA {H:Type} {enc':TypeId×Value→H} {w:World} {r:Reach} {b0:Nat} {v:Value} {d:DataW H} {p:List MemPlace} {base:Nat} {spare:Nat→Bool} {held:Bool}
  (hv:Value.okWide Tryd.prog w r b0 25 v) (h:DataW.Trod enc' Tryd.prog w base spare held 25 v d p):∃ a1 a2 a3 a4:Int,v=.agg #[vI a1,vI a2,vI a3,vI a4]:=by
 obtain ⟨cs',rfl,_⟩:=okWide_struct Tryd.underlying25 hv;obtain ⟨fuel,h⟩:=h;have hcs:(Value.agg cs').cells=cs':=rfl;rw [hcs] at h;obtain ⟨xs,n,_,_,hl,hlen,hf⟩:=DataW.trod_struct Tryd.underlying25 h
 have hC:Tryd.prog.cellsOf 25=4:=by kernel_rfl
 have c0:Tryd.prog.cellsOf 3=1:=by kernel_rfl
 rw [hC] at hl;obtain ⟨cs,hcs2⟩:∃ cs,cs'.toList=cs:=⟨_,rfl⟩;rw [hcs2] at hl hf
 match xs,hlen with
 | [y0,y1,y2,y3],_ =>
  have k0:DataW.trod enc' Tryd.prog w base spare held n 3 ((cs.drop 0).take 1)=some y0:=by rw [← c0];exact hf 0 _ rfl
  have k1:DataW.trod enc' Tryd.prog w base spare held n 3 ((cs.drop 1).take 1)=some y1:=by rw [← c0];exact hf 1 _ rfl
  have k2:DataW.trod enc' Tryd.prog w base spare held n 3 ((cs.drop 2).take 1)=some y2:=by rw [← c0];exact hf 2 _ rfl
  have k3:DataW.trod enc' Tryd.prog w base spare held n 3 ((cs.drop 3).take 1)=some y3:=by rw [← c0];exact hf 3 _ rfl
  match cs,hl with
  | [a,b,c,e],_ =>
   obtain ⟨n0,e0,_,_⟩:=DataW.trod_int Tryd.underlying3 k0;obtain ⟨n1,e1,_,_⟩:=DataW.trod_int Tryd.underlying3 k1;obtain ⟨n2,e2,_,_⟩:=DataW.trod_int Tryd.underlying3 k2;obtain ⟨n3,e3,_,_⟩:=DataW.trod_int Tryd.underlying3 k3
   simp at e0 e1 e2 e3
   refine ⟨n0,n1,n2,n3,?_⟩
   have e9:cs'=#[vI n0,vI n1,vI n2,vI n3]:=by
    cases cs'
    simp only at hcs2;rw [hcs2,e0,e1,e2,e3]
   rw [e9]
end Go.Proofs.YtjkfchehkpmhkaaDoor

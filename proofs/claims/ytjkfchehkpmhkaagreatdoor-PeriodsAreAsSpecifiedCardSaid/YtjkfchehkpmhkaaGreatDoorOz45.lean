/- Arguments that are periods, or steps. -/
import Derived.ChangeSame
import Derived.Lib.SmallJoins
import Derived.Deep.Strs
import Derived.ProofKit
import Derived.OpenShut
import Derived.ShutString
import Derived.SliceStrings
import Derived.Deep.Slices
import Derived.JoinedCond
import Derived.SizedLaws
import Derived.Test.YtjkfchehkpmhkaaGreatDoorFr45
import Derived.Test.YtjkfchehkpmhkaaGreatDoorMA
set_option linter.unusedSimpArgs false
set_option linter.unusedVariables false
set_option maxRecDepth 100000
set_option maxHeartbeats 1600000
namespace Go.Proofs.YtjkfchehkpmhkaaGreatDoor
open Go.ChangeShapes Go.WideShapes Go.ChangeAt Go.RowKit
theorem Rd.of_addr {w:World} {m n c:Nat} {a:Addr} {xs:List Value} (hl:xs.length=n * m) (hm:0<m) (hc:n≤c) (hmx:c≤maxLen) (h:∀ j u,xs[j]?=some u→w.cell? (a.add j)=some u):Rd w m (.slice (some a) n c) n xs:=by
 refine ⟨hl,some a,c,rfl,hc,hmx,(fun h=>by cases h),fun hn=>?_⟩
 have hpos:0<xs.length:=by rw [hl];exact Nat.mul_pos hn hm
 have h0:=h 0 _ (List.getElem?_eq_getElem hpos);obtain ⟨b,off,spot⟩:=a
 have hs:spot=none:=by simpa [Addr.add] using World.cell?_spot h0
 subst hs;have hb:=World.block_lt_of_cell? w _ h0;refine ⟨b,off,rfl,by simpa [Addr.add] using hb,fun j u hj=>?_⟩;have:=h j u hj
 have e:(⟨b,off,none⟩:Addr).add j=⟨b,off+j,none⟩:=by unfold Addr.add;split <;> simp_all
 rwa [e] at this
section
variable {H:Type} {enc:TypeId×Value→H} {P:Program} {w:World} {t e:TypeId} {a:Option Addr} {len cap:Nat} {d:DataW H} {p:List MemPlace}
theorem qVz {α:Type} {g:α→List Value} {m:Nat}:∀ {l:List α},(∀ x∈l,(g x).length=m)→∀ {j:Nat} {u:Value},(fl g l)[j]?=some u→∃ i r x,i<l.length∧l[i]?=some x∧r<m∧j=i * m+r∧(g x)[r]?=some u
 | [],_,j,u,h=>by simp [fl] at h
 | x :: l,hm,j,u,h=>by
  have hx:=hm x (by simp)
  have e:fl g (x :: l)=g x++fl g l:=by simp [fl]
  rw [e] at h
  by_cases hj:j<m
  ·rw [List.getElem?_append_left (by omega)] at h
   exact ⟨0,j,x,by simp,rfl,hj,by omega,h⟩
  ·rw [List.getElem?_append_right (by omega)] at h
   obtain ⟨i,r,y,hi,hy,hr,hj2,hu⟩:=qVz (fun y hy=>hm y (by simp [hy])) h;exact ⟨i+1,r,y,by simp;omega,by simpa using hy,hr,by rw [Nat.add_mul,Nat.one_mul];omega,hu⟩
end
theorem sT (s:ByteArray):∃ l:List UInt8,s=⟨l.toArray⟩∧l.length=s.size:=⟨s.data.toList,by cases s;rfl,by rw [Array.length_toList];rfl⟩
open Go.ChangeShapes Go.WideShapes Go.RowKit
theorem qM {H:Type} {enc:TypeId×Value→H} {P:Program} {w:World} {t:TypeId} {base:Nat} {spare:Nat→Bool} {held:Bool} {fuel:Nat} {cs:List Value} {x:DataW H×List MemPlace} {f0 f1 f2:Field}
  (ht:P.underlying t=some (.struct #[f0,f1,f2])) (h0:P.underlying f0.type=some .bool) (h1:P.underlying f1.type=some .string) (h2:P.underlying f2.type=some .string)
  (c0:P.cellsOf f0.type=1) (c1:P.cellsOf f1.type=1) (c2:P.cellsOf f2.type=1) (o0:f0.offset=0) (o1:f1.offset=1) (o2:f2.offset=2) (hC:P.cellsOf t=3) (h:DataW.trod enc P w base spare held fuel t cs=some x) :
  ∃ (n:Bool) (p q:List UInt8),cs=[.bool n,vS p,vS q]∧p.length≤maxLen∧q.length≤maxLen:=by
 obtain ⟨y0,y1,y2,n,_,hl,k0,k1,k2⟩:=Go.Deep.trod_struct3 ht h;rw [hC] at hl;rw [c0,o0] at k0;rw [c1,o1] at k1;rw [c2,o2] at k2
 match cs,hl with
 | [a,b,c],_ =>
  obtain ⟨bv,e0,_⟩:=DataW.trod_bool h0 k0;obtain ⟨s1,e1,_,z1⟩:=DataW.trod_string h1 k1;obtain ⟨s2,e2,_,z2⟩:=DataW.trod_string h2 k2
  simp at e0 e1 e2
  obtain ⟨l1,rfl,w1⟩:=sT s1;obtain ⟨l2,rfl,w2⟩:=sT s2;exact ⟨bv,l1,l2,by rw [e0,e1,e2],by omega,by omega⟩
theorem sO {H:Type} {enc:TypeId×Value→H} {P:Program} {w:World} {t e:TypeId} {a:Option Addr} {len cap:Nat} {d:DataW H} {p:List MemPlace} {α:Type} [Inhabited α] {g:α→List Value} {R:α→Prop} {m:Nat}
  (ht:P.underlying t=some (.slice e)) (hm:P.cellsOf e=m) (hm0:0<m) (hg:∀ y,(g y).length=m)
  (hop:∀ {base:Nat} {spare:Nat→Bool} {held:Bool} {fuel:Nat} {cs:List Value} {x:DataW H×List MemPlace},DataW.trod enc P w base spare held fuel e cs=some x→∃ y,cs=g y∧R y)
  (h:DataW.Trod enc P w 0 (fun _=>true) true t (.slice a len cap) d p):∃ ss:List α,ss.length=len∧Rd w m (.slice a len cap) len (fl g ss)∧∀ s∈ss,R s:=by
 obtain ⟨fuel,hf⟩:=h
 rcases Go.Deep.open_slice ht hf with ⟨hcs,_⟩|⟨x,l,c,k,n,D,Pl,hcs,_,hl,hmx,hk,hx,hel⟩
 ·simp [Value.cells] at hcs
  obtain ⟨rfl,rfl,rfl⟩:=hcs;exact ⟨[],rfl,Rd.nil_ w m,by simp⟩
 ·simp [Value.cells] at hcs
  obtain ⟨rfl,rfl,rfl⟩:=hcs
  have hlk:len≤k:=by rw [hk];split <;> omega
  have key:∀ i,i<len→∃ y:α,R y∧∀ r u,(g y)[r]?=some u→w.cell? (x.add (i * m+r))=some u:=by
   intro i hi;obtain ⟨cs',h1,h2⟩:=hel i (by omega);obtain ⟨y,rfl,hR⟩:=hop h2;refine ⟨y,hR,fun r u hu=>?_⟩;rw [hm] at h1;obtain ⟨_,_,h3⟩:=World.cells?_some h1
   have h4:r<m:=by have:=(List.getElem?_eq_some_iff.1 hu).1;rwa [hg] at this
   have:=h3 r h4;rw [Go.Deep.add_add,hu] at this;exact this
  obtain ⟨f,hf'⟩:=Go.Deep.choose_lt (α:=α) key
  have hall:∀ s∈(List.range len).map f,R s:=by
   intro s hs;obtain ⟨i,hi,rfl⟩:=List.mem_map.1 hs;exact (hf' i (List.mem_range.1 hi)).1
  refine ⟨(List.range len).map f,by simp,Rd.of_addr (by rw [nD (fun y _=>hg y)];simp) hm0 hl hmx (fun j u hj=>?_),hall⟩;obtain ⟨i,r,y,hi,hy,hr,rfl,hu⟩:=qVz (fun y _=>hg y) hj
  simp at hi
  simp [hi] at hy
  subst hy;exact (hf' i hi).2 r u hu
theorem qX {H:Type} {enc:TypeId×Value→H} {w:World} {base:Nat} {spare:Nat→Bool} {held:Bool} {fuel:Nat} {cs:List Value} {x:DataW H×List MemPlace} (h:DataW.trod enc Tryz.prog w base spare held fuel 42 cs=some x):∃ a b c d:Int,cs=[vI a,vI b,vI c,vI d]:=by
 obtain ⟨xs,n,_,_,hl,hlen,hf⟩:=DataW.trod_struct Tryz.underlying42 h
 have hC:Tryz.prog.cellsOf 42=4:=by kernel_rfl
 have c0:Tryz.prog.cellsOf 3=1:=by kernel_rfl
 rw [hC] at hl
 match xs,hlen with
 | [y0,y1,y2,y3],_ =>
  have k0:DataW.trod enc Tryz.prog w base spare held n 3 ((cs.drop 0).take 1)=some y0:=by rw [← c0];exact hf 0 _ rfl
  have k1:DataW.trod enc Tryz.prog w base spare held n 3 ((cs.drop 1).take 1)=some y1:=by rw [← c0];exact hf 1 _ rfl
  have k2:DataW.trod enc Tryz.prog w base spare held n 3 ((cs.drop 2).take 1)=some y2:=by rw [← c0];exact hf 2 _ rfl
  have k3:DataW.trod enc Tryz.prog w base spare held n 3 ((cs.drop 3).take 1)=some y3:=by rw [← c0];exact hf 3 _ rfl
  match cs,hl with
  | [a,b,c,d],_ =>
   obtain ⟨n0,e0,_,_⟩:=DataW.trod_int Tryz.underlying3 k0;obtain ⟨n1,e1,_,_⟩:=DataW.trod_int Tryz.underlying3 k1;obtain ⟨n2,e2,_,_⟩:=DataW.trod_int Tryz.underlying3 k2;obtain ⟨n3,e3,_,_⟩:=DataW.trod_int Tryz.underlying3 k3
   simp at e0 e1 e2 e3
   exact ⟨n0,n1,n2,n3,by rw [e0,e1,e2,e3]⟩
theorem uC {H:Type} {enc:TypeId×Value→H} {w:World} {base:Nat} {spare:Nat→Bool} {held:Bool} {fuel:Nat} {cs:List Value} {x:DataW H×List MemPlace} (h:DataW.trod enc Tryz.prog w base spare held fuel 74 cs=some x):∃ k p r a b c d:Int,cs=[vI k,vI p,vI r,vI a,vI b,vI c,vI d]:=by
 obtain ⟨xs,n,_,_,hl,hlen,hf⟩:=DataW.trod_struct Tryz.underlying74 h
 have hC:Tryz.prog.cellsOf 74=7:=by kernel_rfl
 have c0:Tryz.prog.cellsOf 3=1:=by kernel_rfl
 have c1:Tryz.prog.cellsOf 42=4:=by kernel_rfl
 rw [hC] at hl
 match xs,hlen with
 | [y0,y1,y2,y3],_ =>
  have k0:DataW.trod enc Tryz.prog w base spare held n 3 ((cs.drop 0).take 1)=some y0:=by rw [← c0];exact hf 0 _ rfl
  have k1:DataW.trod enc Tryz.prog w base spare held n 3 ((cs.drop 1).take 1)=some y1:=by rw [← c0];exact hf 1 _ rfl
  have k2:DataW.trod enc Tryz.prog w base spare held n 3 ((cs.drop 2).take 1)=some y2:=by rw [← c0];exact hf 2 _ rfl
  have k3:DataW.trod enc Tryz.prog w base spare held n 42 ((cs.drop 3).take 4)=some y3:=by rw [← c1];exact hf 3 _ rfl
  match cs,hl with
  | [a,b,c,d1,d2,d3,d4],_ =>
   obtain ⟨n0,e0,_,_⟩:=DataW.trod_int Tryz.underlying3 k0;obtain ⟨n1,e1,_,_⟩:=DataW.trod_int Tryz.underlying3 k1;obtain ⟨n2,e2,_,_⟩:=DataW.trod_int Tryz.underlying3 k2;obtain ⟨z1,z2,z3,z4,e3⟩:=qX k3
   simp at e0 e1 e2 e3
   obtain ⟨f1,f2,f3,f4⟩:=e3;exact ⟨n0,n1,n2,z1,z2,z3,z4,by rw [e0,e1,e2,f1,f2,f3,f4]⟩
def EnB (x:En):Prop:=-9223372036854775808≤x.day∧x.day≤9223372036854775807
theorem tX {H:Type} {enc':TypeId×Value→H} {w:World} {base:Nat} {spare:Nat→Bool} {held:Bool} {fuel:Nat} {cs:List Value} {x:DataW H×List MemPlace} (h:DataW.trod enc' Tryz.prog w base spare held fuel 76 cs=some x):∃ y:En,cs=enc y∧EnB y:=by
 obtain ⟨xs,n,_,_,hl,hlen,hf⟩:=DataW.trod_struct Tryz.underlying76 h
 have hC:Tryz.prog.cellsOf 76=13:=by kernel_rfl
 have c0:Tryz.prog.cellsOf 3=1:=by kernel_rfl
 have c1:Tryz.prog.cellsOf 40=3:=by kernel_rfl
 have c2:Tryz.prog.cellsOf 74=7:=by kernel_rfl
 rw [hC] at hl
 match xs,hlen with
 | [y0,y1,y2,y3,y4],_ =>
  have k0:DataW.trod enc' Tryz.prog w base spare held n 3 ((cs.drop 0).take 1)=some y0:=by rw [← c0];exact hf 0 _ rfl
  have k1:DataW.trod enc' Tryz.prog w base spare held n 3 ((cs.drop 1).take 1)=some y1:=by rw [← c0];exact hf 1 _ rfl
  have k2:DataW.trod enc' Tryz.prog w base spare held n 3 ((cs.drop 2).take 1)=some y2:=by rw [← c0];exact hf 2 _ rfl
  have k3:DataW.trod enc' Tryz.prog w base spare held n 40 ((cs.drop 3).take 3)=some y3:=by rw [← c1];exact hf 3 _ rfl
  have k4:DataW.trod enc' Tryz.prog w base spare held n 74 ((cs.drop 6).take 7)=some y4:=by rw [← c2];exact hf 4 _ rfl
  match cs,hl with
  | [a,b,c,r1,r2,r3,d1,d2,d3,d4,d5,d6,d7],_ =>
   obtain ⟨n0,e0,_,w0⟩:=DataW.trod_int Tryz.underlying3 k0;obtain ⟨n1,e1,_,_⟩:=DataW.trod_int Tryz.underlying3 k1;obtain ⟨n2,e2,_,_⟩:=DataW.trod_int Tryz.underlying3 k2;obtain ⟨rn,rp,rq,er,_,_⟩:=qM Tryz.underlying40 Tryz.underlying4 Tryz.underlying9 Tryz.underlying9 (by kernel_rfl) (by kernel_rfl) (by kernel_rfl) rfl rfl rfl (by kernel_rfl) k3;obtain ⟨z1,z2,z3,z4,z5,z6,z7,e3⟩:=uC k4
   simp at e0 e1 e2 er e3
   obtain ⟨g1,g2,g3⟩:=er;obtain ⟨f1,f2,f3,f4,f5,f6,f7⟩:=e3;have b0:=bounds_i64 w0;exact ⟨⟨n0,n1,n2,(rn,rp,rq),z1,z2,z3,z4,z5,z6,z7⟩,by rw [e0,e1,e2,g1,g2,g3,f1,f2,f3,f4,f5,f6,f7];rfl,by show _≤n0∧n0≤_;omega⟩
theorem sE {H:Type} {enc':TypeId×Value→H} {w:World} {A:Option Addr} {m c:Nat} {d:DataW H} {p:List MemPlace} (h:DataW.Trod enc' Tryz.prog w 0 (fun _=>true) true 22 (.slice A m c) d p):∃ l:List En,Es l (.slice A m c) w∧∀ x∈l,EnB x:=by
 obtain ⟨l,h1,h2,h3⟩:=sO (g:=enc) (R:=EnB) (m:=13) Tryz.underlying22 (by kernel_rfl) (by omega) oB (fun h=>tX h) h;refine ⟨l,?_,h3⟩
 show Rd w 13 _ l.length _
 rw [h1];exact h2
def SpB (s:Stp):Prop:=(Lit.int .i64 s.q.pd).wf=true∧(Lit.int .i64 s.q.ac).wf=true
theorem xW {H:Type} {enc':TypeId×Value→H} {w:World} {base:Nat} {spare:Nat→Bool} {held:Bool} {fuel:Nat} {cs:List Value} {x:DataW H×List MemPlace} (h:DataW.trod enc' Tryz.prog w base spare held fuel 44 cs=some x):∃ q:Stg,cs=sgc q∧(Lit.int .i64 q.pd).wf=true∧(Lit.int .i64 q.ac).wf=true:=by
 obtain ⟨xs,n,_,_,hl,hlen,hf⟩:=DataW.trod_struct Tryz.underlying44 h
 have hC:Tryz.prog.cellsOf 44=10:=by kernel_rfl
 have c0:Tryz.prog.cellsOf 3=1:=by kernel_rfl
 have c1:Tryz.prog.cellsOf 40=3:=by kernel_rfl
 have c2:Tryz.prog.cellsOf 42=4:=by kernel_rfl
 rw [hC] at hl
 match xs,hlen with
 | [y0,y1,y2,y3,y4],_ =>
  have k0:DataW.trod enc' Tryz.prog w base spare held n 3 ((cs.drop 0).take 1)=some y0:=by rw [← c0];exact hf 0 _ rfl
  have k1:DataW.trod enc' Tryz.prog w base spare held n 3 ((cs.drop 1).take 1)=some y1:=by rw [← c0];exact hf 1 _ rfl
  have k2:DataW.trod enc' Tryz.prog w base spare held n 3 ((cs.drop 2).take 1)=some y2:=by rw [← c0];exact hf 2 _ rfl
  have k3:DataW.trod enc' Tryz.prog w base spare held n 40 ((cs.drop 3).take 3)=some y3:=by rw [← c1];exact hf 3 _ rfl
  have k4:DataW.trod enc' Tryz.prog w base spare held n 42 ((cs.drop 6).take 4)=some y4:=by rw [← c2];exact hf 4 _ rfl
  match cs,hl with
  | [a,b,c,r1,r2,r3,d1,d2,d3,d4],_ =>
   obtain ⟨n0,e0,_,_⟩:=DataW.trod_int Tryz.underlying3 k0;obtain ⟨n1,e1,_,w1⟩:=DataW.trod_int Tryz.underlying3 k1;obtain ⟨n2,e2,_,w2⟩:=DataW.trod_int Tryz.underlying3 k2;obtain ⟨rn,rp,rq,er,_,_⟩:=qM Tryz.underlying40 Tryz.underlying4 Tryz.underlying9 Tryz.underlying9 (by kernel_rfl) (by kernel_rfl) (by kernel_rfl) rfl rfl rfl (by kernel_rfl) k3;obtain ⟨z1,z2,z3,z4,e3⟩:=qX k4
   simp at e0 e1 e2 er e3
   obtain ⟨g1,g2,g3⟩:=er;obtain ⟨f1,f2,f3,f4⟩:=e3;exact ⟨⟨n0,n1,n2,(rn,rp,rq),z1,z2,z3,z4⟩,by rw [e0,e1,e2,g1,g2,g3,f1,f2,f3,f4];rfl,w1,w2⟩
theorem uI {H:Type} {enc':TypeId×Value→H} {w:World} {base:Nat} {spare:Nat→Bool} {held:Bool} {fuel:Nat} {cs:List Value} {x:DataW H×List MemPlace} (h:DataW.trod enc' Tryz.prog w base spare held fuel 46 cs=some x):∃ s:Stp,cs=spc s∧SpB s:=by
 obtain ⟨y0,y1,n,_,hl,k0,k1⟩:=trod_struct2 Tryz.underlying46 h
 have hC:Tryz.prog.cellsOf 46=11:=by kernel_rfl
 have c0:Tryz.prog.cellsOf 44=10:=by kernel_rfl
 have c1:Tryz.prog.cellsOf 4=1:=by kernel_rfl
 rw [hC] at hl
 have k0:DataW.trod enc' Tryz.prog w base spare held n 44 ((cs.drop 0).take 10)=some y0:=by rw [← c0];exact k0
 have k1:DataW.trod enc' Tryz.prog w base spare held n 4 ((cs.drop 10).take 1)=some y1:=by rw [← c1];exact k1
 obtain ⟨q,e0,h0,h1⟩:=xW k0;obtain ⟨b,e1,_⟩:=DataW.trod_bool Tryz.underlying4 k1;refine ⟨⟨q,b⟩,?_,h0,h1⟩;have e2:cs=cs.take 10++cs.drop 10:=(List.take_append_drop 10 cs).symm;have e3:(cs.drop 10).take 1=cs.drop 10:=List.take_of_length_le (by rw [List.length_drop,hl];decide);rw [List.drop_zero] at e0;rw [e3] at e1;rw [e2,e0,e1]
 rfl
theorem uH {H:Type} {enc':TypeId×Value→H} {w:World} {A:Option Addr} {m c:Nat} {d:DataW H} {p:List MemPlace} (h:DataW.Trod enc' Tryz.prog w 0 (fun _=>true) true 28 (.slice A m c) d p):∃ l:List Stp,Sts l (.slice A m c) w∧∀ x∈l,SpB x:=by
 obtain ⟨l,h1,h2,h3⟩:=sO (g:=spc) (R:=SpB) (m:=11) Tryz.underlying28 (by kernel_rfl) (by omega) wF (fun h=>uI h) h;refine ⟨l,?_,h3⟩
 show Rd w 11 _ l.length _
 rw [h1];exact h2
theorem zH {H:Type} {enc':TypeId×Value→H} {w:World} {n:Nat} {cs:List Value} {x:DataW H×List MemPlace} (h:DataW.trod enc' Tryz.prog w 0 (fun _=>true) true n 24 cs=some x):∃ (c:Int) (u:Value) (l:List En),cs=[vI c,u]∧Es l u w∧∀ x∈l,EnB x:=by
 obtain ⟨y0,y1,n,_,hl,k0,k1⟩:=trod_struct2 Tryz.underlying24 h
 have hC:Tryz.prog.cellsOf 24=2:=by kernel_rfl
 have c0:Tryz.prog.cellsOf 3=1:=by kernel_rfl
 have c1:Tryz.prog.cellsOf 22=1:=by kernel_rfl
 rw [hC] at hl
 have k0:DataW.trod enc' Tryz.prog w 0 (fun _=>true) true n 3 ((cs.drop 0).take 1)=some y0:=by rw [← c0];exact k0
 have k1:DataW.trod enc' Tryz.prog w 0 (fun _=>true) true n 22 ((cs.drop 1).take 1)=some y1:=by rw [← c1];exact k1
 match cs,hl with
 | [a,b],_ =>
  obtain ⟨n0,e0,_,_⟩:=DataW.trod_int Tryz.underlying3 k0
  simp at e0
  have ks:∃ A m c,b=.slice A m c:=by
   rcases Go.Deep.open_slice Tryz.underlying22 k1 with ⟨h1,_⟩|⟨_,_,_,_,_,_,_,h1,_⟩
   ·simp at h1
    exact ⟨_,_,_,h1⟩
   ·simp at h1
    exact ⟨_,_,_,h1⟩
  obtain ⟨A,m,c,rfl⟩:=ks;obtain ⟨l,h1,h2⟩:=sE (d:=y1.1) (p:=y1.2) ⟨n,k1⟩;exact ⟨n0,_,l,by rw [e0],h1,h2⟩
theorem qF {H:Type} {enc':TypeId×Value→H} {w:World} {base:Nat} {spare:Nat→Bool} {held:Bool} {fuel:Nat} {cs:List Value} {x:DataW H×List MemPlace} (h:DataW.trod enc' Tryz.prog w base spare held fuel 72 cs=some x):∃ y:Cg,cs=clc y∧True:=by
 obtain ⟨y0,y1,n,_,hl,k0,k1⟩:=trod_struct2 Tryz.underlying72 h
 have hC:Tryz.prog.cellsOf 72=2:=by kernel_rfl
 have c0:Tryz.prog.cellsOf 3=1:=by kernel_rfl
 rw [hC] at hl
 have k0:DataW.trod enc' Tryz.prog w base spare held n 3 ((cs.drop 0).take 1)=some y0:=by rw [← c0];exact k0
 have k1:DataW.trod enc' Tryz.prog w base spare held n 3 ((cs.drop 1).take 1)=some y1:=by rw [← c0];exact k1
 match cs,hl with
 | [a,b],_ =>
  obtain ⟨n0,e0,_,_⟩:=DataW.trod_int Tryz.underlying3 k0;obtain ⟨n1,e1,_,_⟩:=DataW.trod_int Tryz.underlying3 k1
  simp at e0 e1
  exact ⟨⟨n0,n1⟩,by rw [e0,e1];rfl,trivial⟩
theorem qE {H:Type} {enc':TypeId×Value→H} {w:World} {A:Option Addr} {m c:Nat} {d:DataW H} {p:List MemPlace} (h:DataW.Trod enc' Tryz.prog w 0 (fun _=>true) true 25 (.slice A m c) d p):∃ l:List Cg,Cs w.heap.size l (.slice A m c) w:=by
 obtain ⟨l,h1,h2,h3⟩:=sO (g:=clc) (R:=fun _=>True) (m:=2) Tryz.underlying25 (by kernel_rfl) (by omega) sI (fun h=>qF h) h;refine ⟨l,Cs.low ?_⟩;rw [h1];exact h2
theorem qQr {H:Type} {enc':TypeId×Value→H} {w:World} {r:Reach} {b0:Nat} {v:Value} {d:DataW H} {p:List MemPlace}
  (hv:Value.okWide Tryz.prog w r b0 27 v) (h:DataW.Trod enc' Tryz.prog w 0 (fun _=>true) true 27 v d p):∃ (c:Int) (u z:Value) (l:List En) (cs:List Cg),v=.agg #[vI c,u,z]∧Es l u w∧Cs w.heap.size cs z w:=by
 obtain ⟨cs,rfl,_⟩:=okWide_struct Tryz.underlying27 hv;obtain ⟨fuel,hf⟩:=h;obtain ⟨y0,y1,n,_,hl,k0,k1⟩:=trod_struct2 Tryz.underlying27 hf
 have hC:Tryz.prog.cellsOf 27=3:=by kernel_rfl
 have c0:Tryz.prog.cellsOf 24=2:=by kernel_rfl
 have c1:Tryz.prog.cellsOf 25=1:=by kernel_rfl
 rw [hC] at hl
 have k0:DataW.trod enc' Tryz.prog w 0 (fun _=>true) true n 24 (((Value.agg cs).cells.toList.drop 0).take 2)=some y0:=by rw [← c0];exact k0
 have k1:DataW.trod enc' Tryz.prog w 0 (fun _=>true) true n 25 (((Value.agg cs).cells.toList.drop 2).take 1)=some y1:=by rw [← c1];exact k1
 have hcs:(Value.agg cs).cells=cs:=rfl;rw [hcs] at hl k0 k1
 obtain ⟨a,b,e,he⟩:∃ a b e,cs.toList=[a,b,e]:=by
  match hc:cs.toList,hl with
  | [a,b,e],_=>exact ⟨a,b,e,rfl⟩
 rw [he] at k0 k1
 have e9:cs=#[a,b,e]:=by
  cases cs
  simp at he
  rw [he]
 have k0:DataW.trod enc' Tryz.prog w 0 (fun _=>true) true n 24 [a,b]=some y0:=k0;have k1:DataW.trod enc' Tryz.prog w 0 (fun _=>true) true n 25 [e]=some y1:=k1;obtain ⟨c,u,l,h1,h2,_⟩:=zH k0
 have ks:∃ A m c,e=.slice A m c:=by
  rcases Go.Deep.open_slice Tryz.underlying25 k1 with ⟨h1,_⟩|⟨_,_,_,_,_,_,_,h1,_⟩
  ·simp at h1
   exact ⟨_,_,_,h1⟩
  ·simp at h1
   exact ⟨_,_,_,h1⟩
 obtain ⟨A,m,k,rfl⟩:=ks;obtain ⟨l',h3⟩:=qE (d:=y1.1) (p:=y1.2) ⟨n,k1⟩
 injection h1 with g1 g2
 injection g2 with g2 _
 exact ⟨c,u,_,l,l',by rw [e9,g1,g2],h2,h3⟩
end Go.Proofs.YtjkfchehkpmhkaaGreatDoor

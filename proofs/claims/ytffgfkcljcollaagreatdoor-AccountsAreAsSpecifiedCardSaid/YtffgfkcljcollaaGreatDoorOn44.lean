/- Arguments that are an entry and an adjustment, or what is as -/
import Derived.Test.YtffgfkcljcollaaGreatDoorO44
set_option linter.unusedSimpArgs false
set_option linter.unusedVariables false
set_option maxRecDepth 100000
set_option maxHeartbeats 1600000
namespace Go.Proofs.YtffgfkcljcollaaGreatDoor
open Go.ChangeShapes Go.WideShapes Go.RowKit
theorem wY {H:Type} {enc':TypeId×Value→H} {w:World} {base:Nat} {spare:Nat→Bool} {held:Bool} {fuel:Nat} {cs:List Value} {x:DataW H×List MemPlace} (h:DataW.trod enc' Tryz.prog w base spare held fuel 34 cs=some x):∃ q:Aj,cs=ajc q:=by
 obtain ⟨xs,n,_,_,hl,hlen,hf⟩:=DataW.trod_struct Tryz.underlying34 h
 have hC:Tryz.prog.cellsOf 34=11:=by kernel_rfl
 have c0:Tryz.prog.cellsOf 3=1:=by kernel_rfl
 have c1:Tryz.prog.cellsOf 26=3:=by kernel_rfl
 have c2:Tryz.prog.cellsOf 28=4:=by kernel_rfl
 rw [hC] at hl
 match xs,hlen with
 | [y0,y1,y2,y3,y4,y5],_ =>
  have k0:DataW.trod enc' Tryz.prog w base spare held n 3 ((cs.drop 0).take 1)=some y0:=by rw [← c0];exact hf 0 _ rfl
  have k1:DataW.trod enc' Tryz.prog w base spare held n 3 ((cs.drop 1).take 1)=some y1:=by rw [← c0];exact hf 1 _ rfl
  have k2:DataW.trod enc' Tryz.prog w base spare held n 3 ((cs.drop 2).take 1)=some y2:=by rw [← c0];exact hf 2 _ rfl
  have k3:DataW.trod enc' Tryz.prog w base spare held n 3 ((cs.drop 3).take 1)=some y3:=by rw [← c0];exact hf 3 _ rfl
  have k4:DataW.trod enc' Tryz.prog w base spare held n 26 ((cs.drop 4).take 3)=some y4:=by rw [← c1];exact hf 4 _ rfl
  have k5:DataW.trod enc' Tryz.prog w base spare held n 28 ((cs.drop 7).take 4)=some y5:=by rw [← c2];exact hf 5 _ rfl
  match cs,hl with
  | [a,b,c,e,r1,r2,r3,d1,d2,d3,d4],_ =>
   obtain ⟨n0,e0,_,_⟩:=DataW.trod_int Tryz.underlying3 k0;obtain ⟨n1,e1,_,_⟩:=DataW.trod_int Tryz.underlying3 k1;obtain ⟨n2,e2,_,_⟩:=DataW.trod_int Tryz.underlying3 k2;obtain ⟨n3,e3,_,_⟩:=DataW.trod_int Tryz.underlying3 k3;obtain ⟨rn,rp,rq,er,_,_⟩:=oX Tryz.underlying26 Tryz.underlying4 Tryz.underlying9 Tryz.underlying9 (by kernel_rfl) (by kernel_rfl) (by kernel_rfl) rfl rfl rfl (by kernel_rfl) k4;obtain ⟨z1,z2,z3,z4,e5⟩:=pF k5
   simp at e0 e1 e2 e3 er e5
   obtain ⟨g1,g2,g3⟩:=er;obtain ⟨f1,f2,f3,f4⟩:=e5;exact ⟨⟨n0,n1,n2,n3,(rn,rp,rq),z1,z2,z3,z4⟩,by rw [e0,e1,e2,e3,g1,g2,g3,f1,f2,f3,f4];rfl⟩
theorem wF {H:Type} {enc':TypeId×Value→H} {w:World} {r:Reach} {b0:Nat} {v:Value} {d:DataW H} {p:List MemPlace} {base:Nat} {spare:Nat→Bool} {held:Bool}
  (hv:Value.okWide Tryz.prog w r b0 36 v) (h:DataW.Trod enc' Tryz.prog w base spare held 36 v d p):∃ (x:En) (q:Aj),v=.agg (enc x++ajc q).toArray∧EnB x:=by
 obtain ⟨cs',rfl,_⟩:=okWide_struct Tryz.underlying36 hv;obtain ⟨fuel,h⟩:=h;have hcs:(Value.agg cs').cells=cs':=rfl;rw [hcs] at h;obtain ⟨y0,y1,n,_,hl,k0,k1⟩:=trod_struct2 Tryz.underlying36 h
 have hC:Tryz.prog.cellsOf 36=24:=by kernel_rfl
 have c0:Tryz.prog.cellsOf 32=13:=by kernel_rfl
 have c1:Tryz.prog.cellsOf 34=11:=by kernel_rfl
 rw [hC] at hl
 have k0:DataW.trod enc' Tryz.prog w base spare held n 32 ((cs'.toList.drop 0).take 13)=some y0:=by rw [← c0];exact k0
 have k1:DataW.trod enc' Tryz.prog w base spare held n 34 ((cs'.toList.drop 13).take 11)=some y1:=by rw [← c1];exact k1
 obtain ⟨x,e0,hx⟩:=mH k0;obtain ⟨q,e1⟩:=wY k1
 have e2:cs'.toList=enc x++ajc q:=by
  rw [← e0,← e1,List.drop_zero];rw [List.take_of_length_le (l:=cs'.toList.drop 13) (by rw [List.length_drop,hl];decide)];exact (List.take_append_drop 13 cs'.toList).symm
 refine ⟨x,q,?_,hx⟩;rw [← e2]
theorem uD {H:Type} {enc':TypeId×Value→H} {w:World} {r:Reach} {b0:Nat} {v:Value} {d:DataW H} {p:List MemPlace} {base:Nat} {spare:Nat→Bool} {held:Bool}
  (hv:Value.okWide Tryz.prog w r b0 38 v) (h:DataW.Trod enc' Tryz.prog w base spare held 38 v d p):∃ a1 a2 a3 a4 a5:Int,v=.agg #[vI a1,vI a2,vI a3,vI a4,vI a5]:=by
 obtain ⟨cs',rfl,_⟩:=okWide_struct Tryz.underlying38 hv;obtain ⟨fuel,h⟩:=h;have hcs:(Value.agg cs').cells=cs':=rfl;rw [hcs] at h;obtain ⟨xs,n,_,_,hl,hlen,hf⟩:=DataW.trod_struct Tryz.underlying38 h
 have hC:Tryz.prog.cellsOf 38=5:=by kernel_rfl
 have c0:Tryz.prog.cellsOf 3=1:=by kernel_rfl
 rw [hC] at hl;obtain ⟨cs,hcs2⟩:∃ cs,cs'.toList=cs:=⟨_,rfl⟩;rw [hcs2] at hl hf
 match xs,hlen with
 | [y0,y1,y2,y3,y4],_ =>
  have k0:DataW.trod enc' Tryz.prog w base spare held n 3 ((cs.drop 0).take 1)=some y0:=by rw [← c0];exact hf 0 _ rfl
  have k1:DataW.trod enc' Tryz.prog w base spare held n 3 ((cs.drop 1).take 1)=some y1:=by rw [← c0];exact hf 1 _ rfl
  have k2:DataW.trod enc' Tryz.prog w base spare held n 3 ((cs.drop 2).take 1)=some y2:=by rw [← c0];exact hf 2 _ rfl
  have k3:DataW.trod enc' Tryz.prog w base spare held n 3 ((cs.drop 3).take 1)=some y3:=by rw [← c0];exact hf 3 _ rfl
  have k4:DataW.trod enc' Tryz.prog w base spare held n 3 ((cs.drop 4).take 1)=some y4:=by rw [← c0];exact hf 4 _ rfl
  match cs,hl with
  | [a,b,c,e,f],_ =>
   obtain ⟨n0,e0,_,_⟩:=DataW.trod_int Tryz.underlying3 k0;obtain ⟨n1,e1,_,_⟩:=DataW.trod_int Tryz.underlying3 k1;obtain ⟨n2,e2,_,_⟩:=DataW.trod_int Tryz.underlying3 k2;obtain ⟨n3,e3,_,_⟩:=DataW.trod_int Tryz.underlying3 k3;obtain ⟨n4,e4,_,_⟩:=DataW.trod_int Tryz.underlying3 k4
   simp at e0 e1 e2 e3 e4
   refine ⟨n0,n1,n2,n3,n4,?_⟩
   have e9:cs'=#[vI n0,vI n1,vI n2,vI n3,vI n4]:=by
    cases cs'
    simp only at hcs2;rw [hcs2,e0,e1,e2,e3,e4]
   rw [e9]
end Go.Proofs.YtffgfkcljcollaaGreatDoor

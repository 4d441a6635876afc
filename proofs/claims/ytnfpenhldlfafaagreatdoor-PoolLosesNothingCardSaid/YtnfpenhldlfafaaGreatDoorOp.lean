/- Arguments as they come in, opened to lists. -/
import Derived.ProofKit
import Derived.OpenShut
import Derived.ShutString
import Derived.SliceStrings
import Derived.Deep.Slices
import Derived.JoinedCond
import Derived.SizedLaws
import Derived.Test.YtnfpenhldlfafaaGreatDoorMA
set_option linter.unusedSimpArgs false
set_option linter.unusedVariables false
namespace Go.Proofs.YtnfpenhldlfafaaGreatDoor
open Go.ChangeShapes Go.WideShapes Go.ChangeAt Go.RowKit
theorem Rd.of_addr {w:World} {m n c:Nat} {a:Addr} {xs:List Value} (hl:xs.length=n * m) (hm:0<m) (hc:n≤c) (hmx:c≤maxLen) (h:∀ j u,xs[j]?=some u→w.cell? (a.add j)=some u):Rd w m (.slice (some a) n c) n xs:=by
 refine ⟨hl,some a,c,rfl,hc,hmx,(fun h=>by cases h),fun hn=>?_⟩
 have hpos:0<xs.length:=by rw [hl];exact Nat.mul_pos hn hm
 have h0:=h 0 _ (List.getElem?_eq_getElem hpos);obtain ⟨b,off,spot⟩:=a
 have hs:spot=none:=by simpa [Addr.add] using World.cell?_spot h0
 subst hs;have hb:=World.block_lt_of_cell? w _ h0;refine ⟨b,off,rfl,by simpa [Addr.add] using hb,fun j u hj=>?_⟩;have:=h j u hj
 have e:(⟨b,off,none⟩:Addr).add j=⟨b,off+j,none⟩:=by unfold Addr.add;split <;> simp_all
 rwa [e] at this
section
variable {H:Type} {enc:TypeId×Value→H} {P:Program} {w:World} {t e:TypeId} {a:Option Addr} {len cap:Nat} {d:DataW H} {p:List MemPlace}
theorem yC {α:Type} {g:α→List Value} {m:Nat}:∀ {l:List α},(∀ x∈l,(g x).length=m)→∀ {j:Nat} {u:Value},(fl g l)[j]?=some u→∃ i r x,i<l.length∧l[i]?=some x∧r<m∧j=i * m+r∧(g x)[r]?=some u
 | [],_,j,u,h=>by simp [fl] at h
 | x :: l,hm,j,u,h=>by
  have hx:=hm x (by simp)
  have e:fl g (x :: l)=g x++fl g l:=by simp [fl]
  rw [e] at h
  by_cases hj:j<m
  ·rw [List.getElem?_append_left (by omega)] at h
   exact ⟨0,j,x,by simp,rfl,hj,by omega,h⟩
  ·rw [List.getElem?_append_right (by omega)] at h
   obtain ⟨i,r,y,hi,hy,hr,hj2,hu⟩:=yC (fun y hy=>hm y (by simp [hy])) h;exact ⟨i+1,r,y,by simp;omega,by simpa using hy,hr,by rw [Nat.add_mul,Nat.one_mul];omega,hu⟩
end
theorem qK (s:ByteArray):∃ l:List UInt8,s=⟨l.toArray⟩∧l.length=s.size:=⟨s.data.toList,by cases s;rfl,by rw [Array.length_toList];rfl⟩
end Go.Proofs.YtnfpenhldlfafaaGreatDoor

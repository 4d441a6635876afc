/-
  Arguments as they come in, opened to lists.
-/
import Derived.ProofKit
import Derived.OpenShut
import Derived.ShutString
import Derived.SliceStrings
import Derived.Deep.Slices
import Derived.JoinedCond
import Derived.SizedLaws
import Derived.Test.YtcpedbpldgndmaaGreatDoorMA
set_option linter.unusedSimpArgs false
set_option linter.unusedVariables false
namespace Go.Proofs.YtcpedbpldgndmaaGreatDoor
open Go.ChangeShapes Go.WideShapes Go.ChangeAt Go.RowKit
theorem Rd.of_addr {w : World} {m n c : Nat} {a : Addr} {xs : List Value} (hl : xs.length = n * m) (hm : 0 < m) (hc : n ≤ c) (hmx : c ≤ maxLen) (h : ∀ j u, xs[j]? = some u → w.cell? (a.add j) = some u) : Rd w m (.slice (some a) n c) n xs := by
 refine ⟨hl, some a, c, rfl, hc, hmx, (fun h => by cases h), fun hn => ?_⟩
 have hpos : 0 < xs.length := by rw [hl]; exact Nat.mul_pos hn hm
 have h0 := h 0 _ (List.getElem?_eq_getElem hpos);obtain ⟨b, off, spot⟩ := a
 have hs : spot = none := by simpa [Addr.add] using World.cell?_spot h0
 subst hs;have hb := World.block_lt_of_cell? w _ h0;refine ⟨b, off, rfl, by simpa [Addr.add] using hb, fun j u hj => ?_⟩;have := h j u hj
 have e : (⟨b, off, none⟩ : Addr).add j = ⟨b, off + j, none⟩ := by unfold Addr.add; split <;> simp_all
 rwa [e] at this
section
variable {H : Type} {enc : TypeId × Value → H} {P : Program} {w : World} {t e : TypeId} {a : Option Addr} {len cap : Nat} {d : DataW H} {p : List MemPlace}
theorem ints_rd {k : IntKind} (ht : P.underlying t = some (.slice e)) (he : P.underlying e = some (.int k)) (hc : P.cellsOf e = 1)
  (h : DataW.Trod enc P w 0 (fun _ => true) true t (.slice a len cap) d p) : ∃ zs : List Int, zs.length = len ∧ Rd w 1 (.slice a len cap) len (zs.map (Value.int k)) ∧ ∀ n ∈ zs, (Lit.int k n).wf = true := by
 obtain ⟨fuel, hf⟩ := h
 rcases open_ints ht he hc hf with ⟨hcs, _⟩ | ⟨x, l, c, zs, hcs, _, hl, hm, hz, _, hcell, hwz⟩
 ·simp [Value.cells] at hcs
  obtain ⟨rfl, rfl, rfl⟩ := hcs;exact ⟨[], rfl, Rd.nil_ w 1, by simp⟩
 ·simp [Value.cells] at hcs
  obtain ⟨rfl, rfl, rfl⟩ := hcs
  have hz' : zs.length = cap := by simpa using hz
  refine ⟨zs.take len, by simp; omega, Rd.of_addr (by simp; omega) (by omega) hl hm (fun j u hj => ?_), fun n hn => hwz n (List.mem_of_mem_take hn)⟩;rw [List.map_take, List.getElem?_take] at hj
  split at hj
  ·have hjl : j < zs.length := by omega
   rw [hcell j hjl]
   simp [List.getElem?_eq_getElem hjl] at hj
   simp [List.getD, List.getElem?_eq_getElem hjl, hj]
  ·cases hj
theorem i64s_rd (ht : P.underlying t = some (.slice e)) (he : P.underlying e = some (.int .i64)) (hc : P.cellsOf e = 1)
  (h : DataW.Trod enc P w 0 (fun _ => true) true t (.slice a len cap) d p) : ∃ zs : List Int, zs.length = len ∧ Rd w 1 (.slice a len cap) len (zs.map (Value.int .i64)) ∧ ∀ x ∈ zs, -9223372036854775808 ≤ x ∧ x ≤ 9223372036854775807 := by
 obtain ⟨zs, hl, hr, hw⟩ := ints_rd ht he hc h;refine ⟨zs, hl, hr, fun n hn => ?_⟩;have := bounds_i64 (hw n hn)
 omega
end
end Go.Proofs.YtcpedbpldgndmaaGreatDoor

/-
  Arguments as they come in, opened to lists.
-/
import Derived.ProofKit
import Derived.OpenShut
import Derived.ShutString
import Derived.SliceStrings
import Derived.Deep.Slices
import Derived.JoinedCond
import Derived.SizedLaws
import Derived.Test.YtcpedbpldgndmaaDoorMA
set_option linter.unusedSimpArgs false
set_option linter.unusedVariables false
namespace Go.Proofs.YtcpedbpldgndmaaDoor
open Go.ChangeShapes Go.WideShapes Go.ChangeAt Go.RowKit
theorem Rd.of_addr {w : World} {m n c : Nat} {a : Addr} {xs : List Value} (hl : xs.length = n * m) (hm : 0 < m) (hc : n ≤ c) (hmx : c ≤ maxLen) (h : ∀ j u, xs[j]? = some u → w.cell? (a.add j) = some u) : Rd w m (.slice (some a) n c) n xs := by
 refine ⟨hl, some a, c, rfl, hc, hmx, (fun h => by cases h), fun hn => ?_⟩
 have hpos : 0 < xs.length := by rw [hl]; exact Nat.mul_pos hn hm
 have h0 := h 0 _ (List.getElem?_eq_getElem hpos);obtain ⟨b, off, spot⟩ := a
 have hs : spot = none := by simpa [Addr.add] using World.cell?_spot h0
 subst hs;have hb := World.block_lt_of_cell? w _ h0;refine ⟨b, off, rfl, by simpa [Addr.add] using hb, fun j u hj => ?_⟩;have := h j u hj
 have e : (⟨b, off, none⟩ : Addr).add j = ⟨b, off + j, none⟩ := by unfold Addr.add; split <;> simp_all
 rwa [e] at this
section
variable {H : Type} {enc : TypeId × Value → H} {P : Program} {w : World} {t e : TypeId} {a : Option Addr} {len cap : Nat} {d : DataW H} {p : List MemPlace}
theorem ints_rd {k : IntKind} (ht : P.underlying t = some (.slice e)) (he : P.underlying e = some (.int k)) (hc : P.cellsOf e = 1)
  (h : DataW.Trod enc P w 0 (fun _ => true) true t (.slice a len cap) d p) : ∃ zs : List Int, zs.length = len ∧ Rd w 1 (.slice a len cap) len (zs.map (Value.int k)) ∧ ∀ n ∈ zs, (Lit.int k n).wf = true := by
 obtain ⟨fuel, hf⟩ := h
 rcases open_ints ht he hc hf with ⟨hcs, _⟩ | ⟨x, l, c, zs, hcs, _, hl, hm, hz, _, hcell, hwz⟩
 ·simp [Value.cells] at hcs
  obtain ⟨rfl, rfl, rfl⟩ := hcs;exact ⟨[], rfl, Rd.nil_ w 1, by simp⟩
 ·simp [Value.cells] at hcs
  obtain ⟨rfl, rfl, rfl⟩ := hcs
  have hz' : zs.length = cap := by simpa using hz
  refine ⟨zs.take len, by simp; omega, Rd.of_addr (by simp; omega) (by omega) hl hm (fun j u hj => ?_), fun n hn => hwz n (List.mem_of_mem_take hn)⟩;rw [List.map_take, List.getElem?_take] at hj
  split at hj
  ·have hjl : j < zs.length := by omega
   rw [hcell j hjl]
   simp [List.getElem?_eq_getElem hjl] at hj
   simp [List.getD, List.getElem?_eq_getElem hjl, hj]
  ·cases hj
theorem i64s_rd (ht : P.underlying t = some (.slice e)) (he : P.underlying e = some (.int .i64)) (hc : P.cellsOf e = 1)
  (h : DataW.Trod enc P w 0 (fun _ => true) true t (.slice a len cap) d p) : ∃ zs : List Int, zs.length = len ∧ Rd w 1 (.slice a len cap) len (zs.map (Value.int .i64)) ∧ ∀ x ∈ zs, -9223372036854775808 ≤ x ∧ x ≤ 9223372036854775807 := by
 obtain ⟨zs, hl, hr, hw⟩ := ints_rd ht he hc h;refine ⟨zs, hl, hr, fun n hn => ?_⟩;have := bounds_i64 (hw n hn)
 omega
/-- The form's own reach, of a slice's length. -/
theorem slice_reach {ts : List TypeId} {ds : List (DataW H)} (hsz : (DataW.weightsEach P ts ds).all (· ≤ reachBytes) = true) {j B : Nat} (hj : ts[j]? = some t) (hd : ds[j]? = some d) (ht : P.underlying t = some (.slice e)) (hB : P.bytesOf e = B)
  (h : DataW.Trod enc P w 0 (fun _ => true) true t (.slice a len cap) d p) : len * B ≤ 140737488351232 := by
 obtain ⟨fuel, hf⟩ := h
 rcases Go.Deep.open_slice ht hf with ⟨hcs, _⟩ | ⟨x, l, c, m, n, D, Pl, hcs, _, hl, hm, hmm, hx, _⟩
 ·simp [Value.cells] at hcs
  obtain ⟨rfl, rfl, rfl⟩ := hcs
  omega
 ·simp [Value.cells] at hcs
  obtain ⟨rfl, rfl, rfl⟩ := hcs;simp only [Prod.mk.injEq] at hx;obtain ⟨rfl, _⟩ := hx;have := sized_slice hsz hj hd ht;rw [hB] at this;simp only [List.length_map, List.length_range, reachBytes] at this;have h2 : len * B ≤ (len + (m - len)) * B := Nat.mul_le_mul_right _ (by omega)
  omega
theorem fl_get {α : Type} {g : α → List Value} {m : Nat} : ∀ {l : List α}, (∀ x ∈ l, (g x).length = m) → ∀ {j : Nat} {u : Value}, (fl g l)[j]? = some u → ∃ i r x, i < l.length ∧ l[i]? = some x ∧ r < m ∧ j = i * m + r ∧ (g x)[r]? = some u
 | [], _, j, u, h => by simp [fl] at h
 | x :: l, hm, j, u, h => by
  have hx := hm x (by simp)
  have e : fl g (x :: l) = g x ++ fl g l := by simp [fl]
  rw [e] at h
  by_cases hj : j < m
  ·rw [List.getElem?_append_left (by omega)] at h
   exact ⟨0, j, x, by simp, rfl, hj, by omega, h⟩
  ·rw [List.getElem?_append_right (by omega)] at h
   obtain ⟨i, r, y, hi, hy, hr, hj2, hu⟩ := fl_get (fun y hy => hm y (by simp [hy])) h;exact ⟨i + 1, r, y, by simp; omega, by simpa using hy, hr, by rw [Nat.add_mul, Nat.one_mul]; omega, hu⟩
end
/-- A string as it comes in. -/
theorem str_list (s : ByteArray) : ∃ l : List UInt8, s = ⟨l.toArray⟩ ∧ l.length = s.size := ⟨s.data.toList, by cases s; rfl, by rw [Array.length_toList]; rfl⟩
end Go.Proofs.YtcpedbpldgndmaaDoor

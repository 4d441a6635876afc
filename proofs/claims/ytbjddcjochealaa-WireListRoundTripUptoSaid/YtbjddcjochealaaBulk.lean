/-
  What the bound of an '..Upto' statement gives: the lengths of a list of strings add up to no more.
-/
import Derived.Test.YtbjddcjochealaaRows
import Derived.Test.YtbjddcjochealaaOp
import Derived.Test.YtbjddcjochealaaFew
namespace Go.Proofs.Ytbjddcjochealaa
open Go.ChangeShapes Go.WideShapes Go.ChangeAt Go.RowKit

theorem bulk_mem {H : Type} : ∀ {l : List (DataW H)} {d : DataW H}, d ∈ l → Rows.uptoBulk d ≤ Rows.uptoBulkAll l
  | x :: l, d, h => by
    simp only [Rows.uptoBulkAll]
    rcases List.mem_cons.1 h with rfl | h
    · omega
    · have := bulk_mem h; omega
  | [], _, h => by cases h
theorem bulk_le {H : Type} {ds : List (DataW H)} (h : Rows.uptoSmall H ds = true) : Rows.uptoBulkAll ds ≤ 1048576 := of_decide_eq_true h
theorem bulk_strs {H : Type} : ∀ l : List ByteArray, Rows.uptoBulkAll (H := H) (strs l) = tot (l.map fun s => s.data.toList) + l.length
  | [] => rfl
  | x :: l => by
    have := bulk_strs (H := H) l
    simp only [strs, List.map_cons, Rows.uptoBulkAll, Rows.uptoBulk, tot, List.sum_cons, List.length_cons] at *
    omega

section
variable {H : Type} {enc : TypeId × Value → H} {P : Program} {w : World} {t e : TypeId} {a : Option Addr} {len cap : Nat} {d : DataW H} {p : List MemPlace}
theorem strs_bulk {es : List (DataW H)} (hk : Rows.uptoSmall H es = true) {j : Nat} (hjk : es[j]? = some d) {ts : List TypeId} {ds : List (DataW H)} (hsz : (DataW.weightsEach P ts ds).all (· ≤ reachBytes) = true) (hj : ts[j]? = some t) (hd : ds[j]? = some d) (ht : P.underlying t = some (.slice e)) (he : P.underlying e = some .string) (hc : P.cellsOf e = 1)
    (h : DataW.Trod enc P w 0 (fun _ => true) true t (.slice a len cap) d p) : ∃ ss : List (List UInt8), ss.length = len ∧ Rd w 1 (.slice a len cap) len (ss.map tx) ∧ (∀ s ∈ ss, s.length ≤ 140737488351232) ∧ tot ss ≤ 1048576 := by
  have hB := bulk_le hk
  have hM := bulk_mem (List.mem_of_getElem? hjk)
  obtain ⟨fuel, hf⟩ := h
  rcases open_strings ht he hc hf with ⟨hcs, _⟩ | ⟨x, l, c, ss, hcs, _, hl, hm, hz, hx, hcell, hwz⟩
  · simp [Value.cells] at hcs
    obtain ⟨rfl, rfl, rfl⟩ := hcs
    exact ⟨[], rfl, Rd.nil_ w 1, by simp, by simp [tot]⟩
  · simp [Value.cells] at hcs
    obtain ⟨rfl, rfl, rfl⟩ := hcs
    have hz' : ss.length = cap := by simpa using hz
    simp only [Prod.mk.injEq] at hx
    obtain ⟨rfl, _⟩ := hx
    have hT : tot ((ss.take len).map fun s => s.data.toList) ≤ 1048576 := by
      simp only [Rows.uptoBulk, bulk_strs] at hM
      omega
    refine ⟨(ss.take len).map fun s => s.data.toList, by simp; omega, Rd.of_addr (by simp; omega) (by omega) hl hm (fun j u hj => ?_), fun s hs => ?_, hT⟩
    · rw [List.map_map, List.map_take, List.getElem?_take] at hj
      split at hj
      · have hjl : j < ss.length := by omega
        rw [hcell j hjl]
        simp [List.getElem?_eq_getElem hjl, tx] at hj
        simp [List.getD, List.getElem?_eq_getElem hjl, ← hj]
      · cases hj
    · have := tot_mem hs
      omega
end
end Go.Proofs.Ytbjddcjochealaa

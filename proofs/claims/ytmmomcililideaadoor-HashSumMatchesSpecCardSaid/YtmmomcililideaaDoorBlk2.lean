/-
  More laws on blocks that are known whole: slices of arrays.
-/
import Derived.Test.YtmmomcililideaaDoorBlk
set_option linter.unusedSimpArgs false
set_option linter.unusedVariables false
namespace Go.Proofs.YtmmomcililideaaDoor
open Go.RowKit

theorem add_spot (g o k : Nat) : (⟨g, o, none⟩ : Addr).add k = ⟨g, o + k, none⟩ := by unfold Addr.add; split <;> simp_all

/-- 'a[k:]' of an array variable of one-cell elements. -/
theorem run_sliceAt_k {P : Program} (t e : TypeId) (n : Nat) (ht : P.underlying t = some (.array n e)) (hs : (P.info? e).map (·.size) = some 1) (g off k : Nat) (hk : k < n) :
    ∀ W : World, (Instr.sliceAt t (.pointer (some ⟨g, off, none⟩)) (some (.int .i64 (k : Int))) none none).run P W = .ok (.slice (some ⟨g, off + k, none⟩) (n - k) (n - k)) W := by
  intro W
  cases hq : P.info? e with
  | none => simp [hq] at hs
  | some i =>
    have hs1 : i.size = 1 := by simpa [hq] using hs
    have hne : ¬ n = k := by omega
    have hle : k ≤ n := by omega
    simp [Instr.sliceAt, Instr.sureAddr, run_underlying ht, Instr.sliceBounds, run_sliceBound, sizeOf, typeInfo, hq, hs1, hne, hle, add_spot]

/-- A whole block written anew: the run, and what it leaves. -/
theorem run_store_ys {P : Program} {w : World} {g : Nat} {t : TypeId} {xs : List Value} (hB : Blk w g t xs) (ys : List Value) (hl : ys.length = xs.length) (h1 : ∀ v ∈ ys, v.oneCell' = true) :
    (storeCells ⟨g, 0, none⟩ ys).run P w = .ok () (w.setRow g ys.toArray) := by
  have hst := run_storeCells_at P g 0 t ys 0 xs.toArray w hB (by simp; omega) h1
  have hdrop : xs.toArray.toList.drop (0 + 0 + ys.length) = [] := List.drop_eq_nil_of_le (by simp; omega)
  rw [hdrop] at hst
  simpa using hst
theorem Blk.row {w : World} {g : Nat} {t : TypeId} {xs : List Value} (hB : Blk w g t xs) (ys : List Value) : Blk (w.setRow g ys.toArray) g t ys := setRow_heap w g xs.toArray ys.toArray t (0, 0) hB
theorem Blk.row_other {w : World} {g g' : Nat} {t : TypeId} {xs : List Value} (hB : Blk w g' t xs) (hne : g' ≠ g) (ys : Array Value) : Blk (w.setRow g ys) g' t xs := (grown_block (setRow_grown w g ys) hB.lt hne).trans hB
theorem bel_row {W w : World} {B g : Nat} (h : Below B W w) (hg : B ≤ g) (hs : B ≤ w.heap.size) (ys : Array Value) : Below B W (w.setRow g ys) := h.grown (setRow_grown w g ys) hs (fun k hk => by simp at hk; omega)
end Go.Proofs.YtmmomcililideaaDoor

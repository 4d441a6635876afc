/-
  Arguments that are kernels, pairs of kernels.
-/
import Derived.ChangeSame
import Derived.Lib.SmallJoins
import Derived.Deep.Strs
import Derived.Test.YtcpedbpldgndmaaGreatDoorOp
import Derived.Test.YtcpedbpldgndmaaGreatDoorKv
set_option linter.unusedSimpArgs false
set_option linter.unusedVariables false
set_option maxRecDepth 100000
set_option maxHeartbeats 1600000
namespace Go.Proofs.YtcpedbpldgndmaaGreatDoor
open Go.ChangeShapes Go.WideShapes Go.RowKit
theorem kern_cells {H : Type} {enc : TypeId × Value → H} {w : World} {fuel : Nat} {a : Value} {x : DataW H × List MemPlace} (h : DataW.trod enc Tryz.prog w 0 (fun _ => true) true fuel 24 [a] = some x) : ∃ l : List Int, Ks l a w ∧ ∀ x ∈ l, -9223372036854775808 ≤ x ∧ x ≤ 9223372036854775807 := by
 obtain ⟨y0, n, _, hl, k0⟩ := trod_struct1 Tryz.underlying24 h
 have c0 : Tryz.prog.cellsOf 22 = 1 := by kernel_rfl
 have k0 : DataW.trod enc Tryz.prog w 0 (fun _ => true) true n 22 (([a].drop 0).take 1) = some y0 := by rw [← c0]; exact k0
 have ks : ∃ A m c, a = .slice A m c := by
  rcases Go.Deep.open_slice Tryz.underlying22 k0 with ⟨h1, _⟩ | ⟨_, _, _, _, _, _, _, h1, _⟩
  ·simp at h1
   exact ⟨_, _, _, h1⟩
  ·simp at h1
   exact ⟨_, _, _, h1⟩
 obtain ⟨A, m, c, rfl⟩ := ks;obtain ⟨l, h1, h2, h3⟩ := i64s_rd Tryz.underlying22 Tryz.underlying3 (by kernel_rfl) (w := w) (enc := enc) (d := y0.1) (p := y0.2) (a := A) (len := m) (cap := c) ⟨n, k0⟩;subst h1;exact ⟨l, ⟨A, c, rfl, h2⟩, h3⟩
theorem kern_open {H : Type} {enc : TypeId × Value → H} {w : World} {r : Reach} {b0 : Nat} {v : Value} {d : DataW H} {p : List MemPlace}
  (hv : Value.okWide Tryz.prog w r b0 24 v) (h : DataW.Trod enc Tryz.prog w 0 (fun _ => true) true 24 v d p) : ∃ (a : Value) (l : List Int), v = .agg #[a] ∧ Ks l a w ∧ ∀ x ∈ l, -9223372036854775808 ≤ x ∧ x ≤ 9223372036854775807 := by
 obtain ⟨cs, rfl, _⟩ := okWide_struct Tryz.underlying24 hv;obtain ⟨fuel, hf⟩ := h;obtain ⟨y0, n, _, hl, k0⟩ := trod_struct1 Tryz.underlying24 hf
 have hC : Tryz.prog.cellsOf 24 = 1 := by kernel_rfl
 rw [hC] at hl;have hcs : (Value.agg cs).cells = cs := rfl;rw [hcs] at hl hf
 obtain ⟨a, ha⟩ : ∃ a, cs.toList = [a] := by
  match hc : cs.toList, hl with
  | [a], _ => exact ⟨a, rfl⟩
 have e9 : cs = #[a] := by
  cases cs
  simp at ha
  rw [ha]
 rw [ha] at hf;obtain ⟨l, h1, h2⟩ := kern_cells hf;exact ⟨a, l, by rw [e9], h1, h2⟩
end Go.Proofs.YtcpedbpldgndmaaGreatDoor

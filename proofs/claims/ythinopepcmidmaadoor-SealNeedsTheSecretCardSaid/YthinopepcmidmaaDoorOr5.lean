/-
  An argument that is a number: a struct of a bool and two strings.
-/
import Derived.Test.YthinopepcmidmaaDoorOp
import Derived.Deep.Strs
set_option linter.unusedSimpArgs false
set_option linter.unusedVariables false
set_option maxRecDepth 100000
set_option maxHeartbeats 1600000
namespace Go.Proofs.YthinopepcmidmaaDoor
open Go.ChangeShapes Go.WideShapes Go.RowKit

theorem rat_cells {H : Type} {enc : TypeId × Value → H} {P : Program} {w : World} {t : TypeId} {base : Nat} {spare : Nat → Bool} {held : Bool} {fuel : Nat} {cs : List Value} {x : DataW H × List MemPlace} {f0 f1 f2 : Field}
    (ht : P.underlying t = some (.struct #[f0, f1, f2])) (h0 : P.underlying f0.type = some .bool) (h1 : P.underlying f1.type = some .string) (h2 : P.underlying f2.type = some .string)
    (c0 : P.cellsOf f0.type = 1) (c1 : P.cellsOf f1.type = 1) (c2 : P.cellsOf f2.type = 1) (o0 : f0.offset = 0) (o1 : f1.offset = 1) (o2 : f2.offset = 2) (hC : P.cellsOf t = 3) (h : DataW.trod enc P w base spare held fuel t cs = some x) :
    ∃ (n : Bool) (p q : List UInt8), cs = [.bool n, .string ⟨p.toArray⟩, .string ⟨q.toArray⟩] ∧ p.length ≤ maxLen ∧ q.length ≤ maxLen := by
  obtain ⟨y0, y1, y2, n, _, hl, k0, k1, k2⟩ := Go.Deep.trod_struct3 ht h
  rw [hC] at hl
  rw [c0, o0] at k0
  rw [c1, o1] at k1
  rw [c2, o2] at k2
  match cs, hl with
  | [a, b, c], _ =>
    obtain ⟨bv, e0, _⟩ := DataW.trod_bool h0 k0
    obtain ⟨s1, e1, _, z1⟩ := DataW.trod_string h1 k1
    obtain ⟨s2, e2, _, z2⟩ := DataW.trod_string h2 k2
    simp at e0 e1 e2
    obtain ⟨l1, rfl, w1⟩ := str_list s1
    obtain ⟨l2, rfl, w2⟩ := str_list s2
    exact ⟨bv, l1, l2, by rw [e0, e1, e2], by omega, by omega⟩

theorem rat_open {H : Type} {enc : TypeId × Value → H} {P : Program} {w : World} {t : TypeId} {r : Reach} {b0 : Nat} {v : Value} {d : DataW H} {p : List MemPlace} {base : Nat} {spare : Nat → Bool} {held : Bool} {f0 f1 f2 : Field}
    (ht : P.underlying t = some (.struct #[f0, f1, f2])) (h0 : P.underlying f0.type = some .bool) (h1 : P.underlying f1.type = some .string) (h2 : P.underlying f2.type = some .string)
    (c0 : P.cellsOf f0.type = 1) (c1 : P.cellsOf f1.type = 1) (c2 : P.cellsOf f2.type = 1) (o0 : f0.offset = 0) (o1 : f1.offset = 1) (o2 : f2.offset = 2) (hC : P.cellsOf t = 3)
    (hv : Value.okWide P w r b0 t v) (h : DataW.Trod enc P w base spare held t v d p) :
    ∃ (n : Bool) (p q : List UInt8), v = .agg #[.bool n, .string ⟨p.toArray⟩, .string ⟨q.toArray⟩] ∧ p.length ≤ maxLen ∧ q.length ≤ maxLen := by
  obtain ⟨cs, rfl, _⟩ := okWide_struct ht hv
  obtain ⟨fuel, hf⟩ := h
  obtain ⟨n, p, q, e, hp, hq⟩ := rat_cells ht h0 h1 h2 c0 c1 c2 o0 o1 o2 hC hf
  refine ⟨n, p, q, ?_, hp, hq⟩
  have e9 : cs.toList = [.bool n, .string ⟨p.toArray⟩, .string ⟨q.toArray⟩] := by simpa [Value.cells] using e
  rw [← e9]
end Go.Proofs.YthinopepcmidmaaDoor

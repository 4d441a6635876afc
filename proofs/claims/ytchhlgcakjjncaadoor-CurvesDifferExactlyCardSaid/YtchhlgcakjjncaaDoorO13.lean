/-
  Arguments that are curves, changes, arrays of two small integers.
-/
import Derived.ChangeSame
import Derived.Test.YtchhlgcakjjncaaDoorOr6
import Derived.Test.YtchhlgcakjjncaaDoorCw
set_option linter.unusedSimpArgs false
set_option linter.unusedVariables false
set_option maxRecDepth 100000
set_option maxHeartbeats 1600000
namespace Go.Proofs.YtchhlgcakjjncaaDoor
open Go.ChangeShapes Go.WideShapes Go.RowKit
theorem point_cells {H : Type} {enc : TypeId × Value → H} {w : World} {base : Nat} {spare : Nat → Bool} {held : Bool} {fuel : Nat} {cs : List Value} {x : DataW H × List MemPlace} (h : DataW.trod enc Tryd.prog w base spare held fuel 54 cs = some x) : ∃ y : Pt, cs = ptc y ∧ True := by
  obtain ⟨y0, y1, n, _, hl, k0, k1⟩ := trod_struct2 Tryd.underlying54 h
  have hC : Tryd.prog.cellsOf 54 = 4 := by kernel_rfl
  have c0 : Tryd.prog.cellsOf 3 = 1 := by kernel_rfl
  have c1 : Tryd.prog.cellsOf 26 = 3 := by kernel_rfl
  rw [hC] at hl
  have k0 : DataW.trod enc Tryd.prog w base spare held n 3 ((cs.drop 0).take 1) = some y0 := by rw [← c0]; exact k0
  have k1 : DataW.trod enc Tryd.prog w base spare held n 26 ((cs.drop 1).take 3) = some y1 := by rw [← c1]; exact k1
  match cs, hl with
  | [a, b, c, d], _ =>
    obtain ⟨n0, hn0, _, w0⟩ := DataW.trod_int Tryd.underlying3 k0
    obtain ⟨rn, rp, rq, e, _, _⟩ := rat_cells Tryd.underlying26 Tryd.underlying4 Tryd.underlying9 Tryd.underlying9 (by kernel_rfl) (by kernel_rfl) (by kernel_rfl) rfl rfl rfl (by kernel_rfl) k1
    simp at hn0 e
    obtain ⟨e1, e2, e3⟩ := e
    exact ⟨(n0, rn, rp, rq), by rw [hn0, e1, e2, e3]; rfl, trivial⟩
theorem curve_open {H : Type} {enc : TypeId × Value → H} {w : World} {r : Reach} {b0 : Nat} {v : Value} {d : DataW H} {p : List MemPlace}
    (hv : Value.okWide Tryd.prog w r b0 48 v) (h : DataW.Trod enc Tryd.prog w 0 (fun _ => true) true 48 v d p) :
    ∃ (A : Option Addr) (n c : Nat) (l : List Pt), v = .agg #[.slice A n c] ∧ Rd w 4 (.slice A n c) n (fl ptc l) ∧ l.length = n ∧ n ≤ 9223372036854775807 := by
  obtain ⟨cs, rfl, _⟩ := okWide_struct Tryd.underlying48 hv
  obtain ⟨fuel, hf⟩ := h
  obtain ⟨y0, n, _, hl, k0⟩ := trod_struct1 Tryd.underlying48 hf
  have hC : Tryd.prog.cellsOf 48 = 1 := by kernel_rfl
  have c0 : Tryd.prog.cellsOf 46 = 1 := by kernel_rfl
  rw [hC] at hl
  have k0 : DataW.trod enc Tryd.prog w 0 (fun _ => true) true n 46 (((Value.agg cs).cells.toList.drop 0).take 1) = some y0 := by rw [← c0]; exact k0
  have hcs : (Value.agg cs).cells = cs := rfl
  rw [hcs] at hl k0
  obtain ⟨a, ha⟩ : ∃ a, cs.toList = [a] := by
    match hc : cs.toList, hl with
    | [a], _ => exact ⟨a, rfl⟩
  rw [ha] at k0
  have e9 : cs = #[a] := by
    cases cs
    simp at ha
    rw [ha]
  have ks : ∃ A m c, a = .slice A m c := by
    rcases Go.Deep.open_slice Tryd.underlying46 k0 with ⟨h1, _⟩ | ⟨_, _, _, _, _, _, _, h1, _⟩
    · simp at h1
      exact ⟨_, _, _, h1⟩
    · simp at h1
      exact ⟨_, _, _, h1⟩
  obtain ⟨A, m, c, rfl⟩ := ks
  obtain ⟨l, h1, h2, _⟩ := aggs_rd (g := ptc) (R := fun _ => True) (m := 4) Tryd.underlying46 (by kernel_rfl) (by omega) ptc_len (fun h => point_cells h) (w := w) (enc := enc) (d := y0.1) (p := y0.2) (a := A) (len := m) (cap := c) ⟨n, k0⟩
  have hm : m ≤ 9223372036854775807 := by
    obtain ⟨A', c', e, h3, h4⟩ := h2.form
    unfold maxLen at h4
    omega
  exact ⟨A, m, c, l, by rw [e9], h2, h1, hm⟩
theorem change_open {H : Type} {enc : TypeId × Value → H} {w : World} {r : Reach} {b0 : Nat} {v : Value} {d : DataW H} {p : List MemPlace} {base : Nat} {spare : Nat → Bool} {held : Bool}
    (hv : Value.okWide Tryd.prog w r b0 60 v) (h : DataW.Trod enc Tryd.prog w base spare held 60 v d p) :
    ∃ (x : Int) (n : Bool) (p q : List UInt8), v = .agg #[.int .i64 x, .bool n, .string ⟨p.toArray⟩, .string ⟨q.toArray⟩] ∧ -9223372036854775808 ≤ x ∧ x ≤ 9223372036854775807 := by
  obtain ⟨cs, rfl, _⟩ := okWide_struct Tryd.underlying60 hv
  obtain ⟨fuel, hf⟩ := h
  obtain ⟨y0, y1, n, _, hl, k0, k1⟩ := trod_struct2 Tryd.underlying60 hf
  have hC : Tryd.prog.cellsOf 60 = 4 := by kernel_rfl
  have c0 : Tryd.prog.cellsOf 3 = 1 := by kernel_rfl
  have c1 : Tryd.prog.cellsOf 26 = 3 := by kernel_rfl
  rw [hC] at hl
  have k0 : DataW.trod enc Tryd.prog w base spare held n 3 (((Value.agg cs).cells.toList.drop 0).take 1) = some y0 := by rw [← c0]; exact k0
  have k1 : DataW.trod enc Tryd.prog w base spare held n 26 (((Value.agg cs).cells.toList.drop 1).take 3) = some y1 := by rw [← c1]; exact k1
  have hcs : (Value.agg cs).cells = cs := rfl
  rw [hcs] at hl k0 k1
  obtain ⟨a, b, c, e, he⟩ : ∃ a b c e, cs.toList = [a, b, c, e] := by
    match hc : cs.toList, hl with
    | [a, b, c, e], _ => exact ⟨a, b, c, e, rfl⟩
  rw [he] at k0 k1
  have e9 : cs = #[a, b, c, e] := by
    cases cs
    simp at he
    rw [he]
  obtain ⟨n0, hn0, _, w0⟩ := DataW.trod_int Tryd.underlying3 k0
  obtain ⟨rn, rp, rq, ee, _, _⟩ := rat_cells Tryd.underlying26 Tryd.underlying4 Tryd.underlying9 Tryd.underlying9 (by kernel_rfl) (by kernel_rfl) (by kernel_rfl) rfl rfl rfl (by kernel_rfl) k1
  simp at hn0 ee
  obtain ⟨e1, e2, e3⟩ := ee
  have b0 := bounds_i64 w0
  exact ⟨n0, rn, rp, rq, by rw [e9, hn0, e1, e2, e3], by omega, by omega⟩
theorem halves_open {H : Type} {enc : TypeId × Value → H} {P : Program} {w : World} {t e : TypeId} {r : Reach} {b0 : Nat} {v : Value} {d : DataW H} {p : List MemPlace} {base : Nat} {spare : Nat → Bool} {held : Bool}
    (ht : P.underlying t = some (.array 2 e)) (he : P.underlying e = some (.int .i16)) (hc : P.cellsOf e = 1) (hC : P.cellsOf t = 2) (hv : Value.okWide P w r b0 t v) (h : DataW.Trod enc P w base spare held t v d p) :
    ∃ x y : Int, v = .agg #[.int .i16 x, .int .i16 y] ∧ -32768 ≤ x ∧ x ≤ 32767 ∧ -32768 ≤ y ∧ y ≤ 32767 := by
  simp only [Value.okWide, ht] at hv
  obtain ⟨cs, rfl, hsz, _⟩ := hv
  rw [hC] at hsz
  obtain ⟨c0, c1, rfl⟩ := Go.Joins.array2 hsz
  obtain ⟨fuel, hf⟩ := h
  obtain ⟨xs, m, _, _, _, hlen, hi⟩ := DataW.trod_array ht hf
  have h0 := hi 0 (by omega)
  have h1 := hi 1 (by omega)
  rw [hc] at h0 h1
  have e0 : xs[0]? = some (xs[0]'(by omega)) := List.getElem?_eq_getElem (by omega)
  have e1 : xs[1]? = some (xs[1]'(by omega)) := List.getElem?_eq_getElem (by omega)
  rw [e0] at h0
  rw [e1] at h1
  obtain ⟨n0, hn0, _, w0⟩ := DataW.trod_int he h0
  obtain ⟨n1, hn1, _, w1⟩ := DataW.trod_int he h1
  simp [Value.cells] at hn0 hn1
  have b0 := bounds_i16 w0
  have b1 := bounds_i16 w1
  refine ⟨n0, n1, ?_, by omega, by omega, by omega, by omega⟩
  rw [hn0, hn1]
end Go.Proofs.YtchhlgcakjjncaaDoor

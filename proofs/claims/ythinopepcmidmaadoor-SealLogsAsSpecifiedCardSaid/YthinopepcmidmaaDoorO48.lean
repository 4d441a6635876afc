/-
  Arguments that are rings and statements, and lists of them.
-/
import Derived.ChangeSame
import Derived.Lib.SmallJoins
import Derived.Deep.Strs
import Derived.Test.YthinopepcmidmaaDoorOp
import Derived.Test.YthinopepcmidmaaDoorPl48
import Derived.Test.YthinopepcmidmaaDoorMB
import Derived.Test.YthinopepcmidmaaDoorWe
set_option linter.unusedSimpArgs false
set_option linter.unusedVariables false
set_option maxRecDepth 100000
set_option maxHeartbeats 1600000
namespace Go.Proofs.YthinopepcmidmaaDoor
open Go.ChangeShapes Go.WideShapes Go.RowKit
/-- A statement as it lies. -/
def slc (s : Sl) : List Value := [.int .i64 s.st] ++ ([.int .i64 s.sq] ++ ([.int .i64 s.dy] ++ ([.int .i64 s.kd] ++ ([.string ⟨s.bd.toArray⟩] ++ (s.pv.map B8 ++ s.sl.map B8)))))
/-- What holds of every statement that lies somewhere. -/
structure SlOk (s : Sl) : Prop where
  st : -9223372036854775808 ≤ s.st ∧ s.st ≤ 9223372036854775807
  sq : -9223372036854775808 ≤ s.sq ∧ s.sq ≤ 9223372036854775807
  dy : -9223372036854775808 ≤ s.dy ∧ s.dy ≤ 9223372036854775807
  kd : -9223372036854775808 ≤ s.kd ∧ s.kd ≤ 9223372036854775807
  bd : s.bd.length ≤ 9223372036854775807
  pv : s.pv.length = 16
  sl : s.sl.length = 16
theorem sealed_cells {H : Type} {enc : TypeId × Value → H} {w : World} {base : Nat} {spare : Nat → Bool} {held : Bool} {fuel : Nat} {cs : List Value} {x : DataW H × List MemPlace} (h : DataW.trod enc Tryd.prog w base spare held fuel 28 cs = some x) : ∃ s : Sl, cs = slc s ∧ SlOk s := by
  obtain ⟨xs, n, _, _, hl, hlen, hf⟩ := DataW.trod_struct Tryd.underlying28 h
  have hC : Tryd.prog.cellsOf 28 = 37 := by kernel_rfl
  have c0 : Tryd.prog.cellsOf 3 = 1 := by kernel_rfl
  have c1 : Tryd.prog.cellsOf 9 = 1 := by kernel_rfl
  have c2 : Tryd.prog.cellsOf 26 = 16 := by kernel_rfl
  have c3 : Tryd.prog.cellsOf 5 = 1 := by kernel_rfl
  rw [hC] at hl
  match xs, hlen with
  | [y0, y1, y2, y3, y4, y5, y6], _ =>
    have k0 : DataW.trod enc Tryd.prog w base spare held n 3 ((cs.drop 0).take 1) = some y0 := by rw [← c0]; exact hf 0 _ rfl
    have k1 : DataW.trod enc Tryd.prog w base spare held n 3 ((cs.drop 1).take 1) = some y1 := by rw [← c0]; exact hf 1 _ rfl
    have k2 : DataW.trod enc Tryd.prog w base spare held n 3 ((cs.drop 2).take 1) = some y2 := by rw [← c0]; exact hf 2 _ rfl
    have k3 : DataW.trod enc Tryd.prog w base spare held n 3 ((cs.drop 3).take 1) = some y3 := by rw [← c0]; exact hf 3 _ rfl
    have k4 : DataW.trod enc Tryd.prog w base spare held n 9 ((cs.drop 4).take 1) = some y4 := by rw [← c1]; exact hf 4 _ rfl
    have k5 : DataW.trod enc Tryd.prog w base spare held n 26 ((cs.drop 5).take 16) = some y5 := by rw [← c2]; exact hf 5 _ rfl
    have k6 : DataW.trod enc Tryd.prog w base spare held n 26 ((cs.drop 21).take 16) = some y6 := by rw [← c2]; exact hf 6 _ rfl
    obtain ⟨n0, e0, _, w0⟩ := DataW.trod_int Tryd.underlying3 k0
    obtain ⟨n1, e1, _, w1⟩ := DataW.trod_int Tryd.underlying3 k1
    obtain ⟨n2, e2, _, w2⟩ := DataW.trod_int Tryd.underlying3 k2
    obtain ⟨n3, e3, _, w3⟩ := DataW.trod_int Tryd.underlying3 k3
    obtain ⟨s4, e4, _, z4⟩ := DataW.trod_string Tryd.underlying9 k4
    obtain ⟨b5, l5, e5⟩ := arr_bytes Tryd.underlying26 Tryd.underlying5 c3 c2 k5
    obtain ⟨b6, l6, e6⟩ := arr_bytes Tryd.underlying26 Tryd.underlying5 c3 c2 k6
    obtain ⟨t4, rfl, u4⟩ := str_list s4
    have q0 := bounds_i64 w0
    have q1 := bounds_i64 w1
    have q2 := bounds_i64 w2
    have q3 := bounds_i64 w3
    refine ⟨⟨n0, n1, n2, n3, t4, b5, b6⟩, ?_, ⟨by omega, by omega, by omega, by omega, by show t4.length ≤ _; unfold maxLen at z4; omega, l5, l6⟩⟩
    have e : ∀ i k, cs.drop i = (cs.drop i).take k ++ cs.drop (i + k) := fun i k => by rw [← List.drop_drop, List.take_append_drop]
    have hend : cs.drop 37 = [] := List.drop_eq_nil_of_le (by omega)
    have h0 : cs = cs.drop 0 := rfl
    rw [h0, e 0 1, e0, e (0 + 1) 1, e1, e (0 + 1 + 1) 1, e2, e (0 + 1 + 1 + 1) 1, e3, e (0 + 1 + 1 + 1 + 1) 1, e4, e (0 + 1 + 1 + 1 + 1 + 1) 16, e5, e (0 + 1 + 1 + 1 + 1 + 1 + 16) 16, e6, hend, List.append_nil]
    rfl
theorem sealed_open {H : Type} {enc : TypeId × Value → H} {w : World} {r : Reach} {b0 : Nat} {v : Value} {d : DataW H} {p : List MemPlace} {base : Nat} {spare : Nat → Bool} {held : Bool}
    (hv : Value.okWide Tryd.prog w r b0 28 v) (h : DataW.Trod enc Tryd.prog w base spare held 28 v d p) : ∃ s : Sl, v = .agg (slc s).toArray ∧ SlOk s := by
  obtain ⟨cs, rfl, _⟩ := okWide_struct Tryd.underlying28 hv
  obtain ⟨fuel, hf⟩ := h
  obtain ⟨s, e, hs⟩ := sealed_cells hf
  refine ⟨s, ?_, hs⟩
  have e9 : cs.toList = slc s := by simpa [Value.cells] using e
  rw [← e9]
theorem ring_open {H : Type} {enc : TypeId × Value → H} {w : World} {r : Reach} {b0 : Nat} {v : Value} {d : DataW H} {p : List MemPlace}
    (hv : Value.okWide Tryd.prog w r b0 24 v) (h : DataW.Trod enc Tryd.prog w 0 (fun _ => true) true 24 v d p) :
    ∃ (A : Option Addr) (n c : Nat) (ss : List (List UInt8)), v = .agg #[.slice A n c] ∧ Rd w 1 (.slice A n c) n (ss.map tx) ∧ ss.length = n ∧ n ≤ 9223372036854775807 := by
  obtain ⟨cs, rfl, _⟩ := okWide_struct Tryd.underlying24 hv
  obtain ⟨fuel, hf⟩ := h
  obtain ⟨y0, n, _, hl, k0⟩ := trod_struct1 Tryd.underlying24 hf
  have hC : Tryd.prog.cellsOf 24 = 1 := by kernel_rfl
  have c0 : Tryd.prog.cellsOf 22 = 1 := by kernel_rfl
  rw [hC] at hl
  have k0 : DataW.trod enc Tryd.prog w 0 (fun _ => true) true n 22 (((Value.agg cs).cells.toList.drop 0).take 1) = some y0 := by rw [← c0]; exact k0
  have hcs : (Value.agg cs).cells = cs := rfl
  rw [hcs] at hl k0
  obtain ⟨a, ha⟩ : ∃ a, cs.toList = [a] := by
    match hc : cs.toList, hl with
    | [a], _ => exact ⟨a, rfl⟩
  rw [ha] at k0
  have e9 : cs = #[a] := by
    cases cs
    simp at ha
    rw [ha]
  have ks : ∃ A m c, a = .slice A m c := by
    rcases Go.Deep.open_slice Tryd.underlying22 k0 with ⟨h1, _⟩ | ⟨_, _, _, _, _, _, _, h1, _⟩
    · simp at h1
      exact ⟨_, _, _, h1⟩
    · simp at h1
      exact ⟨_, _, _, h1⟩
  obtain ⟨A, m, c, rfl⟩ := ks
  obtain ⟨ss, h1, h2⟩ := strs_rd (w := w) (enc := enc) (d := y0.1) (p := y0.2) (a := A) (len := m) (cap := c) Tryd.underlying22 Tryd.underlying9 (by kernel_rfl) ⟨n, k0⟩
  have hm : m ≤ 9223372036854775807 := by
    obtain ⟨A', c', e, h3, h4⟩ := h2.form
    unfold maxLen at h4
    omega
  exact ⟨A, m, c, ss, by rw [e9], h2, h1, hm⟩
end Go.Proofs.YthinopepcmidmaaDoor

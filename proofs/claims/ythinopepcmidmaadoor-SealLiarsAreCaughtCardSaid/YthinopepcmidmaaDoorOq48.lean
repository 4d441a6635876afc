/-
  Arguments that are lists of statements and of things said, pairs of rings and of lists.
-/
import Derived.Lib.SmallJoins
import Derived.Test.YthinopepcmidmaaDoorO48
import Derived.Test.YthinopepcmidmaaDoorPl48b
set_option linter.unusedSimpArgs false
set_option linter.unusedVariables false
set_option maxRecDepth 100000
set_option maxHeartbeats 1600000
namespace Go.Proofs.YthinopepcmidmaaDoor
open Go.ChangeShapes Go.WideShapes Go.RowKit
section
variable {H : Type} {enc : TypeId × Value → H} {w : World}
theorem slice_cell {P : Program} {t e : TypeId} {n : Nat} {a : Value} {y : DataW H × List MemPlace} (ht : P.underlying t = some (.slice e)) (k : DataW.trod enc P w 0 (fun _ => true) true n t [a] = some y) : ∃ A m c, a = .slice A m c := by
  rcases Go.Deep.open_slice ht k with ⟨h1, _⟩ | ⟨_, _, _, _, _, _, _, h1, _⟩
  · simp at h1
    exact ⟨_, _, _, h1⟩
  · simp at h1
    exact ⟨_, _, _, h1⟩
/-- Two cells of an array. -/
theorem two_cells {P : Program} {t e : TypeId} {r : Reach} {b0 : Nat} {v : Value} {d : DataW H} {p : List MemPlace} (ht : P.underlying t = some (.array 2 e)) (hc : P.cellsOf e = 1) (hC : P.cellsOf t = 2) (hv : Value.okWide P w r b0 t v) (h : DataW.Trod enc P w 0 (fun _ => true) true t v d p) :
    ∃ (a b : Value) (n : Nat) (y z : DataW H × List MemPlace), v = .agg #[a, b] ∧ DataW.trod enc P w 0 (fun _ => true) true n e [a] = some y ∧ DataW.trod enc P w 0 (fun _ => true) true n e [b] = some z := by
  simp only [Value.okWide, ht] at hv
  obtain ⟨cs, rfl, hsz, _⟩ := hv
  rw [hC] at hsz
  obtain ⟨c0, c1, rfl⟩ := Go.Joins.array2 hsz
  obtain ⟨fuel, hf⟩ := h
  obtain ⟨xs, m, _, _, _, hlen, hi⟩ := DataW.trod_array ht hf
  have h0 := hi 0 (by omega)
  have h1 := hi 1 (by omega)
  rw [hc] at h0 h1
  have e0 : xs[0]? = some (xs[0]'(by omega)) := List.getElem?_eq_getElem (by omega)
  have e1 : xs[1]? = some (xs[1]'(by omega)) := List.getElem?_eq_getElem (by omega)
  rw [e0] at h0
  rw [e1] at h1
  exact ⟨c0, c1, m, _, _, rfl, h0, h1⟩
/-- A thing said as it lies. -/
def sdc (d : Sd) : List Value := [.int .u8 d.1, .int .u8 d.2.1, .string ⟨d.2.2.toArray⟩]
structure SdB (d : Sd) : Prop where
  day : 0 ≤ d.1 ∧ d.1 ≤ 255
  kd : 0 ≤ d.2.1 ∧ d.2.1 ≤ 255
  bd : d.2.2.length ≤ 9223372036854775807
theorem sdc_len (d : Sd) : (sdc d).length = 3 := rfl
theorem said_cells {base : Nat} {spare : Nat → Bool} {held : Bool} {fuel : Nat} {cs : List Value} {x : DataW H × List MemPlace} (h : DataW.trod enc Tryd.prog w base spare held fuel 72 cs = some x) : ∃ d : Sd, cs = sdc d ∧ SdB d := by
  obtain ⟨xs, n, _, _, hl, hlen, hf⟩ := DataW.trod_struct Tryd.underlying72 h
  have hC : Tryd.prog.cellsOf 72 = 3 := by kernel_rfl
  have c0 : Tryd.prog.cellsOf 5 = 1 := by kernel_rfl
  have c1 : Tryd.prog.cellsOf 9 = 1 := by kernel_rfl
  rw [hC] at hl
  match xs, hlen with
  | [y0, y1, y2], _ =>
    have k0 : DataW.trod enc Tryd.prog w base spare held n 5 ((cs.drop 0).take 1) = some y0 := by rw [← c0]; exact hf 0 _ rfl
    have k1 : DataW.trod enc Tryd.prog w base spare held n 5 ((cs.drop 1).take 1) = some y1 := by rw [← c0]; exact hf 1 _ rfl
    have k2 : DataW.trod enc Tryd.prog w base spare held n 9 ((cs.drop 2).take 1) = some y2 := by rw [← c1]; exact hf 2 _ rfl
    obtain ⟨n0, e0, _, w0⟩ := DataW.trod_int Tryd.underlying5 k0
    obtain ⟨n1, e1, _, w1⟩ := DataW.trod_int Tryd.underlying5 k1
    obtain ⟨s2, e2, _, z2⟩ := DataW.trod_string Tryd.underlying9 k2
    obtain ⟨t2, rfl, u2⟩ := str_list s2
    have q0 := bounds_u8 w0
    have q1 := bounds_u8 w1
    match cs, hl with
    | [a, b, c], _ =>
      simp at e0 e1 e2
      exact ⟨(n0, n1, t2), by rw [e0, e1, e2]; rfl, ⟨by show 0 ≤ n0 ∧ n0 ≤ 255; omega, by show 0 ≤ n1 ∧ n1 ≤ 255; omega, by show t2.length ≤ _; unfold maxLen at z2; omega⟩⟩
theorem sds_cells {n : Nat} {a : Value} {y : DataW H × List MemPlace} (h : DataW.trod enc Tryd.prog w 0 (fun _ => true) true n 53 [a] = some y) :
    ∃ (A : Option Addr) (n c : Nat) (l : List Sd), a = .slice A n c ∧ Rd w 3 (.slice A n c) n (fl sdc l) ∧ l.length = n ∧ n ≤ 9223372036854775807 ∧ ∀ s ∈ l, SdB s := by
  obtain ⟨A, m, c, rfl⟩ := slice_cell Tryd.underlying53 h
  obtain ⟨l, h1, h2, h3⟩ := aggs_rd (g := sdc) (R := SdB) (m := 3) Tryd.underlying53 (by kernel_rfl) (by omega) sdc_len (fun h => said_cells h) (w := w) (enc := enc) (d := y.1) (p := y.2) (a := A) (len := m) (cap := c) ⟨n, h⟩
  have hm : m ≤ 9223372036854775807 := by
    obtain ⟨A', c', e, h3, h4⟩ := h2.form
    unfold maxLen at h4
    omega
  exact ⟨A, m, c, l, rfl, h2, h1, hm, h3⟩
theorem two_saids {r : Reach} {b0 : Nat} {v : Value} {d : DataW H} {p : List MemPlace} (hv : Value.okWide Tryd.prog w r b0 58 v) (h : DataW.Trod enc Tryd.prog w 0 (fun _ => true) true 58 v d p) :
    ∃ (A : Option Addr) (n c : Nat) (l : List Sd) (A' : Option Addr) (n' c' : Nat) (l' : List Sd), v = .agg #[.slice A n c, .slice A' n' c'] ∧ (Rd w 3 (.slice A n c) n (fl sdc l) ∧ l.length = n ∧ n ≤ 9223372036854775807 ∧ ∀ s ∈ l, SdB s) ∧ (Rd w 3 (.slice A' n' c') n' (fl sdc l') ∧ l'.length = n' ∧ n' ≤ 9223372036854775807 ∧ ∀ s ∈ l', SdB s) := by
  obtain ⟨a, b, n, y, z, rfl, h0, h1⟩ := two_cells Tryd.underlying58 (by kernel_rfl) (by kernel_rfl) hv h
  obtain ⟨A, n1, c, l, rfl, q⟩ := sds_cells h0
  obtain ⟨A', n2, c', l', rfl, q'⟩ := sds_cells h1
  exact ⟨A, n1, c, l, A', n2, c', l', rfl, q, q'⟩
end
end Go.Proofs.YthinopepcmidmaaDoor

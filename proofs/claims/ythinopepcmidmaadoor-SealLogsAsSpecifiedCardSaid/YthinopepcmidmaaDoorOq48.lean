/-
  Arguments that are lists of statements and of things said, pairs of rings and of lists.
-/
import Derived.Lib.SmallJoins
import Derived.Test.YthinopepcmidmaaDoorO48
import Derived.Test.YthinopepcmidmaaDoorPl48b
set_option linter.unusedSimpArgs false
set_option linter.unusedVariables false
set_option maxRecDepth 100000
set_option maxHeartbeats 1600000
namespace Go.Proofs.YthinopepcmidmaaDoor
open Go.ChangeShapes Go.WideShapes Go.RowKit
section
variable {H : Type} {enc : TypeId × Value → H} {w : World}
theorem slice_cell {P : Program} {t e : TypeId} {n : Nat} {a : Value} {y : DataW H × List MemPlace} (ht : P.underlying t = some (.slice e)) (k : DataW.trod enc P w 0 (fun _ => true) true n t [a] = some y) : ∃ A m c, a = .slice A m c := by
  rcases Go.Deep.open_slice ht k with ⟨h1, _⟩ | ⟨_, _, _, _, _, _, _, h1, _⟩
  · simp at h1
    exact ⟨_, _, _, h1⟩
  · simp at h1
    exact ⟨_, _, _, h1⟩
/-- A slice of structs whose cells are so many only if they are right. -/
theorem aggsR_rd {P : Program} {t e : TypeId} {a : Option Addr} {len cap : Nat} {d : DataW H} {p : List MemPlace} {α : Type} [Inhabited α] {g : α → List Value} {R : α → Prop} {m : Nat}
    (ht : P.underlying t = some (.slice e)) (hm : P.cellsOf e = m) (hm0 : 0 < m) (hg : ∀ y, R y → (g y).length = m)
    (hop : ∀ {base : Nat} {spare : Nat → Bool} {held : Bool} {fuel : Nat} {cs : List Value} {x : DataW H × List MemPlace}, DataW.trod enc P w base spare held fuel e cs = some x → ∃ y, cs = g y ∧ R y)
    (h : DataW.Trod enc P w 0 (fun _ => true) true t (.slice a len cap) d p) : ∃ ss : List α, ss.length = len ∧ Rd w m (.slice a len cap) len (fl g ss) ∧ ∀ s ∈ ss, R s := by
  obtain ⟨fuel, hf⟩ := h
  rcases Go.Deep.open_slice ht hf with ⟨hcs, _⟩ | ⟨x, l, c, k, n, D, Pl, hcs, _, hl, hmx, hk, hx, hel⟩
  · simp [Value.cells] at hcs
    obtain ⟨rfl, rfl, rfl⟩ := hcs
    exact ⟨[], rfl, Rd.nil_ w m, by simp⟩
  · simp [Value.cells] at hcs
    obtain ⟨rfl, rfl, rfl⟩ := hcs
    have hlk : len ≤ k := by rw [hk]; split <;> omega
    have key : ∀ i, i < len → ∃ y : α, R y ∧ ∀ r u, (g y)[r]? = some u → w.cell? (x.add (i * m + r)) = some u := by
      intro i hi
      obtain ⟨cs', h1, h2⟩ := hel i (by omega)
      obtain ⟨y, rfl, hR⟩ := hop h2
      refine ⟨y, hR, fun r u hu => ?_⟩
      rw [hm] at h1
      obtain ⟨_, _, h3⟩ := World.cells?_some h1
      have h4 : r < m := by have := (List.getElem?_eq_some_iff.1 hu).1; rwa [hg y hR] at this
      have := h3 r h4
      rw [Go.Deep.add_add, hu] at this
      exact this
    obtain ⟨f, hf'⟩ := Go.Deep.choose_lt (α := α) key
    have hall : ∀ s ∈ (List.range len).map f, R s := by
      intro s hs
      obtain ⟨i, hi, rfl⟩ := List.mem_map.1 hs
      exact (hf' i (List.mem_range.1 hi)).1
    refine ⟨(List.range len).map f, by simp, Rd.of_addr (by rw [fl_len (fun y hy => hg y (hall y hy))]; simp) hm0 hl hmx (fun j u hj => ?_), hall⟩
    obtain ⟨i, r, y, hi, hy, hr, rfl, hu⟩ := fl_get (fun y hy => hg y (hall y hy)) hj
    simp at hi
    simp [hi] at hy
    subst hy
    exact (hf' i hi).2 r u hu
/-- Two cells of an array. -/
theorem two_cells {P : Program} {t e : TypeId} {r : Reach} {b0 : Nat} {v : Value} {d : DataW H} {p : List MemPlace} (ht : P.underlying t = some (.array 2 e)) (hc : P.cellsOf e = 1) (hC : P.cellsOf t = 2) (hv : Value.okWide P w r b0 t v) (h : DataW.Trod enc P w 0 (fun _ => true) true t v d p) :
    ∃ (a b : Value) (n : Nat) (y z : DataW H × List MemPlace), v = .agg #[a, b] ∧ DataW.trod enc P w 0 (fun _ => true) true n e [a] = some y ∧ DataW.trod enc P w 0 (fun _ => true) true n e [b] = some z := by
  simp only [Value.okWide, ht] at hv
  obtain ⟨cs, rfl, hsz, _⟩ := hv
  rw [hC] at hsz
  obtain ⟨c0, c1, rfl⟩ := Go.Joins.array2 hsz
  obtain ⟨fuel, hf⟩ := h
  obtain ⟨xs, m, _, _, _, hlen, hi⟩ := DataW.trod_array ht hf
  have h0 := hi 0 (by omega)
  have h1 := hi 1 (by omega)
  rw [hc] at h0 h1
  have e0 : xs[0]? = some (xs[0]'(by omega)) := List.getElem?_eq_getElem (by omega)
  have e1 : xs[1]? = some (xs[1]'(by omega)) := List.getElem?_eq_getElem (by omega)
  rw [e0] at h0
  rw [e1] at h1
  exact ⟨c0, c1, m, _, _, rfl, h0, h1⟩
theorem sls_cells {n : Nat} {a : Value} {y : DataW H × List MemPlace} (h : DataW.trod enc Tryd.prog w 0 (fun _ => true) true n 30 [a] = some y) :
    ∃ (A : Option Addr) (n c : Nat) (l : List Sl), a = .slice A n c ∧ Rd w 37 (.slice A n c) n (fl slc l) ∧ l.length = n ∧ n ≤ 9223372036854775807 ∧ ∀ s ∈ l, SlOk s := by
  obtain ⟨A, m, c, rfl⟩ := slice_cell Tryd.underlying30 h
  have hlen : ∀ s : Sl, SlOk s → (slc s).length = 37 := fun s h => by
    unfold slc
    simp only [List.length_append, List.length_cons, List.length_nil, List.length_map, h.pv, h.sl]
  obtain ⟨l, h1, h2, h3⟩ := aggsR_rd (g := slc) (R := SlOk) (m := 37) Tryd.underlying30 (by kernel_rfl) (by omega) hlen (fun h => sealed_cells h) (w := w) (enc := enc) (d := y.1) (p := y.2) (a := A) (len := m) (cap := c) ⟨n, h⟩
  have hm : m ≤ 9223372036854775807 := by
    obtain ⟨A', c', e, h3, h4⟩ := h2.form
    unfold maxLen at h4
    omega
  exact ⟨A, m, c, l, rfl, h2, h1, hm, h3⟩
theorem two_logs {r : Reach} {b0 : Nat} {v : Value} {d : DataW H} {p : List MemPlace} (hv : Value.okWide Tryd.prog w r b0 41 v) (h : DataW.Trod enc Tryd.prog w 0 (fun _ => true) true 41 v d p) :
    ∃ (A : Option Addr) (n c : Nat) (l : List Sl) (A' : Option Addr) (n' c' : Nat) (l' : List Sl), v = .agg #[.slice A n c, .slice A' n' c'] ∧ (Rd w 37 (.slice A n c) n (fl slc l) ∧ l.length = n ∧ n ≤ 9223372036854775807 ∧ ∀ s ∈ l, SlOk s) ∧ (Rd w 37 (.slice A' n' c') n' (fl slc l') ∧ l'.length = n' ∧ n' ≤ 9223372036854775807 ∧ ∀ s ∈ l', SlOk s) := by
  obtain ⟨a, b, n, y, z, rfl, h0, h1⟩ := two_cells Tryd.underlying41 (by kernel_rfl) (by kernel_rfl) hv h
  obtain ⟨A, n1, c, l, rfl, q⟩ := sls_cells h0
  obtain ⟨A', n2, c', l', rfl, q'⟩ := sls_cells h1
  exact ⟨A, n1, c, l, A', n2, c', l', rfl, q, q'⟩
structure SdB (d : Sd) : Prop where
  day : 0 ≤ d.1 ∧ d.1 ≤ 255
  kd : 0 ≤ d.2.1 ∧ d.2.1 ≤ 255
  bd : d.2.2.length ≤ 9223372036854775807
end
end Go.Proofs.YthinopepcmidmaaDoor

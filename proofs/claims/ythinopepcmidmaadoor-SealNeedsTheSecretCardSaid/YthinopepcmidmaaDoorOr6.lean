/-
  Arguments that are slices of structs; arrays of two integers.
-/
import Derived.Test.YthinopepcmidmaaDoorOr5
import Derived.Lib.SmallJoins
set_option linter.unusedSimpArgs false
set_option linter.unusedVariables false
set_option maxRecDepth 100000
set_option maxHeartbeats 1600000
namespace Go.Proofs.YthinopepcmidmaaDoor
open Go.ChangeShapes Go.WideShapes Go.RowKit

theorem aggs_rd {H : Type} {enc : TypeId × Value → H} {P : Program} {w : World} {t e : TypeId} {a : Option Addr} {len cap : Nat} {d : DataW H} {p : List MemPlace} {α : Type} [Inhabited α] {g : α → List Value} {R : α → Prop} {m : Nat}
    (ht : P.underlying t = some (.slice e)) (hm : P.cellsOf e = m) (hm0 : 0 < m) (hg : ∀ y, (g y).length = m)
    (hop : ∀ {base : Nat} {spare : Nat → Bool} {held : Bool} {fuel : Nat} {cs : List Value} {x : DataW H × List MemPlace}, DataW.trod enc P w base spare held fuel e cs = some x → ∃ y, cs = g y ∧ R y)
    (h : DataW.Trod enc P w 0 (fun _ => true) true t (.slice a len cap) d p) : ∃ ss : List α, ss.length = len ∧ Rd w m (.slice a len cap) len (fl g ss) ∧ ∀ s ∈ ss, R s := by
  obtain ⟨fuel, hf⟩ := h
  rcases Go.Deep.open_slice ht hf with ⟨hcs, _⟩ | ⟨x, l, c, k, n, D, Pl, hcs, _, hl, hmx, hk, hx, hel⟩
  · simp [Value.cells] at hcs
    obtain ⟨rfl, rfl, rfl⟩ := hcs
    exact ⟨[], rfl, Rd.nil_ w m, by simp⟩
  · simp [Value.cells] at hcs
    obtain ⟨rfl, rfl, rfl⟩ := hcs
    have hlk : len ≤ k := by rw [hk]; split <;> omega
    have key : ∀ i, i < len → ∃ y : α, R y ∧ ∀ r u, (g y)[r]? = some u → w.cell? (x.add (i * m + r)) = some u := by
      intro i hi
      obtain ⟨cs', h1, h2⟩ := hel i (by omega)
      obtain ⟨y, rfl, hR⟩ := hop h2
      refine ⟨y, hR, fun r u hu => ?_⟩
      rw [hm] at h1
      obtain ⟨_, _, h3⟩ := World.cells?_some h1
      have h4 : r < m := by have := (List.getElem?_eq_some_iff.1 hu).1; rwa [hg] at this
      have := h3 r h4
      rw [Go.Deep.add_add, hu] at this
      exact this
    obtain ⟨f, hf'⟩ := Go.Deep.choose_lt (α := α) key
    have hall : ∀ s ∈ (List.range len).map f, R s := by
      intro s hs
      obtain ⟨i, hi, rfl⟩ := List.mem_map.1 hs
      exact (hf' i (List.mem_range.1 hi)).1
    refine ⟨(List.range len).map f, by simp, Rd.of_addr (by rw [fl_len (fun y _ => hg y)]; simp) hm0 hl hmx (fun j u hj => ?_), hall⟩
    obtain ⟨i, r, y, hi, hy, hr, rfl, hu⟩ := fl_get (fun y _ => hg y) hj
    simp at hi
    simp [hi] at hy
    subst hy
    exact (hf' i hi).2 r u hu

theorem ints2_open {H : Type} {enc : TypeId × Value → H} {P : Program} {w : World} {t e : TypeId} {r : Reach} {b0 : Nat} {v : Value} {d : DataW H} {p : List MemPlace} {base : Nat} {spare : Nat → Bool} {held : Bool}
    (ht : P.underlying t = some (.array 2 e)) (he : P.underlying e = some (.int .i64)) (hc : P.cellsOf e = 1) (hC : P.cellsOf t = 2) (hv : Value.okWide P w r b0 t v) (h : DataW.Trod enc P w base spare held t v d p) :
    ∃ x y : Int, v = .agg #[.int .i64 x, .int .i64 y] ∧ -9223372036854775808 ≤ x ∧ x ≤ 9223372036854775807 ∧ -9223372036854775808 ≤ y ∧ y ≤ 9223372036854775807 := by
  simp only [Value.okWide, ht] at hv
  obtain ⟨cs, rfl, hsz, _⟩ := hv
  rw [hC] at hsz
  obtain ⟨c0, c1, rfl⟩ := Go.Joins.array2 hsz
  obtain ⟨fuel, hf⟩ := h
  obtain ⟨xs, m, _, _, _, hlen, hi⟩ := DataW.trod_array ht hf
  have h0 := hi 0 (by omega)
  have h1 := hi 1 (by omega)
  rw [hc] at h0 h1
  have e0 : xs[0]? = some (xs[0]'(by omega)) := List.getElem?_eq_getElem (by omega)
  have e1 : xs[1]? = some (xs[1]'(by omega)) := List.getElem?_eq_getElem (by omega)
  rw [e0] at h0
  rw [e1] at h1
  obtain ⟨n0, hn0, _, w0⟩ := DataW.trod_int he h0
  obtain ⟨n1, hn1, _, w1⟩ := DataW.trod_int he h1
  simp [Value.cells] at hn0 hn1
  have b0 := bounds_i64 w0
  have b1 := bounds_i64 w1
  refine ⟨n0, n1, ?_, by omega, by omega, by omega, by omega⟩
  rw [hn0, hn1]
end Go.Proofs.YthinopepcmidmaaDoor

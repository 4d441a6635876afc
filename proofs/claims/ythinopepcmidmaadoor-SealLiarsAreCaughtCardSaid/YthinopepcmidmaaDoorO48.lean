/-
  Arguments that are rings and statements, and lists of them.
-/
import Derived.ChangeSame
import Derived.Lib.SmallJoins
import Derived.Deep.Strs
import Derived.Test.YthinopepcmidmaaDoorPl48
import Derived.Test.YthinopepcmidmaaDoorMB
import Derived.Test.YthinopepcmidmaaDoorWe
import Derived.Test.YthinopepcmidmaaDoorOp
set_option linter.unusedSimpArgs false
set_option linter.unusedVariables false
set_option maxRecDepth 100000
set_option maxHeartbeats 1600000
namespace Go.Proofs.YthinopepcmidmaaDoor
open Go.ChangeShapes Go.WideShapes Go.RowKit
theorem aggs_rd {H : Type} {enc : TypeId × Value → H} {P : Program} {w : World} {t e : TypeId} {a : Option Addr} {len cap : Nat} {d : DataW H} {p : List MemPlace} {α : Type} [Inhabited α] {g : α → List Value} {R : α → Prop} {m : Nat}
    (ht : P.underlying t = some (.slice e)) (hm : P.cellsOf e = m) (hm0 : 0 < m) (hg : ∀ y, (g y).length = m)
    (hop : ∀ {base : Nat} {spare : Nat → Bool} {held : Bool} {fuel : Nat} {cs : List Value} {x : DataW H × List MemPlace}, DataW.trod enc P w base spare held fuel e cs = some x → ∃ y, cs = g y ∧ R y)
    (h : DataW.Trod enc P w 0 (fun _ => true) true t (.slice a len cap) d p) : ∃ ss : List α, ss.length = len ∧ Rd w m (.slice a len cap) len (fl g ss) ∧ ∀ s ∈ ss, R s := by
  obtain ⟨fuel, hf⟩ := h
  rcases Go.Deep.open_slice ht hf with ⟨hcs, _⟩ | ⟨x, l, c, k, n, D, Pl, hcs, _, hl, hmx, hk, hx, hel⟩
  · simp [Value.cells] at hcs
    obtain ⟨rfl, rfl, rfl⟩ := hcs
    exact ⟨[], rfl, Rd.nil_ w m, by simp⟩
  · simp [Value.cells] at hcs
    obtain ⟨rfl, rfl, rfl⟩ := hcs
    have hlk : len ≤ k := by rw [hk]; split <;> omega
    have key : ∀ i, i < len → ∃ y : α, R y ∧ ∀ r u, (g y)[r]? = some u → w.cell? (x.add (i * m + r)) = some u := by
      intro i hi
      obtain ⟨cs', h1, h2⟩ := hel i (by omega)
      obtain ⟨y, rfl, hR⟩ := hop h2
      refine ⟨y, hR, fun r u hu => ?_⟩
      rw [hm] at h1
      obtain ⟨_, _, h3⟩ := World.cells?_some h1
      have h4 : r < m := by have := (List.getElem?_eq_some_iff.1 hu).1; rwa [hg] at this
      have := h3 r h4
      rw [Go.Deep.add_add, hu] at this
      exact this
    obtain ⟨f, hf'⟩ := Go.Deep.choose_lt (α := α) key
    have hall : ∀ s ∈ (List.range len).map f, R s := by
      intro s hs
      obtain ⟨i, hi, rfl⟩ := List.mem_map.1 hs
      exact (hf' i (List.mem_range.1 hi)).1
    refine ⟨(List.range len).map f, by simp, Rd.of_addr (by rw [fl_len (fun y _ => hg y)]; simp) hm0 hl hmx (fun j u hj => ?_), hall⟩
    obtain ⟨i, r, y, hi, hy, hr, rfl, hu⟩ := fl_get (fun y _ => hg y) hj
    simp at hi
    simp [hi] at hy
    subst hy
    exact (hf' i hi).2 r u hu
end Go.Proofs.YthinopepcmidmaaDoor
namespace Go.Proofs.YthinopepcmidmaaDoor
open Go.ChangeShapes Go.WideShapes Go.RowKit
/-- A statement as it lies. -/
def slc (s : Sl) : List Value := [.int .i64 s.st] ++ ([.int .i64 s.sq] ++ ([.int .i64 s.dy] ++ ([.int .i64 s.kd] ++ ([.string ⟨s.bd.toArray⟩] ++ (s.pv.map B8 ++ s.sl.map B8)))))
/-- What holds of every statement that lies somewhere. -/
structure SlOk (s : Sl) : Prop where
  st : -9223372036854775808 ≤ s.st ∧ s.st ≤ 9223372036854775807
  sq : -9223372036854775808 ≤ s.sq ∧ s.sq ≤ 9223372036854775807
  dy : -9223372036854775808 ≤ s.dy ∧ s.dy ≤ 9223372036854775807
  kd : -9223372036854775808 ≤ s.kd ∧ s.kd ≤ 9223372036854775807
  bd : s.bd.length ≤ 9223372036854775807
  pv : s.pv.length = 16
  sl : s.sl.length = 16
theorem ring_open {H : Type} {enc : TypeId × Value → H} {w : World} {r : Reach} {b0 : Nat} {v : Value} {d : DataW H} {p : List MemPlace}
    (hv : Value.okWide Tryd.prog w r b0 24 v) (h : DataW.Trod enc Tryd.prog w 0 (fun _ => true) true 24 v d p) :
    ∃ (A : Option Addr) (n c : Nat) (ss : List (List UInt8)), v = .agg #[.slice A n c] ∧ Rd w 1 (.slice A n c) n (ss.map tx) ∧ ss.length = n ∧ n ≤ 9223372036854775807 := by
  obtain ⟨cs, rfl, _⟩ := okWide_struct Tryd.underlying24 hv
  obtain ⟨fuel, hf⟩ := h
  obtain ⟨y0, n, _, hl, k0⟩ := trod_struct1 Tryd.underlying24 hf
  have hC : Tryd.prog.cellsOf 24 = 1 := by kernel_rfl
  have c0 : Tryd.prog.cellsOf 22 = 1 := by kernel_rfl
  rw [hC] at hl
  have k0 : DataW.trod enc Tryd.prog w 0 (fun _ => true) true n 22 (((Value.agg cs).cells.toList.drop 0).take 1) = some y0 := by rw [← c0]; exact k0
  have hcs : (Value.agg cs).cells = cs := rfl
  rw [hcs] at hl k0
  obtain ⟨a, ha⟩ : ∃ a, cs.toList = [a] := by
    match hc : cs.toList, hl with
    | [a], _ => exact ⟨a, rfl⟩
  rw [ha] at k0
  have e9 : cs = #[a] := by
    cases cs
    simp at ha
    rw [ha]
  have ks : ∃ A m c, a = .slice A m c := by
    rcases Go.Deep.open_slice Tryd.underlying22 k0 with ⟨h1, _⟩ | ⟨_, _, _, _, _, _, _, h1, _⟩
    · simp at h1
      exact ⟨_, _, _, h1⟩
    · simp at h1
      exact ⟨_, _, _, h1⟩
  obtain ⟨A, m, c, rfl⟩ := ks
  obtain ⟨ss, h1, h2⟩ := strs_rd (w := w) (enc := enc) (d := y0.1) (p := y0.2) (a := A) (len := m) (cap := c) Tryd.underlying22 Tryd.underlying9 (by kernel_rfl) ⟨n, k0⟩
  have hm : m ≤ 9223372036854775807 := by
    obtain ⟨A', c', e, h3, h4⟩ := h2.form
    unfold maxLen at h4
    omega
  exact ⟨A, m, c, ss, by rw [e9], h2, h1, hm⟩
end Go.Proofs.YthinopepcmidmaaDoor

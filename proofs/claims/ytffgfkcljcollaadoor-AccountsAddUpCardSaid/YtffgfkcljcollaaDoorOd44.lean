/-
  Arguments that are two days.
-/
import Derived.ChangeSame
import Derived.Lib.SmallJoins
import Derived.Deep.Strs
import Derived.Test.YtffgfkcljcollaaDoorOp
import Derived.Test.YtffgfkcljcollaaDoorBj
set_option linter.unusedSimpArgs false
set_option linter.unusedVariables false
set_option maxRecDepth 100000
set_option maxHeartbeats 1600000
namespace Go.Proofs.YtffgfkcljcollaaDoor
open Go.ChangeShapes Go.WideShapes Go.RowKit
theorem rat_cells {H : Type} {enc : TypeId × Value → H} {P : Program} {w : World} {t : TypeId} {base : Nat} {spare : Nat → Bool} {held : Bool} {fuel : Nat} {cs : List Value} {x : DataW H × List MemPlace} {f0 f1 f2 : Field}
  (ht : P.underlying t = some (.struct #[f0, f1, f2])) (h0 : P.underlying f0.type = some .bool) (h1 : P.underlying f1.type = some .string) (h2 : P.underlying f2.type = some .string)
  (c0 : P.cellsOf f0.type = 1) (c1 : P.cellsOf f1.type = 1) (c2 : P.cellsOf f2.type = 1) (o0 : f0.offset = 0) (o1 : f1.offset = 1) (o2 : f2.offset = 2) (hC : P.cellsOf t = 3) (h : DataW.trod enc P w base spare held fuel t cs = some x) :
  ∃ (n : Bool) (p q : List UInt8), cs = [.bool n, .string ⟨p.toArray⟩, .string ⟨q.toArray⟩] ∧ p.length ≤ maxLen ∧ q.length ≤ maxLen := by
 obtain ⟨y0, y1, y2, n, _, hl, k0, k1, k2⟩ := Go.Deep.trod_struct3 ht h;rw [hC] at hl;rw [c0, o0] at k0;rw [c1, o1] at k1;rw [c2, o2] at k2
 match cs, hl with
 | [a, b, c], _ =>
  obtain ⟨bv, e0, _⟩ := DataW.trod_bool h0 k0;obtain ⟨s1, e1, _, z1⟩ := DataW.trod_string h1 k1;obtain ⟨s2, e2, _, z2⟩ := DataW.trod_string h2 k2
  simp at e0 e1 e2
  obtain ⟨l1, rfl, w1⟩ := str_list s1;obtain ⟨l2, rfl, w2⟩ := str_list s2;exact ⟨bv, l1, l2, by rw [e0, e1, e2], by omega, by omega⟩
end Go.Proofs.YtffgfkcljcollaaDoor
namespace Go.Proofs.YtffgfkcljcollaaDoor
open Go.ChangeShapes Go.WideShapes Go.RowKit
theorem aggs_rd {H : Type} {enc : TypeId × Value → H} {P : Program} {w : World} {t e : TypeId} {a : Option Addr} {len cap : Nat} {d : DataW H} {p : List MemPlace} {α : Type} [Inhabited α] {g : α → List Value} {R : α → Prop} {m : Nat}
  (ht : P.underlying t = some (.slice e)) (hm : P.cellsOf e = m) (hm0 : 0 < m) (hg : ∀ y, (g y).length = m)
  (hop : ∀ {base : Nat} {spare : Nat → Bool} {held : Bool} {fuel : Nat} {cs : List Value} {x : DataW H × List MemPlace}, DataW.trod enc P w base spare held fuel e cs = some x → ∃ y, cs = g y ∧ R y)
  (h : DataW.Trod enc P w 0 (fun _ => true) true t (.slice a len cap) d p) : ∃ ss : List α, ss.length = len ∧ Rd w m (.slice a len cap) len (fl g ss) ∧ ∀ s ∈ ss, R s := by
 obtain ⟨fuel, hf⟩ := h
 rcases Go.Deep.open_slice ht hf with ⟨hcs, _⟩ | ⟨x, l, c, k, n, D, Pl, hcs, _, hl, hmx, hk, hx, hel⟩
 ·simp [Value.cells] at hcs
  obtain ⟨rfl, rfl, rfl⟩ := hcs;exact ⟨[], rfl, Rd.nil_ w m, by simp⟩
 ·simp [Value.cells] at hcs
  obtain ⟨rfl, rfl, rfl⟩ := hcs
  have hlk : len ≤ k := by rw [hk]; split <;> omega
  have key : ∀ i, i < len → ∃ y : α, R y ∧ ∀ r u, (g y)[r]? = some u → w.cell? (x.add (i * m + r)) = some u := by
   intro i hi;obtain ⟨cs', h1, h2⟩ := hel i (by omega);obtain ⟨y, rfl, hR⟩ := hop h2;refine ⟨y, hR, fun r u hu => ?_⟩;rw [hm] at h1;obtain ⟨_, _, h3⟩ := World.cells?_some h1
   have h4 : r < m := by have := (List.getElem?_eq_some_iff.1 hu).1; rwa [hg] at this
   have := h3 r h4;rw [Go.Deep.add_add, hu] at this;exact this
  obtain ⟨f, hf'⟩ := Go.Deep.choose_lt (α := α) key
  have hall : ∀ s ∈ (List.range len).map f, R s := by
   intro s hs;obtain ⟨i, hi, rfl⟩ := List.mem_map.1 hs;exact (hf' i (List.mem_range.1 hi)).1
  refine ⟨(List.range len).map f, by simp, Rd.of_addr (by rw [fl_len (fun y _ => hg y)]; simp) hm0 hl hmx (fun j u hj => ?_), hall⟩;obtain ⟨i, r, y, hi, hy, hr, rfl, hu⟩ := fl_get (fun y _ => hg y) hj
  simp at hi
  simp [hi] at hy
  subst hy;exact (hf' i hi).2 r u hu
end Go.Proofs.YtffgfkcljcollaaDoor
namespace Go.Proofs.YtffgfkcljcollaaDoor
open Go.ChangeShapes Go.WideShapes Go.RowKit
theorem days_open {H : Type} {enc' : TypeId × Value → H} {w : World} {r : Reach} {b0 : Nat} {v : Value} {d : DataW H} {p : List MemPlace} {base : Nat} {spare : Nat → Bool} {held : Bool}
  (hv : Value.okWide Tryd.prog w r b0 56 v) (h : DataW.Trod enc' Tryd.prog w base spare held 56 v d p) :
  ∃ x y : Nat, v = .agg #[.int .u16 (x : Int), .int .u16 (y : Int)] ∧ x ≤ 65535 ∧ y ≤ 65535 := by
 have hc : Tryd.prog.cellsOf 55 = 1 := by kernel_rfl
 have hC : Tryd.prog.cellsOf 56 = 2 := by kernel_rfl
 simp only [Value.okWide, Tryd.underlying56] at hv;obtain ⟨cs, rfl, hsz, _⟩ := hv;rw [hC] at hsz;obtain ⟨c0, c1, rfl⟩ := Go.Joins.array2 hsz;obtain ⟨fuel, hf⟩ := h;obtain ⟨xs, m, _, _, _, hlen, hi⟩ := DataW.trod_array Tryd.underlying56 hf;have h0 := hi 0 (by omega);have h1 := hi 1 (by omega);rw [hc] at h0 h1;have e0 : xs[0]? = some (xs[0]'(by omega)) := List.getElem?_eq_getElem (by omega);have e1 : xs[1]? = some (xs[1]'(by omega)) := List.getElem?_eq_getElem (by omega);rw [e0] at h0;rw [e1] at h1;obtain ⟨n0, hn0, _, w0⟩ := DataW.trod_int Tryd.underlying55 h0;obtain ⟨n1, hn1, _, w1⟩ := DataW.trod_int Tryd.underlying55 h1
 simp [Value.cells] at hn0 hn1
 have b0 := bounds_u16 w0;have b1 := bounds_u16 w1;refine ⟨n0.toNat, n1.toNat, ?_, by omega, by omega⟩;rw [hn0, hn1, Int.toNat_of_nonneg (by omega), Int.toNat_of_nonneg (by omega)]
end Go.Proofs.YtffgfkcljcollaaDoor

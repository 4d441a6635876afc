/-
  Layer 31: words.
-/
import Derived.Test.YtcpedbpldgndmaaDoorPl31b
import Derived.Test.YtcpedbpldgndmaaDoorRw
import Derived.Test.YtcpedbpldgndmaaDoorRf
set_option linter.unusedSimpArgs false
set_option linter.unusedVariables false
set_option maxRecDepth 100000
set_option maxHeartbeats 1600000
namespace Go.Proofs.YtcpedbpldgndmaaDoor
open Go.RowKit
theorem info_kn : (Tryd.prog.info? 24).map (·.size) = some 1 := by kernel_rfl
theorem info_i1 : (Tryd.prog.info? 3).map (·.size) = some 1 := by kernel_rfl
theorem load_ints (b k : Nat) (X : World) (v : Value) (h : X.cell? ⟨b, k, none⟩ = some v) : (loadVar 22 ⟨b, k, none⟩).run Tryd.prog X = .ok v X := by
 go_simp
abbrev I64 : Int → Value := Value.int .i64
theorem wtIn {w : World} {A : Option Addr} {n c : Nat} {l : List Int} (h : Rd w 1 (.slice A n c) n (l.map I64)) (hl : l.length = n) {k : Nat} (hk : k < n) : ∃ b off, A = some ⟨b, off, none⟩ ∧ b < w.heap.size ∧ Cl w b (off + k * 1) [.int .i64 (wt l k)] := by
 obtain ⟨b, off, hA, hb, hx⟩ := h.cellAt (by omega);refine ⟨b, off, hA, hb, fun j u hj => ?_⟩
 have hj0 : j = 0 := by
  have := (List.getElem?_eq_some_iff.1 hj).1
  simp at this
  omega
 subst hj0
 have h9 : (l.map I64)[k]? = some (.int .i64 (wt l k)) := by
  rw [List.getElem?_map, List.getElem?_eq_getElem (by omega), wt_in (by omega)]
  rfl
 have h8 := hx k _ h9
 have h7 : u = .int .i64 (wt l k) := by simpa using hj.symm
 subst h7;rw [Nat.mul_one, Nat.add_zero];exact h8
/-- Integers in a slice, as a value. -/
def Ks (l : List Int) (v : Value) (X : World) : Prop := ∃ A c, v = .slice A l.length c ∧ Rd X 1 (.slice A l.length c) l.length (l.map I64)
theorem Ks.lasts (l : List Int) : Lasts (Ks l) := by
 rintro v X Y ⟨A, c, hv, hr⟩ hS
 exact ⟨A, c, hv, hr.below hS⟩
theorem Ks.at {l : List Int} {v : Value} {w : World} (h : Ks l v w) : ∃ A n c, v = .slice A n c ∧ l.length = n ∧ n ≤ 9223372036854775807 ∧ Rd w 1 (.slice A n c) n (l.map I64) := by
 obtain ⟨A, c, hv, hr⟩ := h;have hr9 := hr;obtain ⟨hl, A2, c2, h2, hc, hm, hx⟩ := hr9;refine ⟨A, l.length, c, hv, rfl, ?_, hr⟩
 injection h2 with _ _ h3
 subst h3
 unfold maxLen at hm
 omega
end Go.Proofs.YtcpedbpldgndmaaDoor

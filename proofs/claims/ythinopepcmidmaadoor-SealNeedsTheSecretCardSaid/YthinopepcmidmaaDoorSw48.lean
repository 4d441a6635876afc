/-
  Layer 48: words.
-/
import Derived.Test.YthinopepcmidmaaDoorO48
import Derived.Test.YthinopepcmidmaaDoorG48
set_option linter.unusedSimpArgs false
set_option linter.unusedVariables false
set_option maxRecDepth 100000
set_option maxHeartbeats 1600000
namespace Go.Proofs.YthinopepcmidmaaDoor
open Go.RowKit

theorem info_rg : (Tryd.prog.info? 24).map (·.size) = some 1 := by kernel_rfl
theorem info_sl : (Tryd.prog.info? 28).map (·.size) = some 37 := by kernel_rfl
theorem info_dg : (Tryd.prog.info? 26).map (·.size) = some 16 := by kernel_rfl
theorem info_st1 : (Tryd.prog.info? 9).map (·.size) = some 1 := by kernel_rfl
theorem load_sts (b k : Nat) (X : World) (v : Value) (h : X.cell? ⟨b, k, none⟩ = some v) : (loadVar 22 ⟨b, k, none⟩).run Tryd.prog X = .ok v X := by
  go_simp
theorem load_str (b k : Nat) (X : World) (v : Value) (h : X.cell? ⟨b, k, none⟩ = some v) : (loadVar 9 ⟨b, k, none⟩).run Tryd.prog X = .ok v X := by
  go_simp
theorem load_int (b k : Nat) (X : World) (v : Value) (h : X.cell? ⟨b, k, none⟩ = some v) : (loadVar 3 ⟨b, k, none⟩).run Tryd.prog X = .ok v X := by
  go_simp
/-- The secret at a place. -/
def sec (r : List (List UInt8)) (k : Nat) : List UInt8 := r.getD k []
theorem Rd.strIn {w : World} {A : Option Addr} {n c : Nat} {r : List (List UInt8)} (h : Rd w 1 (.slice A n c) n (r.map tx)) (hl : r.length = n) {k : Nat} (hk : k < n) : ∃ b off, A = some ⟨b, off, none⟩ ∧ b < w.heap.size ∧ Cl w b (off + k * 1) [.string ⟨(sec r k).toArray⟩] := by
  obtain ⟨b, off, hA, hb, hx⟩ := h.cellAt (by omega)
  refine ⟨b, off, hA, hb, fun j u hj => ?_⟩
  have hj0 : j = 0 := by
    have := (List.getElem?_eq_some_iff.1 hj).1
    simp at this
    omega
  subst hj0
  have h9 : (r.map tx)[k]? = some (.string ⟨(sec r k).toArray⟩) := by
    rw [List.getElem?_map, List.getElem?_eq_getElem (by omega)]
    unfold sec
    rw [List.getD_eq_getElem?_getD, List.getElem?_eq_getElem (by omega)]
    rfl
  have h8 := hx k _ h9
  have h7 : u = .string ⟨(sec r k).toArray⟩ := by simpa using hj.symm
  subst h7
  rw [Nat.mul_one, Nat.add_zero]
  exact h8
/-- The first error of a ring, secret by secret. -/
theorem rck_bad {r : List (List UInt8)} (h1 : 1 ≤ r.length) (h2 : r.length ≤ 8) {k : Nat} (hk : k < r.length) (h : ¬ (1 ≤ (sec r k).length ∧ (sec r k).length ≤ 64)) : rckE r = 1 := by
  unfold rckE
  rw [if_neg (by omega), if_neg]
  rw [List.all_eq_true]
  intro h9
  have h8 := h9 r[k] (List.getElem_mem hk)
  rw [decide_eq_true_eq] at h8
  refine h ?_
  unfold sec
  rw [List.getD_eq_getElem?_getD, List.getElem?_eq_getElem hk]
  exact h8
theorem rck_ok {r : List (List UInt8)} (h1 : 1 ≤ r.length) (h2 : r.length ≤ 8) (h : ∀ k, k < r.length → 1 ≤ (sec r k).length ∧ (sec r k).length ≤ 64) : rckE r = 0 := by
  unfold rckE
  rw [if_neg (by omega), if_pos]
  rw [List.all_eq_true]
  intro s hs
  obtain ⟨k, hk, rfl⟩ := List.getElem_of_mem hs
  rw [decide_eq_true_eq]
  have h9 := h k hk
  unfold sec at h9
  rw [List.getD_eq_getElem?_getD, List.getElem?_eq_getElem hk] at h9
  exact h9
theorem rck_lim {r : List (List UInt8)} (h : r.length < 1 ∨ 8 < r.length) : rckE r = 2 := if_pos h
def wiB (n lo hi : Int) : Bool := decide (lo ≤ n ∧ n ≤ hi)
theorem wi0 (n lo hi : Int) (w : World) (h : n < lo) : Calls Tryd.prog 35 #[.int .i64 n, .int .i64 lo, .int .i64 hi] w fun e w' => e = .returned (.bool (wiB n lo hi)) ∧ Since w w' := by
  have HI : Hid (wiB n lo hi = false) := by unfold wiB; exact decide_eq_false (by omega)
  go_enter Tryd.func35, Tryd.ntmps35
  go_upto_region 1 with (fail)
  refine jp ?_
  refine jm (.int .i64 n) ?_
  refine jm (.int .i64 lo) ?_
  refine jv (.bool false) (exec_geq _ _ _ _ (by rfl) .i64 n lo (by rfl) (by rfl) false (decide_eq_false (by omega))) ?_
  refine jm (.bool false) ?_
  refine js ?_
  refine js ?_
  refine js ?_
  refine jm (.bool false) ?_
  refine jm (.bool false) ?_
  refine jz fun X1 hX1 => ?_
  have hb : Below w.heap.size w X1 := hX1
  clear hX1
  go_wp2
  go_ret
  exact ⟨by rw [HI.out]; rfl, hb⟩

theorem wi1 (n lo hi : Int) (w : World) (h : lo ≤ n) (h2 : hi < n) : Calls Tryd.prog 35 #[.int .i64 n, .int .i64 lo, .int .i64 hi] w fun e w' => e = .returned (.bool (wiB n lo hi)) ∧ Since w w' := by
  have HI : Hid (wiB n lo hi = false) := by unfold wiB; exact decide_eq_false (by omega)
  go_enter Tryd.func35, Tryd.ntmps35
  go_upto_region 1 with (fail)
  refine jp ?_
  refine jm (.int .i64 n) ?_
  refine jm (.int .i64 lo) ?_
  refine jv (.bool true) (exec_geq _ _ _ _ (by rfl) .i64 n lo (by rfl) (by rfl) true (decide_eq_true (by omega))) ?_
  refine jm (.bool true) ?_
  refine jm (.int .i64 n) ?_
  refine jm (.int .i64 hi) ?_
  refine jv (.bool false) (exec_leq _ _ _ _ (by rfl) .i64 n hi (by rfl) (by rfl) false (decide_eq_false (by omega))) ?_
  refine jm (.bool false) ?_
  refine jm (.bool false) ?_
  refine jz fun X1 hX1 => ?_
  have hb : Below w.heap.size w X1 := hX1
  clear hX1
  go_wp2
  go_ret
  exact ⟨by rw [HI.out]; rfl, hb⟩

theorem wi2 (n lo hi : Int) (w : World) (h : lo ≤ n) (h2 : n ≤ hi) : Calls Tryd.prog 35 #[.int .i64 n, .int .i64 lo, .int .i64 hi] w fun e w' => e = .returned (.bool (wiB n lo hi)) ∧ Since w w' := by
  have HI : Hid (wiB n lo hi = true) := by unfold wiB; exact decide_eq_true (by omega)
  go_enter Tryd.func35, Tryd.ntmps35
  go_upto_region 1 with (fail)
  refine jp ?_
  refine jm (.int .i64 n) ?_
  refine jm (.int .i64 lo) ?_
  refine jv (.bool true) (exec_geq _ _ _ _ (by rfl) .i64 n lo (by rfl) (by rfl) true (decide_eq_true (by omega))) ?_
  refine jm (.bool true) ?_
  refine jm (.int .i64 n) ?_
  refine jm (.int .i64 hi) ?_
  refine jv (.bool true) (exec_leq _ _ _ _ (by rfl) .i64 n hi (by rfl) (by rfl) true (decide_eq_true (by omega))) ?_
  refine jm (.bool true) ?_
  refine jm (.bool true) ?_
  refine jz fun X1 hX1 => ?_
  have hb : Below w.heap.size w X1 := hX1
  clear hX1
  go_wp2
  go_ret
  exact ⟨by rw [HI.out]; rfl, hb⟩

theorem wiC (n lo hi : Int) (w : World) : Calls Tryd.prog 35 #[.int .i64 n, .int .i64 lo, .int .i64 hi] w fun e w' => e = .returned (.bool (wiB n lo hi)) ∧ Since w w' := by
  by_cases h1 : n < lo
  · exact wi0 n lo hi w h1
  · by_cases h2 : hi < n
    · exact wi1 n lo hi w (by omega) h2
    · exact wi2 n lo hi w (by omega) (by omega)
end Go.Proofs.YthinopepcmidmaaDoor

/-
  seal: Check.
-/
import Derived.Test.YthinopepcmidmaaDoorO48
import Derived.Test.YthinopepcmidmaaDoorG48
set_option linter.unusedSimpArgs false
set_option linter.unusedVariables false
set_option maxRecDepth 100000
set_option maxHeartbeats 1600000
namespace Go.Proofs.YthinopepcmidmaaDoor
open Go.RowKit
theorem info_rg : (Tryd.prog.info? 24).map (·.size) = some 1 := by kernel_rfl
theorem info_sl : (Tryd.prog.info? 28).map (·.size) = some 37 := by kernel_rfl
theorem info_dg : (Tryd.prog.info? 26).map (·.size) = some 16 := by kernel_rfl
theorem info_st1 : (Tryd.prog.info? 9).map (·.size) = some 1 := by kernel_rfl
theorem load_sts (b k : Nat) (X : World) (v : Value) (h : X.cell? ⟨b, k, none⟩ = some v) : (loadVar 22 ⟨b, k, none⟩).run Tryd.prog X = .ok v X := by
  go_simp
theorem load_str (b k : Nat) (X : World) (v : Value) (h : X.cell? ⟨b, k, none⟩ = some v) : (loadVar 9 ⟨b, k, none⟩).run Tryd.prog X = .ok v X := by
  go_simp
theorem load_int (b k : Nat) (X : World) (v : Value) (h : X.cell? ⟨b, k, none⟩ = some v) : (loadVar 3 ⟨b, k, none⟩).run Tryd.prog X = .ok v X := by
  go_simp
/-- The secret at a place. -/
def sec (r : List (List UInt8)) (k : Nat) : List UInt8 := r.getD k []
theorem Rd.strIn {w : World} {A : Option Addr} {n c : Nat} {r : List (List UInt8)} (h : Rd w 1 (.slice A n c) n (r.map tx)) (hl : r.length = n) {k : Nat} (hk : k < n) : ∃ b off, A = some ⟨b, off, none⟩ ∧ b < w.heap.size ∧ Cl w b (off + k * 1) [.string ⟨(sec r k).toArray⟩] := by
  obtain ⟨b, off, hA, hb, hx⟩ := h.cellAt (by omega)
  refine ⟨b, off, hA, hb, fun j u hj => ?_⟩
  have hj0 : j = 0 := by
    have := (List.getElem?_eq_some_iff.1 hj).1
    simp at this
    omega
  subst hj0
  have h9 : (r.map tx)[k]? = some (.string ⟨(sec r k).toArray⟩) := by
    rw [List.getElem?_map, List.getElem?_eq_getElem (by omega)]
    unfold sec
    rw [List.getD_eq_getElem?_getD, List.getElem?_eq_getElem (by omega)]
    rfl
  have h8 := hx k _ h9
  have h7 : u = .string ⟨(sec r k).toArray⟩ := by simpa using hj.symm
  subst h7
  rw [Nat.mul_one, Nat.add_zero]
  exact h8
/-- The first error of a ring, secret by secret. -/
theorem rck_bad {r : List (List UInt8)} (h1 : 1 ≤ r.length) (h2 : r.length ≤ 8) {k : Nat} (hk : k < r.length) (h : ¬ (1 ≤ (sec r k).length ∧ (sec r k).length ≤ 64)) : rckE r = 1 := by
  unfold rckE
  rw [if_neg (by omega), if_neg]
  rw [List.all_eq_true]
  intro h9
  have h8 := h9 r[k] (List.getElem_mem hk)
  rw [decide_eq_true_eq] at h8
  refine h ?_
  unfold sec
  rw [List.getD_eq_getElem?_getD, List.getElem?_eq_getElem hk]
  exact h8
theorem rck_ok {r : List (List UInt8)} (h1 : 1 ≤ r.length) (h2 : r.length ≤ 8) (h : ∀ k, k < r.length → 1 ≤ (sec r k).length ∧ (sec r k).length ≤ 64) : rckE r = 0 := by
  unfold rckE
  rw [if_neg (by omega), if_pos]
  rw [List.all_eq_true]
  intro s hs
  obtain ⟨k, hk, rfl⟩ := List.getElem_of_mem hs
  rw [decide_eq_true_eq]
  have h9 := h k hk
  unfold sec at h9
  rw [List.getD_eq_getElem?_getD, List.getElem?_eq_getElem hk] at h9
  exact h9
theorem rck_lim {r : List (List UInt8)} (h : r.length < 1 ∨ 8 < r.length) : rckE r = 2 := if_pos h
def wiB (n lo hi : Int) : Bool := decide (lo ≤ n ∧ n ≤ hi)
theorem wi0 (n lo hi : Int) (w : World) (h : n < lo) : Calls Tryd.prog 35 #[.int .i64 n, .int .i64 lo, .int .i64 hi] w fun e w' => e = .returned (.bool (wiB n lo hi)) ∧ Since w w' := by
  have HI : Hid (wiB n lo hi = false) := by unfold wiB; exact decide_eq_false (by omega)
  go_enter Tryd.func35, Tryd.ntmps35
  go_upto_region 1 with (fail)
  refine jp ?_
  refine jm (.int .i64 n) ?_
  refine jm (.int .i64 lo) ?_
  refine jv (.bool false) (exec_geq _ _ _ _ (by rfl) .i64 n lo (by rfl) (by rfl) false (decide_eq_false (by omega))) ?_
  refine jm (.bool false) ?_
  refine js ?_
  refine js ?_
  refine js ?_
  refine jm (.bool false) ?_
  refine jm (.bool false) ?_
  refine jz fun X1 hX1 => ?_
  have hb : Below w.heap.size w X1 := hX1
  clear hX1
  go_wp2
  go_ret
  exact ⟨by rw [HI.out]; rfl, hb⟩
theorem wi1 (n lo hi : Int) (w : World) (h : lo ≤ n) (h2 : hi < n) : Calls Tryd.prog 35 #[.int .i64 n, .int .i64 lo, .int .i64 hi] w fun e w' => e = .returned (.bool (wiB n lo hi)) ∧ Since w w' := by
  have HI : Hid (wiB n lo hi = false) := by unfold wiB; exact decide_eq_false (by omega)
  go_enter Tryd.func35, Tryd.ntmps35
  go_upto_region 1 with (fail)
  refine jp ?_
  refine jm (.int .i64 n) ?_
  refine jm (.int .i64 lo) ?_
  refine jv (.bool true) (exec_geq _ _ _ _ (by rfl) .i64 n lo (by rfl) (by rfl) true (decide_eq_true (by omega))) ?_
  refine jm (.bool true) ?_
  refine jm (.int .i64 n) ?_
  refine jm (.int .i64 hi) ?_
  refine jv (.bool false) (exec_leq _ _ _ _ (by rfl) .i64 n hi (by rfl) (by rfl) false (decide_eq_false (by omega))) ?_
  refine jm (.bool false) ?_
  refine jm (.bool false) ?_
  refine jz fun X1 hX1 => ?_
  have hb : Below w.heap.size w X1 := hX1
  clear hX1
  go_wp2
  go_ret
  exact ⟨by rw [HI.out]; rfl, hb⟩
theorem wi2 (n lo hi : Int) (w : World) (h : lo ≤ n) (h2 : n ≤ hi) : Calls Tryd.prog 35 #[.int .i64 n, .int .i64 lo, .int .i64 hi] w fun e w' => e = .returned (.bool (wiB n lo hi)) ∧ Since w w' := by
  have HI : Hid (wiB n lo hi = true) := by unfold wiB; exact decide_eq_true (by omega)
  go_enter Tryd.func35, Tryd.ntmps35
  go_upto_region 1 with (fail)
  refine jp ?_
  refine jm (.int .i64 n) ?_
  refine jm (.int .i64 lo) ?_
  refine jv (.bool true) (exec_geq _ _ _ _ (by rfl) .i64 n lo (by rfl) (by rfl) true (decide_eq_true (by omega))) ?_
  refine jm (.bool true) ?_
  refine jm (.int .i64 n) ?_
  refine jm (.int .i64 hi) ?_
  refine jv (.bool true) (exec_leq _ _ _ _ (by rfl) .i64 n hi (by rfl) (by rfl) true (decide_eq_true (by omega))) ?_
  refine jm (.bool true) ?_
  refine jm (.bool true) ?_
  refine jz fun X1 hX1 => ?_
  have hb : Below w.heap.size w X1 := hX1
  clear hX1
  go_wp2
  go_ret
  exact ⟨by rw [HI.out]; rfl, hb⟩
theorem wiC (n lo hi : Int) (w : World) : Calls Tryd.prog 35 #[.int .i64 n, .int .i64 lo, .int .i64 hi] w fun e w' => e = .returned (.bool (wiB n lo hi)) ∧ Since w w' := by
  by_cases h1 : n < lo
  · exact wi0 n lo hi w h1
  · by_cases h2 : hi < n
    · exact wi1 n lo hi w (by omega) h2
    · exact wi2 n lo hi w (by omega) (by omega)
end Go.Proofs.YthinopepcmidmaaDoor
namespace Go.Proofs.YthinopepcmidmaaDoor
open Go.RowKit
theorem sck0 (A : Option Addr) (n c : Nat) (r : List (List UInt8)) (w : World) (hr : Rd w 1 (.slice A n c) n (r.map tx)) (hln : r.length = n) (hn1 : n ≤ 9223372036854775807) (h : n < 1 ∨ 8 < n) : Calls Tryd.prog 13 #[.agg #[.slice A n c]] w fun e w' => e = .returned (.int .i64 (rckE r)) ∧ Since w w' := by
  have HC : Hid (rckE r = 2) := rck_lim (by omega)
  have HW : Hid (wiB (n : Int) 1 8 = false) := by unfold wiB; exact decide_eq_false (by omega)
  go_enter Tryd.func13, Tryd.ntmps13
  go_upto_region 1 with (fail)
  obtain ⟨W0, hW0, hB0, hb⟩ := start1 w 24 [.slice A n c]
  rw [← hW0]
  clear hW0
  refine jp ?_
  refine jn (.pointer (some ⟨w.heap.size, 0, none⟩)) ?_
  refine jf (.slice A n c) hB0 0 load_sts ?_
  refine jv (.int .i64 (n : Int)) (exec_lenv Tryd.underlying22 _ (by rfl) A n c (by rfl) _ rfl) ?_
  refine jc (.bool false) (fun X hX hF => mo (wiC (n : Int) 1 8 X) (by rw [HW.out])) ?_
  refine jm (.bool true) ?_
  refine jz fun X1 hX1 => ?_
  have hB0 := hB0.bel hX1
  have hb := bel_next hb hX1
  clear hX1
  go_upto_region 2 with (fail)
  refine jp ?_
  refine jm (.int .i64 2) ?_
  refine jz fun X2 hX2 => ?_
  have hB0 := hB0.bel hX2
  have hb := bel_next hb hX2
  clear hX2
  go_wp2
  go_ret
  exact ⟨by rw [HC.out]; rfl, hb⟩
theorem sckM (A : Option Addr) (n c : Nat) (r : List (List UInt8)) (w : World) (hr : Rd w 1 (.slice A n c) n (r.map tx)) (hln : r.length = n) (hn1 : n ≤ 9223372036854775807) (h1 : 1 ≤ n) (h8 : n ≤ 8) : Calls Tryd.prog 13 #[.agg #[.slice A n c]] w fun e w' => e = .returned (.int .i64 (rckE r)) ∧ Since w w' := by
  have HRX : Hid (∀ X, Since w X → Rd X 1 (.slice A n c) n (r.map tx)) := fun X h => hr.below h
  have HLN := Lib.hid hln
  have HW : Hid (wiB (n : Int) 1 8 = true) := by unfold wiB; exact decide_eq_true (by omega)
  clear hr
  go_enter Tryd.func13, Tryd.ntmps13
  go_upto_region 1 with (fail)
  obtain ⟨W0, hW0, hB0, hb⟩ := start1 w 24 [.slice A n c]
  rw [← hW0]
  clear hW0
  refine jp ?_
  refine jn (.pointer (some ⟨w.heap.size, 0, none⟩)) ?_
  refine jf (.slice A n c) hB0 0 load_sts ?_
  refine jv (.int .i64 (n : Int)) (exec_lenv Tryd.underlying22 _ (by rfl) A n c (by rfl) _ rfl) ?_
  refine jc (.bool true) (fun X hX hF => mo (wiC (n : Int) 1 8 X) (by rw [HW.out])) ?_
  refine jm (.bool false) ?_
  refine jz fun X1 hX1 => ?_
  have hB0 := hB0.bel hX1
  have hb := bel_next hb hX1
  clear hX1
  go_upto_region 3 with (fail)
  refine jp ?_
  refine jn (.pointer (some ⟨w.heap.size, 0, none⟩)) ?_
  refine jf (.slice A n c) hB0 0 load_sts ?_
  refine jv (.int .i64 (n : Int)) (exec_lenv Tryd.underlying22 _ (by rfl) A n c (by rfl) _ rfl) ?_
  refine jm (.int .i64 0) ?_
  refine jz fun X2 hX2 => ?_
  have hB0 := hB0.bel hX2
  have hb := bel_next hb hX2
  clear hX2
  go_wp2
  go_loopw [13] (fun kv wr => ∃ k : Nat, k ≤ n ∧ kv = .int .i64 (k : Int) ∧ Hid (∀ j, j < k → 1 ≤ (sec r j).length ∧ (sec r j).length ≤ 64) ∧ Blk wr w.heap.size 24 [.slice A n c] ∧ Below w.heap.size w wr) (fun kv _ => n - (intOf kv).toNat)
  case atStart => exact ⟨0, by omega, rfl, (fun j hj => by omega), hB0, hb⟩
  case round =>
    clear hB0 hb
    obtain ⟨k, hk, rfl, HZ, hB0, hb⟩ := hrel
    rcases Nat.lt_or_ge k n with hlt | hlt
    · obtain ⟨b, off, rfl, hbb, hcx⟩ := (HRX.out _ hb).strIn HLN.out hlt
      obtain ⟨x, hx9⟩ : ∃ x, x = sec r k := ⟨_, rfl⟩
      have HX := Lib.hid hx9
      clear hx9
      rw [← HX.out] at hcx
      go_upto_region 4 with (fail)
      refine jp ?_
      refine jv (.bool true) (exec_lss _ _ _ _ (by rfl) .i64 (k : Int) (n : Int) (by rfl) (by rfl) true (decide_eq_true (by omega))) ?_
      refine jz fun X1 hX1 => ?_
      have hB0 := hB0.bel hX1
      have hcx := hcx.below hX1 hbb
      replace hbb := Nat.lt_of_lt_of_le hbb (hX1).size
      have hb := bel_next hb hX1
      clear hX1
      go_upto_region 5 with (fail)
      refine jp ?_
      refine jv (.pointer (some ⟨b, off + k * 1, none⟩)) (exec_ixv Tryd.underlying22 info_st1 _ _ (by rfl) b (off) n c k (by omega) (by rfl) (by rfl) rfl) ?_
      refine jg (st x) (fun X hX hF => exec_ld 9 _ (by rfl) b (off + k * 1) (by rfl) _ X ((hcx.below hX hbb) 0 _ rfl) (fun X u h => load_str b (off + k * 1) X u h)) ?_
      refine jm (st x) ?_
      refine jz fun X2 hX2 => ?_
      have hB0 := hB0.bel hX2
      have hcx := hcx.below hX2 hbb
      replace hbb := Nat.lt_of_lt_of_le hbb (hX2).size
      have hb := bel_next hb hX2
      clear hX2
      by_cases hx64 : 1 ≤ x.length ∧ x.length ≤ 64
      · have HW2 : Hid (wiB (x.length : Int) 1 64 = true) := by unfold wiB; exact decide_eq_true (by omega)
        have HZ2 : Hid (∀ j, j < k + 1 → 1 ≤ (sec r j).length ∧ (sec r j).length ≤ 64) := fun j hj => by
          rcases Nat.lt_or_ge j k with h9 | h9
          · exact HZ.out j h9
          · rw [show j = k by omega, ← HX.out]; exact hx64
        go_upto_region 6 with (fail)
        refine jp ?_
        refine jm (st x) ?_
        refine jv (.int .i64 (x.length : Int)) (exec_lens Tryd.underlying9 _ (by rfl) x (by rfl) _ rfl) ?_
        refine jc (.bool true) (fun X hX hF => mo (wiC (x.length : Int) 1 64 X) (by rw [HW2.out])) ?_
        refine jm (.bool false) ?_
        refine jz fun X3 hX3 => ?_
        have hB0 := hB0.bel hX3
        have hb := bel_next hb hX3
        clear hX3
        go_upto_region 8 with (fail)
        refine jp ?_
        refine jv (.int .i64 ((k + 1 : Nat) : Int)) (exec_add _ _ _ _ (by rfl) (k : Int) 1 ((k + 1 : Nat) : Int) (by rfl) (by rfl) (by omega) (by omega) (by omega)) ?_
        refine jm (.int .i64 ((k + 1 : Nat) : Int)) ?_
        refine jz fun X4 hX4 => ?_
        have hB0 := hB0.bel hX4
        have hb := bel_next hb hX4
        clear hX4
        go_wp2
        go_roundw
        case rel => exact ⟨k + 1, by omega, rfl, HZ2, hB0, hb⟩
        case measure => simp [intOf]; omega
      · have HW2 : Hid (wiB (x.length : Int) 1 64 = false) := by unfold wiB; exact decide_eq_false (by omega)
        have HC : Hid (rckE r = 1) := rck_bad (k := k) (by omega) (by omega) (by omega) (by rw [← HX.out]; exact hx64)
        go_upto_region 6 with (fail)
        refine jp ?_
        refine jm (st x) ?_
        refine jv (.int .i64 (x.length : Int)) (exec_lens Tryd.underlying9 _ (by rfl) x (by rfl) _ rfl) ?_
        refine jc (.bool false) (fun X hX hF => mo (wiC (x.length : Int) 1 64 X) (by rw [HW2.out])) ?_
        refine jm (.bool true) ?_
        refine jz fun X3 hX3 => ?_
        have hB0 := hB0.bel hX3
        have hb := bel_next hb hX3
        clear hX3
        go_upto_region 7 with (fail)
        refine jp ?_
        refine jm (.int .i64 1) ?_
        refine jz fun X4 hX4 => ?_
        have hB0 := hB0.bel hX4
        have hb := bel_next hb hX4
        clear hX4
        go_wp2
        go_ret
        exact ⟨by rw [HC.out]; rfl, hb⟩
    · obtain rfl : k = n := by omega
      have HC : Hid (rckE r = 0) := rck_ok (by omega) (by omega) (fun j hj => HZ.out j (by omega))
      go_upto_region 4 with (fail)
      refine jp ?_
      refine jv (.bool false) (exec_lss _ _ _ _ (by rfl) .i64 (k : Int) (k : Int) (by rfl) (by rfl) false (decide_eq_false (by omega))) ?_
      refine jz fun X1 hX1 => ?_
      have hB0 := hB0.bel hX1
      have hb := bel_next hb hX1
      clear hX1
      go_upto_region 9 with (fail)
      refine jp ?_
      refine jm (.int .i64 0) ?_
      refine jz fun X2 hX2 => ?_
      have hB0 := hB0.bel hX2
      have hb := bel_next hb hX2
      clear hX2
      go_wp2
      go_ret
      exact ⟨by rw [HC.out]; rfl, hb⟩
theorem sckC (A : Option Addr) (n c : Nat) (r : List (List UInt8)) (w : World) (hr : Rd w 1 (.slice A n c) n (r.map tx)) (hln : r.length = n) (hn1 : n ≤ 9223372036854775807) : Calls Tryd.prog 13 #[.agg #[.slice A n c]] w fun e w' => e = .returned (.int .i64 (rckE r)) ∧ Since w w' := by
  by_cases h : n < 1 ∨ 8 < n
  · exact sck0 A n c r w hr hln hn1 h
  · exact sckM A n c r w hr hln hn1 (by omega) (by omega)
end Go.Proofs.YthinopepcmidmaaDoor

/-
  The references: Clean, Valid, digit.
-/
import Derived.Test.YtglnabciomlmmaaDoorPl04t
import Derived.Test.YtglnabciomlmmaaDoorNap
import Derived.Test.YtglnabciomlmmaaDoorLxt
namespace Go.Proofs.YtglnabciomlmmaaDoor
open Go.RowKit

theorem val_drop_zero (l : List UInt8) {k : Nat} (hk : k < l.length) (h : (l.getD k 0).toNat = 0) : val (l.drop (k + 1)) = val (l.drop k) := by
  rw [List.drop_eq_getElem_cons hk, val_cons]
  have : l[k].toNat = 0 := by
    rw [List.getD, List.getElem?_eq_getElem hk] at h
    exact h
  rw [this]
  omega
theorem be_drop (l : List UInt8) {k : Nat} (hk : k ≤ l.length) (hv : val (l.drop k) = val l) (h : k < l.length → ¬ (l.getD k 0).toNat = 0) : be (val l) = l.drop k := by
  rw [← hv]
  refine be_of ?_
  rcases Nat.lt_or_ge k l.length with h1 | h1
  · rw [List.drop_eq_getElem_cons h1, List.head?_cons]
    intro h2
    injection h2 with h2
    have := h h1
    rw [List.getD, List.getElem?_eq_getElem h1] at this
    exact this (by show l[k].toNat = 0; rw [h2]; rfl)
  · rw [List.drop_eq_nil_of_le h1]
    exact fun h2 => by cases h2
set_option maxRecDepth 100000 in
set_option maxHeartbeats 1600000 in
theorem rcleanC (l : List UInt8) (w : World) (hl : l.length ≤ 140737488355328) : Calls Tryd.prog 17 #[.string ⟨l.toArray⟩] w fun e w' => e = .returned (.string ⟨(be (val l)).toArray⟩) ∧ Since w w' := by
  go_enter Tryd.func17, Tryd.ntmps17
  go_wp2
  go_loopw [3] (fun kv wr => ∃ k : Nat, k ≤ l.length ∧ kv = .int .i64 (k : Int) ∧ val (l.drop k) = val l ∧ Since w wr) (fun kv _ => l.length - (intOf kv).toNat)
  case atStart => exact ⟨0, by omega, rfl, by rw [List.drop_zero], Below.refl _ _⟩
  case round =>
    obtain ⟨k, hk, rfl, hv, hb⟩ := hrel
    have HV := Lib.hid hv
    clear hv
    rcases Nat.lt_or_ge k l.length with hlt | hlt
    · by_cases h0 : (l.getD k 0).toNat = 0
      · have HV2 : Hid (val (l.drop (k + 1)) = val l) := (val_drop_zero l hlt h0).trans HV.out
        have h0' : (l.getD k 0).toNat ≤ 0 := by omega
        clear h0
        go_upto_region 2 with (fail)
        refine lx_plain [] (lasts_nil) ?_
        simp only [its, Nat.zero_add, Nat.reduceAdd]
        refine lx_val (by rfl) (.int .i64 (k : Int)) (fun X hX hF => by rfl) ?_
        simp only [Act.put, List.setIfInBounds_toArray, List.set_cons_succ, List.set_cons_zero]
        refine lx_val (by rfl) (.string ⟨l.toArray⟩) (fun X hX hF => by rfl) ?_
        simp only [Act.put, List.setIfInBounds_toArray, List.set_cons_succ, List.set_cons_zero]
        refine lx_val (by rfl) (.int .i64 (l.length : Int)) (fun X hX hF => exec_lens Tryd.underlying9 _ (by rfl) l (by rfl) _ rfl X) ?_
        simp only [Act.put, List.setIfInBounds_toArray, List.set_cons_succ, List.set_cons_zero]
        refine lx_val (by rfl) (.bool true) (fun X hX hF => exec_lss _ _ _ _ (by rfl) .i64 (k : Int) (l.length : Int) (by rfl) (by rfl) true (decide_eq_true (by omega)) X) ?_
        simp only [Act.put, List.setIfInBounds_toArray, List.set_cons_succ, List.set_cons_zero]
        refine lx_val (by rfl) (.bool true) (fun X hX hF => by rfl) ?_
        simp only [Act.put, List.setIfInBounds_toArray, List.set_cons_succ, List.set_cons_zero]
        refine lx_val (by rfl) (.string ⟨l.toArray⟩) (fun X hX hF => by rfl) ?_
        simp only [Act.put, List.setIfInBounds_toArray, List.set_cons_succ, List.set_cons_zero]
        refine lx_val (by rfl) (.int .i64 (k : Int)) (fun X hX hF => by rfl) ?_
        simp only [Act.put, List.setIfInBounds_toArray, List.set_cons_succ, List.set_cons_zero]
        refine lx_val (by rfl) (.int .u8 ((l.getD k 0).toNat : Int)) (fun X hX hF => exec_chr _ Tryd.underlying9 _ _ (by rfl) l k (by rfl) (by rfl) (by omega) hlt X) ?_
        simp only [Act.put, List.setIfInBounds_toArray, List.set_cons_succ, List.set_cons_zero]
        refine lx_val (by rfl) (.bool true) (fun X hX hF => exec_eqi _ _ _ _ (by rfl) .u8 ((l.getD k 0).toNat : Int) 0 (by rfl) (by rfl) true (decide_eq_true (by omega)) X) ?_
        simp only [Act.put, List.setIfInBounds_toArray, List.set_cons_succ, List.set_cons_zero]
        refine lx_val (by rfl) (.bool true) (fun X hX hF => by rfl) ?_
        simp only [Act.put, List.setIfInBounds_toArray, List.set_cons_succ, List.set_cons_zero]
        refine lx_nil ?_
        intro X1 hX1 hF
        have hb := bel_next hb hX1
        clear hF hX1
        go_wp2
        go_roundw
        case rel => exact ⟨k + 1, by omega, by go_num, HV2.out, hb⟩
        case measure => simp [intOf]; omega
      · have HB : Hid (be (val l) = l.drop k) := be_drop l hk HV.out (fun _ => h0)
        have h0' : 0 < (l.getD k 0).toNat := by omega
        clear h0
        go_upto_region 2 with (fail)
        refine lx_plain [] (lasts_nil) ?_
        simp only [its, Nat.zero_add, Nat.reduceAdd]
        refine lx_val (by rfl) (.int .i64 (k : Int)) (fun X hX hF => by rfl) ?_
        simp only [Act.put, List.setIfInBounds_toArray, List.set_cons_succ, List.set_cons_zero]
        refine lx_val (by rfl) (.string ⟨l.toArray⟩) (fun X hX hF => by rfl) ?_
        simp only [Act.put, List.setIfInBounds_toArray, List.set_cons_succ, List.set_cons_zero]
        refine lx_val (by rfl) (.int .i64 (l.length : Int)) (fun X hX hF => exec_lens Tryd.underlying9 _ (by rfl) l (by rfl) _ rfl X) ?_
        simp only [Act.put, List.setIfInBounds_toArray, List.set_cons_succ, List.set_cons_zero]
        refine lx_val (by rfl) (.bool true) (fun X hX hF => exec_lss _ _ _ _ (by rfl) .i64 (k : Int) (l.length : Int) (by rfl) (by rfl) true (decide_eq_true (by omega)) X) ?_
        simp only [Act.put, List.setIfInBounds_toArray, List.set_cons_succ, List.set_cons_zero]
        refine lx_val (by rfl) (.bool true) (fun X hX hF => by rfl) ?_
        simp only [Act.put, List.setIfInBounds_toArray, List.set_cons_succ, List.set_cons_zero]
        refine lx_val (by rfl) (.string ⟨l.toArray⟩) (fun X hX hF => by rfl) ?_
        simp only [Act.put, List.setIfInBounds_toArray, List.set_cons_succ, List.set_cons_zero]
        refine lx_val (by rfl) (.int .i64 (k : Int)) (fun X hX hF => by rfl) ?_
        simp only [Act.put, List.setIfInBounds_toArray, List.set_cons_succ, List.set_cons_zero]
        refine lx_val (by rfl) (.int .u8 ((l.getD k 0).toNat : Int)) (fun X hX hF => exec_chr _ Tryd.underlying9 _ _ (by rfl) l k (by rfl) (by rfl) (by omega) hlt X) ?_
        simp only [Act.put, List.setIfInBounds_toArray, List.set_cons_succ, List.set_cons_zero]
        refine lx_val (by rfl) (.bool false) (fun X hX hF => exec_eqi _ _ _ _ (by rfl) .u8 ((l.getD k 0).toNat : Int) 0 (by rfl) (by rfl) false (decide_eq_false (by omega)) X) ?_
        simp only [Act.put, List.setIfInBounds_toArray, List.set_cons_succ, List.set_cons_zero]
        refine lx_val (by rfl) (.bool false) (fun X hX hF => by rfl) ?_
        simp only [Act.put, List.setIfInBounds_toArray, List.set_cons_succ, List.set_cons_zero]
        refine lx_nil ?_
        intro X1 hX1 hF
        have hb := bel_next hb hX1
        clear hF hX1
        go_upto_region 4 with (fail)
        refine lx_plain [] (lasts_nil) ?_
        simp only [its, Nat.zero_add, Nat.reduceAdd]
        refine lx_val (by rfl) (.string ⟨l.toArray⟩) (fun X hX hF => by rfl) ?_
        simp only [Act.put, List.setIfInBounds_toArray, List.set_cons_succ, List.set_cons_zero]
        refine lx_val (by rfl) (.int .i64 (k : Int)) (fun X hX hF => by rfl) ?_
        simp only [Act.put, List.setIfInBounds_toArray, List.set_cons_succ, List.set_cons_zero]
        refine lx_val (by rfl) (.string ⟨(l.drop k).toArray⟩) (fun X hX hF => exec_from _ Tryd.underlying9 _ _ (by rfl) l k (by rfl) (by rfl) (by omega) hk X) ?_
        simp only [Act.put, List.setIfInBounds_toArray, List.set_cons_succ, List.set_cons_zero]
        refine lx_val (by rfl) (.string ⟨(l.drop k).toArray⟩) (fun X hX hF => by rfl) ?_
        simp only [Act.put, List.setIfInBounds_toArray, List.set_cons_succ, List.set_cons_zero]
        refine lx_nil ?_
        intro X2 hX2 hF
        have hb := bel_next hb hX2
        clear hF hX2
        go_wp2
        go_ret
        exact ⟨by rw [HB.out]; rfl, hb⟩
    · have HB : Hid (be (val l) = l.drop k) := be_drop l hk HV.out (fun h => absurd h (by omega))
      go_upto_region 2 with (fail)
      refine lx_plain [] (lasts_nil) ?_
      simp only [its, Nat.zero_add, Nat.reduceAdd]
      refine lx_val (by rfl) (.int .i64 (k : Int)) (fun X hX hF => by rfl) ?_
      simp only [Act.put, List.setIfInBounds_toArray, List.set_cons_succ, List.set_cons_zero]
      refine lx_val (by rfl) (.string ⟨l.toArray⟩) (fun X hX hF => by rfl) ?_
      simp only [Act.put, List.setIfInBounds_toArray, List.set_cons_succ, List.set_cons_zero]
      refine lx_val (by rfl) (.int .i64 (l.length : Int)) (fun X hX hF => exec_lens Tryd.underlying9 _ (by rfl) l (by rfl) _ rfl X) ?_
      simp only [Act.put, List.setIfInBounds_toArray, List.set_cons_succ, List.set_cons_zero]
      refine lx_val (by rfl) (.bool false) (fun X hX hF => exec_lss _ _ _ _ (by rfl) .i64 (k : Int) (l.length : Int) (by rfl) (by rfl) false (decide_eq_false (by omega)) X) ?_
      simp only [Act.put, List.setIfInBounds_toArray, List.set_cons_succ, List.set_cons_zero]
      refine lx_val (by rfl) (.bool false) (fun X hX hF => by rfl) ?_
      simp only [Act.put, List.setIfInBounds_toArray, List.set_cons_succ, List.set_cons_zero]
      refine lx_skip (by rfl) ?_
      simp only [Act.put, List.setIfInBounds_toArray, List.set_cons_succ, List.set_cons_zero]
      refine lx_skip (by rfl) ?_
      simp only [Act.put, List.setIfInBounds_toArray, List.set_cons_succ, List.set_cons_zero]
      refine lx_skip (by rfl) ?_
      simp only [Act.put, List.setIfInBounds_toArray, List.set_cons_succ, List.set_cons_zero]
      refine lx_skip (by rfl) ?_
      simp only [Act.put, List.setIfInBounds_toArray, List.set_cons_succ, List.set_cons_zero]
      refine lx_val (by rfl) (.bool false) (fun X hX hF => by rfl) ?_
      simp only [Act.put, List.setIfInBounds_toArray, List.set_cons_succ, List.set_cons_zero]
      refine lx_nil ?_
      intro X1 hX1 hF
      have hb := bel_next hb hX1
      clear hF hX1
      go_upto_region 4 with (fail)
      refine lx_plain [] (lasts_nil) ?_
      simp only [its, Nat.zero_add, Nat.reduceAdd]
      refine lx_val (by rfl) (.string ⟨l.toArray⟩) (fun X hX hF => by rfl) ?_
      simp only [Act.put, List.setIfInBounds_toArray, List.set_cons_succ, List.set_cons_zero]
      refine lx_val (by rfl) (.int .i64 (k : Int)) (fun X hX hF => by rfl) ?_
      simp only [Act.put, List.setIfInBounds_toArray, List.set_cons_succ, List.set_cons_zero]
      refine lx_val (by rfl) (.string ⟨(l.drop k).toArray⟩) (fun X hX hF => exec_from _ Tryd.underlying9 _ _ (by rfl) l k (by rfl) (by rfl) (by omega) hk X) ?_
      simp only [Act.put, List.setIfInBounds_toArray, List.set_cons_succ, List.set_cons_zero]
      refine lx_val (by rfl) (.string ⟨(l.drop k).toArray⟩) (fun X hX hF => by rfl) ?_
      simp only [Act.put, List.setIfInBounds_toArray, List.set_cons_succ, List.set_cons_zero]
      refine lx_nil ?_
      intro X2 hX2 hF
      have hb := bel_next hb hX2
      clear hF hX2
      go_wp2
      go_ret
      exact ⟨by rw [HB.out]; rfl, hb⟩

theorem beq_cn (l : List UInt8) : (l == be (val l)) = cn l := by
  unfold cn
  rw [Bool.eq_iff_iff, beq_iff_eq, beq_iff_eq]
  exact ⟨Eq.symm, Eq.symm⟩
set_option maxRecDepth 100000 in
set_option maxHeartbeats 1600000 in
theorem rvalid_true (l : List UInt8) (w : World) (hl : l.length ≤ 140737488355328) (hc : cn l = true) : Calls Tryd.prog 15 #[.string ⟨l.toArray⟩] w fun e w' => e = .returned (.bool (cn l)) ∧ Since w w' := by
  have HC := Lib.hid hc
  clear hc
  go_enter Tryd.func15, Tryd.ntmps15
  go_upto_region 1 with (fail)
  refine lx_plain [] (lasts_nil) ?_
  simp only [its, Nat.zero_add, Nat.reduceAdd]
  refine lx_val (by rfl) (.string ⟨l.toArray⟩) (fun X hX hF => by rfl) ?_
  simp only [Act.put, List.setIfInBounds_toArray, List.set_cons_succ, List.set_cons_zero]
  refine lx_val (by rfl) (.string ⟨l.toArray⟩) (fun X hX hF => by rfl) ?_
  simp only [Act.put, List.setIfInBounds_toArray, List.set_cons_succ, List.set_cons_zero]
  refine lx_call (by rfl) 17 _ _ (by rfl) (.string ⟨(be (val l)).toArray⟩) [.string ⟨l.toArray⟩] (by rfl) (by kernel_rfl) (fun _ => by go_simp) (fun X hX hF => rcleanC l X (by omega)) ?_
  simp only [Act.put, List.setIfInBounds_toArray, List.set_cons_succ, List.set_cons_zero]
  refine lx_val (by rfl) (.bool true) (fun X hX hF => exec_eqsB _ _ _ _ (by rfl) l (be (val l)) (by rfl) (by rfl) true ((beq_cn l).trans HC.out) X) ?_
  simp only [Act.put, List.setIfInBounds_toArray, List.set_cons_succ, List.set_cons_zero]
  refine lx_val (by rfl) (.bool true) (fun X hX hF => by rfl) ?_
  simp only [Act.put, List.setIfInBounds_toArray, List.set_cons_succ, List.set_cons_zero]
  refine lx_nil ?_
  intro X1 hX1 hF
  have hb : Below w.heap.size w X1 := hX1
  clear hF hX1
  go_wp2
  go_ret
  exact ⟨by rw [HC.out]; rfl, hb⟩

set_option maxRecDepth 100000 in
set_option maxHeartbeats 1600000 in
theorem rvalid_false (l : List UInt8) (w : World) (hl : l.length ≤ 140737488355328) (hc : cn l = false) : Calls Tryd.prog 15 #[.string ⟨l.toArray⟩] w fun e w' => e = .returned (.bool (cn l)) ∧ Since w w' := by
  have HC := Lib.hid hc
  clear hc
  go_enter Tryd.func15, Tryd.ntmps15
  go_upto_region 1 with (fail)
  refine lx_plain [] (lasts_nil) ?_
  simp only [its, Nat.zero_add, Nat.reduceAdd]
  refine lx_val (by rfl) (.string ⟨l.toArray⟩) (fun X hX hF => by rfl) ?_
  simp only [Act.put, List.setIfInBounds_toArray, List.set_cons_succ, List.set_cons_zero]
  refine lx_val (by rfl) (.string ⟨l.toArray⟩) (fun X hX hF => by rfl) ?_
  simp only [Act.put, List.setIfInBounds_toArray, List.set_cons_succ, List.set_cons_zero]
  refine lx_call (by rfl) 17 _ _ (by rfl) (.string ⟨(be (val l)).toArray⟩) [.string ⟨l.toArray⟩] (by rfl) (by kernel_rfl) (fun _ => by go_simp) (fun X hX hF => rcleanC l X (by omega)) ?_
  simp only [Act.put, List.setIfInBounds_toArray, List.set_cons_succ, List.set_cons_zero]
  refine lx_val (by rfl) (.bool false) (fun X hX hF => exec_eqsB _ _ _ _ (by rfl) l (be (val l)) (by rfl) (by rfl) false ((beq_cn l).trans HC.out) X) ?_
  simp only [Act.put, List.setIfInBounds_toArray, List.set_cons_succ, List.set_cons_zero]
  refine lx_val (by rfl) (.bool false) (fun X hX hF => by rfl) ?_
  simp only [Act.put, List.setIfInBounds_toArray, List.set_cons_succ, List.set_cons_zero]
  refine lx_nil ?_
  intro X1 hX1 hF
  have hb : Below w.heap.size w X1 := hX1
  clear hF hX1
  go_wp2
  go_ret
  exact ⟨by rw [HC.out]; rfl, hb⟩

theorem rvalidC (l : List UInt8) (w : World) (hl : l.length ≤ 140737488355328) : Calls Tryd.prog 15 #[.string ⟨l.toArray⟩] w fun e w' => e = .returned (.bool (cn l)) ∧ Since w w' := by
  rcases h : cn l with _ | _
  · rw [← h]
    exact rvalid_false l w hl h
  · rw [← h]
    exact rvalid_true l w hl h
/-- The digit k of a number, from the lowest. -/
def dgt (l : List UInt8) (k : Nat) : Nat := (l.reverse.getD k 0).toNat
theorem dgt_lt (l : List UInt8) (k : Nat) : dgt l k < 256 := u8_lt _
theorem dgt_above {l : List UInt8} {k : Nat} (h : l.length ≤ k) : dgt l k = 0 := by
  unfold dgt
  rw [List.getD, List.getElem?_eq_none (by rw [List.length_reverse]; exact h)]
  rfl
theorem dgt_in {l : List UInt8} {k : Nat} (h : k < l.length) : dgt l k = (l.getD (l.length - 1 - k) 0).toNat := by
  unfold dgt
  rw [List.getD, List.getD, List.getElem?_reverse h]
set_option maxRecDepth 100000 in
set_option maxHeartbeats 1600000 in
theorem rdigit_hi (l : List UInt8) (k : Nat) (w : World) (hl : l.length ≤ 140737488355328) (hk : l.length ≤ k) : Calls Tryd.prog 39 #[.string ⟨l.toArray⟩, .int .i64 (k : Int)] w fun e w' => e = .returned (.int .i64 (dgt l k : Int)) ∧ Since w w' := by
  have HD := Lib.hid (dgt_above hk)
  go_enter Tryd.func39, Tryd.ntmps39
  go_upto_region 1 with (fail)
  refine lx_plain [] (lasts_nil) ?_
  simp only [its, Nat.zero_add, Nat.reduceAdd]
  refine lx_val (by rfl) (.int .i64 (k : Int)) (fun X hX hF => by rfl) ?_
  simp only [Act.put, List.setIfInBounds_toArray, List.set_cons_succ, List.set_cons_zero]
  refine lx_val (by rfl) (.string ⟨l.toArray⟩) (fun X hX hF => by rfl) ?_
  simp only [Act.put, List.setIfInBounds_toArray, List.set_cons_succ, List.set_cons_zero]
  refine lx_val (by rfl) (.int .i64 (l.length : Int)) (fun X hX hF => exec_lens Tryd.underlying9 _ (by rfl) l (by rfl) _ rfl X) ?_
  simp only [Act.put, List.setIfInBounds_toArray, List.set_cons_succ, List.set_cons_zero]
  refine lx_val (by rfl) (.bool true) (fun X hX hF => exec_geq _ _ _ _ (by rfl) .i64 (k : Int) (l.length : Int) (by rfl) (by rfl) true (decide_eq_true (by omega)) X) ?_
  simp only [Act.put, List.setIfInBounds_toArray, List.set_cons_succ, List.set_cons_zero]
  refine lx_nil ?_
  intro X1 hX1 hF
  have hb : Below w.heap.size w X1 := hX1
  clear hF hX1
  go_wp2
  go_ret
  exact ⟨by rw [HD.out]; rfl, hb⟩

set_option maxRecDepth 100000 in
set_option maxHeartbeats 1600000 in
theorem rdigit_lo (l : List UInt8) (k : Nat) (w : World) (hl : l.length ≤ 140737488355328) (hk : k < l.length) : Calls Tryd.prog 39 #[.string ⟨l.toArray⟩, .int .i64 (k : Int)] w fun e w' => e = .returned (.int .i64 (dgt l k : Int)) ∧ Since w w' := by
  have HD := Lib.hid (dgt_in hk)
  have hd2 := dgt_lt l k
  go_enter Tryd.func39, Tryd.ntmps39
  go_upto_region 1 with (fail)
  refine lx_plain [] (lasts_nil) ?_
  simp only [its, Nat.zero_add, Nat.reduceAdd]
  refine lx_val (by rfl) (.int .i64 (k : Int)) (fun X hX hF => by rfl) ?_
  simp only [Act.put, List.setIfInBounds_toArray, List.set_cons_succ, List.set_cons_zero]
  refine lx_val (by rfl) (.string ⟨l.toArray⟩) (fun X hX hF => by rfl) ?_
  simp only [Act.put, List.setIfInBounds_toArray, List.set_cons_succ, List.set_cons_zero]
  refine lx_val (by rfl) (.int .i64 (l.length : Int)) (fun X hX hF => exec_lens Tryd.underlying9 _ (by rfl) l (by rfl) _ rfl X) ?_
  simp only [Act.put, List.setIfInBounds_toArray, List.set_cons_succ, List.set_cons_zero]
  refine lx_val (by rfl) (.bool false) (fun X hX hF => exec_geq _ _ _ _ (by rfl) .i64 (k : Int) (l.length : Int) (by rfl) (by rfl) false (decide_eq_false (by omega)) X) ?_
  simp only [Act.put, List.setIfInBounds_toArray, List.set_cons_succ, List.set_cons_zero]
  refine lx_nil ?_
  intro X1 hX1 hF
  have hb : Below w.heap.size w X1 := hX1
  clear hF hX1
  go_upto_region 3 with (fail)
  refine lx_plain [] (lasts_nil) ?_
  simp only [its, Nat.zero_add, Nat.reduceAdd]
  refine lx_val (by rfl) (.string ⟨l.toArray⟩) (fun X hX hF => by rfl) ?_
  simp only [Act.put, List.setIfInBounds_toArray, List.set_cons_succ, List.set_cons_zero]
  refine lx_val (by rfl) (.string ⟨l.toArray⟩) (fun X hX hF => by rfl) ?_
  simp only [Act.put, List.setIfInBounds_toArray, List.set_cons_succ, List.set_cons_zero]
  refine lx_val (by rfl) (.int .i64 (l.length : Int)) (fun X hX hF => exec_lens Tryd.underlying9 _ (by rfl) l (by rfl) _ rfl X) ?_
  simp only [Act.put, List.setIfInBounds_toArray, List.set_cons_succ, List.set_cons_zero]
  refine lx_val (by rfl) (.int .i64 ((l.length : Int) - 1)) (fun X hX hF => exec_sub _ _ _ _ (by rfl) (l.length : Int) 1 ((l.length : Int) - 1) (by rfl) (by rfl) (by omega) (by omega) (by omega) X) ?_
  simp only [Act.put, List.setIfInBounds_toArray, List.set_cons_succ, List.set_cons_zero]
  refine lx_val (by rfl) (.int .i64 (k : Int)) (fun X hX hF => by rfl) ?_
  simp only [Act.put, List.setIfInBounds_toArray, List.set_cons_succ, List.set_cons_zero]
  refine lx_val (by rfl) (.int .i64 (((l.length : Int) - 1) - (k : Int))) (fun X hX hF => exec_sub _ _ _ _ (by rfl) ((l.length : Int) - 1) (k : Int) (((l.length : Int) - 1) - (k : Int)) (by rfl) (by rfl) (by omega) (by omega) (by omega) X) ?_
  simp only [Act.put, List.setIfInBounds_toArray, List.set_cons_succ, List.set_cons_zero]
  refine lx_val (by rfl) (.int .u8 (dgt l k : Int)) (fun X hX hF => (exec_chr _ Tryd.underlying9 _ _ (by rfl) l (l.length - 1 - k) (by rfl) (by rfl) (by omega) (by omega) X).trans (by rw [HD.out])) ?_
  simp only [Act.put, List.setIfInBounds_toArray, List.set_cons_succ, List.set_cons_zero]
  refine lx_val (by rfl) (.int .i64 (dgt l k : Int)) (fun X hX hF => exec_cnv _ _ .u8 .i64 Tryd.underlying5 Tryd.underlying3 _ (by rfl) (dgt l k : Int) (dgt l k : Int) (by rfl) (by rw [IntWalk.i64_in _ (by omega)]) X) ?_
  simp only [Act.put, List.setIfInBounds_toArray, List.set_cons_succ, List.set_cons_zero]
  refine lx_val (by rfl) (.int .i64 (dgt l k : Int)) (fun X hX hF => by rfl) ?_
  simp only [Act.put, List.setIfInBounds_toArray, List.set_cons_succ, List.set_cons_zero]
  refine lx_nil ?_
  intro X2 hX2 hF
  have hb := bel_next hb hX2
  clear hF hX2
  go_wp2
  go_ret
  exact ⟨rfl, hb⟩

theorem rdigitC (l : List UInt8) (k : Nat) (w : World) (hl : l.length ≤ 140737488355328) : Calls Tryd.prog 39 #[.string ⟨l.toArray⟩, .int .i64 (k : Int)] w fun e w' => e = .returned (.int .i64 (dgt l k : Int)) ∧ Since w w' := by
  rcases Nat.lt_or_ge k l.length with h | h
  · exact rdigit_lo l k w hl h
  · exact rdigit_hi l k w hl h
end Go.Proofs.YtglnabciomlmmaaDoor

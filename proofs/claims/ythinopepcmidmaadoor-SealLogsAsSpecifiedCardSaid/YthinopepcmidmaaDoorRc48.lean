/-
  Reference of layer 48: Check.
-/
import Derived.Test.YthinopepcmidmaaDoorRa48
set_option linter.unusedSimpArgs false
set_option linter.unusedVariables false
set_option maxRecDepth 100000
set_option maxHeartbeats 1600000
namespace Go.Proofs.YthinopepcmidmaaDoor
open Go.RowKit
theorem rck0 (A : Option Addr) (n c : Nat) (r : List (List UInt8)) (w : World) (hr : Rd w 1 (.slice A n c) n (r.map tx)) (hln : r.length = n) (hn1 : n ≤ 9223372036854775807) (h : n < 1) : Calls Tryd.prog 14 #[.agg #[.slice A n c]] w fun e w' => e = .returned (.int .i64 (rckE r)) ∧ Since w w' := by
  have HC : Hid (rckE r = 2) := rck_lim (by omega)
  go_enter Tryd.func14, Tryd.ntmps14
  go_upto_region 1 with (fail)
  obtain ⟨W0, hW0, hB0, hb⟩ := start1 w 24 [.slice A n c]
  rw [← hW0]
  clear hW0
  refine jp ?_
  refine jn (.pointer (some ⟨w.heap.size, 0, none⟩)) ?_
  refine jf (.slice A n c) hB0 0 load_sts ?_
  refine jv (.int .i64 (n : Int)) (exec_lenv Tryd.underlying22 _ (by rfl) A n c (by rfl) _ rfl) ?_
  refine jv (.bool true) (exec_lss _ _ _ _ (by rfl) .i64 (n : Int) 1 (by rfl) (by rfl) true (decide_eq_true (by omega))) ?_
  refine jm (.bool true) ?_
  refine js ?_
  refine js ?_
  refine js ?_
  refine js ?_
  refine jm (.bool true) ?_
  refine jz fun X1 hX1 => ?_
  have hB0 := hB0.bel hX1
  have hb := bel_next hb hX1
  clear hX1
  go_upto_region 2 with (fail)
  refine jp ?_
  refine jm (.int .i64 2) ?_
  refine jz fun X2 hX2 => ?_
  have hB0 := hB0.bel hX2
  have hb := bel_next hb hX2
  clear hX2
  go_wp2
  go_ret
  exact ⟨by rw [HC.out]; rfl, hb⟩
theorem rck1 (A : Option Addr) (n c : Nat) (r : List (List UInt8)) (w : World) (hr : Rd w 1 (.slice A n c) n (r.map tx)) (hln : r.length = n) (hn1 : n ≤ 9223372036854775807) (h0 : 1 ≤ n) (h : 8 < n) : Calls Tryd.prog 14 #[.agg #[.slice A n c]] w fun e w' => e = .returned (.int .i64 (rckE r)) ∧ Since w w' := by
  have HC : Hid (rckE r = 2) := rck_lim (by omega)
  go_enter Tryd.func14, Tryd.ntmps14
  go_upto_region 1 with (fail)
  obtain ⟨W0, hW0, hB0, hb⟩ := start1 w 24 [.slice A n c]
  rw [← hW0]
  clear hW0
  refine jp ?_
  refine jn (.pointer (some ⟨w.heap.size, 0, none⟩)) ?_
  refine jf (.slice A n c) hB0 0 load_sts ?_
  refine jv (.int .i64 (n : Int)) (exec_lenv Tryd.underlying22 _ (by rfl) A n c (by rfl) _ rfl) ?_
  refine jv (.bool false) (exec_lss _ _ _ _ (by rfl) .i64 (n : Int) 1 (by rfl) (by rfl) false (decide_eq_false (by omega))) ?_
  refine jm (.bool false) ?_
  refine jn (.pointer (some ⟨w.heap.size, 0, none⟩)) ?_
  refine jf (.slice A n c) hB0 0 load_sts ?_
  refine jv (.int .i64 (n : Int)) (exec_lenv Tryd.underlying22 _ (by rfl) A n c (by rfl) _ rfl) ?_
  refine jv (.bool true) (exec_gtr _ _ _ _ (by rfl) .i64 (n : Int) 8 (by rfl) (by rfl) true (decide_eq_true (by omega))) ?_
  refine jm (.bool true) ?_
  refine jz fun X1 hX1 => ?_
  have hB0 := hB0.bel hX1
  have hb := bel_next hb hX1
  clear hX1
  go_upto_region 2 with (fail)
  refine jp ?_
  refine jm (.int .i64 2) ?_
  refine jz fun X2 hX2 => ?_
  have hB0 := hB0.bel hX2
  have hb := bel_next hb hX2
  clear hX2
  go_wp2
  go_ret
  exact ⟨by rw [HC.out]; rfl, hb⟩
theorem rckM (A : Option Addr) (n c : Nat) (r : List (List UInt8)) (w : World) (hr : Rd w 1 (.slice A n c) n (r.map tx)) (hln : r.length = n) (hn1 : n ≤ 9223372036854775807) (h1 : 1 ≤ n) (h8 : n ≤ 8) : Calls Tryd.prog 14 #[.agg #[.slice A n c]] w fun e w' => e = .returned (.int .i64 (rckE r)) ∧ Since w w' := by
  have HRX : Hid (∀ X, Since w X → Rd X 1 (.slice A n c) n (r.map tx)) := fun X h => hr.below h
  have HLN := Lib.hid hln
  clear hr
  go_enter Tryd.func14, Tryd.ntmps14
  go_upto_region 1 with (fail)
  obtain ⟨W0, hW0, hB0, hb⟩ := start1 w 24 [.slice A n c]
  rw [← hW0]
  clear hW0
  refine jp ?_
  refine jn (.pointer (some ⟨w.heap.size, 0, none⟩)) ?_
  refine jf (.slice A n c) hB0 0 load_sts ?_
  refine jv (.int .i64 (n : Int)) (exec_lenv Tryd.underlying22 _ (by rfl) A n c (by rfl) _ rfl) ?_
  refine jv (.bool false) (exec_lss _ _ _ _ (by rfl) .i64 (n : Int) 1 (by rfl) (by rfl) false (decide_eq_false (by omega))) ?_
  refine jm (.bool false) ?_
  refine jn (.pointer (some ⟨w.heap.size, 0, none⟩)) ?_
  refine jf (.slice A n c) hB0 0 load_sts ?_
  refine jv (.int .i64 (n : Int)) (exec_lenv Tryd.underlying22 _ (by rfl) A n c (by rfl) _ rfl) ?_
  refine jv (.bool false) (exec_gtr _ _ _ _ (by rfl) .i64 (n : Int) 8 (by rfl) (by rfl) false (decide_eq_false (by omega))) ?_
  refine jm (.bool false) ?_
  refine jz fun X1 hX1 => ?_
  have hB0 := hB0.bel hX1
  have hb := bel_next hb hX1
  clear hX1
  go_upto_region 3 with (fail)
  refine jp ?_
  refine jm (.int .i64 0) ?_
  refine jz fun X2 hX2 => ?_
  have hB0 := hB0.bel hX2
  have hb := bel_next hb hX2
  clear hX2
  go_wp2
  go_loopw [3] (fun kv wr => ∃ k : Nat, k ≤ n ∧ kv = .int .i64 (k : Int) ∧ Hid (∀ j, j < k → 1 ≤ (sec r j).length ∧ (sec r j).length ≤ 64) ∧ Blk wr w.heap.size 24 [.slice A n c] ∧ Below w.heap.size w wr) (fun kv _ => n - (intOf kv).toNat)
  case atStart => exact ⟨0, by omega, rfl, (fun j hj => by omega), hB0, hb⟩
  case round =>
    clear hB0 hb
    obtain ⟨k, hk, rfl, HZ, hB0, hb⟩ := hrel
    rcases Nat.lt_or_ge k n with hlt | hlt
    · obtain ⟨b, off, rfl, hbb, hcx⟩ := (HRX.out _ hb).strIn HLN.out hlt
      obtain ⟨x, hx9⟩ : ∃ x, x = sec r k := ⟨_, rfl⟩
      have HX := Lib.hid hx9
      clear hx9
      rw [← HX.out] at hcx
      go_upto_region 4 with (fail)
      refine jp ?_
      refine jm (.int .i64 (k : Int)) ?_
      refine jn (.pointer (some ⟨w.heap.size, 0, none⟩)) ?_
      refine jf (.slice (some ⟨b, off, none⟩) n c) hB0 0 load_sts ?_
      refine jv (.int .i64 (n : Int)) (exec_lenv Tryd.underlying22 _ (by rfl) (some ⟨b, off, none⟩) n c (by rfl) _ rfl) ?_
      refine jv (.bool true) (exec_lss _ _ _ _ (by rfl) .i64 (k : Int) (n : Int) (by rfl) (by rfl) true (decide_eq_true (by omega))) ?_
      refine jz fun X1 hX1 => ?_
      have hB0 := hB0.bel hX1
      have hcx := hcx.below hX1 hbb
      replace hbb := Nat.lt_of_lt_of_le hbb (hX1).size
      have hb := bel_next hb hX1
      clear hX1
      by_cases hx1 : 1 ≤ x.length
      · by_cases hx64 : x.length ≤ 64
        · have HZ2 : Hid (∀ j, j < k + 1 → 1 ≤ (sec r j).length ∧ (sec r j).length ≤ 64) := fun j hj => by
            rcases Nat.lt_or_ge j k with h9 | h9
            · exact HZ.out j h9
            · rw [show j = k by omega, ← HX.out]; omega
          go_upto_region 6 with (fail)
          refine jp ?_
          refine jn (.pointer (some ⟨w.heap.size, 0, none⟩)) ?_
          refine jf (.slice (some ⟨b, off, none⟩) n c) hB0 0 load_sts ?_
          refine jm (.int .i64 (k : Int)) ?_
          refine jv (.pointer (some ⟨b, off + k * 1, none⟩)) (exec_ixv Tryd.underlying22 info_st1 _ _ (by rfl) b (off) n c k (by omega) (by rfl) (by rfl) rfl) ?_
          refine jg (st x) (fun X hX hF => exec_ld 9 _ (by rfl) b (off + k * 1) (by rfl) _ X ((hcx.below hX hbb) 0 _ rfl) (fun X u h => load_str b (off + k * 1) X u h)) ?_
          refine jv (.int .i64 (x.length : Int)) (exec_lens Tryd.underlying9 _ (by rfl) x (by rfl) _ rfl) ?_
          refine jv (.bool false) (exec_lss _ _ _ _ (by rfl) .i64 (x.length : Int) 1 (by rfl) (by rfl) false (decide_eq_false (by omega))) ?_
          refine jm (.bool false) ?_
          refine jn (.pointer (some ⟨w.heap.size, 0, none⟩)) ?_
          refine jf (.slice (some ⟨b, off, none⟩) n c) hB0 0 load_sts ?_
          refine jm (.int .i64 (k : Int)) ?_
          refine jv (.pointer (some ⟨b, off + k * 1, none⟩)) (exec_ixv Tryd.underlying22 info_st1 _ _ (by rfl) b (off) n c k (by omega) (by rfl) (by rfl) rfl) ?_
          refine jg (st x) (fun X hX hF => exec_ld 9 _ (by rfl) b (off + k * 1) (by rfl) _ X ((hcx.below hX hbb) 0 _ rfl) (fun X u h => load_str b (off + k * 1) X u h)) ?_
          refine jv (.int .i64 (x.length : Int)) (exec_lens Tryd.underlying9 _ (by rfl) x (by rfl) _ rfl) ?_
          refine jv (.bool false) (exec_gtr _ _ _ _ (by rfl) .i64 (x.length : Int) 64 (by rfl) (by rfl) false (decide_eq_false (by omega))) ?_
          refine jm (.bool false) ?_
          refine jz fun X2 hX2 => ?_
          have hB0 := hB0.bel hX2
          have hcx := hcx.below hX2 hbb
          replace hbb := Nat.lt_of_lt_of_le hbb (hX2).size
          have hb := bel_next hb hX2
          clear hX2
          go_upto_region 5 with (fail)
          refine jp ?_
          refine jm (.int .i64 (k : Int)) ?_
          refine jv (.int .i64 ((k + 1 : Nat) : Int)) (exec_add _ _ _ _ (by rfl) (k : Int) 1 ((k + 1 : Nat) : Int) (by rfl) (by rfl) (by omega) (by omega) (by omega)) ?_
          refine jm (.int .i64 ((k + 1 : Nat) : Int)) ?_
          refine jz fun X3 hX3 => ?_
          have hB0 := hB0.bel hX3
          have hb := bel_next hb hX3
          clear hX3
          go_wp2
          go_roundw
          case rel => exact ⟨k + 1, by omega, rfl, HZ2, hB0, hb⟩
          case measure => simp [intOf]; omega
        · have HC : Hid (rckE r = 1) := rck_bad (k := k) (by omega) (by omega) (by omega) (by rw [← HX.out]; omega)
          go_upto_region 6 with (fail)
          refine jp ?_
          refine jn (.pointer (some ⟨w.heap.size, 0, none⟩)) ?_
          refine jf (.slice (some ⟨b, off, none⟩) n c) hB0 0 load_sts ?_
          refine jm (.int .i64 (k : Int)) ?_
          refine jv (.pointer (some ⟨b, off + k * 1, none⟩)) (exec_ixv Tryd.underlying22 info_st1 _ _ (by rfl) b (off) n c k (by omega) (by rfl) (by rfl) rfl) ?_
          refine jg (st x) (fun X hX hF => exec_ld 9 _ (by rfl) b (off + k * 1) (by rfl) _ X ((hcx.below hX hbb) 0 _ rfl) (fun X u h => load_str b (off + k * 1) X u h)) ?_
          refine jv (.int .i64 (x.length : Int)) (exec_lens Tryd.underlying9 _ (by rfl) x (by rfl) _ rfl) ?_
          refine jv (.bool false) (exec_lss _ _ _ _ (by rfl) .i64 (x.length : Int) 1 (by rfl) (by rfl) false (decide_eq_false (by omega))) ?_
          refine jm (.bool false) ?_
          refine jn (.pointer (some ⟨w.heap.size, 0, none⟩)) ?_
          refine jf (.slice (some ⟨b, off, none⟩) n c) hB0 0 load_sts ?_
          refine jm (.int .i64 (k : Int)) ?_
          refine jv (.pointer (some ⟨b, off + k * 1, none⟩)) (exec_ixv Tryd.underlying22 info_st1 _ _ (by rfl) b (off) n c k (by omega) (by rfl) (by rfl) rfl) ?_
          refine jg (st x) (fun X hX hF => exec_ld 9 _ (by rfl) b (off + k * 1) (by rfl) _ X ((hcx.below hX hbb) 0 _ rfl) (fun X u h => load_str b (off + k * 1) X u h)) ?_
          refine jv (.int .i64 (x.length : Int)) (exec_lens Tryd.underlying9 _ (by rfl) x (by rfl) _ rfl) ?_
          refine jv (.bool true) (exec_gtr _ _ _ _ (by rfl) .i64 (x.length : Int) 64 (by rfl) (by rfl) true (decide_eq_true (by omega))) ?_
          refine jm (.bool true) ?_
          refine jz fun X2 hX2 => ?_
          have hB0 := hB0.bel hX2
          have hcx := hcx.below hX2 hbb
          replace hbb := Nat.lt_of_lt_of_le hbb (hX2).size
          have hb := bel_next hb hX2
          clear hX2
          go_upto_region 7 with (fail)
          refine jp ?_
          refine jm (.int .i64 1) ?_
          refine jz fun X3 hX3 => ?_
          have hB0 := hB0.bel hX3
          have hcx := hcx.below hX3 hbb
          replace hbb := Nat.lt_of_lt_of_le hbb (hX3).size
          have hb := bel_next hb hX3
          clear hX3
          go_wp2
          go_ret
          exact ⟨by rw [HC.out]; rfl, hb⟩
      · have HC : Hid (rckE r = 1) := rck_bad (k := k) (by omega) (by omega) (by omega) (by rw [← HX.out]; omega)
        go_upto_region 6 with (fail)
        refine jp ?_
        refine jn (.pointer (some ⟨w.heap.size, 0, none⟩)) ?_
        refine jf (.slice (some ⟨b, off, none⟩) n c) hB0 0 load_sts ?_
        refine jm (.int .i64 (k : Int)) ?_
        refine jv (.pointer (some ⟨b, off + k * 1, none⟩)) (exec_ixv Tryd.underlying22 info_st1 _ _ (by rfl) b (off) n c k (by omega) (by rfl) (by rfl) rfl) ?_
        refine jg (st x) (fun X hX hF => exec_ld 9 _ (by rfl) b (off + k * 1) (by rfl) _ X ((hcx.below hX hbb) 0 _ rfl) (fun X u h => load_str b (off + k * 1) X u h)) ?_
        refine jv (.int .i64 (x.length : Int)) (exec_lens Tryd.underlying9 _ (by rfl) x (by rfl) _ rfl) ?_
        refine jv (.bool true) (exec_lss _ _ _ _ (by rfl) .i64 (x.length : Int) 1 (by rfl) (by rfl) true (decide_eq_true (by omega))) ?_
        refine jm (.bool true) ?_
        refine js ?_
        refine js ?_
        refine js ?_
        refine js ?_
        refine js ?_
        refine js ?_
        refine js ?_
        refine jm (.bool true) ?_
        refine jz fun X2 hX2 => ?_
        have hB0 := hB0.bel hX2
        have hcx := hcx.below hX2 hbb
        replace hbb := Nat.lt_of_lt_of_le hbb (hX2).size
        have hb := bel_next hb hX2
        clear hX2
        go_upto_region 7 with (fail)
        refine jp ?_
        refine jm (.int .i64 1) ?_
        refine jz fun X3 hX3 => ?_
        have hB0 := hB0.bel hX3
        have hcx := hcx.below hX3 hbb
        replace hbb := Nat.lt_of_lt_of_le hbb (hX3).size
        have hb := bel_next hb hX3
        clear hX3
        go_wp2
        go_ret
        exact ⟨by rw [HC.out]; rfl, hb⟩
    · have HC : Hid (rckE r = 0) := rck_ok (by omega) (by omega) (fun j hj => HZ.out j (by have := HLN.out; omega))
      go_upto_region 4 with (fail)
      refine jp ?_
      refine jm (.int .i64 (k : Int)) ?_
      refine jn (.pointer (some ⟨w.heap.size, 0, none⟩)) ?_
      refine jf (.slice A n c) hB0 0 load_sts ?_
      refine jv (.int .i64 (n : Int)) (exec_lenv Tryd.underlying22 _ (by rfl) A n c (by rfl) _ rfl) ?_
      refine jv (.bool false) (exec_lss _ _ _ _ (by rfl) .i64 (k : Int) (n : Int) (by rfl) (by rfl) false (decide_eq_false (by omega))) ?_
      refine jz fun X1 hX1 => ?_
      have hB0 := hB0.bel hX1
      have hb := bel_next hb hX1
      clear hX1
      go_upto_region 8 with (fail)
      refine jp ?_
      refine jm (.int .i64 0) ?_
      refine jz fun X2 hX2 => ?_
      have hB0 := hB0.bel hX2
      have hb := bel_next hb hX2
      clear hX2
      go_wp2
      go_ret
      exact ⟨by rw [HC.out]; rfl, hb⟩
theorem rckC (A : Option Addr) (n c : Nat) (r : List (List UInt8)) (w : World) (hr : Rd w 1 (.slice A n c) n (r.map tx)) (hln : r.length = n) (hn1 : n ≤ 9223372036854775807) : Calls Tryd.prog 14 #[.agg #[.slice A n c]] w fun e w' => e = .returned (.int .i64 (rckE r)) ∧ Since w w' := by
  by_cases h : n < 1
  · exact rck0 A n c r w hr hln hn1 h
  · by_cases h8 : 8 < n
    · exact rck1 A n c r w hr hln hn1 (by omega) h8
    · exact rckM A n c r w hr hln hn1 (by omega) (by omega)
end Go.Proofs.YthinopepcmidmaaDoor

/-
  curve: Few, Same of the reference.
-/
import Derived.Test.YtchhlgcakjjncaaGreatDoorCw
set_option linter.unusedSimpArgs false
set_option linter.unusedVariables false
set_option maxRecDepth 100000
set_option maxHeartbeats 1600000
namespace Go.Proofs.YtchhlgcakjjncaaGreatDoor
open Go.RowKit
noncomputable def fewB (l : List Pt) (m : Nat) : Bool := open Classical in decide (l.length ≤ 20 ∧ fewP l m)
open Classical in
theorem fewB_t {l : List Pt} {m : Nat} (h1 : l.length ≤ 20) (h2 : fewP l m) : fewB l m = true := by unfold fewB; exact decide_eq_true ⟨h1, h2⟩
open Classical in
theorem fewB_f {l : List Pt} {m : Nat} (h : ¬ (l.length ≤ 20 ∧ fewP l m)) : fewB l m = false := by unfold fewB; exact decide_eq_false h
open Classical in
theorem fewB_of {l : List Pt} {m : Nat} (h : fewB l m = true) : l.length ≤ 20 ∧ fewP l m := by unfold fewB at h; exact of_decide_eq_true h
theorem few130 (A : Option Addr) (n c : Nat) (l : List Pt) (m : Nat) (w : World) (hr : Rd w 4 (.slice A n c) n (fl ptc l)) (hln : l.length = n) (hn1 : n ≤ 9223372036854775807) (h : 20 < n) : Calls Tryz.prog 81 #[.agg #[.slice A n c], .int .i64 (m : Int)] w fun e w' => e = .returned (.bool (fewB l m)) ∧ Since w w' := by
  have HB : Hid (fewB l m = false) := fewB_f (fun h9 => by omega)
  go_enter Tryz.func81, Tryz.ntmps81
  go_upto_region 1 with (fail)
  obtain ⟨W0, hW0, hB0, hb⟩ := start1 w 48 [.slice A n c]
  rw [← hW0]
  clear hW0
  refine jp ?_
  refine jn (.pointer (some ⟨w.heap.size, 0, none⟩)) ?_
  refine jf (.slice A n c) hB0 0 load_pts ?_
  refine jv (.int .i64 (n : Int)) (exec_lenv Tryz.underlying46 _ (by rfl) A n c (by rfl) _ rfl) ?_
  refine jv (.bool true) (exec_gtr _ _ _ _ (by rfl) .i64 (n : Int) 20 (by rfl) (by rfl) true (decide_eq_true (by omega))) ?_
  refine jz fun X1 hX1 => ?_
  have hB0 := hB0.bel hX1
  have hb := bel_next hb hX1
  clear hX1
  go_upto_region 2 with (fail)
  refine jp ?_
  refine jm (.bool false) ?_
  refine jz fun X2 hX2 => ?_
  have hB0 := hB0.bel hX2
  have hb := bel_next hb hX2
  clear hX2
  go_wp2
  go_ret
  exact ⟨by rw [HB.out]; rfl, hb⟩
theorem few131 (A : Option Addr) (n c : Nat) (l : List Pt) (m : Nat) (w : World) (hr : Rd w 4 (.slice A n c) n (fl ptc l)) (hln : l.length = n) (hn1 : n ≤ 9223372036854775807) (h : n ≤ 20) : Calls Tryz.prog 81 #[.agg #[.slice A n c], .int .i64 (m : Int)] w fun e w' => e = .returned (.bool (fewB l m)) ∧ Since w w' := by
  have HRX : Hid (∀ X, Since w X → Rd X 4 (.slice A n c) n (fl ptc l)) := fun X h => hr.below h
  have HLN := Lib.hid hln
  clear hr
  go_enter Tryz.func81, Tryz.ntmps81
  go_upto_region 1 with (fail)
  obtain ⟨W0, hW0, hB0, hb⟩ := start1 w 48 [.slice A n c]
  rw [← hW0]
  clear hW0
  refine jp ?_
  refine jn (.pointer (some ⟨w.heap.size, 0, none⟩)) ?_
  refine jf (.slice A n c) hB0 0 load_pts ?_
  refine jv (.int .i64 (n : Int)) (exec_lenv Tryz.underlying46 _ (by rfl) A n c (by rfl) _ rfl) ?_
  refine jv (.bool false) (exec_gtr _ _ _ _ (by rfl) .i64 (n : Int) 20 (by rfl) (by rfl) false (decide_eq_false (by omega))) ?_
  refine jz fun X1 hX1 => ?_
  have hB0 := hB0.bel hX1
  have hb := bel_next hb hX1
  clear hX1
  go_upto_region 3 with (fail)
  refine jp ?_
  refine jm (.int .i64 0) ?_
  refine jz fun X2 hX2 => ?_
  have hB0 := hB0.bel hX2
  have hb := bel_next hb hX2
  clear hX2
  go_wp2
  go_loopw [5] (fun kv wr => ∃ k : Nat, k ≤ n ∧ kv = .int .i64 (k : Int) ∧ Hid (∀ j, j < k → tz (pt l j).2.2.1 (pt l j).2.2.2 m) ∧ Blk wr w.heap.size 48 [.slice A n c] ∧ Below w.heap.size w wr) (fun kv _ => n - (intOf kv).toNat)
  case atStart => exact ⟨0, by omega, rfl, (fun j hj => by omega), hB0, hb⟩
  case round =>
    clear hB0 hb
    obtain ⟨k, hk, rfl, HZ, hB0, hb⟩ := hrel
    rcases Nat.lt_or_ge k n with hlt | hlt
    · obtain ⟨b, off, rfl, hbb, hcx⟩ := (HRX.out _ hb).ptAt HLN.out hlt
      obtain ⟨x, hx9⟩ : ∃ x, x = pt l k := ⟨_, rfl⟩
      have HX := Lib.hid hx9
      clear hx9
      rw [← HX.out] at hcx
      go_upto_region 4 with (fail)
      refine jp ?_
      refine jm (.int .i64 (k : Int)) ?_
      refine jn (.pointer (some ⟨w.heap.size, 0, none⟩)) ?_
      refine jf (.slice (some ⟨b, off, none⟩) n c) hB0 0 load_pts ?_
      refine jv (.int .i64 (n : Int)) (exec_lenv Tryz.underlying46 _ (by rfl) (some ⟨b, off, none⟩) n c (by rfl) _ rfl) ?_
      refine jv (.bool true) (exec_lss _ _ _ _ (by rfl) .i64 (k : Int) (n : Int) (by rfl) (by rfl) true (decide_eq_true (by omega))) ?_
      refine jz fun X1 hX1 => ?_
      have hB0 := hB0.bel hX1
      have hcx := hcx.below hX1 hbb
      replace hbb := Nat.lt_of_lt_of_le hbb (hX1).size
      have hb := bel_next hb hX1
      clear hX1
      by_cases t1 : tz x.2.2.1 x.2.2.2 m
      · have HZ2 : Hid (∀ j, j < k + 1 → tz (pt l j).2.2.1 (pt l j).2.2.2 m) := fun j hj => by
          rcases Nat.lt_or_ge j k with h9 | h9
          · exact HZ.out j h9
          · rw [show j = k by omega, ← HX.out]; exact t1
        go_upto_region 6 with (fail)
        refine jp ?_
        refine jn (.pointer (some ⟨w.heap.size, 0, none⟩)) ?_
        refine jf (.slice (some ⟨b, off, none⟩) n c) hB0 0 load_pts ?_
        refine jm (.int .i64 (k : Int)) ?_
        refine jv (.pointer (some ⟨b, off + k * 4, none⟩)) (exec_ixv Tryz.underlying46 info_pt _ _ (by rfl) b (off) n c k (by omega) (by rfl) (by rfl) (by omega)) ?_
        refine jn (.pointer (some ⟨b, off + k * 4 + 1, none⟩)) ?_
        refine jg (.agg #[.bool x.2.1, st x.2.2.1, st x.2.2.2]) (fun X hX hF => exec_ldc 23 _ (by rfl) b (off + k * 4 + 1) (by rfl) Tryz.underlying23 rfl [.bool x.2.1, .string ⟨x.2.2.1.toArray⟩, .string ⟨x.2.2.2.toArray⟩] X (Cl.part (hcx.below hX hbb) 1 _ (by rfl)) info_rat) ?_
        refine jm (.int .i64 (m : Int)) ?_
        refine jc (.bool true) (fun X hX hF => mo (fewQ x.2.1 x.2.2.1 x.2.2.2 m X) (by rw [few_t t1])) ?_
        refine jm (.bool true) ?_
        refine jz fun X2 hX2 => ?_
        have hB0 := hB0.bel hX2
        have hcx := hcx.below hX2 hbb
        replace hbb := Nat.lt_of_lt_of_le hbb (hX2).size
        have hb := bel_next hb hX2
        clear hX2
        go_upto_region 7 with (fail)
        refine jp ?_
        refine jm (.bool true) ?_
        refine jm (.bool false) ?_
        refine jz fun X3 hX3 => ?_
        have hB0 := hB0.bel hX3
        have hcx := hcx.below hX3 hbb
        replace hbb := Nat.lt_of_lt_of_le hbb (hX3).size
        have hb := bel_next hb hX3
        clear hX3
        go_upto_region 5 with (fail)
        refine jp ?_
        refine jm (.int .i64 (k : Int)) ?_
        refine jv (.int .i64 ((k + 1 : Nat) : Int)) (exec_add _ _ _ _ (by rfl) (k : Int) 1 ((k + 1 : Nat) : Int) (by rfl) (by rfl) (by omega) (by omega) (by omega)) ?_
        refine jm (.int .i64 ((k + 1 : Nat) : Int)) ?_
        refine jz fun X4 hX4 => ?_
        have hB0 := hB0.bel hX4
        have hcx := hcx.below hX4 hbb
        replace hbb := Nat.lt_of_lt_of_le hbb (hX4).size
        have hb := bel_next hb hX4
        clear hX4
        go_wp2
        go_roundw
        case rel => exact ⟨k + 1, by omega, rfl, HZ2, hB0, hb⟩
        case measure => simp [intOf]; omega
      · have HB : Hid (fewB l m = false) := fewB_f (fun h9 => t1 (by rw [HX.out]; exact h9.2 k (by rw [HLN.out]; exact hlt)))
        go_upto_region 6 with (fail)
        refine jp ?_
        refine jn (.pointer (some ⟨w.heap.size, 0, none⟩)) ?_
        refine jf (.slice (some ⟨b, off, none⟩) n c) hB0 0 load_pts ?_
        refine jm (.int .i64 (k : Int)) ?_
        refine jv (.pointer (some ⟨b, off + k * 4, none⟩)) (exec_ixv Tryz.underlying46 info_pt _ _ (by rfl) b (off) n c k (by omega) (by rfl) (by rfl) (by omega)) ?_
        refine jn (.pointer (some ⟨b, off + k * 4 + 1, none⟩)) ?_
        refine jg (.agg #[.bool x.2.1, st x.2.2.1, st x.2.2.2]) (fun X hX hF => exec_ldc 23 _ (by rfl) b (off + k * 4 + 1) (by rfl) Tryz.underlying23 rfl [.bool x.2.1, .string ⟨x.2.2.1.toArray⟩, .string ⟨x.2.2.2.toArray⟩] X (Cl.part (hcx.below hX hbb) 1 _ (by rfl)) info_rat) ?_
        refine jm (.int .i64 (m : Int)) ?_
        refine jc (.bool false) (fun X hX hF => mo (fewQ x.2.1 x.2.2.1 x.2.2.2 m X) (by rw [few_f t1])) ?_
        refine jm (.bool false) ?_
        refine jz fun X2 hX2 => ?_
        have hB0 := hB0.bel hX2
        have hcx := hcx.below hX2 hbb
        replace hbb := Nat.lt_of_lt_of_le hbb (hX2).size
        have hb := bel_next hb hX2
        clear hX2
        go_upto_region 7 with (fail)
        refine jp ?_
        refine jm (.bool false) ?_
        refine jm (.bool true) ?_
        refine jz fun X3 hX3 => ?_
        have hB0 := hB0.bel hX3
        have hcx := hcx.below hX3 hbb
        replace hbb := Nat.lt_of_lt_of_le hbb (hX3).size
        have hb := bel_next hb hX3
        clear hX3
        go_upto_region 8 with (fail)
        refine jp ?_
        refine jm (.bool false) ?_
        refine jz fun X4 hX4 => ?_
        have hB0 := hB0.bel hX4
        have hcx := hcx.below hX4 hbb
        replace hbb := Nat.lt_of_lt_of_le hbb (hX4).size
        have hb := bel_next hb hX4
        clear hX4
        go_wp2
        go_ret
        exact ⟨by rw [HB.out]; rfl, hb⟩
    · obtain rfl : k = n := by omega
      have HB : Hid (fewB l m = true) := fewB_t (by omega) (fun j hj => HZ.out j (by omega))
      go_upto_region 4 with (fail)
      refine jp ?_
      refine jm (.int .i64 (k : Int)) ?_
      refine jn (.pointer (some ⟨w.heap.size, 0, none⟩)) ?_
      refine jf (.slice A k c) hB0 0 load_pts ?_
      refine jv (.int .i64 (k : Int)) (exec_lenv Tryz.underlying46 _ (by rfl) A k c (by rfl) _ rfl) ?_
      refine jv (.bool false) (exec_lss _ _ _ _ (by rfl) .i64 (k : Int) (k : Int) (by rfl) (by rfl) false (decide_eq_false (by omega))) ?_
      refine jz fun X1 hX1 => ?_
      have hB0 := hB0.bel hX1
      have hb := bel_next hb hX1
      clear hX1
      go_upto_region 9 with (fail)
      refine jp ?_
      refine jm (.bool true) ?_
      refine jz fun X2 hX2 => ?_
      have hB0 := hB0.bel hX2
      have hb := bel_next hb hX2
      clear hX2
      go_wp2
      go_ret
      exact ⟨by rw [HB.out]; rfl, hb⟩
theorem few13C (A : Option Addr) (n c : Nat) (l : List Pt) (m : Nat) (w : World) (hr : Rd w 4 (.slice A n c) n (fl ptc l)) (hln : l.length = n) (hn1 : n ≤ 9223372036854775807) : Calls Tryz.prog 81 #[.agg #[.slice A n c], .int .i64 (m : Int)] w fun e w' => e = .returned (.bool (fewB l m)) ∧ Since w w' := by
  rcases Nat.lt_or_ge 20 n with h | h
  · exact few130 A n c l m w hr hln hn1 h
  · exact few131 A n c l m w hr hln hn1 h
theorem few13L (A : Option Addr) (n c : Nat) (l : List Pt) (w : World) (hr : Rd w 4 (.slice A n c) n (fl ptc l)) (hln : l.length = n) (hn1 : n ≤ 9223372036854775807) : Calls Tryz.prog 34 #[.agg #[.slice A n c]] w fun e w' => e = .returned (.bool (fewB l 8)) ∧ Since w w' := by
  have HRX : Hid (∀ X, Since w X → Rd X 4 (.slice A n c) n (fl ptc l)) := fun X h => hr.below h
  clear hr
  go_enter Tryz.func34, Tryz.ntmps34
  go_upto_region 1 with (fail)
  obtain ⟨W0, hW0, hB0, hb⟩ := start1 w 48 [.slice A n c]
  rw [← hW0]
  clear hW0
  refine jp ?_
  refine ja hB0 Tryz.underlying48 (by rfl) info_cv ?_
  refine jc (.bool (fewB l 8)) (fun X hX hF => few13C A n c l 8 X (HRX.out X (hb.trans (Below.mono hX hb.size))) hln hn1) ?_
  refine jm (.bool (fewB l 8)) ?_
  refine jz fun X1 hX1 => ?_
  have hB0 := hB0.bel hX1
  have hb := bel_next hb hX1
  clear hX1
  go_wp2
  go_ret
  exact ⟨rfl, hb⟩
end Go.Proofs.YtchhlgcakjjncaaGreatDoor

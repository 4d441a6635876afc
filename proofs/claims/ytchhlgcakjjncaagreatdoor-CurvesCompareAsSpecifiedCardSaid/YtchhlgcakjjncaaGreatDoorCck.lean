/-
  curve: onCurve, positive, Check.
-/
import Derived.Test.YtchhlgcakjjncaaGreatDoorCw
set_option linter.unusedSimpArgs false
set_option linter.unusedVariables false
set_option maxRecDepth 100000
set_option maxHeartbeats 1600000
namespace Go.Proofs.YtchhlgcakjjncaaGreatDoor
open Go.RowKit
def onB (n : Int) : Bool := decide (-1000 ≤ n ∧ n ≤ 2000)
theorem on0 (n : Int) (w : World) (h : n < -1000) : Calls Tryz.prog 88 #[.int .i64 n] w fun e w' => e = .returned (.bool (onB n)) ∧ Since w w' := by
  have HI : Hid (onB n = false) := by unfold onB; exact decide_eq_false (by omega)
  go_enter Tryz.func88, Tryz.ntmps88
  go_upto_region 1 with (fail)
  refine jp ?_
  refine jm (.int .i64 n) ?_
  refine jv (.bool false) (exec_geq _ _ _ _ (by rfl) .i64 n (-1000) (by rfl) (by rfl) false (decide_eq_false (by omega))) ?_
  refine jm (.bool false) ?_
  refine js ?_
  refine js ?_
  refine jm (.bool false) ?_
  refine jm (.bool false) ?_
  refine jz fun X1 hX1 => ?_
  have hb : Below w.heap.size w X1 := hX1
  clear hX1
  go_wp2
  go_ret
  exact ⟨by rw [HI.out]; rfl, hb⟩
theorem on1 (n : Int) (w : World) (h : 2000 < n) : Calls Tryz.prog 88 #[.int .i64 n] w fun e w' => e = .returned (.bool (onB n)) ∧ Since w w' := by
  have HI : Hid (onB n = false) := by unfold onB; exact decide_eq_false (by omega)
  go_enter Tryz.func88, Tryz.ntmps88
  go_upto_region 1 with (fail)
  refine jp ?_
  refine jm (.int .i64 n) ?_
  refine jv (.bool true) (exec_geq _ _ _ _ (by rfl) .i64 n (-1000) (by rfl) (by rfl) true (decide_eq_true (by omega))) ?_
  refine jm (.bool true) ?_
  refine jm (.int .i64 n) ?_
  refine jv (.bool false) (exec_leq _ _ _ _ (by rfl) .i64 n 2000 (by rfl) (by rfl) false (decide_eq_false (by omega))) ?_
  refine jm (.bool false) ?_
  refine jm (.bool false) ?_
  refine jz fun X1 hX1 => ?_
  have hb : Below w.heap.size w X1 := hX1
  clear hX1
  go_wp2
  go_ret
  exact ⟨by rw [HI.out]; rfl, hb⟩
theorem on2 (n : Int) (w : World) (h1 : -1000 ≤ n) (h2 : n ≤ 2000) : Calls Tryz.prog 88 #[.int .i64 n] w fun e w' => e = .returned (.bool (onB n)) ∧ Since w w' := by
  have HI : Hid (onB n = true) := by unfold onB; exact decide_eq_true (by omega)
  go_enter Tryz.func88, Tryz.ntmps88
  go_upto_region 1 with (fail)
  refine jp ?_
  refine jm (.int .i64 n) ?_
  refine jv (.bool true) (exec_geq _ _ _ _ (by rfl) .i64 n (-1000) (by rfl) (by rfl) true (decide_eq_true (by omega))) ?_
  refine jm (.bool true) ?_
  refine jm (.int .i64 n) ?_
  refine jv (.bool true) (exec_leq _ _ _ _ (by rfl) .i64 n 2000 (by rfl) (by rfl) true (decide_eq_true (by omega))) ?_
  refine jm (.bool true) ?_
  refine jm (.bool true) ?_
  refine jz fun X1 hX1 => ?_
  have hb : Below w.heap.size w X1 := hX1
  clear hX1
  go_wp2
  go_ret
  exact ⟨by rw [HI.out]; rfl, hb⟩
theorem onC (n : Int) (w : World) : Calls Tryz.prog 88 #[.int .i64 n] w fun e w' => e = .returned (.bool (onB n)) ∧ Since w w' := by
  by_cases h1 : n < -1000
  · exact on0 n w h1
  · by_cases h2 : 2000 < n
    · exact on1 n w h2
    · exact on2 n w (by omega) (by omega)
theorem pos_false_None (n : Bool) (p q : List UInt8) (w : World) (h : tz p q 1000000) (HV : Hid (vd n p q = false)) (HP : Hid (posB (n, p, q) = false)) : Calls Tryz.prog 89 #[.agg #[.bool n, .string ⟨p.toArray⟩, .string ⟨q.toArray⟩]] w fun e w' => e = .returned (.bool (posB (n, p, q))) ∧ Since w w' := by
  go_enter Tryz.func89, Tryz.ntmps89
  go_upto_region 1 with (fail)
  obtain ⟨W0, hW0, hB0, hb⟩ := start1 w 23 [.bool n, .string ⟨p.toArray⟩, .string ⟨q.toArray⟩]
  rw [← hW0]
  clear hW0
  refine jp ?_
  refine ja hB0 Tryz.underlying23 (by rfl) info_rat ?_
  refine jc (.bool false) (fun X hX hF => mo (validG n p q X h) (by rw [HV.out])) ?_
  refine jm (.bool false) ?_
  refine js ?_
  refine js ?_
  refine js ?_
  refine jm (.bool false) ?_
  refine jm (.bool false) ?_
  refine jz fun X1 hX1 => ?_
  have hB0 := hB0.bel hX1
  have hb := bel_next hb hX1
  clear hX1
  go_wp2
  go_ret
  exact ⟨by rw [HP.out]; rfl, hb⟩
theorem pos_true_true (p q : List UInt8) (w : World) (h : tz p q 1000000) (HV : Hid (vd true p q = true)) (HP : Hid (posB (true, p, q) = false)) : Calls Tryz.prog 89 #[.agg #[.bool true, .string ⟨p.toArray⟩, .string ⟨q.toArray⟩]] w fun e w' => e = .returned (.bool (posB (true, p, q))) ∧ Since w w' := by
  go_enter Tryz.func89, Tryz.ntmps89
  go_upto_region 1 with (fail)
  obtain ⟨W0, hW0, hB0, hb⟩ := start1 w 23 [.bool true, .string ⟨p.toArray⟩, .string ⟨q.toArray⟩]
  rw [← hW0]
  clear hW0
  refine jp ?_
  refine ja hB0 Tryz.underlying23 (by rfl) info_rat ?_
  refine jc (.bool true) (fun X hX hF => mo (validG true p q X h) (by rw [HV.out])) ?_
  refine jm (.bool true) ?_
  refine jn (.pointer (some ⟨w.heap.size, 0, none⟩)) ?_
  refine jf (.bool true) hB0 0 load_bool ?_
  refine jm (.bool false) ?_
  refine jm (.bool false) ?_
  refine jm (.bool false) ?_
  refine jz fun X1 hX1 => ?_
  have hB0 := hB0.bel hX1
  have hb := bel_next hb hX1
  clear hX1
  go_wp2
  go_ret
  exact ⟨by rw [HP.out]; rfl, hb⟩
theorem pos_true_false (p q : List UInt8) (w : World) (h : tz p q 1000000) (HV : Hid (vd false p q = true)) (HP : Hid (posB (false, p, q) = true)) : Calls Tryz.prog 89 #[.agg #[.bool false, .string ⟨p.toArray⟩, .string ⟨q.toArray⟩]] w fun e w' => e = .returned (.bool (posB (false, p, q))) ∧ Since w w' := by
  go_enter Tryz.func89, Tryz.ntmps89
  go_upto_region 1 with (fail)
  obtain ⟨W0, hW0, hB0, hb⟩ := start1 w 23 [.bool false, .string ⟨p.toArray⟩, .string ⟨q.toArray⟩]
  rw [← hW0]
  clear hW0
  refine jp ?_
  refine ja hB0 Tryz.underlying23 (by rfl) info_rat ?_
  refine jc (.bool true) (fun X hX hF => mo (validG false p q X h) (by rw [HV.out])) ?_
  refine jm (.bool true) ?_
  refine jn (.pointer (some ⟨w.heap.size, 0, none⟩)) ?_
  refine jf (.bool false) hB0 0 load_bool ?_
  refine jm (.bool true) ?_
  refine jm (.bool true) ?_
  refine jm (.bool true) ?_
  refine jz fun X1 hX1 => ?_
  have hB0 := hB0.bel hX1
  have hb := bel_next hb hX1
  clear hX1
  go_wp2
  go_ret
  exact ⟨by rw [HP.out]; rfl, hb⟩
theorem posC (n : Bool) (p q : List UInt8) (w : World) (h : tz p q 1000000) : Calls Tryz.prog 89 #[.agg #[.bool n, .string ⟨p.toArray⟩, .string ⟨q.toArray⟩]] w fun e w' => e = .returned (.bool (posB (n, p, q))) ∧ Since w w' := by
  rcases hv : vd n p q with _ | _
  · exact pos_false_None n p q w h hv (by show _ = _; unfold posB; rw [hv]; rfl)
  · rcases n with _ | _
    · exact pos_true_false p q w h hv (by show _ = _; unfold posB; rw [hv]; rfl)
    · exact pos_true_true p q w h hv (by show _ = _; unfold posB; rw [hv]; rfl)
theorem check0 (A : Option Addr) (n c : Nat) (l : List Pt) (w : World) (hr : Rd w 4 (.slice A n c) n (fl ptc l)) (hln : l.length = n) (hn1 : n ≤ 9223372036854775807) (h : n < 1) : Calls Tryz.prog 38 #[.agg #[.slice A n c]] w fun e w' => e = .returned (.int .i64 (ck l)) ∧ Since w w' := by
  have HC : Hid (ck l = 2) := by show _ = _; unfold ck; exact if_pos (by omega)
  go_enter Tryz.func38, Tryz.ntmps38
  go_upto_region 1 with (fail)
  obtain ⟨W0, hW0, hB0, hb⟩ := start1 w 48 [.slice A n c]
  rw [← hW0]
  clear hW0
  refine jp ?_
  refine jn (.pointer (some ⟨w.heap.size, 0, none⟩)) ?_
  refine jf (.slice A n c) hB0 0 load_pts ?_
  refine jv (.int .i64 (n : Int)) (exec_lenv Tryz.underlying46 _ (by rfl) A n c (by rfl) _ rfl) ?_
  refine jm (.int .i64 (n : Int)) ?_
  refine jz fun X1 hX1 => ?_
  have hB0 := hB0.bel hX1
  have hb := bel_next hb hX1
  clear hX1
  go_upto_region 2 with (fail)
  refine jp ?_
  refine jm (.int .i64 (n : Int)) ?_
  refine jv (.bool true) (exec_lss _ _ _ _ (by rfl) .i64 (n : Int) 1 (by rfl) (by rfl) true (decide_eq_true (by omega))) ?_
  refine jm (.bool true) ?_
  refine js ?_
  refine js ?_
  refine jm (.bool true) ?_
  refine jz fun X2 hX2 => ?_
  have hB0 := hB0.bel hX2
  have hb := bel_next hb hX2
  clear hX2
  go_upto_region 3 with (fail)
  refine jp ?_
  refine jm (.int .i64 2) ?_
  refine jz fun X3 hX3 => ?_
  have hB0 := hB0.bel hX3
  have hb := bel_next hb hX3
  clear hX3
  go_wp2
  go_ret
  exact ⟨by rw [HC.out]; rfl, hb⟩
theorem check1 (A : Option Addr) (n c : Nat) (l : List Pt) (w : World) (hr : Rd w 4 (.slice A n c) n (fl ptc l)) (hln : l.length = n) (hn1 : n ≤ 9223372036854775807) (h : 16 < n) : Calls Tryz.prog 38 #[.agg #[.slice A n c]] w fun e w' => e = .returned (.int .i64 (ck l)) ∧ Since w w' := by
  have HC : Hid (ck l = 2) := by show _ = _; unfold ck; exact if_pos (by omega)
  go_enter Tryz.func38, Tryz.ntmps38
  go_upto_region 1 with (fail)
  obtain ⟨W0, hW0, hB0, hb⟩ := start1 w 48 [.slice A n c]
  rw [← hW0]
  clear hW0
  refine jp ?_
  refine jn (.pointer (some ⟨w.heap.size, 0, none⟩)) ?_
  refine jf (.slice A n c) hB0 0 load_pts ?_
  refine jv (.int .i64 (n : Int)) (exec_lenv Tryz.underlying46 _ (by rfl) A n c (by rfl) _ rfl) ?_
  refine jm (.int .i64 (n : Int)) ?_
  refine jz fun X1 hX1 => ?_
  have hB0 := hB0.bel hX1
  have hb := bel_next hb hX1
  clear hX1
  go_upto_region 2 with (fail)
  refine jp ?_
  refine jm (.int .i64 (n : Int)) ?_
  refine jv (.bool false) (exec_lss _ _ _ _ (by rfl) .i64 (n : Int) 1 (by rfl) (by rfl) false (decide_eq_false (by omega))) ?_
  refine jm (.bool false) ?_
  refine jm (.int .i64 (n : Int)) ?_
  refine jv (.bool true) (exec_gtr _ _ _ _ (by rfl) .i64 (n : Int) 16 (by rfl) (by rfl) true (decide_eq_true (by omega))) ?_
  refine jm (.bool true) ?_
  refine jz fun X2 hX2 => ?_
  have hB0 := hB0.bel hX2
  have hb := bel_next hb hX2
  clear hX2
  go_upto_region 3 with (fail)
  refine jp ?_
  refine jm (.int .i64 2) ?_
  refine jz fun X3 hX3 => ?_
  have hB0 := hB0.bel hX3
  have hb := bel_next hb hX3
  clear hX3
  go_wp2
  go_ret
  exact ⟨by rw [HC.out]; rfl, hb⟩
theorem checkM (A : Option Addr) (n c : Nat) (l : List Pt) (w : World) (hr : Rd w 4 (.slice A n c) n (fl ptc l)) (hln : l.length = n) (hn1 : n ≤ 9223372036854775807) (hq1 : 1 ≤ n) (hq2 : n ≤ 16) (HF : Hid (fewP l 1000000)) : Calls Tryz.prog 38 #[.agg #[.slice A n c]] w fun e w' => e = .returned (.int .i64 (ck l)) ∧ Since w w' := by
  have HRX : Hid (∀ X, Since w X → Rd X 4 (.slice A n c) n (fl ptc l)) := fun X h => hr.below h
  have HLN := Lib.hid hln
  clear hr
  go_enter Tryz.func38, Tryz.ntmps38
  go_upto_region 1 with (fail)
  obtain ⟨W0, hW0, hB0, hb⟩ := start1 w 48 [.slice A n c]
  rw [← hW0]
  clear hW0
  refine jp ?_
  refine jn (.pointer (some ⟨w.heap.size, 0, none⟩)) ?_
  refine jf (.slice A n c) hB0 0 load_pts ?_
  refine jv (.int .i64 (n : Int)) (exec_lenv Tryz.underlying46 _ (by rfl) A n c (by rfl) _ rfl) ?_
  refine jm (.int .i64 (n : Int)) ?_
  refine jz fun X1 hX1 => ?_
  have hB0 := hB0.bel hX1
  have hb := bel_next hb hX1
  clear hX1
  go_upto_region 2 with (fail)
  refine jp ?_
  refine jm (.int .i64 (n : Int)) ?_
  refine jv (.bool false) (exec_lss _ _ _ _ (by rfl) .i64 (n : Int) 1 (by rfl) (by rfl) false (decide_eq_false (by omega))) ?_
  refine jm (.bool false) ?_
  refine jm (.int .i64 (n : Int)) ?_
  refine jv (.bool false) (exec_gtr _ _ _ _ (by rfl) .i64 (n : Int) 16 (by rfl) (by rfl) false (decide_eq_false (by omega))) ?_
  refine jm (.bool false) ?_
  refine jz fun X2 hX2 => ?_
  have hB0 := hB0.bel hX2
  have hb := bel_next hb hX2
  clear hX2
  go_upto_region 4 with (fail)
  refine jp ?_
  refine jn (.pointer (some ⟨w.heap.size, 0, none⟩)) ?_
  refine jf (.slice A n c) hB0 0 load_pts ?_
  refine jv (.int .i64 (n : Int)) (exec_lenv Tryz.underlying46 _ (by rfl) A n c (by rfl) _ rfl) ?_
  refine jm (.int .i64 0) ?_
  refine jz fun X3 hX3 => ?_
  have hB0 := hB0.bel hX3
  have hb := bel_next hb hX3
  clear hX3
  go_wp2
  go_loopw [18] (fun kv wr => ∃ k : Nat, k ≤ n ∧ kv = .int .i64 (k : Int) ∧ Hid (∀ j, j < k → pe l j = 0) ∧ Blk wr w.heap.size 48 [.slice A n c] ∧ Below w.heap.size w wr) (fun kv _ => n - (intOf kv).toNat)
  case atStart => exact ⟨0, by omega, rfl, (fun j hj => by omega), hB0, hb⟩
  case round =>
    clear hB0 hb
    obtain ⟨k, hk, rfl, HZ, hB0, hb⟩ := hrel
    rcases Nat.lt_or_ge k n with hlt | hlt
    · obtain ⟨b, off, rfl, hbb, hcx⟩ := (HRX.out _ hb).ptAt HLN.out hlt
      obtain ⟨x, hx9⟩ : ∃ x, x = pt l k := ⟨_, rfl⟩
      have HX := Lib.hid hx9
      clear hx9
      rw [← HX.out] at hcx
      have ht := HF.out k (by rw [HLN.out]; exact hlt)
      rw [← HX.out] at ht
      go_upto_region 5 with (fail)
      refine jp ?_
      refine jv (.bool true) (exec_lss _ _ _ _ (by rfl) .i64 (k : Int) (n : Int) (by rfl) (by rfl) true (decide_eq_true (by omega))) ?_
      refine jz fun X1 hX1 => ?_
      have hB0 := hB0.bel hX1
      have hcx := hcx.below hX1 hbb
      replace hbb := Nat.lt_of_lt_of_le hbb (hX1).size
      have hb := bel_next hb hX1
      clear hX1
      go_upto_region 6 with (fail)
      refine jq 3 ?_
      refine jm (.int .i64 (k : Int)) ?_
      refine jv (.pointer (some ⟨b, off + k * 4, none⟩)) (exec_ixv Tryz.underlying46 info_pt _ _ (by rfl) b (off) n c k (by omega) (by rfl) (by rfl) (by omega)) ?_
      refine jg (.agg #[.int .i64 x.1, .bool x.2.1, st x.2.2.1, st x.2.2.2]) (fun X hX hF => exec_ldc 110 _ (by rfl) b (off + k * 4) (by rfl) Tryz.underlying110 rfl [.int .i64 x.1, .bool x.2.1, .string ⟨x.2.2.1.toArray⟩, .string ⟨x.2.2.2.toArray⟩] X (Cl.part (hcx.below hX hbb) 0 _ (by rfl)) info_pt) ?_
      refine jz fun X2 hX2 => ?_
      have hB0 := hB0.bel hX2
      have hcx := hcx.below hX2 hbb
      replace hbb := Nat.lt_of_lt_of_le hbb (hX2).size
      have hb := bel_next hb hX2
      clear hX2
      go_upto_region 7 with (refine osn 110 5 22 #[.int .i64 x.1, .bool x.2.1, .string ⟨x.2.2.1.toArray⟩, .string ⟨x.2.2.2.toArray⟩] info_pt ?_)
      obtain ⟨Y2, hY9, hD5, hS9⟩ := start1 X2 110 [.int .i64 x.1, .bool x.2.1, .string ⟨x.2.2.1.toArray⟩, .string ⟨x.2.2.2.toArray⟩]
      rw [← hY9]
      clear hY9
      have hgs5 := hb.size
      have hlt5x0 := hB0.lt
      have hcx := hcx.below hS9 hbb
      replace hbb := Nat.lt_of_lt_of_le hbb (hS9).size
      have hB0 := hB0.bel hS9
      have hb := bel_next hb hS9
      clear hS9
      generalize X2.heap.size = g5 at *
      by_cases hon : x.1 < -1000 ∨ 2000 < x.1
      · have HO : Hid (onB x.1 = false) := by unfold onB; exact decide_eq_false (by omega)
        refine jp ?_
        refine jn (.pointer (some ⟨g5, 0, none⟩)) ?_
        refine jf (.int .i64 x.1) hD5 0 load_int ?_
        refine jc (.bool false) (fun X hX hF => mo (onC x.1 X) (by rw [HO.out])) ?_
        refine jm (.bool true) ?_
        refine jm (.bool true) ?_
        refine jz fun X3 hX3 => ?_
        have hB0 := hB0.bel hX3
        have hD5 := hD5.bel hX3
        have hcx := hcx.below hX3 hbb
        replace hbb := Nat.lt_of_lt_of_le hbb (hX3).size
        have hb := bel_next hb hX3
        clear hX3
        go_upto_region 8 with (fail)
        refine jp ?_
        refine jm (.int .i64 3) ?_
        refine jz fun X4 hX4 => ?_
        have hB0 := hB0.bel hX4
        have hD5 := hD5.bel hX4
        have hcx := hcx.below hX4 hbb
        replace hbb := Nat.lt_of_lt_of_le hbb (hX4).size
        have hb := bel_next hb hX4
        clear hX4
        go_wp2
        go_ret
        exact ⟨by rw [ck_bad (by omega) (by omega) HZ.out (show pe l k = _ by unfold pe; rw [← HX.out, if_pos hon]) (by decide) (by omega)]; rfl, hb⟩
      · have HO : Hid (onB x.1 = true) := by unfold onB; exact decide_eq_true (by omega)
        refine jp ?_
        refine jn (.pointer (some ⟨g5, 0, none⟩)) ?_
        refine jf (.int .i64 x.1) hD5 0 load_int ?_
        refine jc (.bool true) (fun X hX hF => mo (onC x.1 X) (by rw [HO.out])) ?_
        refine jm (.bool false) ?_
        refine jm (.bool false) ?_
        refine jz fun X3 hX3 => ?_
        have hB0 := hB0.bel hX3
        have hD5 := hD5.bel hX3
        have hcx := hcx.below hX3 hbb
        replace hbb := Nat.lt_of_lt_of_le hbb (hX3).size
        have hb := bel_next hb hX3
        clear hX3
        rcases hpo : posB (x.2.1, x.2.2.1, x.2.2.2) with _ | _
        · have HP : Hid (posB (x.2.1, x.2.2.1, x.2.2.2) = false) := hpo
          clear hpo
          go_upto_region 9 with (fail)
          refine jp ?_
          refine jn (.pointer (some ⟨g5, 1, none⟩)) ?_
          refine jg (.agg #[.bool x.2.1, st x.2.2.1, st x.2.2.2]) (fun X hX hF => exec_inr 23 _ (by rfl) g5 1 [.bool x.2.1, .string ⟨x.2.2.1.toArray⟩, .string ⟨x.2.2.2.toArray⟩] (by rfl) Tryz.underlying23 rfl X (hD5.bel hX) (by rfl) info_rat) ?_
          refine jc (.bool false) (fun X hX hF => mo (posC x.2.1 x.2.2.1 x.2.2.2 X ht) (by rw [HP.out])) ?_
          refine jm (.bool true) ?_
          refine jm (.bool true) ?_
          refine jz fun X4 hX4 => ?_
          have hB0 := hB0.bel hX4
          have hD5 := hD5.bel hX4
          have hcx := hcx.below hX4 hbb
          replace hbb := Nat.lt_of_lt_of_le hbb (hX4).size
          have hb := bel_next hb hX4
          clear hX4
          go_upto_region 10 with (fail)
          refine jp ?_
          refine jm (.int .i64 1) ?_
          refine jz fun X5 hX5 => ?_
          have hB0 := hB0.bel hX5
          have hD5 := hD5.bel hX5
          have hcx := hcx.below hX5 hbb
          replace hbb := Nat.lt_of_lt_of_le hbb (hX5).size
          have hb := bel_next hb hX5
          clear hX5
          go_wp2
          go_ret
          exact ⟨by rw [ck_bad (by omega) (by omega) HZ.out (show pe l k = _ by unfold pe; rw [← HX.out, if_neg hon, if_pos HP.out]) (by decide) (by omega)]; rfl, hb⟩
        · have HP : Hid (posB (x.2.1, x.2.2.1, x.2.2.2) = true) := hpo
          clear hpo
          go_upto_region 9 with (fail)
          refine jp ?_
          refine jn (.pointer (some ⟨g5, 1, none⟩)) ?_
          refine jg (.agg #[.bool x.2.1, st x.2.2.1, st x.2.2.2]) (fun X hX hF => exec_inr 23 _ (by rfl) g5 1 [.bool x.2.1, .string ⟨x.2.2.1.toArray⟩, .string ⟨x.2.2.2.toArray⟩] (by rfl) Tryz.underlying23 rfl X (hD5.bel hX) (by rfl) info_rat) ?_
          refine jc (.bool true) (fun X hX hF => mo (posC x.2.1 x.2.2.1 x.2.2.2 X ht) (by rw [HP.out])) ?_
          refine jm (.bool false) ?_
          refine jm (.bool false) ?_
          refine jz fun X4 hX4 => ?_
          have hB0 := hB0.bel hX4
          have hD5 := hD5.bel hX4
          have hcx := hcx.below hX4 hbb
          replace hbb := Nat.lt_of_lt_of_le hbb (hX4).size
          have hb := bel_next hb hX4
          clear hX4
          rcases Nat.eq_zero_or_pos k with hk0 | hk0
          · have HZ2 : Hid (∀ j, j < k + 1 → pe l j = 0) := fun j hj => by
              rcases Nat.lt_or_ge j k with h9 | h9
              · exact HZ.out j h9
              · rw [show j = k by omega]; show pe l k = _; unfold pe; rw [← HX.out, if_neg hon, if_neg (by rw [HP.out]; decide), if_neg (by omega)]
            go_upto_region 11 with (fail)
            refine jd ?_
            refine jm (.int .i64 (k : Int)) ?_
            refine jv (.bool false) (exec_gtr _ _ _ _ (by rfl) .i64 (k : Int) 0 (by rfl) (by rfl) false (decide_eq_false (by omega))) ?_
            refine jm (.bool false) ?_
            refine js ?_
            refine js ?_
            refine js ?_
            refine js ?_
            refine js ?_
            refine js ?_
            refine js ?_
            refine js ?_
            refine js ?_
            refine js ?_
            refine js ?_
            refine js ?_
            refine js ?_
            refine js ?_
            refine js ?_
            refine js ?_
            refine js ?_
            refine js ?_
            refine js ?_
            refine js ?_
            refine js ?_
            refine js ?_
            refine js ?_
            refine jm (.bool false) ?_
            refine jm (.bool false) ?_
            refine jz fun X5 hX5 => ?_
            have hB0 := hB0.bel hX5
            have hD5 := hD5.bel hX5
            have hcx := hcx.below hX5 hbb
            replace hbb := Nat.lt_of_lt_of_le hbb (hX5).size
            have hb := bel_next hb hX5
            clear hX5
            go_upto_region 13 with (fail)
            refine jp ?_
            refine jv (.int .i64 ((k + 1 : Nat) : Int)) (exec_add _ _ _ _ (by rfl) (k : Int) 1 ((k + 1 : Nat) : Int) (by rfl) (by rfl) (by omega) (by omega) (by omega)) ?_
            refine jm (.int .i64 ((k + 1 : Nat) : Int)) ?_
            refine jz fun X6 hX6 => ?_
            have hB0 := hB0.bel hX6
            have hD5 := hD5.bel hX6
            have hcx := hcx.below hX6 hbb
            replace hbb := Nat.lt_of_lt_of_le hbb (hX6).size
            have hb := bel_next hb hX6
            clear hX6
            go_wp2
            go_roundw
            case rel => exact ⟨k + 1, by omega, rfl, HZ2, hB0, hb⟩
            case measure => simp [intOf]; omega
          · obtain ⟨b2, off2, he, hbb2, hcy⟩ := (HRX.out _ hb).ptAt HLN.out (show k - 1 < n by omega)
            injection he with he
            injection he with he1 he2
            subst he1 he2
            clear hbb2
            obtain ⟨y, hy9⟩ : ∃ y, y = pt l (k - 1) := ⟨_, rfl⟩
            have HY := Lib.hid hy9
            clear hy9
            rw [← HY.out] at hcy
            have hty := HF.out (k - 1) (by rw [HLN.out]; omega)
            rw [← HY.out] at hty
            rcases Int.lt_or_le y.1 x.1 with hst | hst
            · rcases Int.lt_or_le (cmpR (trq x.2) (trq y.2)) 0 with hcm | hcm
              · go_upto_region 11 with (fail)
                refine jd ?_
                refine jm (.int .i64 (k : Int)) ?_
                refine jv (.bool true) (exec_gtr _ _ _ _ (by rfl) .i64 (k : Int) 0 (by rfl) (by rfl) true (decide_eq_true (by omega))) ?_
                refine jm (.bool true) ?_
                refine jn (.pointer (some ⟨g5, 0, none⟩)) ?_
                refine jf (.int .i64 x.1) hD5 0 load_int ?_
                refine jn (.pointer (some ⟨w.heap.size, 0, none⟩)) ?_
                refine jf (.slice (some ⟨b, off, none⟩) n c) hB0 0 load_pts ?_
                refine jm (.int .i64 (k : Int)) ?_
                refine jv (.int .i64 ((k - 1 : Nat) : Int)) (exec_sub _ _ _ _ (by rfl) (k : Int) 1 ((k - 1 : Nat) : Int) (by rfl) (by rfl) (by omega) (by omega) (by omega)) ?_
                refine jv (.pointer (some ⟨b, off + (k - 1) * 4, none⟩)) (exec_ixv Tryz.underlying46 info_pt _ _ (by rfl) b (off) n c (k - 1) (by omega) (by rfl) (by rfl) rfl) ?_
                refine jn (.pointer (some ⟨b, off + (k - 1) * 4, none⟩)) ?_
                refine jg (.int .i64 y.1) (fun X hX hF => exec_ld 3 _ (by rfl) b (off + (k - 1) * 4) (by rfl) _ X ((hcy.below hX hbb) 0 _ rfl) (fun X u h => load_int b (off + (k - 1) * 4) X u h)) ?_
                refine jv (.bool false) (exec_leq _ _ _ _ (by rfl) .i64 x.1 y.1 (by rfl) (by rfl) false (decide_eq_false (by omega))) ?_
                refine jm (.bool false) ?_
                refine jn (.pointer (some ⟨g5, 1, none⟩)) ?_
                refine jg (.agg #[.bool x.2.1, st x.2.2.1, st x.2.2.2]) (fun X hX hF => exec_inr 23 _ (by rfl) g5 1 [.bool x.2.1, .string ⟨x.2.2.1.toArray⟩, .string ⟨x.2.2.2.toArray⟩] (by rfl) Tryz.underlying23 rfl X (hD5.bel hX) (by rfl) info_rat) ?_
                refine jn (.pointer (some ⟨w.heap.size, 0, none⟩)) ?_
                refine jf (.slice (some ⟨b, off, none⟩) n c) hB0 0 load_pts ?_
                refine jm (.int .i64 (k : Int)) ?_
                refine jv (.int .i64 ((k - 1 : Nat) : Int)) (exec_sub _ _ _ _ (by rfl) (k : Int) 1 ((k - 1 : Nat) : Int) (by rfl) (by rfl) (by omega) (by omega) (by omega)) ?_
                refine jv (.pointer (some ⟨b, off + (k - 1) * 4, none⟩)) (exec_ixv Tryz.underlying46 info_pt _ _ (by rfl) b (off) n c (k - 1) (by omega) (by rfl) (by rfl) rfl) ?_
                refine jn (.pointer (some ⟨b, off + (k - 1) * 4 + 1, none⟩)) ?_
                refine jg (.agg #[.bool y.2.1, st y.2.2.1, st y.2.2.2]) (fun X hX hF => exec_ldc 23 _ (by rfl) b (off + (k - 1) * 4 + 1) (by rfl) Tryz.underlying23 rfl [.bool y.2.1, .string ⟨y.2.2.1.toArray⟩, .string ⟨y.2.2.2.toArray⟩] X (Cl.part (hcy.below hX hbb) 1 _ (by rfl)) info_rat) ?_
                refine jc (.int .i64 (cmpR (trq x.2) (trq y.2))) (fun X hX hF => rcmpG x.2.1 x.2.2.1 x.2.2.2 y.2.1 y.2.2.1 y.2.2.2 rfl rfl X ht hty) ?_
                refine jv (.bool true) (exec_lss _ _ _ _ (by rfl) .i64 (cmpR (trq x.2) (trq y.2)) 0 (by rfl) (by rfl) true (decide_eq_true (by omega))) ?_
                refine jm (.bool true) ?_
                refine jm (.bool true) ?_
                refine jm (.bool true) ?_
                refine jz fun X5 hX5 => ?_
                have hB0 := hB0.bel hX5
                have hD5 := hD5.bel hX5
                have hcx := hcx.below hX5 hbb
                have hcy := hcy.below hX5 hbb
                replace hbb := Nat.lt_of_lt_of_le hbb (hX5).size
                have hb := bel_next hb hX5
                clear hX5
                go_upto_region 12 with (fail)
                refine jp ?_
                refine jm (.int .i64 1) ?_
                refine jz fun X6 hX6 => ?_
                have hB0 := hB0.bel hX6
                have hD5 := hD5.bel hX6
                have hcx := hcx.below hX6 hbb
                have hcy := hcy.below hX6 hbb
                replace hbb := Nat.lt_of_lt_of_le hbb (hX6).size
                have hb := bel_next hb hX6
                clear hX6
                go_wp2
                go_ret
                exact ⟨by rw [ck_bad (by omega) (by omega) HZ.out (show pe l k = _ by unfold pe; rw [← HX.out, if_neg hon, if_neg (by rw [HP.out]; decide), ← HY.out, if_pos ⟨hk0, .inr hcm⟩]) (by decide) (by omega)]; rfl, hb⟩
              · have HZ2 : Hid (∀ j, j < k + 1 → pe l j = 0) := fun j hj => by
                  rcases Nat.lt_or_ge j k with h9 | h9
                  · exact HZ.out j h9
                  · rw [show j = k by omega]; show pe l k = _; unfold pe; rw [← HX.out, if_neg hon, if_neg (by rw [HP.out]; decide), if_neg (by rw [← HY.out]; omega)]
                go_upto_region 11 with (fail)
                refine jd ?_
                refine jm (.int .i64 (k : Int)) ?_
                refine jv (.bool true) (exec_gtr _ _ _ _ (by rfl) .i64 (k : Int) 0 (by rfl) (by rfl) true (decide_eq_true (by omega))) ?_
                refine jm (.bool true) ?_
                refine jn (.pointer (some ⟨g5, 0, none⟩)) ?_
                refine jf (.int .i64 x.1) hD5 0 load_int ?_
                refine jn (.pointer (some ⟨w.heap.size, 0, none⟩)) ?_
                refine jf (.slice (some ⟨b, off, none⟩) n c) hB0 0 load_pts ?_
                refine jm (.int .i64 (k : Int)) ?_
                refine jv (.int .i64 ((k - 1 : Nat) : Int)) (exec_sub _ _ _ _ (by rfl) (k : Int) 1 ((k - 1 : Nat) : Int) (by rfl) (by rfl) (by omega) (by omega) (by omega)) ?_
                refine jv (.pointer (some ⟨b, off + (k - 1) * 4, none⟩)) (exec_ixv Tryz.underlying46 info_pt _ _ (by rfl) b (off) n c (k - 1) (by omega) (by rfl) (by rfl) rfl) ?_
                refine jn (.pointer (some ⟨b, off + (k - 1) * 4, none⟩)) ?_
                refine jg (.int .i64 y.1) (fun X hX hF => exec_ld 3 _ (by rfl) b (off + (k - 1) * 4) (by rfl) _ X ((hcy.below hX hbb) 0 _ rfl) (fun X u h => load_int b (off + (k - 1) * 4) X u h)) ?_
                refine jv (.bool false) (exec_leq _ _ _ _ (by rfl) .i64 x.1 y.1 (by rfl) (by rfl) false (decide_eq_false (by omega))) ?_
                refine jm (.bool false) ?_
                refine jn (.pointer (some ⟨g5, 1, none⟩)) ?_
                refine jg (.agg #[.bool x.2.1, st x.2.2.1, st x.2.2.2]) (fun X hX hF => exec_inr 23 _ (by rfl) g5 1 [.bool x.2.1, .string ⟨x.2.2.1.toArray⟩, .string ⟨x.2.2.2.toArray⟩] (by rfl) Tryz.underlying23 rfl X (hD5.bel hX) (by rfl) info_rat) ?_
                refine jn (.pointer (some ⟨w.heap.size, 0, none⟩)) ?_
                refine jf (.slice (some ⟨b, off, none⟩) n c) hB0 0 load_pts ?_
                refine jm (.int .i64 (k : Int)) ?_
                refine jv (.int .i64 ((k - 1 : Nat) : Int)) (exec_sub _ _ _ _ (by rfl) (k : Int) 1 ((k - 1 : Nat) : Int) (by rfl) (by rfl) (by omega) (by omega) (by omega)) ?_
                refine jv (.pointer (some ⟨b, off + (k - 1) * 4, none⟩)) (exec_ixv Tryz.underlying46 info_pt _ _ (by rfl) b (off) n c (k - 1) (by omega) (by rfl) (by rfl) rfl) ?_
                refine jn (.pointer (some ⟨b, off + (k - 1) * 4 + 1, none⟩)) ?_
                refine jg (.agg #[.bool y.2.1, st y.2.2.1, st y.2.2.2]) (fun X hX hF => exec_ldc 23 _ (by rfl) b (off + (k - 1) * 4 + 1) (by rfl) Tryz.underlying23 rfl [.bool y.2.1, .string ⟨y.2.2.1.toArray⟩, .string ⟨y.2.2.2.toArray⟩] X (Cl.part (hcy.below hX hbb) 1 _ (by rfl)) info_rat) ?_
                refine jc (.int .i64 (cmpR (trq x.2) (trq y.2))) (fun X hX hF => rcmpG x.2.1 x.2.2.1 x.2.2.2 y.2.1 y.2.2.1 y.2.2.2 rfl rfl X ht hty) ?_
                refine jv (.bool false) (exec_lss _ _ _ _ (by rfl) .i64 (cmpR (trq x.2) (trq y.2)) 0 (by rfl) (by rfl) false (decide_eq_false (by omega))) ?_
                refine jm (.bool false) ?_
                refine jm (.bool false) ?_
                refine jm (.bool false) ?_
                refine jz fun X5 hX5 => ?_
                have hB0 := hB0.bel hX5
                have hD5 := hD5.bel hX5
                have hcx := hcx.below hX5 hbb
                have hcy := hcy.below hX5 hbb
                replace hbb := Nat.lt_of_lt_of_le hbb (hX5).size
                have hb := bel_next hb hX5
                clear hX5
                go_upto_region 13 with (fail)
                refine jp ?_
                refine jv (.int .i64 ((k + 1 : Nat) : Int)) (exec_add _ _ _ _ (by rfl) (k : Int) 1 ((k + 1 : Nat) : Int) (by rfl) (by rfl) (by omega) (by omega) (by omega)) ?_
                refine jm (.int .i64 ((k + 1 : Nat) : Int)) ?_
                refine jz fun X6 hX6 => ?_
                have hB0 := hB0.bel hX6
                have hD5 := hD5.bel hX6
                have hcx := hcx.below hX6 hbb
                have hcy := hcy.below hX6 hbb
                replace hbb := Nat.lt_of_lt_of_le hbb (hX6).size
                have hb := bel_next hb hX6
                clear hX6
                go_wp2
                go_roundw
                case rel => exact ⟨k + 1, by omega, rfl, HZ2, hB0, hb⟩
                case measure => simp [intOf]; omega
            · go_upto_region 11 with (fail)
              refine jd ?_
              refine jm (.int .i64 (k : Int)) ?_
              refine jv (.bool true) (exec_gtr _ _ _ _ (by rfl) .i64 (k : Int) 0 (by rfl) (by rfl) true (decide_eq_true (by omega))) ?_
              refine jm (.bool true) ?_
              refine jn (.pointer (some ⟨g5, 0, none⟩)) ?_
              refine jf (.int .i64 x.1) hD5 0 load_int ?_
              refine jn (.pointer (some ⟨w.heap.size, 0, none⟩)) ?_
              refine jf (.slice (some ⟨b, off, none⟩) n c) hB0 0 load_pts ?_
              refine jm (.int .i64 (k : Int)) ?_
              refine jv (.int .i64 ((k - 1 : Nat) : Int)) (exec_sub _ _ _ _ (by rfl) (k : Int) 1 ((k - 1 : Nat) : Int) (by rfl) (by rfl) (by omega) (by omega) (by omega)) ?_
              refine jv (.pointer (some ⟨b, off + (k - 1) * 4, none⟩)) (exec_ixv Tryz.underlying46 info_pt _ _ (by rfl) b (off) n c (k - 1) (by omega) (by rfl) (by rfl) rfl) ?_
              refine jn (.pointer (some ⟨b, off + (k - 1) * 4, none⟩)) ?_
              refine jg (.int .i64 y.1) (fun X hX hF => exec_ld 3 _ (by rfl) b (off + (k - 1) * 4) (by rfl) _ X ((hcy.below hX hbb) 0 _ rfl) (fun X u h => load_int b (off + (k - 1) * 4) X u h)) ?_
              refine jv (.bool true) (exec_leq _ _ _ _ (by rfl) .i64 x.1 y.1 (by rfl) (by rfl) true (decide_eq_true (by omega))) ?_
              refine jm (.bool true) ?_
              refine js ?_
              refine js ?_
              refine js ?_
              refine js ?_
              refine js ?_
              refine js ?_
              refine js ?_
              refine js ?_
              refine js ?_
              refine js ?_
              refine js ?_
              refine jm (.bool true) ?_
              refine jm (.bool true) ?_
              refine jm (.bool true) ?_
              refine jz fun X5 hX5 => ?_
              have hB0 := hB0.bel hX5
              have hD5 := hD5.bel hX5
              have hcx := hcx.below hX5 hbb
              have hcy := hcy.below hX5 hbb
              replace hbb := Nat.lt_of_lt_of_le hbb (hX5).size
              have hb := bel_next hb hX5
              clear hX5
              go_upto_region 12 with (fail)
              refine jp ?_
              refine jm (.int .i64 1) ?_
              refine jz fun X6 hX6 => ?_
              have hB0 := hB0.bel hX6
              have hD5 := hD5.bel hX6
              have hcx := hcx.below hX6 hbb
              have hcy := hcy.below hX6 hbb
              replace hbb := Nat.lt_of_lt_of_le hbb (hX6).size
              have hb := bel_next hb hX6
              clear hX6
              go_wp2
              go_ret
              exact ⟨by rw [ck_bad (by omega) (by omega) HZ.out (show pe l k = _ by unfold pe; rw [← HX.out, if_neg hon, if_neg (by rw [HP.out]; decide), ← HY.out, if_pos ⟨hk0, .inl hst⟩]) (by decide) (by omega)]; rfl, hb⟩
    · obtain rfl : k = n := by omega
      go_upto_region 5 with (fail)
      refine jp ?_
      refine jv (.bool false) (exec_lss _ _ _ _ (by rfl) .i64 (k : Int) (k : Int) (by rfl) (by rfl) false (decide_eq_false (by omega))) ?_
      refine jz fun X1 hX1 => ?_
      have hB0 := hB0.bel hX1
      have hb := bel_next hb hX1
      clear hX1
      go_upto_region 14 with (fail)
      refine jp ?_
      refine jm (.int .i64 0) ?_
      refine jz fun X2 hX2 => ?_
      have hB0 := hB0.bel hX2
      have hb := bel_next hb hX2
      clear hX2
      go_wp2
      go_ret
      exact ⟨by rw [ck_ok (by omega) (by omega) (fun j hj => HZ.out j (by omega))]; rfl, hb⟩
theorem checkC (A : Option Addr) (n c : Nat) (l : List Pt) (w : World) (hr : Rd w 4 (.slice A n c) n (fl ptc l)) (hln : l.length = n) (hn1 : n ≤ 9223372036854775807) (HF : fewP l 1000000) : Calls Tryz.prog 38 #[.agg #[.slice A n c]] w fun e w' => e = .returned (.int .i64 (ck l)) ∧ Since w w' := by
  rcases Nat.lt_or_ge n 1 with h | h
  · exact check0 A n c l w hr hln hn1 h
  · rcases Nat.lt_or_ge 16 n with h2 | h2
    · exact check1 A n c l w hr hln hn1 h2
    · exact checkM A n c l w hr hln hn1 h h2 HF
end Go.Proofs.YtchhlgcakjjncaaGreatDoor

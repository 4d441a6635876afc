/-
  The reference of layer 13: Same.
-/
import Derived.Test.YtchhlgcakjjncaaGreatDoorCsh
import Derived.Test.YtchhlgcakjjncaaGreatDoorCw
set_option linter.unusedSimpArgs false
set_option linter.unusedVariables false
set_option maxRecDepth 100000
set_option maxHeartbeats 1600000
namespace Go.Proofs.YtchhlgcakjjncaaGreatDoor
open Go.RowKit
theorem eqm_pt : Tryz.prog.eqGuardType Tryz.prog.depth 110 = false := by kernel_rfl
theorem run_ne_pt (w : World) (x y : Pt) : (binOp .neq 110 (.agg (ptc x).toArray) (.agg (ptc y).toArray)).run Tryz.prog w = .ok (.bool (decide (x ≠ y))) w := by
  obtain ⟨s, n, p, q⟩ := x
  obtain ⟨s', n', p', q'⟩ := y
  unfold ptc
  go_simp
  by_cases e0 : s = s' <;> by_cases e1 : n = n' <;> by_cases e2 : p = p' <;> by_cases e3 : q = q' <;> simp [e0, e1, e2, e3]
theorem exec_nep {f : Operand → Value} {o : Oper} (a b : Operand) (ho : o.op = .binOp .neq 110 a b 110) (x y : Pt) (hx : f a = .agg (ptc x).toArray) (hy : f b = .agg (ptc y).toArray) (c : Bool) (hc : decide (x ≠ y) = c) (X : World) : (execOp f o).run Tryz.prog X = .ok (.value (.bool c)) X :=
  exec_cmp_agg .neq _ _ a b ho _ _ hx hy eqm_pt _ X ((run_ne_pt X x y).trans (by rw [hc]))
end Go.Proofs.YtchhlgcakjjncaaGreatDoor
namespace Go.Proofs.YtchhlgcakjjncaaGreatDoor
open Go.RowKit
theorem same0 (A : Option Addr) (n c : Nat) (l : List Pt) (A' : Option Addr) (n' c' : Nat) (m : List Pt) (w : World) (hr : Rd w 4 (.slice A n c) n (fl ptc l)) (hr' : Rd w 4 (.slice A' n' c') n' (fl ptc m)) (hln : l.length = n) (hlm : m.length = n') (hn1 : n ≤ 9223372036854775807) (hn2 : n' ≤ 9223372036854775807) (h : n ≠ n') : Calls Tryz.prog 48 #[.agg #[.slice A n c], .agg #[.slice A' n' c']] w fun e w' => e = .returned (.bool (decide (l = m))) ∧ Since w w' := by
  have HRX : Hid (∀ X, Since w X → Rd X 4 (.slice A n c) n (fl ptc l)) := fun X h => hr.below h
  have HRY : Hid (∀ X, Since w X → Rd X 4 (.slice A' n' c') n' (fl ptc m)) := fun X h => hr'.below h
  have HLN := Lib.hid hln
  have HLM := Lib.hid hlm
  clear hr hr'
  have HD : Hid (decide (l = m) = false) := decide_eq_false (fun h9 => by rw [h9] at hln; omega)
  go_enter Tryz.func48, Tryz.ntmps48
  go_upto_region 1 with (fail)
  obtain ⟨W0, hW0, hB0, hB1, hb⟩ := start2 w 48 48 [.slice A n c] [.slice A' n' c']
  rw [← hW0]
  clear hW0
  refine jp ?_
  refine jn (.pointer (some ⟨w.heap.size, 0, none⟩)) ?_
  refine jf (.slice A n c) hB0 0 load_pts ?_
  refine jv (.int .i64 (n : Int)) (exec_lenv Tryz.underlying46 _ (by rfl) A n c (by rfl) _ rfl) ?_
  refine jn (.pointer (some ⟨(w.heap.size + 1), 0, none⟩)) ?_
  refine jf (.slice A' n' c') hB1 0 load_pts ?_
  refine jv (.int .i64 (n' : Int)) (exec_lenv Tryz.underlying46 _ (by rfl) A' n' c' (by rfl) _ rfl) ?_
  refine jv (.bool true) (exec_nei _ _ _ _ (by rfl) .i64 (n : Int) (n' : Int) (by rfl) (by rfl) true (by rw [decide_eq_false (by omega)]; rfl)) ?_
  refine jz fun X1 hX1 => ?_
  have hB0 := hB0.bel hX1
  have hB1 := hB1.bel hX1
  have hb := bel_next hb hX1
  clear hX1
  go_upto_region 2 with (fail)
  refine jp ?_
  refine jm (.bool false) ?_
  refine jz fun X2 hX2 => ?_
  have hB0 := hB0.bel hX2
  have hB1 := hB1.bel hX2
  have hb := bel_next hb hX2
  clear hX2
  go_wp2
  go_ret
  exact ⟨by rw [HD.out]; rfl, hb⟩
theorem same1 (A : Option Addr) (n c : Nat) (l : List Pt) (A' : Option Addr) (n' c' : Nat) (m : List Pt) (w : World) (hr : Rd w 4 (.slice A n c) n (fl ptc l)) (hr' : Rd w 4 (.slice A' n' c') n' (fl ptc m)) (hln : l.length = n) (hlm : m.length = n') (hn1 : n ≤ 9223372036854775807) (hn2 : n' ≤ 9223372036854775807) (h : n = n') : Calls Tryz.prog 48 #[.agg #[.slice A n c], .agg #[.slice A' n' c']] w fun e w' => e = .returned (.bool (decide (l = m))) ∧ Since w w' := by
  have HRX : Hid (∀ X, Since w X → Rd X 4 (.slice A n c) n (fl ptc l)) := fun X h => hr.below h
  have HRY : Hid (∀ X, Since w X → Rd X 4 (.slice A' n' c') n' (fl ptc m)) := fun X h => hr'.below h
  have HLN := Lib.hid hln
  have HLM := Lib.hid hlm
  clear hr hr'
  have HH := Lib.hid h
  clear h
  go_enter Tryz.func48, Tryz.ntmps48
  go_upto_region 1 with (fail)
  obtain ⟨W0, hW0, hB0, hB1, hb⟩ := start2 w 48 48 [.slice A n c] [.slice A' n' c']
  rw [← hW0]
  clear hW0
  have h := HH.out
  refine jp ?_
  refine jn (.pointer (some ⟨w.heap.size, 0, none⟩)) ?_
  refine jf (.slice A n c) hB0 0 load_pts ?_
  refine jv (.int .i64 (n : Int)) (exec_lenv Tryz.underlying46 _ (by rfl) A n c (by rfl) _ rfl) ?_
  refine jn (.pointer (some ⟨(w.heap.size + 1), 0, none⟩)) ?_
  refine jf (.slice A' n' c') hB1 0 load_pts ?_
  refine jv (.int .i64 (n' : Int)) (exec_lenv Tryz.underlying46 _ (by rfl) A' n' c' (by rfl) _ rfl) ?_
  refine jv (.bool false) (exec_nei _ _ _ _ (by rfl) .i64 (n : Int) (n' : Int) (by rfl) (by rfl) false (by rw [decide_eq_true (by omega)]; rfl)) ?_
  refine jz fun X1 hX1 => ?_
  have hB0 := hB0.bel hX1
  have hB1 := hB1.bel hX1
  have hb := bel_next hb hX1
  clear hX1
  go_upto_region 3 with (fail)
  refine jp ?_
  refine jm (.int .i64 0) ?_
  refine jz fun X2 hX2 => ?_
  have hB0 := hB0.bel hX2
  have hB1 := hB1.bel hX2
  have hb := bel_next hb hX2
  clear hX2
  go_wp2
  go_loopw [5] (fun kv wr => ∃ k : Nat, k ≤ n ∧ kv = .int .i64 (k : Int) ∧ Hid (∀ j, j < k → pt l j = pt m j) ∧ Blk wr w.heap.size 48 [.slice A n c] ∧ Blk wr (w.heap.size + 1) 48 [.slice A' n' c'] ∧ Below w.heap.size w wr) (fun kv _ => n - (intOf kv).toNat)
  case atStart => exact ⟨0, by omega, rfl, (fun j hj => by omega), hB0, hB1, hb⟩
  case round =>
    clear hB0 hB1 hb
    obtain ⟨k, hk, rfl, HZ, hB0, hB1, hb⟩ := hrel
    rcases Nat.lt_or_ge k n with hlt | hlt
    · obtain ⟨b, off, rfl, hbb, hcx⟩ := (HRX.out _ hb).ptAt HLN.out hlt
      obtain ⟨b2, off2, rfl, hbb2, hcy⟩ := (HRY.out _ hb).ptAt HLM.out (show k < n' by omega)
      obtain ⟨x, hx9⟩ : ∃ x, x = pt l k := ⟨_, rfl⟩
      have HX := Lib.hid hx9
      clear hx9
      rw [← HX.out] at hcx
      obtain ⟨y, hy9⟩ : ∃ y, y = pt m k := ⟨_, rfl⟩
      have HY := Lib.hid hy9
      clear hy9
      rw [← HY.out] at hcy
      go_upto_region 4 with (fail)
      refine jp ?_
      refine jm (.int .i64 (k : Int)) ?_
      refine jn (.pointer (some ⟨w.heap.size, 0, none⟩)) ?_
      refine jf (.slice (some ⟨b, off, none⟩) n c) hB0 0 load_pts ?_
      refine jv (.int .i64 (n : Int)) (exec_lenv Tryz.underlying46 _ (by rfl) (some ⟨b, off, none⟩) n c (by rfl) _ rfl) ?_
      refine jv (.bool true) (exec_lss _ _ _ _ (by rfl) .i64 (k : Int) (n : Int) (by rfl) (by rfl) true (decide_eq_true (by omega))) ?_
      refine jz fun X1 hX1 => ?_
      have hB0 := hB0.bel hX1
      have hB1 := hB1.bel hX1
      have hcx := hcx.below hX1 hbb
      have hcy := hcy.below hX1 hbb2
      replace hbb := Nat.lt_of_lt_of_le hbb (hX1).size
      replace hbb2 := Nat.lt_of_lt_of_le hbb2 (hX1).size
      have hb := bel_next hb hX1
      clear hX1
      by_cases hxy : x = y
      · have HC : Hid (decide (x ≠ y) = false) := decide_eq_false (fun h9 => h9 hxy)
        have HZ2 : Hid (∀ j, j < k + 1 → pt l j = pt m j) := fun j hj => by
          rcases Nat.lt_or_ge j k with h9 | h9
          · exact HZ.out j h9
          · rw [show j = k by omega, ← HX.out, ← HY.out]; exact hxy
        go_upto_region 6 with (fail)
        refine jd ?_
        refine jn (.pointer (some ⟨w.heap.size, 0, none⟩)) ?_
        refine jf (.slice (some ⟨b, off, none⟩) n c) hB0 0 load_pts ?_
        refine jm (.int .i64 (k : Int)) ?_
        refine jv (.pointer (some ⟨b, off + k * 4, none⟩)) (exec_ixv Tryz.underlying46 info_pt _ _ (by rfl) b (off) n c k hlt (by rfl) (by rfl) rfl) ?_
        refine jg (.agg #[.int .i64 x.1, .bool x.2.1, st x.2.2.1, st x.2.2.2]) (fun X hX hF => exec_ldc 110 _ (by rfl) b (off + k * 4) (by rfl) Tryz.underlying110 rfl [.int .i64 x.1, .bool x.2.1, .string ⟨x.2.2.1.toArray⟩, .string ⟨x.2.2.2.toArray⟩] X (Cl.part (hcx.below hX hbb) 0 _ (by rfl)) info_pt) ?_
        refine jn (.pointer (some ⟨(w.heap.size + 1), 0, none⟩)) ?_
        refine jf (.slice (some ⟨b2, off2, none⟩) n' c') hB1 0 load_pts ?_
        refine jm (.int .i64 (k : Int)) ?_
        refine jv (.pointer (some ⟨b2, off2 + k * 4, none⟩)) (exec_ixv Tryz.underlying46 info_pt _ _ (by rfl) b2 (off2) n' c' k (by omega) (by rfl) (by rfl) rfl) ?_
        refine jg (.agg #[.int .i64 y.1, .bool y.2.1, st y.2.2.1, st y.2.2.2]) (fun X hX hF => exec_ldc 110 _ (by rfl) b2 (off2 + k * 4) (by rfl) Tryz.underlying110 rfl [.int .i64 y.1, .bool y.2.1, .string ⟨y.2.2.1.toArray⟩, .string ⟨y.2.2.2.toArray⟩] X (Cl.part (hcy.below hX hbb2) 0 _ (by rfl)) info_pt) ?_
        refine jv (.bool false) (exec_nep _ _ (by rfl) x y (by rfl) (by rfl) false HC.out) ?_
        refine jz fun X2 hX2 => ?_
        have hB0 := hB0.bel hX2
        have hB1 := hB1.bel hX2
        have hcx := hcx.below hX2 hbb
        have hcy := hcy.below hX2 hbb2
        replace hbb := Nat.lt_of_lt_of_le hbb (hX2).size
        replace hbb2 := Nat.lt_of_lt_of_le hbb2 (hX2).size
        have hb := bel_next hb hX2
        clear hX2
        go_upto_region 5 with (fail)
        refine jp ?_
        refine jm (.int .i64 (k : Int)) ?_
        refine jv (.int .i64 ((k + 1 : Nat) : Int)) (exec_add _ _ _ _ (by rfl) (k : Int) 1 ((k + 1 : Nat) : Int) (by rfl) (by rfl) (by omega) (by omega) (by omega)) ?_
        refine jm (.int .i64 ((k + 1 : Nat) : Int)) ?_
        refine jz fun X3 hX3 => ?_
        have hB0 := hB0.bel hX3
        have hB1 := hB1.bel hX3
        have hcx := hcx.below hX3 hbb
        have hcy := hcy.below hX3 hbb2
        replace hbb := Nat.lt_of_lt_of_le hbb (hX3).size
        replace hbb2 := Nat.lt_of_lt_of_le hbb2 (hX3).size
        have hb := bel_next hb hX3
        clear hX3
        go_wp2
        go_roundw
        case rel => exact ⟨k + 1, by omega, rfl, HZ2, hB0, hB1, hb⟩
        case measure => simp [intOf]; omega
      · have HC : Hid (decide (x ≠ y) = true) := decide_eq_true hxy
        have HD : Hid (decide (l = m) = false) := decide_eq_false (fun h9 => hxy (by rw [HX.out, HY.out, h9]))
        go_upto_region 6 with (fail)
        refine jd ?_
        refine jn (.pointer (some ⟨w.heap.size, 0, none⟩)) ?_
        refine jf (.slice (some ⟨b, off, none⟩) n c) hB0 0 load_pts ?_
        refine jm (.int .i64 (k : Int)) ?_
        refine jv (.pointer (some ⟨b, off + k * 4, none⟩)) (exec_ixv Tryz.underlying46 info_pt _ _ (by rfl) b (off) n c k hlt (by rfl) (by rfl) rfl) ?_
        refine jg (.agg #[.int .i64 x.1, .bool x.2.1, st x.2.2.1, st x.2.2.2]) (fun X hX hF => exec_ldc 110 _ (by rfl) b (off + k * 4) (by rfl) Tryz.underlying110 rfl [.int .i64 x.1, .bool x.2.1, .string ⟨x.2.2.1.toArray⟩, .string ⟨x.2.2.2.toArray⟩] X (Cl.part (hcx.below hX hbb) 0 _ (by rfl)) info_pt) ?_
        refine jn (.pointer (some ⟨(w.heap.size + 1), 0, none⟩)) ?_
        refine jf (.slice (some ⟨b2, off2, none⟩) n' c') hB1 0 load_pts ?_
        refine jm (.int .i64 (k : Int)) ?_
        refine jv (.pointer (some ⟨b2, off2 + k * 4, none⟩)) (exec_ixv Tryz.underlying46 info_pt _ _ (by rfl) b2 (off2) n' c' k (by omega) (by rfl) (by rfl) rfl) ?_
        refine jg (.agg #[.int .i64 y.1, .bool y.2.1, st y.2.2.1, st y.2.2.2]) (fun X hX hF => exec_ldc 110 _ (by rfl) b2 (off2 + k * 4) (by rfl) Tryz.underlying110 rfl [.int .i64 y.1, .bool y.2.1, .string ⟨y.2.2.1.toArray⟩, .string ⟨y.2.2.2.toArray⟩] X (Cl.part (hcy.below hX hbb2) 0 _ (by rfl)) info_pt) ?_
        refine jv (.bool true) (exec_nep _ _ (by rfl) x y (by rfl) (by rfl) true HC.out) ?_
        refine jz fun X2 hX2 => ?_
        have hB0 := hB0.bel hX2
        have hB1 := hB1.bel hX2
        have hcx := hcx.below hX2 hbb
        have hcy := hcy.below hX2 hbb2
        replace hbb := Nat.lt_of_lt_of_le hbb (hX2).size
        replace hbb2 := Nat.lt_of_lt_of_le hbb2 (hX2).size
        have hb := bel_next hb hX2
        clear hX2
        go_upto_region 7 with (fail)
        refine jp ?_
        refine jm (.bool false) ?_
        refine jz fun X3 hX3 => ?_
        have hB0 := hB0.bel hX3
        have hB1 := hB1.bel hX3
        have hcx := hcx.below hX3 hbb
        have hcy := hcy.below hX3 hbb2
        replace hbb := Nat.lt_of_lt_of_le hbb (hX3).size
        replace hbb2 := Nat.lt_of_lt_of_le hbb2 (hX3).size
        have hb := bel_next hb hX3
        clear hX3
        go_wp2
        go_ret
        exact ⟨by rw [HD.out]; rfl, hb⟩
    · obtain rfl : k = n := by omega
      have HD : Hid (decide (l = m) = true) := decide_eq_true (List.ext_getElem (by rw [HLN.out, HLM.out]; exact h) fun i h1 h2 => by rw [← pt_get h1, ← pt_get h2]; exact HZ.out i (by rw [← HLN.out]; exact h1))
      go_upto_region 4 with (fail)
      refine jp ?_
      refine jm (.int .i64 (k : Int)) ?_
      refine jn (.pointer (some ⟨w.heap.size, 0, none⟩)) ?_
      refine jf (.slice A k c) hB0 0 load_pts ?_
      refine jv (.int .i64 (k : Int)) (exec_lenv Tryz.underlying46 _ (by rfl) A k c (by rfl) _ rfl) ?_
      refine jv (.bool false) (exec_lss _ _ _ _ (by rfl) .i64 (k : Int) (k : Int) (by rfl) (by rfl) false (decide_eq_false (by omega))) ?_
      refine jz fun X1 hX1 => ?_
      have hB0 := hB0.bel hX1
      have hB1 := hB1.bel hX1
      have hb := bel_next hb hX1
      clear hX1
      go_upto_region 8 with (fail)
      refine jp ?_
      refine jm (.bool true) ?_
      refine jz fun X2 hX2 => ?_
      have hB0 := hB0.bel hX2
      have hB1 := hB1.bel hX2
      have hb := bel_next hb hX2
      clear hX2
      go_wp2
      go_ret
      exact ⟨by rw [HD.out]; rfl, hb⟩
theorem sameC (A : Option Addr) (n c : Nat) (l : List Pt) (A' : Option Addr) (n' c' : Nat) (m : List Pt) (w : World) (hr : Rd w 4 (.slice A n c) n (fl ptc l)) (hr' : Rd w 4 (.slice A' n' c') n' (fl ptc m)) (hln : l.length = n) (hlm : m.length = n') (hn1 : n ≤ 9223372036854775807) (hn2 : n' ≤ 9223372036854775807) : Calls Tryz.prog 48 #[.agg #[.slice A n c], .agg #[.slice A' n' c']] w fun e w' => e = .returned (.bool (decide (l = m))) ∧ Since w w' := by
  by_cases h : n = n'
  · exact same1 A n c l A' n' c' m w hr hr' hln hlm hn1 hn2 h
  · exact same0 A n c l A' n' c' m w hr hr' hln hlm hn1 hn2 h
end Go.Proofs.YtchhlgcakjjncaaGreatDoor
